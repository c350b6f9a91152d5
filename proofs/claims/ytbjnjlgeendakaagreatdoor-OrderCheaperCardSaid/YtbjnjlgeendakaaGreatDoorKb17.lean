/- Part of the proof: packer.best; Packs.. Type assertions at closed types.. Strings: what operations on them give, a range over one; a call of an interface's method; more of numbers.. -/
import Derived.Test.YtbjnjlgeendakaaGreatDoorKb16
import Derived.Test.YtbjnjlgeendakaaGreatDoorKb3
import Derived.Test.YtbjnjlgeendakaaGreatDoorKb5
import Derived.Lib.OthersKept
import Derived.Lib.SplitLaws
set_option linter.unusedVariables false
set_option maxRecDepth 100000
set_option maxHeartbeats 8000000
set_option linter.unusedSimpArgs false
namespace Go.Proofs.NV
open Go.RowKit Go.Shelf
attribute [local irreducible] bodyPost bodyPostM wpQuiet
def bumpP (ks : List Pack) (i : Nat) (r : Packed) : Packed := ⟨r.list.set i (r.list[i]?.getD 0 + 1), r.price + ((ks[i]?).map (·.price)).getD 0⟩
def holdsAt (ks : List Pack) (i : Nat) : Int := ((ks[i]?).map (·.holds)).getD 0
def packF (ks : List Pack) : Nat → Int → Packed
 | 0, _ => ⟨List.replicate ks.length 0, 0⟩
 | f + 1, p => if p ≤ 0 then ⟨List.replicate ks.length 0, 0⟩ else (bestL betterP ((List.range ks.length).map fun i => bumpP ks i (packF ks f (p - holdsAt ks i)))).getD ⟨List.replicate ks.length 0, 0⟩
def packL (ks : List Pack) (p : Int) : Packed := packF ks p.toNat p
structure PacksOk (ks : List Pack) : Prop where
 len : 1 ≤ ks.length ∧ ks.length ≤ 4
 each : ∀ k ∈ ks, (1 ≤ k.holds ∧ k.holds ≤ 144) ∧ 0 ≤ k.price ∧ k.price ≤ 1000
theorem PacksOk.at {ks : List Pack} (h : PacksOk ks) {i : Nat} (hi : i < ks.length) : (1 ≤ holdsAt ks i ∧ holdsAt ks i ≤ 144) ∧ 0 ≤ ((ks[i]?).map (·.price)).getD 0 ∧ ((ks[i]?).map (·.price)).getD 0 ≤ 1000 := by
 have := h.each _ (List.getElem_mem hi)
 unfold holdsAt
 rw [List.getElem?_eq_getElem hi]
 exact this
theorem packF_stable {ks : List Pack} (hk : PacksOk ks) : ∀ f p, p.toNat ≤ f → packF ks f p = packF ks p.toNat p := by
 have key : ∀ f g p, p.toNat ≤ f → p.toNat ≤ g → packF ks f p = packF ks g p := by
  intro f
  induction f with
  | zero =>
   intro g p hf hg
   cases g with
   | zero => rfl
   | succ g => rw [packF, packF, if_pos (by omega)]
  | succ f ih =>
   intro g p hf hg
   cases g with
   | zero => rw [packF, packF, if_pos (by omega)]
   | succ g =>
    rw [packF, packF]
    split
    ·rfl
    ·congr 2
     refine List.map_congr_left fun i hi => ?_
     rw [List.mem_range] at hi
     have := (hk.at hi).1
     rw [ih g _ (by omega) (by omega)]
 exact fun f p h => key f _ p h (Nat.le_refl _)
theorem packL_pos {ks : List Pack} (hk : PacksOk ks) {p : Int} (hp : 0 < p) : packL ks p = (bestL betterP ((List.range ks.length).map fun i => bumpP ks i (packL ks (p - holdsAt ks i)))).getD ⟨List.replicate ks.length 0, 0⟩ := by
 unfold packL
 obtain ⟨f, hf⟩ : ∃ f, p.toNat = f + 1 := ⟨p.toNat - 1, by omega⟩
 rw [hf, packF, if_neg (by omega)]
 congr 2
 refine List.map_congr_left fun i hi => ?_
 rw [List.mem_range] at hi
 have := (hk.at hi).1
 rw [packF_stable hk f _ (by omega)]
theorem packL_zero {ks : List Pack} {p : Int} (hp : p ≤ 0) : packL ks p = ⟨List.replicate ks.length 0, 0⟩ := by
 unfold packL
 cases p.toNat with
 | zero => rfl
 | succ f => rw [packF, if_pos hp]
structure PackFine (ks : List Pack) (m : Int) (q : Packed) : Prop where
 len : q.list.length = ks.length
 each : ∀ x ∈ q.list, 0 ≤ x ∧ x ≤ m
 price : 0 ≤ q.price ∧ q.price ≤ 1000 * m
theorem PackFine.mono {ks : List Pack} {m m' : Int} {q : Packed} (h : PackFine ks m q) (hm : m ≤ m') : PackFine ks m' q := ⟨h.len, fun x hx => by have := h.each x hx; omega, by have := h.price; omega⟩
theorem PackFine.zero (ks : List Pack) {m : Int} (hm : 0 ≤ m) : PackFine ks m ⟨List.replicate ks.length 0, 0⟩ := ⟨by simp, fun x hx => by rw [List.eq_of_mem_replicate hx]; omega, by simp; omega⟩
theorem PackFine.bump {ks : List Pack} (hk : PacksOk ks) {m : Int} {q : Packed} (h : PackFine ks m q) {i : Nat} (hi : i < ks.length) (hm : 0 ≤ m) : PackFine ks (m + 1) (bumpP ks i q) := by
 have hp := (hk.at hi).2
 have hq := h.price
 refine ⟨by unfold bumpP; simp [h.len], fun x hx => ?_, ?_⟩
 ·unfold bumpP at hx
  rcases List.mem_or_eq_of_mem_set hx with hx | hx
  ·have := h.each x hx; omega
  ·rw [List.getElem?_eq_getElem (by rw [h.len]; exact hi)] at hx
   have := h.each _ (List.getElem_mem (show i < q.list.length by rw [h.len]; exact hi))
   simp only [Option.getD_some] at hx
   omega
 ·unfold bumpP
  simp only
  omega
theorem packF_fine {ks : List Pack} (hk : PacksOk ks) : ∀ (f : Nat) (p : Int), PackFine ks (f : Int) (packF ks f p)
 | 0, p => PackFine.zero ks (by omega)
 | f + 1, p => by
  rw [packF]
  split
  ·exact PackFine.zero ks (by omega)
  ·cases hb : bestL betterP ((List.range ks.length).map fun i => bumpP ks i (packF ks f (p - holdsAt ks i))) with
   | none => exact PackFine.zero ks (by omega)
   | some o =>
    rw [Option.getD_some]
    obtain ⟨i, hi, rfl⟩ := List.mem_map.1 (bestL_mem hb)
    rw [List.mem_range] at hi
    have := (packF_fine hk f (p - holdsAt ks i)).bump hk hi (by omega)
    exact this
theorem packL_fine {ks : List Pack} (hk : PacksOk ks) (p : Int) (hp : p ≤ 600) : PackFine ks 600 (packL ks p) := (packF_fine hk p.toNat p).mono (by omega)
def PM (w : World) (S : Nat → Prop) (kb : Nat) (ks : List Pack) (F : Int → Option Value) : Prop := MapIs Tryz.prog w kb F ∧ ∀ a v, 1 ≤ a ∧ a ≤ 600 → F a = some v → ∃ cs, v = .agg cs.toArray ∧ packedT.rep w S (packL ks a) cs
namespace PM
variable {w w' : World} {S S' : Nat → Prop} {kb : Nat} {ks : List Pack} {F : Int → Option Value}
theorem step {row : Option Nat} (h : PM w S kb ks F) (g : w.grownBy w' row) (hb : some kb ≠ row) (hS : ∀ k, S k → some k ≠ row) : PM w' S kb ks F :=
 ⟨h.1.step g hb, fun a v ha hf => by obtain ⟨cs, h1, h2⟩ := h.2 a v ha hf; exact ⟨cs, h1, packedT.step h2 g hS⟩⟩
theorem step0 (h : PM w S kb ks F) (g : w.grownBy w' none) : PM w' S kb ks F := h.step g (by simp) (fun _ _ => by simp)
theorem mono (h : PM w S kb ks F) (hS : ∀ k, S k → S' k) : PM w S' kb ks F := ⟨h.1, fun a v ha hf => by obtain ⟨cs, h1, h2⟩ := h.2 a v ha hf; exact ⟨cs, h1, packedT.hmono hS h2⟩⟩
theorem bound (h : PM w S kb ks F) : PM w (fun k => S k ∧ IsC w k) kb ks F := ⟨h.1, fun a v ha hf => by obtain ⟨cs, h1, h2⟩ := h.2 a v ha hf; exact ⟨cs, h1, packedT.hbound h2⟩⟩
end PM
theorem grown_own' {w W W' : World} {row : Option Nat} {b : Nat} (h : w.grownBy W row) (g : W.grownBy W' (some b)) (hb : w.heap.size ≤ b) : w.grownBy W' row := ⟨g.os.trans h.os, g.tape.trans h.tape, g.output.trans h.output, Nat.le_trans h.size g.size, fun k hk hr => (g.block k (Nat.lt_of_lt_of_le hk h.size) (by simp; omega)).trans (h.block k hk hr)⟩
theorem grown_ownO {w W W' : World} {row o : Option Nat} (h : w.grownBy W row) (g : W.grownBy W' o) (hb : ∀ b, o = some b → w.heap.size ≤ b) : w.grownBy W' row := ⟨g.os.trans h.os, g.tape.trans h.tape, g.output.trans h.output, Nat.le_trans h.size g.size, fun k hk hr => (g.block k (Nat.lt_of_lt_of_le hk h.size) (fun e => by have := hb k e.symm; omega)).trans (h.block k hk hr)⟩
theorem info167 : (Tryz.prog.info? 167).map (fun i => (i.zero, i.size, i.bytes)) = some (some (.agg #[.slice none 0 0, .int .i64 0]), 2, 32) := by kernel_rfl
theorem row_tag {α : Type} {t : Ty α} {e : TypeId} {w : World} {S : Nat → Prop} {v : Value} {xs : List α} (h : t.Row e w S v xs) {k : Nat} (hk : v.ownBlock = some k) : ∃ cs, Blk w k cs e := by
 obtain ⟨_, inner, ⟨_, ho⟩, _⟩ := h
 rcases ho with ⟨rfl, _⟩ | ⟨g, cap, cur, rfl, _, hh, _⟩
 ·simp [Value.ownBlock] at hk
 ·obtain rfl : g = k := by simpa [Value.ownBlock] using hk
  exact ⟨cur.toList, by simpa [Blk] using hh⟩
def CloneIs (base : Nat) (xs : List Int) (cv : Value) (W : World) : Prop := Ty.int.Row 3 W (fun k => cv.ownBlock = some k ∧ base ≤ k) cv xs
theorem CloneIs.step0 {base : Nat} {xs : List Int} {cv : Value} {W W' : World} (h : CloneIs base xs cv W) (g : W.grownBy W' none) : CloneIs base xs cv W' := Ty.Row.step0 h g
theorem CloneIs.off {base : Nat} {xs : List Int} {cv : Value} {W W' : World} (h : CloneIs base xs cv W) {k : Nat} {cs : List Value} (hB : Blk W k cs 167) (g : W.grownBy W' (some k)) : CloneIs base xs cv W' := by
 refine Ty.Row.step h g fun j hj e => ?_
 injection e with e
 subst e
 obtain ⟨cs', hB'⟩ := row_tag h hj.1
 have : (some (Obj.cells cs.toArray 167 (0, 0))) = some (Obj.cells cs'.toArray 3 (0, 0)) := hB.symm.trans hB'
 simp at this
theorem f103_calls (kb : Nat) (ks : List Pack) (kA : Option Addr) (kc : Nat) (hk : PacksOk ks) : ∀ (f : Nat) (p : Int) (S T : Nat → Prop) (F : Int → Option Value) (w : World), p.toNat ≤ f → p ≤ 600 → -1000 ≤ p → packT.Sl w T kA ks → PM w S kb ks F → (∀ k, w.heap.size ≤ k → S k) → (∀ k, S k → k ≠ kb) →
  Calls Tryz.prog 103 #[.agg #[.slice kA ks.length kc, .map (some kb)], I p] w fun e w' => ∃ cs F', e = .returned (.agg cs.toArray) ∧ packedT.rep w' S (packL ks p) cs ∧ PM w' S kb ks F' ∧ (∀ a, p < a → F' a = F a) ∧ w.grownBy w' (some kb) := by
 intro f
 induction f using Nat.strongRecOn with
 | _ f ih =>
  intro p S T F w hf hp hp2 hsl hPM hS hSkb
  refine s_enter (n := 75) (vs := [.agg #[.slice kA ks.length kc, .map (some kb)], I p]) Tryz.func103 rfl rfl rfl ?_
  have G := grown_refl w none
  have hkb := hPM.1.lt
  have hkbC := hPM.1.notC
  replace hsl := hsl.bound
  have hTkb : ∀ k, T k ∧ IsC w k → some k ≠ some kb := fun k hk e => hkbC (by injection e with e; rw [← e]; exact hk.2)
  have hPMb := hPM.bound
  have hn := hk.len
  refine s_rseq fun _ k1 => ?_
  refine o_box (t := 170) rfl ?_; intro w1 B2 g1 z1
  replace G := G.step0 g1
  refine o_alloc (t := 167) ze167 rfl ?_; intro w2 B4 g2 z2
  replace G := G.step0 g2; replace B2 := B2.step0 g2
  refine o_end (k1 _ _ ?_)
  refine s_seq fun _ k2 => ?_
  refine s_rseq fun _ k3 => ?_
  refine o_v v_move ?_
  refine o_v (v_leq rfl rfl) ?_
  refine o_end (k3 _ _ ?_)
  refine s_ifd rfl (fun c3 => ?_) (fun c3 => ?_)
  ·refine s_rseq fun _ k4 => ?_
   refine o_v (v_field rfl fld170_0) ?_
   refine o_v (v_loadB rfl sc74 B2 rfl) ?_
   refine o_v (v_len rfl Tryz.underlying74) ?_
   refine o_make (t := Ty.int) (S := fun j => w2.heap.size ≤ j) (xs := List.replicate ks.length 0) (m := ks.length) (cs := List.replicate ks.length (I 0)) rfl rfl Tryz.underlying56 info3 (by rw [show ks.length * Ty.int.sz = ks.length from Nat.mul_one _]; exact toList_madeCells_one _ _) (fun _ _ => reps_zeros _) (List.length_replicate) (by omega) (by omega) (fun _ h => h) ?_
   intro wM hrow gM zM
   obtain ⟨mA, mc, hme, hm1, hm2, hm3⟩ := hrow.reads
   rw [List.length_replicate] at hme hm1
   obtain ⟨rfl, rfl⟩ : some ⟨w2.heap.size, 0, none⟩ = mA ∧ ks.length = mc := by simpa using hme
   refine o_v (v_build rfl (fun W => bld167_01 W)) ?_
   refine o_storeB (vs := [.slice (some ⟨w2.heap.size, 0, none⟩) ks.length ks.length, I 0]) rfl rfl sz167 rfl (B4.step0 gM) rfl rfl ?_; intro w3 B4 g3 z3
   replace B4 : Blk w3 w1.heap.size [.slice (some ⟨w2.heap.size, 0, none⟩) ks.length ks.length, I 0] 167 := B4
   refine o_end (k4 _ _ ?_)
   refine s_ret (postR (res_c rfl rfl (run_loadVar_ag ag167 B4 rfl)) ?_)
   refine ⟨_, F, rfl, ?_, ?_, fun _ _ => rfl, grown_weak (grown_own (G.step0 gM) g3 (by omega))⟩
   ·rw [packL_zero c3]
    exact packedT_iff.2 ⟨_, _, by rw [List.length_replicate], by rw [List.length_replicate]; exact hm1, hm2, (hm3.step g3 (fun k hk e => by injection e; omega)).mono fun k hk => hS k (by omega)⟩
   ·exact ((hPMb.step0 (G.step0 gM)).step g3 (by simp; omega) (fun k hk e => by injection e with e; have := hk.2.lt; omega)).mono fun k hk => hk.1
  ·have hlk : ∃ lc : List Value, (F p).getD (.agg #[.slice none 0 0, .int .i64 0]) = .agg lc.toArray ∧ lc.length = 2 ∧ lc.all (·.oneCell') = true ∧ ((F p).isSome = true → packedT.rep w (fun k => S k ∧ IsC w k) (packL ks p) lc) := by
    cases hF : F p with
    | none => exact ⟨zeroPacked, rfl, rfl, rfl, fun h => by cases h⟩
    | some v =>
     obtain ⟨cs, rfl, hr⟩ := hPMb.2 p v (by omega) hF
     exact ⟨cs, rfl, (packed_two hr).1, (packed_two hr).2, fun _ => hr⟩
   obtain ⟨lc, hlc, hl2, hl1, hlr⟩ := hlk
   have hPM2 := hPMb.step0 G
   refine s_skip ?_
   refine k2 _ _ ?_
   refine s_seq fun _ k5 => ?_
   refine s_rseq fun _ k6 => ?_
   refine o_v (v_field rfl fld170_1) ?_
   refine o_v (v_loadB rfl sc168 B2 rfl) ?_
   refine o_v v_move ?_
   refine o_v (v_lookup rfl rfl hPM2.1 Tryz.underlying3 Tryz.underlying168 ze167 (by omega)) ?_
   rw [hlc]
   refine o_v v_move ?_
   refine o_v (v_extract rfl rfl) ?_
   refine o_v (v_extract rfl rfl) ?_
   refine o_allocst (vs := lc) ze167 rfl rfl rfl sz167 hl2 rfl hl1 ?_; intro w4 B5 g4 z4
   replace G := G.step0 g4; replace B2 := B2.step0 g4; replace B4 := B4.step0 g4
   refine o_v v_assign ?_
   refine o_end (k6 _ _ ?_)
   refine s_rseq fun _ k7 => ?_
   refine o_v v_move ?_
   refine o_end (k7 _ _ ?_)
   refine s_if rfl (fun c7 => ?_) (fun c7 => ?_)
   ·refine s_rseq fun _ k8 => ?_
    refine o_v (v_loadBS (vs := lc) rfl ag167 B5 (by rw [List.drop_zero, List.take_of_length_le (by rw [hl2]; decide)]) hl2) ?_
    refine o_storeB (vs := lc) rfl rfl sz167 hl2 B4 (by rw [hl2]; rfl) hl1 ?_; intro w5 B4 g5 z5
    rw [over_all (by rw [hl2]; rfl)] at B4
    refine o_end (k8 _ _ ?_)
    refine s_ret (postR (res_c rfl rfl (run_loadVar_ag ag167 B4 hl2)) ?_)
    have hne : ∀ k, S k ∧ IsC w k → some k ≠ some w1.heap.size := fun k hk e => by injection e with e; have := hk.2.lt; omega
    exact ⟨lc, F, rfl, packedT.hmono (fun k hk => hk.1) (packedT.step (packedT.step0 (hlr c7) G) g5 hne), ((hPMb.step0 G).step g5 (by simp; omega) hne).mono fun k hk => hk.1, fun _ _ => rfl, grown_weak (grown_own G g5 (by omega))⟩
   ·have hFp : F p = none := by
     cases hF : F p with
     | none => rfl
     | some v => rw [hF] at c7; cases c7
    have hPM4 := hPMb.step0 G
    have G4 := G; have B24 := B2; have B44 := B4
    obtain ⟨xsTo, hxsTo⟩ : ∃ xsTo : Nat → List Packed, xsTo = fun i => (List.range i).map fun i => bumpP ks i (packL ks (p - holdsAt ks i)) := ⟨_, rfl⟩
    have hxs0 : xsTo 0 = [] := by rw [hxsTo]; rfl
    have hxss : ∀ i, xsTo (i + 1) = xsTo i ++ [bumpP ks i (packL ks (p - holdsAt ks i))] := fun i => by rw [hxsTo]; simp only [List.range_succ, List.map_append]; rfl
    have hxsl : ∀ i, (xsTo i).length = i := fun i => by rw [hxsTo]; simp
    refine s_skip ?_
    refine k5 _ _ ?_
    refine s_rseq fun _ k9 => ?_
    refine o_v v_assign ?_
    refine o_end (k9 _ _ ?_)
    refine s_seq fun _ k10 => ?_
    refine s_rseq fun _ k11 => ?_
    refine o_v (v_field rfl fld170_0) ?_
    refine o_v (v_loadB rfl sc74 B2 rfl) ?_
    refine o_v (v_len rfl Tryz.underlying74) ?_
    refine o_v v_move ?_
    refine o_end (k11 _ _ ?_)
    refine s_block ?_
    refine s_loop (G := Nat × Value) (fun g => [(7, g.2), (33, I g.1)]) [7, 33] [8, 9, 10, 11, 34, 35, 36, 37, 38, 39, 40, 41, 42, 43, 44, 45, 46, 47, 48, 49, 50, 51, 52, 53, 54, 55, 56, 57, 58, 59, 60, 61, 62, 63, 64] (fun g W => (g.1 ≤ ks.length ∧ packedT.Row 167 W (fun k => w4.heap.size ≤ k) g.2 (xsTo g.1) ∧ ∃ F', PM W (fun k => (S k ∧ k ≠ w1.heap.size) ∧ g.2.ownBlock ≠ some k) kb ks F' ∧ ∀ a, p ≤ a → F' a = F a) ∧ w4.grownBy W (some kb)) (fun g => ks.length - g.1) (fun _ => rfl) (0, .slice none 0 0) ⟨rfl, rfl, trivial⟩ ⟨⟨Nat.zero_le _, by rw [hxs0]; exact Ty.Row.nil _ _ _ _, F, hPM4.mono fun k hk => ⟨⟨hk.1, by have := hk.2.lt; omega⟩, by simp [Value.ownBlock]⟩, fun _ _ => rfl⟩, grown_refl _ _⟩ ?_
    rintro ⟨g, out⟩ jv w6 ⟨⟨hg, hrow, F6, hPM6, hF6⟩, g6⟩
    simp only at hg hrow hPM6 ⊢
    have G6 : w.grownBy w6 (some kb) := World.grownBy.trans (grown_weak G4) g6
    replace B2 := B24.step g6 (by simp; omega); replace B4 := B44.step g6 (by simp; omega)
    refine s_rseq fun _ k12 => ?_
    refine o_v (v_lss rfl rfl) ?_
    refine o_end (k12 _ _ ?_)
    refine s_seq fun _ k13 => ?_
    refine s_ifd rfl (fun c13 => ?_) (fun c13 => ?_)
    ·have hlt : g < ks.length := by omega
     obtain ⟨bk, ok, ck, rfl, _, hrepk, hrgk⟩ := (hsl.step G6 hTkb).get g hlt
     obtain rfl : ck = ks[g].cells := hrepk
     rw [show packT.sz = 2 from rfl] at hrgk
     have hkat := hk.at hlt
     obtain ⟨kk, hkk⟩ : ∃ kk, kk = ks[g] := ⟨_, rfl⟩
     have hkh : holdsAt ks g = kk.holds := by unfold holdsAt; rw [List.getElem?_eq_getElem hlt, hkk]; rfl
     have hkp : ((ks[g]?).map (·.price)).getD 0 = kk.price := by rw [List.getElem?_eq_getElem hlt, hkk]; rfl
     rw [hkh, hkp] at hkat
     rw [← hkk] at hrgk
     have hown6 : ∀ k, out.ownBlock = some k → k < w6.heap.size := fun k hk => by obtain ⟨_, inner, ho, _⟩ := hrow; exact Ty.own_lt ho k hk
     have hge6 : ∀ k, out.ownBlock = some k → w4.heap.size ≤ k := fun k hk => hrow.1 k hk
     obtain ⟨p1, hp1⟩ : ∃ p1, p1 = p - kk.holds := ⟨_, rfl⟩
     have hfin := packL_fine hk p1 (by omega)
     have hfp := hfin.price
     refine s_skip ?_
     refine k13 _ _ ?_
     refine s_seq fun _ k14 => ?_
     refine s_block ?_
     refine s_rseq fun _ k15 => ?_
     refine o_v v_move ?_
     refine o_v (v_index rfl rfl slt74 (by omega)) ?_
     refine o_v (v_loadR rfl ag164 hrgk rfl) ?_
     refine o_allocst1 ze164 rfl rfl rfl sz164 rfl rfl rfl ?_; intro w7 B9 g7 z7
     replace B2 := B2.step0 g7; replace B4 := B4.step0 g7; replace hrow := hrow.step0 g7; replace hPM6 := hPM6.step0 g7; have G67 : w.grownBy w7 (some kb) := World.grownBy.trans G6 (grown_weak g7)
     refine o_end (k15 _ _ ?_)
     refine s_rseq fun _ k16 => ?_
     refine o_v (v_loadBS rfl ag170 B2 rfl rfl) ?_
     refine o_v v_move ?_
     refine o_v (v_field rfl fld164_0) ?_
     refine o_v (v_loadB rfl sc3 B9 rfl) ?_
     refine o_v (v_sub rfl rfl (by omega)) ?_
     rw [← hp1]
     refine o_call rfl rfl ent103 (ih p1.toNat (by omega) p1 (fun k => (S k ∧ k ≠ w1.heap.size) ∧ out.ownBlock ≠ some k) _ F6 w7 (Nat.le_refl _) (by omega) (by omega) (hsl.step G67 hTkb) hPM6 (fun k hk => ⟨⟨hS k (by have := G67.size; omega), by have := g4.size; have := g6.size; have := g7.size; omega⟩, fun e => by have := hown6 k e; have := g7.size; omega⟩) (fun k hk => hSkb k hk.1.1)) ?_
     rintro _ w8 ⟨rcs, F8, rfl, hr, hPM8, hF8, g8⟩; refine ⟨_, rfl, ?_⟩
     obtain ⟨rA, rc, rfl, hr1, hr2, hr3⟩ := packedT_iff.1 hr
     replace B2 := B2.step g8 (by simp; omega); replace B4 := B4.step g8 (by simp; omega); replace B9 := B9.step g8 (by have := g6.size; simp; omega)
     replace hrow := hrow.step g8 (fun k hk e => by injection e; omega)
     refine o_allocst (vs := [.slice rA (packL ks p1).list.length rc, I (packL ks p1).price]) ze167 rfl rfl rfl sz167 rfl rfl rfl ?_; intro w9 B10 g9 z9
     replace B2 := B2.step0 g9; replace B4 := B4.step0 g9; replace B9 := B9.step0 g9; replace hrow := hrow.step0 g9; replace hr3 := hr3.step0 g9
     refine o_end (k16 _ _ ?_)
     refine s_seq fun _ k17 => ?_
     refine s_anyU 11 [44, 45, 46, 47, 48, 49, 50, 51, 52, 11] [[], [(0, some 44)], [(1, some 45)], [], [(3, some 47)], [], [(5, some 49)], [(4, some 48), (6, some 50)], [(2, some 46), (7, some 51)], [], [(9, some 11), (8, some 52)]]
      [(20, some 11), (10, none)] (fun W => w9.grownBy W none) (fun k W W' => if k = 10 then ∃ b0, w9.heap.size ≤ b0 ∧ W.grownBy W' (some b0) else W.grownBy W' none) [(2, 10), (8, 10), (9, 10)]
      [([], fun _ v _ => v = .pointer (some ⟨w8.heap.size, 0 + 0, none⟩)),
       ([], fun _ v _ => v = .slice rA (packL ks p1).list.length rc),
       ([], fun _ v W => CloneIs w9.heap.size (packL ks p1).list v W),
       ([], fun _ v _ => v = .pointer (some ⟨w8.heap.size, 0 + 1, none⟩)),
       ([], fun _ v _ => v = I (packL ks p1).price),
       ([], fun _ v _ => v = .pointer (some ⟨w6.heap.size, 0 + 1, none⟩)),
       ([], fun _ v _ => v = I kk.price),
       ([], fun _ v _ => v = I ((packL ks p1).price + kk.price)),
       ([], fun _ v W => ∃ cv : Value, v = .agg #[cv, I ((packL ks p1).price + kk.price)] ∧ CloneIs w9.heap.size (packL ks p1).list cv W),
       ([], fun _ v W => ∃ k, v = ptr k ∧ w9.heap.size ≤ k ∧ Blk W k zeroPacked 167),
       ([11], fun vs _ W => ∃ (k : Nat) (cv : Value), vs = [ptr k] ∧ w9.heap.size ≤ k ∧ Blk W k [cv, I ((packL ks p1).price + kk.price)] 167 ∧ CloneIs w9.heap.size (packL ks p1).list cv W),
       ([], fun _ _ _ => True),
       ([], fun _ _ _ => True),
       ([], fun _ _ _ => True),
       ([], fun _ _ _ => True),
       ([], fun _ _ _ => True),
       ([], fun _ _ _ => True),
       ([], fun _ _ _ => True),
       ([], fun _ _ _ => True),
       ([], fun _ _ _ => True),
       ([], fun _ v _ => ∃ k, v = ptr k ∧ w9.heap.size ≤ k),
       ([], fun _ _ _ => True)]
      mixed (by kernel_rfl) (by kernel_rfl) (by kernel_rfl) (by kernel_rfl) (by kernel_rfl) g0_drawn ?_ ?_ ?_ ?_
     ·intro k W W' hC hS
      by_cases hk : k = 10
      ·simp only [hk, if_true] at hS
       obtain ⟨b0, h0, g0⟩ := hS
       exact grown_own hC g0 h0
      ·simp only [if_neg hk] at hS
       exact World.grownBy.trans hC hS
     ·intro i k v W W' vs hik hd p hp h hS
      have hst : k ≠ 10 → W.grownBy W' none := fun hk => by simpa only [if_neg hk] using hS
      rcases i with _ | _ | _ | _ | _ | _ | _ | _ | _ | _ | _ | _ | _ | _ | _ | _ | _ | _ | _ | _ | _ | _ | i
      ·cases hp; exact h
      ·cases hp; exact h
      ·cases hp; exact CloneIs.step0 h (hst (by rintro rfl; simp at hd))
      ·cases hp; exact h
      ·cases hp; exact h
      ·cases hp; exact h
      ·cases hp; exact h
      ·cases hp; exact h
      ·cases hp; obtain ⟨cv, h1, h2⟩ := h; exact ⟨cv, h1, h2.step0 (hst (by rintro rfl; simp at hd))⟩
      ·cases hp; obtain ⟨b0, h1, h2, h3⟩ := h; exact ⟨b0, h1, h2, h3.step0 (hst (by rintro rfl; simp at hd))⟩
      ·cases hp; obtain ⟨b0, cv, h1, h2, h3, h4⟩ := h; have hg := hst (fun e => hik e.symm); exact ⟨b0, cv, h1, h2, h3.step0 hg, h4.step0 hg⟩
      ·cases hp; exact h
      ·cases hp; exact h
      ·cases hp; exact h
      ·cases hp; exact h
      ·cases hp; exact h
      ·cases hp; exact h
      ·cases hp; exact h
      ·cases hp; exact h
      ·cases hp; exact h
      ·cases hp; exact h
      ·cases hp; exact h
      ·simp at hp
     ·refine ⟨?_, ?_, ?_, ?_, ?_, ?_, ?_, ?_, ?_, ?_, ?_, trivial⟩
      ·intro jv W hC
       exact o_v (v_field rfl fld167_0) (o_end (opD_done (grown_refl _ _) ⟨rfl, trivial⟩))
      ·rintro jv W hC _ rfl
       exact o_v (v_loadB rfl sc56 (B10.step0 hC) rfl) (o_end (opD_done (grown_refl _ _) ⟨rfl, trivial⟩))
      ·rintro jv W hC _ rfl
       refine o_call rfl rfl ent104 (f104_calls (S := fun k => w9.heap.size ≤ k) rA rc (packL ks p1).list W (hr3.step0 hC) (by rw [hfin.len]; omega) (fun k hk => Nat.le_trans hC.size hk)) ?_
       rintro _ wa ⟨cv, rfl, hcv, _, ga⟩
       exact ⟨_, rfl, o_end (opD_done ga ⟨(hcv.narrow (fun _ _ _ _ _ h => h)).mono fun k hk => ⟨hk, hcv.1 k hk⟩, trivial⟩)⟩
      ·intro jv W hC
       exact o_v (v_field rfl fld167_1) (o_end (opD_done (grown_refl _ _) ⟨rfl, trivial⟩))
      ·rintro jv W hC _ rfl
       exact o_v (v_loadB rfl sc3 (B10.step0 hC) rfl) (o_end (opD_done (grown_refl _ _) ⟨rfl, trivial⟩))
      ·intro jv W hC
       exact o_v (v_field rfl fld164_1) (o_end (opD_done (grown_refl _ _) ⟨rfl, trivial⟩))
      ·rintro jv W hC _ rfl
       exact o_v (v_loadB rfl sc3 (B9.step0 hC) rfl) (o_end (opD_done (grown_refl _ _) ⟨rfl, trivial⟩))
      ·rintro jv W hC _ rfl _ rfl
       exact o_v (v_add rfl rfl (by omega)) (o_end (opD_done (grown_refl _ _) ⟨rfl, trivial⟩))
      ·rintro jv W hC cv hcv _ rfl
       obtain ⟨cA, cc, rfl, _, _, _⟩ := Ty.Row.reads hcv
       exact o_v (v_build rfl (fun W => bld167_01 W)) (o_end (opD_done (grown_refl _ _) ⟨⟨_, rfl, hcv⟩, trivial⟩))
      ·rintro jv W hC
       refine o_alloc (t := 167) ze167 rfl ?_; intro wa Ba ga za
       exact o_end (opD_done ga ⟨⟨_, rfl, hC.size, Ba⟩, ⟨_, rfl, hC.size⟩⟩)
      ·rintro jv W hC _ ⟨b0, rfl, hb0, B0⟩ _ ⟨cv, rfl, hcv⟩
       obtain ⟨cA, cc, rfl, _, _, _⟩ := Ty.Row.reads hcv
       refine o_storeB (vs := [.slice cA (packL ks p1).list.length cc, I ((packL ks p1).price + kk.price)]) rfl rfl sz167 rfl B0 rfl rfl ?_; intro wa Ba ga za
       replace Ba : Blk wa b0 [.slice cA (packL ks p1).list.length cc, I ((packL ks p1).price + kk.price)] 167 := Ba
       exact o_end (opD_none ⟨b0, hb0, ga⟩ ⟨⟨b0, _, rfl, hb0, Ba, hcv.off B0 ga⟩, trivial⟩)
     ·rintro jv w12 g912 _ ⟨b0, rfl, hb0⟩ ⟨b1, cv, hb1, hb2, B11, hcv⟩
      obtain rfl : b1 = b0 := by simpa [rd] using hb1.symm
      refine o_end (k17 _ _ ?_)
      obtain ⟨gcv, ccap, ccs, hcve, hgS, hBcv, hcl, hcc, hput⟩ := Ty.Row.putI hcv g (by rw [hfin.len]; exact hlt)
      subst hcve
      obtain ⟨lo, hlo⟩ : ∃ lo, lo = (packL ks p1).list[g]'(by rw [hfin.len]; exact hlt) := ⟨_, rfl⟩
      have hlob := hfin.each _ (List.getElem_mem (show g < (packL ks p1).list.length by rw [hfin.len]; exact hlt))
      rw [← hlo] at hcc hlob
      have hfl := hfin.len
      refine s_rseq fun _ k18 => ?_
      refine o_v (v_field rfl fld167_0) ?_
      refine o_v (v_loadB rfl sc56 B11 rfl) ?_
      refine o_v v_move ?_
      refine o_v (v_index rfl rfl slt56 (by omega)) ?_
      refine o_v (v_loadC rfl sc3 hcc) ?_
      refine o_v (v_add rfl rfl (by omega)) ?_
      refine o_v (v_index rfl rfl slt56 (by omega)) ?_
      refine o_storeB (vs := [I (lo + 1)]) rfl rfl sz3 rfl hBcv (by rw [Nat.ble_eq]; show 0 + g * 1 + 1 ≤ ccs.length; omega) rfl ?_; intro w13 hBc2 g13 z13
      have hbg : some b1 ≠ some gcv := fun e => by
       injection e with e
       subst e
       have h2 : (some (Obj.cells _ 167 (0, 0))) = some (Obj.cells ccs.toArray 3 (0, 0)) := B11.symm.trans hBcv
       simp at h2
      have hcv13 := hput _ _ hBc2 g13
      replace B11 := B11.step g13 hbg
      have hgcv := hgS.2
      have g913 := grown_own g912 g13 hgcv
      replace hrow := hrow.step0 g913; replace B2 := B2.step0 g913; replace B4 := B4.step0 g913
      refine o_end (k18 _ _ ?_)
      refine s_region ?_
      refine o_v v_move ?_
      refine o_v (v_loadBS rfl ag167 B11 rfl rfl) ?_
      refine o_bslice rfl (fun W => bls207_1 W) ?_; intro w14 B62 g14 z14
      replace B2 := B2.step0 g14; replace B4 := B4.step0 g14; replace hrow := hrow.step0 g14; replace hcv13 := Ty.Row.step0 hcv13 g14
      obtain ⟨nA, nc, hne, hn1, hn2, hn3⟩ := Ty.Row.reads hcv13
      rw [List.length_set] at hne hn1
      obtain ⟨rfl, rfl⟩ : some ⟨gcv, 0, none⟩ = nA ∧ ccap = nc := by simpa using hne
      have hbump : bumpP ks g (packL ks p1) = ⟨(packL ks p1).list.set g (lo + 1), (packL ks p1).price + kk.price⟩ := by
       unfold bumpP
       rw [hkp, List.getElem?_eq_getElem (by rw [hfl]; exact hlt), Option.getD_some, ← hlo]
      have hs69 := g6.size
      have hs79 := g7.size
      have hs89 := g8.size
      have hs99 := g9.size
      have hs913 := g913.size
      have hs14 := g14.size
      refine o_append1 (t := packedT) (p := bumpP ks g (packL ks p1)) rfl rfl hrow B62 Tryz.underlying207 info167 rfl (by
       rw [hbump]
       refine packedT_iff.2 ⟨_, _, by rw [List.length_set], by rw [List.length_set]; exact hn1, hn2, hn3.mono fun k hk => ⟨by have := hk.2; omega, fun e => by have := hown6 k e.symm; have := hk.2; omega⟩⟩) (fun k hk => by omega) (by rw [hxsl]; omega) (by decide) ?_
      intro out' w15 hrow15 g15 hat
      have g814 : w8.grownBy w14 none := World.grownBy.trans (World.grownBy.trans g9 g913) g14
      have hPM14 := (hPM8.step0 g814).bound
      have hkbo : some kb ≠ out.ownBlock := fun e => by have := hge6 kb e.symm; have := G4.size; omega
      have hPM15 := hPM14.step g15 hkbo (fun k hk e => hk.1.2 e.symm)
      have hPM' : PM w15 (fun k => (S k ∧ k ≠ w1.heap.size) ∧ out'.ownBlock ≠ some k) kb ks F8 := hPM15.mono fun k hk => ⟨hk.1.1, fun e => by
       rcases hat with hat | hat
       ·exact hk.1.2 (hat ▸ e)
       ·rw [hat] at e; injection e with e; have := hk.2.lt; omega⟩
      have G15 : w4.grownBy w15 (some kb) := grown_ownO (World.grownBy.trans (World.grownBy.trans (World.grownBy.trans g6 (grown_weak g7)) g8) (grown_weak g814)) g15 hge6
      refine o_v v_assign ?_
      refine o_end ?_
      refine k14 _ _ ?_
      refine s_region ?_
      refine o_v (v_add rfl rfl (by omega)) ?_
      refine o_v v_move ?_
      refine o_end ?_
      refine mid (g + 1, out') ?_ ?_ ?_
      ·repeat (first | exact off_refl | refine off_cons rfl ?_)
      ·exact ⟨rfl, rfl, trivial⟩
      ·refine ⟨⟨⟨hlt, ?_, F8, hPM', fun a ha => (hF8 a (by omega)).trans (hF6 a ha)⟩, G15⟩, by simp only; omega⟩
       rw [hxss, hkh, ← hp1]
       exact hrow15
    ·obtain rfl : g = ks.length := by omega
     obtain ⟨oA, oc, hoe, _, _, hos⟩ := hrow.reads
     subst hoe
     have hxl := hxsl ks.length
     have hfn : ∀ x ∈ xsTo ks.length, x.fine := by
      intro x hx
      rw [hxsTo] at hx
      obtain ⟨i, hi, rfl⟩ := List.mem_map.1 hx
      rw [List.mem_range] at hi
      have hh := (hk.at hi).1
      have := (packL_fine hk (p - holdsAt ks i) (by omega)).bump hk hi (by omega)
      exact ⟨by rw [this.len]; omega, fun y hy => by have := this.each y hy; omega⟩
     have hcall := f147_calls w6 betterP Packed.fine 148 ent148 (fun x y cx cy W h1 h2 h3 h4 => f148_calls x y cx cy W h1 h2 h3 h4) oA oc (xsTo ks.length) hos (by omega) hfn
     obtain ⟨q, hq⟩ := bestL_some betterP (l := xsTo ks.length) (fun e => by have := congrArg List.length e; rw [hxl, List.length_nil] at this; omega)
     have hqL : packL ks p = q := by
      rw [packL_pos hk (by omega)]
      have : (List.range ks.length).map (fun i => bumpP ks i (packL ks (p - holdsAt ks i))) = xsTo ks.length := by rw [hxsTo]
      rw [this, hq, Option.getD_some]
     refine s_exit ?_
     refine k10 _ _ ?_
     refine s_rseq fun _ k19 => ?_
     refine o_v v_move ?_
     refine o_call rfl rfl ent147 hcall ?_; rintro _ w15 ⟨cs, rfl, hbc, g15⟩; refine ⟨_, rfl, ?_⟩
     have hrq : packedT.rep w15 (fun k => w4.heap.size ≤ k ∧ IsC w6 k) q cs := by
      rcases hbc with ⟨h, _⟩ | ⟨q', h, hr⟩
      ·rw [hq] at h; cases h
      ·rw [hq] at h; injection h with h; rw [h]; exact hr
     have hc2 := packed_two hrq
     replace B2 := B2.step0 g15; replace B4 := B4.step0 g15
     refine o_v v_move ?_
     refine o_v (v_extract rfl rfl) ?_
     refine o_v (v_extract rfl rfl) ?_
     refine o_allocst (vs := cs) ze167 rfl rfl rfl sz167 hc2.1 rfl hc2.2 ?_; intro w16 B12 g16 z16
     replace B2 := B2.step0 g16; replace B4 := B4.step0 g16
     have hPM16 := (hPM6.step0 g15).step0 g16
     have hF6p : F6 p = none := (hF6 p (Int.le_refl _)).trans hFp
     refine o_v v_assign ?_
     refine o_end (k19 _ _ ?_)
     refine s_rseq fun _ k20 => ?_
     refine o_v (v_field rfl fld170_1) ?_
     refine o_v (v_loadB rfl sc168 B2 rfl) ?_
     refine o_v v_move ?_
     refine o_v (v_loadBS (vs := cs) rfl ag167 B12 (by rw [List.drop_zero, List.take_of_length_le (by rw [hc2.1]; decide)]) hc2.1) ?_
     refine o_mapPut rfl rfl rfl hPM16.1 Tryz.underlying3 Tryz.underlying168 (by omega) hF6p ?_; intro w17 hM17 g17
     replace B4 := B4.step g17 (by simp; omega); replace B12 := B12.step g17 (by have := hPM16.1.lt; have := G6.size; have := g15.size; simp; omega)
     refine o_end (k20 _ _ ?_)
     refine s_rseq fun _ k21 => ?_
     refine o_v (v_loadBS (vs := cs) rfl ag167 B12 (by rw [List.drop_zero, List.take_of_length_le (by rw [hc2.1]; decide)]) hc2.1) ?_
     refine o_storeB (vs := cs) rfl rfl sz167 hc2.1 B4 (by rw [hc2.1]; rfl) hc2.2 ?_; intro w18 B4 g18 z18
     rw [over_all (by rw [hc2.1]; rfl)] at B4
     refine o_end (k21 _ _ ?_)
     refine s_ret (postR (res_c rfl rfl (run_loadVar_ag ag167 B4 hc2.1)) ?_)
     have hs4 := G4.size
     have hs4' := g4.size
     have hrq18 : packedT.rep w18 (fun k => w4.heap.size ≤ k ∧ IsC w6 k) q cs := packedT.step (packedT.step (packedT.step0 hrq g16) g17 (fun k hk e => by injection e; omega)) g18 (fun k hk e => by injection e; omega)
     have hrS : packedT.rep w18 S (packL ks p) cs := by rw [hqL]; exact packedT.hmono (fun k hk => hS k (by omega)) hrq18
     have hPM18 : PM w18 S kb ks (putF F6 p (.agg cs.toArray)) := by
      refine ⟨hM17.step g18 (by simp; omega), fun a v ha hf => ?_⟩
      unfold putF at hf
      by_cases hap : a = p
      ·rw [if_pos hap] at hf
       injection hf with hf
       exact ⟨cs, hf.symm, by rw [hap]; exact hrS⟩
      ·rw [if_neg hap] at hf
       obtain ⟨cs', h1, h2⟩ := hPM16.2 a v ha hf
       exact ⟨cs', h1, packedT.hmono (fun k hk => hk.1.1) (packedT.step (packedT.step h2 g17 (fun k hk e => hSkb k hk.1.1 (by injection e))) g18 (fun k hk e => hk.1.2 (by injection e)))⟩
     refine ⟨cs, _, rfl, hrS, hPM18, fun a ha => ?_, ?_⟩
     ·unfold putF
      rw [if_neg (by omega)]
      exact hF6 a (by omega)
     ·exact grown_own' (World.grownBy.trans (World.grownBy.trans G6 (grown_weak (World.grownBy.trans g15 g16))) g17) g18 (by omega)
def Packs.ok (ks : List Pack) (p : Int) : Bool := !(((!inB ks.length 1 4) || (!inB p 0 600)) || ks.any fun k => (!inB k.holds 1 144) || (!inB k.price 0 1000))
theorem Packs.ok_of {ks : List Pack} {p : Int} (h : Packs.ok ks p = true) : PacksOk ks ∧ 0 ≤ p ∧ p ≤ 600 := by
 unfold Packs.ok inB at h
 simp only [Bool.not_eq_true', Bool.or_eq_false_iff, Bool.not_eq_false', Bool.and_eq_true, decide_eq_true_eq, List.any_eq_false, Bool.not_eq_true] at h
 refine ⟨⟨by omega, fun k hk => ?_⟩, by omega⟩
 have := h.2 k hk
 omega
def packsQ (ks : List Pack) (p : Int) : Packed := if Packs.ok ks p then packL ks p else ⟨[], 0⟩
theorem info164 : (Tryz.prog.info? 164).map (·.size) = some 2 := by kernel_rfl
theorem f45_calls {T : Nat → Prop} (kA : Option Addr) (kc : Nat) (ks : List Pack) (p : Int) (w : World) (hx : packT.Sl w T kA ks) (hm : ks.length ≤ kc ∧ kc ≤ maxLen) :
  Calls Tryz.prog 45 #[.slice kA ks.length kc, I p] w fun e w' => ∃ v, e = .returned (.tuple #[v, I (packsQ ks p).price, I (if Packs.ok ks p then 0 else 2)]) ∧ Ty.int.Row 3 w' (fun k => w.heap.size ≤ k) v (packsQ ks p).list ∧ w.grownBy w' none := by
 refine s_enter (n := 31) Tryz.func45 rfl rfl rfl ?_
 have G := grown_refl w none
 refine s_rseq fun _ k1 => ?_
 refine o_v v_assign ?_
 refine o_v v_assign ?_
 refine o_v v_assign ?_
 refine o_end (k1 _ _ ?_)
 refine s_seq fun _ k2 => ?_
 refine s_rseq fun _ k3 => ?_
 refine o_v v_move ?_
 refine o_v (v_len rfl Tryz.underlying74) ?_
 refine o_call rfl rfl ent100 (f100_calls _ _ _ _) ?_; rintro _ w1 ⟨rfl, g1⟩; refine ⟨_, rfl, ?_⟩
 replace G := G.step0 g1; replace hx := hx.step0 g1
 refine o_v (v_not rfl) ?_
 refine o_v v_move ?_
 refine o_mid (G := Unit) 4 (fun _ => [(16, .bool ((!inB ks.length 1 4) || (!inB p 0 600)))]) [16] [13, 14, 15] (fun _ w' => w1.grownBy w' none) (fun _ => rfl) ?_ ?_
 ·have H1 := grown_refl w1 none
  rcases Bool.eq_false_or_eq_true ((!inB ks.length 1 4)) with hX1 | hX1
  ·refine g_no rfl rfl rfl hX1 ?_
   refine g_no rfl rfl rfl hX1 ?_
   refine g_no rfl rfl rfl hX1 ?_
   refine o_v (v_pick_t rfl hX1) ?_
   refine o_end (mid () ?_ ?_ ?_)
   ·repeat (first | exact off_refl | refine off_cons rfl ?_)
   ·exact ⟨by rw [hX1]; rfl, trivial⟩
   ·exact H1
  ·refine g_yes rfl rfl rfl hX1 ?_
   refine o_v v_move ?_
   refine g_yes rfl rfl rfl hX1 ?_
   refine o_call rfl rfl ent100 (f100_calls _ _ _ _) ?_; rintro _ w2 ⟨rfl, g2⟩; refine ⟨_, rfl, ?_⟩
   replace G := G.step0 g2; replace hx := hx.step0 g2; replace H1 := H1.step0 g2
   refine g_yes rfl rfl rfl hX1 ?_
   refine o_v (v_not rfl) ?_
   refine o_v (v_pick_f rfl hX1) ?_
   refine o_end (mid () ?_ ?_ ?_)
   ·repeat (first | exact off_refl | refine off_cons rfl ?_)
   ·exact ⟨by rw [hX1]; rfl, trivial⟩
   ·exact H1
 ·rintro _ jv w3 g3
  replace G := G.step0 g3; replace hx := hx.step0 g3
  refine o_v v_move ?_
  refine o_mid (G := Unit) 3 (fun _ => [(20, .bool (((!inB ks.length 1 4) || (!inB p 0 600)) || (ks.any fun k => (!inB k.holds 1 144) || (!inB k.price 0 1000))))]) [20] [18, 19] (fun _ w' => w3.grownBy w' none) (fun _ => rfl) ?_ ?_
  ·have H2 := grown_refl w3 none
   rcases Bool.eq_false_or_eq_true (((!inB ks.length 1 4) || (!inB p 0 600))) with hX2 | hX2
   ·refine g_no rfl rfl rfl hX2 ?_
    refine g_no rfl rfl rfl hX2 ?_
    refine o_v (v_pick_t rfl hX2) ?_
    refine o_end (mid () ?_ ?_ ?_)
    ·repeat (first | exact off_refl | refine off_cons rfl ?_)
    ·exact ⟨by rw [hX2]; rfl, trivial⟩
    ·exact H2
   ·refine g_yes rfl rfl rfl hX2 ?_
    refine o_v v_move ?_
    refine g_yes rfl rfl rfl hX2 ?_
    refine o_call rfl rfl ent101 (f101_calls packT rfl (fun k => (!inB k.holds 1 144) || (!inB k.price 0 1000)) kA kc ks 102 [] _ hx (by have := hm; rw [maxLen_val] at this; omega) ent102 (fun y cs W hy hg hrep => by obtain rfl : cs = y.cells := hrep; have := f102_calls y W; exact this)) ?_; rintro _ w4 ⟨rfl, g4⟩; refine ⟨_, rfl, ?_⟩
    replace G := G.step0 g4; replace hx := hx.step0 g4; replace H2 := H2.step0 g4
    refine o_v (v_pick_f rfl hX2) ?_
    refine o_end (mid () ?_ ?_ ?_)
    ·repeat (first | exact off_refl | refine off_cons rfl ?_)
    ·exact ⟨by rw [hX2]; rfl, trivial⟩
    ·exact H2
  ·rintro _ jv w5 g5
   replace G := G.step0 g5; replace hx := hx.step0 g5
   refine o_end (k3 _ _ ?_)
   refine s_if rfl (fun c3 => ?_) (fun c3 => ?_)
   ·refine s_rseq fun _ k4 => ?_
    refine o_v v_assign ?_
    refine o_v v_assign ?_
    refine o_v v_assign ?_
    refine o_end (k4 _ _ ?_)
    refine s_ret (post3 rfl ?_)
    have hok : Packs.ok ks p = false := by unfold Packs.ok; rw [c3]; rfl
    have hq : packsQ ks p = ⟨[], 0⟩ := by unfold packsQ; rw [hok]; rfl
    exact ⟨.slice none 0 0, by rw [hq, hok]; rfl, by rw [hq]; exact Ty.Row.nil _ _ _ _, G⟩
   ·have hok : Packs.ok ks p = true := by unfold Packs.ok; rw [c3]; rfl
    obtain ⟨hpk, hp0, hp6⟩ := Packs.ok_of hok
    have hs5 := G.size
    have hq : packsQ ks p = packL ks p := by unfold packsQ; rw [hok]; rfl
    have hfin := packL_fine hpk p hp6
    refine s_skip ?_
    refine k2 _ _ ?_
    refine s_rseq fun _ k5 => ?_
    refine o_v v_move ?_
    refine o_makeMap ?_; intro wM hM gM
    replace hx := hx.step0 gM
    have hMlt := hM.lt
    refine o_v (v_build rfl (fun W => bld170_01 W)) ?_
    refine o_v v_move ?_
    refine o_call rfl rfl ent103 (f103_calls w5.heap.size ks kA kc hpk p.toNat p (fun k => w5.heap.size ≤ k ∧ k ≠ w5.heap.size) T (fun _ => none) wM (Nat.le_refl _) hp6 (by omega) hx ⟨hM, fun a v ha h => by cases h⟩ (fun k hk => ⟨by have := gM.size; omega, by omega⟩) (fun k hk => hk.2)) ?_
    rintro _ w6 ⟨cs, F', rfl, hr, _, _, g6⟩; refine ⟨_, rfl, ?_⟩
    obtain ⟨rA, rc, rfl, hr1, hr2, hr3⟩ := packedT_iff.1 hr
    replace G := grown_own (G.step0 gM) g6 G.size
    refine o_allocst (vs := [.slice rA (packL ks p).list.length rc, I (packL ks p).price]) ze167 rfl rfl rfl sz167 rfl rfl rfl ?_; intro w7 B7 g7 z7
    replace G := G.step0 g7; replace hr3 := hr3.step0 g7
    refine o_end (k5 _ _ ?_)
    refine s_seq fun _ k6 => ?_
    refine s_anyD 8 [26, 27, 28, 29, 30, 4, 5, 6] [[], [(0, some 26)], [(1, some 27)], [], [(3, some 29)], [(2, some 28)], [(4, some 30)], []] [(5, some 4), (6, some 5), (7, some 6)] (fun W => w7.grownBy W none) (fun _ => G0) []
     [([], fun _ v _ => v = .pointer (some ⟨w6.heap.size, 0 + 0, none⟩)), ([], fun _ v _ => v = .slice rA (packL ks p).list.length rc), ([], fun _ v W => Ty.int.Row 3 W (fun k => w7.heap.size ≤ k) v (packL ks p).list), ([], fun _ v _ => v = .pointer (some ⟨w6.heap.size, 0 + 1, none⟩)), ([], fun _ v _ => v = I (packL ks p).price),
      ([], fun _ v W => Ty.int.Row 3 W (fun k => w7.heap.size ≤ k) v (packL ks p).list), ([], fun _ v _ => v = I (packL ks p).price), ([], fun _ v _ => v = I 0)]
     mixed (by kernel_rfl) (by kernel_rfl) (by kernel_rfl) (by kernel_rfl) (by kernel_rfl) g0_drawn ?_ ?_ ?_ ?_
    ·intro k W1 W2 hC hS
     exact World.grownBy.trans hC hS
    ·intro i k v W1 W2 vs hik hd p hp h hS
     rcases i with _ | _ | _ | _ | _ | _ | _ | _ | i
     ·cases hp; exact h
     ·cases hp; exact h
     ·cases hp; exact Ty.Row.step0 h hS
     ·cases hp; exact h
     ·cases hp; exact h
     ·cases hp; exact Ty.Row.step0 h hS
     ·cases hp; exact h
     ·cases hp; exact h
     ·simp at hp
    ·refine ⟨?_, ?_, ?_, ?_, ?_, ?_, ?_, ?_, trivial⟩
     ·intro jv W hC
      exact o_v (v_field rfl fld167_0) (o_end (opD_done (grown_refl _ _) rfl))
     ·rintro jv W hC _ rfl
      exact o_v (v_loadB rfl sc56 (B7.step0 hC) rfl) (o_end (opD_done (grown_refl _ _) rfl))
     ·rintro jv W hC _ rfl
      refine o_call rfl rfl ent104 (f104_calls (S := fun k => w7.heap.size ≤ k) rA rc (packL ks p).list W (hr3.step0 hC) (by rw [hfin.len]; have := hpk.len; omega) (fun k hk => Nat.le_trans hC.size hk)) ?_
      rintro _ wa ⟨cv, rfl, hcv, _, ga⟩
      exact ⟨_, rfl, o_end (opD_done ga hcv)⟩
     ·intro jv W hC
      exact o_v (v_field rfl fld167_1) (o_end (opD_done (grown_refl _ _) rfl))
     ·rintro jv W hC _ rfl
      exact o_v (v_loadB rfl sc3 (B7.step0 hC) rfl) (o_end (opD_done (grown_refl _ _) rfl))
     ·rintro jv W hC v hv
      exact o_v v_assign (o_end (opD_done (grown_refl _ _) hv))
     ·rintro jv W hC _ rfl
      exact o_v v_assign (o_end (opD_done (grown_refl _ _) rfl))
     ·rintro jv W hC
      exact o_v v_assign (o_end (opD_done (grown_refl _ _) rfl))
    rintro jv w9 g9 cv hcv _ rfl _ rfl
    refine o_end (k6 _ _ ?_)
    replace G := G.step0 g9
    refine s_ret (post3 rfl ?_)
    refine ⟨cv, by rw [hq, hok]; rfl, by rw [hq]; exact hcv.mono fun k hk => by have := g7.size; have := g6.size; have := gM.size; omega, G⟩
end Go.Proofs.NV
namespace Go.Proofs.NV
open Go.RowKit Go.Shelf
section
variable {P : Program} {n : Nat} {e : Env} {w : World} {d : Nat} {ty : TypeId} {ps : String} {af : Array Edge}
theorem v_ta {x : Operand} {v u : Value} {xT t : TypeId} {ok : Bool} (hx : ev n e x = v) (h : ∀ w, (Instr.typeAssert v xT t ok).run P w = .ok u w) :
  (execOp (ev n e) ⟨some d, .typeAssert x xT t ok, ty, ps, af, none⟩).run P w = .ok (.value u) w := by
 simp only [execOp, hx, Sem.run_bind, h, Result.andThen_ok, Sem.run_pure]
end
theorem ta253_253 (v : Value) (w : World) : (Instr.typeAssert (.iface 253 v) 225 253 true).run Tryz.prog w = .ok (.tuple #[v, .bool true]) w := by kernel_rfl
theorem ta255_255 (v : Value) (w : World) : (Instr.typeAssert (.iface 255 v) 225 255 true).run Tryz.prog w = .ok (.tuple #[v, .bool true]) w := by kernel_rfl
theorem ta255_253 (v : Value) (w : World) : (Instr.typeAssert (.iface 255 v) 225 253 true).run Tryz.prog w = .ok (.tuple #[.agg #[.int .i64 0, .int .i64 0], .bool false]) w := by kernel_rfl
theorem ta257_253 (v : Value) (w : World) : (Instr.typeAssert (.iface 257 v) 225 253 true).run Tryz.prog w = .ok (.tuple #[.agg #[.int .i64 0, .int .i64 0], .bool false]) w := by kernel_rfl
theorem ta257_255 (v : Value) (w : World) : (Instr.typeAssert (.iface 257 v) 225 255 true).run Tryz.prog w = .ok (.tuple #[.agg #[.int .i64 0], .bool false]) w := by kernel_rfl
end Go.Proofs.NV
namespace Go.Proofs.NV
open Go.RowKit Go.Shelf
def bs (l : List UInt8) : ByteArray := ⟨l.toArray⟩
theorem bs_size (l : List UInt8) : (bs l).size = l.length := by simp [bs, ByteArray.size]
theorem bs_data (s : ByteArray) : bs s.data.toList = s := by unfold bs; simp
theorem data_bs (l : List UInt8) : (bs l).data.toList = l := by simp [bs]
theorem bs_inj {l m : List UInt8} : bs l = bs m ↔ l = m := ⟨fun h => by have := congrArg (fun s : ByteArray => s.data.toList) h; simpa [bs] using this, fun h => by rw [h]⟩
theorem bs_append (l m : List UInt8) : bs l ++ bs m = bs (l ++ m) := by
 apply ByteArray.ext
 simp [bs, ByteArray.data_append]
theorem bs_get (l : List UInt8) (i : Nat) (h : i < l.length) : (bs l)[i]? = some l[i] := by
 have h1 : i < (bs l).size := by rw [bs_size]; exact h
 rw [getElem?_pos (bs l) i h1]
 rfl
section
variable {P : Program} {ops : Array Oper} {Q : Exit → Act → World → Prop} {rest : List Oper} {n : Nat} {e : Env} {ds : List Deferred} {w : World} {d : Nat} {r : Option Nat} {ty : TypeId} {ps : String} {af : Array Edge} {dst : Option Nat}
theorem run_binS {op : BinOp} {t yt : TypeId} {x y : Operand} {a b : ByteArray} (hx : ev n e x = .string a) (hy : ev n e y = .string b) :
  (execOp (ev n e) ⟨some d, .binOp op t x y yt, ty, ps, af, none⟩).run P w = ((Op.stringOp op a b).run P w).andThen fun v w => .ok (.value v) w := by
 simp only [execOp, hx, hy, Sem.run_bind, Sem.run_pure, eqGuard]
 cases op <;> simp [Result.andThen, binOp] <;> rfl
section
variable {t yt : TypeId} {x y : Operand} {a b : List UInt8}
theorem v_addS (hx : ev n e x = .string (bs a)) (hy : ev n e y = .string (bs b)) (hb : a.length + b.length ≤ 1000000000000) :
  (execOp (ev n e) ⟨some d, .binOp .add t x y yt, ty, ps, af, none⟩).run P w = .ok (.value (.string (bs (a ++ b)))) w := by
 rw [run_binS hx hy, Op.stringOp, if_neg, bs_append]
 ·rfl
 ·rw [bs_size, bs_size]
  have : IntKind.i64.max = 9223372036854775807 := rfl
  omega
theorem eqS (a b : List UInt8) : ((bs a).toList == (bs b).toList) = decide (a = b) := by
 rw [Lib.toList_data, Lib.toList_data, data_bs, data_bs]
 by_cases h : a = b
 ·subst h; simp
 ·simp [h]
theorem v_eqlS (hx : ev n e x = .string (bs a)) (hy : ev n e y = .string (bs b)) :
  (execOp (ev n e) ⟨some d, .binOp .eql t x y yt, ty, ps, af, none⟩).run P w = .ok (.value (.bool (decide (a = b)))) w := by
 rw [run_binS hx hy, Op.stringOp, eqS]
 rfl
theorem v_neqS (hx : ev n e x = .string (bs a)) (hy : ev n e y = .string (bs b)) :
  (execOp (ev n e) ⟨some d, .binOp .neq t x y yt, ty, ps, af, none⟩).run P w = .ok (.value (.bool (decide (a ≠ b)))) w := by
 rw [run_binS hx hy, Op.stringOp, eqS, show (!decide (a = b)) = decide (a ≠ b) by rw [decide_not]]
 rfl
theorem v_lenB (hx : ev n e x = .string (bs a)) (ht : P.underlying t = some .string) :
  (execOp (ev n e) ⟨some d, .call { callee := .builtin .len, args := #[x], argTypes := #[t] }, ty, ps, af, none⟩).run P w = .ok (.value (.int .i64 a.length)) w := by
 rw [v_lenS hx ht, bs_size]
theorem v_indexS {k : IntKind} {i : Nat} {c : UInt8} (hx : ev n e x = .string (bs a)) (hy : ev n e y = .int k i) (ht : P.underlying t = some .string) (hi : a[i]? = some c) :
  (execOp (ev n e) ⟨some d, .index t x y, ty, ps, af, none⟩).run P w = .ok (.value (.int .u8 c.toNat)) w := by
 obtain ⟨h, rfl⟩ := List.getElem?_eq_some_iff.1 hi
 simp [execOp, hx, hy, Instr.index, asIntOf, run_underlying ht, bs_get a i h]
theorem v_sliceSL {k : IntKind} {i : Nat} (hx : ev n e x = .string (bs a)) (hy : ev n e y = .int k i) (ht : P.underlying t = some .string) (hi : i ≤ a.length) :
  (execOp (ev n e) ⟨some d, .slice t x (some y) none none, ty, ps, af, none⟩).run P w = .ok (.value (.string (bs (a.drop i)))) w := by
 have h1 : (bs a).extract i (bs a).size = bs (a.drop i) := by
  apply ByteArray.ext
  simp [bs, ByteArray.data_extract, ByteArray.size]
  exact List.take_of_length_le (by simp)
 have h2 : i ≤ (bs a).size := by rw [bs_size]; exact hi
 simp [execOp, hx, hy, Instr.sliceAt, Instr.slice, Instr.sliceBounds, Instr.sliceBound, asIntOf, run_underlying ht, h2, h1]
theorem v_sliceSLH {z : Operand} {k k' : IntKind} {i j : Nat} (hx : ev n e x = .string (bs a)) (hy : ev n e y = .int k i) (hz : ev n e z = .int k' j) (ht : P.underlying t = some .string) (hij : i ≤ j) (hj : j ≤ a.length) :
  (execOp (ev n e) ⟨some d, .slice t x (some y) (some z) none, ty, ps, af, none⟩).run P w = .ok (.value (.string (bs ((a.take j).drop i)))) w := by
 have h1 : (bs a).extract i j = bs ((a.take j).drop i) := by
  apply ByteArray.ext
  simp [bs, ByteArray.data_extract]
  exact List.drop_take.symm
 have h2 : j ≤ (bs a).size := by rw [bs_size]; exact hj
 simp [execOp, hx, hy, hz, Instr.sliceAt, Instr.slice, Instr.sliceBounds, Instr.sliceBound, asIntOf, run_underlying ht, h2, hij, h1]
end
theorem v_conv {s t : TypeId} {x : Operand} {k k' : IntKind} {a : Int} {ds : TypeDesc} (hx : ev n e x = .int k a) (hs : P.underlying s = some ds) (ht : P.underlying t = some (.int k')) :
  (execOp (ev n e) ⟨some d, .convert s t x, ty, ps, af, none⟩).run P w = .ok (.value (.int k' (k'.wrap a))) w := by
 simp [execOp, hx, convert, run_underlying hs, run_underlying ht, Conv.intToInt]
theorem v_conv64 {s t : TypeId} {x : Operand} {k : IntKind} {a : Int} {ds : TypeDesc} (hx : ev n e x = .int k a) (hs : P.underlying s = some ds) (ht : P.underlying t = some (.int .i64)) (hb : -9223372036854775808 ≤ a ∧ a ≤ 9223372036854775807) :
  (execOp (ev n e) ⟨some d, .convert s t x, ty, ps, af, none⟩).run P w = .ok (.value (.int .i64 a)) w := by
 rw [v_conv hx hs ht, IntWalk.i64_in _ hb]
theorem v_sub32 {t yt : TypeId} {x y : Operand} {a b : Int} (hx : ev n e x = .int .i32 a) (hy : ev n e y = .int .i32 b) (hb : -2147483648 ≤ a - b ∧ a - b ≤ 2147483647) :
  (execOp (ev n e) ⟨some d, .binOp .sub t x y yt, ty, ps, af, none⟩).run P w = .ok (.value (.int .i32 (a - b))) w := by rw [run_bin hx hy]; simp [binOp, Op.intArith, Result.andThen, IntWalk.i32_in _ hb]
theorem v_rem {t yt : TypeId} {x y : Operand} {k : IntKind} {a b : Int} (hx : ev n e x = .int k a) (hy : ev n e y = .int k b) (h0 : 0 ≤ a) (hb : 0 < b) :
  (execOp (ev n e) ⟨some d, .binOp .rem t x y yt, ty, ps, af, none⟩).run P w = .ok (.value (.int k (a % b))) w := by
 rw [run_bin hx hy]
 simp only [binOp, Op.intDiv, ne_eq, not_true_eq_false, ite_false, if_neg (show ¬ b = 0 by omega)]
 rw [Int.tmod_eq_emod_of_nonneg h0]
 rfl
theorem v_quo {t yt : TypeId} {x y : Operand} {a b : Int} (hx : ev n e x = .int .i64 a) (hy : ev n e y = .int .i64 b) (h0 : 0 ≤ a ∧ a ≤ 9223372036854775807) (hb : 0 < b) :
  (execOp (ev n e) ⟨some d, .binOp .quo t x y yt, ty, ps, af, none⟩).run P w = .ok (.value (.int .i64 (a / b))) w := by
 rw [run_bin hx hy]
 have h1 : 0 ≤ a / b := Int.ediv_nonneg h0.1 (by omega)
 have h2 : a / b ≤ a := Int.ediv_le_self _ h0.1
 simp only [binOp, Op.intDiv, ne_eq, not_true_eq_false, ite_false, if_neg (show ¬ b = 0 by omega)]
 rw [Int.tdiv_eq_ediv_of_nonneg h0.1, IntWalk.i64_in _ (by omega)]
 rfl
theorem v_sliceLH {t et sz : TypeId} {x y z : Operand} {k k' : IntKind} {A : Option Addr} {len c : Nat} {i j : Nat} (hx : ev n e x = .slice A len c) (hi : ev n e y = .int k i) (hj : ev n e z = .int k' j) (ht : Slt P t et sz) (h0 : i ≤ j ∧ j ≤ c) :
  (execOp (ev n e) ⟨some d, .slice t x (some y) (some z) none, ty, ps, af, none⟩).run P w = .ok (.value (.slice (if c = i then A else A.map (·.add (i * sz))) (j - i) (c - i))) w := by
 simp [execOp, hx, hi, hj, Instr.sliceAt, Instr.slice, Instr.sliceBounds, Instr.sliceBound, asIntOf, run_underlying ht.1, run_sz ht, h0]
theorem v_indexP {t et sz len : TypeId} {x y : Operand} {k : IntKind} {b o : Nat} {i : Int} (hx : ev n e x = .pointer (some ⟨b, o, none⟩)) (hi : ev n e y = .int k i) (ht : P.underlying t = some (.array len et)) (hs : (P.info? et).map (·.size) = some sz) (h0 : 0 ≤ i ∧ i < len) :
  (execOp (ev n e) ⟨some d, .indexAddr t x y, ty, ps, af, none⟩).run P w = .ok (.value (.pointer (some ⟨b, o + i.toNat * sz, none⟩))) w := by
 simp [execOp, hx, hi, Instr.indexAt, Instr.sureAddr, asIntOf, run_underlying ht, run_sz' hs, h0, Addr.add_mid]
def It (w : World) (k : Nat) (s : List UInt8) (pos : Nat) : Prop := w.heap[k]? = some (.stringIter (bs s) pos)
theorem It.step {w w' : World} {k : Nat} {s : List UInt8} {pos : Nat} {row : Option Nat} (h : It w k s pos) (g : w.grownBy w' row) (hr : some k ≠ row) : It w' k s pos := (g.block k (Array.getElem?_eq_some_iff.1 h).1 hr).trans h
theorem It.step0 {w w' : World} {k : Nat} {s : List UInt8} {pos : Nat} (h : It w k s pos) (g : w.grownBy w' none) : It w' k s pos := h.step g (by simp)
theorem o_range {t : TypeId} {x : Operand} {a : List UInt8} (hx : ev n e x = .string (bs a)) (ht : P.underlying t = some .string)
  (h : ∀ w', It w' w.heap.size a 0 → w.grownBy w' none → wl r P ops Q rest (act n ((d, .pointer (some ⟨w.heap.size, 0, none⟩)) :: e) ds) w') :
  wl r P ops Q (⟨some d, .range t x, ty, ps, af, none⟩ :: rest) (act n e ds) w := by
 refine o_val (fun _ => by simp) (w' := w.alloc (.stringIter (bs a) 0)) (v := .pointer (some ⟨w.heap.size, 0, none⟩)) ?_ (h _ (World.alloc_heap_new w _) (World.grownBy_alloc w _ _))
 simp [execOp, hx, Instr.range, run_underlying ht, newObj, Sem.run]
theorem iterAt_grown {w : World} {k : Nat} {s : List UInt8} {pos pos' : Nat} (h : It w k s pos) : w.grownBy (w.iterAt k (bs s) pos') (some k) ∧ It (w.iterAt k (bs s) pos') k s pos' := by
 refine ⟨⟨rfl, rfl, rfl, by simp [World.iterAt], fun i hi hn => ?_⟩, Lib.iterAt_heap w k _ pos pos' h⟩
 have : k ≠ i := fun e => hn (by rw [e])
 simp [World.iterAt, this]
theorem o_next {x : Operand} {k pos : Nat} {s : List UInt8} (hx : ev n e x = .pointer (some ⟨k, 0, none⟩)) (hi : It w k s pos)
  (hend : ¬ pos < s.length → wl r P ops Q rest (act n ((d, .tuple #[.bool false]) :: e) ds) w)
  (hon : ∀ (h : pos < s.length) w', It w' k s (pos + (Utf8.decode (bs s) pos).2) → w.grownBy w' (some k) → wl r P ops Q rest (act n ((d, .tuple #[.bool true, .int .i64 pos, .int .i32 (Utf8.decode (bs s) pos).1]) :: e) ds) w') :
  wl r P ops Q (⟨some d, .next x true, ty, ps, af, none⟩ :: rest) (act n e ds) w := by
 by_cases h : pos < s.length
 ·have h' : pos < (bs s).size := by rw [bs_size]; exact h
  refine o_val (fun _ => by simp) (w' := w.iterAt k (bs s) (pos + (Utf8.decode (bs s) pos).2)) (v := .tuple #[.bool true, .int .i64 pos, .int .i32 (Utf8.decode (bs s) pos).1]) ?_ (hon h _ (iterAt_grown hi).2 (iterAt_grown hi).1)
  have := Lib.run_next_any_at (P := P) w k (bs s) pos ty hi h'
  simp [execOp, hx, this]
 ·have h' : ¬ pos < (bs s).size := by rw [bs_size]; exact h
  refine o_val (fun _ => by simp) (w' := w) (v := .tuple #[.bool false]) ?_ (hend h)
  have := Lib.run_next_end_at (P := P) w k (bs s) pos ty hi h'
  simp [execOp, hx, this]
theorem o_nextU {x : Operand} {k pos : Nat} {s : List UInt8} (hx : ev n e x = .pointer (some ⟨k, 0, none⟩)) (hi : It w k s pos)
  (h : ∀ us w', us[0]? = some (.bool (decide (pos < s.length))) → (∀ _ : pos < s.length, us = [.bool true, .int .i64 pos, .int .i32 (Utf8.decode (bs s) pos).1] ∧ It w' k s (pos + (Utf8.decode (bs s) pos).2)) → w.grownBy w' (some k) → wl r P ops Q rest (act n ((d, .tuple us.toArray) :: e) ds) w') :
  wl r P ops Q (⟨some d, .next x true, ty, ps, af, none⟩ :: rest) (act n e ds) w :=
 o_next hx hi (fun hn => h [.bool false] w (by rw [decide_eq_false hn]; rfl) (fun hp => absurd hp hn) (grown_refl w _))
  (fun hp w' hI g => h _ w' (by rw [decide_eq_true hp]; rfl) (fun _ => ⟨rfl, hI⟩) g)
theorem decode_low {s : List UInt8} {pos : Nat} (h : pos < s.length) (ha : s[pos].toNat < 128) : Utf8.decode (bs s) pos = (s[pos].toNat, 1) := by
 have h' : pos < (bs s).size := by rw [bs_size]; exact h
 exact decode_ascii (bs s) pos h' ha
theorem decode_high {s : List UInt8} {pos : Nat} (h : pos < s.length) (ha : ¬ s[pos].toNat < 128) : 128 ≤ (Utf8.decode (bs s) pos).1 := by
 have h' : pos < (bs s).size := by rw [bs_size]; exact h
 have hb : ((bs s).get! (pos + 0)).toNat = (s[pos]'h).toNat := by
  rw [Nat.add_zero]
  have : (bs s).get! pos = (bs s)[pos] := by simp [ByteArray.get!, h', ByteArray.getElem_eq_getElem_data]
  rw [this]
  rfl
 obtain ⟨z, hz⟩ : ∃ z, (s[pos]'h).toNat = z := ⟨_, rfl⟩
 rw [hz] at ha hb
 unfold Utf8.decode
 simp only [hb]
 rw [if_neg ha]
 have e0 : Utf8.runeError = 65533 := rfl
 split
 ·split
  ·assumption
  ·rw [e0]; decide
 ·split
  ·split
   ·rename_i h2
    simp only [Bool.and_eq_true, decide_eq_true_eq] at h2
    exact Nat.le_trans (by decide) h2.1
   ·rw [e0]; decide
  ·split
   ·split
    ·rename_i h2
     simp only [Bool.and_eq_true, decide_eq_true_eq] at h2
     exact Nat.le_trans (by decide) h2.1
    ·rw [e0]; decide
   ·rw [e0]; decide
theorem o_invoke {rv : Operand} {name : String} {t : TypeId} {v : Value} {f : FuncId} {R : Ending → World → Prop} (hr : ev n e rv = .iface t v) (hm : ∀ w, (callMethod (.iface t v) name #[]).run P w = .ok (.enter f #[v]) w)
  (hC : Calls P f #[v] w R) (hk : ∀ en w', R en w' → ∃ u, en = .returned u ∧ wl r P ops Q rest (act n ((d, u) :: e) ds) w') :
  wl r P ops Q (⟨some d, .call { callee := .invoke rv name, args := #[], argTypes := #[] }, ty, ps, af, none⟩ :: rest) (act n e ds) w := by
 simp only [wl]
 rw [if_pos (by rfl), Oper.semAt_eq _ _ _ (fun _ => by simp), act_eval]
 have hrun : (execOp (ev n e) ⟨some d, .call { callee := .invoke rv name, args := #[], argTypes := #[] }, ty, ps, af, none⟩).run P w = .ok (.enter f #[v]) w := by
  simp only [execOp, resolve, hr, Sem.run_bind, Sem.run_pure, Result.andThen_ok, invoke]
  have := hm w
  simpa using this
 rw [hrun]
 simp only [Oper.uponIn]
 refine ⟨fun h => by simp [Fw, Fence.wide] at h, trivial, fun cs _ => ?_⟩
 obtain ⟨en, w', fr, hR, hc, hfn, hl⟩ := hC cs
 obtain ⟨v, rfl, hw⟩ := hk en w' hR
 refine ⟨.returned v, w', fr, ?_, comesIn_wide.2 hc, hfn, hl⟩
 show wl r P ops Q rest ((act n e ds).put (some d) v) w'
 rw [act_put]
 exact hw
end
end Go.Proofs.NV
