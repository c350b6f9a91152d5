/- Part of the proof: Wants.. Rules for a map of the call's own, from small whole numbers to values that are held as they are.. better; best of packs; one kind of packs.. -/
import Derived.Test.YtbjnjlgeendakaaGreatDoorKb15
import Derived.Test.YtbjnjlgeendakaaGreatDoorKb12
import Derived.Maps.OwnSet
import Derived.Maps.Views
import Derived.Carry
set_option linter.unusedVariables false
set_option maxRecDepth 100000
set_option maxHeartbeats 8000000
set_option linter.unusedSimpArgs false
namespace Go.Proofs.NV
open Go.RowKit Go.Shelf
attribute [local irreducible] bodyPost bodyPostM wpQuiet
theorem Ty.Row.narrow {α : Type} {t : Ty α} {e : TypeId} {w : World} {S : Nat → Prop} {v : Value} {xs : List α} (hf : ∀ w S S' x c, t.rep w S x c → t.rep w S' x c) (h : t.Row e w S v xs) : t.Row e w (fun k => v.ownBlock = some k) v xs := by
 obtain ⟨h0, inner, ho, hr⟩ := h
 exact ⟨fun k hk => hk, inner, ho, hr.imp fun _ _ _ h => hf _ _ _ _ _ h⟩
theorem Ty.Row.putE {α : Type} {t : Ty α} {e : TypeId} {w : World} {S : Nat → Prop} {v : Value} {xs : List α} (h : t.Row e w S v xs) (i : Nat) (hi : i < xs.length) :
  ∃ g cap cs, v = .slice (some ⟨g, 0, none⟩) xs.length cap ∧ S g ∧ Blk w g cs e ∧ i * t.sz + t.sz ≤ cs.length ∧ t.rep w (fun k => S k ∧ k ≠ g) xs[i] ((cs.drop (i * t.sz)).take t.sz) ∧
   ∀ x' vs w', t.rep w (fun k => S k ∧ k ≠ g) x' vs → Blk w' g (over cs (i * t.sz) vs) e → w.grownBy w' (some g) → t.Row e w' S v (xs.set i x') := by
 obtain ⟨g, cap, cs, hv, hS, hB, hl, hc, hm, hr⟩ := h.open_ (by omega)
 have hle : i * t.sz + t.sz ≤ xs.length * t.sz := by rw [← Nat.succ_mul]; exact Nat.mul_le_mul_right _ hi
 have hle2 : xs.length * t.sz ≤ cs.length := by rw [hl]; exact Nat.mul_le_mul_right _ hc
 refine ⟨g, cap, cs, hv, hS, hB, by omega, ?_, fun x' vs w' hx hB' hg => ?_⟩
 ·have := hr.get (fun _ _ h => t.hlen h) i hi
  rwa [List.drop_take, List.take_take, Nat.min_eq_left (by omega)] at this
 ·have hvs := t.hlen hx
  have h1 := Reps.put (R := t.rep w fun k => S k ∧ k ≠ g) (sz := t.sz) (fun _ _ h => t.hlen h) hx i hr hi
  rw [← over_take2 (by rw [hvs]; exact hle) hle2] at h1
  have h2 := Ty.Row.close (t := t) (S := S) (ys := xs.set i x') hS hB' (by rw [over_length (by rw [hvs]; omega)]; exact hl) (by rw [List.length_set]; exact hc) hm (by rw [List.length_set]; exact h1.imp fun x c _ h => t.step h hg fun k hk e => hk.2 (by injection e))
  rw [List.length_set] at h2
  rw [hv]
  exact h2
def tallyL (N : Nat) (l : List (Int × Int)) : List Int := l.foldl (fun a p => addAt a p.1 p.2) (List.replicate N 0)
theorem tally_snoc (N : Nat) (l : List (Int × Int)) (p : Int × Int) : tallyL N (l ++ [p]) = addAt (tallyL N l) p.1 p.2 := by
 unfold tallyL
 rw [List.foldl_append]
 rfl
theorem tally_fine (N : Nat) (B : Int) (hB : 0 ≤ B) : ∀ (l : List (Int × Int)), (∀ p ∈ l, 0 ≤ p.2 ∧ p.2 ≤ B) → (tallyL N l).length = N ∧ ∀ x ∈ tallyL N l, 0 ≤ x ∧ x ≤ B * l.length := by
 intro l
 obtain ⟨qs, hqs⟩ : ∃ qs, qs = l.reverse := ⟨_, rfl⟩
 rw [show l = qs.reverse by rw [hqs, List.reverse_reverse]]
 clear hqs l
 induction qs with
 | nil =>
  intro _
  refine ⟨by simp [tallyL], fun x hx => ?_⟩
  simp only [tallyL, List.reverse_nil, List.foldl_nil] at hx
  rw [List.eq_of_mem_replicate hx]
  simp
 | cons q qs ih =>
  intro h
  rw [List.reverse_cons, tally_snoc]
  obtain ⟨h1, h2⟩ := ih fun p hp => h p (by rw [List.reverse_cons]; exact List.mem_append_left _ hp)
  refine ⟨by rw [addAt_len, h1], fun x hx => ?_⟩
  have hq := h q (by simp)
  have heq : B * ((qs.reverse ++ [q]).length : Int) = B * ((qs.reverse).length : Int) + B := by rw [List.length_append, List.length_singleton, Int.natCast_add, Int.mul_add]; simp
  rcases List.mem_or_eq_of_mem_set hx with hx | hx
  ·have := h2 x hx; omega
  ·subst hx
   cases hg : (tallyL N qs.reverse)[q.1.toNat]? with
   | none => simp only [Option.getD_none]; have := Int.mul_nonneg hB (Int.natCast_nonneg qs.reverse.length); omega
   | some y =>
    simp only [Option.getD_some]
    have := h2 y (List.mem_of_getElem? hg)
    omega
structure Span where
 lo : Int
 hi : Int
abbrev Span.cells (s : Span) : List Value := [I s.lo, I s.hi]
def spanT : Ty Span := Ty.flat 2 (by decide) Span.cells (fun _ => rfl) (fun x u hu => by simp only [List.mem_cons, List.not_mem_nil, or_false] at hu; rcases hu with rfl | rfl <;> rfl)
theorem reps_spans {w : World} {S : Nat → Prop} (m : Nat) : Reps (spanT.rep w S) (List.replicate m ⟨0, 0⟩) (List.replicate (m * 2) (I 0)) := by
 induction m with
 | zero => rfl
 | succ m ih =>
  refine ⟨[I 0, I 0], List.replicate (m * 2) (I 0), ?_, rfl, ih⟩
  rw [Nat.succ_mul, Nat.add_comm, ← List.replicate_append_replicate]
  rfl
def minSp (s : Span) (n : Int) : Span := ⟨if n < s.lo then n else s.lo, if n > s.hi then n else s.hi⟩
def stepSp (first : Bool) (s : Span) (n : Int) : Span := if first then minSp ⟨n, n⟩ n else minSp s n
def wantedOf (N : Nat) (lets : List Letter) (m : List Int) : List Int := tallyL N (lets.map fun t => (m[t.num.toNat]?.getD 0, t.many))
def wantsTo (N : Nat) (lets : List Letter) (rs : List (Int × List Int)) : Nat → List Span
 | 0 => List.replicate N ⟨0, 0⟩
 | k + 1 => List.zipWith (stepSp (decide (k = 0))) (wantsTo N lets rs k) (wantedOf N lets ((rs[k]?.map (·.2)).getD []))
def mixL (f : Span → Int → Span) (old : List Span) (now : List Int) (h : Nat) : List Span := (List.zipWith f old now).take h ++ old.drop h
theorem mixL_len {f : Span → Int → Span} {old : List Span} {now : List Int} {h : Nat} (hl : now.length = old.length) (hh : h ≤ old.length) : (mixL f old now h).length = old.length := by simp [mixL, hl]; omega
theorem mixL_get {f : Span → Int → Span} {old : List Span} {now : List Int} {h : Nat} (hl : now.length = old.length) (hh : h < old.length) : (mixL f old now h)[h]? = some old[h] := by
 unfold mixL
 rw [List.getElem?_append_right (by simp [hl]; omega)]
 simp [hl]
 rw [Nat.min_eq_left (by omega), Nat.sub_self, Nat.add_zero, List.getElem?_eq_getElem hh]
theorem mixL_succ {f : Span → Int → Span} {old : List Span} {now : List Int} {h : Nat} (hl : now.length = old.length) (hh : h < old.length) : mixL f old now (h + 1) = (mixL f old now h).set h (f old[h] (now[h]'(by omega))) := by
 unfold mixL
 have hz : h < (List.zipWith f old now).length := by simp [hl]; omega
 rw [List.take_succ_eq_append_getElem hz, List.append_assoc, List.set_append_right _ _ (by simp [hl]; omega)]
 congr 1
 rw [List.getElem_zipWith]
 have : h - ((List.zipWith f old now).take h).length = 0 := by simp [hl]; omega
 rw [this, List.drop_eq_getElem_cons hh]
 rfl
theorem wantsTo_len (N : Nat) (lets : List Letter) (rs : List (Int × List Int)) (hm : ∀ t ∈ lets, 0 ≤ t.many ∧ t.many ≤ 1000) : ∀ k, (wantsTo N lets rs k).length = N
 | 0 => by simp [wantsTo]
 | k + 1 => by
  rw [wantsTo, List.length_zipWith, wantsTo_len N lets rs hm k]
  have := (tally_fine N 1000 (by decide) (lets.map fun t => (((rs[k]?.map (·.2)).getD [])[t.num.toNat]?.getD 0, t.many)) (fun p hp => by obtain ⟨t, ht, rfl⟩ := List.mem_map.1 hp; exact hm t ht)).1
  unfold wantedOf
  rw [this, Nat.min_self]
def wantsQ (b : Book) (x : Buyer) : List Span := if lettersE b x = 0 then wantsTo b.goods.length x.lets (lettersL b x) (lettersL b x).length else []
theorem info65 : (Tryz.prog.info? 65).map (fun i => (i.zero, i.size, i.bytes)) = some (some (.agg #[.int .i64 0, .int .i64 0]), 2, 16) := by kernel_rfl
theorem zero2 (m : Nat) : (madeCells (Value.agg #[.int .i64 0, .int .i64 0]).cells (m * 2)).toList = List.replicate (m * 2) (I 0) := by
 refine madeCells_all (u := I 0) (fun i hi => ?_) (by simp [Value.cells]) _
 have h2 : i < 2 := by simpa [Value.cells] using hi
 have : i = 0 ∨ i = 1 := by omega
 rcases this with rfl | rfl <;> rfl
theorem Ty.Row.putS {e : TypeId} {w : World} {S : Nat → Prop} {v : Value} {xs : List Span} (h : spanT.Row e w S v xs) (i : Nat) (hi : i < xs.length) (s : Span) (hs : xs[i]? = some s) :
  ∃ g cap cs, v = .slice (some ⟨g, 0, none⟩) xs.length cap ∧ S g ∧ Blk w g cs e ∧ i * 2 + 2 ≤ cs.length ∧ w.cell? ⟨g, 0 + i * 2 + 0, none⟩ = some (I s.lo) ∧ w.cell? ⟨g, 0 + i * 2 + 1, none⟩ = some (I s.hi) ∧
   ∀ (x' : Span) w', Blk w' g (over cs (0 + i * 2) x'.cells) e → w.grownBy w' (some g) → spanT.Row e w' S v (xs.set i x') := by
 obtain ⟨g, cap, cs, hv, hS, hB, hl, hrep, hput⟩ := h.putE i hi
 have hsz : spanT.sz = 2 := rfl
 rw [hsz] at hl
 have hs' : xs[i] = s := by rw [List.getElem?_eq_getElem hi] at hs; injection hs
 have hrep' : (cs.drop (i * 2)).take 2 = [I s.lo, I s.hi] := by rw [← hs']; exact hrep
 have h0 : cs[i * 2]? = some (I s.lo) := by
  have h2 : ((cs.drop (i * 2)).take 2)[0]? = some (I s.lo) := by rw [hrep']; rfl
  rw [List.getElem?_take, if_pos (by omega), List.getElem?_drop] at h2
  simpa using h2
 have h1 : cs[i * 2 + 1]? = some (I s.hi) := by
  have h2 : ((cs.drop (i * 2)).take 2)[1]? = some (I s.hi) := by rw [hrep']; rfl
  rw [List.getElem?_take, if_pos (by omega), List.getElem?_drop] at h2
  simpa using h2
 refine ⟨g, cap, cs, hv, hS, hB, hl, by rw [hB.cell]; simpa using h0, by rw [hB.cell]; simpa using h1, fun x' w' hB' hg => hput x' x'.cells w' rfl ?_ hg⟩
 rw [hsz]
 simpa using hB'
attribute [local irreducible] lettersL readsL openedL tallyL wantsTo mixL
theorem f37_calls {S T : Nat → Prop} (b : Book) (gA : Option Addr) (gc : Nat) (eA : Option Addr) (ec : Nat) (x : Buyer) (lA : Option Addr) (lc : Nat) (w : World) (hI : BookIn w S b gA gc eA ec) (hX : BuyIn w T x lA lc) :
  Calls Tryz.prog 37 #[.agg (b.cells gA gc eA ec).toArray, .agg (x.cells lA lc).toArray] w fun e w' => ∃ v, e = .returned (.tuple #[v, I (lettersE b x)]) ∧ spanT.Row 65 w' (fun k => w.heap.size ≤ k) v (wantsQ b x) ∧ w.grownBy w' none := by
 refine s_enter (n := 97) Tryz.func37 rfl rfl rfl ?_
 have G := grown_refl w none
 refine s_rseq fun _ k1 => ?_
 refine o_box (t := 25) rfl ?_; intro w1 B2 g1 z1
 replace G := G.step0 g1; replace hI := hI.step0 g1; replace hX := hX.step0 g1
 refine o_box (t := 47) rfl ?_; intro w2 B3 g2 z2
 replace G := G.step0 g2; replace hI := hI.step0 g2; replace hX := hX.step0 g2; replace B2 := B2.step0 g2
 refine o_v v_assign ?_
 refine o_v v_assign ?_
 refine o_end (k1 _ _ ?_)
 refine s_rseq fun _ k2 => ?_
 refine o_v (v_loadBS rfl ag25 B2 rfl rfl) ?_
 refine o_v (v_loadBS rfl ag47 B3 rfl rfl) ?_
 refine o_call rfl rfl ent90 (f90_calls b gA gc eA ec x lA lc _ hI hX) ?_; rintro _ w3 ⟨av, rfl, hav, g3⟩; refine ⟨_, rfl, ?_⟩
 replace G := G.step0 g3; replace hI := hI.step0 g3; replace hX := hX.step0 g3; replace B2 := B2.step0 g3; replace B3 := B3.step0 g3
 refine o_v v_move ?_
 refine o_v (v_extract rfl rfl) ?_
 refine o_v (v_extract rfl rfl) ?_
 refine o_v v_assign ?_
 refine o_v v_assign ?_
 refine o_end (k2 _ _ ?_)
 refine s_seq fun _ k3 => ?_
 refine s_rseq fun _ k4 => ?_
 refine o_v v_move ?_
 refine o_v (v_neq rfl rfl) ?_
 refine o_end (k4 _ _ ?_)
 refine s_ifd rfl (fun c4 => ?_) (fun c4 => ?_)
 ·refine s_rseq fun _ k5 => ?_
  refine o_v v_move ?_
  refine o_v v_assign ?_
  refine o_v v_assign ?_
  refine o_end (k5 _ _ ?_)
  refine s_ret (post2 rfl ?_)
  refine ⟨_, rfl, ?_, G⟩
  unfold wantsQ
  rw [if_neg (by exact c4)]
  exact Ty.Row.nil _ _ _ _
 ·have he0 : lettersE b x = 0 := by
   apply Classical.byContradiction
   exact c4
  obtain ⟨hok, hbuy, hne⟩ := lettersE_ok he0
  obtain ⟨hfew, hrok⟩ := letters_ok he0
  have hgd := Book.ok_goods hok
  have hbo := buy_ok hbuy
  obtain ⟨rs, hrs⟩ : ∃ rs, rs = lettersL b x := ⟨_, rfl⟩
  unfold lettersQ at hav
  rw [if_pos he0, ← hrs] at hav
  rw [← hrs] at hfew hrok
  obtain ⟨aA, ac, hae, _, _, has⟩ := hav.reads
  subst hae
  obtain ⟨N, hN⟩ : ∃ N, N = b.goods.length := ⟨_, rfl⟩
  have hwl := wantsTo_len N x.lets rs (fun t ht => (hbo.2.2.2 t ht).2)
  refine s_skip ?_
  refine k3 _ _ ?_
  refine s_rseq fun _ k6 => ?_
  refine o_v (v_field rfl fld25_0) ?_
  refine o_v (v_loadB rfl sc22 B2 rfl) ?_
  refine o_v (v_len rfl Tryz.underlying22) ?_
  refine o_make (t := spanT) (S := fun j => w3.heap.size ≤ j) (xs := List.replicate N ⟨0, 0⟩) (m := N) (cs := List.replicate (N * 2) (I 0)) (by rw [hN]; rfl) (by rw [hN]; rfl) Tryz.underlying59 info65 (zero2 N) (fun _ _ => reps_spans N) (List.length_replicate) (by omega) (by omega) (fun _ h => h) ?_
  intro wS hout gS zS
  replace hout := hout.narrow (fun _ _ _ _ _ h => h)
  replace hout : spanT.Row 65 wS (fun k => k = w3.heap.size) (.slice (some ⟨w3.heap.size, 0, none⟩) N N) (wantsTo N x.lets rs 0) := by unfold wantsTo; exact hout.mono fun k hk => by simp only [Value.ownBlock, Option.some.injEq] at hk; exact hk.symm
  refine o_v v_assign ?_
  refine o_end (k6 _ _ ?_)
  refine s_seq fun _ k7 => ?_
  refine s_rseq fun _ k8 => ?_
  refine o_v v_move ?_
  refine o_v (v_len rfl Tryz.underlying151) ?_
  refine o_v v_move ?_
  refine o_end (k8 _ _ ?_)
  refine s_block ?_
  refine s_loop (G := Nat) (fun g => [(31, I g)]) [31] [9, 10, 11, 13, 14, 15, 32, 33, 34, 35, 36, 37, 38, 39, 40, 41, 42, 43, 44, 45, 46, 47, 48, 49, 50, 51, 52, 53, 54, 55, 56, 57, 58, 59, 60, 61, 62, 63, 64, 65, 66, 67, 68, 69, 70, 71, 72, 73, 74, 75, 76, 77, 78, 79, 80, 81, 82, 83, 84, 85, 86, 87, 88, 89, 90, 91, 92, 93, 94, 95] (fun g W => (g ≤ rs.length ∧ spanT.Row 65 W (fun k => k = w3.heap.size) (.slice (some ⟨w3.heap.size, 0, none⟩) N N) (wantsTo N x.lets rs g)) ∧ w3.grownBy W none) (fun g => rs.length - g) (fun _ => rfl) 0 ⟨rfl, trivial⟩ ⟨⟨Nat.zero_le _, hout⟩, gS⟩ ?_
  rintro g jv w4 ⟨⟨hk, hout⟩, g4⟩
  replace G := G.step0 g4; replace hI := hI.step0 g4; replace hX := hX.step0 g4; replace B2 := B2.step0 g4; replace B3 := B3.step0 g4
  refine s_rseq fun _ k9 => ?_
  refine o_v (v_lss rfl rfl) ?_
  refine o_end (k9 _ _ ?_)
  refine s_seq fun _ k10 => ?_
  refine s_ifd rfl (fun c10 => ?_) (fun c10 => ?_)
  ·have hlt : g < rs.length := by omega
   obtain ⟨br, or_, cr, rfl, _, hrepr, hrgr⟩ := (has.step0 g4).get g hlt
   obtain ⟨mA, mc, rfl, hm1, hm2, hmean⟩ := readT_iff.1 hrepr
   rw [readT_sz] at hrgr
   have hro := (hrok _ (List.getElem_mem hlt)).len
   obtain ⟨m, hme⟩ : ∃ m, m = rs[g].2 := ⟨_, rfl⟩
   have hmq : (rs[g]?.map (·.2)).getD [] = m := by rw [List.getElem?_eq_getElem hlt, hme]; rfl
   rw [← hme] at hmean hm1 hro hrgr
   refine s_skip ?_
   refine k10 _ _ ?_
   refine s_seq fun _ k11 => ?_
   refine s_block ?_
   refine s_rseq fun _ k12 => ?_
   refine o_v v_move ?_
   refine o_v (v_index rfl rfl slt151 (by omega)) ?_
   refine o_v (v_loadR rfl ag155 hrgr rfl) ?_
   refine o_allocst1 ze155 rfl rfl rfl sz155 rfl rfl rfl ?_; intro w5 B10 g5 z5
   replace G := G.step0 g5; replace hI := hI.step0 g5; replace hX := hX.step0 g5; replace B2 := B2.step0 g5; replace B3 := B3.step0 g5; replace g4 := g4.step0 g5
   replace hout := hout.step0 g5; replace hmean := hmean.step0 g5; have hout5 := hout
   refine o_end (k12 _ _ ?_)
   refine s_rseq fun _ k13 => ?_
   refine o_v (v_field rfl fld25_0) ?_
   refine o_v (v_loadB rfl sc22 B2 rfl) ?_
   refine o_v (v_len rfl Tryz.underlying22) ?_
   refine o_make (t := Ty.int) (S := fun j => w5.heap.size ≤ j) (xs := List.replicate N 0) (m := N) (cs := List.replicate N (I 0)) (by rw [hN]; rfl) (by rw [hN]; rfl) Tryz.underlying56 info3 (by rw [show N * Ty.int.sz = N from Nat.mul_one _]; exact toList_madeCells_one _ _) (fun _ _ => reps_zeros N) (List.length_replicate) (by omega) (by omega) (fun _ h => h) ?_
   intro wN hnow gN zN
   replace hnow := hnow.narrow (fun _ _ _ _ _ h => h)
   obtain ⟨pr, hpr⟩ : ∃ pr : Letter → Int × Int, pr = fun t => (m[t.num.toNat]?.getD 0, t.many) := ⟨_, rfl⟩
   have hprm : ∀ t ∈ x.lets, 0 ≤ (pr t).2 ∧ (pr t).2 ≤ 1000 := fun t ht => by rw [hpr]; exact (hbo.2.2.2 t ht).2
   have hfine : ∀ j, (tallyL N ((x.lets.take j).map pr)).length = N ∧ ∀ y ∈ tallyL N ((x.lets.take j).map pr), 0 ≤ y ∧ y ≤ 1000 * ((x.lets.take j).map pr).length := fun j => tally_fine N 1000 (by decide) _ fun p hp => by obtain ⟨t, ht, rfl⟩ := List.mem_map.1 hp; exact hprm t (List.mem_of_mem_take ht)
   replace hnow : Ty.int.Row 3 wN (fun k => k = w5.heap.size) (.slice (some ⟨w5.heap.size, 0, none⟩) N N) (tallyL N ((x.lets.take 0).map pr)) := by unfold tallyL; exact hnow.mono fun k hk => by simp only [Value.ownBlock, Option.some.injEq] at hk; exact hk.symm
   refine o_v v_assign ?_
   refine o_end (k13 _ _ ?_)
   refine s_seq fun _ k14 => ?_
   refine s_rseq fun _ k15 => ?_
   refine o_v (v_field rfl fld47_1) ?_
   refine o_v (v_loadB rfl sc45 (B3.step0 gN) rfl) ?_
   refine o_v (v_len rfl Tryz.underlying45) ?_
   refine o_v v_move ?_
   refine o_end (k15 _ _ ?_)
   refine s_block ?_
   refine s_loop (G := Nat) (fun j => [(43, I j)]) [43] [13, 44, 45, 46, 47, 48, 49, 50, 51, 52, 53, 54, 55, 56, 57, 58, 59, 60] (fun j W => (j ≤ x.lets.length ∧ Ty.int.Row 3 W (fun k => k = w5.heap.size) (.slice (some ⟨w5.heap.size, 0, none⟩) N N) (tallyL N ((x.lets.take j).map pr))) ∧ w5.grownBy W none) (fun j => x.lets.length - j) (fun _ => rfl) 0 ⟨rfl, trivial⟩ ⟨⟨Nat.zero_le _, hnow⟩, gN⟩ ?_
   rintro j jv w6 ⟨⟨hj, hnow⟩, g6⟩
   replace G := G.step0 g6; replace hI := hI.step0 g6; replace hX := hX.step0 g6; replace B2 := B2.step0 g6; replace B3 := B3.step0 g6; replace g4 := g4.step0 g6; replace B10 := B10.step0 g6
   replace hout := hout.step0 g6; replace hmean := hmean.step0 g6
   refine s_rseq fun _ k16 => ?_
   refine o_v (v_lss rfl rfl) ?_
   refine o_end (k16 _ _ ?_)
   refine s_seq fun _ k17 => ?_
   refine s_ifd rfl (fun c17 => ?_) (fun c17 => ?_)
   ·have hjlt : j < x.lets.length := by omega
    obtain ⟨bl, ol, cl, rfl, _, hrepl, hrgl⟩ := hX.lets.get j hjlt
    obtain rfl : cl = x.lets[j].cells := hrepl
    rw [show letT.sz = 4 from rfl] at hrgl
    have hnum := hbo.2.2.2 _ (List.getElem_mem hjlt)
    obtain ⟨ll, hlle⟩ : ∃ ll, ll = x.lets[j] := ⟨_, rfl⟩
    rw [← hlle] at hrgl hnum
    refine s_skip ?_
    refine k17 _ _ ?_
    refine s_seq fun _ k18 => ?_
    refine s_block ?_
    refine s_rseq fun _ k19 => ?_
    refine o_v (v_index rfl rfl slt45 (by omega)) ?_
    refine o_v (v_loadR rfl ag67 hrgl rfl) ?_
    refine o_allocst ze67 rfl rfl rfl sz67 rfl rfl rfl ?_; intro w7 B13 g7 z7
    replace G := G.step0 g7; replace hI := hI.step0 g7; replace hX := hX.step0 g7; replace B2 := B2.step0 g7; replace B3 := B3.step0 g7; replace g4 := g4.step0 g7; replace B10 := B10.step0 g7; replace g6 := g6.step0 g7
    replace hnow := hnow.step0 g7; replace hmean := hmean.step0 g7
    obtain ⟨bm, om, rfl, hcm⟩ := hmean.int ll.num.toNat (by omega)
    have hgv : m[ll.num.toNat]?.getD 0 = m[ll.num.toNat]'(by omega) := by rw [List.getElem?_eq_getElem (by omega)]; rfl
    have hgr := hro.2 _ (List.getElem_mem (show ll.num.toNat < m.length by omega))
    rw [← hgv] at hcm hgr
    obtain ⟨gv, hgve⟩ : ∃ gv, gv = m[ll.num.toNat]?.getD 0 := ⟨_, rfl⟩
    rw [← hgve] at hcm hgr
    have hlf := hfine j
    obtain ⟨gl, cap, csl, hlv, rfl, hBl, hlc, hcl, hput⟩ := hnow.putI gv.toNat (by omega)
    obtain ⟨lo, hlo⟩ : ∃ lo, lo = (tallyL N ((x.lets.take j).map pr))[gv.toNat]'(by omega) := ⟨_, rfl⟩
    have hlob := hlf.2 _ (List.getElem_mem (show gv.toNat < (tallyL N ((x.lets.take j).map pr)).length by omega))
    rw [← hlo] at hcl hlob
    have hlt4 : ((x.lets.take j).map pr).length ≤ 4 := by rw [List.length_map, List.length_take]; omega
    refine o_end (k19 _ _ ?_)
    refine s_quietT 13 mixed (by kernel_rfl) (by kernel_rfl) ?_
    refine q_v (fun _ gq => v_move) ?_
    refine q_v (fun _ gq => v_field rfl fld155_1) ?_
    refine q_v (fun _ gq => v_loadB rfl sc56 (B10.step0 gq) rfl) ?_
    refine q_v (fun _ gq => v_field rfl fld67_0) ?_
    refine q_v (fun _ gq => v_loadB rfl sc3 (B13.step0 gq) rfl) ?_
    refine q_v (fun _ gq => v_index rfl rfl slt56 (by omega)) ?_
    refine q_v (fun _ gq => v_loadC rfl sc3 (cell0 gq hcm)) ?_
    refine q_v (fun _ gq => v_index rfl rfl slt56 (by omega)) ?_
    refine q_v (fun _ gq => v_loadC rfl sc3 (cell0 gq hcl)) ?_
    refine q_v (fun _ gq => v_field rfl fld67_2) ?_
    refine q_v (fun _ gq => v_loadB rfl sc3 (B13.step0 gq) rfl) ?_
    refine q_v (fun _ gq => v_add rfl rfl (by omega)) ?_
    refine q_v (fun _ gq => v_index rfl rfl slt56 (by omega)) ?_
    refine q_end (fun w8 g8 => ?_)
    replace hBl := hBl.step0 g8
    refine o_storeB (vs := [I (lo + ll.many)]) rfl rfl sz3 rfl hBl (by rw [Nat.ble_eq]; simp; omega) rfl ?_; intro w9 hBl g9 z9
    refine o_end ?_
    refine k18 _ _ ?_
    refine s_region ?_
    refine o_v (v_add rfl rfl (by omega)) ?_
    refine o_v v_move ?_
    refine o_end ?_
    refine mid (j + 1) ?_ ?_ ?_
    ·repeat (first | exact off_refl | refine off_cons rfl ?_)
    ·exact ⟨rfl, trivial⟩
    ·have g79 : w7.grownBy w9 (some w5.heap.size) := World.grownBy.trans (grown_weak g8) g9
     refine ⟨⟨⟨hjlt, ?_⟩, grown_own g6 g79 (Nat.le_refl _)⟩, by omega⟩
     have := hput _ _ hBl g79
     rw [List.take_succ_eq_append_getElem hjlt, List.map_append, List.map_singleton, tally_snoc, ← hlle]
     have hp1 : (pr ll).1 = gv := by rw [hpr, hgve]
     have hp2 : (pr ll).2 = ll.many := by rw [hpr]
     unfold addAt
     rw [hp1, hp2, List.getElem?_eq_getElem (by omega), Option.getD_some, ← hlo]
     exact this
   ·obtain rfl : j = x.lets.length := by omega
    rw [List.take_length] at hnow
    have hlf := hfine x.lets.length
    rw [List.take_length] at hlf
    have hwant : wantedOf N x.lets m = tallyL N (x.lets.map pr) := by unfold wantedOf; rw [hpr]
    obtain ⟨nows, hnows⟩ : ∃ nows, nows = tallyL N (x.lets.map pr) := ⟨_, rfl⟩
    rw [← hnows] at hnow hlf hwant
    obtain ⟨olds, holds⟩ : ∃ olds, olds = wantsTo N x.lets rs g := ⟨_, rfl⟩
    have hol := hwl g
    rw [← holds] at hout hol
    have hnl : nows.length = olds.length := by rw [hlf.1, hol]
    obtain ⟨st, hst⟩ : ∃ st, st = stepSp (decide (g = 0)) := ⟨_, rfl⟩
    have hw35 : w3.heap.size < w5.heap.size := by
     have h1 : IsC w5 w3.heap.size := by
      obtain ⟨h0, inner, ho, _⟩ := hout5
      exact Ty.own_isC ho _ rfl
     exact h1.lt
    have hmix0 : spanT.Row 65 w6 (fun k => k = w3.heap.size) (.slice (some ⟨w3.heap.size, 0, none⟩) N N) (mixL st olds nows 0) := by
     have : mixL st olds nows 0 = olds := by unfold mixL; simp
     rw [this]; exact hout
    refine s_exit ?_
    refine k14 _ _ ?_
    refine s_rseq fun _ k20 => ?_
    refine o_v v_move ?_
    refine o_v (v_len rfl Tryz.underlying56) ?_
    refine o_v v_move ?_
    refine o_end (k20 _ _ ?_)
    refine s_block ?_
    refine s_loop (G := Nat) (fun h => [(63, I h)]) [63] [14, 15, 64, 65, 66, 67, 68, 69, 70, 71, 72, 73, 74, 75, 76, 77, 78, 79, 80, 81, 82, 83, 84, 85, 86, 87, 88, 89, 90, 91, 92, 93, 94] (fun h W => (h ≤ N ∧ spanT.Row 65 W (fun k => k = w3.heap.size) (.slice (some ⟨w3.heap.size, 0, none⟩) N N) (mixL st olds nows h)) ∧ w6.grownBy W (some w3.heap.size)) (fun h => N - h) (fun _ => rfl) 0 ⟨rfl, trivial⟩ ⟨⟨Nat.zero_le _, hmix0⟩, grown_refl _ _⟩ ?_
    rintro h jv w10 ⟨⟨hh, hmix⟩, g10⟩
    have hnow10 := hnow.step g10 (fun k hk e => by injection e; omega)
    refine s_rseq fun _ k21 => ?_
    refine o_v (v_lss rfl rfl) ?_
    refine o_end (k21 _ _ ?_)
    refine s_seq fun _ k22 => ?_
    refine s_ifd rfl (fun c22 => ?_) (fun c22 => ?_)
    ·have hhN : h < N := by omega
     have hidx : 0 ≤ (h : Int) ∧ (h : Int) < (N : Nat) := ⟨Int.natCast_nonneg _, by exact_mod_cast hhN⟩
     have hml := mixL_len (f := st) hnl (show h ≤ olds.length by omega)
     have hmg := mixL_get (f := st) hnl (show h < olds.length by omega)
     have hms := mixL_succ (f := st) hnl (show h < olds.length by omega)
     obtain ⟨nA, nc, hnv, _, _, hns⟩ := hnow10.reads
     rw [hlf.1] at hnv
     obtain ⟨rfl, rfl⟩ : some ⟨w5.heap.size, 0, none⟩ = nA ∧ N = nc := by simpa using hnv
     obtain ⟨bn, on, hbe, hcn⟩ := hns.int h (by omega)
     obtain ⟨rfl, rfl⟩ : w5.heap.size = bn ∧ 0 = on := by simpa using hbe
     obtain ⟨nv, hnve⟩ : ∃ nv, nv = nows[h]'(by omega) := ⟨_, rfl⟩
     rw [← hnve] at hcn hms
     obtain ⟨s0, hs0⟩ : ∃ s0, s0 = olds[h]'(by omega) := ⟨_, rfl⟩
     rw [← hs0] at hmg hms
     obtain ⟨cur, hcur⟩ : ∃ cur, cur = mixL st olds nows h := ⟨_, rfl⟩
     rw [← hcur] at hmix hml hmg hms
     have hcl : h < cur.length := by rw [hml, hol]; exact hhN
     have hset : (cur.set h ⟨nv, nv⟩)[h]? = some (⟨nv, nv⟩ : Span) := List.getElem?_set_self hcl
     have hsel : h < (cur.set h (⟨nv, nv⟩ : Span)).length := by rw [List.length_set]; exact hcl
     obtain ⟨gk, cap, css, hsv, rfl, hBs, hsl, hlo, hhi, hput⟩ := hmix.putS h hcl s0 hmg
     clear hsv
     refine s_skip ?_
     refine k22 _ _ ?_
     refine s_seq fun _ k23 => ?_
     refine s_block ?_
     refine s_rseq fun _ k24 => ?_
     refine o_v v_move ?_
     refine o_v (v_index rfl rfl slt56 hidx) ?_
     refine o_v (v_loadC rfl sc3 hcn) ?_
     refine o_v v_assign ?_
     refine o_v v_assign ?_
     refine o_end (k24 _ _ ?_)
     refine s_seq fun _ k25 => ?_
     refine s_rseq fun _ k26 => ?_
     refine o_v v_move ?_
     refine o_v (v_eql rfl rfl) ?_
     refine o_end (k26 _ _ ?_)
     refine s_ifd rfl (fun c26 => ?_) (fun c26 => ?_)
     ·refine s_region ?_
      refine o_v v_move ?_
      refine o_v v_move ?_
      refine o_v v_move ?_
      refine o_v v_move ?_
      refine o_v (v_build rfl (fun W => bld65_01 W)) ?_
      refine o_v (v_index rfl rfl slt59 hidx) ?_
      refine o_storeB (vs := (⟨nv, nv⟩ : Span).cells) rfl rfl sz65 rfl hBs (by rw [Nat.ble_eq]; show 0 + h * 2 + 2 ≤ css.length; rw [Nat.zero_add]; exact hsl) rfl ?_; intro w11 hBs g11 z11
      replace hmix := hput ⟨nv, nv⟩ w11 hBs g11
      have hq := Ty.Row.putS hmix h hsel (⟨nv, nv⟩ : Span) hset
      clear hmix hput hlo hhi hBs
      obtain ⟨gk2, cap2, css2, hsv2, hgk2, hq⟩ := hq
      obtain ⟨hBs, hsl2, hlo, hhi, hput2⟩ := hq
      subst hgk2
      clear hsv2
      refine o_end ?_
      refine k25 _ _ ?_
      refine s_quietT 18 mixed (by kernel_rfl) (by kernel_rfl) ?_
      refine q_v (fun _ gq => v_move) ?_
      refine q_v (fun _ gq => v_move) ?_
      refine q_v (fun _ gq => v_move) ?_
      refine q_v (fun _ gq => v_move) ?_
      refine q_v (fun _ gq => v_index rfl rfl slt59 hidx) ?_
      refine q_v (fun _ gq => v_field rfl fld65_0) ?_
      refine q_v (fun _ gq => v_loadC rfl sc3 (cell0 gq hlo)) ?_
      refine q_v (fun _ gq => v_move) ?_
      refine q_v (fun _ gq => v_min rfl rfl) ?_
      refine q_v (fun _ gq => v_move) ?_
      refine q_v (fun _ gq => v_move) ?_
      refine q_v (fun _ gq => v_index rfl rfl slt59 hidx) ?_
      refine q_v (fun _ gq => v_field rfl fld65_1) ?_
      refine q_v (fun _ gq => v_loadC rfl sc3 (cell0 gq hhi)) ?_
      refine q_v (fun _ gq => v_move) ?_
      refine q_v (fun _ gq => v_max rfl rfl) ?_
      refine q_v (fun _ gq => v_build rfl (fun W => bld65_01 W)) ?_
      refine q_v (fun _ gq => v_index rfl rfl slt59 hidx) ?_
      refine q_end (fun w12 g12 => ?_)
      replace hBs := hBs.step0 g12
      refine o_storeB (vs := (minSp ⟨nv, nv⟩ nv).cells) rfl rfl sz65 rfl hBs (by rw [Nat.ble_eq]; show 0 + h * 2 + 2 ≤ css2.length; rw [Nat.zero_add]; exact hsl2) rfl ?_; intro w13 hBs g13 zs
      refine o_end ?_
      refine k23 _ _ ?_
      refine s_region ?_
      refine o_v (v_add rfl rfl (by omega)) ?_
      refine o_v v_move ?_
      refine o_end ?_
      refine mid (h + 1) ?_ ?_ ?_
      ·repeat (first | exact off_refl | refine off_cons rfl ?_)
      ·exact ⟨rfl, trivial⟩
      ·have g1113 : w11.grownBy w13 (some w3.heap.size) := World.grownBy.trans (grown_weak g12) g13
       have := hput2 _ _ hBs g1113
       rw [List.set_set] at this
       refine ⟨⟨⟨hhN, ?_⟩, World.grownBy.trans (World.grownBy.trans g10 g11) g1113⟩, by omega⟩
       rw [hms, hst]
       unfold stepSp
       rw [if_pos (by rw [decide_eq_true_eq]; omega)]
       exact this
     ·refine s_skip ?_
      refine k25 _ _ ?_
      refine s_quietT 18 mixed (by kernel_rfl) (by kernel_rfl) ?_
      refine q_v (fun _ gq => v_move) ?_
      refine q_v (fun _ gq => v_move) ?_
      refine q_v (fun _ gq => v_move) ?_
      refine q_v (fun _ gq => v_move) ?_
      refine q_v (fun _ gq => v_index rfl rfl slt59 hidx) ?_
      refine q_v (fun _ gq => v_field rfl fld65_0) ?_
      refine q_v (fun _ gq => v_loadC rfl sc3 (cell0 gq hlo)) ?_
      refine q_v (fun _ gq => v_move) ?_
      refine q_v (fun _ gq => v_min rfl rfl) ?_
      refine q_v (fun _ gq => v_move) ?_
      refine q_v (fun _ gq => v_move) ?_
      refine q_v (fun _ gq => v_index rfl rfl slt59 hidx) ?_
      refine q_v (fun _ gq => v_field rfl fld65_1) ?_
      refine q_v (fun _ gq => v_loadC rfl sc3 (cell0 gq hhi)) ?_
      refine q_v (fun _ gq => v_move) ?_
      refine q_v (fun _ gq => v_max rfl rfl) ?_
      refine q_v (fun _ gq => v_build rfl (fun W => bld65_01 W)) ?_
      refine q_v (fun _ gq => v_index rfl rfl slt59 hidx) ?_
      refine q_end (fun w14 g14 => ?_)
      replace hBs := hBs.step0 g14
      refine o_storeB (vs := (minSp s0 nv).cells) rfl rfl sz65 rfl hBs (by rw [Nat.ble_eq]; show 0 + h * 2 + 2 ≤ css.length; rw [Nat.zero_add]; exact hsl) rfl ?_; intro w15 hBs g15 zs
      refine o_end ?_
      refine k23 _ _ ?_
      refine s_region ?_
      refine o_v (v_add rfl rfl (by omega)) ?_
      refine o_v v_move ?_
      refine o_end ?_
      refine mid (h + 1) ?_ ?_ ?_
      ·repeat (first | exact off_refl | refine off_cons rfl ?_)
      ·exact ⟨rfl, trivial⟩
      ·have g1015 : w10.grownBy w15 (some w3.heap.size) := World.grownBy.trans (grown_weak g14) g15
       have := hput _ _ hBs g1015
       refine ⟨⟨⟨hhN, ?_⟩, World.grownBy.trans g10 g1015⟩, by omega⟩
       rw [hms, hst]
       unfold stepSp
       rw [if_neg (by rw [decide_eq_true_eq]; omega)]
       exact this
    ·obtain rfl : h = N := by omega
     refine s_exit ?_
     refine k11 _ _ ?_
     refine s_region ?_
     refine o_v (v_add rfl rfl (by omega)) ?_
     refine o_v v_move ?_
     refine o_end ?_
     refine mid (g + 1) ?_ ?_ ?_
     ·repeat (first | exact off_refl | refine off_cons rfl ?_)
     ·exact ⟨rfl, trivial⟩
     ·refine ⟨⟨⟨hlt, ?_⟩, grown_own g4 g10 (Nat.le_refl _)⟩, by omega⟩
      have hfull : mixL st olds nows h = wantsTo h x.lets rs (g + 1) := by
       rw [wantsTo, ← holds, hmq, hwant, ← hst]
       unfold mixL
       rw [List.take_of_length_le (by simp; omega), List.drop_eq_nil_of_le (by omega), List.append_nil]
      rw [← hfull]
      exact hmix
  ·refine s_exit ?_
   refine k7 _ _ ?_
   refine s_rseq fun _ k27 => ?_
   refine o_v v_move ?_
   refine o_v v_assign ?_
   refine o_v v_assign ?_
   refine o_end (k27 _ _ ?_)
   refine s_ret (post2 rfl ?_)
   obtain rfl : g = rs.length := by omega
   refine ⟨_, congrArg (fun z => Ending.returned (.tuple #[.slice (some ⟨w3.heap.size, 0, none⟩) N N, I z])) he0.symm, ?_, G⟩
   unfold wantsQ
   rw [if_pos he0, ← hrs, ← hN]
   exact hout.mono fun k hk => by have := g1.size; have := g2.size; have := g3.size; omega
end Go.Proofs.NV
namespace Go.Proofs.NV
open Go.RowKit Go.Shelf
def keepV (v : Value) : Option (DataW Value × List MemPlace) := some (.held v, [])
def cntF (f : Int → Option Value) : Nat := ((List.range 601).filter fun a : Nat => (f (a : Int)).isSome).length
theorem cntF_le (f : Int → Option Value) : cntF f ≤ 601 := by
 unfold cntF
 exact Nat.le_trans (List.length_filter_le _ _) (by simp)
def putF (f : Int → Option Value) (a : Int) (v : Value) : Int → Option Value := fun x => if x = a then some v else f x
theorem filter_put (p q : Nat → Bool) (a : Nat) (hpq : ∀ x, x ≠ a → q x = p x) (hp : p a = false) (hq : q a = true) : ∀ l : List Nat, l.Nodup → a ∈ l → (l.filter q).length = (l.filter p).length + 1
 | [], _, h => by cases h
 | x :: l, hn, hm => by
  rw [List.nodup_cons] at hn
  by_cases hx : x = a
  ·subst hx
   rw [List.filter_cons_of_pos hq, List.filter_cons_of_neg (by rw [hp]; decide), List.length_cons]
   congr 2
   exact List.filter_congr fun y hy => hpq y (fun e => hn.1 (e ▸ hy))
  ·have ih := filter_put p q a hpq hp hq l hn.2 (by
    rcases List.mem_cons.1 hm with h | h
    ·exact absurd h.symm hx
    ·exact h)
   by_cases hpx : p x = true
   ·rw [List.filter_cons_of_pos hpx, List.filter_cons_of_pos (by rw [hpq x hx]; exact hpx), List.length_cons, List.length_cons, ih]
   ·rw [List.filter_cons_of_neg hpx, List.filter_cons_of_neg (by rw [hpq x hx]; exact hpx), ih]
theorem cntF_put {f : Int → Option Value} {a : Int} (v : Value) (ha : 1 ≤ a ∧ a ≤ 600) (hf : f a = none) : cntF (putF f a v) = cntF f + 1 := by
 unfold cntF
 refine filter_put _ _ a.toNat (fun x hx => ?_) ?_ ?_ _ List.nodup_range (by rw [List.mem_range]; omega)
 ·unfold putF
  rw [if_neg (by omega)]
 ·rw [show ((a.toNat : Nat) : Int) = a by omega, hf]; rfl
 ·unfold putF
  rw [if_pos (by omega)]; rfl
def MapIs (P : Program) (w : World) (b : Nat) (f : Int → Option Value) : Prop :=
 ∃ n D, w.ownsMap P 3 keepV b n D ∧ n ≤ cntF f ∧ Maps.IsMap D ∧ ∀ a : Int, 1 ≤ a ∧ a ≤ 600 → Maps.has D (.int .i64 a) = (f a).isSome ∧ ∀ v, f a = some v → ∀ z, D.atKey (.int .i64 a) z = .held v
section
variable {P : Program} {w w' : World} {b : Nat} {f : Int → Option Value}
theorem MapIs.lt (h : MapIs P w b f) : b < w.heap.size := by obtain ⟨n, D, h1, _⟩ := h; exact h1.lt
theorem MapIs.step {row : Option Nat} (h : MapIs P w b f) (g : w.grownBy w' row) (hne : some b ≠ row) : MapIs P w' b f := by
 obtain ⟨n, D, h1, h2⟩ := h
 exact ⟨n, D, h1.kept g hne, h2⟩
theorem MapIs.step0 (h : MapIs P w b f) (g : w.grownBy w' none) : MapIs P w' b f := h.step g (by simp)
theorem MapIs.notC (h : MapIs P w b f) : ¬ IsC w b := by
 obtain ⟨n, D, ⟨es, clock, hb, _⟩, _⟩ := h
 rintro ⟨o, h1, h2⟩
 rw [hb] at h1
 cases h1
 cases h2
theorem keyOf64 (hk : P.underlying 3 = some (.int .i64)) {a : Int} (ha : 1 ≤ a ∧ a ≤ 600) : keyOf P 3 (.int .i64 a) = some (.int .i64 a) := by
 refine Maps.keyOf_int_mk hk ?_
 simp only [Lit.wf, Bool.and_eq_true, decide_eq_true_eq]
 have h1 : IntKind.i64.min = -9223372036854775808 := by decide
 have h2 : IntKind.i64.max = 9223372036854775807 := by decide
 omega
theorem MapIs.look (h : MapIs P w b f) {t e : TypeId} {z : Value} (hk : P.underlying 3 = some (.int .i64)) (ht : P.underlying t = some (.map 3 e)) (hz : Ze P e z) {a : Int} (ha : 1 ≤ a ∧ a ≤ 600) :
  (Instr.lookup t (.map (some b)) (.int .i64 a) true).run P w = .ok (.tuple #[(f a).getD z, .bool (f a).isSome]) w := by
 obtain ⟨n, D, h1, _, _, h2⟩ := h
 obtain ⟨i, hi, hzz⟩ := Option.bind_eq_some_iff.1 hz
 have hzv : (zeroValue e).run P w = .ok z w := by simp [zeroValue, typeInfo, hi, hzz]
 obtain ⟨v, ps, hrun, hR⟩ := h1.look_ok (Maps.int_keyed hk) ht hzv (zd := .held z) (zp := []) rfl (keyOf64 hk ha)
 obtain ⟨h3, h4⟩ := h2 a ha
 rw [h3] at hrun
 have hv : DataW.held v = D.atKey (.int .i64 a) (.held z) := by
  have := hR
  simp only [keepV, Option.some.injEq, Prod.mk.injEq] at this
  exact this.1
 cases hf : f a with
 | none =>
  rw [hf] at h3
  rw [Maps.atKey_of_not_has h3] at hv
  rw [hf] at hrun
  injection hv with hv
  rw [hv] at hrun
  exact hrun
 | some u =>
  rw [h4 u hf] at hv
  injection hv with hv
  rw [hf, hv] at hrun
  exact hrun
theorem MapIs.put (h : MapIs P w b f) {t e : TypeId} (hk : P.underlying 3 = some (.int .i64)) (ht : P.underlying t = some (.map 3 e)) {a : Int} (ha : 1 ≤ a ∧ a ≤ 600) (hf : f a = none) (v : Value) :
  ∃ w', (Instr.mapUpdate t (.map (some b)) (.int .i64 a) v).run P w = .ok () w' ∧ MapIs P w' b (putF f a v) ∧ w.grownBy w' (some b) := by
 obtain ⟨n, D, h1, hn, hD, h2⟩ := h
 have := cntF_le f
 obtain ⟨w', hrun, h3, h4⟩ := h1.store (Maps.int_keyed hk) ht (by unfold maxLen; omega) (keyOf64 hk ha) (val := v) (d := .held v) (ps := []) rfl
 refine ⟨w', hrun, ⟨n + 1, _, h3, by rw [cntF_put v ha hf]; omega, hD.put _ _, fun c hc => ?_⟩, h4.grown⟩
 by_cases hca : c = a
 ·subst hca
  refine ⟨?_, fun u hu z => ?_⟩
  ·rw [Maps.has_put_same hD (by trivial)]
   unfold putF; rw [if_pos rfl]; rfl
  ·rw [Maps.atKey_put_same hD (by trivial)]
   unfold putF at hu; rw [if_pos rfl] at hu
   injection hu with hu; rw [hu]
 ·have hne : (Lit.int .i64 c) ≠ .int .i64 a := fun e => hca (by injection e)
  obtain ⟨h5, h6⟩ := h2 c hc
  refine ⟨?_, fun u hu z => ?_⟩
  ·rw [Maps.has_put_other hne, h5]
   unfold putF; rw [if_neg hca]
  ·rw [Maps.atKey_put_other hne]
   unfold putF at hu; rw [if_neg hca] at hu
   exact h6 u hu z
theorem MapIs.made (P : Program) (w : World) : MapIs P (w.alloc (.map #[] 0)) w.heap.size (fun _ => none) :=
 ⟨0, .map [], World.ownsMap_made w P 3 keepV, Nat.zero_le _, Maps.isMap_empty, fun a _ => ⟨rfl, fun v h => by cases h⟩⟩
end
section ops
variable {r : Option Nat} {P : Program} {ops : Array Oper} {Q : Exit → Act → World → Prop} {rest : List Oper} {n : Nat} {e : Env} {ds : List Deferred} {w : World} {d : Nat} {ty : TypeId} {ps : String} {af : Array Edge}
theorem v_lookup {t et b : Nat} {f : Int → Option Value} {z : Value} {x y : Operand} {a : Int} (hx : ev n e x = .map (some b)) (hy : ev n e y = .int .i64 a) (h : MapIs P w b f) (hk : P.underlying 3 = some (.int .i64)) (ht : P.underlying t = some (.map 3 et)) (hz : Ze P et z) (ha : 1 ≤ a ∧ a ≤ 600) :
  (execOp (ev n e) ⟨some d, .lookup t x y true, ty, ps, af, none⟩).run P w = .ok (.value (.tuple #[(f a).getD z, .bool (f a).isSome])) w := by
 simp [execOp, hx, hy, h.look hk ht hz ha]
theorem o_mapPut {t et b : Nat} {f : Int → Option Value} {x y u : Operand} {a : Int} {v : Value} (hx : ev n e x = .map (some b)) (hy : ev n e y = .int .i64 a) (hu : ev n e u = v) (h : MapIs P w b f) (hk : P.underlying 3 = some (.int .i64)) (ht : P.underlying t = some (.map 3 et)) (ha : 1 ≤ a ∧ a ≤ 600) (hf : f a = none)
  (hw : ∀ w', MapIs P w' b (putF f a v) → w.grownBy w' (some b) → wl r P ops Q rest (act n e ds) w') :
  wl r P ops Q (⟨none, .mapUpdate t x y u, ty, ps, af, none⟩ :: rest) (act n e ds) w := by
 obtain ⟨w', hrun, h1, h2⟩ := h.put hk ht ha hf v
 refine o_none (fun _ => by simp) (w' := w') ?_ (hw w' h1 h2)
 simp [execOp, hx, hy, hu, hrun, Result.andThen]
theorem o_makeMap {t : TypeId} (hw : ∀ w', MapIs P w' w.heap.size (fun _ => none) → w.grownBy w' none → wl r P ops Q rest (act n ((d, .map (some w.heap.size)) :: e) ds) w') :
  wl r P ops Q (⟨some d, .makeMap t none, ty, ps, af, none⟩ :: rest) (act n e ds) w := by
 refine o_val (fun _ => by simp) (w' := w.alloc (.map #[] 0)) (v := .map (some w.heap.size)) ?_ (hw _ (MapIs.made P w) (World.grownBy_alloc w _ _))
 simp [execOp, run_makeMap, Result.andThen]
end ops
end Go.Proofs.NV
namespace Go.Proofs.NV
open Go.RowKit Go.Shelf
attribute [local irreducible] bodyPost bodyPostM wpQuiet
structure Pack where
 holds : Int
 price : Int
abbrev Pack.cells (k : Pack) : List Value := [I k.holds, I k.price]
def packT : Ty Pack := Ty.flat 2 (by decide) Pack.cells (fun _ => rfl) (fun x u hu => by simp only [List.mem_cons, List.not_mem_nil, or_false] at hu; rcases hu with rfl | rfl <;> rfl)
structure Packed where
 list : List Int
 price : Int
def packedT : Ty Packed := (Ty.int.sl.pair Ty.int).iso fun p => (p.list, p.price)
theorem packedT_sz : packedT.sz = 2 := rfl
theorem packedT_iff {w : World} {S : Nat → Prop} {p : Packed} {cs : List Value} : packedT.rep w S p cs ↔ ∃ A c, cs = [.slice A p.list.length c, I p.price] ∧ p.list.length ≤ c ∧ c ≤ maxLen ∧ Ty.int.Sl w S A p.list := by
 constructor
 ·rintro ⟨c0, c1, rfl, ⟨A, c, rfl, h1, h2, h3⟩, h4⟩
  obtain rfl : c1 = [I p.price] := h4
  exact ⟨A, c, rfl, h1, h2, h3⟩
 ·rintro ⟨A, c, rfl, h1, h2, h3⟩
  exact ⟨_, _, rfl, ⟨A, c, rfl, h1, h2, h3⟩, rfl⟩
def betterP (a b : Packed) : Bool := if a.price ≠ b.price then decide (a.price < b.price) else if sumL a.list ≠ sumL b.list then decide (sumL a.list < sumL b.list) else decide (cmpL a.list b.list < 0)
def Packed.fine (p : Packed) : Prop := p.list.length ≤ 1000 ∧ ∀ x ∈ p.list, 0 ≤ x ∧ x ≤ 1000000
theorem f148_calls {S T : Nat → Prop} (x y : Packed) (cx cy : List Value) (w : World) (hx : packedT.rep w S x cx) (hy : packedT.rep w T y cy) (fx : x.fine) (fy : y.fine) :
  Calls Tryz.prog 148 #[.agg cx.toArray, .agg cy.toArray] w fun e w' => e = .returned (.bool (betterP x y)) ∧ w.grownBy w' none := by
 obtain ⟨xA, xc, rfl, hx1, hx2, hx3⟩ := packedT_iff.1 hx
 obtain ⟨yA, yc, rfl, hy1, hy2, hy3⟩ := packedT_iff.1 hy
 refine s_enter (n := 35) Tryz.func148 rfl rfl rfl ?_
 have G := grown_refl w none
 refine s_rseq fun _ k1 => ?_
 refine o_box (t := 167) rfl ?_; intro w1 B2 g1 z1
 replace G := G.step0 g1
 refine o_box (t := 167) rfl ?_; intro w2 B3 g2 z2
 replace G := G.step0 g2; replace B2 := B2.step0 g2
 refine o_v v_assign ?_
 refine o_end (k1 _ _ ?_)
 refine s_seq fun _ k2 => ?_
 refine s_rseq fun _ k3 => ?_
 refine o_v (v_field rfl fld167_1) ?_
 refine o_v (v_loadB rfl sc3 B2 rfl) ?_
 refine o_v (v_field rfl fld167_1) ?_
 refine o_v (v_loadB rfl sc3 B3 rfl) ?_
 refine o_v (v_neq rfl rfl) ?_
 refine o_end (k3 _ _ ?_)
 refine s_ifd rfl (fun c3 => ?_) (fun c3 => ?_)
 ·refine s_rseq fun _ k4 => ?_
  refine o_v (v_field rfl fld167_1) ?_
  refine o_v (v_loadB rfl sc3 B2 rfl) ?_
  refine o_v (v_field rfl fld167_1) ?_
  refine o_v (v_loadB rfl sc3 B3 rfl) ?_
  refine o_v (v_lss rfl rfl) ?_
  refine o_v v_assign ?_
  refine o_end (k4 _ _ ?_)
  refine s_ret (post1 rfl ?_)
  refine ⟨ret_bool ?_, G⟩
  unfold betterP
  rw [if_pos c3]
 ·refine s_skip ?_
  refine k2 _ _ ?_
  refine s_seq fun _ k5 => ?_
  refine s_seq fun _ k6 => ?_; refine s_quiet mixed (by kernel_rfl) ?_
  refine q_v (fun _ gq => v_field rfl fld167_0) ?_
  refine q_v (fun _ gq => v_loadB rfl sc56 (B2.step0 gq) rfl) ?_
  refine q_call rfl rfl ent108 (fun wq gq => by have := f108_calls xA xc x.list wq ((hx3.step0 (g1.step0 g2)).step0 gq) (by have := fx.1; omega) (fun u hu => by have := fx.2 u hu; omega); exact this) ?_
  refine q_v (fun _ gq => v_field rfl fld167_0) ?_
  refine q_v (fun _ gq => v_loadB rfl sc56 (B3.step0 gq) rfl) ?_
  refine q_call rfl rfl ent108 (fun wq gq => by have := f108_calls yA yc y.list wq ((hy3.step0 (g1.step0 g2)).step0 gq) (by have := fy.1; omega) (fun u hu => by have := fy.2 u hu; omega); exact this) ?_
  refine q_v (fun _ gq => v_assign) ?_
  refine q_v (fun _ gq => v_assign) ?_
  refine q_end (fun w5 g5 => k6 _ _ ?_)
  replace G := G.step0 g5; replace B2 := B2.step0 g5; replace B3 := B3.step0 g5
  refine s_rseq fun _ k7 => ?_
  refine o_v v_move ?_
  refine o_v v_move ?_
  refine o_v (v_neq rfl rfl) ?_
  refine o_end (k7 _ _ ?_)
  refine s_ifd rfl (fun c7 => ?_) (fun c7 => ?_)
  ·refine s_rseq fun _ k8 => ?_
   refine o_v v_move ?_
   refine o_v v_move ?_
   refine o_v (v_lss rfl rfl) ?_
   refine o_v v_assign ?_
   refine o_end (k8 _ _ ?_)
   refine s_ret (post1 rfl ?_)
   refine ⟨ret_bool ?_, G⟩
   unfold betterP
   rw [if_neg c3, if_pos c7]
  ·refine s_skip ?_
   refine k5 _ _ ?_
   refine s_rseq fun _ k9 => ?_
   refine o_v (v_field rfl fld167_0) ?_
   refine o_v (v_loadB rfl sc56 B2 rfl) ?_
   refine o_v (v_field rfl fld167_0) ?_
   refine o_v (v_loadB rfl sc56 B3 rfl) ?_
   refine o_call rfl rfl ent99 (f99_calls xA xc x.list yA yc y.list _ (hx3.step0 G) (hy3.step0 G) (by have := fx.1; omega) (by have := fy.1; omega)) ?_; rintro _ w6 ⟨rfl, g6⟩; refine ⟨_, rfl, ?_⟩
   replace G := G.step0 g6; replace B2 := B2.step0 g6; replace B3 := B3.step0 g6
   refine o_v (v_lss rfl rfl) ?_
   refine o_v v_assign ?_
   refine o_end (k9 _ _ ?_)
   refine s_ret (post1 rfl ?_)
   refine ⟨ret_bool ?_, G⟩
   unfold betterP
   rw [if_neg c3, if_neg c7]
abbrev zeroPacked : List Value := [.slice none 0 0, I 0]
theorem packed_two {w : World} {S : Nat → Prop} {p : Packed} {cs : List Value} (h : packedT.rep w S p cs) : cs.length = 2 ∧ cs.all (·.oneCell') = true := ⟨packedT.hlen h, by rw [List.all_eq_true]; exact packedT.hone h⟩
def BestC (w : World) (S : Nat → Prop) (o : Option Packed) (cs : List Value) : Prop := (o = none ∧ cs = zeroPacked) ∨ ∃ q, o = some q ∧ packedT.rep w S q cs
theorem BestC.two {w : World} {S : Nat → Prop} {o : Option Packed} {cs : List Value} (h : BestC w S o cs) : cs.length = 2 ∧ cs.all (·.oneCell') = true := by
 rcases h with ⟨_, rfl⟩ | ⟨q, _, h⟩
 ·exact ⟨rfl, rfl⟩
 ·exact packed_two h
theorem BestC.step {w w' : World} {S : Nat → Prop} {o : Option Packed} {cs : List Value} {row : Option Nat} (h : BestC w S o cs) (g : w.grownBy w' row) (hS : ∀ k, S k → some k ≠ row) : BestC w' S o cs := by
 rcases h with h | ⟨q, h1, h⟩
 ·exact .inl h
 ·exact .inr ⟨q, h1, packedT.step h g hS⟩
theorem BestC.step0 {w w' : World} {S : Nat → Prop} {o : Option Packed} {cs : List Value} (h : BestC w S o cs) (g : w.grownBy w' none) : BestC w' S o cs := h.step g (fun _ _ => by simp)
theorem f147_calls {S : Nat → Prop} (w : World) (bt : Packed → Packed → Bool) (Fn : Packed → Prop) (f : FuncId) (hf : Ent Tryz.prog f) (hbt : ∀ x y cx cy W, packedT.rep W (fun k => S k ∧ IsC w k) x cx → packedT.rep W (fun k => S k ∧ IsC w k) y cy → Fn x → Fn y → Calls Tryz.prog f #[.agg cx.toArray, .agg cy.toArray] W fun e w' => e = .returned (.bool (bt x y)) ∧ W.grownBy w' none)
  (A : Option Addr) (c : Nat) (xs : List Packed) (hx : packedT.Sl w S A xs) (hm : xs.length ≤ 1000000) (hFn : ∀ x ∈ xs, Fn x) :
  Calls Tryz.prog 147 #[.slice A xs.length c, .func (.func f) #[] #[]] w fun e w' => ∃ cs, e = .returned (.tuple #[.agg cs.toArray, .bool (decide (0 < (xs.length : Int)))]) ∧ BestC w' (fun k => S k ∧ IsC w k) (bestL bt xs) cs ∧ w.grownBy w' none := by
 refine s_enter (n := 30) Tryz.func147 rfl rfl rfl ?_
 have G := grown_refl w none
 replace hx := hx.bound
 refine s_rseq fun _ k1 => ?_
 refine o_alloc (t := 167) ze167 rfl ?_; intro w1 B4 g1 z1
 replace G := G.step0 g1
 refine o_v v_assign ?_
 refine o_end (k1 _ _ ?_)
 refine s_rseq fun _ k2 => ?_
 have B4a := B4
 refine o_alloc (t := 167) ze167 rfl ?_; intro w2 B6 g2 z2
 replace G := G.step0 g2; replace B4 := B4.step0 g2
 refine o_end (k2 _ _ ?_)
 refine s_seq fun _ k3 => ?_
 refine s_rseq fun _ k4 => ?_
 refine o_v v_move ?_
 refine o_v (v_len rfl Tryz.underlying207) ?_
 refine o_v v_move ?_
 refine o_end (k4 _ _ ?_)
 refine s_block ?_
 refine s_loop (G := Nat) (fun g => [(11, I g)]) [11] [7, 8, 12, 13, 14, 15, 16, 17, 18, 19, 20, 21, 22, 23, 24, 25] (fun g W => (g ≤ xs.length ∧ ∃ cs, BestC W (fun k => S k ∧ IsC w k) (bestL bt (xs.take g)) cs ∧ Blk W w1.heap.size cs 167) ∧ w1.grownBy W none) (fun g => xs.length - g) (fun _ => rfl) 0 ⟨rfl, trivial⟩ ⟨⟨Nat.zero_le _, zeroPacked, .inl ⟨rfl, rfl⟩, B6⟩, g2⟩ ?_
 rintro g jv w3 ⟨⟨hg, csb, hbest, B6⟩, g3⟩
 replace G := g1.step0 g3; replace B4 := B4a.step0 g3
 refine s_rseq fun _ k5 => ?_
 refine o_v (v_lss rfl rfl) ?_
 refine o_end (k5 _ _ ?_)
 refine s_seq fun _ k6 => ?_
 refine s_ifd rfl (fun c6 => ?_) (fun c6 => ?_)
 ·have hlt : g < xs.length := by omega
  obtain ⟨bx, ox, cx, rfl, _, hrep, hrg⟩ := ((hx.step0 g1).step0 g3).get g hlt
  have hcx := packed_two hrep
  rw [packedT_sz] at hrg
  obtain ⟨oo, hoo⟩ : ∃ o : Packed, g = 0 ∨ bestL bt (xs.take g) = some o := by
   by_cases h0 : g = 0
   ·exact ⟨xs[g], .inl h0⟩
   ·obtain ⟨o, ho⟩ := bestL_some bt (l := xs.take g) (by intro e; have := congrArg List.length e; rw [List.length_take, List.length_nil] at this; omega)
    exact ⟨o, .inr ho⟩
  have htake : xs.take (g + 1) = xs.take g ++ [xs[g]] := List.take_succ_eq_append_getElem hlt
  refine s_skip ?_
  refine k6 _ _ ?_
  refine s_seq fun _ k7 => ?_
  refine s_block ?_
  refine s_rseq fun _ k8 => ?_
  refine o_v v_move ?_
  refine o_v (v_index rfl rfl slt207 (by omega)) ?_
  refine o_v (v_loadR rfl ag167 hrg hcx.1) ?_
  refine o_allocst1 (vs := cx) ze167 rfl rfl rfl sz167 hcx.1 rfl hcx.2 ?_; intro w4 B8 g4 z4
  replace hbest := hbest.step0 g4; replace hrep := packedT.step0 hrep g4
  replace G := G.step0 g4; replace B4 := B4.step0 g4; replace B6 := B6.step0 g4; replace g3 := g3.step0 g4
  refine o_end (k8 _ _ ?_)
  refine s_rseq fun _ k9 => ?_
  refine o_v v_move ?_
  refine o_v (v_eql rfl rfl) ?_
  refine o_v v_move ?_
  refine o_mid (G := Unit) 5 (fun _ => [(23, .bool (decide ((g : Int) = 0) || bt xs[g] oo))]) [23] [19, 20, 21, 22] (fun _ w' => w4.grownBy w' none) (fun _ => rfl) ?_ ?_
  ·have H1 := grown_refl w4 none
   rcases Bool.eq_false_or_eq_true (decide ((g : Int) = 0)) with hX1 | hX1
   ·refine g_no rfl rfl rfl hX1 ?_
    refine g_no rfl rfl rfl hX1 ?_
    refine g_no rfl rfl rfl hX1 ?_
    refine g_no rfl rfl rfl hX1 ?_
    refine o_v (v_pick_t rfl hX1) ?_
    refine o_end (mid () ?_ ?_ ?_)
    ·repeat (first | exact off_refl | refine off_cons rfl ?_)
    ·exact ⟨by rw [hX1]; rfl, trivial⟩
    ·exact H1
   ·have hg0 : g ≠ 0 := fun h => by rw [h] at hX1; simp at hX1
    have hoo' := hoo.resolve_left hg0
    have hrb : packedT.rep w4 (fun k => S k ∧ IsC w k) oo csb := by
     rcases hbest with ⟨h, _⟩ | ⟨q, h, hr⟩
     ·rw [hoo'] at h; cases h
     ·rw [hoo'] at h; injection h with h; rw [h]; exact hr
    refine g_yes rfl rfl rfl hX1 ?_
    refine o_v v_move ?_
    refine g_yes rfl rfl rfl hX1 ?_
    refine o_v (v_loadBS (vs := cx) rfl ag167 B8 (by rw [List.drop_zero, List.take_of_length_le (by rw [hcx.1]; decide)]) hcx.1) ?_
    refine g_yes rfl rfl rfl hX1 ?_
    refine o_v (v_loadBS (vs := csb) rfl ag167 B6 (by rw [List.drop_zero, List.take_of_length_le (by rw [(packed_two hrb).1]; decide)]) (packed_two hrb).1) ?_
    refine g_yes rfl rfl rfl hX1 ?_
    refine o_call rfl rfl hf (hbt xs[g] oo _ _ _ hrep hrb (hFn _ (List.getElem_mem hlt)) (hFn _ (List.mem_of_mem_take (bestL_mem hoo')))) ?_; rintro _ w5 ⟨rfl, g5⟩; refine ⟨_, rfl, ?_⟩
    replace G := G.step0 g5; replace B4 := B4.step0 g5; replace B6 := B6.step0 g5; replace g3 := g3.step0 g5; replace B8 := B8.step0 g5; replace H1 := H1.step0 g5
    refine o_v (v_pick_f rfl hX1) ?_
    refine o_end (mid () ?_ ?_ ?_)
    ·repeat (first | exact off_refl | refine off_cons rfl ?_)
    ·exact ⟨by rw [hX1]; rfl, trivial⟩
    ·exact H1
  ·rintro _ jv w6 g6
   replace G := G.step0 g6; replace B4 := B4.step0 g6; replace B6 := B6.step0 g6; replace g3 := g3.step0 g6; replace B8 := B8.step0 g6
   replace hbest := hbest.step0 g6; replace hrep := packedT.step0 hrep g6
   refine o_end (k9 _ _ ?_)
   refine s_if rfl (fun c9 => ?_) (fun c9 => ?_)
   ·refine s_region ?_
    refine o_v (v_loadBS (vs := cx) rfl ag167 B8 (by rw [List.drop_zero, List.take_of_length_le (by rw [hcx.1]; decide)]) hcx.1) ?_
    rw [Bool.or_eq_true, decide_eq_true_eq] at c9
    have hcb := hbest.two
    refine o_storeB (vs := cx) rfl rfl sz167 hcx.1 B6 (by rw [hcx.1, hcb.1]; rfl) hcx.2 ?_; intro w7 B6 g7 z7
    rw [over_all (by rw [hcx.1, hcb.1])] at B6
    have hkw : ∀ k, S k ∧ IsC w k → some k ≠ some w1.heap.size := fun k hk e => by injection e with e; have := hk.2.lt; omega
    refine o_end ?_
    refine k7 _ _ ?_
    refine s_region ?_
    refine o_v (v_add rfl rfl (by omega)) ?_
    refine o_v v_move ?_
    refine o_end ?_
    refine mid (g + 1) ?_ ?_ ?_
    ·repeat (first | exact off_refl | refine off_cons rfl ?_)
    ·exact ⟨rfl, trivial⟩
    ·refine ⟨⟨⟨hlt, cx, .inr ⟨xs[g], ?_, packedT.step hrep g7 hkw⟩, B6⟩, grown_own g3 g7 (by omega)⟩, by omega⟩
     rw [htake]
     rcases hoo with h0 | h0
     ·subst h0
      rfl
     ·rw [bestL_snoc h0]
      by_cases hb : bt xs[g] oo = true
      ·rw [if_pos hb]
      ·have : g = 0 := by
        rcases c9 with h | h
        ·omega
        ·exact absurd h hb
       subst this
       cases h0
   ·refine s_skip ?_
    refine k7 _ _ ?_
    refine s_region ?_
    refine o_v (v_add rfl rfl (by omega)) ?_
    refine o_v v_move ?_
    refine o_end ?_
    refine mid (g + 1) ?_ ?_ ?_
    ·repeat (first | exact off_refl | refine off_cons rfl ?_)
    ·exact ⟨rfl, trivial⟩
    ·rw [Bool.or_eq_false_iff, decide_eq_false_iff_not] at c9
     have h0 := hoo.resolve_left (by omega)
     refine ⟨⟨⟨hlt, csb, ?_, B6⟩, g3⟩, by omega⟩
     rw [htake, bestL_snoc h0, c9.2, if_neg (by decide), ← h0]
     exact hbest
 ·obtain rfl : g = xs.length := by omega
  rw [List.take_length] at hbest
  have hcb := hbest.two
  refine s_exit ?_
  refine k3 _ _ ?_
  refine s_rseq fun _ k10 => ?_
  refine o_v (v_loadBS (vs := csb) rfl ag167 B6 (by rw [List.drop_zero, List.take_of_length_le (by rw [hcb.1]; decide)]) hcb.1) ?_
  refine o_v v_move ?_
  refine o_v (v_len rfl Tryz.underlying207) ?_
  refine o_v (v_gtr rfl rfl) ?_
  refine o_storeB (vs := csb) rfl rfl sz167 hcb.1 B4 (by rw [hcb.1]; rfl) hcb.2 ?_; intro w8 B4 g8 z8
  rw [over_all (by rw [hcb.1]; rfl)] at B4
  refine o_v v_assign ?_
  refine o_end (k10 _ _ ?_)
  refine s_ret (postR (res_ct rfl rfl (run_loadVar_ag ag167 B4 hcb.1)) ?_)
  exact ⟨csb, rfl, hbest.step g8 (fun k hk e => by injection e with e; have := hk.2.lt; omega), grown_own G g8 (by omega)⟩
theorem f102_calls (x : Pack) (w : World) :
  Calls Tryz.prog 102 #[.agg x.cells.toArray] w fun e w' => e = .returned (.bool ((!inB x.holds 1 144) || (!inB x.price 0 1000))) ∧ w.grownBy w' none := by
 refine s_enter (n := 13) Tryz.func102 rfl rfl rfl ?_
 have G := grown_refl w none
 refine s_rseq fun _ k1 => ?_
 refine o_box (t := 164) rfl ?_; intro w1 B1 g1 z1
 replace G := G.step0 g1
 refine o_v v_assign ?_
 refine o_end (k1 _ _ ?_)
 refine s_rseq fun _ k2 => ?_
 refine o_v (v_field rfl fld164_0) ?_
 refine o_v (v_loadB rfl sc3 B1 rfl) ?_
 refine o_call rfl rfl ent100 (f100_calls _ _ _ _) ?_; rintro _ w2 ⟨rfl, g2⟩; refine ⟨_, rfl, ?_⟩
 replace G := G.step0 g2; replace B1 := B1.step0 g2
 refine o_v (v_not rfl) ?_
 refine o_v v_move ?_
 refine o_mid (G := Unit) 5 (fun _ => [(12, .bool ((!inB x.holds 1 144) || (!inB x.price 0 1000)))]) [12] [8, 9, 10, 11] (fun _ w' => w2.grownBy w' none) (fun _ => rfl) ?_ ?_
 ·have H1 := grown_refl w2 none
  rcases Bool.eq_false_or_eq_true ((!inB x.holds 1 144)) with hX1 | hX1
  ·refine g_no rfl rfl rfl hX1 ?_
   refine g_no rfl rfl rfl hX1 ?_
   refine g_no rfl rfl rfl hX1 ?_
   refine g_no rfl rfl rfl hX1 ?_
   refine o_v (v_pick_t rfl hX1) ?_
   refine o_end (mid () ?_ ?_ ?_)
   ·repeat (first | exact off_refl | refine off_cons rfl ?_)
   ·exact ⟨by rw [hX1]; rfl, trivial⟩
   ·exact H1
  ·refine g_yes rfl rfl rfl hX1 ?_
   refine o_v (v_field rfl fld164_1) ?_
   refine g_yes rfl rfl rfl hX1 ?_
   refine o_v (v_loadB rfl sc3 B1 rfl) ?_
   refine g_yes rfl rfl rfl hX1 ?_
   refine o_call rfl rfl ent100 (f100_calls _ _ _ _) ?_; rintro _ w3 ⟨rfl, g3⟩; refine ⟨_, rfl, ?_⟩
   replace G := G.step0 g3; replace B1 := B1.step0 g3; replace H1 := H1.step0 g3
   refine g_yes rfl rfl rfl hX1 ?_
   refine o_v (v_not rfl) ?_
   refine o_v (v_pick_f rfl hX1) ?_
   refine o_end (mid () ?_ ?_ ?_)
   ·repeat (first | exact off_refl | refine off_cons rfl ?_)
   ·exact ⟨by rw [hX1]; rfl, trivial⟩
   ·exact H1
 ·rintro _ jv w4 g4
  replace G := G.step0 g4; replace B1 := B1.step0 g4
  refine o_v v_assign ?_
  refine o_end (k2 _ _ ?_)
  refine s_ret (post1 rfl ?_)
  exact ⟨rfl, G⟩
end Go.Proofs.NV
