/- Part of the proof: Walks: open.truths, asked.. Sort, Compact by the shelf; listed.. A region that draws its order: facts that die, each with what is left of it.. -/
import Derived.Test.YtbjnjlgeendakaaGreatDoorKb10
import Derived.Test.YtbjnjlgeendakaaGreatDoorKb1
import Derived.Shelf.Slices.In.SortNone
import Derived.Shelf.Slices.In.CompactI
import Derived.Lib.SortBridge
import Derived.Test.YtbjnjlgeendakaaGreatDoorKb7
set_option linter.unusedVariables false
set_option maxRecDepth 100000
set_option maxHeartbeats 8000000
set_option linter.unusedSimpArgs false
namespace Go.Proofs.NV
open Go.RowKit Go.Shelf
attribute [local irreducible] bodyPost bodyPostM wpQuiet
def truthsL (P : List (List Page)) : Int := sumL ((P[0]?.getD []).map Page.truths)
abbrev opCells (u0 u1 u2 u3 : Value) (pA : Option Addr) (n c : Nat) : List Value := [u0, u1, u2, u3, .slice pA n c]
theorem f79_calls {S : Nat → Prop} (u0 u1 u2 u3 : Value) (pA : Option Addr) (c : Nat) (P : List (List Page)) (w : World) (hx : pageT.sl.Sl w S pA P) (h0 : 0 < P.length) (hf : (P[0]'h0).length ≤ 120) (hb : ∀ p ∈ P[0]'h0, (-1000000 ≤ p.before ∧ p.before ≤ 1000000) ∧ -1000000000000 ≤ p.before * p.after ∧ p.before * p.after ≤ 1000000000000) :
  Calls Tryz.prog 79 #[.agg (opCells u0 u1 u2 u3 pA P.length c).toArray] w fun e w' => e = .returned (I (truthsL P)) ∧ w.grownBy w' none := by
 refine s_enter (n := 23) Tryz.func79 rfl rfl rfl ?_
 have G := grown_refl w none
 refine s_rseq fun _ k1 => ?_
 refine o_box (t := 130) rfl ?_; intro w1 B1 g1 z1
 replace G := G.step0 g1; replace hx := hx.step0 g1
 refine o_v v_assign ?_
 refine o_end (k1 _ _ ?_)
 refine s_rseq fun _ k2 => ?_
 refine o_v v_assign ?_
 refine o_end (k2 _ _ ?_)
 refine s_seq fun _ k3 => ?_
 refine s_rseq fun _ k4 => ?_
 obtain ⟨b0, o0, cs0, rfl, _, ⟨qA, qc, rfl, hq1, hq2, hq3⟩, hr0⟩ := hx.get 0 h0
 have hcell := hr0 0 _ rfl
 simp only [Ty.sl] at hcell
 obtain ⟨ps, hps⟩ : ∃ ps, ps = P[0]'h0 := ⟨_, rfl⟩
 rw [← hps] at hcell hq1 hq3 hf hb
 have htr : truthsL P = sumL (ps.map Page.truths) := by unfold truthsL; rw [List.getElem?_eq_getElem h0, Option.getD_some, hps]
 refine o_v (v_field rfl fld130_1) ?_
 refine o_v (v_loadB rfl sc128 B1 rfl) ?_
 refine o_v (v_index rfl rfl slt128 (by omega)) ?_
 refine o_v (v_loadC rfl sc135 (by simpa using hcell)) ?_
 refine o_v (v_len rfl Tryz.underlying135) ?_
 refine o_v v_move ?_
 refine o_end (k4 _ _ ?_)
 refine s_block ?_
 refine s_loop (G := Nat × Value) (fun g => [(3, g.2), (11, I g.1)]) [3, 11] [5, 12, 13, 14, 15, 16, 17, 18, 19, 20] (fun g W => (g.1 ≤ ps.length ∧ Ty.int.Row 3 W (fun k => w1.heap.size ≤ k) g.2 ((ps.take g.1).map Page.truths)) ∧ w1.grownBy W none) (fun g => ps.length - g.1) (fun _ => rfl) (0, .slice none 0 0) ⟨rfl, rfl, trivial⟩ ⟨⟨Nat.zero_le _, Ty.Row.nil _ _ _ _⟩, grown_refl _ _⟩ ?_
 rintro ⟨g, out⟩ jv w2 ⟨⟨hk, hrow⟩, g2⟩
 simp only at hk hrow ⊢
 replace G := G.step0 g2; replace hx := hx.step0 g2; replace B1 := B1.step0 g2
 refine s_rseq fun _ k5 => ?_
 refine o_v (v_lss rfl rfl) ?_
 refine o_end (k5 _ _ ?_)
 refine s_seq fun _ k6 => ?_
 refine s_ifd rfl (fun c6 => ?_) (fun c6 => ?_)
 ·have hlt : g < ps.length := by omega
  obtain ⟨bp, op, cp, rfl, _, hrepp, hrgp⟩ := (hq3.step0 g2).get g hlt
  obtain ⟨mA, mc, rfl, _⟩ := pageT_iff.1 hrepp
  rw [pageT_sz] at hrgp
  have hbp := hb ps[g] (List.getElem_mem hlt)
  refine s_skip ?_
  refine k6 _ _ ?_
  refine s_seq fun _ k7 => ?_
  refine s_block ?_
  refine s_rseq fun _ k8 => ?_
  refine o_v (v_index rfl rfl slt135 (by omega)) ?_
  refine o_v (v_loadR rfl ag137 hrgp rfl) ?_
  refine o_allocst ze137 rfl rfl rfl sz137 rfl rfl rfl ?_; intro w3 B5 g3 z3
  replace G := G.step0 g3; replace g2 := g2.step0 g3; replace hrow := hrow.step0 g3
  refine o_end (k8 _ _ ?_)
  refine s_region ?_
  refine o_v v_move ?_
  refine o_v (v_loadBS rfl ag137 B5 rfl rfl) ?_
  refine o_call rfl rfl ent80 (f80_calls _ _ _ _ rfl (by omega) (by omega)) ?_; rintro _ w4 ⟨rfl, g4⟩; refine ⟨_, rfl, ?_⟩
  replace G := G.step0 g4; replace g2 := g2.step0 g4; replace hrow := hrow.step0 g4
  refine o_bslice rfl (fun W => bls56_1 W) ?_; intro w5 B18 g5 z5
  replace G := G.step0 g5; replace g2 := g2.step0 g5; replace hrow := hrow.step0 g5
  refine o_append1 (t := Ty.int) (p := ps[g].truths) rfl rfl hrow B18 Tryz.underlying56 info3 rfl rfl (fun k hk => by have := g2.size; omega) (by simp; omega) (by decide) ?_
  intro out' w6 hrow6 g6 hat
  have hge : ∀ k, out.ownBlock = some k → w1.heap.size ≤ k := fun k hk => hrow.1 k hk
  have G6 : w1.grownBy w6 none := ⟨g6.os.trans g2.os, g6.tape.trans g2.tape, g6.output.trans g2.output, Nat.le_trans g2.size g6.size, fun k hk _ => (g6.block k (Nat.lt_of_lt_of_le hk g2.size) (fun e => by have := hge k e.symm; omega)).trans (g2.block k hk (by simp))⟩
  refine o_v v_assign ?_
  refine o_end ?_
  refine k7 _ _ ?_
  refine s_region ?_
  refine o_v (v_add rfl rfl (by omega)) ?_
  refine o_v v_move ?_
  refine o_end ?_
  refine mid (g + 1, out') ?_ ?_ ?_
  ·repeat (first | exact off_refl | refine off_cons rfl ?_)
  ·exact ⟨rfl, rfl, trivial⟩
  ·refine ⟨⟨⟨hlt, ?_⟩, G6⟩, by simp only; omega⟩
   rw [List.take_succ_eq_append_getElem hlt, List.map_append]
   exact hrow6
 ·obtain rfl : g = ps.length := by omega
  rw [List.take_length] at hrow
  obtain ⟨oA, oc, hov, _, _, hos⟩ := hrow.reads
  rw [List.length_map] at hov
  subst hov
  refine s_exit ?_
  refine k3 _ _ ?_
  refine s_rseq fun _ k9 => ?_
  refine o_v v_move ?_
  refine o_call rfl rfl ent108 (by have := f108_calls oA oc (ps.map Page.truths) w2 hos (by rw [List.length_map]; omega) (fun x hx => by obtain ⟨p, hp, rfl⟩ := List.mem_map.1 hx; exact (hb p hp).2); rw [List.length_map] at this; exact this) ?_; rintro _ w6 ⟨rfl, g6⟩; refine ⟨_, rfl, ?_⟩
  replace G := G.step0 g6; replace hx := hx.step0 g6; replace B1 := B1.step0 g6; replace g2 := g2.step0 g6
  refine o_v v_assign ?_
  refine o_end (k9 _ _ ?_)
  refine s_ret (post1 rfl ?_)
  exact ⟨ret_int htr.symm, G⟩
def askedE (b : Book) (fine : Bool) : Int := if (b.ok && fine) = true then (if ((openedL b)[0]?.getD []).length = 0 then 7 else 0) else 2
abbrev zeroOpen : List Value := [.slice none 0 0, .int .i64 0, .int .i64 0, .slice none 0 0, .slice none 0 0]
theorem grown_own {w W W' : World} {b : Nat} (h : w.grownBy W none) (g : W.grownBy W' (some b)) (hb : w.heap.size ≤ b) : w.grownBy W' none := ⟨g.os.trans h.os, g.tape.trans h.tape, g.output.trans h.output, Nat.le_trans h.size g.size, fun k hk _ => (g.block k (Nat.lt_of_lt_of_le hk h.size) (by simp; omega)).trans (h.block k hk (by simp))⟩
theorem openedL_len (b : Book) : (openedL b).length = b.ed.toNat := by unfold openedL pages2 pages0; rw [List.length_map, bwdL_len, fwdL_len, List.length_map, List.length_range]
theorem f78_calls {S : Nat → Prop} (b : Book) (gA : Option Addr) (gc : Nat) (eA : Option Addr) (ec : Nat) (fine : Bool) (w : World) (hI : BookIn w S b gA gc eA ec) :
  Calls Tryz.prog 78 #[.agg (b.cells gA gc eA ec).toArray, .bool fine] w fun e w' => ∃ os, e = .returned (.tuple #[.agg os.toArray, I (askedE b fine)]) ∧ w.grownBy w' none ∧ (askedE b fine ≠ 0 → os = zeroOpen) ∧ (askedE b fine = 0 → ∃ pA c, os = b.cells gA gc eA ec ++ [Value.slice pA (openedL b).length c] ∧ pageT.sl.Sl w' (fun k => w.heap.size ≤ k) pA (openedL b) ∧ (openedL b).length ≤ c ∧ c ≤ maxLen) := by
 refine s_enter (n := 25) Tryz.func78 rfl rfl rfl ?_
 have G := grown_refl w none
 refine s_rseq fun _ k1 => ?_
 refine o_box (t := 25) rfl ?_; intro w1 B2 g1 z1
 replace G := G.step0 g1; replace hI := hI.step0 g1
 refine o_alloc (t := 130) ze130 rfl ?_; intro w2 B4 g2 z2
 replace G := G.step0 g2; replace hI := hI.step0 g2; replace B2 := B2.step0 g2
 refine o_v v_assign ?_
 refine o_end (k1 _ _ ?_)
 refine s_seq fun _ k2 => ?_
 refine s_rseq fun _ k3 => ?_
 refine o_v (v_loadBS rfl ag25 B2 rfl rfl) ?_
 refine o_call rfl rfl ent115 (f115_calls _ _ _ _ _ _ hI) ?_; rintro _ w3 ⟨rfl, g3⟩; refine ⟨_, rfl, ?_⟩
 replace G := G.step0 g3; replace hI := hI.step0 g3; replace B2 := B2.step0 g3; replace B4 := B4.step0 g3
 refine o_v (v_not rfl) ?_
 refine o_v v_move ?_
 refine o_mid (G := Unit) 3 (fun _ => [(13, .bool ((!b.ok) || (!fine)))]) [13] [11, 12] (fun _ w' => w3.grownBy w' none) (fun _ => rfl) ?_ ?_
 ·have H1 := grown_refl w3 none
  rcases Bool.eq_false_or_eq_true ((!b.ok)) with hX1 | hX1
  ·refine g_no rfl rfl rfl hX1 ?_
   refine g_no rfl rfl rfl hX1 ?_
   refine o_v (v_pick_t rfl hX1) ?_
   refine o_end (mid () ?_ ?_ ?_)
   ·repeat (first | exact off_refl | refine off_cons rfl ?_)
   ·exact ⟨by rw [hX1]; rfl, trivial⟩
   ·exact H1
  ·refine g_yes rfl rfl rfl hX1 ?_
   refine o_v v_move ?_
   refine g_yes rfl rfl rfl hX1 ?_
   refine o_v (v_not rfl) ?_
   refine o_v (v_pick_f rfl hX1) ?_
   refine o_end (mid () ?_ ?_ ?_)
   ·repeat (first | exact off_refl | refine off_cons rfl ?_)
   ·exact ⟨by rw [hX1]; rfl, trivial⟩
   ·exact H1
 ·rintro _ jv w4 g4
  replace G := G.step0 g4; replace hI := hI.step0 g4; replace B2 := B2.step0 g4; replace B4 := B4.step0 g4
  refine o_end (k3 _ _ ?_)
  refine s_if rfl (fun c3 => ?_) (fun c3 => ?_)
  ·refine s_rseq fun _ k4 => ?_
   refine o_v (v_build rfl (fun W => bld130_ W)) ?_
   refine o_storeB (vs := zeroOpen) rfl rfl sz130 rfl B4 rfl rfl ?_; intro w5 B4 g5 z5
   refine o_v v_assign ?_
   refine o_end (k4 _ _ ?_)
   refine s_ret (postR (res_ct rfl rfl (run_loadVar_ag ag130 B4 rfl)) ?_)
   have he : askedE b fine = 2 := by
    unfold askedE
    rw [if_neg]
    simp only [Bool.or_eq_true, Bool.not_eq_true', Bool.and_eq_true] at c3 ⊢
    rintro ⟨h1, h2⟩
    rw [h1, h2] at c3
    simp at c3
   exact ⟨zeroOpen, by rw [he]; rfl, grown_own G g5 (by omega), fun _ => rfl, fun h => by rw [he] at h; cases h⟩
  ·obtain ⟨hok, hfine⟩ : b.ok = true ∧ fine = true := by simpa using c3
   have hgd := Book.ok_goods hok
   refine s_skip ?_
   refine k2 _ _ ?_
   refine s_rseq fun _ k5 => ?_
   refine o_v (v_loadBS rfl ag25 B2 rfl rfl) ?_
   refine o_call rfl rfl ent133 (f133_calls b gA gc eA ec _ hI hok) ?_; rintro _ w6 ⟨pA, pc, rfl, hsl, hpl, hpm, g6⟩; refine ⟨_, rfl, ?_⟩
   replace G := G.step0 g6; replace hI := hI.step0 g6; replace B2 := B2.step0 g6; replace B4 := B4.step0 g6
   refine o_allocst ze130 rfl rfl rfl sz130 rfl rfl rfl ?_; intro w7 B6 g7 z7
   replace G := G.step0 g7; replace hI := hI.step0 g7; replace B2 := B2.step0 g7; replace B4 := B4.step0 g7
   refine o_end (k5 _ _ ?_)
   refine s_seq fun _ k6 => ?_
   refine s_rseq fun _ k7 => ?_
   obtain ⟨b0, o0, cs0, rfl, _, ⟨qA, qc, rfl, hq1, hq2, hq3⟩, hr0⟩ := hsl.get 0 (by rw [openedL_len]; omega)
   replace hr0 := range0 g7 hr0
   have hcell := hr0 0 _ rfl
   simp only [Ty.sl] at hcell
   have hP0 : (openedL b)[0]?.getD [] = (openedL b)[0]'(by rw [openedL_len]; omega) := by rw [List.getElem?_eq_getElem (by rw [openedL_len]; omega)]; rfl
   have hlen0 : 0 < (openedL b).length := by rw [openedL_len]; omega
   refine o_v (v_field rfl fld130_1) ?_
   refine o_v (v_loadB rfl sc128 B6 rfl) ?_
   refine o_v (v_index rfl rfl slt128 (by omega)) ?_
   refine o_v (v_loadC rfl sc135 (by simpa using hcell)) ?_
   refine o_v (v_len rfl Tryz.underlying135) ?_
   refine o_v (v_eql rfl rfl) ?_
   refine o_end (k7 _ _ ?_)
   refine s_ifd rfl (fun c7 => ?_) (fun c7 => ?_)
   ·refine s_rseq fun _ k8 => ?_
    refine o_v (v_build rfl (fun W => bld130_ W)) ?_
    refine o_storeB (vs := zeroOpen) rfl rfl sz130 rfl B4 rfl rfl ?_; intro w8 B4 g8 z8
    refine o_v v_assign ?_
    refine o_end (k8 _ _ ?_)
    refine s_ret (postR (res_ct rfl rfl (run_loadVar_ag ag130 B4 rfl)) ?_)
    have he : askedE b fine = 7 := by
     unfold askedE
     rw [if_pos (by rw [hok, hfine]; rfl), hP0, if_pos (by omega)]
    exact ⟨zeroOpen, by rw [he]; rfl, grown_own G g8 (by omega), fun _ => rfl, fun h => by rw [he] at h; cases h⟩
   ·refine s_skip ?_
    refine k6 _ _ ?_
    refine s_rseq fun _ k9 => ?_
    refine o_v (v_loadBS rfl ag130 B6 rfl rfl) ?_
    refine o_storeB (vs := b.cells gA gc eA ec ++ [.slice (some ⟨b0, o0, none⟩) (openedL b).length pc]) rfl rfl sz130 rfl B4 rfl rfl ?_; intro w9 B4 g9 z9
    refine o_v v_assign ?_
    refine o_end (k9 _ _ ?_)
    refine s_ret (postR (res_ct rfl rfl (run_loadVar_ag ag130 B4 rfl)) ?_)
    have he : askedE b fine = 0 := by
     unfold askedE
     rw [if_pos (by rw [hok, hfine]; rfl), hP0, if_neg (by omega)]
    refine ⟨_, by rw [he]; rfl, grown_own G g9 (by omega), fun h => absurd he h, fun _ => ⟨_, pc, rfl, ?_, hpl, hpm⟩⟩
    exact ((hsl.step0 g7).step g9 (fun k hk => by intro e; injection e with e; have := g3.size; have := g4.size; omega)).mono fun k hk => by have := G.size; have := g3.size; have := g4.size; omega
end Go.Proofs.NV
namespace Go.Proofs.NV
open Go.RowKit Go.Shelf
attribute [local irreducible] bodyPost bodyPostM wpQuiet
theorem calls_every {l : List Nat} {n : Nat} {P : Program} {f : FuncId} {args : Array Value} {w : World} {R : Ending → World → Prop} (h : ∀ D, CallsIn (Fence.list l (some D)) n P f args w R) : Calls P f args w R :=
 fun cs => let ⟨e, w', fr, r, s, x⟩ := (h (cs.length + 1 + n)).2 cs (fun d hd => by simp [Fence.list] at hd; omega); ⟨e, w', fr, r, s.comes, x⟩
theorem holds_blk {w : World} {b : Nat} {xs : List Int} {cs : List Value} (hb : Blk w b cs 3) (hc : cs.take xs.length = xs.map I) : Go.Sort.Holds (Value.int .i64) w b 0 xs.toArray := fun j hj => by
 have hj' : j < xs.length := by simpa using hj
 refine ⟨?_, ?_⟩
 ·rw [hb.cell, Nat.zero_add, ← List.getElem?_take_of_lt hj', hc, List.getElem?_map, List.getElem?_eq_getElem hj']
  simp [hj']
 ·simp only [World.frozen?]; rw [show w.heap[(⟨b, 0 + j, none⟩ : Addr).block]? = _ from hb]; simp
theorem grown_grow (w : World) (os : Array Obj) : w.grownBy (Go.Sort.grow w os) none := ⟨rfl, rfl, rfl, by simp [Go.Sort.grow], fun k hk _ => by simp [Go.Sort.grow, Array.getElem?_append, hk]⟩
theorem put_grown {w : World} {b q : Nat} {xs ys : List Int} {cs : List Value} {os : Array Obj} (hb : Blk w b cs 3) (hc : cs.take xs.length = xs.map I) (hl : ys.length = xs.length) (hxl : xs.length ≤ cs.length) :
  Blk (Go.Sort.grow (Go.Sort.putRow (Value.int .i64) (Go.Sort.ahead w q) b 0 ys.toArray) os) b (over cs 0 (ys.map I)) 3 ∧ w.grownBy (Go.Sort.grow (Go.Sort.putRow (Value.int .i64) (Go.Sort.ahead w q) b 0 ys.toArray) os) (some b) := by
 rw [Lib.sorted_world (Value.int .i64) w b 0 q xs.toArray ys os (holds_blk hb hc) (by simpa using hl)]
 have hb2 : Blk (w.drewN q) b cs 3 := hb
 have h1 := setCells_blk (ys.map I) 0 hb2 (by simp; omega)
 have h2 := (setCells_grown b (ys.map I) 0 (w.drewN q)).1
 have h3 := grown_grow ((w.drewN q).setCells b 0 (ys.map I)) os
 exact ⟨h1.step0 h3, World.grownBy.trans (World.grownBy.trans (grown_drewN w q (some b)) h2) (grown_weak h3)⟩
def sortL (xs : List Int) : List Int := xs.mergeSort fun x y => decide (x ≤ y)
def listedL (xs : List Int) : List Int := Lib.compact (sortL xs)
theorem sortL_len (xs : List Int) : (sortL xs).length = xs.length := List.length_mergeSort _
theorem f138_own {S : Nat → Prop} (v : Value) (xs : List Int) (w : World) (hR : Ty.int.Row 3 w S v xs) (hm : xs.length ≤ 1000000) :
  Calls Tryz.prog 138 #[v] w fun e w' => (∃ u, e = .returned u) ∧ Ty.int.Row 3 w' S v (sortL xs) ∧ w.grownBy w' v.ownBlock := by
 by_cases h0 : xs.length = 0
 ·obtain rfl : xs = [] := List.eq_nil_of_length_eq_zero h0
  obtain ⟨A, c, hv, _⟩ := hR.reads
  have hv' : v = .slice A 0 c := hv
  refine Calls.mono (R := fun e w' => e = .returned (.tuple #[]) ∧ w' = w) ?_ ?_
  ·rw [hv']; exact calls_every fun D => AnyS.slices_Sort_int_none_alone Tryz.laysSort D A c w
  ·rintro e w' ⟨rfl, rfl⟩
   exact ⟨⟨_, rfl⟩, by rw [show sortL [] = [] by simp [sortL]]; exact hR, grown_refl _ _⟩
 ·obtain ⟨g, cap, cs, hv, hS, hB, hl, hc, hm2, hreps⟩ := hR.open_ (by omega)
  have hcs := reps_int_eq hreps
  rw [show xs.length * Ty.int.sz = xs.length from Nat.mul_one _] at hcs
  have hl' : cs.length = cap := by simpa [Ty.int, Ty.scalar] using hl
  refine Calls.mono (calls_every (args := #[v]) (f := 138) (n := 66) fun D => by
   have := AnyS.slices_Sort_int_alone Tryz.laysSort D g 0 cap xs w (holds_blk hB hcs) hB.lt (by omega)
   rw [hv]; exact this) ?_
  rintro e w' ⟨rfl, q, os, rfl⟩
  obtain ⟨hB', hg'⟩ := put_grown (q := q) (os := os) hB hcs (sortL_len xs) (by omega)
  refine ⟨⟨_, rfl⟩, ?_, by rw [hv]; exact hg'⟩
  have hov : (over cs 0 ((sortL xs).map I)).take (sortL xs).length = (sortL xs).map I := by
   unfold over
   rw [List.take_zero, List.nil_append]
   exact List.take_left' (by simp)
  have := Ty.Row.close (t := Ty.int) (S := S) (ys := sortL xs) hS hB' (by rw [over_length (by rw [List.length_map, sortL_len]; omega)]; exact hl) (by rw [sortL_len]; exact hc) hm2 (by rw [show (sortL xs).length * Ty.int.sz = (sortL xs).length from Nat.mul_one _, hov]; exact reps_int _)
  rw [sortL_len] at this
  rw [hv]
  exact this
theorem f139_own {S : Nat → Prop} (v : Value) (xs : List Int) (w : World) (hR : Ty.int.Row 3 w S v xs) (hm : xs.length ≤ 1000000) :
  Calls Tryz.prog 139 #[v] w fun e w' => ∃ v', e = .returned v' ∧ Ty.int.Row 3 w' S v' (Lib.compact xs) ∧ w.grownBy w' v.ownBlock ∧ v'.ownBlock = v.ownBlock := by
 have hcl := Lib.compact_length_le xs
 by_cases h0 : xs.length = 0
 ·obtain rfl : xs = [] := List.eq_nil_of_length_eq_zero h0
  obtain ⟨A, c, hv, _⟩ := hR.reads
  have hv' : v = .slice A 0 c := hv
  refine Calls.mono (R := fun e w' => e = .returned (.slice A 0 c) ∧ w' = w) ?_ ?_
  ·rw [hv']; exact calls_every fun D => AnyS.slices_Compact_int_empty_in Tryz.laysCompact D A c w
  ·rintro e w' ⟨rfl, rfl⟩
   have hnil : Lib.compact ([] : List Int) = [] := List.eq_nil_of_length_eq_zero (by simpa using hcl)
   exact ⟨v, by rw [hv'], by rw [hnil]; exact hR, grown_refl _ _, rfl⟩
 ·obtain ⟨g, cap, cs, hv, hS, hB, hl, hc, hm2, hreps⟩ := hR.open_ (by omega)
  have hcs := reps_int_eq hreps
  rw [show xs.length * Ty.int.sz = xs.length from Nat.mul_one _] at hcs
  have hl' : cs.length = cap := by simpa [Ty.int, Ty.scalar] using hl
  refine Calls.mono (calls_every (args := #[v]) (f := 139) (n := 0) fun D => by
   have := AnyS.slices_Compact_int_in Tryz.laysCompact D g 0 cap xs w (holds_blk hB hcs) (by omega) hc
   rw [hv]; exact this) ?_
  rintro e w' ⟨rfl, q, rfl⟩
  obtain ⟨ys, hys⟩ : ∃ ys, ys = Lib.compact xs ++ List.replicate (xs.length - (Lib.compact xs).length) (0 : Int) := ⟨_, rfl⟩
  have hyl : ys.length = xs.length := by rw [hys]; simp; omega
  obtain ⟨hB', hg'⟩ := put_grown (q := q) (os := #[]) hB hcs hyl (by omega)
  rw [Go.Sort.grow_empty] at hB' hg'
  rw [← hys]
  have hov : (over cs 0 (ys.map I)).take (Lib.compact xs).length = (Lib.compact xs).map I := by
   unfold over
   rw [List.take_zero, List.nil_append, hys, List.map_append, List.append_assoc]
   exact List.take_left' (by simp)
  have := Ty.Row.close (t := Ty.int) (S := S) (ys := Lib.compact xs) hS hB' (by rw [over_length (by rw [List.length_map, hyl]; omega)]; exact hl) (by omega) hm2 (by rw [show (Lib.compact xs).length * Ty.int.sz = (Lib.compact xs).length from Nat.mul_one _, hov]; exact reps_int _)
  exact ⟨_, rfl, this, by rw [hv]; exact hg', by rw [hv]; rfl⟩
theorem f91_calls {T S : Nat → Prop} (A : Option Addr) (c : Nat) (xs : List Int) (w : World) (hx : Ty.int.Sl w T A xs) (hm : xs.length ≤ 1000000) (hS : ∀ k, w.heap.size ≤ k → S k) :
  Calls Tryz.prog 91 #[.slice A xs.length c] w fun e w' => ∃ v', e = .returned v' ∧ Ty.int.Row 3 w' S v' (listedL xs) ∧ (∀ k, v'.ownBlock = some k → w.heap.size ≤ k) ∧ w.grownBy w' none := by
 refine s_enter (n := 10) Tryz.func91 rfl rfl rfl ?_
 have G := grown_refl w none
 refine s_rseq fun _ k1 => ?_
 refine o_v v_assign ?_
 refine o_end (k1 _ _ ?_)
 refine s_rseq fun _ k2 => ?_
 refine o_v v_move ?_
 refine o_call rfl rfl ent104 (f104_calls (S := S) A c xs w hx hm hS) ?_; rintro _ w1 ⟨v1, rfl, hR1, hf1, g1⟩; refine ⟨_, rfl, ?_⟩
 replace G := G.step0 g1
 refine o_v v_assign ?_
 refine o_end (k2 _ _ ?_)
 refine s_rseq fun _ k3 => ?_
 refine o_v v_move ?_
 refine o_call rfl rfl ent138 (f138_own v1 xs _ hR1 hm) ?_; rintro _ w2 ⟨⟨u, rfl⟩, hR2, g2⟩; refine ⟨_, rfl, ?_⟩
 have G2 : w.grownBy w2 none := ⟨g2.os.trans G.os, g2.tape.trans G.tape, g2.output.trans G.output, Nat.le_trans G.size g2.size, fun k hk _ => (g2.block k (Nat.lt_of_lt_of_le hk G.size) (fun e => by have := hf1 k e.symm; omega)).trans (G.block k hk (by simp))⟩
 refine o_end (k3 _ _ ?_)
 refine s_rseq fun _ k4 => ?_
 refine o_v v_move ?_
 refine o_call rfl rfl ent139 (f139_own v1 (sortL xs) _ hR2 (by rw [sortL_len]; exact hm)) ?_; rintro _ w3 ⟨v3, rfl, hR3, g3, ho3⟩; refine ⟨_, rfl, ?_⟩
 have G3 : w.grownBy w3 none := ⟨g3.os.trans G2.os, g3.tape.trans G2.tape, g3.output.trans G2.output, Nat.le_trans G2.size g3.size, fun k hk _ => (g3.block k (Nat.lt_of_lt_of_le hk G2.size) (fun e => by have := hf1 k e.symm; omega)).trans (G2.block k hk (by simp))⟩
 refine o_v v_assign ?_
 refine o_end (k4 _ _ ?_)
 refine s_ret (post1 rfl ?_)
 exact ⟨v3, rfl, hR3, fun k hk => hf1 k (by rw [← ho3]; exact hk), G3⟩
end Go.Proofs.NV
namespace Go.Proofs.NV
open Go.RowKit Go.Shelf
section any
variable {r : Option Nat} {P : Program} {Q : Exit → Act → World → Prop} {n : Nat} {e : Env} {ds : List Deferred} {w : World}
theorem any_headU {l : List Oper} {m : Nat} (hB : waitB l m = true) (C : World → Prop) (St : Nat → World → World → Prop) (F : Bool → Nat → Env → Value → World → Prop) (dead : Bool → Nat → Nat → Bool) (Dom : Nat → List Nat) (Rs : Nat → World → Prop) (hRs : ∀ i k W W', i ≠ k → Rs i W → St k W W' → Rs i W')
  (hC : ∀ k W W', C W → St k W W' → C W') (hF : ∀ b i k a v W W', i ≠ k → dead b i k = false → F b i a v W → St k W W' → F b i a v W') (hcong : ∀ b i a1 a2 v W, (∀ d ∈ Dom i, rd a1 d = rd a2 d) → F b i a1 v W → F b i a2 v W)
  (hDom : ∀ i, i < m → ∀ d ∈ Dom i, ∃ j, j ∈ clo l 10 (depsOf l i) ∧ j < m ∧ (l[j]?).bind (·.dst) = some d)
  (hop : ∀ i o, i < m → l[i]? = some o → ∀ e' W, Off (headDs l m) e' e → C W → Rs i W → (∀ b j, j ∈ clo l 10 (depsOf l i) → (∀ x, dead b j x = true → x = i ∨ i ∈ clo l 10 (depsOf l x)) → F b j e' (rdO e' ((l[j]?).bind (·.dst))) W) → wl r P l.toArray (opPostD n ds (St i) (fun a v W => ∀ b, F b i a v W) o.dst e' W) [o] (act n e' ds) W)
  (htail : ∀ e' W, Off (headDs l m) e' e → C W → (∀ b i, i < m → (∀ x, x < m → dead b i x = false) → F b i e' (rdO e' ((l[i]?).bind (·.dst))) W) → wl r P l.toArray Q (l.drop m) (act n e' ds) W) :
  ∀ (fuel : Nat) (listed : Array Bool) (e' : Env) (W : World), listed.size = l.length → (∀ j, listed.getD j false = true → j < m ∧ ∀ d ∈ depsOf l j, listed.getD d false = true) → listed.count false ≤ fuel →
   Off (headDs l m) e' e → C W → (∀ i, i < m → listed.getD i false = false → Rs i W) → (∀ b i, listed.getD i false = true → (∀ x, dead b i x = true → listed.getD x false = false) → F b i e' (rdO e' ((l[i]?).bind (·.dst))) W) → wpAnyIn (Fw r) 0 P .any l.toArray Q fuel listed (act n e' ds) W := by
 have hB' := hB
 simp only [waitB, Bool.and_eq_true, List.all_eq_true, List.mem_range, Bool.or_eq_true, Nat.blt_eq, List.contains_eq_mem, decide_eq_true_eq, Nat.ble_eq] at hB
 obtain ⟨⟨⟨hdep, hap⟩, hml⟩, hcl⟩ := hB
 have tolist : ∀ (fuel : Nat) (listed : Array Bool) (e' : Env) (W : World), listed.size = l.length → (∀ j, listed.getD j false = true → j < m ∧ ∀ d ∈ depsOf l j, listed.getD d false = true) → (∀ k, k < m → listed.getD k false = true) → listed.count false ≤ fuel →
   Off (headDs l m) e' e → C W → (∀ b i, listed.getD i false = true → (∀ x, dead b i x = true → listed.getD x false = false) → F b i e' (rdO e' ((l[i]?).bind (·.dst))) W) → wpAnyIn (Fw r) 0 P .any l.toArray Q fuel listed (act n e' ds) W := by
  intro fuel listed e' W hsz hL hall hfuel hoff hS hFs
  have hLm : ∀ k, k < l.length → (listed.getD k false = true ↔ k < m) := fun k hk => ⟨fun h => (hL k h).1, fun h => hall k h⟩
  have hcnt : l.length ≤ m + fuel := by
   have hc : listed.count false = l.length - m := by
    have e1 : listed = (List.replicate m true ++ List.replicate (l.length - m) false).toArray := by
     apply Array.ext
     ·simp; omega
     ·intro i h1 h2
      have hk : i < l.length := by omega
      have h3 := hLm i hk
      rw [Array.getD_eq_getD_getElem?, Array.getElem?_eq_getElem h1, Option.getD_some] at h3
      simp only [List.getElem_toArray, List.getElem_append, List.length_replicate, List.getElem_replicate]
      by_cases h : i < m
      ·rw [dif_pos h]; exact h3.2 h
      ·rw [dif_neg h]
       cases hb : listed[i] with
       | false => rfl
       | true => exact absurd (h3.1 hb) h
    rw [e1]
    simp [List.count_replicate]
   omega
  exact any_tail' hB' fuel m listed _ W (Nat.le_refl _) hml hsz hLm hcnt (htail e' W hoff hS fun b i hi hx => hFs b i (hall i hi) fun x hd => by
   cases hb : listed.getD x false with
   | false => rfl
   | true => rw [hx x (hL x hb).1] at hd; cases hd)
 intro fuel
 induction fuel with
 | zero =>
  intro listed e' W hsz hL hfuel hoff hS hRl hFs
  refine tolist 0 listed e' W hsz hL (fun k hk => ?_) hfuel hoff hS hFs
  have := left_zero (by omega : listed.count false = 0) k
  rwa [getD_two (by omega) false true]
 | succ fuel ih =>
  intro listed e' W hsz hL hfuel hoff hS hRl hFs
  by_cases hall : ∀ k, k < m → listed.getD k false = true
  ·exact tolist (fuel + 1) listed e' W hsz hL hall hfuel hoff hS hFs
  ·have hex : ∃ k, k < m ∧ listed.getD k false = false := by
    apply Classical.byContradiction
    intro hn
    exact hall fun k hk => by
     cases hb : listed.getD k false with
     | true => rfl
     | false => exact absurd ⟨k, hk, hb⟩ hn
   obtain ⟨k0, ⟨hk0, hu0⟩, hmin⟩ := least hex
   have hr0 : k0 ∈ Region.ready .any l.toArray listed := mem_ready'.2 ⟨by rw [getD_two (by omega) true false]; exact hu0, ⟨l[k0]'(by omega), List.getElem?_eq_getElem (by omega)⟩, fun d hd => by
    have h1 := hdep k0 (by omega) d hd
    cases hb : listed.getD d false with
    | true => rfl
    | false => have := hmin d ⟨by omega, hb⟩; omega⟩
   refine ⟨fun h0 => (by rw [h0] at hr0; cases hr0), fun i hi => ?_⟩
   rw [mem_ready'] at hi
   obtain ⟨h1, ⟨o, ho⟩, h2⟩ := hi
   have hil := (List.getElem?_eq_some_iff.1 ho).1
   have hui : listed.getD i false = false := by rw [getD_two (by omega) false true]; exact h1
   have hclo : ∀ j, j ∈ clo l 10 (depsOf l i) → listed.getD j false = true := clo_listed (l := l) (listed := listed) (fun j hj => (hL j hj).2) 10 _ h2
   have him : i < m := by
    rcases Nat.lt_or_ge i m with h | h
    ·exact h
    ·rcases hcl i hil with hc | hc
     ·exact hc
     ·have := hclo k0 (hc k0 (by omega))
      rw [hu0] at this; cases this
   have hgo := hop i o him ho e' W hoff hS (hRl i him hui) fun b j hj hx => hFs b j (hclo j hj) fun x hd => by
    cases hb : listed.getD x false with
    | false => rfl
    | true =>
     rcases hx x hd with rfl | hx
     ·rw [hui] at hb; cases hb
     ·have := clo_listed (l := l) (listed := listed) (fun j hj => (hL j hj).2) 10 _ (hL x hb).2 i hx
      rw [hui] at this; cases this
   have hnext : ∀ a' W', opPostD n ds (St i) (fun a v W => ∀ b, F b i a v W) o.dst e' W .normal a' W' → wpAnyIn (Fw r) 0 P .any l.toArray Q fuel (listed.setIfInBounds i true) a' W' := by
    rintro a' W' ⟨_, v, hv0, rfl, hS', hf⟩
    have htk : (l.take m)[i]? = some o := by rw [List.getElem?_take, if_pos him]; exact ho
    have hoff' : Off (headDs l m) (putE o.dst v e') e := by
     cases hk : o.dst with
     | none => exact hoff
     | some k =>
      refine off_cons ?_ hoff
      simp only [headDs, List.contains_eq_mem, decide_eq_true_eq, List.mem_filterMap]
      exact ⟨o, List.mem_of_getElem? htk, hk⟩
    have hkeep : ∀ j d, j ≠ i → j < m → (l[j]?).bind (·.dst) = some d → rd (putE o.dst v e') d = rd e' d := by
     intro j d hji hjm hd
     cases hk : o.dst with
     | none => rfl
     | some k =>
      have hdk : d ≠ k := by
       rintro rfl
       obtain ⟨oj, hoj, hdj⟩ := Option.bind_eq_some_iff.1 hd
       exact apartN_ne hap j i d hji (by rw [List.getElem?_map, List.getElem?_take, if_pos hjm, hoj]; simp [hdj]) (by rw [List.getElem?_map, htk]; simp [hk])
      simp only [putE, rd, beq_false (Ne.symm hdk), cond_false]
    have hdom : ∀ j, (j = i ∨ listed.getD j false = true) → j < m → ∀ d ∈ Dom j, rd (putE o.dst v e') d = rd e' d := by
     intro j hj hjm d hd
     obtain ⟨x, hx, hxm, hxd⟩ := hDom j hjm d hd
     refine hkeep x d (fun hxi => ?_) hxm hxd
     have : listed.getD i false = true := by
      rw [← hxi]
      rcases hj with hj | hj
      ·rw [hj] at hx; exact hclo x hx
      ·exact clo_listed (l := l) (listed := listed) (fun j hj => (hL j hj).2) 10 _ (hL j hj).2 x hx
     rw [hui] at this; cases this
    refine ih _ (putE o.dst v e') W' (by simpa using hsz) (fun j hj => ?_) (by have := left_set h1; omega) hoff' (hC _ _ _ hS hS') (fun j hjm hj => ?_) (fun b j hj hx => ?_)
    ·rw [listed_set] at hj
     rcases hj with hj | ⟨rfl, _⟩
     ·exact ⟨(hL j hj).1, fun d hd => listed_set.2 (.inl ((hL j hj).2 d hd))⟩
     ·exact ⟨him, fun d hd => listed_set.2 (.inl (h2 d hd))⟩
    ·have hji : j ≠ i := by
      rintro rfl
      rw [listed_set.2 (.inr ⟨rfl, by omega⟩)] at hj; cases hj
     have hju : listed.getD j false = false := by
      cases hb : listed.getD j false with
      | false => rfl
      | true => rw [listed_set.2 (.inl hb)] at hj; cases hj
     exact hRs j i W W' hji (hRl j hjm hju) hS'
    ·rcases Nat.decEq j i with hji | rfl
     ·rw [listed_set] at hj
      rcases hj with hj | ⟨rfl, _⟩
      ·have hjm := (hL j hj).1
       have hnd : dead b j i = false := by
        cases hb : dead b j i with
        | false => rfl
        | true =>
         have := hx i hb
         have h3 : (listed.setIfInBounds i true).getD i false = true := listed_set.2 (.inr ⟨rfl, by omega⟩)
         rw [h3] at this; cases this
       have hf0 := hFs b j hj fun x hd => by
        cases hb : listed.getD x false with
        | false => rfl
        | true => have := hx x hd; rw [listed_set.2 (.inl hb)] at this; cases this
       have hval : rdO (putE o.dst v e') ((l[j]?).bind (·.dst)) = rdO e' ((l[j]?).bind (·.dst)) := by
        cases hd : (l[j]?).bind (·.dst) with
        | none => rfl
        | some d => exact hkeep j d hji hjm hd
       rw [hval]
       exact hcong _ _ _ _ _ _ (fun d hd => (hdom j (.inr hj) hjm d hd).symm) (hF _ _ _ _ _ _ _ hji hnd hf0 hS')
      ·exact absurd rfl hji
     ·rw [ho, Option.bind_some]
      have hval : rdO (putE o.dst v e') o.dst = v := by
       cases hk : o.dst with
       | none => exact (hv0 hk).symm
       | some k => simp [rdO, putE, rd]
      rw [hval]
      exact hcong _ _ _ _ _ _ (fun d hd => (hdom j (.inl rfl) him d hd).symm) (hf b)
   rw [wl_cons] at hgo
   unfold wpOpIn
   simp only [List.getElem?_toArray, ho]
   by_cases hwn : Region.wanted o (yielded l.toArray (act n e' ds).tmps) = true
   ·rw [if_pos hwn] at hgo
    rw [if_pos hwn]
    refine ⟨fun _ _ => trivial, uponIn_mono2 (fun a w h => hnext a w (by rwa [wl_nil] at h)) (fun _ _ _ h => by cases h.1) (fun ⟨_, _, h⟩ => by cases h.1) hgo⟩
   ·rw [if_neg hwn, wl_nil] at hgo
    rw [if_neg hwn]
    exact ⟨fun _ _ => trivial, hnext _ _ hgo⟩
def OpsU (r : Option Nat) (P : Program) (n : Nat) (e : Env) (ds : List Deferred) (l : List Oper) (m : Nat) (J : List Nat) (C : World → Prop) (St : Nat → World → World → Prop) (Gs : List Fact) : Nat → List Oper → List (List (Nat × Option Nat)) → Prop
 | i, o :: os, K :: Ks => (∀ jv W, C W → DepsD Gs W (fun g => wl r P l.toArray (opPostD n ds (St i) (fun a v W => FD Gs i a v W ∧ FD Gs (i + m) a v W) o.dst (ovr g J jv e) W) [o] (act n (ovr g J jv e) ds) W) K []) ∧ OpsU r P n e ds l m J C St Gs (i + 1) os Ks
 | _, [], _ => True
 | _, _ :: _, [] => False
def opOf (m i : Nat) : Nat := if i < m then i else i - m
def knowU (l : List Oper) (m : Nat) (dead : List (Nat × Nat)) (Gs : List Fact) : Nat → List (List (Nat × Option Nat)) → Bool
 | _, [] => true
 | i, K :: Ks => askB Gs K [] && K.all (fun p => Nat.blt (opOf m p.1) m && (clo l 10 (depsOf l i)).contains (opOf m p.1) && ((l[opOf m p.1]?).bind (·.dst) == p.2) && dead.all fun q => !(q.1 == p.1) || q.2 == i || (clo l 10 (depsOf l q.2)).contains i) && knowU l m dead Gs (i + 1) Ks
def domU (l : List Oper) (m : Nat) (Gs : List Fact) : Bool := (List.range m).all fun i => [i, i + m].all fun j => ((Gs[j]?).map (fun p => p.1.all fun d => (clo l 10 (depsOf l i)).any fun j => Nat.blt j m && ((l[j]?).bind (·.dst) == some d))).getD true
theorem opsU_get {l : List Oper} {m : Nat} {J : List Nat} {C : World → Prop} {St : Nat → World → World → Prop} {Gs : List Fact} {dead : List (Nat × Nat)} : ∀ {os : List Oper} {Ks : List (List (Nat × Option Nat))} {i0 : Nat}, OpsU r P n e ds l m J C St Gs i0 os Ks → knowU l m dead Gs i0 Ks = true → ∀ i o, os[i]? = some o →
  ∃ K : List (Nat × Option Nat), askB Gs K [] = true ∧ (∀ p ∈ K, (opOf m p.1 < m ∧ opOf m p.1 ∈ clo l 10 (depsOf l (i0 + i))) ∧ (l[opOf m p.1]?).bind (·.dst) = p.2 ∧ ∀ x, dead.contains (p.1, x) = true → x = i0 + i ∨ i0 + i ∈ clo l 10 (depsOf l x)) ∧
   ∀ jv W, C W → DepsD Gs W (fun g => wl r P l.toArray (opPostD n ds (St (i0 + i)) (fun a v W => FD Gs (i0 + i) a v W ∧ FD Gs (i0 + i + m) a v W) o.dst (ovr g J jv e) W) [o] (act n (ovr g J jv e) ds) W) K []
 | [], _, _, _, _, i, o, h => by cases h
 | _ :: _, [], _, h, _, _, _, _ => h.elim
 | o' :: os, K :: Ks, i0, h, hb, 0, o, ho => by
  simp only [List.getElem?_cons_zero, Option.some.injEq] at ho
  subst ho
  simp only [knowU, Bool.and_eq_true, List.all_eq_true, List.contains_eq_mem, decide_eq_true_eq, beq_iff_eq, Bool.or_eq_true, Bool.not_eq_true', Nat.blt_eq] at hb
  refine ⟨K, hb.1.1, fun p hp => ⟨(hb.1.2 p hp).1.1, (hb.1.2 p hp).1.2, fun x hx => ?_⟩, h.1⟩
  rw [List.contains_eq_mem, decide_eq_true_eq] at hx
  rcases (hb.1.2 p hp).2 _ hx with (h1 | h1) | h1
  ·simp at h1
  ·exact .inl h1
  ·exact .inr h1
 | o' :: os, K :: Ks, i0, h, hb, i + 1, o, ho => by
  simp only [List.getElem?_cons_succ] at ho
  simp only [knowU, Bool.and_eq_true] at hb
  obtain ⟨K', h0, h1, h2⟩ := opsU_get h.2 hb.2 i o ho
  rw [show i0 + 1 + i = i0 + (i + 1) by omega] at h1 h2
  exact ⟨K', h0, h1, h2⟩
theorem s_anyU {id : Nat} {l : List Oper} (m : Nat) (J : List Nat) (Ks : List (List (Nat × Option Nat))) (Kt : List (Nat × Option Nat)) (C : World → Prop) (St : Nat → World → World → Prop) (dead : List (Nat × Nat)) (Gs : List Fact) (hm : P.follows .mixedOrders = true)
  (hB : waitB l m = true) (hJ : headDs l m = J) (hK : knowU l m dead Gs 0 Ks = true) (hD : domU l m Gs = true)
  (hKt : (askB Gs Kt [] && Kt.all fun p => Nat.blt p.1 (m + m) && ((l[opOf m p.1]?).bind (·.dst) == p.2) && dead.all fun q => !(q.1 == p.1)) = true)
  (hd : C { w with drawn := w.drawn + 1 }) (hC : ∀ k W W', C W → St k W W' → C W')
  (hF : ∀ i k v W W' vs, opOf m i ≠ k → dead.contains (i, k) = false → (∀ p, Gs[i]? = some p → p.2 vs v W → St k W W' → p.2 vs v W'))
  (hops : OpsU r P n e ds l m J C St Gs 0 (l.take m) Ks)
  (htail : ∀ jv W, C W → DepsD Gs W (fun g => wl r P l.toArray Q (l.drop m) (act n (ovr g J jv e) ds) W) Kt []) :
  (Code.region id l.toArray true).wpIn (Fw r) 0 P Q (act n e ds) w := by
 have hcong : ∀ i a1 a2 v W, (∀ d ∈ ((Gs[i]?).map (·.1)).getD [], rd a1 d = rd a2 d) → FD Gs i a1 v W → FD Gs i a2 v W := by
  intro i a1 a2 v W h hf
  unfold FD at hf ⊢
  cases hi : Gs[i]? with
  | none => trivial
  | some p =>
   rw [hi] at hf h
   have : p.1.map (rd a1) = p.1.map (rd a2) := List.map_congr_left fun x hx => h x (by simpa using hx)
   simp only at hf ⊢
   rw [← this]; exact hf
 have hop1 : ∀ i, i < m → opOf m i = i := fun i hi => by unfold opOf; rw [if_pos hi]
 have hop2 : ∀ i, opOf m (i + m) = i := fun i => by unfold opOf; rw [if_neg (by omega)]; omega
 have hf := any_headU (r := r) (P := P) (Q := Q) (n := n) (e := e) (ds := ds) hB C St (fun b i => if i < m then FD Gs (bif b then i else i + m) else fun _ _ _ => True) (fun b i k => dead.contains (bif b then i else i + m, k)) (fun i => ((Gs[i]?).map (·.1)).getD [] ++ ((Gs[i + m]?).map (·.1)).getD []) (fun _ _ => True) (fun _ _ _ _ _ _ _ => trivial) hC
  (fun b i k a v W W' hik hdd hfa hst => by
   by_cases him : i < m
   ·rw [if_pos him] at hfa ⊢
    unfold FD at hfa ⊢
    cases hi : Gs[bif b then i else i + m]? with
    | none => trivial
    | some p =>
     rw [hi] at hfa
     refine hF _ k v W W' _ ?_ hdd p hi hfa hst
     cases b with
     | true => rw [cond_true, hop1 i him]; exact hik
     | false => rw [cond_false, hop2 i]; exact hik
   ·rw [if_neg him]; trivial)
  (fun b i a1 a2 v W h hfa => by
   by_cases him : i < m
   ·rw [if_pos him] at hfa ⊢
    refine hcong _ a1 a2 v W (fun d hd => h d ?_) hfa
    cases b with
    | true => exact List.mem_append_left _ hd
    | false => exact List.mem_append_right _ hd
   ·rw [if_neg him]; trivial)
  (fun i him d hd => by
   simp only [domU, List.all_eq_true, List.mem_range] at hD
   have h0 := hD i him
   have hx : ∃ j, (j = i ∨ j = i + m) ∧ d ∈ ((Gs[j]?).map (·.1)).getD [] := by
    rcases List.mem_append.1 hd with h | h
    ·exact ⟨_, .inl rfl, h⟩
    ·exact ⟨_, .inr rfl, h⟩
   obtain ⟨j, hj, hd⟩ := hx
   have := h0 j (by rcases hj with rfl | rfl <;> simp)
   cases hi : Gs[j]? with
   | none => rw [hi] at hd; simp at hd
   | some p =>
    rw [hi] at hd this
    simp only [Option.map_some, Option.getD_some, List.all_eq_true, List.any_eq_true, Bool.and_eq_true, Nat.blt_eq, beq_iff_eq] at hd this
    obtain ⟨j, h1, h2, h3⟩ := this d hd
    exact ⟨j, h1, h2, h3⟩)
  (fun i o him ho e' W hoff hS _ hdep => by
   obtain ⟨K, h0, h1, h2⟩ := opsU_get hops hK i o (by rw [List.getElem?_take, if_pos him]; exact ho)
   rw [Nat.zero_add] at h1 h2
   rw [hJ] at hoff
   have h3 := depsD_use (e' := e') K [] trivial h0 (h2 (rd e') W hS) (fun p hp => by
    obtain ⟨hlow, hj⟩ := (h1 p hp).1
    have := hdep (decide (p.1 < m)) (opOf m p.1) hj (fun x hx => (h1 p hp).2.2 x (by
     by_cases hpm : p.1 < m
     ·rwa [hop1 _ hpm, decide_eq_true hpm] at hx
     ·rw [decide_eq_false hpm, cond_false, show opOf m p.1 + m = p.1 by unfold opOf; rw [if_neg hpm]; omega] at hx; exact hx))
    rw [(h1 p hp).2.1, if_pos hlow] at this
    by_cases hpm : p.1 < m
    ·rwa [hop1 _ hpm, decide_eq_true hpm] at this
    ·rw [decide_eq_false hpm, cond_false, show opOf m p.1 + m = p.1 by unfold opOf; rw [if_neg hpm]; omega] at this; exact this)
   rw [List.nil_append] at h3
   have h4 := act_envOf (n := n) (ds := ds) K hoff
   rw [← h4] at h3
   have h5 : ∀ ex a' W', opPostD n ds (St i) (fun a v W => FD Gs i a v W ∧ FD Gs (i + m) a v W) o.dst (ovr (envOf e' K) J (rd e') e) W ex a' W' → opPostD n ds (St i) (fun a v W => ∀ b, (if i < m then FD Gs (bif b then i else i + m) else fun _ _ _ => True) a v W) o.dst e' W ex a' W' := by
    rintro ex a' W' ⟨h6, v, h7, rfl, h8, h9⟩
    have h9' : ∀ a2, (∀ d, rd (ovr (envOf e' K) J (rd e') e) d = rd a2 d) → ∀ b, (if i < m then FD Gs (bif b then i else i + m) else fun _ _ _ => True) a2 v W' := fun a2 hd b => by
     rw [if_pos him]
     cases b with
     | true => exact hcong _ _ _ _ _ (fun d _ => hd d) h9.1
     | false => exact hcong _ _ _ _ _ (fun d _ => hd d) h9.2
    refine ⟨h6, v, h7, (putE_ovr h4).symm, h8, h9' _ (fun d => ?_)⟩
    have hall : ∀ t, rd (ovr (envOf e' K) J (rd e') e) t = rd e' t := by
     intro t
     by_cases hc : ((envOf e' K).map (·.1)).contains t = true
     ·unfold ovr
      rw [rd_append hc]
      exact rd_has (has_envOf K) hc
     ·have h10 : rd (ovr (envOf e' K) J (rd e') e) t = rd (J.map (fun t => (t, rd e' t)) ++ e) t := by
       unfold ovr
       clear h9 h8 h7 h6 h3 h4
       generalize envOf e' K = g at hc
       induction g with
       | nil => rfl
       | cons p g ih =>
        simp only [List.map_cons, List.contains_cons, Bool.or_eq_true, beq_iff_eq, not_or] at hc
        simp only [List.cons_append, rd]
        rw [beq_false (fun h => hc.1 h.symm), cond_false]
        exact ih hc.2
      rw [h10]
      by_cases hj : J.contains t = true
      ·have h11 : ((J.map (fun t => (t, rd e' t))).map (·.1)).contains t = true := by simpa using hj
       rw [rd_append h11]
       exact rd_has (has_self J) h11
      ·have h12 : J.contains t = false := by simpa using hj
       rw [hoff t h12]
       have h11 : ∀ (J' : List Nat), J'.contains t = false → rd (J'.map (fun t => (t, rd e' t)) ++ e) t = rd e t := by
        intro J' hJ'
        induction J' with
        | nil => rfl
        | cons k J' ih =>
         simp only [List.contains_cons, Bool.or_eq_false_iff, beq_eq_false_iff_ne] at hJ'
         simp only [List.map_cons, List.cons_append, rd]
         rw [beq_false (Ne.symm hJ'.1), cond_false]
         exact ih hJ'.2
       exact h11 J h12
    exact hall d
   rw [wl_cons] at h3 ⊢
   split at h3
   ·rename_i hw
    rw [if_pos hw]
    exact uponIn_mono2 (fun a w h => by rw [wl_nil] at h ⊢; exact h5 _ _ _ h) (fun _ _ _ h => by cases h.1) (fun ⟨_, _, h⟩ => by cases h.1) h3
   ·rename_i hw
    rw [if_neg hw]
    rw [wl_nil] at h3 ⊢
    exact h5 _ _ _ h3)
  (fun e' W hoff hS hfs => by
   rw [hJ] at hoff
   simp only [List.all_eq_true, Bool.and_eq_true, Nat.blt_eq, beq_iff_eq, Bool.not_eq_true'] at hKt
   have h3 := depsD_use (e' := e') Kt [] trivial hKt.1 (htail (rd e') W hS) (fun p hp => by
    have hpm2 := (hKt.2 p hp).1.1
    have hom : opOf m p.1 < m := by unfold opOf; split <;> omega
    have hb1 : (bif decide (p.1 < m) then opOf m p.1 else opOf m p.1 + m) = p.1 := by
     by_cases hpm : p.1 < m
     ·rw [decide_eq_true hpm, cond_true, hop1 _ hpm]
     ·rw [decide_eq_false hpm, cond_false]; unfold opOf; rw [if_neg hpm]; omega
    have := hfs (decide (p.1 < m)) (opOf m p.1) hom (fun x _ => by
     rw [hb1]
     cases hb : dead.contains (p.1, x) with
     | false => rfl
     | true =>
      rw [List.contains_eq_mem, decide_eq_true_eq] at hb
      have := (hKt.2 p hp).2 _ hb
      simp at this)
    rw [(hKt.2 p hp).1.2, if_pos hom, hb1] at this
    exact this)
   rw [List.nil_append, ← act_envOf (n := n) (ds := ds) Kt hoff] at h3
   exact h3)
  l.length (Array.replicate l.length false) e { w with drawn := w.drawn + 1 } (by simp) (fun j hj => by rw [getD_replicate_false] at hj; cases hj) (by simp [Array.count_replicate]) off_refl hd (fun i _ _ => trivial) (fun b j hj => by rw [getD_replicate_false] at hj; cases hj)
 refine wpIn_region_any hm ?_
 rw [List.size_toArray]
 exact hf
end any
end Go.Proofs.NV
