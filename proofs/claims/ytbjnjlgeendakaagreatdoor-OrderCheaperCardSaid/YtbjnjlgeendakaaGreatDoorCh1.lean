/- Part of the proof: The reference of packs: in, IsPacks, Pieces, Before, Better.. The reference's Packs.. The law OrderPacks.. As s_anyR, but what an operation finds may be used up by one that waits for it.. taken; the law OrderCheaper.. -/
import Derived.Test.YtbjnjlgeendakaaGreatDoorKb21
import Derived.Test.YtbjnjlgeendakaaGreatDoorKb24
import Derived.Test.YtbjnjlgeendakaaGreatDoorKb17
import Derived.Test.YtbjnjlgeendakaaGreatDoorKb25
import Derived.Test.YtbjnjlgeendakaaGreatDoorKb7
set_option linter.unusedVariables false
set_option maxRecDepth 100000
set_option maxHeartbeats 8000000
set_option linter.unusedSimpArgs false
namespace Go.Proofs.NV
open Go.RowKit Go.Shelf
attribute [local irreducible] bodyPost bodyPostM wpQuiet
theorem ret_b {a b : Bool} (h : a = b) : Ending.returned (.bool a) = .returned (.bool b) := by rw [h]
def takenT : Ty Taken := (Ty.int.sl.pair (Ty.int.pair Ty.int)).iso fun p => (p.counts, p.many, p.price)
theorem takenT_iff {w : World} {S : Nat → Prop} {p : Taken} {cs : List Value} : takenT.rep w S p cs ↔ ∃ A c, cs = [.slice A p.counts.length c, I p.many, I p.price] ∧ p.counts.length ≤ c ∧ c ≤ maxLen ∧ Ty.int.Sl w S A p.counts := by
 constructor
 ·rintro ⟨c0, c1, rfl, ⟨A, c, rfl, h1, h2, h3⟩, c2, c3, rfl, h4, h5⟩
  obtain rfl : c2 = [I p.many] := h4
  obtain rfl : c3 = [I p.price] := h5
  exact ⟨A, c, rfl, h1, h2, h3⟩
 ·rintro ⟨A, c, rfl, h1, h2, h3⟩
  exact ⟨_, _, rfl, ⟨A, c, rfl, h1, h2, h3⟩, _, _, rfl, rfl, rfl⟩
def badK (k : Pack) : Bool := (!inB k.holds 1 144) || !inB k.price 0 1000
def isPacksB (ks : List Pack) : Bool := !(ks.any badK) && inB ks.length 1 4
theorem any_take_succ {α : Type} {p : α → Bool} {xs : List α} {i : Nat} (hi : i < xs.length) (h : (xs.take i).any p = false) (hp : p xs[i] = false) : (xs.take (i + 1)).any p = false := by
 rw [List.take_succ_eq_append_getElem hi, List.any_append, h]
 simp [hp]
theorem any_at {α : Type} {p : α → Bool} {xs : List α} {i : Nat} (hi : i < xs.length) (hp : p xs[i] = true) : xs.any p = true := List.any_eq_true.2 ⟨_, List.getElem_mem hi, hp⟩
theorem f86_calls (x lo hi : Int) (w : World) :
  Calls Tryz.prog 86 #[I x, I lo, I hi] w fun e w' => e = .returned (.bool (inB x lo hi)) ∧ w.grownBy w' none := by
 refine s_enter (n := 15) Tryz.func86 rfl rfl rfl ?_
 have G := grown_refl w none
 refine s_rseq fun _ k1 => ?_
 refine o_v v_assign ?_
 refine o_end (k1 _ _ ?_)
 refine s_rseq fun _ k2 => ?_
 refine o_v v_move ?_
 refine o_v v_move ?_
 refine o_v (v_geq rfl rfl) ?_
 refine o_v v_move ?_
 refine o_mid (G := Unit) 4 (fun _ => [(14, .bool ((decide (lo ≤ x)) && (decide (x ≤ hi))))]) [14] [11, 12, 13] (fun _ w' => w.grownBy w' none) (fun _ => rfl) ?_ ?_
 ·have H1 := grown_refl w none
  rcases Bool.eq_false_or_eq_true ((decide (lo ≤ x))) with hX1 | hX1
  ·refine g_yes rfl rfl rfl hX1 ?_
   refine o_v v_move ?_
   refine g_yes rfl rfl rfl hX1 ?_
   refine o_v v_move ?_
   refine g_yes rfl rfl rfl hX1 ?_
   refine o_v (v_leq rfl rfl) ?_
   refine o_v (v_pick_t rfl hX1) ?_
   refine o_end (mid () ?_ ?_ ?_)
   ·repeat (first | exact off_refl | refine off_cons rfl ?_)
   ·exact ⟨by rw [hX1]; rfl, trivial⟩
   ·exact H1
  ·refine g_no rfl rfl rfl hX1 ?_
   refine g_no rfl rfl rfl hX1 ?_
   refine g_no rfl rfl rfl hX1 ?_
   refine o_v (v_pick_f rfl hX1) ?_
   refine o_end (mid () ?_ ?_ ?_)
   ·repeat (first | exact off_refl | refine off_cons rfl ?_)
   ·exact ⟨by rw [hX1]; rfl, trivial⟩
   ·exact H1
 ·rintro _ jv w1 g1
  replace G := G.step0 g1
  refine o_v v_assign ?_
  refine o_end (k2 _ _ ?_)
  refine s_ret (post1 rfl ?_)
  exact ⟨ret_bool (by simp [inB]), G⟩
theorem f47_calls (x : Int) (w : World) :
  Calls Tryz.prog 47 #[I x] w fun e w' => e = .returned (.bool (inB x 0 600)) ∧ w.grownBy w' none := by
 refine s_enter (n := 5) Tryz.func47 rfl rfl rfl ?_
 have G := grown_refl w none
 refine s_rseq fun _ k1 => ?_
 refine o_v v_assign ?_
 refine o_end (k1 _ _ ?_)
 refine s_rseq fun _ k2 => ?_
 refine o_v v_move ?_
 refine o_call rfl rfl ent86 (f86_calls _ _ _ _) ?_; rintro _ w1 ⟨rfl, g1⟩; refine ⟨_, rfl, ?_⟩
 replace G := G.step0 g1
 refine o_v v_assign ?_
 refine o_end (k2 _ _ ?_)
 refine s_ret (post1 rfl ?_)
 exact ⟨rfl, G⟩
theorem f46_calls {T : Nat → Prop} (kA : Option Addr) (kc : Nat) (ks : List Pack) (w : World) (hx : packT.Sl w T kA ks) (hm : ks.length ≤ maxLen) :
  Calls Tryz.prog 46 #[.slice kA ks.length kc] w fun e w' => e = .returned (.bool (isPacksB ks)) ∧ w.grownBy w' none := by
 refine s_enter (n := 29) Tryz.func46 rfl rfl rfl ?_
 have G := grown_refl w none
 refine s_rseq fun _ k1 => ?_
 refine o_v v_assign ?_
 refine o_end (k1 _ _ ?_)
 refine s_seq fun _ k2 => ?_
 refine s_rseq fun _ k3 => ?_
 refine o_v v_assign ?_
 refine o_end (k3 _ _ ?_)
 refine s_block ?_
 rw [maxLen_val] at hm
 refine s_loop (G := Nat) (fun i => [(3, I i)]) [3] [2, 4, 5, 6, 7, 8, 9, 10, 11, 12, 13, 14, 15, 16, 17, 18, 19, 20, 21, 22, 23, 24, 25] (fun i W => (i ≤ ks.length ∧ (ks.take i).any badK = false) ∧ w.grownBy W none) (fun i => ks.length - i) (fun _ => rfl) 0 ⟨rfl, trivial⟩ ⟨⟨Nat.zero_le _, rfl⟩, grown_refl _ _⟩ ?_
 rintro i jv w1 ⟨⟨hi, ht⟩, g1⟩
 replace G := G.step0 g1
 refine s_seq fun _ k4 => ?_
 refine s_rseq fun _ k5 => ?_
 refine o_v v_move ?_
 refine o_v v_move ?_
 refine o_v (v_len rfl Tryz.underlying74) ?_
 refine o_v (v_lss rfl rfl) ?_
 refine o_end (k5 _ _ ?_)
 refine s_ifd rfl (fun c5 => ?_) (fun c5 => ?_)
 ·have hlt : i < ks.length := by omega
  obtain ⟨b1, o1, ck, rfl, _, hck, hr1⟩ := (hx.step0 g1).get i hlt
  obtain rfl : ck = ks[i].cells := hck
  rw [show packT.sz = 2 from rfl] at hr1
  refine s_skip ?_
  refine k4 _ _ ?_
  refine s_seq fun _ k6 => ?_
  refine s_block ?_
  refine s_rseq fun _ k7 => ?_
  refine o_v v_move ?_
  refine o_v v_move ?_
  refine o_v (v_index rfl rfl slt74 (by omega)) ?_
  refine o_v (v_field rfl fld164_0) ?_
  refine o_v (v_loadC rfl sc3 (hr1 0 _ rfl)) ?_
  refine o_call rfl rfl ent86 (f86_calls _ _ _ _) ?_; rintro _ w2 ⟨rfl, g2⟩; refine ⟨_, rfl, ?_⟩
  replace G := G.step0 g2; replace g1 := g1.step0 g2
  refine o_v (v_not rfl) ?_
  refine o_v v_move ?_
  refine o_mid (G := Unit) 8 (fun _ => [(25, .bool (badK ks[i]))]) [25] [18, 19, 20, 21, 22, 23, 24] (fun _ w' => w2.grownBy w' none) (fun _ => rfl) ?_ ?_
  ·have H1 := grown_refl w2 none
   rcases Bool.eq_false_or_eq_true (!inB ks[i].holds 1 144) with hX1 | hX1
   ·refine g_no rfl rfl rfl hX1 ?_
    refine g_no rfl rfl rfl hX1 ?_
    refine g_no rfl rfl rfl hX1 ?_
    refine g_no rfl rfl rfl hX1 ?_
    refine g_no rfl rfl rfl hX1 ?_
    refine g_no rfl rfl rfl hX1 ?_
    refine g_no rfl rfl rfl hX1 ?_
    refine o_v (v_pick_t rfl hX1) ?_
    refine o_end (mid () ?_ ?_ ?_)
    ·repeat (first | exact off_refl | refine off_cons rfl ?_)
    ·exact ⟨by unfold badK; rw [hX1]; rfl, trivial⟩
    ·exact H1
   ·refine g_yes rfl rfl rfl hX1 ?_
    refine o_v v_move ?_
    refine g_yes rfl rfl rfl hX1 ?_
    refine o_v v_move ?_
    refine g_yes rfl rfl rfl hX1 ?_
    refine o_v (v_index rfl rfl slt74 (by omega)) ?_
    refine g_yes rfl rfl rfl hX1 ?_
    refine o_v (v_field rfl fld164_1) ?_
    refine g_yes rfl rfl rfl hX1 ?_
    refine o_v (v_loadC rfl sc3 (cell0 g2 (hr1 1 _ rfl))) ?_
    refine g_yes rfl rfl rfl hX1 ?_
    refine o_call rfl rfl ent86 (f86_calls _ _ _ _) ?_; rintro _ w3 ⟨rfl, g3⟩; refine ⟨_, rfl, ?_⟩
    replace G := G.step0 g3; replace g1 := g1.step0 g3; replace H1 := H1.step0 g3
    refine g_yes rfl rfl rfl hX1 ?_
    refine o_v (v_not rfl) ?_
    refine o_v (v_pick_f rfl hX1) ?_
    refine o_end (mid () ?_ ?_ ?_)
    ·repeat (first | exact off_refl | refine off_cons rfl ?_)
    ·exact ⟨by unfold badK; rw [hX1]; rfl, trivial⟩
    ·exact H1
  ·rintro _ jv w4 g4
   replace G := G.step0 g4; replace g1 := g1.step0 g4
   refine o_end (k7 _ _ ?_)
   refine s_if rfl (fun c7 => ?_) (fun c7 => ?_)
   ·refine s_rseq fun _ k8 => ?_
    refine o_v v_assign ?_
    refine o_end (k8 _ _ ?_)
    refine s_ret (post1 rfl ?_)
    exact ⟨ret_b (by unfold isPacksB; rw [any_at hlt c7]; rfl), G⟩
   ·refine s_skip ?_
    refine k6 _ _ ?_
    refine s_region ?_
    refine o_v v_move ?_
    refine o_v (v_add rfl rfl (by omega)) ?_
    refine o_v v_assign ?_
    refine o_end ?_
    refine mid (i + 1) ?_ ?_ ?_
    ·repeat (first | exact off_refl | refine off_cons rfl ?_)
    ·exact ⟨rfl, trivial⟩
    ·exact ⟨⟨⟨hlt, any_take_succ hlt ht (by simpa using c7)⟩, by assumption⟩, by omega⟩
 ·obtain rfl : i = ks.length := by omega
  rw [List.take_of_length_le (Nat.le_refl _)] at ht
  refine s_exit ?_
  refine k2 _ _ ?_
  refine s_rseq fun _ k9 => ?_
  refine o_v v_move ?_
  refine o_v (v_len rfl Tryz.underlying74) ?_
  refine o_call rfl rfl ent86 (f86_calls _ _ _ _) ?_; rintro _ w5 ⟨rfl, g5⟩; refine ⟨_, rfl, ?_⟩
  replace G := G.step0 g5; replace g1 := g1.step0 g5
  refine o_v v_assign ?_
  refine o_end (k9 _ _ ?_)
  refine s_ret (post1 rfl ?_)
  exact ⟨ret_b (by unfold isPacksB; rw [ht]; rfl), G⟩
theorem f44_calls {S T : Nat → Prop} (A B : Option Addr) (c d : Nat) (xs ys : List Int) (w : World) (hx : Ty.int.Sl w S A xs) (hy : Ty.int.Sl w T B ys) (hm : xs.length ≤ maxLen) (hm2 : ys.length ≤ maxLen) :
  Calls Tryz.prog 44 #[.slice A xs.length c, .slice B ys.length d] w fun e w' => e = .returned (.bool (beforeL xs ys)) ∧ w.grownBy w' none := by
 refine s_enter (n := 41) Tryz.func44 rfl rfl rfl ?_
 have G := grown_refl w none
 refine s_rseq fun _ k1 => ?_
 refine o_v v_assign ?_
 refine o_end (k1 _ _ ?_)
 refine s_seq fun _ k2 => ?_
 refine s_rseq fun _ k3 => ?_
 refine o_v v_assign ?_
 refine o_end (k3 _ _ ?_)
 refine s_block ?_
 rw [maxLen_val] at hm hm2
 refine s_loop (G := Nat) (fun i => [(5, I i)]) [5] [4, 6, 7, 8, 9, 10, 11, 12, 13, 14, 15, 16, 17, 18, 19, 20, 21, 22, 23, 24, 25, 26, 27, 28, 29, 30, 31, 32, 33, 34, 35] (fun i W => (i ≤ xs.length ∧ i ≤ ys.length ∧ beforeL xs ys = beforeL (xs.drop i) (ys.drop i)) ∧ w.grownBy W none) (fun i => xs.length - i) (fun _ => rfl) 0 ⟨rfl, trivial⟩ ⟨⟨Nat.zero_le _, Nat.zero_le _, rfl⟩, grown_refl _ _⟩ ?_
 rintro i jv w1 ⟨⟨hi, hi2, ht⟩, g1⟩
 replace G := G.step0 g1; replace hx := hx.step0 g1; replace hy := hy.step0 g1
 refine s_seq fun _ k4 => ?_
 refine s_rseq fun _ k5 => ?_
 refine o_v v_move ?_
 refine o_v v_move ?_
 refine o_v (v_len rfl Tryz.underlying56) ?_
 refine o_v (v_lss rfl rfl) ?_
 refine o_v v_move ?_
 refine o_mid (G := Unit) 5 (fun _ => [(15, .bool (decide ((i : Int) < xs.length) && decide ((i : Int) < ys.length)))]) [15] [11, 12, 13, 14] (fun _ w' => w1.grownBy w' none) (fun _ => rfl) ?_ ?_
 ·have H1 := grown_refl w1 none
  rcases Bool.eq_false_or_eq_true (decide ((i : Int) < xs.length)) with hX1 | hX1
  ·refine g_yes rfl rfl rfl hX1 ?_
   refine o_v v_move ?_
   refine g_yes rfl rfl rfl hX1 ?_
   refine o_v v_move ?_
   refine g_yes rfl rfl rfl hX1 ?_
   refine o_v (v_len rfl Tryz.underlying56) ?_
   refine g_yes rfl rfl rfl hX1 ?_
   refine o_v (v_lss rfl rfl) ?_
   refine o_v (v_pick_t rfl hX1) ?_
   refine o_end (mid () ?_ ?_ ?_)
   ·repeat (first | exact off_refl | refine off_cons rfl ?_)
   ·exact ⟨by rw [hX1]; rfl, trivial⟩
   ·exact H1
  ·refine g_no rfl rfl rfl hX1 ?_
   refine g_no rfl rfl rfl hX1 ?_
   refine g_no rfl rfl rfl hX1 ?_
   refine g_no rfl rfl rfl hX1 ?_
   refine o_v (v_pick_f rfl hX1) ?_
   refine o_end (mid () ?_ ?_ ?_)
   ·repeat (first | exact off_refl | refine off_cons rfl ?_)
   ·exact ⟨by rw [hX1]; rfl, trivial⟩
   ·exact H1
 ·rintro _ jv w2 g2
  replace G := G.step0 g2; replace hx := hx.step0 g2; replace hy := hy.step0 g2; replace g1 := g1.step0 g2
  refine o_end (k5 _ _ ?_)
  refine s_if rfl (fun c5 => ?_) (fun c5 => ?_)
  ·rw [Bool.and_eq_true, decide_eq_true_eq, decide_eq_true_eq] at c5
   have hlt : i < xs.length := by omega
   have hlt2 : i < ys.length := by omega
   obtain ⟨b1, o1, rfl, hc1⟩ := hx.int i hlt
   obtain ⟨b2, o2, rfl, hc2⟩ := hy.int i hlt2
   have hcut : beforeL xs ys = if xs[i] ≠ ys[i] then decide (xs[i] < ys[i]) else beforeL (xs.drop (i + 1)) (ys.drop (i + 1)) := by rw [ht, List.drop_eq_getElem_cons hlt, List.drop_eq_getElem_cons hlt2, beforeL]
   refine s_skip ?_
   refine k4 _ _ ?_
   refine s_seq fun _ k6 => ?_
   refine s_block ?_
   refine s_seq fun _ k7 => ?_; refine s_quiet mixed (by kernel_rfl) ?_
   refine q_v (fun _ gq => v_move) ?_
   refine q_v (fun _ gq => v_move) ?_
   refine q_v (fun _ gq => v_index rfl rfl slt56 (by omega)) ?_
   refine q_v (fun _ gq => v_loadC rfl sc3 (cell0 gq hc1)) ?_
   refine q_v (fun _ gq => v_move) ?_
   refine q_v (fun _ gq => v_move) ?_
   refine q_v (fun _ gq => v_index rfl rfl slt56 (by omega)) ?_
   refine q_v (fun _ gq => v_loadC rfl sc3 (cell0 gq hc2)) ?_
   refine q_v (fun _ gq => v_neq rfl rfl) ?_
   refine q_end (fun w3 g3 => k7 _ _ ?_)
   replace G := G.step0 g3; replace hx := hx.step0 g3; replace hy := hy.step0 g3; replace g1 := g1.step0 g3
   refine s_ifd rfl (fun c7 => ?_) (fun c7 => ?_)
   ·refine s_seq fun _ k8 => ?_; refine s_quiet mixed (by kernel_rfl) ?_
    refine q_v (fun _ gq => v_move) ?_
    refine q_v (fun _ gq => v_move) ?_
    refine q_v (fun _ gq => v_index rfl rfl slt56 (by omega)) ?_
    refine q_v (fun _ gq => v_loadC rfl sc3 (cell0 gq (cell0 g3 hc1))) ?_
    refine q_v (fun _ gq => v_move) ?_
    refine q_v (fun _ gq => v_move) ?_
    refine q_v (fun _ gq => v_index rfl rfl slt56 (by omega)) ?_
    refine q_v (fun _ gq => v_loadC rfl sc3 (cell0 gq (cell0 g3 hc2))) ?_
    refine q_v (fun _ gq => v_lss rfl rfl) ?_
    refine q_v (fun _ gq => v_assign) ?_
    refine q_end (fun w4 g4 => k8 _ _ ?_)
    replace G := G.step0 g4; replace hx := hx.step0 g4; replace hy := hy.step0 g4; replace g1 := g1.step0 g4
    refine s_ret (post1 rfl ?_)
    exact ⟨ret_b (by rw [hcut, if_pos (by simpa using c7)]), G⟩
   ·refine s_skip ?_
    refine k6 _ _ ?_
    refine s_region ?_
    refine o_v v_move ?_
    refine o_v (v_add rfl rfl (by omega)) ?_
    refine o_v v_assign ?_
    refine o_end ?_
    refine mid (i + 1) ?_ ?_ ?_
    ·repeat (first | exact off_refl | refine off_cons rfl ?_)
    ·exact ⟨rfl, trivial⟩
    ·exact ⟨⟨⟨hlt, hlt2, by rw [hcut, if_neg (by simpa using c7)]⟩, by assumption⟩, by omega⟩
  ·refine s_exit ?_
   refine k2 _ _ ?_
   refine s_rseq fun _ k9 => ?_
   refine o_v v_move ?_
   refine o_v (v_len rfl Tryz.underlying56) ?_
   refine o_v v_move ?_
   refine o_v (v_len rfl Tryz.underlying56) ?_
   refine o_v (v_lss rfl rfl) ?_
   refine o_v v_assign ?_
   refine o_end (k9 _ _ ?_)
   refine s_ret (post1 rfl ?_)
   refine ⟨ret_b ?_, G⟩
   rw [ht]
   rw [Bool.and_eq_false_iff, decide_eq_false_iff_not, decide_eq_false_iff_not] at c5
   by_cases h : i < xs.length
   ·rw [(List.drop_eq_nil_of_le (by omega) : ys.drop i = []), List.drop_eq_getElem_cons h, beforeL]
    exact decide_eq_false (by omega)
   ·rw [(List.drop_eq_nil_of_le (by omega) : xs.drop i = [])]
    by_cases h2 : i < ys.length
    ·rw [List.drop_eq_getElem_cons h2, beforeL]
     exact decide_eq_true (by omega)
    ·rw [(List.drop_eq_nil_of_le (by omega) : ys.drop i = []), beforeL]
     exact decide_eq_false (by omega)
theorem f51_calls {S T : Nat → Prop} (x y : Taken) (cx cy : List Value) (w : World) (hx : takenT.rep w S x cx) (hy : takenT.rep w T y cy) :
  Calls Tryz.prog 51 #[.agg cx.toArray, .agg cy.toArray] w fun e w' => e = .returned (.bool (betterT x y)) ∧ w.grownBy w' none := by
 refine s_enter (n := 30) Tryz.func51 rfl rfl rfl ?_
 obtain ⟨xA, xc, rfl, hx1, hx2, hx3⟩ := takenT_iff.1 hx
 obtain ⟨yA, yc, rfl, hy1, hy2, hy3⟩ := takenT_iff.1 hy
 have G := grown_refl w none
 refine s_rseq fun _ k1 => ?_
 refine o_box (t := 80) rfl ?_; intro w1 B2 g1 z1
 replace G := G.step0 g1; replace hx3 := hx3.step0 g1; replace hy3 := hy3.step0 g1
 refine o_box (t := 80) rfl ?_; intro w2 B3 g2 z2
 replace G := G.step0 g2; replace hx3 := hx3.step0 g2; replace hy3 := hy3.step0 g2; replace B2 := B2.step0 g2
 refine o_v v_assign ?_
 refine o_end (k1 _ _ ?_)
 refine s_seq fun _ k2 => ?_
 refine s_rseq fun _ k3 => ?_
 refine o_v (v_field rfl fld80_2) ?_
 refine o_v (v_loadB rfl sc3 B2 rfl) ?_
 refine o_v (v_field rfl fld80_2) ?_
 refine o_v (v_loadB rfl sc3 B3 rfl) ?_
 refine o_v (v_neq rfl rfl) ?_
 refine o_end (k3 _ _ ?_)
 refine s_ifd rfl (fun c3 => ?_) (fun c3 => ?_)
 ·refine s_rseq fun _ k4 => ?_
  refine o_v (v_field rfl fld80_2) ?_
  refine o_v (v_loadB rfl sc3 B2 rfl) ?_
  refine o_v (v_field rfl fld80_2) ?_
  refine o_v (v_loadB rfl sc3 B3 rfl) ?_
  refine o_v (v_lss rfl rfl) ?_
  refine o_v v_assign ?_
  refine o_end (k4 _ _ ?_)
  refine s_ret (post1 rfl ?_)
  exact ⟨ret_b (by unfold betterT; rw [if_pos (by simpa using c3)]), G⟩
 ·refine s_skip ?_
  refine k2 _ _ ?_
  refine s_seq fun _ k5 => ?_
  refine s_rseq fun _ k6 => ?_
  refine o_v (v_field rfl fld80_1) ?_
  refine o_v (v_loadB rfl sc3 B2 rfl) ?_
  refine o_v (v_field rfl fld80_1) ?_
  refine o_v (v_loadB rfl sc3 B3 rfl) ?_
  refine o_v (v_neq rfl rfl) ?_
  refine o_end (k6 _ _ ?_)
  refine s_ifd rfl (fun c6 => ?_) (fun c6 => ?_)
  ·refine s_rseq fun _ k7 => ?_
   refine o_v (v_field rfl fld80_1) ?_
   refine o_v (v_loadB rfl sc3 B2 rfl) ?_
   refine o_v (v_field rfl fld80_1) ?_
   refine o_v (v_loadB rfl sc3 B3 rfl) ?_
   refine o_v (v_lss rfl rfl) ?_
   refine o_v v_assign ?_
   refine o_end (k7 _ _ ?_)
   refine s_ret (post1 rfl ?_)
   exact ⟨ret_b (by unfold betterT; rw [if_neg (by simpa using c3), if_pos (by simpa using c6)]), G⟩
  ·refine s_skip ?_
   refine k5 _ _ ?_
   refine s_rseq fun _ k8 => ?_
   refine o_v (v_field rfl fld80_0) ?_
   refine o_v (v_loadB rfl sc56 B2 rfl) ?_
   refine o_v (v_field rfl fld80_0) ?_
   refine o_v (v_loadB rfl sc56 B3 rfl) ?_
   refine o_call rfl rfl ent44 (f44_calls _ _ _ _ _ _ _ hx3 hy3 (by omega) (by omega)) ?_; rintro _ w3 ⟨rfl, g3⟩; refine ⟨_, rfl, ?_⟩
   replace G := G.step0 g3; replace hx3 := hx3.step0 g3; replace hy3 := hy3.step0 g3; replace B2 := B2.step0 g3; replace B3 := B3.step0 g3
   refine o_v v_assign ?_
   refine o_end (k8 _ _ ?_)
   refine s_ret (post1 rfl ?_)
   exact ⟨ret_b (by unfold betterT; rw [if_neg (by simpa using c3), if_neg (by simpa using c6)]), G⟩
end Go.Proofs.NV
namespace Go.Proofs.NV
open Go.RowKit Go.Shelf
attribute [local irreducible] bodyPost bodyPostM wpQuiet
abbrev zeroTaken : List Value := [.slice none 0 0, I 0, I 0]
section copy
variable {r : Option Nat} {Q : Exit → Act → World → Prop} {ops : Array Oper} {rest : List Oper} {n : Nat} {e : Env} {ds : List Deferred} {w : World} {d : Nat} {ty : TypeId} {ps : String} {af : Array Edge}
end copy
end Go.Proofs.NV
namespace Go.Proofs.NV
open Go.RowKit Go.Shelf
attribute [local irreducible] bodyPost bodyPostM wpQuiet
theorem not_f {b : Bool} (h : (!b) = false) : b = true := by cases b; cases h; rfl
theorem ok_packs (ks : List Pack) (p : Int) : Packs.ok ks p = (isPacksB ks && inB p 0 600) := by
 have hb : (ks.any fun k => (!inB k.holds 1 144) || !inB k.price 0 1000) = ks.any badK := rfl
 unfold Packs.ok isPacksB
 rw [hb]
 cases ks.any badK <;> cases inB ks.length 1 4 <;> cases inB p 0 600 <;> rfl
end Go.Proofs.NV
namespace Go.Proofs.NV
open Go.RowKit Go.Shelf
section any
variable {r : Option Nat} {P : Program} {Q : Exit → Act → World → Prop} {n : Nat} {e : Env} {ds : List Deferred} {w : World}
theorem any_headV {l : List Oper} {m : Nat} (hB : waitB l m = true) (C : World → Prop) (St : Nat → World → World → Prop) (F : Nat → Env → Value → World → Prop) (dead : Nat → Nat → Bool) (Dom : Nat → List Nat) (Rs : Nat → World → Prop) (hRs : ∀ i k W W', i ≠ k → i ∉ clo l 10 (depsOf l k) → Rs i W → St k W W' → Rs i W')
  (hC : ∀ k W W', C W → St k W W' → C W') (hF : ∀ i k a v W W', i ≠ k → dead i k = false → F i a v W → St k W W' → F i a v W') (hcong : ∀ i a1 a2 v W, (∀ d ∈ Dom i, rd a1 d = rd a2 d) → F i a1 v W → F i a2 v W)
  (hDom : ∀ i, i < m → ∀ d ∈ Dom i, ∃ j, j ∈ clo l 10 (depsOf l i) ∧ j < m ∧ (l[j]?).bind (·.dst) = some d)
  (hop : ∀ i o, i < m → l[i]? = some o → ∀ e' W, Off (headDs l m) e' e → C W → Rs i W → (∀ j, j ∈ clo l 10 (depsOf l i) → (∀ x, dead j x = true → x = i ∨ i ∈ clo l 10 (depsOf l x)) → F j e' (rdO e' ((l[j]?).bind (·.dst))) W) → wl r P l.toArray (opPostD n ds (St i) (F i) o.dst e' W) [o] (act n e' ds) W)
  (htail : ∀ e' W, Off (headDs l m) e' e → C W → (∀ i, i < m → (∀ x, x < m → dead i x = false) → F i e' (rdO e' ((l[i]?).bind (·.dst))) W) → wl r P l.toArray Q (l.drop m) (act n e' ds) W) :
  ∀ (fuel : Nat) (listed : Array Bool) (e' : Env) (W : World), listed.size = l.length → (∀ j, listed.getD j false = true → j < m ∧ ∀ d ∈ depsOf l j, listed.getD d false = true) → listed.count false ≤ fuel →
   Off (headDs l m) e' e → C W → (∀ i, i < m → listed.getD i false = false → Rs i W) → (∀ i, listed.getD i false = true → (∀ x, dead i x = true → listed.getD x false = false) → F i e' (rdO e' ((l[i]?).bind (·.dst))) W) → wpAnyIn (Fw r) 0 P .any l.toArray Q fuel listed (act n e' ds) W := by
 have hB' := hB
 simp only [waitB, Bool.and_eq_true, List.all_eq_true, List.mem_range, Bool.or_eq_true, Nat.blt_eq, List.contains_eq_mem, decide_eq_true_eq, Nat.ble_eq] at hB
 obtain ⟨⟨⟨hdep, hap⟩, hml⟩, hcl⟩ := hB
 have tolist : ∀ (fuel : Nat) (listed : Array Bool) (e' : Env) (W : World), listed.size = l.length → (∀ j, listed.getD j false = true → j < m ∧ ∀ d ∈ depsOf l j, listed.getD d false = true) → (∀ k, k < m → listed.getD k false = true) → listed.count false ≤ fuel →
   Off (headDs l m) e' e → C W → (∀ i, listed.getD i false = true → (∀ x, dead i x = true → listed.getD x false = false) → F i e' (rdO e' ((l[i]?).bind (·.dst))) W) → wpAnyIn (Fw r) 0 P .any l.toArray Q fuel listed (act n e' ds) W := by
  intro fuel listed e' W hsz hL hall hfuel hoff hS hFs
  have hLm : ∀ k, k < l.length → (listed.getD k false = true ↔ k < m) := fun k hk => ⟨fun h => (hL k h).1, fun h => hall k h⟩
  have hcnt : l.length ≤ m + fuel := by
   have hc : listed.count false = l.length - m := by
    have e1 : listed = (List.replicate m true ++ List.replicate (l.length - m) false).toArray := by
     apply Array.ext
     ·simp; omega
     ·intro i h1 h2
      have hk : i < l.length := by omega
      have h3 := hLm i hk
      rw [Array.getD_eq_getD_getElem?, Array.getElem?_eq_getElem h1, Option.getD_some] at h3
      simp only [List.getElem_toArray, List.getElem_append, List.length_replicate, List.getElem_replicate]
      by_cases h : i < m
      ·rw [dif_pos h]; exact h3.2 h
      ·rw [dif_neg h]
       cases hb : listed[i] with
       | false => rfl
       | true => exact absurd (h3.1 hb) h
    rw [e1]
    simp [List.count_replicate]
   omega
  exact any_tail' hB' fuel m listed _ W (Nat.le_refl _) hml hsz hLm hcnt (htail e' W hoff hS fun i hi hx => hFs i (hall i hi) fun x hd => by
   cases hb : listed.getD x false with
   | false => rfl
   | true => rw [hx x (hL x hb).1] at hd; cases hd)
 intro fuel
 induction fuel with
 | zero =>
  intro listed e' W hsz hL hfuel hoff hS hRl hFs
  refine tolist 0 listed e' W hsz hL (fun k hk => ?_) hfuel hoff hS hFs
  have := left_zero (by omega : listed.count false = 0) k
  rwa [getD_two (by omega) false true]
 | succ fuel ih =>
  intro listed e' W hsz hL hfuel hoff hS hRl hFs
  by_cases hall : ∀ k, k < m → listed.getD k false = true
  ·exact tolist (fuel + 1) listed e' W hsz hL hall hfuel hoff hS hFs
  ·have hex : ∃ k, k < m ∧ listed.getD k false = false := by
    apply Classical.byContradiction
    intro hn
    exact hall fun k hk => by
     cases hb : listed.getD k false with
     | true => rfl
     | false => exact absurd ⟨k, hk, hb⟩ hn
   obtain ⟨k0, ⟨hk0, hu0⟩, hmin⟩ := least hex
   have hr0 : k0 ∈ Region.ready .any l.toArray listed := mem_ready'.2 ⟨by rw [getD_two (by omega) true false]; exact hu0, ⟨l[k0]'(by omega), List.getElem?_eq_getElem (by omega)⟩, fun d hd => by
    have h1 := hdep k0 (by omega) d hd
    cases hb : listed.getD d false with
    | true => rfl
    | false => have := hmin d ⟨by omega, hb⟩; omega⟩
   refine ⟨fun h0 => (by rw [h0] at hr0; cases hr0), fun i hi => ?_⟩
   rw [mem_ready'] at hi
   obtain ⟨h1, ⟨o, ho⟩, h2⟩ := hi
   have hil := (List.getElem?_eq_some_iff.1 ho).1
   have hui : listed.getD i false = false := by rw [getD_two (by omega) false true]; exact h1
   have hclo : ∀ j, j ∈ clo l 10 (depsOf l i) → listed.getD j false = true := clo_listed (l := l) (listed := listed) (fun j hj => (hL j hj).2) 10 _ h2
   have him : i < m := by
    rcases Nat.lt_or_ge i m with h | h
    ·exact h
    ·rcases hcl i hil with hc | hc
     ·exact hc
     ·have := hclo k0 (hc k0 (by omega))
      rw [hu0] at this; cases this
   have hgo := hop i o him ho e' W hoff hS (hRl i him hui) fun j hj hx => hFs j (hclo j hj) fun x hd => by
    cases hb : listed.getD x false with
    | false => rfl
    | true =>
     rcases hx x hd with rfl | hx
     ·rw [hui] at hb; cases hb
     ·have := clo_listed (l := l) (listed := listed) (fun j hj => (hL j hj).2) 10 _ (hL x hb).2 i hx
      rw [hui] at this; cases this
   have hnext : ∀ a' W', opPostD n ds (St i) (F i) o.dst e' W .normal a' W' → wpAnyIn (Fw r) 0 P .any l.toArray Q fuel (listed.setIfInBounds i true) a' W' := by
    rintro a' W' ⟨_, v, hv0, rfl, hS', hf⟩
    have htk : (l.take m)[i]? = some o := by rw [List.getElem?_take, if_pos him]; exact ho
    have hoff' : Off (headDs l m) (putE o.dst v e') e := by
     cases hk : o.dst with
     | none => exact hoff
     | some k =>
      refine off_cons ?_ hoff
      simp only [headDs, List.contains_eq_mem, decide_eq_true_eq, List.mem_filterMap]
      exact ⟨o, List.mem_of_getElem? htk, hk⟩
    have hkeep : ∀ j d, j ≠ i → j < m → (l[j]?).bind (·.dst) = some d → rd (putE o.dst v e') d = rd e' d := by
     intro j d hji hjm hd
     cases hk : o.dst with
     | none => rfl
     | some k =>
      have hdk : d ≠ k := by
       rintro rfl
       obtain ⟨oj, hoj, hdj⟩ := Option.bind_eq_some_iff.1 hd
       exact apartN_ne hap j i d hji (by rw [List.getElem?_map, List.getElem?_take, if_pos hjm, hoj]; simp [hdj]) (by rw [List.getElem?_map, htk]; simp [hk])
      simp only [putE, rd, beq_false (Ne.symm hdk), cond_false]
    have hdom : ∀ j, (j = i ∨ listed.getD j false = true) → j < m → ∀ d ∈ Dom j, rd (putE o.dst v e') d = rd e' d := by
     intro j hj hjm d hd
     obtain ⟨x, hx, hxm, hxd⟩ := hDom j hjm d hd
     refine hkeep x d (fun hxi => ?_) hxm hxd
     have : listed.getD i false = true := by
      rw [← hxi]
      rcases hj with hj | hj
      ·rw [hj] at hx; exact hclo x hx
      ·exact clo_listed (l := l) (listed := listed) (fun j hj => (hL j hj).2) 10 _ (hL j hj).2 x hx
     rw [hui] at this; cases this
    refine ih _ (putE o.dst v e') W' (by simpa using hsz) (fun j hj => ?_) (by have := left_set h1; omega) hoff' (hC _ _ _ hS hS') (fun j hjm hj => ?_) (fun j hj hx => ?_)
    ·rw [listed_set] at hj
     rcases hj with hj | ⟨rfl, _⟩
     ·exact ⟨(hL j hj).1, fun d hd => listed_set.2 (.inl ((hL j hj).2 d hd))⟩
     ·exact ⟨him, fun d hd => listed_set.2 (.inl (h2 d hd))⟩
    ·have hji : j ≠ i := by
      rintro rfl
      rw [listed_set.2 (.inr ⟨rfl, by omega⟩)] at hj; cases hj
     have hju : listed.getD j false = false := by
      cases hb : listed.getD j false with
      | false => rfl
      | true => rw [listed_set.2 (.inl hb)] at hj; cases hj
     exact hRs j i W W' hji (fun hc => by have := hclo j hc; rw [hju] at this; cases this) (hRl j hjm hju) hS'
    ·rcases Nat.decEq j i with hji | rfl
     ·rw [listed_set] at hj
      rcases hj with hj | ⟨rfl, _⟩
      ·have hjm := (hL j hj).1
       have hnd : dead j i = false := by
        cases hb : dead j i with
        | false => rfl
        | true =>
         have := hx i hb
         have h3 : (listed.setIfInBounds i true).getD i false = true := listed_set.2 (.inr ⟨rfl, by omega⟩)
         rw [h3] at this; cases this
       have hf0 := hFs j hj fun x hd => by
        cases hb : listed.getD x false with
        | false => rfl
        | true => have := hx x hd; rw [listed_set.2 (.inl hb)] at this; cases this
       have hval : rdO (putE o.dst v e') ((l[j]?).bind (·.dst)) = rdO e' ((l[j]?).bind (·.dst)) := by
        cases hd : (l[j]?).bind (·.dst) with
        | none => rfl
        | some d => exact hkeep j d hji hjm hd
       rw [hval]
       exact hcong _ _ _ _ _ (fun d hd => (hdom j (.inr hj) hjm d hd).symm) (hF _ _ _ _ _ _ hji hnd hf0 hS')
      ·exact absurd rfl hji
     ·rw [ho, Option.bind_some]
      have hval : rdO (putE o.dst v e') o.dst = v := by
       cases hk : o.dst with
       | none => exact (hv0 hk).symm
       | some k => simp [rdO, putE, rd]
      rw [hval]
      exact hcong _ _ _ _ _ (fun d hd => (hdom j (.inl rfl) him d hd).symm) hf
   rw [wl_cons] at hgo
   unfold wpOpIn
   simp only [List.getElem?_toArray, ho]
   by_cases hwn : Region.wanted o (yielded l.toArray (act n e' ds).tmps) = true
   ·rw [if_pos hwn] at hgo
    rw [if_pos hwn]
    refine ⟨fun _ _ => trivial, uponIn_mono2 (fun a w h => hnext a w (by rwa [wl_nil] at h)) (fun _ _ _ h => by cases h.1) (fun ⟨_, _, h⟩ => by cases h.1) hgo⟩
   ·rw [if_neg hwn, wl_nil] at hgo
    rw [if_neg hwn]
    exact ⟨fun _ _ => trivial, hnext _ _ hgo⟩
theorem s_anyV {id : Nat} {l : List Oper} (m : Nat) (J : List Nat) (Ks : List (List (Nat × Option Nat))) (Kt : List (Nat × Option Nat)) (C : World → Prop) (St : Nat → World → World → Prop) (dead : List (Nat × Nat)) (Fs : List Fact) (Rs : Nat → World → Prop) (hm : P.follows .mixedOrders = true)
  (hB : waitB l m = true) (hJ : headDs l m = J) (hK : knowB l m dead Fs 0 Ks = true) (hD : domB l m Fs = true)
  (hKt : (askB Fs Kt [] && Kt.all fun p => Nat.blt p.1 m && ((l[p.1]?).bind (·.dst) == p.2) && dead.all fun q => !(q.1 == p.1)) = true)
  (hd : C { w with drawn := w.drawn + 1 }) (hC : ∀ k W W', C W → St k W W' → C W') (hR0 : ∀ i, Rs i { w with drawn := w.drawn + 1 }) (hRs : ∀ i k W W', i ≠ k → i ∉ clo l 10 (depsOf l k) → Rs i W → St k W W' → Rs i W')
  (hF : ∀ i k v W W' vs, i ≠ k → dead.contains (i, k) = false → (∀ p, Fs[i]? = some p → p.2 vs v W → St k W W' → p.2 vs v W'))
  (hops : OpsR r P n e ds l J C St Fs Rs 0 (l.take m) Ks)
  (htail : ∀ jv W, C W → DepsD Fs W (fun g => wl r P l.toArray Q (l.drop m) (act n (ovr g J jv e) ds) W) Kt []) :
  (Code.region id l.toArray true).wpIn (Fw r) 0 P Q (act n e ds) w := by
 have hcong : ∀ i a1 a2 v W, (∀ d ∈ ((Fs[i]?).map (·.1)).getD [], rd a1 d = rd a2 d) → FD Fs i a1 v W → FD Fs i a2 v W := by
  intro i a1 a2 v W h hf
  unfold FD at hf ⊢
  cases hi : Fs[i]? with
  | none => trivial
  | some p =>
   rw [hi] at hf h
   have : p.1.map (rd a1) = p.1.map (rd a2) := List.map_congr_left fun x hx => h x (by simpa using hx)
   simp only at hf ⊢
   rw [← this]; exact hf
 have hf := any_headV (r := r) (P := P) (Q := Q) (n := n) (e := e) (ds := ds) hB C St (FD Fs) (fun i k => dead.contains (i, k)) (fun i => ((Fs[i]?).map (·.1)).getD []) Rs hRs hC
  (fun i k a v W W' hik hdd hfa hst => by
   unfold FD at hfa ⊢
   cases hi : Fs[i]? with
   | none => trivial
   | some p => rw [hi] at hfa; exact hF i k v W W' _ hik hdd p hi hfa hst)
  hcong
  (fun i him d hd => by
   simp only [domB, List.all_eq_true, List.mem_range] at hD
   have := hD i him
   cases hi : Fs[i]? with
   | none => rw [hi] at hd; simp at hd
   | some p =>
    rw [hi] at hd this
    simp only [Option.map_some, Option.getD_some, List.all_eq_true, List.any_eq_true, Bool.and_eq_true, Nat.blt_eq, beq_iff_eq] at hd this
    obtain ⟨j, h1, h2, h3⟩ := this d hd
    exact ⟨j, h1, h2, h3⟩)
  (fun i o him ho e' W hoff hS hri hdep => by
   obtain ⟨K, h0, h1, h2⟩ := opsR_get hops hK i o (by rw [List.getElem?_take, if_pos him]; exact ho)
   rw [Nat.zero_add] at h1 h2
   rw [hJ] at hoff
   have h3 := depsD_use (e' := e') K [] trivial h0 (h2 (rd e') W hS hri) (fun p hp => by
    have := hdep p.1 (h1 p hp).1 (h1 p hp).2.2
    rwa [(h1 p hp).2.1] at this)
   rw [List.nil_append] at h3
   have h4 := act_envOf (n := n) (ds := ds) K hoff
   rw [← h4] at h3
   have h5 : ∀ ex a' W', opPostD n ds (St i) (FD Fs i) o.dst (ovr (envOf e' K) J (rd e') e) W ex a' W' → opPostD n ds (St i) (FD Fs i) o.dst e' W ex a' W' := by
    rintro ex a' W' ⟨h6, v, h7, rfl, h8, h9⟩
    refine ⟨h6, v, h7, (putE_ovr h4).symm, h8, hcong _ _ _ _ _ (fun d hd => ?_) h9⟩
    have hall : ∀ t, rd (ovr (envOf e' K) J (rd e') e) t = rd e' t := by
     intro t
     by_cases hc : ((envOf e' K).map (·.1)).contains t = true
     ·unfold ovr
      rw [rd_append hc]
      exact rd_has (has_envOf K) hc
     ·have h10 : rd (ovr (envOf e' K) J (rd e') e) t = rd (J.map (fun t => (t, rd e' t)) ++ e) t := by
       unfold ovr
       clear h9 h8 h7 h6 h3 h4
       generalize envOf e' K = g at hc
       induction g with
       | nil => rfl
       | cons p g ih =>
        simp only [List.map_cons, List.contains_cons, Bool.or_eq_true, beq_iff_eq, not_or] at hc
        simp only [List.cons_append, rd]
        rw [beq_false (fun h => hc.1 h.symm), cond_false]
        exact ih hc.2
      rw [h10]
      by_cases hj : J.contains t = true
      ·have h11 : ((J.map (fun t => (t, rd e' t))).map (·.1)).contains t = true := by simpa using hj
       rw [rd_append h11]
       exact rd_has (has_self J) h11
      ·have h12 : J.contains t = false := by simpa using hj
       rw [hoff t h12]
       have h11 : ∀ (J' : List Nat), J'.contains t = false → rd (J'.map (fun t => (t, rd e' t)) ++ e) t = rd e t := by
        intro J' hJ'
        induction J' with
        | nil => rfl
        | cons k J' ih =>
         simp only [List.contains_cons, Bool.or_eq_false_iff, beq_eq_false_iff_ne] at hJ'
         simp only [List.map_cons, List.cons_append, rd]
         rw [beq_false (Ne.symm hJ'.1), cond_false]
         exact ih hJ'.2
       exact h11 J h12
    exact hall d
   rw [wl_cons] at h3 ⊢
   split at h3
   ·rename_i hw
    rw [if_pos hw]
    exact uponIn_mono2 (fun a w h => by rw [wl_nil] at h ⊢; exact h5 _ _ _ h) (fun _ _ _ h => by cases h.1) (fun ⟨_, _, h⟩ => by cases h.1) h3
   ·rename_i hw
    rw [if_neg hw]
    rw [wl_nil] at h3 ⊢
    exact h5 _ _ _ h3)
  (fun e' W hoff hS hfs => by
   rw [hJ] at hoff
   simp only [List.all_eq_true, Bool.and_eq_true, Nat.blt_eq, beq_iff_eq, Bool.not_eq_true'] at hKt
   have h3 := depsD_use (e' := e') Kt [] trivial hKt.1 (htail (rd e') W hS) (fun p hp => by
    have := hfs p.1 (hKt.2 p hp).1.1 (fun x _ => by
     cases hb : dead.contains (p.1, x) with
     | false => rfl
     | true =>
      rw [List.contains_eq_mem, decide_eq_true_eq] at hb
      have := (hKt.2 p hp).2 _ hb
      simp at this)
    rwa [(hKt.2 p hp).1.2] at this)
   rw [List.nil_append, ← act_envOf (n := n) (ds := ds) Kt hoff] at h3
   exact h3)
  l.length (Array.replicate l.length false) e { w with drawn := w.drawn + 1 } (by simp) (fun j hj => by rw [getD_replicate_false] at hj; cases hj) (by simp [Array.count_replicate]) off_refl hd (fun i _ _ => hR0 i) (fun j hj => by rw [getD_replicate_false] at hj; cases hj)
 refine wpIn_region_any hm ?_
 rw [List.size_toArray]
 exact hf
end any
end Go.Proofs.NV
namespace Go.Proofs.NV
open Go.RowKit Go.Shelf
attribute [local irreducible] bodyPost bodyPostM wpQuiet
def takenOk (ks : List Pack) (cs : List Int) : Bool := decide (cs.length ≤ ks.length) && cs.all fun x => inB x 0 600
theorem blk_inj {w : World} {b bt : Nat} {cs cs' : List Value} (h : Blk w b cs bt) (h' : Blk w b cs' bt) : cs = cs' := by
 have h2 : (some (Obj.cells cs.toArray bt (0, 0))) = some (Obj.cells cs'.toArray bt (0, 0)) := h.symm.trans h'
 injection h2 with h2
 injection h2 with h2
 simpa using congrArg Array.toList h2
theorem pricesL_snoc : ∀ (ks : List Pack) (l : List Int) (x : Int) (h : l.length < ks.length), pricesL ks (l ++ [x]) = pricesL ks l + x * ks[l.length].price
 | [], l, x, h => by simp at h
 | k :: ks, [], x, h => by simp [pricesL]
 | k :: ks, c :: l, x, h => by
  have := pricesL_snoc ks l x (by simpa using h)
  simp only [List.cons_append, pricesL, this, List.length_cons, List.getElem_cons_succ]
  omega
theorem holdsL_snoc : ∀ (ks : List Pack) (l : List Int) (x : Int) (h : l.length < ks.length), holdsL ks (l ++ [x]) = holdsL ks l + x * ks[l.length].holds
 | [], l, x, h => by simp at h
 | k :: ks, [], x, h => by simp [holdsL]
 | k :: ks, c :: l, x, h => by
  have := holdsL_snoc ks l x (by simpa using h)
  simp only [List.cons_append, holdsL, this, List.length_cons, List.getElem_cons_succ]
  omega
theorem mul_bound {x y a b : Int} (h1 : 0 ≤ x ∧ x ≤ a) (h2 : 0 ≤ y ∧ y ≤ b) : 0 ≤ x * y ∧ x * y ≤ a * b := ⟨Int.mul_nonneg h1.1 h2.1, Int.mul_le_mul h1.2 h2.2 h2.1 (by omega)⟩
theorem take_bounds {ks : List Pack} (hk : PacksOk ks) {cs : List Int} : ∀ i, i ≤ cs.length → i ≤ ks.length → (∀ x ∈ cs.take i, 0 ≤ x ∧ x ≤ 600) → (0 ≤ sumL (cs.take i) ∧ sumL (cs.take i) ≤ 600 * i) ∧ (0 ≤ pricesL ks (cs.take i) ∧ pricesL ks (cs.take i) ≤ 600000 * i) ∧ 0 ≤ holdsL ks (cs.take i) ∧ holdsL ks (cs.take i) ≤ 86400 * i
 | 0, _, _, _ => by simp [sumL, pricesL, holdsL]
 | i + 1, h1, h2, h => by
  rw [List.take_succ_eq_append_getElem (by omega)] at h
  rw [List.take_succ_eq_append_getElem (by omega)]
  have ih := take_bounds hk i (by omega) (by omega) fun x hx => h x (List.mem_append_left _ hx)
  have hx := h cs[i] (List.mem_append_right _ (List.mem_singleton.2 rfl))
  have hl : (cs.take i).length = i := by rw [List.length_take]; omega
  have hp := hk.each _ (List.getElem_mem (show (cs.take i).length < ks.length by omega))
  have m1 := mul_bound hx ⟨hp.2.1, hp.2.2⟩
  have m2 := mul_bound hx (show 0 ≤ (ks[(cs.take i).length]'(by omega)).holds ∧ (ks[(cs.take i).length]'(by omega)).holds ≤ 144 by omega)
  rw [sumL_snoc, pricesL_snoc ks _ _ (by omega), holdsL_snoc ks _ _ (by omega)]
  omega
theorem takenOk_bad {ks : List Pack} {cs : List Int} {i : Nat} (hi : i < cs.length) (h : ks.length ≤ i ∨ cs[i] < 0 ∨ 600 < cs[i]) : takenOk ks cs = false := by
 unfold takenOk
 rw [Bool.and_eq_false_iff]
 rcases h with h | h
 ·exact .inl (decide_eq_false (by omega))
 ·refine .inr ?_
  rw [List.all_eq_false]
  refine ⟨_, List.getElem_mem hi, ?_⟩
  unfold inB
  simp only [decide_eq_true_eq]
  omega
theorem takenOk_good {ks : List Pack} {cs : List Int} (h1 : cs.length ≤ ks.length) (h : ∀ x ∈ cs, 0 ≤ x ∧ x ≤ 600) : takenOk ks cs = true := by
 unfold takenOk
 rw [Bool.and_eq_true, decide_eq_true_eq, List.all_eq_true]
 exact ⟨h1, fun x hx => decide_eq_true (h x hx)⟩
theorem takenOk_of {ks : List Pack} {cs : List Int} (h : takenOk ks cs = true) : cs.length ≤ ks.length ∧ ∀ x ∈ cs, 0 ≤ x ∧ x ≤ 600 := by
 unfold takenOk at h
 rw [Bool.and_eq_true, decide_eq_true_eq, List.all_eq_true] at h
 exact ⟨h.1, fun x hx => of_decide_eq_true (h.2 x hx)⟩
def TakenR (ks : List Pack) (cA : Option Addr) (cs : List Int) (cc : Nat) (e : Ending) : Prop :=
 (takenOk ks cs = false ∧ e = .returned (.tuple #[.agg #[.slice none 0 0, I 0, I 0], I 0, .bool false])) ∨ (takenOk ks cs = true ∧ e = .returned (.tuple #[.agg #[.slice cA cs.length cc, I (sumL cs), I (pricesL ks cs)], I (holdsL ks cs), .bool (decide ((cs.length : Int) = ks.length))]))
theorem f50_calls {S T : Nat → Prop} (kA : Option Addr) (kc : Nat) (ks : List Pack) (cA : Option Addr) (cc : Nat) (cs : List Int) (w : World) (hk : PacksOk ks) (hx0 : packT.Sl w S kA ks) (hc0 : Ty.int.Sl w T cA cs) (hm : cs.length ≤ 1000) :
  Calls Tryz.prog 50 #[.slice kA ks.length kc, .slice cA cs.length cc] w fun e w' => TakenR ks cA cs cc e ∧ w.grownBy w' none := by
 replace hx0 := hx0.bound
 replace hc0 := hc0.bound
 have hx := hx0
 have hc := hc0
 refine s_enter (n := 78) Tryz.func50 rfl rfl rfl ?_
 have G := grown_refl w none
 refine s_rseq fun _ k1 => ?_
 refine o_alloc (t := 80) ze80 rfl ?_; intro w1 B4 g1 z1
 replace G := G.step0 g1
 refine o_v v_assign ?_
 refine o_v v_assign ?_
 refine o_end (k1 _ _ ?_)
 refine s_rseq fun _ k2 => ?_
 refine o_v v_move ?_
 refine o_v (v_build rfl (fun W => bld80_0 W)) ?_
 refine o_allocst (vs := [.slice cA cs.length cc, I 0, I 0]) ze80 rfl rfl rfl sz80 rfl rfl rfl ?_; intro w2 B7 g2 z2
 replace G := G.step0 g2; replace B4 := B4.step0 g2
 refine o_end (k2 _ _ ?_)
 refine s_rseq fun _ k3 => ?_
 refine o_v v_assign ?_
 refine o_end (k3 _ _ ?_)
 refine s_seq fun _ k4 => ?_
 refine s_rseq fun _ k5 => ?_
 refine o_v v_assign ?_
 refine o_end (k5 _ _ ?_)
 refine s_block ?_
 have B70 : Blk w2 w1.heap.size [.slice cA cs.length cc, I (sumL (cs.take 0)), I (pricesL ks (cs.take 0))] 80 := by
  have e : pricesL ks (cs.take 0) = 0 := by rw [List.take_zero]; unfold pricesL; split <;> simp_all
  rw [e, List.take_zero]
  exact B7
 have e0 : holdsL ks (cs.take 0) = 0 := by rw [List.take_zero]; unfold holdsL; split <;> simp_all
 have hs1 := g1.size
 have hlt1 := B4.lt
 have G2 := G
 have B42 := B4
 refine s_loop (G := Nat) (fun i => [(8, I (holdsL ks (cs.take i))), (9, I i)]) [8, 9] [5, 6, 12, 13, 14, 15, 16, 17, 18, 19, 20, 21, 22, 23, 24, 25, 26, 27, 28, 29, 30, 31, 32, 33, 34, 35, 36, 37, 38, 39, 40, 41, 42, 43, 44, 45, 46, 47, 48, 49, 50, 51, 52, 53, 54, 55, 56, 57, 58, 59, 60, 61, 62, 63, 64, 65, 66, 67, 68, 69, 70] (fun i W => (i ≤ cs.length ∧ i ≤ ks.length ∧ (∀ x ∈ cs.take i, 0 ≤ x ∧ x ≤ 600) ∧ Blk W w1.heap.size [.slice cA cs.length cc, I (sumL (cs.take i)), I (pricesL ks (cs.take i))] 80) ∧ w2.grownBy W (some w1.heap.size)) (fun i => cs.length - i) (fun _ => rfl) 0 ⟨by exact congrArg I e0.symm, rfl, trivial⟩ ⟨⟨Nat.zero_le _, Nat.zero_le _, fun x hx => by simp at hx, B70⟩, grown_refl _ _⟩ ?_
 clear B7 B70 B4 G
 rintro i jv w3 ⟨⟨hi, hi2, hall, B7⟩, g3⟩
 have G : w.grownBy w3 none := grown_own G2 g3 (by omega)
 have B4 := B42.step g3 (fun e => by injection e; omega)
 replace hc := hc0.step0 G
 replace hx := hx0.step0 G
 have hkl := hk.len
 have hbd := take_bounds hk i hi hi2 hall
 refine s_seq fun _ k6 => ?_
 refine s_rseq fun _ k7 => ?_
 refine o_v v_move ?_
 refine o_v v_move ?_
 refine o_v (v_len rfl Tryz.underlying56) ?_
 refine o_v (v_lss rfl rfl) ?_
 refine o_end (k7 _ _ ?_)
 refine s_ifd rfl (fun c7 => ?_) (fun c7 => ?_)
 ·have hlt : i < cs.length := by omega
  obtain ⟨b2, o2, cc2, rfl, hcS, hc2', hrg2⟩ := hc.get i hlt
  obtain rfl : cc2 = [I cs[i]] := hc2'
  replace hcS := hcS.2
  have hc2 := hrg2 0 _ rfl
  rw [show Ty.int.sz = 1 from rfl] at hc2
  obtain ⟨ci, hci⟩ : ∃ ci, ci = cs[i] := ⟨_, rfl⟩
  rw [← hci] at hc2
  refine s_skip ?_
  refine k6 _ _ ?_
  refine s_seq fun _ k8 => ?_
  refine s_block ?_
  refine s_seq fun _ k9 => ?_
  refine s_rseq fun _ k10 => ?_
  refine o_v v_move ?_
  refine o_v v_move ?_
  refine o_v (v_len rfl Tryz.underlying74) ?_
  refine o_v (v_geq rfl rfl) ?_
  refine o_v v_move ?_
  refine o_mid (G := Unit) 6 (fun _ => [(28, .bool (decide ((i : Int) ≥ ks.length) || decide (ci < 0)))]) [28] [23, 24, 25, 26, 27] (fun _ w' => w3.grownBy w' none) (fun _ => rfl) ?_ ?_
  ·have H1 := grown_refl w3 none
   rcases Bool.eq_false_or_eq_true (decide ((i : Int) ≥ ks.length)) with hX1 | hX1
   ·refine g_no rfl rfl rfl hX1 ?_
    refine g_no rfl rfl rfl hX1 ?_
    refine g_no rfl rfl rfl hX1 ?_
    refine g_no rfl rfl rfl hX1 ?_
    refine g_no rfl rfl rfl hX1 ?_
    refine o_v (v_pick_t rfl hX1) ?_
    refine o_end (mid () ?_ ?_ ?_)
    ·repeat (first | exact off_refl | refine off_cons rfl ?_)
    ·exact ⟨by rw [hX1]; rfl, trivial⟩
    ·exact H1
   ·refine g_yes rfl rfl rfl hX1 ?_
    refine o_v v_move ?_
    refine g_yes rfl rfl rfl hX1 ?_
    refine o_v v_move ?_
    refine g_yes rfl rfl rfl hX1 ?_
    refine o_v (v_index rfl rfl slt56 (by omega)) ?_
    refine g_yes rfl rfl rfl hX1 ?_
    refine o_v (v_loadC rfl sc3 hc2) ?_
    refine g_yes rfl rfl rfl hX1 ?_
    refine o_v (v_lss rfl rfl) ?_
    refine o_v (v_pick_f rfl hX1) ?_
    refine o_end (mid () ?_ ?_ ?_)
    ·repeat (first | exact off_refl | refine off_cons rfl ?_)
    ·exact ⟨by rw [hX1]; rfl, trivial⟩
    ·exact H1
  ·rintro _ jv w4 g4
   replace G := G.step0 g4; replace B4 := B4.step0 g4; replace B7 := B7.step0 g4; replace hx := hx.step0 g4
   replace hc2 := cell0 g4 hc2
   replace g3 := World.grownBy.trans g3 (grown_weak g4)
   refine o_v v_move ?_
   refine o_mid (G := Unit) 6 (fun _ => [(35, .bool ((decide ((i : Int) ≥ ks.length) || decide (ci < 0)) || decide (ci > 600)))]) [35] [30, 31, 32, 33, 34] (fun _ w' => w4.grownBy w' none) (fun _ => rfl) ?_ ?_
   ·have H2 := grown_refl w4 none
    rcases Bool.eq_false_or_eq_true (decide ((i : Int) ≥ ks.length) || decide (ci < 0)) with hX2 | hX2
    ·refine g_no rfl rfl rfl hX2 ?_
     refine g_no rfl rfl rfl hX2 ?_
     refine g_no rfl rfl rfl hX2 ?_
     refine g_no rfl rfl rfl hX2 ?_
     refine g_no rfl rfl rfl hX2 ?_
     refine o_v (v_pick_t rfl hX2) ?_
     refine o_end (mid () ?_ ?_ ?_)
     ·repeat (first | exact off_refl | refine off_cons rfl ?_)
     ·exact ⟨by rw [hX2]; rfl, trivial⟩
     ·exact H2
    ·refine g_yes rfl rfl rfl hX2 ?_
     refine o_v v_move ?_
     refine g_yes rfl rfl rfl hX2 ?_
     refine o_v v_move ?_
     refine g_yes rfl rfl rfl hX2 ?_
     refine o_v (v_index rfl rfl slt56 (by omega)) ?_
     refine g_yes rfl rfl rfl hX2 ?_
     refine o_v (v_loadC rfl sc3 hc2) ?_
     refine g_yes rfl rfl rfl hX2 ?_
     refine o_v (v_gtr rfl rfl) ?_
     refine o_v (v_pick_f rfl hX2) ?_
     refine o_end (mid () ?_ ?_ ?_)
     ·repeat (first | exact off_refl | refine off_cons rfl ?_)
     ·exact ⟨by rw [hX2]; rfl, trivial⟩
     ·exact H2
   ·rintro _ jv w5 g5
    replace G := G.step0 g5; replace B4 := B4.step0 g5; replace B7 := B7.step0 g5; replace hx := hx.step0 g5
    replace hc2 := cell0 g5 hc2
    replace g3 := World.grownBy.trans g3 (grown_weak g5)
    refine o_end (k10 _ _ ?_)
    refine s_if rfl (fun c10 => ?_) (fun c10 => ?_)
    ·have hbad : takenOk ks cs = false := by
      refine takenOk_bad hlt ?_
      rw [← hci]
      rw [Bool.or_eq_true, Bool.or_eq_true, decide_eq_true_eq, decide_eq_true_eq, decide_eq_true_eq] at c10
      omega
     refine s_rseq fun _ k11 => ?_
     refine o_v (v_build rfl (fun W => bld80_ W)) ?_
     refine o_storeB (vs := zeroTaken) rfl rfl sz80 rfl B4 rfl rfl ?_; intro w6 B4 g6 z6
     refine o_v v_assign ?_
     refine o_v v_assign ?_
     refine o_end (k11 _ _ ?_)
     refine s_ret (postR (res_ctt rfl rfl (run_loadVar_ag (cs := zeroTaken) ag80 B4 rfl)) ?_)
     exact ⟨.inl ⟨hbad, rfl⟩, grown_own G g6 (Nat.le_refl _)⟩
    ·have c10' : ¬ ((i : Int) ≥ ks.length ∨ ci < 0 ∨ ci > 600) := by
      simp only [Bool.or_eq_false_iff, decide_eq_false_iff_not] at c10
      omega
     have hlk : i < ks.length := by omega
     obtain ⟨b1, o1, ck, rfl, hkS, hck, hr1⟩ := hx.get i hlk
     replace hkS := hkS.2
     obtain rfl : ck = ks[i].cells := hck
     rw [show packT.sz = 2 from rfl] at hr1
     have hkat := hk.each _ (List.getElem_mem hlk)
     obtain ⟨kk, hkk⟩ : ∃ kk, kk = ks[i] := ⟨_, rfl⟩
     rw [← hkk] at hr1 hkat
     have hh0 := hr1 0 _ rfl
     have hp0 := hr1 1 _ rfl
     have m1 := mul_bound (show 0 ≤ ci ∧ ci ≤ 600 by omega) ⟨hkat.2.1, hkat.2.2⟩
     have m2 := mul_bound (show 0 ≤ ci ∧ ci ≤ 600 by omega) (show 0 ≤ kk.holds ∧ kk.holds ≤ 144 by omega)
     have htk : cs.take (i + 1) = cs.take i ++ [ci] := by rw [List.take_succ_eq_append_getElem hlt, ← hci]
     have hlen : (cs.take i).length = i := by rw [List.length_take]; omega
     have es : sumL (cs.take (i + 1)) = sumL (cs.take i) + ci := by rw [htk, sumL_snoc]
     have ep : pricesL ks (cs.take (i + 1)) = pricesL ks (cs.take i) + ci * kk.price := by
      rw [htk, pricesL_snoc ks _ _ (by omega), hkk]
      simp only [hlen]
     have eh : holdsL ks (cs.take (i + 1)) = holdsL ks (cs.take i) + ci * kk.holds := by
      rw [htk, holdsL_snoc ks _ _ (by omega), hkk]
      simp only [hlen]
     obtain ⟨s0, hs0⟩ : ∃ s0, s0 = sumL (cs.take i) := ⟨_, rfl⟩
     obtain ⟨p0, hp00⟩ : ∃ p0, p0 = pricesL ks (cs.take i) := ⟨_, rfl⟩
     refine s_skip ?_
     refine k9 _ _ ?_
     rw [← hs0, ← hp00] at B7
     have hne2 : b2 ≠ w1.heap.size := fun e => by have := hcS.lt; omega
     have hne1 : b1 ≠ w1.heap.size := fun e => by have := hkS.lt; omega
     have hcC : ∀ {W : World}, w5.grownBy W (some w1.heap.size) → W.cell? ⟨b2, o2 + (i : Int).toNat * 1, none⟩ = some (I ci) := fun hC => (World.cell?_of_block (hC.block b2 (World.block_lt_of_cell? _ _ hc2) (fun e => hne2 (by injection e)))).trans hc2
     have hpC : ∀ {W : World}, w5.grownBy W (some w1.heap.size) → W.cell? ⟨b1, o1 + (i : Int).toNat * 2 + 1, none⟩ = some (I kk.price) := fun hC => (World.cell?_of_block (hC.block b1 (World.block_lt_of_cell? _ _ hp0) (fun e => hne1 (by injection e)))).trans hp0
     have hhC : ∀ {W : World}, w5.grownBy W (some w1.heap.size) → W.cell? ⟨b1, o1 + (i : Int).toNat * 2 + 0, none⟩ = some (I kk.holds) := fun hC => (World.cell?_of_block (hC.block b1 (World.block_lt_of_cell? _ _ hh0) (fun e => hne1 (by injection e)))).trans hh0
     refine s_anyV 36 [37, 38, 39, 40, 41, 42, 43, 44, 45, 46, 47, 48, 49, 50, 51, 52, 53, 54, 55, 56, 57, 58, 59, 60, 61, 62, 63, 64, 65, 66, 67, 68, 69, 70] [[], [(0, some 37)], [], [], [(2, some 39), (3, some 40)], [(4, some 41)], [(1, some 38), (5, some 42)], [], [(7, some 44)], [], [], [(9, some 46), (10, some 47)], [(11, some 48)], [], [], [(13, some 50), (14, some 51)], [(15, some 52)], [(16, some 53)], [(12, some 49), (17, some 54)], [(8, some 45), (18, some 55)], [], [], [], [(21, some 58), (22, some 59)], [(23, some 60)], [], [], [(25, some 62), (26, some 63)], [(27, some 64)], [(28, some 65)], [(24, some 61), (29, some 66)], [(20, some 57), (30, some 67)], [], [(32, some 69), (6, some 43)], [], [(34, some 70), (19, some 56), (33, none)]] [(31, some 68), (35, none)] (fun W => w5.grownBy W (some w1.heap.size)) (fun k W W' => if k = 33 then (Blk W w1.heap.size [.slice (some ⟨b2, o2, none⟩) cs.length cc, I s0, I p0] 80 ∧ Blk W' w1.heap.size [.slice (some ⟨b2, o2, none⟩) cs.length cc, I (s0 + ci), I p0] 80) ∧ W.grownBy W' (some w1.heap.size) else if k = 35 then W.grownBy W' (some w1.heap.size) else W.grownBy W' none) [(33, 35)]
      [([], fun _ v W => v = .pointer (some ⟨w1.heap.size, 0 + 1, none⟩)), ([], fun _ v W => v = I s0), ([], fun _ v W => v = .slice (some ⟨b2, o2, none⟩) cs.length cc), ([], fun _ v W => v = I i), ([], fun _ v W => v = .pointer (some ⟨b2, o2 + (i : Int).toNat * 1, none⟩)), ([], fun _ v W => v = I ci), ([], fun _ v W => v = I (s0 + ci)), ([], fun _ v W => v = .pointer (some ⟨w1.heap.size, 0 + 2, none⟩)), ([], fun _ v W => v = I p0), ([], fun _ v W => v = .slice (some ⟨b2, o2, none⟩) cs.length cc), ([], fun _ v W => v = I i), ([], fun _ v W => v = .pointer (some ⟨b2, o2 + (i : Int).toNat * 1, none⟩)), ([], fun _ v W => v = I ci), ([], fun _ v W => v = .slice (some ⟨b1, o1, none⟩) ks.length kc), ([], fun _ v W => v = I i), ([], fun _ v W => v = .pointer (some ⟨b1, o1 + (i : Int).toNat * 2, none⟩)), ([], fun _ v W => v = .pointer (some ⟨b1, o1 + (i : Int).toNat * 2 + 1, none⟩)), ([], fun _ v W => v = I kk.price), ([], fun _ v W => v = I (ci * kk.price)), ([], fun _ v W => v = I (p0 + ci * kk.price)), ([], fun _ v W => v = I (holdsL ks (cs.take i))), ([], fun _ v W => v = .slice (some ⟨b2, o2, none⟩) cs.length cc), ([], fun _ v W => v = I i), ([], fun _ v W => v = .pointer (some ⟨b2, o2 + (i : Int).toNat * 1, none⟩)), ([], fun _ v W => v = I ci), ([], fun _ v W => v = .slice (some ⟨b1, o1, none⟩) ks.length kc), ([], fun _ v W => v = I i), ([], fun _ v W => v = .pointer (some ⟨b1, o1 + (i : Int).toNat * 2, none⟩)), ([], fun _ v W => v = .pointer (some ⟨b1, o1 + (i : Int).toNat * 2 + 0, none⟩)), ([], fun _ v W => v = I kk.holds), ([], fun _ v W => v = I (ci * kk.holds)), ([], fun _ v W => v = I (holdsL ks (cs.take i) + ci * kk.holds)), ([], fun _ v W => v = .pointer (some ⟨w1.heap.size, 0 + 1, none⟩)), ([], fun _ v W => Blk W w1.heap.size [.slice (some ⟨b2, o2, none⟩) cs.length cc, I (s0 + ci), I p0] 80), ([], fun _ v W => v = .pointer (some ⟨w1.heap.size, 0 + 2, none⟩)), ([], fun _ v W => Blk W w1.heap.size [.slice (some ⟨b2, o2, none⟩) cs.length cc, I (s0 + ci), I (p0 + ci * kk.price)] 80)] (fun i W => (i = 1 ∨ i = 8 ∨ i = 33) → Blk W w1.heap.size [.slice (some ⟨b2, o2, none⟩) cs.length cc, I s0, I p0] 80)
      mixed (by kernel_rfl) (by kernel_rfl) (by kernel_rfl) (by kernel_rfl) (by kernel_rfl) (grown_weak g0_drawn) ?_ (fun i _ => B7.step0 g0_drawn) ?_ ?_ ?_ ?_
     ·intro k W1 W2 hC hS
      by_cases h1 : k = 33
      ·simp only [h1, if_true] at hS; exact World.grownBy.trans hC hS.2
      ·by_cases h2 : k = 35
       ·simp only [h2, if_true] at hS; exact World.grownBy.trans hC (by simpa using hS)
       ·simp only [if_neg h1, if_neg h2] at hS; exact World.grownBy.trans hC (grown_weak hS)
     ·intro i k W1 W2 hik hcl hR hS hi
      by_cases h1 : k = 33
      ·subst h1
       rcases hi with rfl | rfl | rfl
       ·exact absurd (List.contains_iff_mem.1 (by kernel_rfl)) hcl
       ·exact absurd (List.contains_iff_mem.1 (by kernel_rfl)) hcl
       ·exact absurd rfl hik
      ·by_cases h2 : k = 35
       ·subst h2
        rcases hi with rfl | rfl | rfl
        ·exact absurd (List.contains_iff_mem.1 (by kernel_rfl)) hcl
        ·exact absurd (List.contains_iff_mem.1 (by kernel_rfl)) hcl
        ·exact absurd (List.contains_iff_mem.1 (by kernel_rfl)) hcl
       ·simp only [if_neg h1, if_neg h2] at hS; exact (hR hi).step0 hS
     ·intro i k v W1 W2 vs hik hd p hp h hS
      rcases i with _ | _ | _ | _ | _ | _ | _ | _ | _ | _ | _ | _ | _ | _ | _ | _ | _ | _ | _ | _ | _ | _ | _ | _ | _ | _ | _ | _ | _ | _ | _ | _ | _ | _ | _ | _ | i
      ·cases hp; exact h
      ·cases hp; exact h
      ·cases hp; exact h
      ·cases hp; exact h
      ·cases hp; exact h
      ·cases hp; exact h
      ·cases hp; exact h
      ·cases hp; exact h
      ·cases hp; exact h
      ·cases hp; exact h
      ·cases hp; exact h
      ·cases hp; exact h
      ·cases hp; exact h
      ·cases hp; exact h
      ·cases hp; exact h
      ·cases hp; exact h
      ·cases hp; exact h
      ·cases hp; exact h
      ·cases hp; exact h
      ·cases hp; exact h
      ·cases hp; exact h
      ·cases hp; exact h
      ·cases hp; exact h
      ·cases hp; exact h
      ·cases hp; exact h
      ·cases hp; exact h
      ·cases hp; exact h
      ·cases hp; exact h
      ·cases hp; exact h
      ·cases hp; exact h
      ·cases hp; exact h
      ·cases hp; exact h
      ·cases hp; exact h
      ·cases hp
       have h2 : k ≠ 35 := fun e => by subst e; simp at hd
       simp only [if_neg (Ne.symm hik), if_neg h2] at hS
       exact Blk.step0 h hS
      ·cases hp; exact h
      ·cases hp
       by_cases h1 : k = 33
       ·simp only [h1, if_true] at hS
        have e := blk_inj h hS.1.1
        simp only [List.cons.injEq, Value.int.injEq, true_and, and_true] at e
        show Blk W2 _ _ _
        rw [e.2]
        exact hS.1.2
       ·simp only [if_neg h1, if_neg (Ne.symm hik)] at hS
        exact Blk.step0 h hS
      ·simp at hp
     ·refine ⟨?_, ?_, ?_, ?_, ?_, ?_, ?_, ?_, ?_, ?_, ?_, ?_, ?_, ?_, ?_, ?_, ?_, ?_, ?_, ?_, ?_, ?_, ?_, ?_, ?_, ?_, ?_, ?_, ?_, ?_, ?_, ?_, ?_, ?_, ?_, ?_, trivial⟩
      ·rintro jv W hC hR
       exact o_v (v_field rfl fld80_1) (o_end (opD_done (grown_refl _ _) rfl))
      ·rintro jv W hC hR _ rfl
       exact o_v (v_loadB rfl sc3 (hR (.inl rfl)) rfl) (o_end (opD_done (grown_refl _ _) rfl))
      ·rintro jv W hC hR
       exact o_v v_move (o_end (opD_done (grown_refl _ _) rfl))
      ·rintro jv W hC hR
       exact o_v v_move (o_end (opD_done (grown_refl _ _) rfl))
      ·rintro jv W hC hR _ rfl _ rfl
       exact o_v (v_index rfl rfl slt56 (by omega)) (o_end (opD_done (grown_refl _ _) rfl))
      ·rintro jv W hC hR _ rfl
       exact o_v (v_loadC rfl sc3 (hcC hC)) (o_end (opD_done (grown_refl _ _) rfl))
      ·rintro jv W hC hR _ rfl _ rfl
       exact o_v (v_add rfl rfl (by omega)) (o_end (opD_done (grown_refl _ _) rfl))
      ·rintro jv W hC hR
       exact o_v (v_field rfl fld80_2) (o_end (opD_done (grown_refl _ _) rfl))
      ·rintro jv W hC hR _ rfl
       exact o_v (v_loadB rfl sc3 (hR (.inr (.inl rfl))) rfl) (o_end (opD_done (grown_refl _ _) rfl))
      ·rintro jv W hC hR
       exact o_v v_move (o_end (opD_done (grown_refl _ _) rfl))
      ·rintro jv W hC hR
       exact o_v v_move (o_end (opD_done (grown_refl _ _) rfl))
      ·rintro jv W hC hR _ rfl _ rfl
       exact o_v (v_index rfl rfl slt56 (by omega)) (o_end (opD_done (grown_refl _ _) rfl))
      ·rintro jv W hC hR _ rfl
       exact o_v (v_loadC rfl sc3 (hcC hC)) (o_end (opD_done (grown_refl _ _) rfl))
      ·rintro jv W hC hR
       exact o_v v_move (o_end (opD_done (grown_refl _ _) rfl))
      ·rintro jv W hC hR
       exact o_v v_move (o_end (opD_done (grown_refl _ _) rfl))
      ·rintro jv W hC hR _ rfl _ rfl
       exact o_v (v_index rfl rfl slt74 (by omega)) (o_end (opD_done (grown_refl _ _) rfl))
      ·rintro jv W hC hR _ rfl
       exact o_v (v_field rfl fld164_1) (o_end (opD_done (grown_refl _ _) rfl))
      ·rintro jv W hC hR _ rfl
       exact o_v (v_loadC rfl sc3 (hpC hC)) (o_end (opD_done (grown_refl _ _) rfl))
      ·rintro jv W hC hR _ rfl _ rfl
       exact o_v (v_mul rfl rfl (by omega)) (o_end (opD_done (grown_refl _ _) rfl))
      ·rintro jv W hC hR _ rfl _ rfl
       exact o_v (v_add rfl rfl (by omega)) (o_end (opD_done (grown_refl _ _) rfl))
      ·rintro jv W hC hR
       exact o_v v_move (o_end (opD_done (grown_refl _ _) rfl))
      ·rintro jv W hC hR
       exact o_v v_move (o_end (opD_done (grown_refl _ _) rfl))
      ·rintro jv W hC hR
       exact o_v v_move (o_end (opD_done (grown_refl _ _) rfl))
      ·rintro jv W hC hR _ rfl _ rfl
       exact o_v (v_index rfl rfl slt56 (by omega)) (o_end (opD_done (grown_refl _ _) rfl))
      ·rintro jv W hC hR _ rfl
       exact o_v (v_loadC rfl sc3 (hcC hC)) (o_end (opD_done (grown_refl _ _) rfl))
      ·rintro jv W hC hR
       exact o_v v_move (o_end (opD_done (grown_refl _ _) rfl))
      ·rintro jv W hC hR
       exact o_v v_move (o_end (opD_done (grown_refl _ _) rfl))
      ·rintro jv W hC hR _ rfl _ rfl
       exact o_v (v_index rfl rfl slt74 (by omega)) (o_end (opD_done (grown_refl _ _) rfl))
      ·rintro jv W hC hR _ rfl
       exact o_v (v_field rfl fld164_0) (o_end (opD_done (grown_refl _ _) rfl))
      ·rintro jv W hC hR _ rfl
       exact o_v (v_loadC rfl sc3 (hhC hC)) (o_end (opD_done (grown_refl _ _) rfl))
      ·rintro jv W hC hR _ rfl _ rfl
       exact o_v (v_mul rfl rfl (by omega)) (o_end (opD_done (grown_refl _ _) rfl))
      ·rintro jv W hC hR _ rfl _ rfl
       exact o_v (v_add rfl rfl (by omega)) (o_end (opD_done (grown_refl _ _) rfl))
      ·rintro jv W hC hR
       exact o_v (v_field rfl fld80_1) (o_end (opD_done (grown_refl _ _) rfl))
      ·rintro jv W hC hR _ rfl _ rfl
       refine o_storeB (vs := [I (s0 + ci)]) rfl rfl sz3 rfl (hR (.inr (.inr rfl))) rfl rfl ?_; intro wa Ba ga za
       exact o_end (opD_none ⟨⟨hR (.inr (.inr rfl)), Ba⟩, ga⟩ Ba)
      ·rintro jv W hC hR
       exact o_v (v_field rfl fld80_2) (o_end (opD_done (grown_refl _ _) rfl))
      ·rintro jv W hC hR _ rfl _ rfl B33
       refine o_storeB (vs := [I (p0 + ci * kk.price)]) rfl rfl sz3 rfl B33 rfl rfl ?_; intro wa Ba ga za
       exact o_end (opD_none ga Ba)
     rintro jv w9 g59 _ rfl B7
     refine o_v v_assign ?_
     refine o_end ?_
     refine k8 _ _ ?_
     refine s_region ?_
     refine o_v v_move ?_
     refine o_v (v_add rfl rfl (by omega)) ?_
     refine o_v v_assign ?_
     refine o_end ?_
     refine mid (i + 1) ?_ ?_ ?_
     ·repeat (first | exact off_refl | refine off_cons rfl ?_)
     ·exact ⟨congrArg I eh.symm, rfl, trivial⟩
     ·refine ⟨⟨⟨hlt, hlk, fun x hx => ?_, ?_⟩, World.grownBy.trans g3 g59⟩, by omega⟩
      ·rw [htk] at hx
       rcases List.mem_append.1 hx with hx | hx
       ·exact hall x hx
       ·rw [List.mem_singleton.1 hx]; omega
      ·rw [es, ep, ← hs0, ← hp00]; exact B7
 ·obtain rfl : i = cs.length := by omega
  rw [List.take_of_length_le (Nat.le_refl _)] at hall B7 hbd
  refine s_exit ?_
  refine k4 _ _ ?_
  refine s_rseq fun _ k12 => ?_
  refine o_v (v_loadBS (vs := [.slice cA cs.length cc, I (sumL cs), I (pricesL ks cs)]) rfl ag80 B7 rfl rfl) ?_
  refine o_v v_move ?_
  refine o_v v_move ?_
  refine o_v (v_len rfl Tryz.underlying56) ?_
  refine o_v v_move ?_
  refine o_v (v_len rfl Tryz.underlying74) ?_
  refine o_v (v_eql rfl rfl) ?_
  refine o_storeB (vs := [.slice cA cs.length cc, I (sumL cs), I (pricesL ks cs)]) rfl rfl sz80 rfl B4 rfl rfl ?_; intro w10 B4 g10 z10
  refine o_v v_assign ?_
  refine o_v v_assign ?_
  refine o_end (k12 _ _ ?_)
  refine s_ret (postR (res_ctt rfl rfl (run_loadVar_ag (cs := [.slice cA cs.length cc, I (sumL cs), I (pricesL ks cs)]) ag80 B4 rfl)) ?_)
  refine ⟨.inr ⟨takenOk_good hi2 hall, ?_⟩, grown_own G g10 (Nat.le_refl _)⟩
  have e1 : cs.take cs.length = cs := List.take_of_length_le (Nat.le_refl _)
  exact congrArg (fun l => Ending.returned (.tuple #[.agg #[.slice cA cs.length cc, I (sumL cs), I (pricesL ks cs)], I (holdsL ks l), .bool (decide ((cs.length : Int) = ks.length))])) e1
end Go.Proofs.NV
