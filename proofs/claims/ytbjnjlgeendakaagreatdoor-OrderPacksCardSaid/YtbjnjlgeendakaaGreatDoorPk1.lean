/- Part of the proof: The reference of packs: in, IsPacks, Pieces, Before, Better.. The reference's Packs.. The law OrderPacks.. -/
import Derived.Test.YtbjnjlgeendakaaGreatDoorKb21
import Derived.Test.YtbjnjlgeendakaaGreatDoorKb24
import Derived.Test.YtbjnjlgeendakaaGreatDoorKb17
import Derived.Test.YtbjnjlgeendakaaGreatDoorKb25
set_option linter.unusedVariables false
set_option maxRecDepth 100000
set_option maxHeartbeats 8000000
set_option linter.unusedSimpArgs false
namespace Go.Proofs.NV
open Go.RowKit Go.Shelf
attribute [local irreducible] bodyPost bodyPostM wpQuiet
theorem ret_b {a b : Bool} (h : a = b) : Ending.returned (.bool a) = .returned (.bool b) := by rw [h]
def takenT : Ty Taken := (Ty.int.sl.pair (Ty.int.pair Ty.int)).iso fun p => (p.counts, p.many, p.price)
theorem takenT_iff {w : World} {S : Nat → Prop} {p : Taken} {cs : List Value} : takenT.rep w S p cs ↔ ∃ A c, cs = [.slice A p.counts.length c, I p.many, I p.price] ∧ p.counts.length ≤ c ∧ c ≤ maxLen ∧ Ty.int.Sl w S A p.counts := by
 constructor
 ·rintro ⟨c0, c1, rfl, ⟨A, c, rfl, h1, h2, h3⟩, c2, c3, rfl, h4, h5⟩
  obtain rfl : c2 = [I p.many] := h4
  obtain rfl : c3 = [I p.price] := h5
  exact ⟨A, c, rfl, h1, h2, h3⟩
 ·rintro ⟨A, c, rfl, h1, h2, h3⟩
  exact ⟨_, _, rfl, ⟨A, c, rfl, h1, h2, h3⟩, _, _, rfl, rfl, rfl⟩
theorem taken_three {w : World} {S : Nat → Prop} {p : Taken} {cs : List Value} (h : takenT.rep w S p cs) : cs.length = 3 ∧ cs.all (·.oneCell') = true := ⟨takenT.hlen h, by rw [List.all_eq_true]; exact takenT.hone h⟩
def badK (k : Pack) : Bool := (!inB k.holds 1 144) || !inB k.price 0 1000
def isPacksB (ks : List Pack) : Bool := !(ks.any badK) && inB ks.length 1 4
theorem any_take_succ {α : Type} {p : α → Bool} {xs : List α} {i : Nat} (hi : i < xs.length) (h : (xs.take i).any p = false) (hp : p xs[i] = false) : (xs.take (i + 1)).any p = false := by
 rw [List.take_succ_eq_append_getElem hi, List.any_append, h]
 simp [hp]
theorem any_at {α : Type} {p : α → Bool} {xs : List α} {i : Nat} (hi : i < xs.length) (hp : p xs[i] = true) : xs.any p = true := List.any_eq_true.2 ⟨_, List.getElem_mem hi, hp⟩
theorem f86_calls (x lo hi : Int) (w : World) :
  Calls Tryz.prog 86 #[I x, I lo, I hi] w fun e w' => e = .returned (.bool (inB x lo hi)) ∧ w.grownBy w' none := by
 refine s_enter (n := 15) Tryz.func86 rfl rfl rfl ?_
 have G := grown_refl w none
 refine s_rseq fun _ k1 => ?_
 refine o_v v_assign ?_
 refine o_end (k1 _ _ ?_)
 refine s_rseq fun _ k2 => ?_
 refine o_v v_move ?_
 refine o_v v_move ?_
 refine o_v (v_geq rfl rfl) ?_
 refine o_v v_move ?_
 refine o_mid (G := Unit) 4 (fun _ => [(14, .bool ((decide (lo ≤ x)) && (decide (x ≤ hi))))]) [14] [11, 12, 13] (fun _ w' => w.grownBy w' none) (fun _ => rfl) ?_ ?_
 ·have H1 := grown_refl w none
  rcases Bool.eq_false_or_eq_true ((decide (lo ≤ x))) with hX1 | hX1
  ·refine g_yes rfl rfl rfl hX1 ?_
   refine o_v v_move ?_
   refine g_yes rfl rfl rfl hX1 ?_
   refine o_v v_move ?_
   refine g_yes rfl rfl rfl hX1 ?_
   refine o_v (v_leq rfl rfl) ?_
   refine o_v (v_pick_t rfl hX1) ?_
   refine o_end (mid () ?_ ?_ ?_)
   ·repeat (first | exact off_refl | refine off_cons rfl ?_)
   ·exact ⟨by rw [hX1]; rfl, trivial⟩
   ·exact H1
  ·refine g_no rfl rfl rfl hX1 ?_
   refine g_no rfl rfl rfl hX1 ?_
   refine g_no rfl rfl rfl hX1 ?_
   refine o_v (v_pick_f rfl hX1) ?_
   refine o_end (mid () ?_ ?_ ?_)
   ·repeat (first | exact off_refl | refine off_cons rfl ?_)
   ·exact ⟨by rw [hX1]; rfl, trivial⟩
   ·exact H1
 ·rintro _ jv w1 g1
  replace G := G.step0 g1
  refine o_v v_assign ?_
  refine o_end (k2 _ _ ?_)
  refine s_ret (post1 rfl ?_)
  exact ⟨ret_bool (by simp [inB]), G⟩
theorem f47_calls (x : Int) (w : World) :
  Calls Tryz.prog 47 #[I x] w fun e w' => e = .returned (.bool (inB x 0 600)) ∧ w.grownBy w' none := by
 refine s_enter (n := 5) Tryz.func47 rfl rfl rfl ?_
 have G := grown_refl w none
 refine s_rseq fun _ k1 => ?_
 refine o_v v_assign ?_
 refine o_end (k1 _ _ ?_)
 refine s_rseq fun _ k2 => ?_
 refine o_v v_move ?_
 refine o_call rfl rfl ent86 (f86_calls _ _ _ _) ?_; rintro _ w1 ⟨rfl, g1⟩; refine ⟨_, rfl, ?_⟩
 replace G := G.step0 g1
 refine o_v v_assign ?_
 refine o_end (k2 _ _ ?_)
 refine s_ret (post1 rfl ?_)
 exact ⟨rfl, G⟩
theorem f46_calls {T : Nat → Prop} (kA : Option Addr) (kc : Nat) (ks : List Pack) (w : World) (hx : packT.Sl w T kA ks) (hm : ks.length ≤ maxLen) :
  Calls Tryz.prog 46 #[.slice kA ks.length kc] w fun e w' => e = .returned (.bool (isPacksB ks)) ∧ w.grownBy w' none := by
 refine s_enter (n := 29) Tryz.func46 rfl rfl rfl ?_
 have G := grown_refl w none
 refine s_rseq fun _ k1 => ?_
 refine o_v v_assign ?_
 refine o_end (k1 _ _ ?_)
 refine s_seq fun _ k2 => ?_
 refine s_rseq fun _ k3 => ?_
 refine o_v v_assign ?_
 refine o_end (k3 _ _ ?_)
 refine s_block ?_
 rw [maxLen_val] at hm
 refine s_loop (G := Nat) (fun i => [(3, I i)]) [3] [2, 4, 5, 6, 7, 8, 9, 10, 11, 12, 13, 14, 15, 16, 17, 18, 19, 20, 21, 22, 23, 24, 25] (fun i W => (i ≤ ks.length ∧ (ks.take i).any badK = false) ∧ w.grownBy W none) (fun i => ks.length - i) (fun _ => rfl) 0 ⟨rfl, trivial⟩ ⟨⟨Nat.zero_le _, rfl⟩, grown_refl _ _⟩ ?_
 rintro i jv w1 ⟨⟨hi, ht⟩, g1⟩
 replace G := G.step0 g1
 refine s_seq fun _ k4 => ?_
 refine s_rseq fun _ k5 => ?_
 refine o_v v_move ?_
 refine o_v v_move ?_
 refine o_v (v_len rfl Tryz.underlying74) ?_
 refine o_v (v_lss rfl rfl) ?_
 refine o_end (k5 _ _ ?_)
 refine s_ifd rfl (fun c5 => ?_) (fun c5 => ?_)
 ·have hlt : i < ks.length := by omega
  obtain ⟨b1, o1, ck, rfl, _, hck, hr1⟩ := (hx.step0 g1).get i hlt
  obtain rfl : ck = ks[i].cells := hck
  rw [show packT.sz = 2 from rfl] at hr1
  refine s_skip ?_
  refine k4 _ _ ?_
  refine s_seq fun _ k6 => ?_
  refine s_block ?_
  refine s_rseq fun _ k7 => ?_
  refine o_v v_move ?_
  refine o_v v_move ?_
  refine o_v (v_index rfl rfl slt74 (by omega)) ?_
  refine o_v (v_field rfl fld164_0) ?_
  refine o_v (v_loadC rfl sc3 (hr1 0 _ rfl)) ?_
  refine o_call rfl rfl ent86 (f86_calls _ _ _ _) ?_; rintro _ w2 ⟨rfl, g2⟩; refine ⟨_, rfl, ?_⟩
  replace G := G.step0 g2; replace g1 := g1.step0 g2
  refine o_v (v_not rfl) ?_
  refine o_v v_move ?_
  refine o_mid (G := Unit) 8 (fun _ => [(25, .bool (badK ks[i]))]) [25] [18, 19, 20, 21, 22, 23, 24] (fun _ w' => w2.grownBy w' none) (fun _ => rfl) ?_ ?_
  ·have H1 := grown_refl w2 none
   rcases Bool.eq_false_or_eq_true (!inB ks[i].holds 1 144) with hX1 | hX1
   ·refine g_no rfl rfl rfl hX1 ?_
    refine g_no rfl rfl rfl hX1 ?_
    refine g_no rfl rfl rfl hX1 ?_
    refine g_no rfl rfl rfl hX1 ?_
    refine g_no rfl rfl rfl hX1 ?_
    refine g_no rfl rfl rfl hX1 ?_
    refine g_no rfl rfl rfl hX1 ?_
    refine o_v (v_pick_t rfl hX1) ?_
    refine o_end (mid () ?_ ?_ ?_)
    ·repeat (first | exact off_refl | refine off_cons rfl ?_)
    ·exact ⟨by unfold badK; rw [hX1]; rfl, trivial⟩
    ·exact H1
   ·refine g_yes rfl rfl rfl hX1 ?_
    refine o_v v_move ?_
    refine g_yes rfl rfl rfl hX1 ?_
    refine o_v v_move ?_
    refine g_yes rfl rfl rfl hX1 ?_
    refine o_v (v_index rfl rfl slt74 (by omega)) ?_
    refine g_yes rfl rfl rfl hX1 ?_
    refine o_v (v_field rfl fld164_1) ?_
    refine g_yes rfl rfl rfl hX1 ?_
    refine o_v (v_loadC rfl sc3 (cell0 g2 (hr1 1 _ rfl))) ?_
    refine g_yes rfl rfl rfl hX1 ?_
    refine o_call rfl rfl ent86 (f86_calls _ _ _ _) ?_; rintro _ w3 ⟨rfl, g3⟩; refine ⟨_, rfl, ?_⟩
    replace G := G.step0 g3; replace g1 := g1.step0 g3; replace H1 := H1.step0 g3
    refine g_yes rfl rfl rfl hX1 ?_
    refine o_v (v_not rfl) ?_
    refine o_v (v_pick_f rfl hX1) ?_
    refine o_end (mid () ?_ ?_ ?_)
    ·repeat (first | exact off_refl | refine off_cons rfl ?_)
    ·exact ⟨by unfold badK; rw [hX1]; rfl, trivial⟩
    ·exact H1
  ·rintro _ jv w4 g4
   replace G := G.step0 g4; replace g1 := g1.step0 g4
   refine o_end (k7 _ _ ?_)
   refine s_if rfl (fun c7 => ?_) (fun c7 => ?_)
   ·refine s_rseq fun _ k8 => ?_
    refine o_v v_assign ?_
    refine o_end (k8 _ _ ?_)
    refine s_ret (post1 rfl ?_)
    exact ⟨ret_b (by unfold isPacksB; rw [any_at hlt c7]; rfl), G⟩
   ·refine s_skip ?_
    refine k6 _ _ ?_
    refine s_region ?_
    refine o_v v_move ?_
    refine o_v (v_add rfl rfl (by omega)) ?_
    refine o_v v_assign ?_
    refine o_end ?_
    refine mid (i + 1) ?_ ?_ ?_
    ·repeat (first | exact off_refl | refine off_cons rfl ?_)
    ·exact ⟨rfl, trivial⟩
    ·exact ⟨⟨⟨hlt, any_take_succ hlt ht (by simpa using c7)⟩, by assumption⟩, by omega⟩
 ·obtain rfl : i = ks.length := by omega
  rw [List.take_of_length_le (Nat.le_refl _)] at ht
  refine s_exit ?_
  refine k2 _ _ ?_
  refine s_rseq fun _ k9 => ?_
  refine o_v v_move ?_
  refine o_v (v_len rfl Tryz.underlying74) ?_
  refine o_call rfl rfl ent86 (f86_calls _ _ _ _) ?_; rintro _ w5 ⟨rfl, g5⟩; refine ⟨_, rfl, ?_⟩
  replace G := G.step0 g5; replace g1 := g1.step0 g5
  refine o_v v_assign ?_
  refine o_end (k9 _ _ ?_)
  refine s_ret (post1 rfl ?_)
  exact ⟨ret_b (by unfold isPacksB; rw [ht]; rfl), G⟩
theorem f44_calls {S T : Nat → Prop} (A B : Option Addr) (c d : Nat) (xs ys : List Int) (w : World) (hx : Ty.int.Sl w S A xs) (hy : Ty.int.Sl w T B ys) (hm : xs.length ≤ maxLen) (hm2 : ys.length ≤ maxLen) :
  Calls Tryz.prog 44 #[.slice A xs.length c, .slice B ys.length d] w fun e w' => e = .returned (.bool (beforeL xs ys)) ∧ w.grownBy w' none := by
 refine s_enter (n := 41) Tryz.func44 rfl rfl rfl ?_
 have G := grown_refl w none
 refine s_rseq fun _ k1 => ?_
 refine o_v v_assign ?_
 refine o_end (k1 _ _ ?_)
 refine s_seq fun _ k2 => ?_
 refine s_rseq fun _ k3 => ?_
 refine o_v v_assign ?_
 refine o_end (k3 _ _ ?_)
 refine s_block ?_
 rw [maxLen_val] at hm hm2
 refine s_loop (G := Nat) (fun i => [(5, I i)]) [5] [4, 6, 7, 8, 9, 10, 11, 12, 13, 14, 15, 16, 17, 18, 19, 20, 21, 22, 23, 24, 25, 26, 27, 28, 29, 30, 31, 32, 33, 34, 35] (fun i W => (i ≤ xs.length ∧ i ≤ ys.length ∧ beforeL xs ys = beforeL (xs.drop i) (ys.drop i)) ∧ w.grownBy W none) (fun i => xs.length - i) (fun _ => rfl) 0 ⟨rfl, trivial⟩ ⟨⟨Nat.zero_le _, Nat.zero_le _, rfl⟩, grown_refl _ _⟩ ?_
 rintro i jv w1 ⟨⟨hi, hi2, ht⟩, g1⟩
 replace G := G.step0 g1; replace hx := hx.step0 g1; replace hy := hy.step0 g1
 refine s_seq fun _ k4 => ?_
 refine s_rseq fun _ k5 => ?_
 refine o_v v_move ?_
 refine o_v v_move ?_
 refine o_v (v_len rfl Tryz.underlying56) ?_
 refine o_v (v_lss rfl rfl) ?_
 refine o_v v_move ?_
 refine o_mid (G := Unit) 5 (fun _ => [(15, .bool (decide ((i : Int) < xs.length) && decide ((i : Int) < ys.length)))]) [15] [11, 12, 13, 14] (fun _ w' => w1.grownBy w' none) (fun _ => rfl) ?_ ?_
 ·have H1 := grown_refl w1 none
  rcases Bool.eq_false_or_eq_true (decide ((i : Int) < xs.length)) with hX1 | hX1
  ·refine g_yes rfl rfl rfl hX1 ?_
   refine o_v v_move ?_
   refine g_yes rfl rfl rfl hX1 ?_
   refine o_v v_move ?_
   refine g_yes rfl rfl rfl hX1 ?_
   refine o_v (v_len rfl Tryz.underlying56) ?_
   refine g_yes rfl rfl rfl hX1 ?_
   refine o_v (v_lss rfl rfl) ?_
   refine o_v (v_pick_t rfl hX1) ?_
   refine o_end (mid () ?_ ?_ ?_)
   ·repeat (first | exact off_refl | refine off_cons rfl ?_)
   ·exact ⟨by rw [hX1]; rfl, trivial⟩
   ·exact H1
  ·refine g_no rfl rfl rfl hX1 ?_
   refine g_no rfl rfl rfl hX1 ?_
   refine g_no rfl rfl rfl hX1 ?_
   refine g_no rfl rfl rfl hX1 ?_
   refine o_v (v_pick_f rfl hX1) ?_
   refine o_end (mid () ?_ ?_ ?_)
   ·repeat (first | exact off_refl | refine off_cons rfl ?_)
   ·exact ⟨by rw [hX1]; rfl, trivial⟩
   ·exact H1
 ·rintro _ jv w2 g2
  replace G := G.step0 g2; replace hx := hx.step0 g2; replace hy := hy.step0 g2; replace g1 := g1.step0 g2
  refine o_end (k5 _ _ ?_)
  refine s_if rfl (fun c5 => ?_) (fun c5 => ?_)
  ·rw [Bool.and_eq_true, decide_eq_true_eq, decide_eq_true_eq] at c5
   have hlt : i < xs.length := by omega
   have hlt2 : i < ys.length := by omega
   obtain ⟨b1, o1, rfl, hc1⟩ := hx.int i hlt
   obtain ⟨b2, o2, rfl, hc2⟩ := hy.int i hlt2
   have hcut : beforeL xs ys = if xs[i] ≠ ys[i] then decide (xs[i] < ys[i]) else beforeL (xs.drop (i + 1)) (ys.drop (i + 1)) := by rw [ht, List.drop_eq_getElem_cons hlt, List.drop_eq_getElem_cons hlt2, beforeL]
   refine s_skip ?_
   refine k4 _ _ ?_
   refine s_seq fun _ k6 => ?_
   refine s_block ?_
   refine s_seq fun _ k7 => ?_; refine s_quiet mixed (by kernel_rfl) ?_
   refine q_v (fun _ gq => v_move) ?_
   refine q_v (fun _ gq => v_move) ?_
   refine q_v (fun _ gq => v_index rfl rfl slt56 (by omega)) ?_
   refine q_v (fun _ gq => v_loadC rfl sc3 (cell0 gq hc1)) ?_
   refine q_v (fun _ gq => v_move) ?_
   refine q_v (fun _ gq => v_move) ?_
   refine q_v (fun _ gq => v_index rfl rfl slt56 (by omega)) ?_
   refine q_v (fun _ gq => v_loadC rfl sc3 (cell0 gq hc2)) ?_
   refine q_v (fun _ gq => v_neq rfl rfl) ?_
   refine q_end (fun w3 g3 => k7 _ _ ?_)
   replace G := G.step0 g3; replace hx := hx.step0 g3; replace hy := hy.step0 g3; replace g1 := g1.step0 g3
   refine s_ifd rfl (fun c7 => ?_) (fun c7 => ?_)
   ·refine s_seq fun _ k8 => ?_; refine s_quiet mixed (by kernel_rfl) ?_
    refine q_v (fun _ gq => v_move) ?_
    refine q_v (fun _ gq => v_move) ?_
    refine q_v (fun _ gq => v_index rfl rfl slt56 (by omega)) ?_
    refine q_v (fun _ gq => v_loadC rfl sc3 (cell0 gq (cell0 g3 hc1))) ?_
    refine q_v (fun _ gq => v_move) ?_
    refine q_v (fun _ gq => v_move) ?_
    refine q_v (fun _ gq => v_index rfl rfl slt56 (by omega)) ?_
    refine q_v (fun _ gq => v_loadC rfl sc3 (cell0 gq (cell0 g3 hc2))) ?_
    refine q_v (fun _ gq => v_lss rfl rfl) ?_
    refine q_v (fun _ gq => v_assign) ?_
    refine q_end (fun w4 g4 => k8 _ _ ?_)
    replace G := G.step0 g4; replace hx := hx.step0 g4; replace hy := hy.step0 g4; replace g1 := g1.step0 g4
    refine s_ret (post1 rfl ?_)
    exact ⟨ret_b (by rw [hcut, if_pos (by simpa using c7)]), G⟩
   ·refine s_skip ?_
    refine k6 _ _ ?_
    refine s_region ?_
    refine o_v v_move ?_
    refine o_v (v_add rfl rfl (by omega)) ?_
    refine o_v v_assign ?_
    refine o_end ?_
    refine mid (i + 1) ?_ ?_ ?_
    ·repeat (first | exact off_refl | refine off_cons rfl ?_)
    ·exact ⟨rfl, trivial⟩
    ·exact ⟨⟨⟨hlt, hlt2, by rw [hcut, if_neg (by simpa using c7)]⟩, by assumption⟩, by omega⟩
  ·refine s_exit ?_
   refine k2 _ _ ?_
   refine s_rseq fun _ k9 => ?_
   refine o_v v_move ?_
   refine o_v (v_len rfl Tryz.underlying56) ?_
   refine o_v v_move ?_
   refine o_v (v_len rfl Tryz.underlying56) ?_
   refine o_v (v_lss rfl rfl) ?_
   refine o_v v_assign ?_
   refine o_end (k9 _ _ ?_)
   refine s_ret (post1 rfl ?_)
   refine ⟨ret_b ?_, G⟩
   rw [ht]
   rw [Bool.and_eq_false_iff, decide_eq_false_iff_not, decide_eq_false_iff_not] at c5
   by_cases h : i < xs.length
   ·rw [(List.drop_eq_nil_of_le (by omega) : ys.drop i = []), List.drop_eq_getElem_cons h, beforeL]
    exact decide_eq_false (by omega)
   ·rw [(List.drop_eq_nil_of_le (by omega) : xs.drop i = [])]
    by_cases h2 : i < ys.length
    ·rw [List.drop_eq_getElem_cons h2, beforeL]
     exact decide_eq_true (by omega)
    ·rw [(List.drop_eq_nil_of_le (by omega) : ys.drop i = []), beforeL]
     exact decide_eq_false (by omega)
theorem f51_calls {S T : Nat → Prop} (x y : Taken) (cx cy : List Value) (w : World) (hx : takenT.rep w S x cx) (hy : takenT.rep w T y cy) :
  Calls Tryz.prog 51 #[.agg cx.toArray, .agg cy.toArray] w fun e w' => e = .returned (.bool (betterT x y)) ∧ w.grownBy w' none := by
 refine s_enter (n := 30) Tryz.func51 rfl rfl rfl ?_
 obtain ⟨xA, xc, rfl, hx1, hx2, hx3⟩ := takenT_iff.1 hx
 obtain ⟨yA, yc, rfl, hy1, hy2, hy3⟩ := takenT_iff.1 hy
 have G := grown_refl w none
 refine s_rseq fun _ k1 => ?_
 refine o_box (t := 80) rfl ?_; intro w1 B2 g1 z1
 replace G := G.step0 g1; replace hx3 := hx3.step0 g1; replace hy3 := hy3.step0 g1
 refine o_box (t := 80) rfl ?_; intro w2 B3 g2 z2
 replace G := G.step0 g2; replace hx3 := hx3.step0 g2; replace hy3 := hy3.step0 g2; replace B2 := B2.step0 g2
 refine o_v v_assign ?_
 refine o_end (k1 _ _ ?_)
 refine s_seq fun _ k2 => ?_
 refine s_rseq fun _ k3 => ?_
 refine o_v (v_field rfl fld80_2) ?_
 refine o_v (v_loadB rfl sc3 B2 rfl) ?_
 refine o_v (v_field rfl fld80_2) ?_
 refine o_v (v_loadB rfl sc3 B3 rfl) ?_
 refine o_v (v_neq rfl rfl) ?_
 refine o_end (k3 _ _ ?_)
 refine s_ifd rfl (fun c3 => ?_) (fun c3 => ?_)
 ·refine s_rseq fun _ k4 => ?_
  refine o_v (v_field rfl fld80_2) ?_
  refine o_v (v_loadB rfl sc3 B2 rfl) ?_
  refine o_v (v_field rfl fld80_2) ?_
  refine o_v (v_loadB rfl sc3 B3 rfl) ?_
  refine o_v (v_lss rfl rfl) ?_
  refine o_v v_assign ?_
  refine o_end (k4 _ _ ?_)
  refine s_ret (post1 rfl ?_)
  exact ⟨ret_b (by unfold betterT; rw [if_pos (by simpa using c3)]), G⟩
 ·refine s_skip ?_
  refine k2 _ _ ?_
  refine s_seq fun _ k5 => ?_
  refine s_rseq fun _ k6 => ?_
  refine o_v (v_field rfl fld80_1) ?_
  refine o_v (v_loadB rfl sc3 B2 rfl) ?_
  refine o_v (v_field rfl fld80_1) ?_
  refine o_v (v_loadB rfl sc3 B3 rfl) ?_
  refine o_v (v_neq rfl rfl) ?_
  refine o_end (k6 _ _ ?_)
  refine s_ifd rfl (fun c6 => ?_) (fun c6 => ?_)
  ·refine s_rseq fun _ k7 => ?_
   refine o_v (v_field rfl fld80_1) ?_
   refine o_v (v_loadB rfl sc3 B2 rfl) ?_
   refine o_v (v_field rfl fld80_1) ?_
   refine o_v (v_loadB rfl sc3 B3 rfl) ?_
   refine o_v (v_lss rfl rfl) ?_
   refine o_v v_assign ?_
   refine o_end (k7 _ _ ?_)
   refine s_ret (post1 rfl ?_)
   exact ⟨ret_b (by unfold betterT; rw [if_neg (by simpa using c3), if_pos (by simpa using c6)]), G⟩
  ·refine s_skip ?_
   refine k5 _ _ ?_
   refine s_rseq fun _ k8 => ?_
   refine o_v (v_field rfl fld80_0) ?_
   refine o_v (v_loadB rfl sc56 B2 rfl) ?_
   refine o_v (v_field rfl fld80_0) ?_
   refine o_v (v_loadB rfl sc56 B3 rfl) ?_
   refine o_call rfl rfl ent44 (f44_calls _ _ _ _ _ _ _ hx3 hy3 (by omega) (by omega)) ?_; rintro _ w3 ⟨rfl, g3⟩; refine ⟨_, rfl, ?_⟩
   replace G := G.step0 g3; replace hx3 := hx3.step0 g3; replace hy3 := hy3.step0 g3; replace B2 := B2.step0 g3; replace B3 := B3.step0 g3
   refine o_v v_assign ?_
   refine o_end (k8 _ _ ?_)
   refine s_ret (post1 rfl ?_)
   exact ⟨ret_b (by unfold betterT; rw [if_neg (by simpa using c3), if_neg (by simpa using c6)]), G⟩
end Go.Proofs.NV
namespace Go.Proofs.NV
open Go.RowKit Go.Shelf
attribute [local irreducible] bodyPost bodyPostM wpQuiet
theorem v_maxE {P : Program} {n : Nat} {e : Env} {w : World} {d : Nat} {ty : TypeId} {ps : String} {af : Array Edge} {x y : Operand} {ts : Array TypeId} {k k' : IntKind} {a b m : Int} (hx : ev n e x = .int k a) (hy : ev n e y = .int k' b) (hm : (if b > a then b else a) = m) :
  (execOp (ev n e) ⟨some d, .call { callee := .builtin .max, args := #[x, y], argTypes := ts }, ty, ps, af, none⟩).run P w = .ok (.value (.int k m)) w := hm ▸ v_max hx hy
abbrev zeroTaken : List Value := [.slice none 0 0, I 0, I 0]
theorem info80 : (Tryz.prog.info? 80).map (fun i => (i.zero, i.size, i.bytes)) = some (some (.agg #[.slice none 0 0, .int .i64 0, .int .i64 0]), 3, 40) := by kernel_rfl
theorem CloneIs.off80 {base : Nat} {xs : List Int} {cv : Value} {W W' : World} (h : CloneIs base xs cv W) {k : Nat} {cs : List Value} (hB : Blk W k cs 80) (g : W.grownBy W' (some k)) : CloneIs base xs cv W' := by
 refine Ty.Row.step h g fun j hj e => ?_
 injection e with e
 subst e
 obtain ⟨cs', hB'⟩ := row_tag h hj.1
 have : (some (Obj.cells cs.toArray 80 (0, 0))) = some (Obj.cells cs'.toArray 3 (0, 0)) := hB.symm.trans hB'
 simp at this
section copy
variable {r : Option Nat} {Q : Exit → Act → World → Prop} {ops : Array Oper} {rest : List Oper} {n : Nat} {e : Env} {ds : List Deferred} {w : World} {d : Nat} {ty : TypeId} {ps : String} {af : Array Edge}
theorem o_copy {T : Nat → Prop} {x y : Operand} {a0 : Addr} {c : Nat} {xs : List Int} (hx : ev n e x = .slice none 0 0) (hy : ev n e y = .slice (some a0) xs.length c) (hs : Ty.int.Sl w T (some a0) xs) (hm : xs.length ≤ 1000000)
  (h : ∀ v' w', CloneIs w.heap.size xs v' w' → w.grownBy w' none → wl r Tryz.prog ops Q rest (act n ((d, v') :: e) ds) w') :
  wl r Tryz.prog ops Q (⟨some d, .call { callee := .builtin .append, args := #[x, y], argTypes := #[56, 56] }, ty, ps, af, none⟩ :: rest) (act n e ds) w := by
 have hcell : ∀ j u, (xs.map I)[j]? = some u → w.cell? (a0.add j) = some u := by
  intro j u hu
  have hj : j < xs.length := by
   have := (List.getElem?_eq_some_iff.1 hu).1
   simpa using this
  obtain ⟨b, o, hA, hc⟩ := hs.int j hj
  injection hA with hA
  rw [hA, Addr.add_mid]
  rw [List.getElem?_map, List.getElem?_eq_getElem hj] at hu
  injection hu with hu
  rw [← hu]
  simpa using hc
 have hR0 : Ty.int.Row 3 w (fun k => w.heap.size ≤ k) (.slice none 0 0) [] := Ty.Row.nil _ _ _ _
 obtain ⟨v', w2, hrun, hR2, g2, hat⟩ := hR0.append (P := Tryz.prog) (tt := 56) (ty := ty) (ys := xs) (a := a0) (c := c) (m := xs.length) (news := xs.map I) Tryz.underlying56 info3 rfl (reps_int xs) rfl hcell (fun k hk => hk) (by simp; omega) (by decide)
 refine o_val (fun _ => by simp) (run_append_exec hx hy hrun) (h v' w2 ?_ g2)
 exact (hR2.narrow (fun _ _ _ _ _ h => h)).mono fun k hk => ⟨hk, hR2.1 k hk⟩
end copy
theorem toT_fine {ks : List Pack} (hk : PacksOk ks) (j : Nat) (hj : j ≤ 600) : (toT (packL ks (j : Nat))).counts.length = ks.length ∧ (∀ x ∈ (toT (packL ks (j : Nat))).counts, 0 ≤ x ∧ x ≤ 600) ∧ (0 ≤ (toT (packL ks (j : Nat))).many ∧ (toT (packL ks (j : Nat))).many ≤ 2400) ∧ 0 ≤ (toT (packL ks (j : Nat))).price ∧ (toT (packL ks (j : Nat))).price ≤ 600000 := by
 have h := packL_fine hk (j : Int) (by omega)
 have hl := h.len
 have h4 := hk.len
 have h1 := sumL_nonneg _ (fun x hx => (h.each x hx).1)
 have h2 := (sumL_bound _ 600 (by omega) (fun x hx => by have := h.each x hx; omega)).2
 have h3 := h.price
 unfold toT
 exact ⟨hl, h.each, ⟨h1, by simp only; omega⟩, h3.1, by simp only; omega⟩
theorem f48_calls {T : Nat → Prop} (kA : Option Addr) (kc : Nat) (ks : List Pack) (N : Nat) (w : World) (hk : PacksOk ks) (hN : N ≤ 600) (hx : packT.Sl w T kA ks) :
  Calls Tryz.prog 48 #[.slice kA ks.length kc, I N] w fun e w' => ∃ cs, e = .returned (.agg cs.toArray) ∧ takenT.rep w' (fun k => w.heap.size ≤ k) (toT (packL ks (N : Nat))) cs ∧ w.grownBy w' none := by
 refine s_enter (n := 79) Tryz.func48 rfl rfl rfl ?_
 have G := grown_refl w none
 refine s_rseq fun _ k1 => ?_
 refine o_alloc (t := 80) ze80 rfl ?_; intro w1 B4 g1 z1
 replace G := G.step0 g1
 refine o_end (k1 _ _ ?_)
 refine s_rseq fun _ k2 => ?_
 refine o_v v_move ?_
 refine o_v (v_len rfl Tryz.underlying74) ?_
 have hn := hk.len
 refine o_make (t := Ty.int) (S := fun j => w1.heap.size ≤ j) (xs := List.replicate ks.length 0) (m := ks.length) (cs := List.replicate ks.length (I 0)) rfl rfl Tryz.underlying56 info3 (by rw [show ks.length * Ty.int.sz = ks.length from Nat.mul_one _]; exact toList_madeCells_one _ _) (fun _ _ => reps_zeros _) (List.length_replicate) (by omega) (by omega) (fun _ h => h) ?_
 intro wM hrow gM zM
 obtain ⟨mA, mc, hme, hm1, hm2, hm3⟩ := hrow.reads
 rw [List.length_replicate] at hme hm1
 obtain ⟨rfl, rfl⟩ : some ⟨w1.heap.size, 0, none⟩ = mA ∧ ks.length = mc := by simpa using hme
 refine o_v (v_build rfl (fun W => bld80_0 W)) ?_
 refine o_bslice rfl (fun W => bls172_1 W) ?_; intro w2 B15 g2 z2
 have G1 := G
 have B41 := B4
 have hrow0 : takenT.Row 80 w2 (fun k => w1.heap.size ≤ k) (.slice (some ⟨wM.heap.size, 0, none⟩) (refTab ks 0).length 1) (refTab ks 0) := by
  refine Ty.Row.close (show w1.heap.size ≤ wM.heap.size from gM.size) B15 rfl (Nat.le_refl _) (maxLen_ge _ (by decide)) (Reps.one (takenT_iff.2 ⟨some ⟨w1.heap.size, 0, none⟩, ks.length, by rw [List.length_replicate]; rfl, by rw [List.length_replicate]; exact hm1, hm2, ?_⟩))
  refine Ty.Sl.mono ((hm3.bound.step0 g2)) fun k hk => ⟨hk.1, ?_⟩
  have := hk.2.lt
  omega
 refine o_v v_assign ?_
 refine o_end (k2 _ _ ?_)
 refine s_seq fun _ k3 => ?_
 refine s_rseq fun _ k4 => ?_
 refine o_v v_assign ?_
 refine o_end (k4 _ _ ?_)
 refine s_block ?_
 refine s_loop (G := Nat × Value) (fun g => [(5, g.2), (6, I ((g.1 : Int) + 1))]) [5, 6] [7, 8, 9, 10, 16, 17, 18, 19, 20, 21, 22, 23, 24, 25, 26, 27, 28, 29, 30, 31, 32, 33, 34, 35, 36, 37, 38, 39, 40, 41, 42, 43, 44, 45, 46, 47, 48, 49, 50, 51, 52, 53, 54, 55, 56, 57, 58, 59, 60, 61, 62, 63, 64, 65, 66, 67, 68, 69, 70, 71, 72, 73, 74] (fun g W => (g.1 ≤ N ∧ takenT.Row 80 W (fun k => w1.heap.size ≤ k) g.2 (refTab ks g.1)) ∧ w1.grownBy W (none)) (fun g => N - g.1) (fun _ => rfl) (0, .slice (some ⟨wM.heap.size, 0, none⟩) 1 1) ⟨rfl, rfl, trivial⟩ ⟨⟨Nat.zero_le _, hrow0⟩, gM.step0 g2⟩ ?_
 clear B15
 rintro ⟨m, tab⟩ jv w3 ⟨⟨hmN, hrow⟩, g3⟩
 simp only at hmN hrow ⊢
 have hs3 := g3.size
 have hs1 := g1.size
 have hrb := hrow.bound
 have hrow1 := hrow.1
 have G3 := G1.step0 g3
 have B43 := B41.step0 g3
 refine s_seq fun _ k5 => ?_
 refine s_rseq fun _ k6 => ?_
 refine o_v v_move ?_
 refine o_v v_move ?_
 refine o_v (v_leq rfl rfl) ?_
 refine o_end (k6 _ _ ?_)
 refine s_ifd rfl (fun c6 => ?_) (fun c6 => ?_)
 ·refine s_skip ?_
  refine k5 _ _ ?_
  refine s_seq fun _ k7 => ?_
  refine s_block ?_
  refine s_rseq fun _ k8 => ?_
  refine o_alloc (t := 80) ze80 rfl ?_; intro w4 B7 g4 z4
  have G4 := G3.step0 g4
  have hrb4 := hrb.step0 g4
  have hs4 := g4.size
  have hlt3 := B7.lt
  refine o_end (k8 _ _ ?_)
  refine s_seq fun _ k9 => ?_
  refine s_rseq fun _ k10 => ?_
  refine o_v v_assign ?_
  refine o_end (k10 _ _ ?_)
  refine s_block ?_
  refine s_loop (G := Nat × List Value) (fun g => [(8, I g.1)]) [8] [9, 10, 21, 22, 23, 24, 25, 26, 27, 28, 29, 30, 31, 32, 33, 34, 35, 36, 37, 38, 39, 40, 41, 42, 43, 44, 45, 46, 47, 48, 49, 50, 51, 52, 53, 54, 55, 56, 57, 58, 59, 60, 61, 62, 63, 64, 65, 66, 67, 68, 69, 70] (fun g W => (g.1 ≤ ks.length ∧ Blk W w3.heap.size g.2 80 ∧ ((g.1 = 0 ∧ g.2 = zeroTaken) ∨ (0 < g.1 ∧ takenT.rep W (fun k => w4.heap.size ≤ k) (refNow ks (refTab ks m) (m + 1) g.1) g.2))) ∧ w4.grownBy W (some w3.heap.size)) (fun g => ks.length - g.1) (fun _ => rfl) (0, zeroTaken) ⟨rfl, trivial⟩ ⟨⟨Nat.zero_le _, B7, .inl ⟨rfl, rfl⟩⟩, grown_refl _ _⟩ ?_
  rintro ⟨i, cs7⟩ jv w5 ⟨⟨hi, B7, hc7⟩, g5⟩
  simp only at hi B7 hc7 ⊢
  have G5 : w.grownBy w5 none := grown_own G4 g5 (by have := G3.size; omega)
  have hrow5 := hrb4.step g5 (fun k hk e => by injection e with e; have := hk.2.lt; omega)
  have hs5 := g5.size
  have hc3 : cs7.length = 3 := by
   rcases hc7 with ⟨_, rfl⟩ | ⟨_, h⟩
   ·rfl
   ·exact takenT.hlen h
  refine s_seq fun _ k11 => ?_
  refine s_rseq fun _ k12 => ?_
  refine o_v v_move ?_
  refine o_v v_move ?_
  refine o_v (v_len rfl Tryz.underlying74) ?_
  refine o_v (v_lss rfl rfl) ?_
  refine o_end (k12 _ _ ?_)
  refine s_ifd rfl (fun c12 => ?_) (fun c12 => ?_)
  ·have hlt : i < ks.length := by omega
   obtain ⟨b1, o1, ck, rfl, _, hck, hr1⟩ := (hx.step0 G5).get i hlt
   obtain rfl : ck = ks[i].cells := hck
   rw [show packT.sz = 2 from rfl] at hr1
   have hkat := hk.at hlt
   obtain ⟨kk, hkk⟩ : ∃ kk, kk = ks[i] := ⟨_, rfl⟩
   have hkh : holdsAt ks i = kk.holds := by unfold holdsAt; rw [List.getElem?_eq_getElem hlt, hkk]; rfl
   have hkp : ((ks[i]?).map (·.price)).getD 0 = kk.price := by rw [List.getElem?_eq_getElem hlt, hkk]; rfl
   rw [hkh, hkp] at hkat
   rw [← hkk] at hr1
   have hcp0 := hr1 1 _ rfl
   obtain ⟨j, hj⟩ : ∃ j, j = ((m + 1 : Nat) : Int).toNat - kk.holds.toNat := ⟨_, rfl⟩
   have hmx : (if (m : Int) + 1 - kk.holds > 0 then (m : Int) + 1 - kk.holds else 0) = (j : Int) := by split <;> omega
   have hjm : j ≤ m := by omega
   have htj := refTab_eq hk m j hjm
   obtain ⟨f1, f2, f3, f4⟩ := toT_fine hk j (by omega)
   obtain ⟨x, hxe⟩ : ∃ x, x = toT (packL ks (j : Nat)) := ⟨_, rfl⟩
   rw [← hxe] at htj f1 f2 f3 f4
   obtain ⟨tA, tc, hte, htl, htm, hts⟩ := hrow5.reads
   subst hte
   have htlen := refTab_len ks m
   obtain ⟨bt, ot, ct, rfl, _, hrep, hrg⟩ := hts.get j (by omega)
   have hgj : (refTab ks m)[j]'(by omega) = x := by rw [List.getElem?_eq_getElem (by omega)] at htj; injection htj
   rw [hgj] at hrep
   rw [show takenT.sz = 3 from rfl] at hrg
   obtain ⟨xA, xc, rfl, hx1, hx2, hx3⟩ := takenT_iff.1 hrep
   obtain ⟨a0, rfl⟩ : ∃ a0, xA = some a0 := by obtain ⟨b, o, h⟩ := hx3.addr (by omega); exact ⟨_, h⟩
   clear hrep
   refine s_skip ?_
   refine k11 _ _ ?_
   refine s_seq fun _ k13 => ?_
   refine s_block ?_
   refine s_rseq fun _ k14 => ?_
   refine o_v v_move ?_
   refine o_v v_move ?_
   refine o_v v_move ?_
   refine o_v v_move ?_
   refine o_v (v_index rfl rfl slt74 (by omega)) ?_
   refine o_v (v_field rfl fld164_0) ?_
   refine o_v (v_loadC rfl sc3 (hr1 0 _ rfl)) ?_
   refine o_v (v_sub rfl rfl (by omega)) ?_
   refine o_v (v_maxE rfl rfl hmx) ?_
   refine o_v (v_index rfl rfl slt172 (by omega)) ?_
   refine o_v (v_loadR rfl ag80 hrg rfl) ?_
   refine o_allocst (vs := [.slice (some a0) x.counts.length xc, I x.many, I x.price]) ze80 rfl rfl rfl sz80 rfl rfl rfl ?_; intro w6 B9 g6 z6
   have hxs := hx3.step0 g6
   have hcp := cell0 g6 hcp0
   refine o_end (k14 _ _ ?_)
   refine s_seq fun _ k15 => ?_
   refine s_anyD 16 [38, 39, 40, 41, 42, 43, 44, 45, 46, 47, 48, 49, 50, 51, 52, 10] [[], [(0, some 38)], [(1, some 39)], [], [(3, some 41)], [(4, some 42)], [], [(6, some 44)], [], [], [(8, some 46), (9, some 47)], [(10, some 48)], [(11, some 49)], [(7, some 45), (12, some 50)], [(2, some 40), (5, some 43), (13, some 51)], []] [(15, some 10), (14, some 52)] (fun W => w6.grownBy W none) (fun _ => G0) []
    [([], fun _ v W => v = .pointer (some ⟨w5.heap.size, 0 + 0, none⟩)), ([], fun _ v W => v = .slice (some a0) x.counts.length xc), ([], fun _ v W => CloneIs w6.heap.size x.counts v W), ([], fun _ v W => v = .pointer (some ⟨w5.heap.size, 0 + 1, none⟩)), ([], fun _ v W => v = I x.many), ([], fun _ v W => v = I (x.many + 1)), ([], fun _ v W => v = .pointer (some ⟨w5.heap.size, 0 + 2, none⟩)), ([], fun _ v W => v = I x.price), ([], fun _ v W => v = .slice (some ⟨b1, o1, none⟩) ks.length kc), ([], fun _ v W => v = I i), ([], fun _ v W => v = .pointer (some ⟨b1, o1 + (i : Int).toNat * 2, none⟩)), ([], fun _ v W => v = .pointer (some ⟨b1, o1 + (i : Int).toNat * 2 + 1, none⟩)), ([], fun _ v W => v = I kk.price), ([], fun _ v W => v = I (x.price + kk.price)), ([], fun _ v W => ∃ cv, v = .agg #[cv, I (x.many + 1), I (x.price + kk.price)] ∧ CloneIs w6.heap.size x.counts cv W), ([], fun _ v W => ∃ k, v = ptr k ∧ w6.heap.size ≤ k ∧ Blk W k zeroTaken 80)]
    mixed (by kernel_rfl) (by kernel_rfl) (by kernel_rfl) (by kernel_rfl) (by kernel_rfl) g0_drawn ?_ ?_ ?_ ?_
   ·exact fun k W1 W2 hC hS => World.grownBy.trans hC hS
   ·intro i k v W1 W2 vs hik hd p hp h hS
    rcases i with _ | _ | _ | _ | _ | _ | _ | _ | _ | _ | _ | _ | _ | _ | _ | _ | i
    ·cases hp; exact h
    ·cases hp; exact h
    ·cases hp; exact CloneIs.step0 h hS
    ·cases hp; exact h
    ·cases hp; exact h
    ·cases hp; exact h
    ·cases hp; exact h
    ·cases hp; exact h
    ·cases hp; exact h
    ·cases hp; exact h
    ·cases hp; exact h
    ·cases hp; exact h
    ·cases hp; exact h
    ·cases hp; exact h
    ·cases hp; obtain ⟨cv, h1, h2⟩ := h; exact ⟨cv, h1, CloneIs.step0 h2 hS⟩
    ·cases hp; obtain ⟨k, h1, h2, h3⟩ := h; exact ⟨k, h1, h2, h3.step0 hS⟩
    ·simp at hp
   ·refine ⟨?_, ?_, ?_, ?_, ?_, ?_, ?_, ?_, ?_, ?_, ?_, ?_, ?_, ?_, ?_, ?_, trivial⟩
    ·rintro jv W hC
     exact o_v (v_field rfl fld80_0) (o_end (opD_done (grown_refl _ _) rfl))
    ·rintro jv W hC _ rfl
     exact o_v (v_loadB rfl sc56 (B9.step0 hC) rfl) (o_end (opD_done (grown_refl _ _) rfl))
    ·rintro jv W hC _ rfl
     refine o_copy rfl rfl (hxs.step0 hC) (by omega) ?_
     intro cv wa hcv ga
     exact o_end (opD_done ga (Ty.Row.mono hcv fun k hk => ⟨hk.1, Nat.le_trans hC.size hk.2⟩))
    ·rintro jv W hC
     exact o_v (v_field rfl fld80_1) (o_end (opD_done (grown_refl _ _) rfl))
    ·rintro jv W hC _ rfl
     exact o_v (v_loadB rfl sc3 (B9.step0 hC) rfl) (o_end (opD_done (grown_refl _ _) rfl))
    ·rintro jv W hC _ rfl
     exact o_v (v_add rfl rfl (by omega)) (o_end (opD_done (grown_refl _ _) rfl))
    ·rintro jv W hC
     exact o_v (v_field rfl fld80_2) (o_end (opD_done (grown_refl _ _) rfl))
    ·rintro jv W hC _ rfl
     exact o_v (v_loadB rfl sc3 (B9.step0 hC) rfl) (o_end (opD_done (grown_refl _ _) rfl))
    ·rintro jv W hC
     exact o_v v_move (o_end (opD_done (grown_refl _ _) rfl))
    ·rintro jv W hC
     exact o_v v_move (o_end (opD_done (grown_refl _ _) rfl))
    ·rintro jv W hC _ rfl _ rfl
     exact o_v (v_index rfl rfl slt74 (by omega)) (o_end (opD_done (grown_refl _ _) rfl))
    ·rintro jv W hC _ rfl
     exact o_v (v_field rfl fld164_1) (o_end (opD_done (grown_refl _ _) rfl))
    ·rintro jv W hC _ rfl
     exact o_v (v_loadC rfl sc3 (cell0 hC hcp)) (o_end (opD_done (grown_refl _ _) rfl))
    ·rintro jv W hC _ rfl _ rfl
     exact o_v (v_add rfl rfl (by omega)) (o_end (opD_done (grown_refl _ _) rfl))
    ·rintro jv W hC y0 x0 _ rfl _ rfl
     obtain ⟨cA, cc, rfl, _, _, _⟩ := Ty.Row.reads x0
     exact o_v (v_build rfl (fun W => bld80_012 W)) (o_end (opD_done (grown_refl _ _) ⟨_, rfl, x0⟩))
    ·rintro jv W hC
     refine o_alloc (t := 80) ze80 rfl ?_; intro wa Ba ga za
     exact o_end (opD_done ga ⟨_, rfl, hC.size, Ba⟩)
   rintro jv w7 g7 _ ⟨b10, rfl, hb10, B10⟩ _ ⟨cv, rfl, hcv⟩
   obtain ⟨cA, cc, rfl, _, _, _⟩ := Ty.Row.reads hcv
   refine o_storeB (vs := [.slice cA x.counts.length cc, I (x.many + 1), I (x.price + kk.price)]) rfl rfl sz80 rfl B10 rfl rfl ?_; intro w8 B10' g8 z8
   replace hcv := hcv.off80 B10 g8
   replace B10 : Blk w8 b10 [.slice cA x.counts.length cc, I (x.many + 1), I (x.price + kk.price)] 80 := B10'
   clear B10'
   have g68 : w6.grownBy w8 none := grown_own g7 g8 hb10
   refine o_end (k15 _ _ ?_)
   obtain ⟨gcv, ccap, ccs, hcve, hgS, hBcv, hcl, hcc, hput⟩ := Ty.Row.putI hcv i (by omega)
   obtain ⟨rfl, rfl⟩ : cA = some ⟨gcv, 0, none⟩ ∧ cc = ccap := by simpa using hcve
   obtain ⟨lo, hlo⟩ : ∃ lo, lo = x.counts[i]'(by omega) := ⟨_, rfl⟩
   have hlob := f2 _ (List.getElem_mem (show i < x.counts.length by omega))
   rw [← hlo] at hcc hlob
   refine s_seq fun _ k16 => ?_; refine s_quietT 10 mixed (by kernel_rfl) (by kernel_rfl) ?_
   refine q_v (fun _ gq => v_field rfl fld80_0) ?_
   refine q_v (fun _ gq => v_loadB rfl sc56 (B10.step0 gq) rfl) ?_
   refine q_v (fun _ gq => v_move) ?_
   refine q_v (fun _ gq => v_field rfl fld80_0) ?_
   refine q_v (fun _ gq => v_loadB rfl sc56 (B10.step0 gq) rfl) ?_
   refine q_v (fun _ gq => v_move) ?_
   refine q_v (fun _ gq => v_index rfl rfl slt56 (by omega)) ?_
   refine q_v (fun _ gq => v_loadC rfl sc3 (cell0 gq hcc)) ?_
   refine q_v (fun _ gq => v_add rfl rfl (by omega)) ?_
   refine q_v (fun _ gq => v_index rfl rfl slt56 (by omega)) ?_
   refine q_end (fun w9 g9 => ?_)
   replace B10 := B10.step0 g9
   replace hBcv := hBcv.step0 g9
   replace hcv := CloneIs.step0 hcv g9
   clear hput hcl hcc
   obtain ⟨gcv', ccap', ccs', hcve', _, hBcv', hcl, _, hput⟩ := Ty.Row.putI hcv i (by omega)
   obtain ⟨rfl, rfl⟩ : gcv = gcv' ∧ cc = ccap' := by simpa using hcve'
   refine o_storeB (vs := [I (lo + 1)]) rfl rfl sz3 rfl hBcv' (by rw [Nat.ble_eq]; show 0 + i * 1 + 1 ≤ ccs'.length; omega) rfl ?_; intro w10 hBc2 g10 z10
   have hbg : some b10 ≠ some gcv := fun e => by
    injection e with e
    subst e
    have h2 : (some (Obj.cells _ 80 (0, 0))) = some (Obj.cells ccs'.toArray 3 (0, 0)) := B10.symm.trans hBcv'
    simp at h2
   have hcv10 := hput _ _ hBc2 g10
   replace B10 := B10.step g10 hbg
   have hgcv := hgS.2
   have g610 : w6.grownBy w10 none := grown_own (g68.step0 g9) g10 hgcv
   have g510 : w5.grownBy w10 none := g6.step0 g610
   have hs6 := g6.size
   replace B7 := B7.step0 g510
   have hc10 : (i = 0 ∧ cs7 = zeroTaken) ∨ (0 < i ∧ takenT.rep w10 (fun k => w4.heap.size ≤ k) (refNow ks (refTab ks m) (m + 1) i) cs7) := hc7.imp_right fun h => ⟨h.1, takenT.step0 h.2 g510⟩
   obtain ⟨tk, htk⟩ : ∃ tk, tk = refTake ks (refTab ks m) (m + 1) i := ⟨_, rfl⟩
   have htke : tk = ⟨x.counts.set i (lo + 1), x.many + 1, x.price + kk.price⟩ := by
    rw [htk]
    unfold refTake
    rw [hkh, hkp, ← hj, htj, Option.getD_some]
    show (⟨x.counts.set i (x.counts[i]?.getD 0 + 1), x.many + 1, x.price + kk.price⟩ : Taken) = _
    rw [List.getElem?_eq_getElem (by omega), Option.getD_some, ← hlo]
   have hr10 : takenT.rep w10 (fun k => w4.heap.size ≤ k) tk [.slice (some ⟨gcv, 0, none⟩) x.counts.length cc, I (x.many + 1), I (x.price + kk.price)] := by
    obtain ⟨nA, nc, hne, hn1, hn2, hn3⟩ := Ty.Row.reads hcv10
    rw [List.length_set] at hne hn1
    obtain ⟨rfl, rfl⟩ : some ⟨gcv, 0, none⟩ = nA ∧ cc = nc := by simpa using hne
    rw [htke]
    exact takenT_iff.2 ⟨_, _, by rw [List.length_set], by rw [List.length_set]; exact hn1, hn2, hn3.mono fun k hk => by have := hk.2; omega⟩
   obtain ⟨nw, hnw⟩ : ∃ nw, nw = refNow ks (refTab ks m) (m + 1) i := ⟨_, rfl⟩
   rw [← hnw] at hc10
   have hnw1 : refNow ks (refTab ks m) (m + 1) (i + 1) = if i = 0 ∨ betterT tk nw = true then tk else nw := by rw [refNow, ← htk, ← hnw]
   refine o_end (k16 _ _ ?_)
   refine s_rseq fun _ k17 => ?_
   refine o_v v_move ?_
   refine o_v (v_eql rfl rfl) ?_
   refine o_v v_move ?_
   refine o_mid (G := Unit) 4 (fun _ => [(69, .bool (decide ((i : Int) = 0) || betterT tk nw))]) [69] [66, 67, 68] (fun _ w' => w10.grownBy w' none) (fun _ => rfl) ?_ ?_
   ·have H1 := grown_refl w10 none
    rcases Bool.eq_false_or_eq_true (decide ((i : Int) = 0)) with hX1 | hX1
    ·refine g_no rfl rfl rfl hX1 ?_
     refine g_no rfl rfl rfl hX1 ?_
     refine g_no rfl rfl rfl hX1 ?_
     refine o_v (v_pick_t rfl hX1) ?_
     refine o_end (mid () ?_ ?_ ?_)
     ·repeat (first | exact off_refl | refine off_cons rfl ?_)
     ·exact ⟨by rw [hX1]; rfl, trivial⟩
     ·exact H1
    ·have hg0 : i ≠ 0 := fun h => by rw [h] at hX1; simp at hX1
     have hrn := (hc10.resolve_left (fun h => hg0 h.1)).2
     refine g_yes rfl rfl rfl hX1 ?_
     refine o_v (v_loadBS (vs := [.slice (some ⟨gcv, 0, none⟩) x.counts.length cc, I (x.many + 1), I (x.price + kk.price)]) rfl ag80 B10 rfl rfl) ?_
     refine g_yes rfl rfl rfl hX1 ?_
     refine o_v (v_loadBS (vs := cs7) rfl ag80 B7 (by rw [List.drop_zero, List.take_of_length_le (by omega)]) hc3) ?_
     refine g_yes rfl rfl rfl hX1 ?_
     refine o_call rfl rfl ent51 ((f51_calls tk nw _ _ _ hr10 hrn)) ?_; rintro _ w11 ⟨rfl, g11⟩; refine ⟨_, rfl, ?_⟩
     replace H1 := H1.step0 g11
     refine o_v (v_pick_f rfl hX1) ?_
     refine o_end (mid () ?_ ?_ ?_)
     ·repeat (first | exact off_refl | refine off_cons rfl ?_)
     ·exact ⟨by rw [hX1]; rfl, trivial⟩
     ·exact H1
   ·rintro _ jv w12 g12
    replace B10 := B10.step0 g12
    replace B7 := B7.step0 g12
    replace hr10 := takenT.step0 hr10 g12
    have g512 := g510.step0 g12
    have g412 : w4.grownBy w12 (some w3.heap.size) := World.grownBy.trans g5 (grown_weak g512)
    refine o_end (k17 _ _ ?_)
    refine s_if rfl (fun c17 => ?_) (fun c17 => ?_)
    ·refine s_region ?_
     refine o_v (v_loadBS (vs := [.slice (some ⟨gcv, 0, none⟩) x.counts.length cc, I (x.many + 1), I (x.price + kk.price)]) rfl ag80 B10 rfl rfl) ?_
     refine o_storeB (vs := [.slice (some ⟨gcv, 0, none⟩) x.counts.length cc, I (x.many + 1), I (x.price + kk.price)]) rfl rfl sz80 rfl B7 (by rw [hc3]; rfl) rfl ?_; intro w13 B7 g13 z13
     rw [over_all hc3] at B7
     refine o_end ?_
     refine k13 _ _ ?_
     refine s_region ?_
     refine o_v v_move ?_
     refine o_v (v_add rfl rfl (by omega)) ?_
     refine o_v v_assign ?_
     refine o_end ?_
     refine mid (i + 1, [.slice (some ⟨gcv, 0, none⟩) x.counts.length cc, I (x.many + 1), I (x.price + kk.price)]) ?_ ?_ ?_
     ·repeat (first | exact off_refl | refine off_cons rfl ?_)
     ·exact ⟨rfl, trivial⟩
     ·refine ⟨⟨⟨hlt, B7, .inr ⟨Nat.succ_pos _, ?_⟩⟩, World.grownBy.trans g412 g13⟩, by simp only; omega⟩
      rw [hnw1, if_pos (by rw [Bool.or_eq_true, decide_eq_true_eq] at c17; exact c17.imp_left fun h => by omega)]
      exact takenT.step hr10 g13 (fun k hk e => by injection e; omega)
    ·refine s_skip ?_
     refine k13 _ _ ?_
     refine s_region ?_
     refine o_v v_move ?_
     refine o_v (v_add rfl rfl (by omega)) ?_
     refine o_v v_assign ?_
     refine o_end ?_
     refine mid (i + 1, cs7) ?_ ?_ ?_
     ·repeat (first | exact off_refl | refine off_cons rfl ?_)
     ·exact ⟨rfl, trivial⟩
     ·have c17' : ¬ ((i : Int) = 0 ∨ betterT tk nw = true) := by simpa using c17
      refine ⟨⟨⟨hlt, B7, .inr ⟨Nat.succ_pos _, ?_⟩⟩, g412⟩, by simp only; omega⟩
      rw [hnw1, if_neg (fun h => c17' (h.imp_left fun h => by omega))]
      exact takenT.step0 (hc10.resolve_left (fun h => c17' (.inl (by omega)))).2 g12
  ·obtain rfl : i = ks.length := by omega
   have hrn := (hc7.resolve_left (fun h => by omega)).2
   obtain ⟨qA, qc, rfl, hq1, hq2, hq3⟩ := takenT_iff.1 hrn
   obtain ⟨q, hq⟩ : ∃ q, q = refNow ks (refTab ks m) (m + 1) ks.length := ⟨_, rfl⟩
   rw [← hq] at hq1 hq3 B7 hrn
   have htlen := refTab_len ks m
   refine s_exit ?_
   refine k9 _ _ ?_
   refine s_region ?_
   refine o_v v_move ?_
   refine o_v (v_loadBS (vs := [.slice qA q.counts.length qc, I q.many, I q.price]) rfl ag80 B7 rfl rfl) ?_
   refine o_bslice rfl (fun W => bls172_1 W) ?_; intro w14 B73 g14 z14
   replace hrow5 := hrow5.step0 g14
   replace hrn := takenT.step0 hrn g14
   have hs14 := g14.size
   refine o_append1 (t := takenT) (p := q) rfl rfl (Ty.Row.mono hrow5 fun k hk => hk.1) B73 Tryz.underlying172 info80 rfl (takenT.hmono (fun k hk => ⟨by omega, fun e => by have := hrow5.1 k e.symm; have := this.2.lt; omega⟩) hrn) (fun k hk => by omega) (by omega) (by decide) ?_
   intro tab' w15 hrow15 g15 hat
   have g315 : w1.grownBy w15 none := grown_ownO (World.grownBy.step0 (grown_own (g3.step0 g4) g5 (by omega)) g14) g15 (fun b hb => hrow1 b hb)
   refine o_v v_assign ?_
   refine o_end ?_
   refine k7 _ _ ?_
   refine s_region ?_
   refine o_v v_move ?_
   refine o_v (v_add rfl rfl (by omega)) ?_
   refine o_v v_assign ?_
   refine o_end ?_
   refine mid (m + 1, tab') ?_ ?_ ?_
   ·repeat (first | exact off_refl | refine off_cons rfl ?_)
   ·exact ⟨rfl, rfl, trivial⟩
   ·refine ⟨⟨⟨by omega, ?_⟩, g315⟩, by simp only; omega⟩
    rw [refTab, ← hq]
    exact hrow15
 ·obtain rfl : m = N := by omega
  obtain ⟨tA, tc, hte, htl, htm, hts⟩ := hrow.reads
  subst hte
  have htlen := refTab_len ks m
  obtain ⟨bt, ot, ct, rfl, _, hrep, hrg⟩ := hts.get m (by omega)
  have htj := refTab_eq hk m m (Nat.le_refl _)
  have hgj : (refTab ks m)[m]'(by omega) = toT (packL ks (m : Nat)) := by rw [List.getElem?_eq_getElem (by omega)] at htj; injection htj
  rw [hgj] at hrep
  rw [show takenT.sz = 3 from rfl] at hrg
  have hc3 := taken_three hrep
  refine s_exit ?_
  refine k3 _ _ ?_
  refine s_rseq fun _ k18 => ?_
  refine o_v v_move ?_
  refine o_v v_move ?_
  refine o_v (v_index rfl rfl slt172 (by omega)) ?_
  refine o_v (v_loadR rfl ag80 hrg hc3.1) ?_
  refine o_storeB (vs := ct) rfl rfl sz80 hc3.1 B43 (by rw [hc3.1]; rfl) hc3.2 ?_; intro w15 B4 g15 z15
  rw [over_all (by rw [hc3.1]; rfl)] at B4
  refine o_end (k18 _ _ ?_)
  refine s_ret (postR (res_c rfl rfl (run_loadVar_ag ag80 B4 hc3.1)) ?_)
  exact ⟨_, rfl, takenT.hmono (fun k hk => by omega) (takenT.step hrep g15 (fun k hk e => by injection e; omega)), grown_own G3 g15 (Nat.le_refl _)⟩
end Go.Proofs.NV
namespace Go.Proofs.NV
open Go.RowKit Go.Shelf
attribute [local irreducible] bodyPost bodyPostM wpQuiet
theorem not_t {b : Bool} (h : (!b) = true) : b = false := by cases b; rfl; cases h
theorem not_f {b : Bool} (h : (!b) = false) : b = true := by cases b; cases h; rfl
theorem ok_packs (ks : List Pack) (p : Int) : Packs.ok ks p = (isPacksB ks && inB p 0 600) := by
 have hb : (ks.any fun k => (!inB k.holds 1 144) || !inB k.price 0 1000) = ks.any badK := rfl
 unfold Packs.ok isPacksB
 rw [hb]
 cases ks.any badK <;> cases inB ks.length 1 4 <;> cases inB p 0 600 <;> rfl
theorem c45p {T : Nat → Prop} (kA : Option Addr) (kc : Nat) (ks : List Pack) (p : Int) (w : World) (hx : packT.Sl w T kA ks) (hm : ks.length ≤ kc ∧ kc ≤ maxLen) :
  Calls Tryz.prog 45 #[.slice kA ks.length kc, I p] w fun e w' => ∃ A c xs q er, e = .returned (.tuple #[.slice A (List.length xs) c, I q, I er]) ∧ (Packs.ok ks p = false → xs = [] ∧ q = 0 ∧ er = 2) ∧ (Packs.ok ks p = true → xs = (packL ks p).list ∧ q = (packL ks p).price ∧ er = 0) ∧ xs.length ≤ 4 ∧ Ty.int.Sl w' (fun k => w.heap.size ≤ k) A xs ∧ w.grownBy w' none :=
 (f45_calls kA kc ks p w hx hm).mono fun e w' ⟨v, he, hr, hg⟩ => by
  obtain ⟨A, c, rfl, _, _, hS⟩ := hr.reads
  refine ⟨A, c, _, _, _, he, fun h => ?_, fun h => ?_, ?_, hS, hg⟩
  ·unfold packsQ; rw [h]; exact ⟨rfl, rfl, rfl⟩
  ·unfold packsQ; rw [h]; exact ⟨rfl, rfl, rfl⟩
  ·unfold packsQ
   split
   ·obtain ⟨hk, _⟩ := Packs.ok_of ‹_›
    rw [packL_len hk]
    exact hk.len.2
   ·exact Nat.zero_le _
theorem c48 {T : Nat → Prop} (kA : Option Addr) (kc : Nat) (ks : List Pack) (p : Int) (w : World) (hok : Packs.ok ks p = true) (hx : packT.Sl w T kA ks) :
  Calls Tryz.prog 48 #[.slice kA ks.length kc, I p] w fun e w' => ∃ A c, e = .returned (.agg #[.slice A (packL ks p).list.length c, I (sumL (packL ks p).list), I (packL ks p).price]) ∧ Ty.int.Sl w' (fun k => w.heap.size ≤ k) A (packL ks p).list ∧ w.grownBy w' none := by
 obtain ⟨hk, h0, h6⟩ := Packs.ok_of hok
 obtain ⟨N, rfl⟩ : ∃ N : Nat, p = N := ⟨p.toNat, by omega⟩
 refine (f48_calls kA kc ks N w hk (by omega) hx).mono fun e w' ⟨cs, he, hr, hg⟩ => ?_
 obtain ⟨A, c, rfl, _, _, hS⟩ := takenT_iff.1 hr
 exact ⟨A, c, he, hS, hg⟩
theorem f7_calls {T : Nat → Prop} (kA : Option Addr) (kc : Nat) (ks : List Pack) (p : Int) (w : World) (hx : packT.Sl w T kA ks) (hm : ks.length ≤ kc ∧ kc ≤ maxLen) :
  Calls Tryz.prog 7 #[.slice kA ks.length kc, I p] w fun e w' => e = .returned (.bool true) ∧ w.grownBy w' none := by
 refine s_enter (n := 62) Tryz.func7 rfl rfl rfl ?_
 have G := grown_refl w none
 refine s_rseq fun _ k1 => ?_
 refine o_v v_assign ?_
 refine o_end (k1 _ _ ?_)
 refine s_seq fun _ k2 => ?_
 refine s_rseq fun _ k3 => ?_
 refine o_v v_move ?_
 refine o_v (v_len rfl Tryz.underlying74) ?_
 refine o_v (v_gtr rfl rfl) ?_
 refine o_end (k3 _ _ ?_)
 refine s_ifd rfl (fun c3 => ?_) (fun c3 => ?_)
 ·refine s_rseq fun _ k4 => ?_
  refine o_call rfl rfl ent20 ((f20_calls w)) ?_; rintro _ w1 ⟨rfl, g1⟩; refine ⟨_, rfl, ?_⟩
  replace G := G.step0 g1; replace hx := hx.step0 g1
  refine o_v v_assign ?_
  refine o_end (k4 _ _ ?_)
  refine s_ret (post1 rfl ?_)
  exact ⟨rfl, G⟩
 ·refine s_skip ?_
  refine k2 _ _ ?_
  refine s_rseq fun _ k5 => ?_
  refine o_v v_move ?_
  refine o_v v_move ?_
  refine o_call rfl rfl ent45 (c45p kA kc ks p w hx hm) ?_; rintro _ w2 ⟨rA, rc, xs, q, er, rfl, hbad, hgood, hxl, hr, g2⟩; refine ⟨_, rfl, ?_⟩
  replace G := G.step0 g2; replace hx := hx.step0 g2
  refine o_v v_move ?_
  refine o_v (v_extract rfl rfl) ?_
  refine o_v (v_extract rfl rfl) ?_
  refine o_v (v_extract rfl rfl) ?_
  refine o_v v_assign ?_
  refine o_v v_assign ?_
  refine o_v v_assign ?_
  refine o_end (k5 _ _ ?_)
  refine s_seq fun _ k6 => ?_
  refine s_rseq fun _ k7 => ?_
  refine o_v v_move ?_
  refine o_call rfl rfl ent46 ((f46_calls kA kc ks w2 hx (by omega))) ?_; rintro _ w3 ⟨rfl, g3⟩; refine ⟨_, rfl, ?_⟩
  replace G := G.step0 g3; replace hx := hx.step0 g3
  refine o_v (v_not rfl) ?_
  refine o_v v_move ?_
  refine o_mid (G := Unit) 4 (fun _ => [(27, .bool (!Packs.ok ks p))]) [27] [24, 25, 26] (fun _ w' => w3.grownBy w' none) (fun _ => rfl) ?_ ?_
  ·have H1 := grown_refl w3 none
   rcases Bool.eq_false_or_eq_true (!isPacksB ks) with hX1 | hX1
   ·refine g_no rfl rfl rfl hX1 ?_
    refine g_no rfl rfl rfl hX1 ?_
    refine g_no rfl rfl rfl hX1 ?_
    refine o_v (v_pick_t rfl hX1) ?_
    refine o_end (mid () ?_ ?_ ?_)
    ·repeat (first | exact off_refl | refine off_cons rfl ?_)
    ·exact ⟨congrArg Value.bool (show true = !Packs.ok ks p by rw [ok_packs, not_t hX1]; rfl), trivial⟩
    ·exact H1
   ·refine g_yes rfl rfl rfl hX1 ?_
    refine o_v v_move ?_
    refine g_yes rfl rfl rfl hX1 ?_
    refine o_call rfl rfl ent47 ((f47_calls p w3)) ?_; rintro _ w4 ⟨rfl, g4⟩; refine ⟨_, rfl, ?_⟩
    replace G := G.step0 g4; replace hx := hx.step0 g4; replace H1 := H1.step0 g4
    refine g_yes rfl rfl rfl hX1 ?_
    refine o_v (v_not rfl) ?_
    refine o_v (v_pick_f rfl hX1) ?_
    refine o_end (mid () ?_ ?_ ?_)
    ·repeat (first | exact off_refl | refine off_cons rfl ?_)
    ·exact ⟨congrArg Value.bool (show (!inB p 0 600) = !Packs.ok ks p by rw [ok_packs, not_f hX1]; rfl), trivial⟩
    ·exact H1
  ·rintro _ jv w5 g5
   replace G := G.step0 g5; replace hx := hx.step0 g5
   refine o_end (k7 _ _ ?_)
   refine s_if rfl (fun c7 => ?_) (fun c7 => ?_)
   ·have hok : Packs.ok ks p = false := not_t c7
    obtain ⟨h1, h2, h3⟩ := hbad hok
    refine s_rseq fun _ k8 => ?_
    refine o_v v_move ?_
    refine o_v (v_eql rfl rfl) ?_
    refine o_v v_move ?_
    refine g_yes rfl rfl rfl (by rw [h3]; rfl) ?_
    refine o_v v_move ?_
    refine g_yes rfl rfl rfl (by rw [h3]; rfl) ?_
    refine o_v (v_len rfl Tryz.underlying56) ?_
    refine g_yes rfl rfl rfl (by rw [h3]; rfl) ?_
    refine o_v (v_eql rfl rfl) ?_
    refine o_v (v_pick_t rfl (by rw [h3]; rfl)) ?_
    refine o_v v_move ?_
    refine g_yes rfl rfl rfl (by rw [h1]; rfl) ?_
    refine o_v v_move ?_
    refine g_yes rfl rfl rfl (by rw [h1]; rfl) ?_
    refine o_v (v_eql rfl rfl) ?_
    refine o_v (v_pick_t rfl (by rw [h1]; rfl)) ?_
    refine o_v v_move ?_
    refine g_yes rfl rfl rfl (by rw [h2]; rfl) ?_
    refine o_call rfl rfl ent20 (f20_calls w5) ?_; rintro _ w6 ⟨rfl, g6⟩; refine ⟨_, rfl, ?_⟩
    replace G := G.step0 g6
    refine o_v (v_pick_t rfl (by rw [h2]; rfl)) ?_
    refine o_v v_assign ?_
    refine o_end (k8 _ _ ?_)
    refine s_ret (post1 rfl ?_)
    exact ⟨rfl, G⟩
   ·have hok : Packs.ok ks p = true := not_f c7
    obtain ⟨h1, h2, h3⟩ := hgood hok
    replace hr := (hr.step0 g3).step0 g5
    refine s_skip ?_
    refine k6 _ _ ?_
    refine s_rseq fun _ k9 => ?_
    refine o_v v_move ?_
    refine o_v v_move ?_
    refine o_call rfl rfl ent48 (c48 kA kc ks p w5 hok hx) ?_; rintro _ w10 ⟨pA, pc, rfl, hpS, g10⟩; refine ⟨_, rfl, ?_⟩
    replace G := G.step0 g10; replace hx := hx.step0 g10
    replace hr := hr.step0 g10
    refine o_allocst (vs := [.slice pA (packL ks p).list.length pc, I (sumL (packL ks p).list), I (packL ks p).price]) ze80 rfl rfl rfl sz80 rfl rfl rfl ?_; intro w11 B8 g11 z11
    replace hr := hr.step0 g11
    replace G := G.step0 g11; replace hx := hx.step0 g11
    refine o_end (k9 _ _ ?_)
    refine s_rseq fun _ k10 => ?_
    refine o_v v_move ?_
    refine o_v (v_eql rfl rfl) ?_
    refine o_v v_move ?_
    refine g_yes rfl rfl rfl (by rw [h3]; rfl) ?_
    refine o_v v_move ?_
    refine g_yes rfl rfl rfl (by rw [h3]; rfl) ?_
    refine o_v (v_field rfl fld80_0) ?_
    refine g_yes rfl rfl rfl (by rw [h3]; rfl) ?_
    refine o_v (v_loadB rfl sc56 B8 rfl) ?_
    refine g_yes rfl rfl rfl (by rw [h3]; rfl) ?_
    refine o_call rfl rfl ent49 (f49_calls _ _ _ _ _ _ w11 hr (hpS.step0 g11) (maxLen_ge _ (by omega))) ?_; rintro _ w12 ⟨rfl, g12⟩; refine ⟨_, rfl, ?_⟩
    replace G := G.step0 g12; replace B8 := B8.step0 g12
    refine o_v (v_pick_t rfl (by rw [h3]; rfl)) ?_
    refine o_v v_move ?_
    refine g_yes rfl rfl rfl (decide_eq_true h1) ?_
    refine o_v v_move ?_
    refine g_yes rfl rfl rfl (decide_eq_true h1) ?_
    refine o_v (v_field rfl fld80_2) ?_
    refine g_yes rfl rfl rfl (decide_eq_true h1) ?_
    refine o_v (v_loadB rfl sc3 B8 rfl) ?_
    refine g_yes rfl rfl rfl (decide_eq_true h1) ?_
    refine o_v (v_eql rfl rfl) ?_
    refine o_v (v_pick_t rfl (decide_eq_true h1)) ?_
    refine o_v v_move ?_
    refine g_yes rfl rfl rfl (by rw [h2]; exact decide_eq_true rfl) ?_
    refine o_call rfl rfl ent20 (f20_calls w12) ?_; rintro _ w13 ⟨rfl, g13⟩; refine ⟨_, rfl, ?_⟩
    replace G := G.step0 g13
    refine o_v (v_pick_t rfl (by rw [h2]; exact decide_eq_true rfl)) ?_
    refine o_v v_assign ?_
    refine o_end (k10 _ _ ?_)
    refine s_ret (post1 rfl ?_)
    exact ⟨rfl, G⟩
end Go.Proofs.NV
