/- Part of the proof: Compare; best of lists; Reads; Which.. Odd.. -/
import Derived.Test.YtbjnjlgeendakaaGreatDoorKb14
set_option linter.unusedVariables false
set_option maxRecDepth 100000
set_option maxHeartbeats 8000000
set_option linter.unusedSimpArgs false
namespace Go.Proofs.NV
open Go.RowKit Go.Shelf
attribute [local irreducible] bodyPost bodyPostM wpQuiet
theorem f186_calls (x : Int) (w : World) :
  Calls Tryz.prog 186 #[I x] w fun e w' => e = .returned (.bool false) ∧ w.grownBy w' none := by
 refine s_enter (n := 6) Tryz.func186 rfl rfl rfl ?_
 have G := grown_refl w none
 refine s_rseq fun _ k1 => ?_
 refine o_v v_assign ?_
 refine o_end (k1 _ _ ?_)
 refine s_rseq fun _ k2 => ?_
 refine o_v v_move ?_
 refine o_v v_move ?_
 refine o_v (v_neq rfl rfl) ?_
 refine o_v v_assign ?_
 refine o_end (k2 _ _ ?_)
 refine s_ret (post1 rfl ?_)
 refine ⟨ret_bool ?_, G⟩
 exact decide_eq_false (fun h => h rfl)
def cmpI (a b : Int) : Int := if a < b then -1 else if b < a then 1 else 0
def cmpL : List Int → List Int → Int
 | [], [] => 0
 | [], _ :: _ => -1
 | _ :: _, [] => 1
 | a :: l, b :: m => if cmpI a b ≠ 0 then cmpI a b else cmpL l m
theorem f145_calls (x y : Int) (w : World) :
  Calls Tryz.prog 145 #[I x, I y] w fun e w' => e = .returned (I (cmpI x y)) ∧ w.grownBy w' none := by
 refine s_enter (n := 20) Tryz.func145 rfl rfl rfl ?_
 have G := grown_refl w none
 refine s_rseq fun _ k1 => ?_
 refine o_v v_assign ?_
 refine o_end (k1 _ _ ?_)
 refine s_rseq fun _ k2 => ?_
 refine o_v v_move ?_
 refine o_call rfl rfl ent186 (f186_calls _ _) ?_; rintro _ w1 ⟨rfl, g1⟩; refine ⟨_, rfl, ?_⟩
 replace G := G.step0 g1
 refine o_v v_assign ?_
 refine o_end (k2 _ _ ?_)
 refine s_rseq fun _ k3 => ?_
 refine o_v v_move ?_
 refine o_call rfl rfl ent186 (f186_calls _ _) ?_; rintro _ w2 ⟨rfl, g2⟩; refine ⟨_, rfl, ?_⟩
 replace G := G.step0 g2
 refine o_v v_assign ?_
 refine o_end (k3 _ _ ?_)
 refine s_seq fun _ k4 => ?_
 refine s_rseq fun _ k5 => ?_
 refine o_v v_move ?_
 refine o_end (k5 _ _ ?_)
 refine s_if rfl (fun c5 => by cases c5) (fun c5 => ?_)
 ·refine s_skip ?_
  refine k4 _ _ ?_
  refine s_seq fun _ k10 => ?_
  refine s_rseq fun _ k11 => ?_
  refine o_v v_move ?_
  refine o_end (k11 _ _ ?_)
  refine s_if rfl (fun c11 => by cases c11) (fun c11 => ?_)
  ·refine s_skip ?_
   refine k10 _ _ ?_
   refine s_seq fun _ k13 => ?_
   refine s_rseq fun _ k14 => ?_
   refine o_v v_move ?_
   refine o_v v_move ?_
   refine o_v (v_lss rfl rfl) ?_
   refine o_end (k14 _ _ ?_)
   refine s_ifd rfl (fun c14 => ?_) (fun c14 => ?_)
   ·refine s_rseq fun _ k15 => ?_
    refine o_v v_assign ?_
    refine o_end (k15 _ _ ?_)
    refine s_ret (post1 rfl ?_)
    exact ⟨ret_int (by unfold cmpI; rw [if_pos c14]), G⟩
   ·refine s_skip ?_
    refine k13 _ _ ?_
    refine s_seq fun _ k16 => ?_
    refine s_rseq fun _ k17 => ?_
    refine o_v v_move ?_
    refine o_v v_move ?_
    refine o_v (v_gtr rfl rfl) ?_
    refine o_end (k17 _ _ ?_)
    refine s_ifd rfl (fun c17 => ?_) (fun c17 => ?_)
    ·refine s_rseq fun _ k18 => ?_
     refine o_v v_assign ?_
     refine o_end (k18 _ _ ?_)
     refine s_ret (post1 rfl ?_)
     exact ⟨ret_int (by unfold cmpI; rw [if_neg c14, if_pos c17]), G⟩
    ·refine s_skip ?_
     refine k16 _ _ ?_
     refine s_rseq fun _ k19 => ?_
     refine o_v v_assign ?_
     refine o_end (k19 _ _ ?_)
     refine s_ret (post1 rfl ?_)
     exact ⟨ret_int (by unfold cmpI; rw [if_neg c14, if_neg c17]), G⟩
theorem f99_calls {S T : Nat → Prop} (A : Option Addr) (c : Nat) (xs : List Int) (B : Option Addr) (d : Nat) (ys : List Int) (w : World) (hx : Ty.int.Sl w S A xs) (hy : Ty.int.Sl w T B ys) (hm : xs.length ≤ 1000000) (hm2 : ys.length ≤ 1000000) :
  Calls Tryz.prog 99 #[.slice A xs.length c, .slice B ys.length d] w fun e w' => e = .returned (I (cmpL xs ys)) ∧ w.grownBy w' none := by
 refine s_enter (n := 36) Tryz.func99 rfl rfl rfl ?_
 have G := grown_refl w none
 refine s_rseq fun _ k1 => ?_
 refine o_v v_assign ?_
 refine o_end (k1 _ _ ?_)
 refine s_seq fun _ k2 => ?_
 refine s_rseq fun _ k3 => ?_
 refine o_v v_move ?_
 refine o_v (v_len rfl Tryz.underlying56) ?_
 refine o_v v_move ?_
 refine o_end (k3 _ _ ?_)
 refine s_block ?_
 refine s_loop (G := Nat) (fun g => [(11, I g)]) [11] [4, 5, 6, 7, 8, 12, 13, 14, 15, 16, 17, 18, 19, 20, 21, 22, 23, 24, 25, 26, 27, 28, 29, 30] (fun g W => (g ≤ xs.length ∧ g ≤ ys.length ∧ cmpL xs ys = cmpL (xs.drop g) (ys.drop g)) ∧ w.grownBy W none) (fun g => xs.length - g) (fun _ => rfl) 0 ⟨rfl, trivial⟩ ⟨⟨Nat.zero_le _, Nat.zero_le _, rfl⟩, grown_refl _ _⟩ ?_
 rintro g jv w1 ⟨⟨hg, hg2, hcm⟩, g1⟩
 replace G := G.step0 g1
 refine s_rseq fun _ k4 => ?_
 refine o_v (v_lss rfl rfl) ?_
 refine o_end (k4 _ _ ?_)
 refine s_seq fun _ k5 => ?_
 refine s_ifd rfl (fun c5 => ?_) (fun c5 => ?_)
 ·have hlt : g < xs.length := by omega
  obtain ⟨b1, o1, rfl, hc1⟩ := (hx.step0 g1).int g hlt
  have hdx := List.drop_eq_getElem_cons hlt
  refine s_skip ?_
  refine k5 _ _ ?_
  refine s_seq fun _ k6 => ?_
  refine s_block ?_
  refine s_rseq fun _ k7 => ?_
  refine o_v v_move ?_
  refine o_v (v_index rfl rfl slt56 (by omega)) ?_
  refine o_v (v_loadC rfl sc3 hc1) ?_
  refine o_v v_assign ?_
  refine o_v v_assign ?_
  refine o_end (k7 _ _ ?_)
  refine s_seq fun _ k8 => ?_
  refine s_rseq fun _ k9 => ?_
  refine o_v v_move ?_
  refine o_v v_move ?_
  refine o_v (v_len rfl Tryz.underlying56) ?_
  refine o_v (v_geq rfl rfl) ?_
  refine o_end (k9 _ _ ?_)
  refine s_ifd rfl (fun c9 => ?_) (fun c9 => ?_)
  ·refine s_rseq fun _ k10 => ?_
   refine o_v v_assign ?_
   refine o_end (k10 _ _ ?_)
   refine s_ret (post1 rfl ?_)
   have hdy : ys.drop g = [] := List.drop_eq_nil_of_le (by omega)
   exact ⟨ret_int (by rw [hcm, hdx, hdy, cmpL]), G⟩
  ·have hlt2 : g < ys.length := by omega
   obtain ⟨b2, o2, rfl, hc2⟩ := (hy.step0 g1).int g hlt2
   have hdy := List.drop_eq_getElem_cons hlt2
   rw [hdx, hdy, cmpL] at hcm
   refine s_skip ?_
   refine k8 _ _ ?_
   refine s_rseq fun _ k11 => ?_
   refine o_v v_move ?_
   refine o_v v_move ?_
   refine o_v (v_index rfl rfl slt56 (by omega)) ?_
   refine o_v (v_loadC rfl sc3 hc2) ?_
   refine o_v v_assign ?_
   refine o_end (k11 _ _ ?_)
   refine s_rseq fun _ k12 => ?_
   refine o_v v_move ?_
   refine o_v v_move ?_
   refine o_call rfl rfl ent145 (f145_calls _ _ _) ?_; rintro _ w2 ⟨rfl, g2⟩; refine ⟨_, rfl, ?_⟩
   replace G := G.step0 g2; replace g1 := g1.step0 g2
   refine o_v v_assign ?_
   refine o_end (k12 _ _ ?_)
   refine s_rseq fun _ k13 => ?_
   refine o_v v_move ?_
   refine o_v (v_neq rfl rfl) ?_
   refine o_end (k13 _ _ ?_)
   refine s_ifd rfl (fun c13 => ?_) (fun c13 => ?_)
   ·refine s_rseq fun _ k14 => ?_
    refine o_v v_move ?_
    refine o_v v_assign ?_
    refine o_end (k14 _ _ ?_)
    refine s_ret (post1 rfl ?_)
    exact ⟨ret_int (by rw [hcm, if_pos c13]), G⟩
   ·refine s_skip ?_
    refine k6 _ _ ?_
    refine s_region ?_
    refine o_v (v_add rfl rfl (by omega)) ?_
    refine o_v v_move ?_
    refine o_end ?_
    refine mid (g + 1) ?_ ?_ ?_
    ·repeat (first | exact off_refl | refine off_cons rfl ?_)
    ·exact ⟨rfl, trivial⟩
    ·exact ⟨⟨⟨hlt, hlt2, by rw [hcm, if_neg c13]⟩, g1⟩, (by omega)⟩
 ·have hdx : xs.drop g = [] := List.drop_eq_nil_of_le (by omega)
  rw [hdx] at hcm
  refine s_exit ?_
  refine k2 _ _ ?_
  refine s_seq fun _ k15 => ?_
  refine s_rseq fun _ k16 => ?_
  refine o_v v_move ?_
  refine o_v (v_len rfl Tryz.underlying56) ?_
  refine o_v v_move ?_
  refine o_v (v_len rfl Tryz.underlying56) ?_
  refine o_v (v_lss rfl rfl) ?_
  refine o_end (k16 _ _ ?_)
  refine s_ifd rfl (fun c16 => ?_) (fun c16 => ?_)
  ·refine s_rseq fun _ k17 => ?_
   refine o_v v_assign ?_
   refine o_end (k17 _ _ ?_)
   refine s_ret (post1 rfl ?_)
   have hlt2 : g < ys.length := by omega
   exact ⟨ret_int (by rw [hcm, List.drop_eq_getElem_cons hlt2, cmpL]), G⟩
  ·refine s_skip ?_
   refine k15 _ _ ?_
   refine s_rseq fun _ k18 => ?_
   refine o_v v_assign ?_
   refine o_end (k18 _ _ ?_)
   refine s_ret (post1 rfl ?_)
   have hdy : ys.drop g = [] := List.drop_eq_nil_of_le (by omega)
   exact ⟨ret_int (by rw [hcm, hdy, cmpL]), G⟩
def shorter (x y : List Int) : Bool := decide ((x.length : Int) < y.length) || (decide ((x.length : Int) = y.length) && decide (cmpL x y < 0))
theorem f98_calls {S T : Nat → Prop} (A : Option Addr) (c : Nat) (xs : List Int) (B : Option Addr) (d : Nat) (ys : List Int) (w : World) (hx : Ty.int.Sl w S A xs) (hy : Ty.int.Sl w T B ys) (hm : xs.length ≤ 1000000) (hm2 : ys.length ≤ 1000000) :
  Calls Tryz.prog 98 #[.slice A xs.length c, .slice B ys.length d] w fun e w' => e = .returned (.bool (shorter xs ys)) ∧ w.grownBy w' none := by
 refine s_enter (n := 23) Tryz.func98 rfl rfl rfl ?_
 have G := grown_refl w none
 refine s_rseq fun _ k1 => ?_
 refine o_v v_assign ?_
 refine o_end (k1 _ _ ?_)
 refine s_rseq fun _ k2 => ?_
 refine o_v v_move ?_
 refine o_v (v_len rfl Tryz.underlying56) ?_
 refine o_v v_move ?_
 refine o_v (v_len rfl Tryz.underlying56) ?_
 refine o_v (v_lss rfl rfl) ?_
 refine o_v v_move ?_
 refine o_mid (G := Unit) 12 (fun _ => [(22, .bool (decide ((xs.length : Int) < ys.length) || (decide ((xs.length : Int) = ys.length) && decide (cmpL xs ys < 0))))]) [22] [11, 12, 13, 14, 15, 16, 17, 18, 19, 20, 21] (fun _ w' => w.grownBy w' none) (fun _ => rfl) ?_ ?_
 ·have H1 := grown_refl w none
  rcases Bool.eq_false_or_eq_true (decide ((xs.length : Int) < ys.length)) with hX1 | hX1
  ·refine g_no rfl rfl rfl hX1 ?_
   refine g_no rfl rfl rfl hX1 ?_
   refine g_no rfl rfl rfl hX1 ?_
   refine g_no rfl rfl rfl hX1 ?_
   refine g_no rfl rfl rfl hX1 ?_
   refine g_no rfl rfl rfl hX1 ?_
   refine g_un rfl rfl rfl ?_
   refine g_un rfl rfl rfl ?_
   refine g_un rfl rfl rfl ?_
   refine g_un rfl rfl rfl ?_
   refine g_no rfl rfl rfl hX1 ?_
   refine o_v (v_pick_t rfl hX1) ?_
   refine o_end (mid () ?_ ?_ ?_)
   ·repeat (first | exact off_refl | refine off_cons rfl ?_)
   ·exact ⟨by rw [hX1]; rfl, trivial⟩
   ·exact H1
  ·refine g_yes rfl rfl rfl hX1 ?_
   refine o_v v_move ?_
   refine g_yes rfl rfl rfl hX1 ?_
   refine o_v (v_len rfl Tryz.underlying56) ?_
   refine g_yes rfl rfl rfl hX1 ?_
   refine o_v v_move ?_
   refine g_yes rfl rfl rfl hX1 ?_
   refine o_v (v_len rfl Tryz.underlying56) ?_
   refine g_yes rfl rfl rfl hX1 ?_
   refine o_v (v_eql rfl rfl) ?_
   refine g_yes rfl rfl rfl hX1 ?_
   refine o_v v_move ?_
   refine o_mid (G := Unit) 5 (fun _ => [(21, .bool (decide ((xs.length : Int) = ys.length) && decide (cmpL xs ys < 0)))]) [21] [17, 18, 19, 20] (fun _ w' => w.grownBy w' none) (fun _ => rfl) ?_ ?_
   ·have H2 := grown_refl w none
    rcases Bool.eq_false_or_eq_true (decide ((xs.length : Int) = ys.length)) with hX2 | hX2
    ·refine g_yes rfl rfl rfl hX2 ?_
     refine o_v v_move ?_
     refine g_yes rfl rfl rfl hX2 ?_
     refine o_v v_move ?_
     refine g_yes rfl rfl rfl hX2 ?_
     refine o_call rfl rfl ent99 (f99_calls A c xs B d ys _ hx hy hm hm2) ?_; rintro _ w1 ⟨rfl, g1⟩; refine ⟨_, rfl, ?_⟩
     replace G := G.step0 g1; replace H1 := H1.step0 g1; replace H2 := H2.step0 g1
     refine g_yes rfl rfl rfl hX2 ?_
     refine o_v (v_lss rfl rfl) ?_
     refine g_yes rfl rfl rfl hX1 ?_
     refine o_v (v_pick_t rfl hX2) ?_
     refine o_end (mid () ?_ ?_ ?_)
     ·repeat (first | exact off_refl | refine off_cons rfl ?_)
     ·exact ⟨by rw [hX2]; rfl, trivial⟩
     ·exact H2
    ·refine g_no rfl rfl rfl hX2 ?_
     refine g_no rfl rfl rfl hX2 ?_
     refine g_no rfl rfl rfl hX2 ?_
     refine g_no rfl rfl rfl hX2 ?_
     refine g_yes rfl rfl rfl hX1 ?_
     refine o_v (v_pick_f rfl hX2) ?_
     refine o_end (mid () ?_ ?_ ?_)
     ·repeat (first | exact off_refl | refine off_cons rfl ?_)
     ·exact ⟨by rw [hX2]; rfl, trivial⟩
     ·exact H2
   ·rintro _ jv w2 g2
    replace G := G.step0 g2; replace H1 := H1.step0 g2
    refine o_v (v_pick_f rfl hX1) ?_
    refine o_end (mid () ?_ ?_ ?_)
    ·repeat (first | exact off_refl | refine off_cons rfl ?_)
    ·exact ⟨by rw [hX1]; rfl, trivial⟩
    ·exact H1
 ·rintro _ jv w3 g3
  replace G := G.step0 g3
  refine o_v v_assign ?_
  refine o_end (k2 _ _ ?_)
  refine s_ret (post1 rfl ?_)
  exact ⟨rfl, G⟩
theorem f97_calls {S : Nat → Prop} (bt : List Int → List Int → Bool) (f : FuncId) (hf : Ent Tryz.prog f) (hbt : ∀ (x y : List Int) A c B d W, Ty.int.Sl W S A x → Ty.int.Sl W S B y → x.length ≤ 1000000 → y.length ≤ 1000000 → Calls Tryz.prog f #[.slice A x.length c, .slice B y.length d] W fun e w' => e = .returned (.bool (bt x y)) ∧ W.grownBy w' none)
  (A : Option Addr) (c : Nat) (xs : List (List Int)) (w : World) (hx : Ty.int.sl.Sl w S A xs) (hm : xs.length ≤ 1000000) (hm2 : ∀ x ∈ xs, x.length ≤ 1000000) :
  Calls Tryz.prog 97 #[.slice A xs.length c, .func (.func f) #[] #[]] w fun e w' => ∃ v, e = .returned (.tuple #[v, .bool (decide (0 < (xs.length : Int)))]) ∧ (∀ o, bestL bt xs = some o → Ty.int.sl.rep w' S o [v]) ∧ (xs = [] → v = .slice none 0 0) ∧ w.grownBy w' none := by
 refine s_enter (n := 30) Tryz.func97 rfl rfl rfl ?_
 have G := grown_refl w none
 refine s_rseq fun _ k1 => ?_
 refine o_v v_assign ?_
 refine o_v v_assign ?_
 refine o_end (k1 _ _ ?_)
 refine s_rseq fun _ k2 => ?_
 refine o_v v_assign ?_
 refine o_end (k2 _ _ ?_)
 refine s_seq fun _ k3 => ?_
 refine s_rseq fun _ k4 => ?_
 refine o_v v_move ?_
 refine o_v (v_len rfl Tryz.underlying33) ?_
 refine o_v v_move ?_
 refine o_end (k4 _ _ ?_)
 refine s_block ?_
 refine s_loop (G := Nat × Value) (fun g => [(6, g.2), (11, I g.1)]) [6, 11] [7, 8, 12, 13, 14, 15, 16, 17, 18, 19, 20, 21, 22, 23, 24, 25] (fun g W => (g.1 ≤ xs.length ∧ (∀ o, bestL bt (xs.take g.1) = some o → Ty.int.sl.rep W S o [g.2]) ∧ (g.1 = 0 → g.2 = .slice none 0 0)) ∧ w.grownBy W none) (fun g => xs.length - g.1) (fun _ => rfl) (0, .slice none 0 0) ⟨rfl, rfl, trivial⟩ ⟨⟨Nat.zero_le _, (fun o h => by cases h), fun _ => rfl⟩, grown_refl _ _⟩ ?_
 rintro ⟨g, out⟩ jv w1 ⟨⟨hg, hout, hnil⟩, g1⟩
 simp only at hg hout hnil ⊢
 replace G := G.step0 g1
 refine s_rseq fun _ k5 => ?_
 refine o_v (v_lss rfl rfl) ?_
 refine o_end (k5 _ _ ?_)
 refine s_seq fun _ k6 => ?_
 refine s_ifd rfl (fun c6 => ?_) (fun c6 => ?_)
 ·have hlt : g < xs.length := by omega
  obtain ⟨bx, ox, cx, rfl, _, ⟨eA, ec, rfl, he1, he2, he3⟩, hrg⟩ := (hx.step0 g1).get g hlt
  have hcell := hrg 0 _ rfl
  simp only [Ty.sl] at hcell
  obtain ⟨oo, hoo⟩ : ∃ o : List Int, g = 0 ∨ bestL bt (xs.take g) = some o := by
   by_cases h0 : g = 0
   ·exact ⟨xs[g], .inl h0⟩
   ·obtain ⟨o, ho⟩ := bestL_some bt (l := xs.take g) (by intro e; have := congrArg List.length e; rw [List.length_take, List.length_nil] at this; omega)
    exact ⟨o, .inr ho⟩
  have htake : xs.take (g + 1) = xs.take g ++ [xs[g]] := List.take_succ_eq_append_getElem hlt
  refine s_skip ?_
  refine k6 _ _ ?_
  refine s_seq fun _ k7 => ?_
  refine s_block ?_
  refine s_rseq fun _ k8 => ?_
  refine o_v v_move ?_
  refine o_v (v_index rfl rfl slt33 (by omega)) ?_
  refine o_v (v_loadC rfl sc56 (by simpa using hcell)) ?_
  refine o_v v_assign ?_
  refine o_v v_assign ?_
  refine o_end (k8 _ _ ?_)
  refine s_rseq fun _ k9 => ?_
  refine o_v v_move ?_
  refine o_v (v_eql rfl rfl) ?_
  refine o_v v_move ?_
  refine o_mid (G := Unit) 5 (fun _ => [(23, .bool (decide ((g : Int) = 0) || bt xs[g] oo))]) [23] [19, 20, 21, 22] (fun _ w' => w1.grownBy w' none) (fun _ => rfl) ?_ ?_
  ·have H1 := grown_refl w1 none
   rcases Bool.eq_false_or_eq_true (decide ((g : Int) = 0)) with hX1 | hX1
   ·refine g_no rfl rfl rfl hX1 ?_
    refine g_no rfl rfl rfl hX1 ?_
    refine g_no rfl rfl rfl hX1 ?_
    refine g_no rfl rfl rfl hX1 ?_
    refine o_v (v_pick_t rfl hX1) ?_
    refine o_end (mid () ?_ ?_ ?_)
    ·repeat (first | exact off_refl | refine off_cons rfl ?_)
    ·exact ⟨by rw [hX1]; rfl, trivial⟩
    ·exact H1
   ·have hg0 : g ≠ 0 := fun h => by rw [h] at hX1; simp at hX1
    have hoo' := hoo.resolve_left hg0
    obtain ⟨oA, oc, hov, ho1, ho2, ho3⟩ := hout oo hoo'
    obtain rfl : out = .slice oA oo.length oc := by simpa using hov
    refine g_yes rfl rfl rfl hX1 ?_
    refine o_v v_move ?_
    refine g_yes rfl rfl rfl hX1 ?_
    refine o_v v_move ?_
    refine g_yes rfl rfl rfl hX1 ?_
    refine o_v v_move ?_
    refine g_yes rfl rfl rfl hX1 ?_
    refine o_call rfl rfl hf (hbt xs[g] oo _ _ _ _ _ he3 ho3 (hm2 _ (List.getElem_mem hlt)) (hm2 _ (List.mem_of_mem_take (bestL_mem hoo')))) ?_; rintro _ w2 ⟨rfl, g2⟩; refine ⟨_, rfl, ?_⟩
    replace G := G.step0 g2; replace g1 := g1.step0 g2; replace H1 := H1.step0 g2
    refine o_v (v_pick_f rfl hX1) ?_
    refine o_end (mid () ?_ ?_ ?_)
    ·repeat (first | exact off_refl | refine off_cons rfl ?_)
    ·exact ⟨by rw [hX1]; rfl, trivial⟩
    ·exact H1
  ·rintro _ jv w3 g3
   replace G := G.step0 g3; replace g1 := g1.step0 g3
   refine o_end (k9 _ _ ?_)
   refine s_if rfl (fun c9 => ?_) (fun c9 => ?_)
   ·refine s_region ?_
    refine o_v v_move ?_
    refine o_v v_assign ?_
    refine o_end ?_
    refine k7 _ _ ?_
    refine s_region ?_
    refine o_v (v_add rfl rfl (by omega)) ?_
    refine o_v v_move ?_
    refine o_end ?_
    refine mid (g + 1, .slice eA xs[g].length ec) ?_ ?_ ?_
    ·repeat (first | exact off_refl | refine off_cons rfl ?_)
    ·exact ⟨rfl, rfl, trivial⟩
    ·rw [Bool.or_eq_true, decide_eq_true_eq] at c9
     refine ⟨⟨⟨hlt, fun o ho => ?_, fun h => by cases h⟩, g1⟩, by simp only; omega⟩
     have hrepx : Ty.int.sl.rep w3 S xs[g] [.slice eA xs[g].length ec] := Ty.int.sl.step0 ⟨eA, ec, rfl, he1, he2, he3⟩ g3
     rw [htake] at ho
     rcases hoo with h0 | h0
     ·subst h0
      simp only [List.take_zero, List.nil_append, bestL, bestF, Option.some.injEq] at ho
      rw [← ho]; exact hrepx
     ·rw [bestL_snoc h0, Option.some.injEq] at ho
      by_cases hb : bt xs[g] oo = true
      ·rw [if_pos hb] at ho; rw [← ho]; exact hrepx
      ·have : g = 0 := by
        rcases c9 with h | h
        ·omega
        ·exact absurd h hb
       subst this
       cases h0
   ·refine s_skip ?_
    refine k7 _ _ ?_
    refine s_region ?_
    refine o_v (v_add rfl rfl (by omega)) ?_
    refine o_v v_move ?_
    refine o_end ?_
    refine mid (g + 1, out) ?_ ?_ ?_
    ·repeat (first | exact off_refl | refine off_cons rfl ?_)
    ·exact ⟨rfl, rfl, trivial⟩
    ·rw [Bool.or_eq_false_iff, decide_eq_false_iff_not] at c9
     refine ⟨⟨⟨hlt, fun o ho => ?_, fun h => by cases h⟩, g1⟩, by simp only; omega⟩
     have h0 := hoo.resolve_left (by omega)
     rw [htake, bestL_snoc h0, c9.2, if_neg (by decide), Option.some.injEq] at ho
     rw [← ho]
     exact Ty.int.sl.step0 (hout oo h0) g3
 ·obtain rfl : g = xs.length := by omega
  rw [List.take_length] at hout
  refine s_exit ?_
  refine k3 _ _ ?_
  refine s_rseq fun _ k10 => ?_
  refine o_v v_move ?_
  refine o_v v_move ?_
  refine o_v (v_len rfl Tryz.underlying33) ?_
  refine o_v (v_gtr rfl rfl) ?_
  refine o_v v_assign ?_
  refine o_v v_assign ?_
  refine o_end (k10 _ _ ?_)
  refine s_ret (post2 rfl ?_)
  exact ⟨out, rfl, hout, fun h => hnil (by rw [h]; rfl), G⟩
def readsQ (b : Book) (x : Buyer) : List (List Int) := if lettersE b x = 0 then x.lets.map fun l => listedL ((lettersL b x).map fun r => r.2[l.num.toNat]?.getD 0) else []
def whichQ (b : Book) (x : Buyer) : List Int := if lettersE b x = 0 then listedL ((lettersL b x).map fun r => r.1) else []
theorem lettersE_ok {b : Book} {x : Buyer} (h : lettersE b x = 0) : b.ok = true ∧ b.isBuy x = true ∧ lettersL b x ≠ [] := by
 unfold lettersE at h
 split at h
 ·rename_i hne; exact absurd h hne
 ·rename_i he
  split at h
  ·cases h
  ·rename_i hl
   have he0 : askedE b (b.isBuy x) = 0 := by
    apply Classical.byContradiction
    exact he
   obtain ⟨h1, h2, _⟩ := asked_ok he0
   exact ⟨h1, h2, fun e => hl (by rw [e]; rfl)⟩
theorem letters_ok {b : Book} {x : Buyer} (h : lettersE b x = 0) : (lettersL b x).length ≤ 360 ∧ ∀ r ∈ lettersL b x, ReadOk b x.eds r := by
 obtain ⟨hok, _, _⟩ := lettersE_ok h
 refine ⟨Nat.le_trans (List.length_filter_le _ _) (reads_few hok _), fun r hr => reads_ok hok (List.mem_filter.1 hr).1⟩
theorem info56 : (Tryz.prog.info? 56).map (fun i => (i.zero, i.size, i.bytes)) = some (some (.slice none 0 0), 1, 24) := by kernel_rfl
theorem f35_calls {S T : Nat → Prop} (b : Book) (gA : Option Addr) (gc : Nat) (eA : Option Addr) (ec : Nat) (x : Buyer) (lA : Option Addr) (lc : Nat) (w : World) (hI : BookIn w S b gA gc eA ec) (hX : BuyIn w T x lA lc) :
  Calls Tryz.prog 35 #[.agg (b.cells gA gc eA ec).toArray, .agg (x.cells lA lc).toArray] w fun e w' => ∃ v, e = .returned (.tuple #[v, I (lettersE b x)]) ∧ Ty.int.sl.Row 56 w' (fun k => w.heap.size ≤ k) v (readsQ b x) ∧ w.grownBy w' none := by
 refine s_enter (n := 53) Tryz.func35 rfl rfl rfl ?_
 have G := grown_refl w none
 refine s_rseq fun _ k1 => ?_
 refine o_box (t := 25) rfl ?_; intro w1 B2 g1 z1
 replace G := G.step0 g1; replace hI := hI.step0 g1; replace hX := hX.step0 g1
 refine o_box (t := 47) rfl ?_; intro w2 B3 g2 z2
 replace G := G.step0 g2; replace hI := hI.step0 g2; replace hX := hX.step0 g2; replace B2 := B2.step0 g2
 refine o_v v_assign ?_
 refine o_v v_assign ?_
 refine o_end (k1 _ _ ?_)
 refine s_rseq fun _ k2 => ?_
 refine o_v (v_loadBS rfl ag25 B2 rfl rfl) ?_
 refine o_v (v_loadBS rfl ag47 B3 rfl rfl) ?_
 refine o_call rfl rfl ent90 (f90_calls b gA gc eA ec x lA lc _ hI hX) ?_; rintro _ w3 ⟨av, rfl, hav, g3⟩; refine ⟨_, rfl, ?_⟩
 replace G := G.step0 g3; replace hI := hI.step0 g3; replace hX := hX.step0 g3; replace B2 := B2.step0 g3; replace B3 := B3.step0 g3
 refine o_v v_move ?_
 refine o_v (v_extract rfl rfl) ?_
 refine o_v (v_extract rfl rfl) ?_
 refine o_v v_assign ?_
 refine o_v v_assign ?_
 refine o_end (k2 _ _ ?_)
 refine s_seq fun _ k3 => ?_
 refine s_rseq fun _ k4 => ?_
 refine o_v v_move ?_
 refine o_v (v_neq rfl rfl) ?_
 refine o_end (k4 _ _ ?_)
 refine s_ifd rfl (fun c4 => ?_) (fun c4 => ?_)
 ·refine s_rseq fun _ k5 => ?_
  refine o_v v_move ?_
  refine o_v v_assign ?_
  refine o_v v_assign ?_
  refine o_end (k5 _ _ ?_)
  refine s_ret (post2 rfl ?_)
  refine ⟨_, rfl, ?_, G⟩
  unfold readsQ
  rw [if_neg (by exact c4)]
  exact Ty.Row.nil _ _ _ _
 ·have he0 : lettersE b x = 0 := by
   apply Classical.byContradiction
   exact c4
  obtain ⟨hok, hbuy, hne⟩ := lettersE_ok he0
  obtain ⟨hfew, hrok⟩ := letters_ok he0
  have hgd := Book.ok_goods hok
  have hbo := buy_ok hbuy
  obtain ⟨rs, hrs⟩ : ∃ rs, rs = lettersL b x := ⟨_, rfl⟩
  unfold lettersQ at hav
  rw [if_pos he0, ← hrs] at hav
  rw [← hrs] at hfew hrok
  obtain ⟨aA, ac, hae, _, _, has⟩ := hav.reads
  subst hae
  refine s_skip ?_
  refine k3 _ _ ?_
  refine s_rseq fun _ k6 => ?_
  refine o_v v_assign ?_
  refine o_end (k6 _ _ ?_)
  refine s_seq fun _ k7 => ?_
  refine s_rseq fun _ k8 => ?_
  refine o_v (v_field rfl fld47_1) ?_
  refine o_v (v_loadB rfl sc45 B3 rfl) ?_
  refine o_v (v_len rfl Tryz.underlying45) ?_
  refine o_v v_move ?_
  refine o_end (k8 _ _ ?_)
  refine s_block ?_
  refine s_loop (G := Nat × Value) (fun g => [(8, g.2), (26, I g.1)]) [8, 26] [10, 11, 13, 27, 28, 29, 30, 31, 32, 33, 34, 35, 36, 37, 38, 39, 40, 41, 42, 43, 44, 45, 46, 47, 48, 49, 50, 51] (fun g W => (g.1 ≤ x.lets.length ∧ Ty.int.sl.Row 56 W (fun k => w3.heap.size ≤ k) g.2 ((x.lets.take g.1).map fun l => listedL (rs.map fun r => r.2[l.num.toNat]?.getD 0))) ∧ w3.grownBy W none) (fun g => x.lets.length - g.1) (fun _ => rfl) (0, .slice none 0 0) ⟨rfl, rfl, trivial⟩ ⟨⟨Nat.zero_le _, Ty.Row.nil _ _ _ _⟩, grown_refl _ _⟩ ?_
  rintro ⟨g, out⟩ jv w4 ⟨⟨hk, hrow⟩, g4⟩
  simp only at hk hrow ⊢
  replace G := G.step0 g4; replace hI := hI.step0 g4; replace hX := hX.step0 g4; replace B2 := B2.step0 g4; replace B3 := B3.step0 g4
  refine s_rseq fun _ k9 => ?_
  refine o_v (v_lss rfl rfl) ?_
  refine o_end (k9 _ _ ?_)
  refine s_seq fun _ k10 => ?_
  refine s_ifd rfl (fun c10 => ?_) (fun c10 => ?_)
  ·have hlt : g < x.lets.length := by omega
   obtain ⟨bl, ol, cl, rfl, _, hrepl, hrgl⟩ := hX.lets.get g hlt
   obtain rfl : cl = x.lets[g].cells := hrepl
   rw [show letT.sz = 4 from rfl] at hrgl
   have hnum := hbo.2.2.2 _ (List.getElem_mem hlt)
   obtain ⟨ll, hlle⟩ : ∃ ll, ll = x.lets[g] := ⟨_, rfl⟩
   rw [← hlle] at hrgl hnum
   refine s_skip ?_
   refine k10 _ _ ?_
   refine s_seq fun _ k11 => ?_
   refine s_block ?_
   refine s_rseq fun _ k12 => ?_
   refine o_v (v_index rfl rfl slt45 (by omega)) ?_
   refine o_v (v_loadR rfl ag67 hrgl rfl) ?_
   refine o_allocst ze67 rfl rfl rfl sz67 rfl rfl rfl ?_; intro w5 B10 g5 z5
   replace G := G.step0 g5; replace hI := hI.step0 g5; replace hX := hX.step0 g5; replace B2 := B2.step0 g5; replace B3 := B3.step0 g5; replace g4 := g4.step0 g5
   replace hrow := hrow.step0 g5; replace has := has.step0 g4
   refine o_end (k12 _ _ ?_)
   refine s_rseq fun _ k13 => ?_
   refine o_v v_assign ?_
   refine o_end (k13 _ _ ?_)
   refine s_seq fun _ k14 => ?_
   refine s_rseq fun _ k15 => ?_
   refine o_v v_move ?_
   refine o_v (v_len rfl Tryz.underlying151) ?_
   refine o_v v_move ?_
   refine o_end (k15 _ _ ?_)
   refine s_block ?_
   refine s_loop (G := Nat × Value) (fun g => [(11, g.2), (32, I g.1)]) [11, 32] [13, 33, 34, 35, 36, 37, 38, 39, 40, 41, 42, 43, 44, 45] (fun g W => (g.1 ≤ rs.length ∧ Ty.int.Row 3 W (fun k => w5.heap.size ≤ k) g.2 ((rs.take g.1).map fun r => r.2[ll.num.toNat]?.getD 0)) ∧ w5.grownBy W none) (fun g => rs.length - g.1) (fun _ => rfl) (0, .slice none 0 0) ⟨rfl, rfl, trivial⟩ ⟨⟨Nat.zero_le _, Ty.Row.nil _ _ _ _⟩, grown_refl _ _⟩ ?_
   rintro ⟨j, good⟩ jv w6 ⟨⟨hj, hgrow⟩, g6⟩
   simp only at hj hgrow ⊢
   replace G := G.step0 g6; replace hI := hI.step0 g6; replace hX := hX.step0 g6; replace B2 := B2.step0 g6; replace B3 := B3.step0 g6; replace g4 := g4.step0 g6; replace B10 := B10.step0 g6
   replace hrow := hrow.step0 g6; have hrow6 := hrow; have hs36 := g4.size
   refine s_rseq fun _ k16 => ?_
   refine o_v (v_lss rfl rfl) ?_
   refine o_end (k16 _ _ ?_)
   refine s_seq fun _ k17 => ?_
   refine s_ifd rfl (fun c17 => ?_) (fun c17 => ?_)
   ·have hjlt : j < rs.length := by omega
    obtain ⟨br, or_, cr, rfl, _, hrepr, hrgr⟩ := (has.step0 g6).get j hjlt
    obtain ⟨mA, mc, rfl, hm1, hm2, hmean⟩ := readT_iff.1 hrepr
    rw [readT_sz] at hrgr
    have hro := (hrok _ (List.getElem_mem hjlt)).len
    refine s_skip ?_
    refine k17 _ _ ?_
    refine s_seq fun _ k18 => ?_
    refine s_block ?_
    refine s_rseq fun _ k19 => ?_
    refine o_v (v_index rfl rfl slt151 (by omega)) ?_
    refine o_v (v_loadR rfl ag155 hrgr rfl) ?_
    refine o_allocst ze155 rfl rfl rfl sz155 rfl rfl rfl ?_; intro w7 B13 g7 z7
    replace G := G.step0 g7; replace hI := hI.step0 g7; replace hX := hX.step0 g7; replace B2 := B2.step0 g7; replace B3 := B3.step0 g7; replace g4 := g4.step0 g7; replace B10 := B10.step0 g7; replace g6 := g6.step0 g7
    replace hrow := hrow.step0 g7; replace hgrow := hgrow.step0 g7; replace hmean := hmean.step0 g7
    obtain ⟨bm, om, rfl, hcm⟩ := hmean.int ll.num.toNat (by omega)
    have hgv : rs[j].2[ll.num.toNat]?.getD 0 = rs[j].2[ll.num.toNat]'(by omega) := by rw [List.getElem?_eq_getElem (by omega)]; rfl
    rw [← hgv] at hcm
    refine o_end (k19 _ _ ?_)
    refine s_region ?_
    refine o_v v_move ?_
    refine o_v (v_field rfl fld155_1) ?_
    refine o_v (v_loadB rfl sc56 B13 rfl) ?_
    refine o_v (v_field rfl fld67_0) ?_
    refine o_v (v_loadB rfl sc3 B10 rfl) ?_
    refine o_v (v_index rfl rfl slt56 (by omega)) ?_
    refine o_v (v_loadC rfl sc3 hcm) ?_
    refine o_bslice rfl (fun W => bls56_1 W) ?_; intro w8 B43 g8 z8
    replace G := G.step0 g8; replace hI := hI.step0 g8; replace hX := hX.step0 g8; replace B2 := B2.step0 g8; replace B3 := B3.step0 g8; replace g4 := g4.step0 g8; replace B10 := B10.step0 g8; replace g6 := g6.step0 g8; replace B13 := B13.step0 g8
    replace hrow := hrow.step0 g8; replace hgrow := hgrow.step0 g8
    refine o_append1 (t := Ty.int) (p := rs[j].2[ll.num.toNat]?.getD 0) rfl rfl hgrow B43 Tryz.underlying56 info3 rfl rfl (fun k hk => by have := g6.size; omega) (by simp; omega) (by decide) ?_
    intro good' w9 hgrow9 g9 hat
    have hge : ∀ k, good.ownBlock = some k → w5.heap.size ≤ k := fun k hk => hgrow.1 k hk
    have G9 : w5.grownBy w9 none := ⟨g9.os.trans g6.os, g9.tape.trans g6.tape, g9.output.trans g6.output, Nat.le_trans g6.size g9.size, fun k hk _ => (g9.block k (Nat.lt_of_lt_of_le hk g6.size) (fun e => by have := hge k e.symm; omega)).trans (g6.block k hk (by simp))⟩
    refine o_v v_assign ?_
    refine o_end ?_
    refine k18 _ _ ?_
    refine s_region ?_
    refine o_v (v_add rfl rfl (by omega)) ?_
    refine o_v v_move ?_
    refine o_end ?_
    refine mid (j + 1, good') ?_ ?_ ?_
    ·repeat (first | exact off_refl | refine off_cons rfl ?_)
    ·exact ⟨rfl, rfl, trivial⟩
    ·refine ⟨⟨⟨hjlt, ?_⟩, G9⟩, by simp only; omega⟩
     rw [List.take_succ_eq_append_getElem hjlt, List.map_append]
     exact hgrow9
   ·obtain rfl : j = rs.length := by omega
    rw [List.take_length] at hgrow
    obtain ⟨oA, oc, hov, _, _, hos⟩ := hgrow.reads
    rw [List.length_map] at hov
    subst hov
    have hcall := f91_calls (S := fun k => w6.heap.size ≤ k) oA oc (rs.map fun r => r.2[ll.num.toNat]?.getD 0) w6 hos (by rw [List.length_map]; omega) (fun k hk => hk)
    rw [List.length_map] at hcall
    refine s_exit ?_
    refine k14 _ _ ?_
    refine s_region ?_
    refine o_v v_move ?_
    refine o_v v_move ?_
    refine o_call rfl rfl ent91 hcall ?_; rintro _ w9 ⟨lv, rfl, hlv, _, g9⟩; refine ⟨_, rfl, ?_⟩
    obtain ⟨lvA, lvc, hlve, hlv1, hlv2, hlv3⟩ := hlv.reads
    subst hlve
    replace G := G.step0 g9; replace hI := hI.step0 g9; replace hX := hX.step0 g9; replace B2 := B2.step0 g9; replace B3 := B3.step0 g9; replace g4 := g4.step0 g9; replace B10 := B10.step0 g9; replace g6 := g6.step0 g9
    replace hrow := hrow.step0 g9
    refine o_bslice rfl (fun W => bls33_1 W) ?_; intro w10 B49 g10 z10
    replace G := G.step0 g10; replace hI := hI.step0 g10; replace hX := hX.step0 g10; replace B2 := B2.step0 g10; replace B3 := B3.step0 g10; replace g4 := g4.step0 g10; replace B10 := B10.step0 g10; replace g6 := g6.step0 g10
    replace hrow := hrow.step0 g10; replace hlv3 := hlv3.step0 g10
    have hge : ∀ k, out.ownBlock = some k → w3.heap.size ≤ k ∧ k < w6.heap.size := fun k hk => ⟨hrow.1 k hk, by
     obtain ⟨_, inner, ho, _⟩ := hrow6
     exact Ty.own_lt ho k hk⟩
    refine o_append1 (t := Ty.int.sl) (p := listedL (rs.map fun r => r.2[ll.num.toNat]?.getD 0)) rfl rfl hrow B49 Tryz.underlying33 info56 rfl ⟨lvA, lvc, rfl, hlv1, hlv2, hlv3.mono fun k hk => ⟨by have := g4.size; have := g6.size; omega, fun e => by have := (hge k e.symm).2; omega⟩⟩ (fun k hk => by have := g4.size; have := g6.size; omega) (by simp; omega) (by decide) ?_
    intro out' w11 hrow11 g11 hat
    have G11 : w3.grownBy w11 none := ⟨g11.os.trans g4.os, g11.tape.trans g4.tape, g11.output.trans g4.output, Nat.le_trans g4.size g11.size, fun k hk _ => (g11.block k (Nat.lt_of_lt_of_le hk g4.size) (fun e => by have := (hge k e.symm).1; omega)).trans (g4.block k hk (by simp))⟩
    refine o_v v_assign ?_
    refine o_end ?_
    refine k11 _ _ ?_
    refine s_region ?_
    refine o_v (v_add rfl rfl (by omega)) ?_
    refine o_v v_move ?_
    refine o_end ?_
    refine mid (g + 1, out') ?_ ?_ ?_
    ·repeat (first | exact off_refl | refine off_cons rfl ?_)
    ·exact ⟨rfl, rfl, trivial⟩
    ·refine ⟨⟨⟨hlt, ?_⟩, G11⟩, by simp only; omega⟩
     rw [List.take_succ_eq_append_getElem hlt, List.map_append, List.map_singleton, ← hlle]
     exact hrow11
  ·refine s_exit ?_
   refine k7 _ _ ?_
   refine s_rseq fun _ k20 => ?_
   refine o_v v_move ?_
   refine o_v v_assign ?_
   refine o_v v_assign ?_
   refine o_end (k20 _ _ ?_)
   refine s_ret (post2 rfl ?_)
   obtain rfl : g = x.lets.length := by omega
   rw [List.take_length] at hrow
   refine ⟨out, congrArg (fun z => Ending.returned (.tuple #[out, I z])) he0.symm, ?_, G⟩
   unfold readsQ
   rw [if_pos he0, ← hrs]
   exact hrow.mono fun k hk => by have := g1.size; have := g2.size; have := g3.size; omega
theorem f36_calls {S T : Nat → Prop} (b : Book) (gA : Option Addr) (gc : Nat) (eA : Option Addr) (ec : Nat) (x : Buyer) (lA : Option Addr) (lc : Nat) (w : World) (hI : BookIn w S b gA gc eA ec) (hX : BuyIn w T x lA lc) :
  Calls Tryz.prog 36 #[.agg (b.cells gA gc eA ec).toArray, .agg (x.cells lA lc).toArray] w fun e w' => ∃ v, e = .returned (.tuple #[v, I (lettersE b x)]) ∧ Ty.int.Row 3 w' (fun k => w.heap.size ≤ k) v (whichQ b x) ∧ w.grownBy w' none := by
 refine s_enter (n := 34) Tryz.func36 rfl rfl rfl ?_
 have G := grown_refl w none
 refine s_rseq fun _ k1 => ?_
 refine o_box (t := 25) rfl ?_; intro w1 B2 g1 z1
 replace G := G.step0 g1; replace hI := hI.step0 g1; replace hX := hX.step0 g1
 refine o_box (t := 47) rfl ?_; intro w2 B3 g2 z2
 replace G := G.step0 g2; replace hI := hI.step0 g2; replace hX := hX.step0 g2; replace B2 := B2.step0 g2
 refine o_v v_assign ?_
 refine o_v v_assign ?_
 refine o_end (k1 _ _ ?_)
 refine s_rseq fun _ k2 => ?_
 refine o_v (v_loadBS rfl ag25 B2 rfl rfl) ?_
 refine o_v (v_loadBS rfl ag47 B3 rfl rfl) ?_
 refine o_call rfl rfl ent90 (f90_calls b gA gc eA ec x lA lc _ hI hX) ?_; rintro _ w3 ⟨av, rfl, hav, g3⟩; refine ⟨_, rfl, ?_⟩
 replace G := G.step0 g3; replace hI := hI.step0 g3; replace hX := hX.step0 g3; replace B2 := B2.step0 g3; replace B3 := B3.step0 g3
 refine o_v v_move ?_
 refine o_v (v_extract rfl rfl) ?_
 refine o_v (v_extract rfl rfl) ?_
 refine o_v v_assign ?_
 refine o_v v_assign ?_
 refine o_end (k2 _ _ ?_)
 refine s_seq fun _ k3 => ?_
 refine s_rseq fun _ k4 => ?_
 refine o_v v_move ?_
 refine o_v (v_neq rfl rfl) ?_
 refine o_end (k4 _ _ ?_)
 refine s_ifd rfl (fun c4 => ?_) (fun c4 => ?_)
 ·refine s_rseq fun _ k5 => ?_
  refine o_v v_move ?_
  refine o_v v_assign ?_
  refine o_v v_assign ?_
  refine o_end (k5 _ _ ?_)
  refine s_ret (post2 rfl ?_)
  refine ⟨_, rfl, ?_, G⟩
  unfold whichQ
  rw [if_neg (by exact c4)]
  exact Ty.Row.nil _ _ _ _
 ·have he0 : lettersE b x = 0 := by
   apply Classical.byContradiction
   exact c4
  obtain ⟨hok, hbuy, hne⟩ := lettersE_ok he0
  obtain ⟨hfew, hrok⟩ := letters_ok he0
  have hgd := Book.ok_goods hok
  have hbo := buy_ok hbuy
  obtain ⟨rs, hrs⟩ : ∃ rs, rs = lettersL b x := ⟨_, rfl⟩
  unfold lettersQ at hav
  rw [if_pos he0, ← hrs] at hav
  rw [← hrs] at hfew hrok
  obtain ⟨aA, ac, hae, _, _, has⟩ := hav.reads
  subst hae
  refine s_skip ?_
  refine k3 _ _ ?_
  refine s_rseq fun _ k6 => ?_
  refine o_v v_assign ?_
  refine o_end (k6 _ _ ?_)
  refine s_seq fun _ k7 => ?_
  refine s_rseq fun _ k8 => ?_
  refine o_v v_move ?_
  refine o_v (v_len rfl Tryz.underlying151) ?_
  refine o_v v_move ?_
  refine o_end (k8 _ _ ?_)
  refine s_block ?_
  refine s_loop (G := Nat × Value) (fun g => [(8, g.2), (22, I g.1)]) [8, 22] [10, 23, 24, 25, 26, 27, 28, 29, 30, 31] (fun g W => (g.1 ≤ rs.length ∧ Ty.int.Row 3 W (fun k => w3.heap.size ≤ k) g.2 ((rs.take g.1).map fun r => r.1)) ∧ w3.grownBy W none) (fun g => rs.length - g.1) (fun _ => rfl) (0, .slice none 0 0) ⟨rfl, rfl, trivial⟩ ⟨⟨Nat.zero_le _, Ty.Row.nil _ _ _ _⟩, grown_refl _ _⟩ ?_
  rintro ⟨g, out⟩ jv w4 ⟨⟨hk, hrow⟩, g4⟩
  simp only at hk hrow ⊢
  replace G := G.step0 g4; replace hI := hI.step0 g4; replace hX := hX.step0 g4; replace B2 := B2.step0 g4; replace B3 := B3.step0 g4
  refine s_rseq fun _ k9 => ?_
  refine o_v (v_lss rfl rfl) ?_
  refine o_end (k9 _ _ ?_)
  refine s_seq fun _ k10 => ?_
  refine s_ifd rfl (fun c10 => ?_) (fun c10 => ?_)
  ·have hlt : g < rs.length := by omega
   obtain ⟨br, or_, cr, rfl, _, hrepr, hrgr⟩ := (has.step0 g4).get g hlt
   obtain ⟨mA, mc, rfl, hm1, hm2, hmean⟩ := readT_iff.1 hrepr
   rw [readT_sz] at hrgr
   refine s_skip ?_
   refine k10 _ _ ?_
   refine s_seq fun _ k11 => ?_
   refine s_block ?_
   refine s_rseq fun _ k12 => ?_
   refine o_v (v_index rfl rfl slt151 (by omega)) ?_
   refine o_v (v_loadR rfl ag155 hrgr rfl) ?_
   refine o_allocst ze155 rfl rfl rfl sz155 rfl rfl rfl ?_; intro w5 B10 g5 z5
   replace G := G.step0 g5; replace hI := hI.step0 g5; replace hX := hX.step0 g5; replace B2 := B2.step0 g5; replace B3 := B3.step0 g5; replace g4 := g4.step0 g5
   replace hrow := hrow.step0 g5
   refine o_end (k12 _ _ ?_)
   refine s_region ?_
   refine o_v v_move ?_
   refine o_v (v_field rfl fld155_0) ?_
   refine o_v (v_loadB rfl sc3 B10 rfl) ?_
   refine o_bslice rfl (fun W => bls56_1 W) ?_; intro w6 B29 g6 z6
   replace G := G.step0 g6; replace hI := hI.step0 g6; replace hX := hX.step0 g6; replace B2 := B2.step0 g6; replace B3 := B3.step0 g6; replace g4 := g4.step0 g6; replace B10 := B10.step0 g6
   replace hrow := hrow.step0 g6
   refine o_append1 (t := Ty.int) (p := rs[g].1) rfl rfl hrow B29 Tryz.underlying56 info3 rfl rfl (fun k hk => by have := g4.size; omega) (by simp; omega) (by decide) ?_
   intro out' w7 hrow7 g7 hat
   have hge : ∀ k, out.ownBlock = some k → w3.heap.size ≤ k := fun k hk => hrow.1 k hk
   have G7 : w3.grownBy w7 none := ⟨g7.os.trans g4.os, g7.tape.trans g4.tape, g7.output.trans g4.output, Nat.le_trans g4.size g7.size, fun k hk _ => (g7.block k (Nat.lt_of_lt_of_le hk g4.size) (fun e => by have := hge k e.symm; omega)).trans (g4.block k hk (by simp))⟩
   refine o_v v_assign ?_
   refine o_end ?_
   refine k11 _ _ ?_
   refine s_region ?_
   refine o_v (v_add rfl rfl (by omega)) ?_
   refine o_v v_move ?_
   refine o_end ?_
   refine mid (g + 1, out') ?_ ?_ ?_
   ·repeat (first | exact off_refl | refine off_cons rfl ?_)
   ·exact ⟨rfl, rfl, trivial⟩
   ·refine ⟨⟨⟨hlt, ?_⟩, G7⟩, by simp only; omega⟩
    rw [List.take_succ_eq_append_getElem hlt, List.map_append]
    exact hrow7
  ·obtain rfl : g = rs.length := by omega
   rw [List.take_length] at hrow
   obtain ⟨oA, oc, hov, _, _, hos⟩ := hrow.reads
   rw [List.length_map] at hov
   subst hov
   have hcall := f91_calls (S := fun k => w.heap.size ≤ k) oA oc (rs.map fun r => r.1) w4 hos (by rw [List.length_map]; omega) (fun k hk => Nat.le_trans G.size hk)
   rw [List.length_map] at hcall
   refine s_exit ?_
   refine k7 _ _ ?_
   refine s_rseq fun _ k13 => ?_
   refine o_v v_move ?_
   refine o_call rfl rfl ent91 hcall ?_; rintro _ w8 ⟨lv, rfl, hlv, _, g8⟩; refine ⟨_, rfl, ?_⟩
   replace G := G.step0 g8
   refine o_v v_assign ?_
   refine o_v v_assign ?_
   refine o_end (k13 _ _ ?_)
   refine s_ret (post2 rfl ?_)
   refine ⟨lv, congrArg (fun z => Ending.returned (.tuple #[lv, I z])) he0.symm, ?_, G⟩
   unfold whichQ
   rw [if_pos he0, ← hrs]
   exact hlv
end Go.Proofs.NV
namespace Go.Proofs.NV
open Go.RowKit Go.Shelf
attribute [local irreducible] bodyPost bodyPostM wpQuiet
def wrongsL (b : Book) (x : Buyer) : List (List Int) := (readsL (openedL b) x.eds).map fun r => wrongL b r.2 x.lets
def oddQ (b : Book) (x : Buyer) : List Int := if askedE b (b.isBuy x) = 0 then (bestL shorter (wrongsL b x)).getD [] else []
theorem wrongL_len (b : Book) (m : List Int) (ls : List Letter) : (wrongL b m ls).length ≤ ls.length := wrongTo_len b m ls _
theorem nil_rep {w : World} {S : Nat → Prop} : Ty.int.sl.rep w S [] [.slice none 0 0] := ⟨none, 0, rfl, Nat.le_refl _, by unfold maxLen; omega, Ty.Sl.nil _ _ _ _⟩
theorem f42_calls {S T : Nat → Prop} (b : Book) (gA : Option Addr) (gc : Nat) (eA : Option Addr) (ec : Nat) (x : Buyer) (lA : Option Addr) (lc : Nat) (w : World) (hI : BookIn w S b gA gc eA ec) (hX : BuyIn w T x lA lc) :
  Calls Tryz.prog 42 #[.agg (b.cells gA gc eA ec).toArray, .agg (x.cells lA lc).toArray] w fun e w' => ∃ v, e = .returned (.tuple #[v, I (askedE b (b.isBuy x))]) ∧ Ty.int.sl.rep w' (fun k => w.heap.size ≤ k) (oddQ b x) [v] ∧ w.grownBy w' none := by
 refine s_enterM (n := 40) Tryz.func42 rfl rfl rfl ?_
 have G := grown_refl w none
 have hIb := hI.goods.bound
 have hXb := hX.lets.bound
 refine s_rseq fun _ k1 => ?_
 refine o_box (t := 25) rfl ?_; intro w1 B2 g1 z1
 replace G := G.step0 g1; replace hI := hI.step0 g1; replace hX := hX.step0 g1
 refine o_box (t := 47) rfl ?_; intro w2 B3 g2 z2
 replace G := G.step0 g2; replace hI := hI.step0 g2; replace hX := hX.step0 g2; replace B2 := B2.step0 g2
 refine o_v v_assign ?_
 refine o_v v_assign ?_
 refine o_end (k1 _ _ ?_)
 refine s_seq fun _ k2 => ?_
 refine s_anyU 11 [13, 14, 15, 16, 17, 12, 18, 19, 6, 7]
  [[], [], [], [(1, some 14), (2, some 15)], [(0, some 13), (3, some 16)], [(4, some 17)], [(5, some 12)], [(16, some 12)], [], [(8, some 6), (6, some 18)], [(7, some 19)]]
  [(19, some 6), (9, none), (10, some 7)] (fun W => w2.grownBy W none) (fun k W W' => if k = 9 then ∃ b0, w2.heap.size ≤ b0 ∧ W.grownBy W' (some b0) else W.grownBy W' none) [(4, 9), (5, 9), (6, 9), (8, 9)]
  [([], fun _ v _ => v = .agg (b.cells gA gc eA ec).toArray), ([], fun _ v _ => v = .agg (b.cells gA gc eA ec).toArray), ([], fun _ v _ => v = .agg (x.cells lA lc).toArray), ([], fun _ v _ => v = .bool (b.isBuy x)), ([], fun _ v W => ∃ os : List Value, v = .tuple #[.agg os.toArray, I (askedE b (b.isBuy x))] ∧ AskX b gA gc eA ec (b.isBuy x) w2.heap.size os W), ([], fun _ v W => ∃ os : List Value, v = .tuple #[.agg os.toArray, I (askedE b (b.isBuy x))] ∧ AskX b gA gc eA ec (b.isBuy x) w2.heap.size os W), ([], fun _ v W => ∃ os : List Value, v = .agg os.toArray ∧ AskX b gA gc eA ec (b.isBuy x) w2.heap.size os W), ([], fun _ v _ => v = I (askedE b (b.isBuy x))), ([], fun _ v W => ∃ k, v = ptr k ∧ w2.heap.size ≤ k ∧ Blk W k zeroOpen 130), ([6], fun vs _ W => ∃ (k : Nat) (os : List Value), vs = [ptr k] ∧ w2.heap.size ≤ k ∧ Blk W k os 130 ∧ AskX b gA gc eA ec (b.isBuy x) w2.heap.size os W), ([], fun _ v _ => v = I (askedE b (b.isBuy x))),
   ([], fun _ _ _ => True), ([], fun _ _ _ => True), ([], fun _ _ _ => True), ([], fun _ _ _ => True), ([], fun _ v _ => ∃ os : List Value, v = .tuple #[.agg os.toArray, I (askedE b (b.isBuy x))]), ([], fun _ v _ => ∃ os : List Value, v = .tuple #[.agg os.toArray, I (askedE b (b.isBuy x))]), ([], fun _ _ _ => True), ([], fun _ _ _ => True), ([], fun _ v _ => ∃ k, v = ptr k ∧ w2.heap.size ≤ k), ([], fun _ _ _ => True), ([], fun _ _ _ => True)]
  mixed (by kernel_rfl) (by kernel_rfl) (by kernel_rfl) (by kernel_rfl) (by kernel_rfl) g0_drawn ?_ ?_ ?_ ?_
 ·intro k W W' hC hS
  by_cases hk : k = 9
  ·simp only [hk, if_true] at hS
   obtain ⟨b0, h0, g0⟩ := hS
   exact grown_own hC g0 h0
  ·simp only [if_neg hk] at hS
   exact World.grownBy.trans hC hS
 ·intro i k v W W' vs hik hd p hp h hS
  have hst : k ≠ 9 → W.grownBy W' none := fun hk => by simpa only [if_neg hk] using hS
  rcases i with _ | _ | _ | _ | _ | _ | _ | _ | _ | _ | _ | _ | _ | _ | _ | _ | _ | _ | _ | _ | _ | _ | i
  ·cases hp; exact h
  ·cases hp; exact h
  ·cases hp; exact h
  ·cases hp; exact h
  ·cases hp; obtain ⟨os, h1, h2⟩ := h; exact ⟨os, h1, h2.step0 (hst (by rintro rfl; simp at hd))⟩
  ·cases hp; obtain ⟨os, h1, h2⟩ := h; exact ⟨os, h1, h2.step0 (hst (by rintro rfl; simp at hd))⟩
  ·cases hp; obtain ⟨os, h1, h2⟩ := h; exact ⟨os, h1, h2.step0 (hst (by rintro rfl; simp at hd))⟩
  ·cases hp; exact h
  ·cases hp; obtain ⟨b0, h1, h2, h3⟩ := h; exact ⟨b0, h1, h2, h3.step0 (hst (by rintro rfl; simp at hd))⟩
  ·cases hp; obtain ⟨b0, os, h1, h2, h3, h4⟩ := h; have hg := hst (fun e => hik e.symm); exact ⟨b0, os, h1, h2, h3.step0 hg, h4.step0 hg⟩
  ·cases hp; exact h
  ·cases hp; exact h
  ·cases hp; exact h
  ·cases hp; exact h
  ·cases hp; exact h
  ·cases hp; exact h
  ·cases hp; exact h
  ·cases hp; exact h
  ·cases hp; exact h
  ·cases hp; exact h
  ·cases hp; exact h
  ·cases hp; exact h
  ·simp at hp
 ·refine ⟨?_, ?_, ?_, ?_, ?_, ?_, ?_, ?_, ?_, ?_, ?_, trivial⟩
  ·intro jv W hC
   exact o_v (v_loadBS rfl ag25 (B2.step0 hC) rfl rfl) (o_end (opD_done (grown_refl _ _) ⟨rfl, trivial⟩))
  ·intro jv W hC
   exact o_v (v_loadBS rfl ag25 (B2.step0 hC) rfl rfl) (o_end (opD_done (grown_refl _ _) ⟨rfl, trivial⟩))
  ·intro jv W hC
   exact o_v (v_loadBS rfl ag47 (B3.step0 hC) rfl rfl) (o_end (opD_done (grown_refl _ _) ⟨rfl, trivial⟩))
  ·rintro jv W hC _ rfl _ rfl
   refine o_call rfl rfl ent94 (f94_calls b gA gc eA ec x lA lc W (hI.step0 hC) (hX.step0 hC)) ?_
   rintro _ wa ⟨rfl, ga⟩
   exact ⟨_, rfl, o_end (opD_done ga ⟨rfl, trivial⟩)⟩
  ·rintro jv W hC _ rfl _ rfl
   refine o_call rfl rfl ent78 (f78_ask b gA gc eA ec (b.isBuy x) W (hI.step0 hC)) ?_
   rintro _ wa ⟨os, rfl, ga, hax⟩
   have hax := hax.mono hC.size
   exact ⟨_, rfl, o_end (opD_done ga ⟨⟨os, rfl, hax⟩, ⟨os, rfl⟩⟩)⟩
  ·rintro jv W hC _ ⟨os, rfl, h2⟩
   exact o_v v_move (o_end (opD_done (grown_refl _ _) ⟨⟨os, rfl, h2⟩, ⟨os, rfl⟩⟩))
  ·rintro jv W hC _ ⟨os, rfl, h2⟩
   exact o_v (v_extract rfl rfl) (o_end (opD_done (grown_refl _ _) ⟨⟨os, rfl, h2⟩, trivial⟩))
  ·rintro jv W hC _ ⟨os, rfl⟩
   exact o_v (v_extract rfl rfl) (o_end (opD_done (grown_refl _ _) ⟨rfl, trivial⟩))
  ·rintro jv W hC
   refine o_alloc (t := 130) ze130 rfl ?_; intro wa Ba ga za
   exact o_end (opD_done ga ⟨⟨_, rfl, hC.size, Ba⟩, ⟨_, rfl, hC.size⟩⟩)
  ·rintro jv W hC _ ⟨b0, rfl, hb0, B0⟩ _ ⟨os, rfl, hax⟩
   refine o_storeB (vs := os) rfl rfl sz130 hax.five.1 B0 (by rw [hax.five.1]; rfl) hax.five.2 ?_; intro wa Ba ga za
   rw [over_all (cs := zeroOpen) (vs := os) hax.five.1.symm] at Ba
   exact o_end (opD_none ⟨b0, hb0, ga⟩ ⟨⟨b0, os, rfl, hb0, Ba, hax.off B0 ga⟩, trivial⟩)
  ·rintro jv W hC _ rfl
   exact o_v v_assign (o_end (opD_done (grown_refl _ _) ⟨rfl, trivial⟩))
 ·rintro jv w6 Gw6 _ ⟨b0, rfl, hb0⟩ ⟨b1, os, hb1, hb2, B6, hax⟩ _ rfl
  obtain rfl : b1 = b0 := by simpa [rd] using hb1.symm
  refine o_end (k2 _ _ ?_)
  replace hI := hI.step0 Gw6; replace hX := hX.step0 Gw6; replace B2 := B2.step0 Gw6; replace B3 := B3.step0 Gw6; replace G := G.step0 Gw6
  have h6lt := B6.lt
  refine s_seq fun _ k3 => ?_
  refine s_rseq fun _ k4 => ?_
  refine o_v v_move ?_
  refine o_v (v_neq rfl rfl) ?_
  refine o_end (k4 _ _ ?_)
  refine s_ifd rfl (fun c4 => ?_) (fun c4 => ?_)
  ·refine s_rseq fun _ k5 => ?_
   refine o_v v_move ?_
   refine o_v v_assign ?_
   refine o_v v_assign ?_
   refine o_end (k5 _ _ ?_)
   refine s_ret (postM (Ds := []) List.nodup_nil (fun _ h => by cases h) fun W2 z2 f2 => ⟨_, res_tt rfl, ?_⟩)
   refine ⟨_, rfl, ?_, G.step0 (Fr.g0 (f2.mono fun _ _ h => by cases h))⟩
   unfold oddQ
   rw [if_neg (by exact c4)]
   exact nil_rep
  ·have he0 : askedE b (b.isBuy x) = 0 := by
    apply Classical.byContradiction
    exact c4
   obtain ⟨pA, pc, rfl, hsl, hpl, hpm⟩ := hax.good he0
   obtain ⟨hok, hbuy, h00⟩ := asked_ok he0
   have hgd := Book.ok_goods hok
   have hbo := buy_ok hbuy
   have hol := openedL_len b
   replace hsl := hsl.bound
   obtain ⟨all, hall⟩ : ∃ all, all = readsL (openedL b) x.eds := ⟨_, rfl⟩
   have hfew := reads_few hok x.eds
   rw [← hall] at hfew
   refine s_skip ?_
   refine k3 _ _ ?_
   refine s_rseq fun _ k6 => ?_
   refine o_alloc (t := 33) ze33 rfl ?_; intro w7 B8 g7 z7
   replace hsl := hsl.step0 g7
   replace G := G.step0 g7; replace hI := hI.step0 g7; replace hX := hX.step0 g7; replace B2 := B2.step0 g7; replace B3 := B3.step0 g7; replace B6 := B6.step0 g7
   refine o_end (k6 _ _ ?_)
   refine s_seq fun _ k7 => ?_
   refine s_rseq fun _ k8 => ?_
   refine o_v (v_loadBS rfl ag130 B6 rfl rfl) ?_
   refine o_v (v_loadBS rfl ag47 B3 rfl rfl) ?_
   refine o_call rfl rfl ent95 (f95_calls (opCells (.slice gA b.goods.length gc) (I b.ed) (I b.mv) (.slice eA b.ents.length ec) pA (openedL b).length pc) rfl rfl x lA lc w7) ?_; rintro _ w8 ⟨b1, b2, rfl, C1, C2, hb1, hb2, g8⟩; refine ⟨_, rfl, ?_⟩
   replace G := G.step0 g8; replace hI := hI.step0 g8; replace hX := hX.step0 g8; replace B2 := B2.step0 g8; replace B3 := B3.step0 g8; replace B6 := B6.step0 g8; replace B8 := B8.step0 g8
   replace hsl := hsl.step0 g8
   refine o_end (k8 _ _ ?_)
   refine s_block ?_
   have hgives := gives_reads (openedL b) (by omega) (fun i => Nat.le_trans (opened_few hok i) (by decide)) x.eds (by omega) b1 b2 _ _ _ _ _ pA pc w8 C1 C2 hsl
   rw [← hall] at hgives
   have hk8 : ∀ k, IsC w6 k → k ≠ w6.heap.size := fun k hk e => by have := hk.lt; omega
   refine s_rangeFuncS (k := 2) (cap := [ptr b1, ptr b2]) rfl rfl rfl ze155 rfl sz155 rfl ent142 hgives (fun i M W => Kept Ty.int.sl w6.heap.size 33 56 (fun k => w.heap.size ≤ k) ((all.take i).map fun r => wrongL b r.2 x.lets) M W) (fun k => k = w6.heap.size) ?_ ?_ ?_ ?_ (Kept.init B8) ?_ ?_
   ·rintro k rfl
    refine ⟨B8.isC, ?_⟩
    rintro (h | h | h)
    ·omega
    ·omega
    ·exact hk8 _ h.1.2 rfl
   ·intro i M W W' h F
    exact h.fz F
   ·rintro i v M W W' ⟨A, c, r, h1, h2, h3, h4, h5⟩ F
    exact ⟨A, c, r, h1, h2, h3, h4, h5.fz F⟩
   ·rintro i v M W ⟨A, c, r, h1, rfl, _⟩
    exact ⟨rfl, rfl⟩
   ·rintro l i v b9 M W hi hK ⟨A, c, r, hri, rfl, hc1, hc2, hsl2⟩ B9 hM9 hb9 hfr hMc
    replace hsl2 : Ty.int.Sl W (fun k => w.heap.size ≤ k ∧ ¬ M k) A r.2 := hsl2.mono fun k hk => ⟨by have := hk.1.1; have := g1.size; have := g2.size; omega, hk.2⟩
    have hri' : all[i] = r := by rw [List.getElem?_eq_getElem hi] at hri; injection hri
    have hro : ReadOk b x.eds r := reads_ok hok (by rw [← hall]; exact List.mem_of_getElem? hri)
    have hrl := hro.len
    have D6 := B6.fr hfr (fun h => by omega)
    have D3 := B3.fr hfr (fun h => by have := z2; have := Gw6.size; omega)
    have hlow := Gw6.size
    have hGW := (hIb.step0 G).fr hfr (fun k hk e => by have := hk.2.lt; omega)
    have hXW : BuyIn W _ x lA lc := ⟨(hXb.step0 G).fr hfr (fun k hk e => by have := hk.2.lt; omega), hX.ll⟩
    have hcall : ∀ W', W.grownBy W' none → Calls Tryz.prog 96 #[.agg (opCells (.slice gA b.goods.length gc) (I b.ed) (I b.mv) (.slice eA b.ents.length ec) pA (openedL b).length pc).toArray, .agg (x.cells lA lc).toArray, .agg #[I r.1, .slice A r.2.length c]] W' fun e w' => ∃ v, e = .returned v ∧ Ty.int.Row 3 w' (fun k => W'.heap.size ≤ k) v (wrongL b r.2 x.lets) ∧ W'.grownBy w' none := fun W' hg => f96_calls b gA gc eA ec (.slice pA (openedL b).length pc) x lA lc r.1 A r.2 c W' rfl (hGW.step0 hg) (hXW.step0 hg) (hsl2.step0 hg) (fun y hy => by rw [hrl.1]; exact (hbo.2.2.2 y hy).1) hrl.2 (by omega) hI.gl.1 hc1
    have hwl := wrongL_len b r.2 x.lets
    obtain ⟨ov, hM, KB, hrow⟩ := hK
    refine s_block ?_
    refine s_anyD 6 [27, 28, 29, 30, 31, 32] [[], [], [], [], [(1, some 28), (2, some 29), (3, some 30)], [(4, some 31)]] [(0, some 27), (5, some 32)] (fun W' => W.grownBy W' none) (fun _ => G0) []
     [([], fun _ v _ => v = ov), ([], fun _ v _ => v = .agg (opCells (.slice gA b.goods.length gc) (I b.ed) (I b.mv) (.slice eA b.ents.length ec) pA (openedL b).length pc).toArray), ([], fun _ v _ => v = .agg (x.cells lA lc).toArray), ([], fun _ v _ => v = .agg #[I r.1, .slice A r.2.length c]),
      ([], fun _ v W' => Ty.int.Row 3 W' (fun k => W.heap.size ≤ k) v (wrongL b r.2 x.lets)),
      ([], fun _ v W' => ∃ k vA vc, v = .slice (some ⟨k, 0, none⟩) 1 1 ∧ Blk W' k [.slice vA (wrongL b r.2 x.lets).length vc] 56 ∧ (wrongL b r.2 x.lets).length ≤ vc ∧ vc ≤ maxLen ∧ Ty.int.Sl W' (fun k => W.heap.size ≤ k) vA (wrongL b r.2 x.lets))]
     mixed (by kernel_rfl) (by kernel_rfl) (by kernel_rfl) (by kernel_rfl) (by kernel_rfl) g0_drawn ?_ ?_ ?_ ?_
    ·intro k W1 W2 hC hS
     exact World.grownBy.trans hC hS
    ·intro i k v W1 W2 vs hik hd p hp h hS
     rcases i with _ | _ | _ | _ | _ | _ | i
     ·cases hp; exact h
     ·cases hp; exact h
     ·cases hp; exact h
     ·cases hp; exact h
     ·cases hp; exact Ty.Row.step0 h hS
     ·cases hp; obtain ⟨k, vA, vc, h1, h2, h3, h4, h5⟩ := h; exact ⟨k, vA, vc, h1, h2.step0 hS, h3, h4, h5.step0 hS⟩
     ·simp at hp
    ·refine ⟨?_, ?_, ?_, ?_, ?_, ?_, trivial⟩
     ·intro jv W' hC
      exact o_v (v_loadB rfl sc33 (KB.step0 hC) rfl) (o_end (opD_done (grown_refl _ _) rfl))
     ·intro jv W' hC
      exact o_v (v_loadBS rfl ag130 (D6.step0 hC) rfl rfl) (o_end (opD_done (grown_refl _ _) rfl))
     ·intro jv W' hC
      exact o_v (v_loadBS rfl ag47 (D3.step0 hC) rfl rfl) (o_end (opD_done (grown_refl _ _) rfl))
     ·intro jv W' hC
      exact o_v (v_loadBS rfl ag155 (B9.step0 hC) rfl rfl) (o_end (opD_done (grown_refl _ _) rfl))
     ·rintro jv W' hC _ rfl _ rfl _ rfl
      refine o_call rfl rfl ent96 (hcall W' hC) ?_
      rintro _ wa ⟨v, rfl, hv, ga⟩
      exact ⟨_, rfl, o_end (opD_done ga (hv.mono fun k hk => Nat.le_trans hC.size hk))⟩
     ·rintro jv W' hC v hv
      obtain ⟨vA, vc, rfl, hv1, hv2, hv3⟩ := Ty.Row.reads hv
      refine o_bslice rfl (fun W => bls33_1 W) ?_; intro wb Bb gb zb
      exact o_end (opD_done gb ⟨_, vA, vc, rfl, Bb, hv1, hv2, hv3.step0 gb⟩)
    ·rintro jv W' hC _ rfl _ ⟨k, vA, vc, rfl, Bb, hv1, hv2, hv3⟩
     have hMc' : ∀ k, M k → IsC W k := fun k hk => (hMc k hk).1
     have Ta := Turn.grown hMc' hC
     replace KB := KB.step0 hC;
     have hrowW := hrow.step0 hC
     have hlen : ((all.take i).map fun r => wrongL b r.2 x.lets).length ≤ 360 := by rw [List.length_map, List.length_take]; omega
     refine o_append1 (t := Ty.int.sl) (p := wrongL b r.2 x.lets) rfl rfl hrowW Bb Tryz.underlying33 info56 rfl ⟨vA, vc, rfl, hv1, hv2, hv3.mono fun k hk => ⟨⟨by have := G.size; have := hfr.size; omega, fun e => by have := B8.lt; have := hfr.size; omega⟩, fun e => by
      obtain ⟨_, inner, ho, _⟩ := hrow
      have := Ty.own_lt ho k e.symm
      omega⟩⟩ (fun k hk => by
      have := G.size; have := hfr.size; have := hC.size; have := g7.size; have := g8.size
      have := B8.lt
      exact ⟨by omega, by omega⟩) (by omega) (by decide) ?_
     intro ov' wc hrow' gcc hat
     obtain ⟨oA, on, oc, hov⟩ := hrow'.one
     have KB' := KB.step gcc (fun e => (hrow.1 _ e.symm).2 rfl)
     refine o_storeB (vs := [ov']) rfl (by rw [hov]; rfl) sz33 rfl KB' rfl (by rw [hov]; rfl) ?_
     intro wd Bd gd zd
     obtain ⟨M', hK', T'⟩ := Kept.add hM hrow' gcc hat Bd gd
     refine o_end ⟨rfl, M', ?_, Ta.trans T'⟩
     rw [List.take_succ_eq_append_getElem hi, List.map_append, List.map_singleton, hri']
     exact hK'
   ·intro D M W hD hK hfr hDd
    rw [List.take_of_length_le (by omega)] at hK
    have hflt : (all.map fun r => wrongL b r.2 x.lets) = wrongsL b x := by unfold wrongsL; rw [hall]
    rw [hflt] at hK
    obtain ⟨ov, hM, KB, hrow⟩ := hK
    obtain ⟨oA, oc, hov, _, _, hos⟩ := hrow.reads
    subst hov
    have hwn : (wrongsL b x).length ≤ 360 := by rw [← hflt, List.length_map]; exact hfew
    have hwm : ∀ y ∈ wrongsL b x, y.length ≤ 1000000 := by
     intro y hy
     unfold wrongsL at hy
     obtain ⟨r, _, rfl⟩ := List.mem_map.1 hy
     have := wrongL_len b r.2 x.lets
     omega
    have hend : ∀ W1 W2, W.grownBy W1 none → Fr (fun k => k ∈ [D]) W1 W2 → w.grownBy W2 none := fun W1 W2 g1 f2 => by
     have hs8 := G.size
     have hs9 := hfr.size
     have hs10 := g1.size
     refine ⟨f2.os.trans (g1.os.trans (hfr.os.trans G.os)), f2.tape.trans (g1.tape.trans (hfr.tape.trans G.tape)), f2.output.trans (g1.output.trans (hfr.output.trans G.output)), by have := f2.size; omega, fun k hk _ => ?_⟩
     have h1 := f2.same k (by omega) (fun h => by rw [List.mem_singleton] at h; omega)
     have h2 := hfr.same k (by omega) (fun h => by have := Gw6.size; omega)
     exact h1.trans ((g1.block k (by omega) (by simp)).trans (h2.trans (G.block k hk (by simp))))
    refine k7 _ _ ?_
    refine s_rseq fun _ k10 => ?_
    refine o_v (v_loadB rfl sc33 KB rfl) ?_
    refine o_call rfl rfl ent97 (f97_calls shorter 98 ent98 (fun y z A c B d W1 h1 h2 h3 h4 => f98_calls A c y B d z W1 h1 h2 h3 h4) oA oc (wrongsL b x) W hos (by omega) hwm) ?_; rintro _ wa ⟨v, rfl, hbest, hnil, ga⟩; refine ⟨_, rfl, ?_⟩
    refine o_v v_move ?_
    refine o_v (v_extract rfl rfl) ?_
    refine o_v (v_extract rfl rfl) ?_
    refine o_v v_assign ?_
    refine o_v v_assign ?_
    refine o_end (k10 _ _ ?_)
    refine s_rseq fun _ k12 => ?_
    refine o_v v_move ?_
    refine o_v v_assign ?_
    refine o_v v_assign ?_
    refine o_end (k12 _ _ ?_)
    have hDa : wa.heap[D]? = some (.deferred (some [])) := (ga.block D (Array.getElem?_eq_some_iff.1 hDd).1 (by simp)).trans hDd
    refine s_ret (postM (Ds := [D]) (by simp) (fun D' h => by rw [List.mem_singleton] at h; rw [h]; exact hDa) fun W2 z2 f2 => ⟨_, res_tt rfl, ?_⟩)
    refine ⟨v, congrArg (fun z => Ending.returned (.tuple #[v, I z])) he0.symm, ?_, hend wa W2 ga f2⟩
    unfold oddQ
    rw [if_pos he0]
    cases hb : bestL shorter (wrongsL b x) with
    | none =>
     have : wrongsL b x = [] := by
      cases hw : wrongsL b x with
      | nil => rfl
      | cons y ys => rw [hw] at hb; cases hb
     rw [hnil this]
     exact nil_rep
    | some o =>
     exact Ty.hmono _ (fun k hk => hk.1) (Ty.fz (hbest o hb) z2)
end Go.Proofs.NV
