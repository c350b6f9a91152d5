/- Part of the proof: Walks of the small functions of package order: in, moves, isEdition, isNumber, within, has; slices.Index, Contains; IndexFunc, ContainsFunc at each of their instances.. -/
import Derived.Test.YtbjnjlgeendakaaGreatDoorKb3
set_option linter.unusedVariables false
set_option maxRecDepth 100000
set_option linter.unusedSimpArgs false
namespace Go.Proofs.NV
open Go.RowKit Go.Shelf
attribute [local irreducible] bodyPost
def inB (x lo hi : Int) : Bool := decide (lo ≤ x ∧ x ≤ hi)
theorem f100_calls (x lo hi : Int) (w : World) :
  Calls Tryz.prog 100 #[.int .i64 x, .int .i64 lo, .int .i64 hi] w fun e w' => e = .returned (.bool (inB x lo hi)) ∧ w.grownBy w' none := by
 refine s_enter (n := 15) Tryz.func100 rfl rfl rfl ?_
 have G := grown_refl w none
 refine s_rseq fun _ k1 => ?_
 refine o_v v_assign ?_
 refine o_end (k1 _ _ ?_)
 refine s_rseq fun _ k2 => ?_
 refine o_v v_move ?_
 refine o_v v_move ?_
 refine o_v (v_geq rfl rfl) ?_
 refine o_v v_move ?_
 refine o_mid (G := Unit) 4 (fun _ => [(14, .bool ((decide (lo ≤ x)) && (decide (x ≤ hi))))]) [14] [11, 12, 13] (fun _ w' => w.grownBy w' none) (fun _ => rfl) ?_ ?_
 ·have H1 := grown_refl w none
  rcases Bool.eq_false_or_eq_true ((decide (lo ≤ x))) with hX1 | hX1
  ·refine g_yes rfl rfl rfl hX1 ?_
   refine o_v v_move ?_
   refine g_yes rfl rfl rfl hX1 ?_
   refine o_v v_move ?_
   refine g_yes rfl rfl rfl hX1 ?_
   refine o_v (v_leq rfl rfl) ?_
   refine o_v (v_pick_t rfl hX1) ?_
   refine o_end (mid () ?_ ?_ ?_)
   ·repeat (first | exact off_refl | refine off_cons rfl ?_)
   ·exact ⟨by rw [hX1]; rfl, trivial⟩
   ·exact H1
  ·refine g_no rfl rfl rfl hX1 ?_
   refine g_no rfl rfl rfl hX1 ?_
   refine g_no rfl rfl rfl hX1 ?_
   refine o_v (v_pick_f rfl hX1) ?_
   refine o_end (mid () ?_ ?_ ?_)
   ·repeat (first | exact off_refl | refine off_cons rfl ?_)
   ·exact ⟨by rw [hX1]; rfl, trivial⟩
   ·exact H1
 ·rintro _ jv w1 g1
  replace G := G.step0 g1
  refine o_v v_assign ?_
  refine o_end (k2 _ _ ?_)
  refine s_ret (post1 rfl ?_)
  exact ⟨ret_bool (by simp [inB]), G⟩
def movesL : List Int → List Int → Nat
 | a :: l, b :: m => (if a = b then 0 else 1) + movesL l m
 | _, _ => 0
theorem movesL_snoc (l m : List Int) (a b : Int) (h : l.length = m.length) : movesL (l ++ [a]) (m ++ [b]) = movesL l m + if a = b then 0 else 1 := by
 induction l generalizing m with
 | nil => cases m with | nil => simp [movesL] | cons => cases h
 | cons x l ih =>
  cases m with
  | nil => cases h
  | cons y m =>
   simp only [List.cons_append, movesL]
   rw [ih m (by simpa using h)]
   omega
theorem movesL_le (l m : List Int) : movesL l m ≤ l.length := by
 induction l generalizing m with
 | nil => simp [movesL]
 | cons x l ih =>
  cases m with
  | nil => simp [movesL]
  | cons y m =>
   have := ih m
   simp only [movesL, List.length_cons]
   split <;> omega
theorem f129_calls {S T : Nat → Prop} (A B : Option Addr) (c c' : Nat) (xs ys : List Int) (w : World) (hx : Ty.int.Sl w S A xs) (hy : Ty.int.Sl w T B ys) (hl : xs.length = ys.length) (hm : xs.length ≤ 9223372036854775807) :
  Calls Tryz.prog 129 #[.slice A xs.length c, .slice B ys.length c'] w fun e w' => e = .returned (.int .i64 (movesL xs ys)) ∧ w.grownBy w' none := by
 refine s_enter (n := 25) Tryz.func129 rfl rfl rfl ?_
 have G := grown_refl w none; obtain ⟨w0, hw0⟩ : ∃ w0, w0 = w := ⟨_, rfl⟩; subst hw0
 refine s_rseq fun _ k1 => ?_
 refine o_v v_assign ?_
 refine o_end (k1 _ _ ?_)
 refine s_rseq fun _ k2 => ?_
 refine o_v v_assign ?_
 refine o_end (k2 _ _ ?_)
 refine s_seq fun _ k3 => ?_
 refine s_rseq fun _ k4 => ?_
 refine o_v v_move ?_
 refine o_v (v_len rfl Tryz.underlying56) ?_
 refine o_v v_move ?_
 refine o_end (k4 _ _ ?_)
 refine s_block ?_
 refine s_loop (G := Nat) (fun g => [(5, .int .i64 (movesL (xs.take g) (ys.take g))), (9, .int .i64 g)]) [5, 9] [6, 10, 11, 12, 13, 14, 15, 16, 17, 18, 19, 20, 21, 22, 23] (fun g w => g ≤ xs.length ∧ w0.grownBy w none) (fun g => xs.length - g) (fun _ => rfl) 0 ⟨rfl, rfl, trivial⟩ ⟨Nat.zero_le _, grown_refl _ _⟩ ?_
 rintro k jv w ⟨hk, G⟩
 refine s_rseq fun _ k5 => ?_
 refine o_v (v_lss rfl rfl) ?_
 refine o_end (k5 _ _ ?_)
 refine s_seq fun _ k6 => ?_
 refine s_ifd rfl (fun c6 => ?_) (fun c6 => ?_)
 ·have hlt : k < xs.length := by omega
  obtain ⟨bx, ox, rfl, cx⟩ := (hx.step0 G).int k hlt
  obtain ⟨by_, oy, rfl, cy⟩ := (hy.step0 G).int k (by omega)
  have hsn := movesL_snoc (xs.take k) (ys.take k) xs[k] ys[k] (by simp; omega)
  rw [← List.take_succ_eq_append_getElem, ← List.take_succ_eq_append_getElem] at hsn
  have hle := movesL_le (xs.take k) (ys.take k)
  rw [List.length_take] at hle
  refine s_skip ?_
  refine k6 _ _ ?_
  refine s_seq fun _ k7 => ?_
  refine s_block ?_
  refine s_rseq fun _ k8 => ?_
  refine o_v v_move ?_
  refine o_v v_assign ?_
  refine o_end (k8 _ _ ?_)
  refine s_seq fun _ k9 => ?_; refine s_quiet mixed (by kernel_rfl) ?_
  refine q_v (fun _ gq => v_move) ?_
  refine q_v (fun _ gq => v_move) ?_
  refine q_v (fun _ gq => v_index rfl rfl slt56 (by omega)) ?_
  refine q_v (fun _ gq => v_loadC rfl sc3 (cell0 gq cx)) ?_
  refine q_v (fun _ gq => v_move) ?_
  refine q_v (fun _ gq => v_move) ?_
  refine q_v (fun _ gq => v_index rfl rfl slt56 (by omega)) ?_
  refine q_v (fun _ gq => v_loadC rfl sc3 (cell0 gq cy)) ?_
  refine q_v (fun _ gq => v_neq rfl rfl) ?_
  refine q_end (fun w1 g1 => k9 _ _ ?_)
  replace G := G.step0 g1
  refine s_ifd rfl (fun c9 => ?_) (fun c9 => ?_)
  ·refine s_region ?_
   refine o_v v_move ?_
   refine o_v (v_add rfl rfl (by omega)) ?_
   refine o_v v_assign ?_
   refine o_end ?_
   refine k7 _ _ ?_
   refine s_region ?_
   refine o_v (v_add rfl rfl (by omega)) ?_
   refine o_v v_move ?_
   refine o_end ?_
   rw [if_neg c9] at hsn
   refine mid (k + 1) ?_ ?_ ?_
   ·repeat (first | exact off_refl | refine off_cons rfl ?_)
   ·exact ⟨by rw [hsn]; rfl, rfl, trivial⟩
   ·exact ⟨⟨hlt, G⟩, by omega⟩
  ·refine s_skip ?_
   refine k7 _ _ ?_
   refine s_region ?_
   refine o_v (v_add rfl rfl (by omega)) ?_
   refine o_v v_move ?_
   refine o_end ?_
   rw [if_pos (by simpa using c9)] at hsn
   refine mid (k + 1) ?_ ?_ ?_
   ·repeat (first | exact off_refl | refine off_cons rfl ?_)
   ·exact ⟨by rw [hsn]; rfl, rfl, trivial⟩
   ·exact ⟨⟨hlt, G⟩, by omega⟩
 ·refine s_exit ?_
  refine k3 _ _ ?_
  refine s_rseq fun _ k10 => ?_
  refine o_v v_move ?_
  refine o_v v_assign ?_
  refine o_end (k10 _ _ ?_)
  refine s_ret (post1 rfl ?_)
  have hk' : k = xs.length := by omega
  exact ⟨ret_int (by rw [hk', List.take_length, List.take_of_length_le (by omega)]), G⟩
def idxL {α : Type} (p : α → Bool) : List α → Int
 | [] => -1
 | x :: xs => if p x then 0 else (let i := idxL p xs; if i < 0 then -1 else i + 1)
theorem idxL_ge {α : Type} (p : α → Bool) (xs : List α) : -1 ≤ idxL p xs ∧ idxL p xs < xs.length := by
 induction xs with
 | nil => simp [idxL]
 | cons x xs ih =>
  simp only [idxL, List.length_cons]
  split
  ·omega
  ·split <;> omega
theorem idxL_any {α : Type} (p : α → Bool) (xs : List α) : decide (0 ≤ idxL p xs) = xs.any p := by
 induction xs with
 | nil => simp [idxL]
 | cons x xs ih =>
  simp only [idxL, List.any_cons, ← ih]
  by_cases h : p x = true
  ·simp [h]
  ·rw [if_neg h]
   have := idxL_ge p xs
   have h' : p x = false := by simpa using h
   rw [h', Bool.false_or]
   congr 1
   apply propext
   split <;> omega
theorem idxL_none {α : Type} (p : α → Bool) (xs : List α) (h : ∀ x ∈ xs, p x = false) : idxL p xs = -1 := by
 have h1 := idxL_any p xs
 have h2 : xs.any p = false := by rw [List.any_eq_false]; intro x hx; rw [h x hx]; simp
 rw [h2] at h1
 have := idxL_ge p xs
 have h3 : ¬ 0 ≤ idxL p xs := by simpa using h1
 omega
theorem idxL_some {α : Type} (p : α → Bool) (xs : List α) (k : Nat) (hk : k < xs.length) (h : ∀ x ∈ xs.take k, p x = false) (hp : p xs[k] = true) : idxL p xs = k := by
 induction xs generalizing k with
 | nil => cases hk
 | cons x xs ih =>
  cases k with
  | zero => simp only [idxL]; rw [if_pos (by simpa using hp)]; rfl
  | succ k =>
   simp only [idxL]
   rw [if_neg (by rw [h x (by simp)]; simp), ih k (by simpa using hk) (fun y hy => h y (by simp [hy])) (by simpa using hp)]
   simp
   omega
theorem f190_calls {α : Type} (t : Ty α) (hsz : t.sz = 1) (p : α → Bool) {S : Nat → Prop} (A : Option Addr) (c : Nat) (xs : List α) (g : Nat) (cap : List Value) (w : World) (hx : t.Sl w S A xs) (hm : xs.length ≤ 9223372036854775807) (hg : Ent Tryz.prog g)
  (hp : ∀ x cs W, x ∈ xs → w.grownBy W none → t.rep W S x cs → Calls Tryz.prog g (.agg cs.toArray :: cap).toArray W fun e W' => e = .returned (.bool (p x)) ∧ W.grownBy W' none) :
  Calls Tryz.prog 190 #[.slice A xs.length c, .func (.func g) #[] cap.toArray] w fun e w' => e = .returned (.int .i64 (idxL p xs)) ∧ w.grownBy w' none := by
 refine s_enter (n := 19) Tryz.func190 rfl rfl rfl ?_
 have G := grown_refl w none; obtain ⟨w0, hw0⟩ : ∃ w0, w0 = w := ⟨_, rfl⟩; subst hw0
 refine s_rseq fun _ k1 => ?_
 refine o_v v_assign ?_
 refine o_end (k1 _ _ ?_)
 refine s_seq fun _ k2 => ?_
 refine s_rseq fun _ k3 => ?_
 refine o_v v_move ?_
 refine o_v (v_len rfl Tryz.underlying22) ?_
 refine o_v v_move ?_
 refine o_end (k3 _ _ ?_)
 refine s_block ?_
 refine s_loop (G := Nat) (fun g => [(8, .int .i64 g)]) [8] [4, 5, 9, 10, 11, 12, 13, 14, 15, 16, 17, 18] (fun g w => (g ≤ xs.length ∧ ∀ x ∈ xs.take g, p x = false) ∧ w0.grownBy w none) (fun g => xs.length - g) (fun _ => rfl) 0 ⟨rfl, trivial⟩ ⟨⟨Nat.zero_le _, by simp⟩, G⟩ ?_
 rintro k jv w ⟨⟨hk, hno⟩, G⟩
 refine s_rseq fun _ k4 => ?_
 refine o_v (v_lss rfl rfl) ?_
 refine o_end (k4 _ _ ?_)
 refine s_seq fun _ k5 => ?_
 refine s_ifd rfl (fun c5 => ?_) (fun c5 => ?_)
 ·have hlt : k < xs.length := by omega
  obtain ⟨b, o, cs, rfl, _, hrep, hr⟩ := (hx.step0 G).get k hlt
  rw [hsz] at hr
  refine s_skip ?_
  refine k5 _ _ ?_
  refine s_seq fun _ k6 => ?_
  refine s_block ?_
  refine s_rseq fun _ k7 => ?_
  refine o_v v_move ?_
  refine o_v v_assign ?_
  refine o_end (k7 _ _ ?_)
  refine s_rseq fun _ k8 => ?_
  refine o_v v_move ?_
  refine o_v v_move ?_
  refine o_v v_move ?_
  refine o_v (v_index rfl rfl slt22 (by omega)) ?_
  refine o_v (v_loadR rfl ag148 hr (by rw [t.hlen hrep, hsz])) ?_
  refine o_call rfl rfl hg (hp _ _ _ (List.getElem_mem hlt) G hrep) ?_; rintro _ w1 ⟨rfl, g1⟩; refine ⟨_, rfl, ?_⟩
  replace G := G.step0 g1
  refine o_end (k8 _ _ ?_)
  refine s_if rfl (fun c8 => ?_) (fun c8 => ?_)
  ·refine s_rseq fun _ k9 => ?_
   refine o_v v_move ?_
   refine o_v v_assign ?_
   refine o_end (k9 _ _ ?_)
   refine s_ret (post1 rfl ?_)
   exact ⟨ret_int (idxL_some p xs k hlt hno c8).symm, G⟩
  ·refine s_skip ?_
   refine k6 _ _ ?_
   refine s_region ?_
   refine o_v (v_add rfl rfl (by omega)) ?_
   refine o_v v_move ?_
   refine o_end ?_
   refine mid (k + 1) ?_ ?_ ?_
   ·repeat (first | exact off_refl | refine off_cons rfl ?_)
   ·exact ⟨rfl, trivial⟩
   ·exact ⟨⟨⟨hlt, fun x hx' => by
      rw [List.take_succ_eq_append_getElem hlt] at hx'
      rcases List.mem_append.1 hx' with h | h
      ·exact hno x h
      ·rw [List.mem_singleton.1 h]; exact c8⟩, G⟩, by omega⟩
 ·refine s_exit ?_
  refine k2 _ _ ?_
  refine s_rseq fun _ k10 => ?_
  refine o_v v_assign ?_
  refine o_end (k10 _ _ ?_)
  refine s_ret (post1 rfl ?_)
  have hk' : k = xs.length := by omega
  exact ⟨ret_int (idxL_none p xs (fun x hx' => hno x (by rw [hk', List.take_length]; exact hx'))).symm, G⟩
theorem f157_calls {α : Type} (t : Ty α) (hsz : t.sz = 1) (p : α → Bool) {S : Nat → Prop} (A : Option Addr) (c : Nat) (xs : List α) (g : Nat) (cap : List Value) (w : World) (hx : t.Sl w S A xs) (hm : xs.length ≤ 9223372036854775807) (hg : Ent Tryz.prog g)
  (hp : ∀ x cs W, x ∈ xs → w.grownBy W none → t.rep W S x cs → Calls Tryz.prog g (.agg cs.toArray :: cap).toArray W fun e W' => e = .returned (.bool (p x)) ∧ W.grownBy W' none) :
  Calls Tryz.prog 157 #[.slice A xs.length c, .func (.func g) #[] cap.toArray] w fun e w' => e = .returned (.bool (xs.any p)) ∧ w.grownBy w' none := by
 refine s_enter (n := 9) Tryz.func157 rfl rfl rfl ?_
 have G := grown_refl w none
 refine s_rseq fun _ k1 => ?_
 refine o_v v_assign ?_
 refine o_end (k1 _ _ ?_)
 refine s_rseq fun _ k2 => ?_
 refine o_v v_move ?_
 refine o_v v_move ?_
 refine o_call rfl rfl ent190 (f190_calls t hsz p A c xs g cap w hx hm hg hp) ?_; rintro _ w1 ⟨rfl, g1⟩; refine ⟨_, rfl, ?_⟩
 replace G := G.step0 g1
 refine o_v (v_geq rfl rfl) ?_
 refine o_v v_assign ?_
 refine o_end (k2 _ _ ?_)
 refine s_ret (post1 rfl ?_)
 exact ⟨ret_bool (idxL_any p xs), G⟩
theorem f191_calls {α : Type} (t : Ty α) (hsz : t.sz = 3) (p : α → Bool) {S : Nat → Prop} (A : Option Addr) (c : Nat) (xs : List α) (g : Nat) (cap : List Value) (w : World) (hx : t.Sl w S A xs) (hm : xs.length ≤ 9223372036854775807) (hg : Ent Tryz.prog g)
  (hp : ∀ x cs W, x ∈ xs → w.grownBy W none → t.rep W S x cs → Calls Tryz.prog g (.agg cs.toArray :: cap).toArray W fun e W' => e = .returned (.bool (p x)) ∧ W.grownBy W' none) :
  Calls Tryz.prog 191 #[.slice A xs.length c, .func (.func g) #[] cap.toArray] w fun e w' => e = .returned (.int .i64 (idxL p xs)) ∧ w.grownBy w' none := by
 refine s_enter (n := 19) Tryz.func191 rfl rfl rfl ?_
 have G := grown_refl w none; obtain ⟨w0, hw0⟩ : ∃ w0, w0 = w := ⟨_, rfl⟩; subst hw0
 refine s_rseq fun _ k1 => ?_
 refine o_v v_assign ?_
 refine o_end (k1 _ _ ?_)
 refine s_seq fun _ k2 => ?_
 refine s_rseq fun _ k3 => ?_
 refine o_v v_move ?_
 refine o_v (v_len rfl Tryz.underlying23) ?_
 refine o_v v_move ?_
 refine o_end (k3 _ _ ?_)
 refine s_block ?_
 refine s_loop (G := Nat) (fun g => [(8, .int .i64 g)]) [8] [4, 5, 9, 10, 11, 12, 13, 14, 15, 16, 17, 18] (fun g w => (g ≤ xs.length ∧ ∀ x ∈ xs.take g, p x = false) ∧ w0.grownBy w none) (fun g => xs.length - g) (fun _ => rfl) 0 ⟨rfl, trivial⟩ ⟨⟨Nat.zero_le _, by simp⟩, G⟩ ?_
 rintro k jv w ⟨⟨hk, hno⟩, G⟩
 refine s_rseq fun _ k4 => ?_
 refine o_v (v_lss rfl rfl) ?_
 refine o_end (k4 _ _ ?_)
 refine s_seq fun _ k5 => ?_
 refine s_ifd rfl (fun c5 => ?_) (fun c5 => ?_)
 ·have hlt : k < xs.length := by omega
  obtain ⟨b, o, cs, rfl, _, hrep, hr⟩ := (hx.step0 G).get k hlt
  rw [hsz] at hr
  refine s_skip ?_
  refine k5 _ _ ?_
  refine s_seq fun _ k6 => ?_
  refine s_block ?_
  refine s_rseq fun _ k7 => ?_
  refine o_v v_move ?_
  refine o_v v_assign ?_
  refine o_end (k7 _ _ ?_)
  refine s_rseq fun _ k8 => ?_
  refine o_v v_move ?_
  refine o_v v_move ?_
  refine o_v v_move ?_
  refine o_v (v_index rfl rfl slt23 (by omega)) ?_
  refine o_v (v_loadR rfl ag99 hr (by rw [t.hlen hrep, hsz])) ?_
  refine o_call rfl rfl hg (hp _ _ _ (List.getElem_mem hlt) G hrep) ?_; rintro _ w1 ⟨rfl, g1⟩; refine ⟨_, rfl, ?_⟩
  replace G := G.step0 g1
  refine o_end (k8 _ _ ?_)
  refine s_if rfl (fun c8 => ?_) (fun c8 => ?_)
  ·refine s_rseq fun _ k9 => ?_
   refine o_v v_move ?_
   refine o_v v_assign ?_
   refine o_end (k9 _ _ ?_)
   refine s_ret (post1 rfl ?_)
   exact ⟨ret_int (idxL_some p xs k hlt hno c8).symm, G⟩
  ·refine s_skip ?_
   refine k6 _ _ ?_
   refine s_region ?_
   refine o_v (v_add rfl rfl (by omega)) ?_
   refine o_v v_move ?_
   refine o_end ?_
   refine mid (k + 1) ?_ ?_ ?_
   ·repeat (first | exact off_refl | refine off_cons rfl ?_)
   ·exact ⟨rfl, trivial⟩
   ·exact ⟨⟨⟨hlt, fun x hx' => by
      rw [List.take_succ_eq_append_getElem hlt] at hx'
      rcases List.mem_append.1 hx' with h | h
      ·exact hno x h
      ·rw [List.mem_singleton.1 h]; exact c8⟩, G⟩, by omega⟩
 ·refine s_exit ?_
  refine k2 _ _ ?_
  refine s_rseq fun _ k10 => ?_
  refine o_v v_assign ?_
  refine o_end (k10 _ _ ?_)
  refine s_ret (post1 rfl ?_)
  have hk' : k = xs.length := by omega
  exact ⟨ret_int (idxL_none p xs (fun x hx' => hno x (by rw [hk', List.take_length]; exact hx'))).symm, G⟩
theorem f159_calls {α : Type} (t : Ty α) (hsz : t.sz = 3) (p : α → Bool) {S : Nat → Prop} (A : Option Addr) (c : Nat) (xs : List α) (g : Nat) (cap : List Value) (w : World) (hx : t.Sl w S A xs) (hm : xs.length ≤ 9223372036854775807) (hg : Ent Tryz.prog g)
  (hp : ∀ x cs W, x ∈ xs → w.grownBy W none → t.rep W S x cs → Calls Tryz.prog g (.agg cs.toArray :: cap).toArray W fun e W' => e = .returned (.bool (p x)) ∧ W.grownBy W' none) :
  Calls Tryz.prog 159 #[.slice A xs.length c, .func (.func g) #[] cap.toArray] w fun e w' => e = .returned (.bool (xs.any p)) ∧ w.grownBy w' none := by
 refine s_enter (n := 9) Tryz.func159 rfl rfl rfl ?_
 have G := grown_refl w none
 refine s_rseq fun _ k1 => ?_
 refine o_v v_assign ?_
 refine o_end (k1 _ _ ?_)
 refine s_rseq fun _ k2 => ?_
 refine o_v v_move ?_
 refine o_v v_move ?_
 refine o_call rfl rfl ent191 (f191_calls t hsz p A c xs g cap w hx hm hg hp) ?_; rintro _ w1 ⟨rfl, g1⟩; refine ⟨_, rfl, ?_⟩
 replace G := G.step0 g1
 refine o_v (v_geq rfl rfl) ?_
 refine o_v v_assign ?_
 refine o_end (k2 _ _ ?_)
 refine s_ret (post1 rfl ?_)
 exact ⟨ret_bool (idxL_any p xs), G⟩
theorem f185_calls {α : Type} (t : Ty α) (hsz : t.sz = 4) (p : α → Bool) {S : Nat → Prop} (A : Option Addr) (c : Nat) (xs : List α) (g : Nat) (cap : List Value) (w : World) (hx : t.Sl w S A xs) (hm : xs.length ≤ 9223372036854775807) (hg : Ent Tryz.prog g)
  (hp : ∀ x cs W, x ∈ xs → w.grownBy W none → t.rep W S x cs → Calls Tryz.prog g (.agg cs.toArray :: cap).toArray W fun e W' => e = .returned (.bool (p x)) ∧ W.grownBy W' none) :
  Calls Tryz.prog 185 #[.slice A xs.length c, .func (.func g) #[] cap.toArray] w fun e w' => e = .returned (.int .i64 (idxL p xs)) ∧ w.grownBy w' none := by
 refine s_enter (n := 19) Tryz.func185 rfl rfl rfl ?_
 have G := grown_refl w none; obtain ⟨w0, hw0⟩ : ∃ w0, w0 = w := ⟨_, rfl⟩; subst hw0
 refine s_rseq fun _ k1 => ?_
 refine o_v v_assign ?_
 refine o_end (k1 _ _ ?_)
 refine s_seq fun _ k2 => ?_
 refine s_rseq fun _ k3 => ?_
 refine o_v v_move ?_
 refine o_v (v_len rfl Tryz.underlying45) ?_
 refine o_v v_move ?_
 refine o_end (k3 _ _ ?_)
 refine s_block ?_
 refine s_loop (G := Nat) (fun g => [(8, .int .i64 g)]) [8] [4, 5, 9, 10, 11, 12, 13, 14, 15, 16, 17, 18] (fun g w => (g ≤ xs.length ∧ ∀ x ∈ xs.take g, p x = false) ∧ w0.grownBy w none) (fun g => xs.length - g) (fun _ => rfl) 0 ⟨rfl, trivial⟩ ⟨⟨Nat.zero_le _, by simp⟩, G⟩ ?_
 rintro k jv w ⟨⟨hk, hno⟩, G⟩
 refine s_rseq fun _ k4 => ?_
 refine o_v (v_lss rfl rfl) ?_
 refine o_end (k4 _ _ ?_)
 refine s_seq fun _ k5 => ?_
 refine s_ifd rfl (fun c5 => ?_) (fun c5 => ?_)
 ·have hlt : k < xs.length := by omega
  obtain ⟨b, o, cs, rfl, _, hrep, hr⟩ := (hx.step0 G).get k hlt
  rw [hsz] at hr
  refine s_skip ?_
  refine k5 _ _ ?_
  refine s_seq fun _ k6 => ?_
  refine s_block ?_
  refine s_rseq fun _ k7 => ?_
  refine o_v v_move ?_
  refine o_v v_assign ?_
  refine o_end (k7 _ _ ?_)
  refine s_rseq fun _ k8 => ?_
  refine o_v v_move ?_
  refine o_v v_move ?_
  refine o_v v_move ?_
  refine o_v (v_index rfl rfl slt45 (by omega)) ?_
  refine o_v (v_loadR rfl ag67 hr (by rw [t.hlen hrep, hsz])) ?_
  refine o_call rfl rfl hg (hp _ _ _ (List.getElem_mem hlt) G hrep) ?_; rintro _ w1 ⟨rfl, g1⟩; refine ⟨_, rfl, ?_⟩
  replace G := G.step0 g1
  refine o_end (k8 _ _ ?_)
  refine s_if rfl (fun c8 => ?_) (fun c8 => ?_)
  ·refine s_rseq fun _ k9 => ?_
   refine o_v v_move ?_
   refine o_v v_assign ?_
   refine o_end (k9 _ _ ?_)
   refine s_ret (post1 rfl ?_)
   exact ⟨ret_int (idxL_some p xs k hlt hno c8).symm, G⟩
  ·refine s_skip ?_
   refine k6 _ _ ?_
   refine s_region ?_
   refine o_v (v_add rfl rfl (by omega)) ?_
   refine o_v v_move ?_
   refine o_end ?_
   refine mid (k + 1) ?_ ?_ ?_
   ·repeat (first | exact off_refl | refine off_cons rfl ?_)
   ·exact ⟨rfl, trivial⟩
   ·exact ⟨⟨⟨hlt, fun x hx' => by
      rw [List.take_succ_eq_append_getElem hlt] at hx'
      rcases List.mem_append.1 hx' with h | h
      ·exact hno x h
      ·rw [List.mem_singleton.1 h]; exact c8⟩, G⟩, by omega⟩
 ·refine s_exit ?_
  refine k2 _ _ ?_
  refine s_rseq fun _ k10 => ?_
  refine o_v v_assign ?_
  refine o_end (k10 _ _ ?_)
  refine s_ret (post1 rfl ?_)
  have hk' : k = xs.length := by omega
  exact ⟨ret_int (idxL_none p xs (fun x hx' => hno x (by rw [hk', List.take_length]; exact hx'))).symm, G⟩
theorem f140_calls {α : Type} (t : Ty α) (hsz : t.sz = 4) (p : α → Bool) {S : Nat → Prop} (A : Option Addr) (c : Nat) (xs : List α) (g : Nat) (cap : List Value) (w : World) (hx : t.Sl w S A xs) (hm : xs.length ≤ 9223372036854775807) (hg : Ent Tryz.prog g)
  (hp : ∀ x cs W, x ∈ xs → w.grownBy W none → t.rep W S x cs → Calls Tryz.prog g (.agg cs.toArray :: cap).toArray W fun e W' => e = .returned (.bool (p x)) ∧ W.grownBy W' none) :
  Calls Tryz.prog 140 #[.slice A xs.length c, .func (.func g) #[] cap.toArray] w fun e w' => e = .returned (.bool (xs.any p)) ∧ w.grownBy w' none := by
 refine s_enter (n := 9) Tryz.func140 rfl rfl rfl ?_
 have G := grown_refl w none
 refine s_rseq fun _ k1 => ?_
 refine o_v v_assign ?_
 refine o_end (k1 _ _ ?_)
 refine s_rseq fun _ k2 => ?_
 refine o_v v_move ?_
 refine o_v v_move ?_
 refine o_call rfl rfl ent185 (f185_calls t hsz p A c xs g cap w hx hm hg hp) ?_; rintro _ w1 ⟨rfl, g1⟩; refine ⟨_, rfl, ?_⟩
 replace G := G.step0 g1
 refine o_v (v_geq rfl rfl) ?_
 refine o_v v_assign ?_
 refine o_end (k2 _ _ ?_)
 refine s_ret (post1 rfl ?_)
 exact ⟨ret_bool (idxL_any p xs), G⟩
theorem f146_calls {α : Type} (t : Ty α) (hsz : t.sz = 2) (p : α → Bool) {S : Nat → Prop} (A : Option Addr) (c : Nat) (xs : List α) (g : Nat) (cap : List Value) (w : World) (hx : t.Sl w S A xs) (hm : xs.length ≤ 9223372036854775807) (hg : Ent Tryz.prog g)
  (hp : ∀ x cs W, x ∈ xs → w.grownBy W none → t.rep W S x cs → Calls Tryz.prog g (.agg cs.toArray :: cap).toArray W fun e W' => e = .returned (.bool (p x)) ∧ W.grownBy W' none) :
  Calls Tryz.prog 146 #[.slice A xs.length c, .func (.func g) #[] cap.toArray] w fun e w' => e = .returned (.int .i64 (idxL p xs)) ∧ w.grownBy w' none := by
 refine s_enter (n := 19) Tryz.func146 rfl rfl rfl ?_
 have G := grown_refl w none; obtain ⟨w0, hw0⟩ : ∃ w0, w0 = w := ⟨_, rfl⟩; subst hw0
 refine s_rseq fun _ k1 => ?_
 refine o_v v_assign ?_
 refine o_end (k1 _ _ ?_)
 refine s_seq fun _ k2 => ?_
 refine s_rseq fun _ k3 => ?_
 refine o_v v_move ?_
 refine o_v (v_len rfl Tryz.underlying74) ?_
 refine o_v v_move ?_
 refine o_end (k3 _ _ ?_)
 refine s_block ?_
 refine s_loop (G := Nat) (fun g => [(8, .int .i64 g)]) [8] [4, 5, 9, 10, 11, 12, 13, 14, 15, 16, 17, 18] (fun g w => (g ≤ xs.length ∧ ∀ x ∈ xs.take g, p x = false) ∧ w0.grownBy w none) (fun g => xs.length - g) (fun _ => rfl) 0 ⟨rfl, trivial⟩ ⟨⟨Nat.zero_le _, by simp⟩, G⟩ ?_
 rintro k jv w ⟨⟨hk, hno⟩, G⟩
 refine s_rseq fun _ k4 => ?_
 refine o_v (v_lss rfl rfl) ?_
 refine o_end (k4 _ _ ?_)
 refine s_seq fun _ k5 => ?_
 refine s_ifd rfl (fun c5 => ?_) (fun c5 => ?_)
 ·have hlt : k < xs.length := by omega
  obtain ⟨b, o, cs, rfl, _, hrep, hr⟩ := (hx.step0 G).get k hlt
  rw [hsz] at hr
  refine s_skip ?_
  refine k5 _ _ ?_
  refine s_seq fun _ k6 => ?_
  refine s_block ?_
  refine s_rseq fun _ k7 => ?_
  refine o_v v_move ?_
  refine o_v v_assign ?_
  refine o_end (k7 _ _ ?_)
  refine s_rseq fun _ k8 => ?_
  refine o_v v_move ?_
  refine o_v v_move ?_
  refine o_v v_move ?_
  refine o_v (v_index rfl rfl slt74 (by omega)) ?_
  refine o_v (v_loadR rfl ag164 hr (by rw [t.hlen hrep, hsz])) ?_
  refine o_call rfl rfl hg (hp _ _ _ (List.getElem_mem hlt) G hrep) ?_; rintro _ w1 ⟨rfl, g1⟩; refine ⟨_, rfl, ?_⟩
  replace G := G.step0 g1
  refine o_end (k8 _ _ ?_)
  refine s_if rfl (fun c8 => ?_) (fun c8 => ?_)
  ·refine s_rseq fun _ k9 => ?_
   refine o_v v_move ?_
   refine o_v v_assign ?_
   refine o_end (k9 _ _ ?_)
   refine s_ret (post1 rfl ?_)
   exact ⟨ret_int (idxL_some p xs k hlt hno c8).symm, G⟩
  ·refine s_skip ?_
   refine k6 _ _ ?_
   refine s_region ?_
   refine o_v (v_add rfl rfl (by omega)) ?_
   refine o_v v_move ?_
   refine o_end ?_
   refine mid (k + 1) ?_ ?_ ?_
   ·repeat (first | exact off_refl | refine off_cons rfl ?_)
   ·exact ⟨rfl, trivial⟩
   ·exact ⟨⟨⟨hlt, fun x hx' => by
      rw [List.take_succ_eq_append_getElem hlt] at hx'
      rcases List.mem_append.1 hx' with h | h
      ·exact hno x h
      ·rw [List.mem_singleton.1 h]; exact c8⟩, G⟩, by omega⟩
 ·refine s_exit ?_
  refine k2 _ _ ?_
  refine s_rseq fun _ k10 => ?_
  refine o_v v_assign ?_
  refine o_end (k10 _ _ ?_)
  refine s_ret (post1 rfl ?_)
  have hk' : k = xs.length := by omega
  exact ⟨ret_int (idxL_none p xs (fun x hx' => hno x (by rw [hk', List.take_length]; exact hx'))).symm, G⟩
theorem f101_calls {α : Type} (t : Ty α) (hsz : t.sz = 2) (p : α → Bool) {S : Nat → Prop} (A : Option Addr) (c : Nat) (xs : List α) (g : Nat) (cap : List Value) (w : World) (hx : t.Sl w S A xs) (hm : xs.length ≤ 9223372036854775807) (hg : Ent Tryz.prog g)
  (hp : ∀ x cs W, x ∈ xs → w.grownBy W none → t.rep W S x cs → Calls Tryz.prog g (.agg cs.toArray :: cap).toArray W fun e W' => e = .returned (.bool (p x)) ∧ W.grownBy W' none) :
  Calls Tryz.prog 101 #[.slice A xs.length c, .func (.func g) #[] cap.toArray] w fun e w' => e = .returned (.bool (xs.any p)) ∧ w.grownBy w' none := by
 refine s_enter (n := 9) Tryz.func101 rfl rfl rfl ?_
 have G := grown_refl w none
 refine s_rseq fun _ k1 => ?_
 refine o_v v_assign ?_
 refine o_end (k1 _ _ ?_)
 refine s_rseq fun _ k2 => ?_
 refine o_v v_move ?_
 refine o_v v_move ?_
 refine o_call rfl rfl ent146 (f146_calls t hsz p A c xs g cap w hx hm hg hp) ?_; rintro _ w1 ⟨rfl, g1⟩; refine ⟨_, rfl, ?_⟩
 replace G := G.step0 g1
 refine o_v (v_geq rfl rfl) ?_
 refine o_v v_assign ?_
 refine o_end (k2 _ _ ?_)
 refine s_ret (post1 rfl ?_)
 exact ⟨ret_bool (idxL_any p xs), G⟩
theorem f188_calls {α : Type} (t : Ty α) (hsz : t.sz = 3) (p : α → Bool) {S : Nat → Prop} (A : Option Addr) (c : Nat) (xs : List α) (g : Nat) (cap : List Value) (w : World) (hx : t.Sl w S A xs) (hm : xs.length ≤ 9223372036854775807) (hg : Ent Tryz.prog g)
  (hp : ∀ x cs W, x ∈ xs → w.grownBy W none → t.rep W S x cs → Calls Tryz.prog g (.agg cs.toArray :: cap).toArray W fun e W' => e = .returned (.bool (p x)) ∧ W.grownBy W' none) :
  Calls Tryz.prog 188 #[.slice A xs.length c, .func (.func g) #[] cap.toArray] w fun e w' => e = .returned (.int .i64 (idxL p xs)) ∧ w.grownBy w' none := by
 refine s_enter (n := 19) Tryz.func188 rfl rfl rfl ?_
 have G := grown_refl w none; obtain ⟨w0, hw0⟩ : ∃ w0, w0 = w := ⟨_, rfl⟩; subst hw0
 refine s_rseq fun _ k1 => ?_
 refine o_v v_assign ?_
 refine o_end (k1 _ _ ?_)
 refine s_seq fun _ k2 => ?_
 refine s_rseq fun _ k3 => ?_
 refine o_v v_move ?_
 refine o_v (v_len rfl Tryz.underlying87) ?_
 refine o_v v_move ?_
 refine o_end (k3 _ _ ?_)
 refine s_block ?_
 refine s_loop (G := Nat) (fun g => [(8, .int .i64 g)]) [8] [4, 5, 9, 10, 11, 12, 13, 14, 15, 16, 17, 18] (fun g w => (g ≤ xs.length ∧ ∀ x ∈ xs.take g, p x = false) ∧ w0.grownBy w none) (fun g => xs.length - g) (fun _ => rfl) 0 ⟨rfl, trivial⟩ ⟨⟨Nat.zero_le _, by simp⟩, G⟩ ?_
 rintro k jv w ⟨⟨hk, hno⟩, G⟩
 refine s_rseq fun _ k4 => ?_
 refine o_v (v_lss rfl rfl) ?_
 refine o_end (k4 _ _ ?_)
 refine s_seq fun _ k5 => ?_
 refine s_ifd rfl (fun c5 => ?_) (fun c5 => ?_)
 ·have hlt : k < xs.length := by omega
  obtain ⟨b, o, cs, rfl, _, hrep, hr⟩ := (hx.step0 G).get k hlt
  rw [hsz] at hr
  refine s_skip ?_
  refine k5 _ _ ?_
  refine s_seq fun _ k6 => ?_
  refine s_block ?_
  refine s_rseq fun _ k7 => ?_
  refine o_v v_move ?_
  refine o_v v_assign ?_
  refine o_end (k7 _ _ ?_)
  refine s_rseq fun _ k8 => ?_
  refine o_v v_move ?_
  refine o_v v_move ?_
  refine o_v v_move ?_
  refine o_v (v_index rfl rfl slt87 (by omega)) ?_
  refine o_v (v_loadR rfl ag103 hr (by rw [t.hlen hrep, hsz])) ?_
  refine o_call rfl rfl hg (hp _ _ _ (List.getElem_mem hlt) G hrep) ?_; rintro _ w1 ⟨rfl, g1⟩; refine ⟨_, rfl, ?_⟩
  replace G := G.step0 g1
  refine o_end (k8 _ _ ?_)
  refine s_if rfl (fun c8 => ?_) (fun c8 => ?_)
  ·refine s_rseq fun _ k9 => ?_
   refine o_v v_move ?_
   refine o_v v_assign ?_
   refine o_end (k9 _ _ ?_)
   refine s_ret (post1 rfl ?_)
   exact ⟨ret_int (idxL_some p xs k hlt hno c8).symm, G⟩
  ·refine s_skip ?_
   refine k6 _ _ ?_
   refine s_region ?_
   refine o_v (v_add rfl rfl (by omega)) ?_
   refine o_v v_move ?_
   refine o_end ?_
   refine mid (k + 1) ?_ ?_ ?_
   ·repeat (first | exact off_refl | refine off_cons rfl ?_)
   ·exact ⟨rfl, trivial⟩
   ·exact ⟨⟨⟨hlt, fun x hx' => by
      rw [List.take_succ_eq_append_getElem hlt] at hx'
      rcases List.mem_append.1 hx' with h | h
      ·exact hno x h
      ·rw [List.mem_singleton.1 h]; exact c8⟩, G⟩, by omega⟩
 ·refine s_exit ?_
  refine k2 _ _ ?_
  refine s_rseq fun _ k10 => ?_
  refine o_v v_assign ?_
  refine o_end (k10 _ _ ?_)
  refine s_ret (post1 rfl ?_)
  have hk' : k = xs.length := by omega
  exact ⟨ret_int (idxL_none p xs (fun x hx' => hno x (by rw [hk', List.take_length]; exact hx'))).symm, G⟩
theorem f152_calls {α : Type} (t : Ty α) (hsz : t.sz = 3) (p : α → Bool) {S : Nat → Prop} (A : Option Addr) (c : Nat) (xs : List α) (g : Nat) (cap : List Value) (w : World) (hx : t.Sl w S A xs) (hm : xs.length ≤ 9223372036854775807) (hg : Ent Tryz.prog g)
  (hp : ∀ x cs W, x ∈ xs → w.grownBy W none → t.rep W S x cs → Calls Tryz.prog g (.agg cs.toArray :: cap).toArray W fun e W' => e = .returned (.bool (p x)) ∧ W.grownBy W' none) :
  Calls Tryz.prog 152 #[.slice A xs.length c, .func (.func g) #[] cap.toArray] w fun e w' => e = .returned (.bool (xs.any p)) ∧ w.grownBy w' none := by
 refine s_enter (n := 9) Tryz.func152 rfl rfl rfl ?_
 have G := grown_refl w none
 refine s_rseq fun _ k1 => ?_
 refine o_v v_assign ?_
 refine o_end (k1 _ _ ?_)
 refine s_rseq fun _ k2 => ?_
 refine o_v v_move ?_
 refine o_v v_move ?_
 refine o_call rfl rfl ent188 (f188_calls t hsz p A c xs g cap w hx hm hg hp) ?_; rintro _ w1 ⟨rfl, g1⟩; refine ⟨_, rfl, ?_⟩
 replace G := G.step0 g1
 refine o_v (v_geq rfl rfl) ?_
 refine o_v v_assign ?_
 refine o_end (k2 _ _ ?_)
 refine s_ret (post1 rfl ?_)
 exact ⟨ret_bool (idxL_any p xs), G⟩
theorem f187_calls {α : Type} (t : Ty α) (hsz : t.sz = 1) (p : α → Bool) {S : Nat → Prop} (A : Option Addr) (c : Nat) (xs : List α) (g : Nat) (cap : List Value) (w : World) (hx : t.Sl w S A xs) (hm : xs.length ≤ 9223372036854775807) (hg : Ent Tryz.prog g)
  (hp : ∀ x v W, x ∈ xs → w.grownBy W none → t.rep W S x [v] → Calls Tryz.prog g (v :: cap).toArray W fun e W' => e = .returned (.bool (p x)) ∧ W.grownBy W' none) :
  Calls Tryz.prog 187 #[.slice A xs.length c, .func (.func g) #[] cap.toArray] w fun e w' => e = .returned (.int .i64 (idxL p xs)) ∧ w.grownBy w' none := by
 refine s_enter (n := 19) Tryz.func187 rfl rfl rfl ?_
 have G := grown_refl w none; obtain ⟨w0, hw0⟩ : ∃ w0, w0 = w := ⟨_, rfl⟩; subst hw0
 refine s_rseq fun _ k1 => ?_
 refine o_v v_assign ?_
 refine o_end (k1 _ _ ?_)
 refine s_seq fun _ k2 => ?_
 refine s_rseq fun _ k3 => ?_
 refine o_v v_move ?_
 refine o_v (v_len rfl Tryz.underlying56) ?_
 refine o_v v_move ?_
 refine o_end (k3 _ _ ?_)
 refine s_block ?_
 refine s_loop (G := Nat) (fun g => [(8, .int .i64 g)]) [8] [4, 5, 9, 10, 11, 12, 13, 14, 15, 16, 17, 18] (fun g w => (g ≤ xs.length ∧ ∀ x ∈ xs.take g, p x = false) ∧ w0.grownBy w none) (fun g => xs.length - g) (fun _ => rfl) 0 ⟨rfl, trivial⟩ ⟨⟨Nat.zero_le _, by simp⟩, G⟩ ?_
 rintro k jv w ⟨⟨hk, hno⟩, G⟩
 refine s_rseq fun _ k4 => ?_
 refine o_v (v_lss rfl rfl) ?_
 refine o_end (k4 _ _ ?_)
 refine s_seq fun _ k5 => ?_
 refine s_ifd rfl (fun c5 => ?_) (fun c5 => ?_)
 ·have hlt : k < xs.length := by omega
  obtain ⟨b, o, cs, rfl, _, hrep, hr0⟩ := (hx.step0 G).get k hlt
  rw [hsz] at hr0
  obtain ⟨v, rfl⟩ : ∃ v, cs = [v] := by
   have := t.hlen hrep
   rw [hsz] at this
   exact List.length_eq_one_iff.1 this
  have hr := hr0 0 v rfl
  rw [Nat.add_zero] at hr
  refine s_skip ?_
  refine k5 _ _ ?_
  refine s_seq fun _ k6 => ?_
  refine s_block ?_
  refine s_rseq fun _ k7 => ?_
  refine o_v v_move ?_
  refine o_v v_assign ?_
  refine o_end (k7 _ _ ?_)
  refine s_rseq fun _ k8 => ?_
  refine o_v v_move ?_
  refine o_v v_move ?_
  refine o_v v_move ?_
  refine o_v (v_index rfl rfl slt56 (by omega)) ?_
  refine o_v (v_loadC rfl sc3 hr) ?_
  refine o_call rfl rfl hg (hp _ _ _ (List.getElem_mem hlt) G hrep) ?_; rintro _ w1 ⟨rfl, g1⟩; refine ⟨_, rfl, ?_⟩
  replace G := G.step0 g1
  refine o_end (k8 _ _ ?_)
  refine s_if rfl (fun c8 => ?_) (fun c8 => ?_)
  ·refine s_rseq fun _ k9 => ?_
   refine o_v v_move ?_
   refine o_v v_assign ?_
   refine o_end (k9 _ _ ?_)
   refine s_ret (post1 rfl ?_)
   exact ⟨ret_int (idxL_some p xs k hlt hno c8).symm, G⟩
  ·refine s_skip ?_
   refine k6 _ _ ?_
   refine s_region ?_
   refine o_v (v_add rfl rfl (by omega)) ?_
   refine o_v v_move ?_
   refine o_end ?_
   refine mid (k + 1) ?_ ?_ ?_
   ·repeat (first | exact off_refl | refine off_cons rfl ?_)
   ·exact ⟨rfl, trivial⟩
   ·exact ⟨⟨⟨hlt, fun x hx' => by
      rw [List.take_succ_eq_append_getElem hlt] at hx'
      rcases List.mem_append.1 hx' with h | h
      ·exact hno x h
      ·rw [List.mem_singleton.1 h]; exact c8⟩, G⟩, by omega⟩
 ·refine s_exit ?_
  refine k2 _ _ ?_
  refine s_rseq fun _ k10 => ?_
  refine o_v v_assign ?_
  refine o_end (k10 _ _ ?_)
  refine s_ret (post1 rfl ?_)
  have hk' : k = xs.length := by omega
  exact ⟨ret_int (idxL_none p xs (fun x hx' => hno x (by rw [hk', List.take_length]; exact hx'))).symm, G⟩
theorem f150_calls {α : Type} (t : Ty α) (hsz : t.sz = 1) (p : α → Bool) {S : Nat → Prop} (A : Option Addr) (c : Nat) (xs : List α) (g : Nat) (cap : List Value) (w : World) (hx : t.Sl w S A xs) (hm : xs.length ≤ 9223372036854775807) (hg : Ent Tryz.prog g)
  (hp : ∀ x v W, x ∈ xs → w.grownBy W none → t.rep W S x [v] → Calls Tryz.prog g (v :: cap).toArray W fun e W' => e = .returned (.bool (p x)) ∧ W.grownBy W' none) :
  Calls Tryz.prog 150 #[.slice A xs.length c, .func (.func g) #[] cap.toArray] w fun e w' => e = .returned (.bool (xs.any p)) ∧ w.grownBy w' none := by
 refine s_enter (n := 9) Tryz.func150 rfl rfl rfl ?_
 have G := grown_refl w none
 refine s_rseq fun _ k1 => ?_
 refine o_v v_assign ?_
 refine o_end (k1 _ _ ?_)
 refine s_rseq fun _ k2 => ?_
 refine o_v v_move ?_
 refine o_v v_move ?_
 refine o_call rfl rfl ent187 (f187_calls t hsz p A c xs g cap w hx hm hg hp) ?_; rintro _ w1 ⟨rfl, g1⟩; refine ⟨_, rfl, ?_⟩
 replace G := G.step0 g1
 refine o_v (v_geq rfl rfl) ?_
 refine o_v v_assign ?_
 refine o_end (k2 _ _ ?_)
 refine s_ret (post1 rfl ?_)
 exact ⟨ret_bool (idxL_any p xs), G⟩
theorem f195_calls {α : Type} (t : Ty α) (hsz : t.sz = 1) (p : α → Bool) {S : Nat → Prop} (A : Option Addr) (c : Nat) (xs : List α) (g : Nat) (cap : List Value) (w : World) (hx : t.Sl w S A xs) (hm : xs.length ≤ 9223372036854775807) (hg : Ent Tryz.prog g)
  (hp : ∀ x v W, x ∈ xs → w.grownBy W none → t.rep W S x [v] → Calls Tryz.prog g (v :: cap).toArray W fun e W' => e = .returned (.bool (p x)) ∧ W.grownBy W' none) :
  Calls Tryz.prog 195 #[.slice A xs.length c, .func (.func g) #[] cap.toArray] w fun e w' => e = .returned (.int .i64 (idxL p xs)) ∧ w.grownBy w' none := by
 refine s_enter (n := 19) Tryz.func195 rfl rfl rfl ?_
 have G := grown_refl w none; obtain ⟨w0, hw0⟩ : ∃ w0, w0 = w := ⟨_, rfl⟩; subst hw0
 refine s_rseq fun _ k1 => ?_
 refine o_v v_assign ?_
 refine o_end (k1 _ _ ?_)
 refine s_seq fun _ k2 => ?_
 refine s_rseq fun _ k3 => ?_
 refine o_v v_move ?_
 refine o_v (v_len rfl Tryz.underlying33) ?_
 refine o_v v_move ?_
 refine o_end (k3 _ _ ?_)
 refine s_block ?_
 refine s_loop (G := Nat) (fun g => [(8, .int .i64 g)]) [8] [4, 5, 9, 10, 11, 12, 13, 14, 15, 16, 17, 18] (fun g w => (g ≤ xs.length ∧ ∀ x ∈ xs.take g, p x = false) ∧ w0.grownBy w none) (fun g => xs.length - g) (fun _ => rfl) 0 ⟨rfl, trivial⟩ ⟨⟨Nat.zero_le _, by simp⟩, G⟩ ?_
 rintro k jv w ⟨⟨hk, hno⟩, G⟩
 refine s_rseq fun _ k4 => ?_
 refine o_v (v_lss rfl rfl) ?_
 refine o_end (k4 _ _ ?_)
 refine s_seq fun _ k5 => ?_
 refine s_ifd rfl (fun c5 => ?_) (fun c5 => ?_)
 ·have hlt : k < xs.length := by omega
  obtain ⟨b, o, cs, rfl, _, hrep, hr0⟩ := (hx.step0 G).get k hlt
  rw [hsz] at hr0
  obtain ⟨v, rfl⟩ : ∃ v, cs = [v] := by
   have := t.hlen hrep
   rw [hsz] at this
   exact List.length_eq_one_iff.1 this
  have hr := hr0 0 v rfl
  rw [Nat.add_zero] at hr
  refine s_skip ?_
  refine k5 _ _ ?_
  refine s_seq fun _ k6 => ?_
  refine s_block ?_
  refine s_rseq fun _ k7 => ?_
  refine o_v v_move ?_
  refine o_v v_assign ?_
  refine o_end (k7 _ _ ?_)
  refine s_rseq fun _ k8 => ?_
  refine o_v v_move ?_
  refine o_v v_move ?_
  refine o_v v_move ?_
  refine o_v (v_index rfl rfl slt33 (by omega)) ?_
  refine o_v (v_loadC rfl sc56 hr) ?_
  refine o_call rfl rfl hg (hp _ _ _ (List.getElem_mem hlt) G hrep) ?_; rintro _ w1 ⟨rfl, g1⟩; refine ⟨_, rfl, ?_⟩
  replace G := G.step0 g1
  refine o_end (k8 _ _ ?_)
  refine s_if rfl (fun c8 => ?_) (fun c8 => ?_)
  ·refine s_rseq fun _ k9 => ?_
   refine o_v v_move ?_
   refine o_v v_assign ?_
   refine o_end (k9 _ _ ?_)
   refine s_ret (post1 rfl ?_)
   exact ⟨ret_int (idxL_some p xs k hlt hno c8).symm, G⟩
  ·refine s_skip ?_
   refine k6 _ _ ?_
   refine s_region ?_
   refine o_v (v_add rfl rfl (by omega)) ?_
   refine o_v v_move ?_
   refine o_end ?_
   refine mid (k + 1) ?_ ?_ ?_
   ·repeat (first | exact off_refl | refine off_cons rfl ?_)
   ·exact ⟨rfl, trivial⟩
   ·exact ⟨⟨⟨hlt, fun x hx' => by
      rw [List.take_succ_eq_append_getElem hlt] at hx'
      rcases List.mem_append.1 hx' with h | h
      ·exact hno x h
      ·rw [List.mem_singleton.1 h]; exact c8⟩, G⟩, by omega⟩
 ·refine s_exit ?_
  refine k2 _ _ ?_
  refine s_rseq fun _ k10 => ?_
  refine o_v v_assign ?_
  refine o_end (k10 _ _ ?_)
  refine s_ret (post1 rfl ?_)
  have hk' : k = xs.length := by omega
  exact ⟨ret_int (idxL_none p xs (fun x hx' => hno x (by rw [hk', List.take_length]; exact hx'))).symm, G⟩
theorem f170_calls {α : Type} (t : Ty α) (hsz : t.sz = 1) (p : α → Bool) {S : Nat → Prop} (A : Option Addr) (c : Nat) (xs : List α) (g : Nat) (cap : List Value) (w : World) (hx : t.Sl w S A xs) (hm : xs.length ≤ 9223372036854775807) (hg : Ent Tryz.prog g)
  (hp : ∀ x v W, x ∈ xs → w.grownBy W none → t.rep W S x [v] → Calls Tryz.prog g (v :: cap).toArray W fun e W' => e = .returned (.bool (p x)) ∧ W.grownBy W' none) :
  Calls Tryz.prog 170 #[.slice A xs.length c, .func (.func g) #[] cap.toArray] w fun e w' => e = .returned (.bool (xs.any p)) ∧ w.grownBy w' none := by
 refine s_enter (n := 9) Tryz.func170 rfl rfl rfl ?_
 have G := grown_refl w none
 refine s_rseq fun _ k1 => ?_
 refine o_v v_assign ?_
 refine o_end (k1 _ _ ?_)
 refine s_rseq fun _ k2 => ?_
 refine o_v v_move ?_
 refine o_v v_move ?_
 refine o_call rfl rfl ent195 (f195_calls t hsz p A c xs g cap w hx hm hg hp) ?_; rintro _ w1 ⟨rfl, g1⟩; refine ⟨_, rfl, ?_⟩
 replace G := G.step0 g1
 refine o_v (v_geq rfl rfl) ?_
 refine o_v v_assign ?_
 refine o_end (k2 _ _ ?_)
 refine s_ret (post1 rfl ?_)
 exact ⟨ret_bool (idxL_any p xs), G⟩
theorem f198_calls {α : Type} (t : Ty α) (hsz : t.sz = 3) (p : α → Bool) {S : Nat → Prop} (A : Option Addr) (c : Nat) (xs : List α) (g : Nat) (cap : List Value) (w : World) (hx : t.Sl w S A xs) (hm : xs.length ≤ 9223372036854775807) (hg : Ent Tryz.prog g)
  (hp : ∀ x cs W, x ∈ xs → w.grownBy W none → t.rep W S x cs → Calls Tryz.prog g (.agg cs.toArray :: cap).toArray W fun e W' => e = .returned (.bool (p x)) ∧ W.grownBy W' none) :
  Calls Tryz.prog 198 #[.slice A xs.length c, .func (.func g) #[] cap.toArray] w fun e w' => e = .returned (.int .i64 (idxL p xs)) ∧ w.grownBy w' none := by
 refine s_enter (n := 19) Tryz.func198 rfl rfl rfl ?_
 have G := grown_refl w none; obtain ⟨w0, hw0⟩ : ∃ w0, w0 = w := ⟨_, rfl⟩; subst hw0
 refine s_rseq fun _ k1 => ?_
 refine o_v v_assign ?_
 refine o_end (k1 _ _ ?_)
 refine s_seq fun _ k2 => ?_
 refine s_rseq fun _ k3 => ?_
 refine o_v v_move ?_
 refine o_v (v_len rfl Tryz.underlying135) ?_
 refine o_v v_move ?_
 refine o_end (k3 _ _ ?_)
 refine s_block ?_
 refine s_loop (G := Nat) (fun g => [(8, .int .i64 g)]) [8] [4, 5, 9, 10, 11, 12, 13, 14, 15, 16, 17, 18] (fun g w => (g ≤ xs.length ∧ ∀ x ∈ xs.take g, p x = false) ∧ w0.grownBy w none) (fun g => xs.length - g) (fun _ => rfl) 0 ⟨rfl, trivial⟩ ⟨⟨Nat.zero_le _, by simp⟩, G⟩ ?_
 rintro k jv w ⟨⟨hk, hno⟩, G⟩
 refine s_rseq fun _ k4 => ?_
 refine o_v (v_lss rfl rfl) ?_
 refine o_end (k4 _ _ ?_)
 refine s_seq fun _ k5 => ?_
 refine s_ifd rfl (fun c5 => ?_) (fun c5 => ?_)
 ·have hlt : k < xs.length := by omega
  obtain ⟨b, o, cs, rfl, _, hrep, hr⟩ := (hx.step0 G).get k hlt
  rw [hsz] at hr
  refine s_skip ?_
  refine k5 _ _ ?_
  refine s_seq fun _ k6 => ?_
  refine s_block ?_
  refine s_rseq fun _ k7 => ?_
  refine o_v v_move ?_
  refine o_v v_assign ?_
  refine o_end (k7 _ _ ?_)
  refine s_rseq fun _ k8 => ?_
  refine o_v v_move ?_
  refine o_v v_move ?_
  refine o_v v_move ?_
  refine o_v (v_index rfl rfl slt135 (by omega)) ?_
  refine o_v (v_loadR rfl ag137 hr (by rw [t.hlen hrep, hsz])) ?_
  refine o_call rfl rfl hg (hp _ _ _ (List.getElem_mem hlt) G hrep) ?_; rintro _ w1 ⟨rfl, g1⟩; refine ⟨_, rfl, ?_⟩
  replace G := G.step0 g1
  refine o_end (k8 _ _ ?_)
  refine s_if rfl (fun c8 => ?_) (fun c8 => ?_)
  ·refine s_rseq fun _ k9 => ?_
   refine o_v v_move ?_
   refine o_v v_assign ?_
   refine o_end (k9 _ _ ?_)
   refine s_ret (post1 rfl ?_)
   exact ⟨ret_int (idxL_some p xs k hlt hno c8).symm, G⟩
  ·refine s_skip ?_
   refine k6 _ _ ?_
   refine s_region ?_
   refine o_v (v_add rfl rfl (by omega)) ?_
   refine o_v v_move ?_
   refine o_end ?_
   refine mid (k + 1) ?_ ?_ ?_
   ·repeat (first | exact off_refl | refine off_cons rfl ?_)
   ·exact ⟨rfl, trivial⟩
   ·exact ⟨⟨⟨hlt, fun x hx' => by
      rw [List.take_succ_eq_append_getElem hlt] at hx'
      rcases List.mem_append.1 hx' with h | h
      ·exact hno x h
      ·rw [List.mem_singleton.1 h]; exact c8⟩, G⟩, by omega⟩
 ·refine s_exit ?_
  refine k2 _ _ ?_
  refine s_rseq fun _ k10 => ?_
  refine o_v v_assign ?_
  refine o_end (k10 _ _ ?_)
  refine s_ret (post1 rfl ?_)
  have hk' : k = xs.length := by omega
  exact ⟨ret_int (idxL_none p xs (fun x hx' => hno x (by rw [hk', List.take_length]; exact hx'))).symm, G⟩
end Go.Proofs.NV
