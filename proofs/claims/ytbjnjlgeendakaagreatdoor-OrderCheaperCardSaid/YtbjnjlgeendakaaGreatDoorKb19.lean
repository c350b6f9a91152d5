/- Part of the proof: told: the numbers of a row.. parsed: reads a text.. -/
import Derived.Test.YtbjnjlgeendakaaGreatDoorKb18
set_option linter.unusedVariables false
set_option maxRecDepth 100000
set_option maxHeartbeats 8000000
set_option linter.unusedSimpArgs false
namespace Go.Proofs.NV
open Go.RowKit Go.Shelf
attribute [local irreducible] bodyPost bodyPostM wpQuiet
def dig (c : UInt8) : Bool := decide ((48 : Int) ≤ (c.toNat : Int)) && decide ((c.toNat : Int) ≤ 57)
def valTo (x : List UInt8) : Nat → Int
 | 0 => 0
 | k + 1 => 10 * valTo x k + (((x[k]?.getD 0).toNat : Int) - 48)
def numL (x : List UInt8) : Option Int := if x ≠ [] ∧ x.length ≤ 2 ∧ x.all dig = true ∧ x = decL (valTo x x.length) then some (valTo x x.length) else none
theorem rune_dig {s : List UInt8} {pos : Nat} (h : pos < s.length) : (decide ((48 : Int) ≤ ((Utf8.decode (bs s) pos).1 : Int)) && decide (((Utf8.decode (bs s) pos).1 : Int) ≤ 57)) = dig s[pos] ∧ (dig s[pos] = true → Utf8.decode (bs s) pos = (s[pos].toNat, 1)) := by
 by_cases hb : s[pos].toNat < 128
 ·rw [decode_low h hb]
  exact ⟨rfl, fun _ => rfl⟩
 ·have h1 := decode_high h hb
  have h2 : dig s[pos] = false := by
   unfold dig
   rw [show decide (((s[pos]).toNat : Int) ≤ 57) = false from decide_eq_false (by omega), Bool.and_false]
  rw [h2]
  refine ⟨?_, fun h => by cases h⟩
  rw [show decide (((Utf8.decode (bs s) pos).1 : Int) ≤ 57) = false from decide_eq_false (by omega), Bool.and_false]
theorem dig_iff {c : UInt8} (h : dig c = true) : 48 ≤ c.toNat ∧ c.toNat ≤ 57 := by
 unfold dig at h
 simp only [Bool.and_eq_true, decide_eq_true_eq] at h
 omega
theorem valTo_bound {x : List UInt8} : ∀ k, k ≤ x.length → (∀ j (h : j < x.length), j < k → dig x[j] = true) → 0 ≤ valTo x k ∧ valTo x k < 10 ^ k
 | 0, _, _ => by simp [valTo]
 | k + 1, hk, hd => by
  have ih := valTo_bound k (by omega) fun j h hj => hd j h (by omega)
  have hc := dig_iff (hd k (by omega) (by omega))
  rw [valTo, List.getElem?_eq_getElem (by omega), Option.getD_some]
  have : (10 : Int) ^ (k + 1) = 10 * 10 ^ k := by rw [Int.pow_succ]; omega
  omega
theorem valTo_succ {x : List UInt8} {k : Nat} (h : k < x.length) : valTo x (k + 1) = 10 * valTo x k + ((x[k].toNat : Int) - 48) := by
 rw [valTo, List.getElem?_eq_getElem h, Option.getD_some]
def allL {α β : Type} (f : α → Option β) : List α → Option (List β)
 | [] => some []
 | a :: l => (f a).bind fun b => (allL f l).map (b :: ·)
theorem allL_snoc {α β : Type} {f : α → Option β} : ∀ {l : List α} {a : α} {bs : List β} {b : β}, allL f l = some bs → f a = some b → allL f (l ++ [a]) = some (bs ++ [b])
 | [], a, bs, b, h, hf => by
  injection h with h
  subst h
  simp [allL, hf]
 | c :: l, a, bs, b, h, hf => by
  rw [allL] at h
  cases hc : f c with
  | none => rw [hc] at h; cases h
  | some y =>
   rw [hc, Option.bind_some] at h
   cases hl : allL f l with
   | none => rw [hl] at h; cases h
   | some ys =>
    rw [hl, Option.map_some] at h
    injection h with h
    subst h
    rw [List.cons_append, allL, hc, Option.bind_some, allL_snoc hl hf]
    rfl
theorem allL_none {α β : Type} {f : α → Option β} : ∀ {l : List α} {a : α}, a ∈ l → f a = none → allL f l = none
 | c :: l, a, hm, hf => by
  rw [allL]
  rcases List.mem_cons.1 hm with rfl | hm
  ·rw [hf]; rfl
  ·rw [allL_none hm hf]
   cases f c <;> rfl
theorem allL_len {α β : Type} {f : α → Option β} : ∀ {l : List α} {bs : List β}, allL f l = some bs → bs.length = l.length
 | [], bs, h => by injection h with h; subst h; rfl
 | a :: l, bs, h => by
  rw [allL] at h
  cases hc : f a with
  | none => rw [hc] at h; cases h
  | some y =>
   rw [hc, Option.bind_some] at h
   cases hl : allL f l with
   | none => rw [hl] at h; cases h
   | some ys =>
    rw [hl, Option.map_some] at h
    injection h with h
    subst h
    simp [allL_len hl]
def toldL (row word : List UInt8) (many : Nat) : Option (List Int) := if (splitL 32 row).length = many + 1 ∧ (splitL 32 row)[0]? = some word then allL numL ((splitL 32 row).drop 1) else none
theorem reps_str {w : World} {S : Nat → Prop} (xs : List (List UInt8)) : Reps (strT.rep w S) xs (xs.map strV) := by
 induction xs with
 | nil => rfl
 | cons x l ih => exact ⟨[strV x], l.map strV, rfl, rfl, ih⟩
theorem Blk.strs {w : World} {S : Nat → Prop} {b : Nat} {xs : List (List UInt8)} (h : Blk w b (xs.map strV) 9) (hS : S b) : strT.Sl w S (some ⟨b, 0, none⟩) xs := by
 refine .inr ⟨b, 0, xs.map strV, rfl, hS, ?_, reps_str xs⟩
 have := h.range 0 xs.length
 rwa [List.drop_zero, List.take_of_length_le (by simp)] at this
theorem Ty.Sl.str {w : World} {S : Nat → Prop} {A : Option Addr} {xs : List (List UInt8)} (h : strT.Sl w S A xs) (i : Nat) (hi : i < xs.length) : ∃ b o, A = some ⟨b, o, none⟩ ∧ w.cell? ⟨b, o + i * 1, none⟩ = some (strV xs[i]) := by
 obtain ⟨b, o, c, hA, _, hc, hr⟩ := h.get i hi
 obtain rfl : c = [strV xs[i]] := hc
 exact ⟨b, o, hA, by have := hr 0 _ rfl; simpa [strT, Ty.scalar] using this⟩
def ToldR (row word : List UInt8) (many : Nat) (w w' : World) (e : Ending) : Prop :=
 (∃ ns v, toldL row word many = some ns ∧ e = .returned v ∧ Ty.int.Row 3 w' (fun k => w.heap.size ≤ k) v ns) ∨ (toldL row word many = none ∧ ∃ s, e = .panicked [noneV s])
theorem numL_some {x : List UInt8} (h : (decide (x ≠ []) && decide (decL (valTo x x.length) = x)) = true) (hl : 0 < x.length → x.length ≤ 2) (hd : ∀ c ∈ x, dig c = true) : numL x = some (valTo x x.length) := by
 simp only [Bool.and_eq_true, decide_eq_true_eq] at h
 unfold numL
 rw [if_pos ⟨h.1, hl (List.length_pos_iff.2 h.1), List.all_eq_true.2 hd, h.2.symm⟩]
theorem numL_none {x : List UInt8} (h : ¬ (decide (x ≠ []) && decide (decL (valTo x x.length) = x)) = true) : numL x = none := by
 simp only [Bool.and_eq_true, decide_eq_true_eq] at h
 unfold numL
 rw [if_neg]
 exact fun hh => h ⟨hh.1, hh.2.2.2.symm⟩
theorem numL_bad {x : List UInt8} {pos : Nat} (hp : pos < x.length) (h : ¬ (dig x[pos] && decide ((x.length : Int) ≤ 2)) = true) : numL x = none := by
 simp only [Bool.and_eq_true, decide_eq_true_eq] at h
 unfold numL
 rw [if_neg]
 exact fun hh => h ⟨List.all_eq_true.1 hh.2.2.1 _ (List.getElem_mem hp), by omega⟩
theorem midB {G : Type} {n id : Nat} {ds : List Deferred} {Q : Exit → Act → World → Prop} {L : List Nat} {vals : G → List (Nat × Value)} {I : G → World → Prop} {e e' : Env} {w : World} (g : G) (ho : Off L e' e) (hh : Has e' (vals g)) (hI : I g w) : Exit.inBlock id (Exit.then (Mid n ds L vals I e) Q) .normal (act n e' ds) w := mid (Q := Q) g ho hh hI
theorem numL_range {x : List UInt8} {n : Int} (h : numL x = some n) : 0 ≤ n ∧ n < 100 := by
 unfold numL at h
 split at h
 ·rename_i hh
  injection h with h
  have hb := valTo_bound (x := x) x.length (Nat.le_refl _) fun j hj _ => List.all_eq_true.1 hh.2.2.1 _ (List.getElem_mem hj)
  have : x.length = 0 ∨ x.length = 1 ∨ x.length = 2 := by have := hh.2.1; omega
  rcases this with h0 | h0 | h0 <;> rw [h0] at hb h <;> simp at hb <;> omega
 ·cases h
attribute [local irreducible] splitL numL valTo decL toldL dig
theorem f168_calls (row word : List UInt8) (many : Nat) (w : World) (hr : row.length ≤ 1000000) (hm : many ≤ 10) :
  Calls Tryz.prog 168 #[.string (bs row), .string (bs word), I many] w fun e w' => ToldR row word many w w' e ∧ w.grownBy w' none := by
 refine s_enter (n := 77) Tryz.func168 rfl rfl rfl ?_
 have G := grown_refl w none
 refine s_rseq fun _ k1 => ?_
 refine o_v v_assign ?_
 refine o_end (k1 _ _ ?_)
 refine s_rseq fun _ k2 => ?_
 refine o_v v_move ?_
 refine o_call rfl rfl ent166 (f166_calls row 32 w hr) ?_; rintro _ w1 ⟨rfl, Bs, g1⟩; refine ⟨_, rfl, ?_⟩
 have hW : strT.Sl w1 (fun _ => True) (some ⟨w.heap.size, 0, none⟩) (splitL 32 row) := Bs.strs trivial
 have hpos := splitL_pos 32 row
 obtain ⟨b0, o0, hA0, hc0⟩ := hW.str 0 hpos
 have hwl : (splitL 32 row).length ≤ 1000001 := by rw [splitL_len]; have : row.count 32 ≤ row.length := List.count_le_length; omega
 obtain ⟨w0, hw0⟩ : ∃ w0, w0 = (splitL 32 row)[0] := ⟨_, rfl⟩
 rw [← hw0] at hc0
 obtain ⟨rfl, rfl⟩ : b0 = w.heap.size ∧ o0 = 0 := by injection hA0 with hA0; injection hA0 with h1 h2; exact ⟨h1.symm, h2.symm⟩
 replace G := G.step0 g1
 refine o_v v_assign ?_
 refine o_end (k2 _ _ ?_)
 refine s_rseq fun _ k3 => ?_
 refine o_v v_move ?_
 refine o_v (v_len rfl Tryz.underlying186) ?_
 refine o_v v_move ?_
 refine o_v (v_add rfl rfl (by omega)) ?_
 refine o_v (v_eql rfl rfl) ?_
 refine o_v v_move ?_
 refine o_mid (G := Unit) 6 (fun _ => [(27, .bool ((decide (((splitL 32 row).length : Int) = (many : Int) + 1) && decide (w0 = word))))]) [27] [22, 23, 24, 25, 26] (fun _ w' => w1.grownBy w' none) (fun _ => rfl) ?_ ?_
 ·have H1 := grown_refl w1 none
  rcases Bool.eq_false_or_eq_true (decide (((splitL 32 row).length : Int) = (many : Int) + 1)) with hX1 | hX1
  ·refine g_yes rfl rfl rfl hX1 ?_
   refine o_v v_move ?_
   refine g_yes rfl rfl rfl hX1 ?_
   refine o_v (v_index rfl rfl slt186 (by omega)) ?_
   refine g_yes rfl rfl rfl hX1 ?_
   refine o_v (v_loadC rfl sc9 hc0) ?_
   refine g_yes rfl rfl rfl hX1 ?_
   refine o_v v_move ?_
   refine g_yes rfl rfl rfl hX1 ?_
   refine o_v (v_eqlS rfl rfl) ?_
   refine o_v (v_pick_t rfl hX1) ?_
   refine o_end (mid () ?_ ?_ ?_)
   ·repeat (first | exact off_refl | refine off_cons rfl ?_)
   ·exact ⟨by rw [hX1]; rfl, trivial⟩
   ·exact H1
  ·refine g_no rfl rfl rfl hX1 ?_
   refine g_no rfl rfl rfl hX1 ?_
   refine g_no rfl rfl rfl hX1 ?_
   refine g_no rfl rfl rfl hX1 ?_
   refine g_no rfl rfl rfl hX1 ?_
   refine o_v (v_pick_f rfl hX1) ?_
   refine o_end (mid () ?_ ?_ ?_)
   ·repeat (first | exact off_refl | refine off_cons rfl ?_)
   ·exact ⟨by rw [hX1]; rfl, trivial⟩
   ·exact H1
 ·rintro _ jv w2 g2
  replace G := G.step0 g2
  refine o_v v_move ?_
  refine o_callP rfl rfl ent167 (f167_calls ((decide (((splitL 32 row).length : Int) = (many : Int) + 1) && decide (w0 = word))) (row) w2) ?_; rintro _ w3 ⟨rfl, g3⟩
  rcases Bool.eq_false_or_eq_true ((decide (((splitL 32 row).length : Int) = (many : Int) + 1) && decide (w0 = word))) with hb3 | hb3; rotate_left
  ·refine .inr ⟨_, by rw [hb3]; rfl, postP ?_⟩
   refine ⟨.inr ⟨?_, row, rfl⟩, G.step0 g3⟩
   unfold toldL
   rw [if_neg]
   rintro ⟨h1, h2⟩
   rw [List.getElem?_eq_getElem hpos, ← hw0] at h2
   injection h2 with h2
   rw [h2, decide_eq_true rfl, Bool.and_true, decide_eq_false_iff_not] at hb3
   omega
  refine .inl ⟨_, by rw [hb3]; rfl, ?_⟩
  replace G := G.step0 g3
  simp only [Bool.and_eq_true, decide_eq_true_eq] at hb3
  have htold : toldL row word many = allL numL ((splitL 32 row).drop 1) := by
   unfold toldL
   rw [if_pos ⟨by omega, by rw [List.getElem?_eq_getElem hpos, ← hw0, hb3.2]⟩]
  have hW3 := ((hW.step0 g2).step0 g3).drop 1 (c := (splitL 32 row).length) (Nat.le_refl _)
  obtain ⟨l, hl⟩ : ∃ l, l = (splitL 32 row).drop 1 := ⟨_, rfl⟩
  have hll : l.length = (splitL 32 row).length - 1 := by rw [hl, List.length_drop]
  rw [← hl] at hW3 htold
  have hnil : allL numL (l.take 0) = some [] := by rfl
  clear hc0 hA0 Bs hW g1 g2 g3
  refine o_end (k3 _ _ ?_)
  refine s_rseq fun _ k4 => ?_
  refine o_v v_assign ?_
  refine o_end (k4 _ _ ?_)
  refine s_seq fun _ k5 => ?_
  refine s_rseq fun _ k6 => ?_
  refine o_v v_move ?_
  refine o_v (v_sliceL rfl rfl slt186 (by omega)) ?_
  refine o_v (v_len rfl Tryz.underlying186) ?_
  refine o_v v_move ?_
  refine o_end (k6 _ _ ?_)
  refine s_block ?_
  refine s_loop (G := Nat × List Int × Value) (fun g => [(8, g.2.2), (33, I g.1)]) [8, 33] [10, 11, 13, 34, 35, 36, 37, 38, 39, 40, 41, 42, 43, 44, 45, 46, 47, 48, 49, 50, 51, 52, 53, 54, 55, 56, 57, 58, 59, 60, 61, 62, 63, 64, 65, 66, 67, 68, 69, 70, 71, 72, 73, 74, 75] (fun g W => (g.1 ≤ l.length ∧ allL numL (l.take g.1) = some g.2.1 ∧ Ty.int.Row 3 W (fun k => w3.heap.size ≤ k) g.2.2 g.2.1) ∧ w3.grownBy W none) (fun g => l.length - g.1) (fun _ => rfl) (0, [], .slice none 0 0) ⟨rfl, rfl, trivial⟩ ⟨⟨Nat.zero_le _, hnil, Ty.Row.nil _ _ _ _⟩, grown_refl _ _⟩ ?_
  have G3 := G
  clear G
  rintro ⟨i, ns, rv⟩ jv w4 ⟨⟨hi, hns, hrow⟩, g4⟩
  simp only at hi hns hrow ⊢
  have hnl := allL_len hns
  rw [List.length_take, Nat.min_eq_left hi] at hnl
  refine s_rseq fun _ k7 => ?_
  refine o_v (v_lss rfl rfl) ?_
  refine o_end (k7 _ _ ?_)
  refine s_seq fun _ k8 => ?_
  refine s_ifd rfl (fun c8 => ?_) (fun c8 => ?_)
  ·have hlt : i < l.length := by omega
   obtain ⟨bx, ox, hAx, hcx⟩ := (hW3.step0 g4).str i hlt
   obtain ⟨x, hx⟩ : ∃ x, x = l[i] := ⟨_, rfl⟩
   have hxm : x ∈ l := by rw [hx]; exact List.getElem_mem hlt
   rw [← hx] at hcx
   have bad : numL x = none → toldL row word many = none := fun h => by rw [htold]; exact allL_none hxm h
   refine s_skip ?_
   refine k8 _ _ ?_
   refine s_seq fun _ k9 => ?_
   refine s_block ?_
   refine s_rseq fun _ k10 => ?_
   refine o_v (v_index (b := bx) (o := ox) (by exact congrArg (fun A => Value.slice A _ _) hAx) rfl slt186 (by omega)) ?_
   refine o_v (v_loadC rfl sc9 hcx) ?_
   refine o_v v_assign ?_
   refine o_end (k10 _ _ ?_)
   refine s_rseq fun _ k11 => ?_
   refine o_v v_assign ?_
   refine o_end (k11 _ _ ?_)
   refine s_seq fun _ k12 => ?_
   refine s_rseq fun _ k13 => ?_
   refine o_v v_move ?_
   refine o_range rfl Tryz.underlying9 ?_; intro w5 I38 g5
   have hv0 : valTo x 0 = 0 := by with_unfolding_all rfl
   refine o_end (k13 _ _ ?_)
   refine s_block ?_
   refine s_loop (G := Nat) (fun p => [(11, I (valTo x p))]) [11] [13, 39, 40, 41, 42, 43, 44, 45, 46, 47, 48, 49, 50, 51, 52, 53, 54, 55, 56, 57, 58, 59, 60] (fun p W => (p ≤ x.length ∧ It W w4.heap.size x p ∧ (∀ j (h : j < x.length), j < p → dig x[j] = true) ∧ (0 < p → x.length ≤ 2)) ∧ w4.grownBy W none) (fun p => x.length - p) (fun _ => rfl) 0 ⟨by rw [hv0]; rfl, trivial⟩ ⟨⟨Nat.zero_le _, I38, fun j _ h => by omega, fun h => by omega⟩, g5⟩ ?_
   clear I38 g5
   rintro pos jv w6 ⟨⟨hp, hI, hd, hle⟩, g6⟩
   refine s_rseq fun _ k14 => ?_
   refine o_nextU (k := w4.heap.size) (s := x) rfl hI ?_; intro us w6' hus hon gn
   replace g6 := grown_own g6 gn (Nat.le_refl _)
   refine o_v (v_extract rfl hus) ?_
   refine o_end (k14 _ _ ?_)
   refine s_seq fun _ k15 => ?_
   refine s_if rfl (fun c15 => ?_) (fun c15 => ?_)
   ·have hplt : pos < x.length := by simpa using c15
    obtain ⟨rfl, hI'⟩ := hon hplt
    obtain ⟨hrd, hrdec⟩ := rune_dig hplt
    have hvb := valTo_bound pos hp hd
    refine s_skip ?_
    refine k15 _ _ ?_
    refine s_block ?_
    refine s_rseq fun _ k16 => ?_
    refine o_v (v_extract rfl rfl) ?_
    refine o_v v_assign ?_
    refine o_end (k16 _ _ ?_)
    refine s_rseq fun _ k17 => ?_
    refine o_v v_move ?_
    refine o_v (v_geq rfl rfl) ?_
    refine o_v v_move ?_
    refine o_mid (G := Unit) 3 (fun _ => [(47, .bool ((decide ((48 : Int) ≤ ((Utf8.decode (bs x) pos).1 : Int)) && decide (((Utf8.decode (bs x) pos).1 : Int) ≤ 57))))]) [47] [45, 46] (fun _ w' => w6'.grownBy w' none) (fun _ => rfl) ?_ ?_
    ·have H2 := grown_refl w6' none
     rcases Bool.eq_false_or_eq_true (decide ((48 : Int) ≤ ((Utf8.decode (bs x) pos).1 : Int))) with hX2 | hX2
     ·refine g_yes rfl rfl rfl hX2 ?_
      refine o_v v_move ?_
      refine g_yes rfl rfl rfl hX2 ?_
      refine o_v (v_leq rfl rfl) ?_
      refine o_v (v_pick_t rfl hX2) ?_
      refine o_end (mid () ?_ ?_ ?_)
      ·repeat (first | exact off_refl | refine off_cons rfl ?_)
      ·exact ⟨by rw [hX2]; rfl, trivial⟩
      ·exact H2
     ·refine g_no rfl rfl rfl hX2 ?_
      refine g_no rfl rfl rfl hX2 ?_
      refine o_v (v_pick_f rfl hX2) ?_
      refine o_end (mid () ?_ ?_ ?_)
      ·repeat (first | exact off_refl | refine off_cons rfl ?_)
      ·exact ⟨by rw [hX2]; rfl, trivial⟩
      ·exact H2
    ·rintro _ jv w7 g7
     refine o_v v_move ?_
     refine o_mid (G := Unit) 4 (fun _ => [(52, .bool (((decide ((48 : Int) ≤ ((Utf8.decode (bs x) pos).1 : Int)) && decide (((Utf8.decode (bs x) pos).1 : Int) ≤ 57)) && decide ((x.length : Int) ≤ 2))))]) [52] [49, 50, 51] (fun _ w' => w7.grownBy w' none) (fun _ => rfl) ?_ ?_
     ·have H3 := grown_refl w7 none
      rcases Bool.eq_false_or_eq_true ((decide ((48 : Int) ≤ ((Utf8.decode (bs x) pos).1 : Int)) && decide (((Utf8.decode (bs x) pos).1 : Int) ≤ 57))) with hX3 | hX3
      ·refine g_yes rfl rfl rfl hX3 ?_
       refine o_v v_move ?_
       refine g_yes rfl rfl rfl hX3 ?_
       refine o_v (v_lenB rfl Tryz.underlying9) ?_
       refine g_yes rfl rfl rfl hX3 ?_
       refine o_v (v_leq rfl rfl) ?_
       refine o_v (v_pick_t rfl hX3) ?_
       refine o_end (mid () ?_ ?_ ?_)
       ·repeat (first | exact off_refl | refine off_cons rfl ?_)
       ·exact ⟨by rw [hX3]; rfl, trivial⟩
       ·exact H3
      ·refine g_no rfl rfl rfl hX3 ?_
       refine g_no rfl rfl rfl hX3 ?_
       refine g_no rfl rfl rfl hX3 ?_
       refine o_v (v_pick_f rfl hX3) ?_
       refine o_end (mid () ?_ ?_ ?_)
       ·repeat (first | exact off_refl | refine off_cons rfl ?_)
       ·exact ⟨by rw [hX3]; rfl, trivial⟩
       ·exact H3
     ·rintro _ jv w8 g8
      refine o_v v_move ?_
      refine o_callP rfl rfl ent167 (f167_calls (((decide ((48 : Int) ≤ ((Utf8.decode (bs x) pos).1 : Int)) && decide (((Utf8.decode (bs x) pos).1 : Int) ≤ 57)) && decide ((x.length : Int) ≤ 2))) (x) w8) ?_; rintro _ w9 ⟨rfl, g9⟩
      rcases Bool.eq_false_or_eq_true (((decide ((48 : Int) ≤ ((Utf8.decode (bs x) pos).1 : Int)) && decide (((Utf8.decode (bs x) pos).1 : Int) ≤ 57)) && decide ((x.length : Int) ≤ 2))) with hb9 | hb9; rotate_left
      ·refine .inr ⟨_, by rw [hb9]; rfl, postP ?_⟩
       rw [hrd] at hb9
       exact ⟨.inr ⟨bad (numL_bad hplt (by simpa using hb9)), x, rfl⟩, (((G3.step0 g4).step0 g6).step0 g7).step0 (g8.step0 g9)⟩
      refine .inl ⟨_, by rw [hb9]; rfl, ?_⟩
      rw [hrd] at hb9
      simp only [Bool.and_eq_true, decide_eq_true_eq] at hb9
      have hdec := hrdec hb9.1
      have hdi := dig_iff hb9.1
      rw [hdec] at hI'
      replace hI' := ((hI'.step0 g7).step0 g8).step0 g9
      replace g6 := ((g6.step0 g7).step0 g8).step0 g9
      have hx2 : x.length ≤ 2 := by omega
      have hp1 : pos = 0 ∨ pos = 1 := by omega
      have hvb' : 0 ≤ valTo x pos ∧ valTo x pos < 100 := by rcases hp1 with h | h <;> rw [h] at hvb ⊢ <;> simp at hvb <;> omega
      rw [hdec]
      refine o_end (k17 _ _ ?_)
      refine s_region ?_
      refine o_v v_move ?_
      refine o_v (v_mul rfl rfl (by omega)) ?_
      refine o_v v_move ?_
      refine o_v (v_sub32 rfl rfl (by omega)) ?_
      refine o_v (v_conv64 rfl Tryz.underlying21 Tryz.underlying3 (by omega)) ?_
      refine o_v (v_add rfl rfl (by omega)) ?_
      refine o_v v_assign ?_
      refine o_end ?_
      refine midB (pos + 1) ?_ ?_ ?_
      ·repeat (first | exact off_refl | refine off_cons rfl ?_)
      ·exact ⟨by rw [valTo_succ hplt]; rfl, trivial⟩
      ·refine ⟨⟨⟨hplt, hI', fun j h hj => ?_, fun _ => hx2⟩, g6⟩, by omega⟩
       by_cases hjp : j = pos
       ·subst hjp; exact hb9.1
       ·exact hd j h (by omega)
   ·have hnlt : ¬ pos < x.length := by simpa using c15
    have hpe : pos = x.length := by omega
    subst hpe
    have hvb := valTo_bound x.length (Nat.le_refl _) hd
    have hd' : ∀ c ∈ x, dig c = true := fun c hc => by obtain ⟨j, hj, rfl⟩ := List.getElem_of_mem hc; exact hd j hj hj
    refine s_exit ?_
    refine k12 _ _ ?_
    refine s_rseq fun _ k18 => ?_
    refine o_v v_move ?_
    refine o_v (v_neqS (a := x) (b := []) rfl rfl) ?_
    refine o_v v_move ?_
    refine o_mid (G := Unit) 5 (fun _ => [(68, .bool ((decide (x ≠ []) && decide (decL (valTo x x.length) = x))))]) [68] [64, 65, 66, 67] (fun _ w' => w6'.grownBy w' none) (fun _ => rfl) ?_ ?_
    ·have H4 := grown_refl w6' none
     rcases Bool.eq_false_or_eq_true (decide (x ≠ [])) with hX4 | hX4
     ·refine g_yes rfl rfl rfl hX4 ?_
      refine o_v v_move ?_
      refine g_yes rfl rfl rfl hX4 ?_
      have hv : 0 ≤ valTo x x.length ∧ valTo x x.length < 100 := by
       have hne : x ≠ [] := by simpa using hX4
       have h2 := hle (List.length_pos_iff.2 hne)
       have : x.length = 0 ∨ x.length = 1 ∨ x.length = 2 := by omega
       rcases this with h0 | h0 | h0 <;> rw [h0] at hvb ⊢ <;> simp at hvb <;> omega
      refine o_call rfl rfl ent164 (f164_calls (valTo x x.length) hv w6') ?_; rintro _ w10 ⟨rfl, g10⟩; refine ⟨_, rfl, ?_⟩
      replace H4 := H4.step0 g10
      refine g_yes rfl rfl rfl hX4 ?_
      refine o_v v_move ?_
      refine g_yes rfl rfl rfl hX4 ?_
      refine o_v (v_eqlS (a := decL (valTo x x.length)) (b := x) rfl rfl) ?_
      refine o_v (v_pick_t rfl hX4) ?_
      refine o_end (mid () ?_ ?_ ?_)
      ·repeat (first | exact off_refl | refine off_cons rfl ?_)
      ·exact ⟨by rw [hX4]; rfl, trivial⟩
      ·exact H4
     ·refine g_no rfl rfl rfl hX4 ?_
      refine g_no rfl rfl rfl hX4 ?_
      refine g_no rfl rfl rfl hX4 ?_
      refine g_no rfl rfl rfl hX4 ?_
      refine o_v (v_pick_f rfl hX4) ?_
      refine o_end (mid () ?_ ?_ ?_)
      ·repeat (first | exact off_refl | refine off_cons rfl ?_)
      ·exact ⟨by rw [hX4]; rfl, trivial⟩
      ·exact H4
    ·rintro _ jv w11 g11
     refine o_v v_move ?_
     refine o_callP rfl rfl ent167 (f167_calls ((decide (x ≠ []) && decide (decL (valTo x x.length) = x))) (x) w11) ?_; rintro _ w12 ⟨rfl, g12⟩
     rcases Bool.eq_false_or_eq_true ((decide (x ≠ []) && decide (decL (valTo x x.length) = x))) with hb12 | hb12; rotate_left
     ·refine .inr ⟨_, by rw [hb12]; rfl, postP ?_⟩
      exact ⟨.inr ⟨bad (numL_none (by rw [hb12]; decide)), x, rfl⟩, ((G3.step0 g4).step0 g6).step0 (g11.step0 g12)⟩
     refine .inl ⟨_, by rw [hb12]; rfl, ?_⟩
     have hnum := numL_some hb12 hle hd'
     replace g6 := (g6.step0 g11).step0 g12
     replace hrow := hrow.step0 g6
     replace g4 := g4.step0 g6
     refine o_end (k18 _ _ ?_)
     refine s_region ?_
     refine o_v v_move ?_
     refine o_v v_move ?_
     refine o_bslice rfl (fun W => bls56_1 W) ?_; intro w13 B73 g13 z13
     replace hrow := hrow.step0 g13; replace g4 := g4.step0 g13
     refine o_append1 (t := Ty.int) (p := valTo x x.length) rfl rfl hrow B73 Tryz.underlying56 info3 rfl rfl (fun k hk => by have := g4.size; omega) (by omega) (by decide) ?_
     intro rv' wa hrowa ga hat
     have G14 : w3.grownBy wa none := grown_ownO g4 ga (fun b hb => hrow.1 b hb)
     refine o_v v_assign ?_
     refine o_end ?_
     refine k9 _ _ ?_
     refine s_region ?_
     refine o_v (v_add rfl rfl (by omega)) ?_
     refine o_v v_move ?_
     refine o_end ?_
     refine mid (i + 1, ns ++ [valTo x x.length], rv') ?_ ?_ ?_
     ·repeat (first | exact off_refl | refine off_cons rfl ?_)
     ·exact ⟨rfl, rfl, trivial⟩
     ·refine ⟨⟨⟨hlt, ?_, hrowa⟩, G14⟩, by simp only; omega⟩
      simp only
      rw [List.take_succ_eq_append_getElem hlt, ← hx]
      exact allL_snoc hns hnum
  ·obtain rfl : i = l.length := by omega
   rw [List.take_of_length_le (Nat.le_refl _)] at hns
   refine s_exit ?_
   refine k5 _ _ ?_
   refine s_rseq fun _ k19 => ?_
   refine o_v v_move ?_
   refine o_v v_assign ?_
   refine o_end (k19 _ _ ?_)
   refine s_ret (post1 rfl ?_)
   exact ⟨.inl ⟨ns, rv, by rw [htold]; exact hns, rfl, hrow.mono fun k hk => by have := G3.size; omega⟩, G3.step0 g4⟩
end Go.Proofs.NV
namespace Go.Proofs.NV
open Go.RowKit Go.Shelf
attribute [local irreducible] bodyPost bodyPostM wpQuiet
theorem allL_mem {α β : Type} {f : α → Option β} : ∀ {l : List α} {bs : List β}, allL f l = some bs → ∀ b ∈ bs, ∃ a ∈ l, f a = some b
 | [], bs, h, b, hb => by injection h with h; subst h; cases hb
 | a :: l, bs, h, b, hb => by
  rw [allL] at h
  cases hc : f a with
  | none => rw [hc] at h; cases h
  | some y =>
   rw [hc, Option.bind_some] at h
   cases hl : allL f l with
   | none => rw [hl] at h; cases h
   | some ys =>
    rw [hl, Option.map_some] at h
    injection h with h
    subst h
    rcases List.mem_cons.1 hb with rfl | hb
    ·exact ⟨a, List.mem_cons_self .., hc⟩
    ·obtain ⟨c, h1, h2⟩ := allL_mem hl b hb
     exact ⟨c, List.mem_cons_of_mem _ h1, h2⟩
theorem told_ok {row word : List UInt8} {many : Nat} {ns : List Int} (h : toldL row word many = some ns) : ns.length = many ∧ ∀ n ∈ ns, 0 ≤ n ∧ n < 100 := by
 unfold toldL at h
 split at h
 ·rename_i hh
  refine ⟨?_, fun n hn => ?_⟩
  ·rw [allL_len h, List.length_drop, hh.1]; omega
  ·obtain ⟨a, _, ha⟩ := allL_mem h n hn
   exact numL_range ha
 ·cases h
theorem splitL_part (c : UInt8) : ∀ (s r : List UInt8), r ∈ splitL c s → r.length ≤ s.length
 | [], r, h => by
  rw [splitL, List.mem_singleton] at h
  subst h
  exact Nat.le_refl _
 | b :: s, r, h => by
  rw [splitL] at h
  split at h
  ·rcases List.mem_cons.1 h with rfl | h
   ·simp
   ·have := splitL_part c s r h; simp only [List.length_cons]; omega
  ·split at h
   ·rw [List.mem_singleton] at h
    subst h
    simp
   ·rename_i p ps hp
    rcases List.mem_cons.1 h with rfl | h
    ·have := splitL_part c s p (by rw [hp]; exact List.mem_cons_self ..)
     simp only [List.length_cons]; omega
    ·have := splitL_part c s r (by rw [hp]; exact List.mem_cons_of_mem _ h)
     simp only [List.length_cons]; omega
def addRow (b : Book) (r : List UInt8) : Option Book := if prefB r goodW = true then (toldL r goodW 1).map fun n => { b with goods := b.goods ++ [n[0]?.getD 0] } else (toldL r entryW 3).map fun n => { b with ents := b.ents ++ [⟨n[0]?.getD 0, n[1]?.getD 0, n[2]?.getD 0⟩] }
def rowsTo (l : List (List UInt8)) (b : Book) : Nat → Option Book
 | 0 => some b
 | k + 1 => (rowsTo l b k).bind fun b => addRow b (l[k]?.getD [])
def headOf (r : List UInt8) : Option Book := (toldL r bookW 2).map fun n => ⟨[], n[0]?.getD 0, n[1]?.getD 0, []⟩
def midL (rows : List (List UInt8)) : List (List UInt8) := (rows.take (rows.length - 2)).drop 1
def parsedL (s : List UInt8) : Option Book := if 3 ≤ (splitL 10 s).length then (headOf ((splitL 10 s)[0]?.getD [])).bind fun b0 => (rowsTo (midL (splitL 10 s)) b0 (midL (splitL 10 s)).length).bind fun b => if textL b = s then some b else none else none
theorem rowsTo_none {l : List (List UInt8)} {b : Book} {k : Nat} (h : rowsTo l b k = none) : ∀ m, rowsTo l b (k + m) = none
 | 0 => h
 | m + 1 => by rw [← Nat.add_assoc, rowsTo, rowsTo_none h m]; rfl
structure BookSm (b : Book) (k : Nat) : Prop where
 few : b.goods.length + b.ents.length ≤ k
 hd : (0 ≤ b.ed ∧ b.ed < 100) ∧ 0 ≤ b.mv ∧ b.mv < 100
 gs : ∀ g ∈ b.goods, 0 ≤ g ∧ g < 100
 es : ∀ x ∈ b.ents, (0 ≤ x.ed ∧ x.ed < 100) ∧ (0 ≤ x.num ∧ x.num < 100) ∧ 0 ≤ x.good ∧ x.good < 100
theorem BookSm.lns {b : Book} {k : Nat} (h : BookSm b k) (hk : k ≤ 900) : LnsOk (linesL b) := by
 refine ⟨by have := linesL_len b; have := h.few; omega, fun l hl n hn => ?_⟩
 unfold linesL linesTo at hl
 rcases List.mem_append.1 hl with hl | hl
 ·rcases List.mem_cons.1 hl with rfl | hl
  ·simp only [Ln.nums, List.mem_cons, List.not_mem_nil, or_false] at hn
   rcases hn with rfl | rfl
   ·exact h.hd.1
   ·exact h.hd.2
  ·obtain ⟨g, hg, rfl⟩ := List.mem_map.1 hl
   simp only [Ln.nums, List.mem_cons, List.not_mem_nil, or_false] at hn
   subst hn
   exact h.gs _ (List.mem_of_mem_take hg)
 ·obtain ⟨x, hx, rfl⟩ := List.mem_map.1 hl
  have := h.es _ (List.mem_of_mem_take hx)
  simp only [Ln.nums, List.mem_cons, List.not_mem_nil, or_false] at hn
  rcases hn with rfl | rfl | rfl
  ·exact this.1
  ·exact this.2.1
  ·exact this.2.2
theorem BookSm.good {b : Book} {k : Nat} (h : BookSm b k) {x : Int} (hx : 0 ≤ x ∧ x < 100) : BookSm { b with goods := b.goods ++ [x] } (k + 1) := by
 refine ⟨by have := h.few; simp only [List.length_append, List.length_singleton]; omega, h.hd, fun g hg => ?_, h.es⟩
 rcases List.mem_append.1 hg with hg | hg
 ·exact h.gs g hg
 ·rw [List.mem_singleton.1 hg]; exact hx
theorem BookSm.ent {b : Book} {k : Nat} (h : BookSm b k) {x : Entry} (hx : (0 ≤ x.ed ∧ x.ed < 100) ∧ (0 ≤ x.num ∧ x.num < 100) ∧ 0 ≤ x.good ∧ x.good < 100) : BookSm { b with ents := b.ents ++ [x] } (k + 1) := by
 refine ⟨by have := h.few; simp only [List.length_append, List.length_singleton]; omega, h.hd, h.gs, fun g hg => ?_⟩
 rcases List.mem_append.1 hg with hg | hg
 ·exact h.es g hg
 ·rw [List.mem_singleton.1 hg]; exact hx
def ParsedR (s : List UInt8) (w w' : World) (e : Ending) : Prop :=
 (∃ b gA gc eA ec, parsedL s = some b ∧ e = .returned (.agg (b.cells gA gc eA ec).toArray) ∧ BookIn w' (fun k => w.heap.size ≤ k) b gA gc eA ec) ∨ (parsedL s = none ∧ ∃ u, e = .panicked [noneV u])
theorem info148 : (Tryz.prog.info? 148).map (fun i => (i.zero, i.size, i.bytes)) = some (some (.agg #[.int .i64 0]), 1, 8) := by kernel_rfl
theorem info99 : (Tryz.prog.info? 99).map (fun i => (i.zero, i.size, i.bytes)) = some (some (.agg #[.int .i64 0, .int .i64 0, .int .i64 0]), 3, 24) := by kernel_rfl
theorem zero25 : (Value.agg #[.slice none 0 0, I 0, I 0, .slice none 0 0]).cells.toList = [.slice none 0 0, I 0, I 0, .slice none 0 0] := rfl
structure Rd (kb base : Nat) (b : Book) (gv ev : Value) (W : World) : Prop where
 blk : Blk W kb [gv, I b.ed, I b.mv, ev] 25
 gr : Ty.int.Row 148 W (fun k => base ≤ k ∧ k ≠ kb ∧ ev.ownBlock ≠ some k) gv b.goods
 er : entT.Row 99 W (fun k => base ≤ k ∧ k ≠ kb ∧ gv.ownBlock ≠ some k) ev b.ents
theorem Rd.step0 {kb base : Nat} {b : Book} {gv ev : Value} {W W' : World} (h : Rd kb base b gv ev W) (g : W.grownBy W' none) : Rd kb base b gv ev W' := ⟨h.blk.step0 g, h.gr.step0 g, h.er.step0 g⟩
theorem Ty.Row.slice {α : Type} {t : Ty α} {e : TypeId} {w : World} {S : Nat → Prop} {v : Value} {xs : List α} (h : t.Row e w S v xs) : ∃ A c, v = .slice A xs.length c := by
 obtain ⟨A, c, h, _⟩ := h.reads
 exact ⟨A, c, h⟩
theorem Rd.book {kb base : Nat} {b : Book} {gv ev : Value} {W : World} (h : Rd kb base b gv ev W) : ∃ gA gc eA ec, gv = .slice gA b.goods.length gc ∧ ev = .slice eA b.ents.length ec ∧ BookIn W (fun k => base ≤ k ∧ k ≠ kb) b gA gc eA ec := by
 obtain ⟨gA, gc, rfl, g1, g2, g3⟩ := h.gr.reads
 obtain ⟨eA, ec, rfl, e1, e2, e3⟩ := h.er.reads
 exact ⟨gA, gc, eA, ec, rfl, rfl, g3.mono fun k hk => ⟨hk.1, hk.2.1⟩, ⟨g1, g2⟩, e3.mono fun k hk => ⟨hk.1, hk.2.1⟩, ⟨e1, e2⟩⟩
theorem Rd.good {kb base : Nat} {b : Book} {gv gv' ev : Value} {W W1 W2 : World} {x : Int} (h : Rd kb base b gv ev W) (hr : Ty.int.Row 148 W1 (fun k => base ≤ k ∧ k ≠ kb ∧ ev.ownBlock ≠ some k) gv' (b.goods ++ [x])) (g1 : W.grownBy W1 gv.ownBlock) (hat : gv'.ownBlock = gv.ownBlock ∨ gv'.ownBlock = some W.heap.size) (B : Blk W2 kb [gv', I b.ed, I b.mv, ev] 25) (g2 : W1.grownBy W2 (some kb)) : Rd kb base { b with goods := b.goods ++ [x] } gv' ev W2 := by
 refine ⟨B, hr.step g2 fun k hk e => hk.2.1 (by injection e), ?_⟩
 have h1 : entT.Row 99 W2 (fun k => (base ≤ k ∧ k ≠ kb ∧ gv.ownBlock ≠ some k) ∧ IsC W k) ev b.ents := (h.er.bound.step g1 (fun k hk e => hk.1.2.2 e.symm)).step g2 fun k hk e => hk.1.2.1 (by injection e)
 refine h1.mono fun k hk => ⟨hk.1.1, hk.1.2.1, fun e => ?_⟩
 rcases hat with ha | ha
 ·exact hk.1.2.2 (ha ▸ e)
 ·rw [ha] at e; injection e with e; have := hk.2.lt; omega
theorem Rd.ent {kb base : Nat} {b : Book} {gv ev ev' : Value} {W W1 W2 : World} {x : Entry} (h : Rd kb base b gv ev W) (hr : entT.Row 99 W1 (fun k => base ≤ k ∧ k ≠ kb ∧ gv.ownBlock ≠ some k) ev' (b.ents ++ [x])) (g1 : W.grownBy W1 ev.ownBlock) (hat : ev'.ownBlock = ev.ownBlock ∨ ev'.ownBlock = some W.heap.size) (B : Blk W2 kb [gv, I b.ed, I b.mv, ev'] 25) (g2 : W1.grownBy W2 (some kb)) : Rd kb base { b with ents := b.ents ++ [x] } gv ev' W2 := by
 refine ⟨B, ?_, hr.step g2 fun k hk e => hk.2.1 (by injection e)⟩
 have h1 : Ty.int.Row 148 W2 (fun k => (base ≤ k ∧ k ≠ kb ∧ ev.ownBlock ≠ some k) ∧ IsC W k) gv b.goods := (h.gr.bound.step g1 (fun k hk e => hk.1.2.2 e.symm)).step g2 fun k hk e => hk.1.2.1 (by injection e)
 refine h1.mono fun k hk => ⟨hk.1.1, hk.1.2.1, fun e => ?_⟩
 rcases hat with ha | ha
 ·exact hk.1.2.2 (ha ▸ e)
 ·rw [ha] at e; injection e with e; have := hk.2.lt; omega
theorem rowsTo_succ {l : List (List UInt8)} {b0 b : Book} {k : Nat} (h : rowsTo l b0 k = some b) (hk : k < l.length) : rowsTo l b0 (k + 1) = addRow b l[k] := by
 rw [rowsTo, h, Option.bind_some, List.getElem?_eq_getElem hk, Option.getD_some]
theorem addRow_good {b : Book} {r : List UInt8} {x : Int} {ns : List Int} (hp : prefB r goodW = true) (ht : toldL r goodW 1 = some ns) (hx : ns[0]?.getD 0 = x) : addRow b r = some { b with goods := b.goods ++ [x] } := by
 unfold addRow; rw [if_pos hp, ht, Option.map_some, hx]
theorem addRow_ent {b : Book} {r : List UInt8} {x y z : Int} {ns : List Int} (hp : ¬ prefB r goodW = true) (ht : toldL r entryW 3 = some ns) (hx : ns[0]?.getD 0 = x) (hy : ns[1]?.getD 0 = y) (hz : ns[2]?.getD 0 = z) : addRow b r = some { b with ents := b.ents ++ [⟨x, y, z⟩] } := by
 unfold addRow; rw [if_neg hp, ht, Option.map_some, hx, hy, hz]
theorem getD_get {ns : List Int} {i : Nat} (h : i < ns.length) : ns[i]?.getD 0 = ns[i] := by rw [List.getElem?_eq_getElem h]; rfl
attribute [local irreducible] splitL toldL textL rowsTo addRow headOf prefB linesL
theorem f119_calls (s : List UInt8) (w : World) (hs : s.length ≤ 300) :
  Calls Tryz.prog 119 #[.string (bs s)] w fun e w' => ParsedR s w w' e ∧ w.grownBy w' none := by
 refine s_enter (n := 86) Tryz.func119 rfl rfl rfl ?_
 have G := grown_refl w none
 refine s_rseq fun _ k1 => ?_
 refine o_alloc (t := 25) ze25 rfl ?_; intro w1 B2 g1 z1
 replace G := G.step0 g1
 refine o_end (k1 _ _ ?_)
 refine s_rseq fun _ k2 => ?_
 refine o_v v_move ?_
 refine o_call rfl rfl ent166 (f166_calls s 10 w1 (by omega)) ?_; rintro _ w2 ⟨rfl, Bs, g2⟩; refine ⟨_, rfl, ?_⟩
 have hSs : strT.Sl w2 (fun _ => True) (some ⟨w1.heap.size, 0, none⟩) (splitL 10 s) := Bs.strs trivial
 clear Bs
 have hwl : (splitL 10 s).length ≤ 301 := by rw [splitL_len]; have : s.count 10 ≤ s.length := List.count_le_length; omega
 have hrl : ∀ r ∈ splitL 10 s, r.length ≤ 300 := fun r hr => Nat.le_trans (splitL_part 10 s r hr) hs
 obtain ⟨rows, hrows⟩ : ∃ rows, rows = splitL 10 s := ⟨_, rfl⟩
 have hpar : parsedL s = if 3 ≤ rows.length then (headOf (rows[0]?.getD [])).bind fun b0 => (rowsTo (midL rows) b0 (midL rows).length).bind fun b => if textL b = s then some b else none else none := by rw [hrows]; rfl
 rw [← hrows] at hSs hwl hrl
 rw [← hrows]
 replace G := G.step0 g2; replace B2 := B2.step0 g2
 refine o_v v_assign ?_
 refine o_end (k2 _ _ ?_)
 refine s_rseq fun _ k3 => ?_
 refine o_v v_move ?_
 refine o_v (v_len rfl Tryz.underlying186) ?_
 refine o_v (v_geq rfl rfl) ?_
 refine o_v v_move ?_
 refine o_callP rfl rfl ent167 (f167_calls (decide ((3 : Int) ≤ (rows.length : Int))) s w2) ?_; rintro _ w3 ⟨rfl, g3⟩
 rcases Bool.eq_false_or_eq_true (decide ((3 : Int) ≤ (rows.length : Int))) with hb3 | hb3; rotate_left
 ·refine .inr ⟨_, by rw [hb3]; rfl, postP ?_⟩
  refine ⟨.inr ⟨?_, s, rfl⟩, G.step0 g3⟩
  rw [hpar, if_neg]
  rw [decide_eq_false_iff_not] at hb3
  omega
 refine .inl ⟨_, by rw [hb3]; rfl, ?_⟩
 have h3 : 3 ≤ rows.length := by rw [decide_eq_true_eq] at hb3; omega
 rw [if_pos h3] at hpar
 replace hSs := hSs.step0 g3
 replace G := G.step0 g3; replace B2 := B2.step0 g3
 refine o_end (k3 _ _ ?_)
 refine s_rseq fun _ k4 => ?_
 refine o_call rfl rfl ent161 ((f161_calls w3)) ?_; rintro _ w4 ⟨rfl, g4⟩; refine ⟨_, rfl, ?_⟩
 replace G := G.step0 g4; replace B2 := B2.step0 g4
 refine o_allocst (vs := wordsV) ze220 rfl rfl rfl sz220 rfl rfl rfl ?_; intro w5 B4 g5 z5
 replace G := G.step0 g5; replace B2 := B2.step0 g5
 replace hSs := (hSs.step0 g4).step0 g5
 obtain ⟨rb, ro, hA0, hr0⟩ := hSs.str 0 (by omega)
 obtain ⟨rfl, rfl⟩ : w1.heap.size = rb ∧ 0 = ro := by injection hA0 with hA0; injection hA0 with h1 h2; exact ⟨h1, h2⟩
 obtain ⟨r0, hr0e⟩ : ∃ r, r = rows[0]'(by omega) := ⟨_, rfl⟩
 have hr0l := hrl _ (List.getElem_mem (show 0 < rows.length by omega))
 rw [← hr0e] at hr0 hr0l
 rw [List.getElem?_eq_getElem (show 0 < rows.length by omega), Option.getD_some, ← hr0e] at hpar
 have hbk : wordsV[0 + (0 : Int).toNat * 1]? = some (strV bookW) := rfl
 refine o_end (k4 _ _ ?_)
 refine s_seq fun _ k5 => ?_; refine s_quietT 5 mixed (by kernel_rfl) (by kernel_rfl) ?_
 refine q_v (fun _ gq => v_move) ?_
 refine q_v (fun _ gq => v_index rfl rfl slt186 (by omega)) ?_
 refine q_v (fun _ gq => v_loadC rfl sc9 (cell0 gq hr0)) ?_
 refine q_v (fun _ gq => v_indexP (sz := 1) rfl rfl Tryz.underlying220 (by kernel_rfl) (by omega)) ?_
 refine q_v (fun _ gq => v_loadC rfl sc9 (cell0 gq (B4.cell _))) ?_
 refine q_end (fun w6 g6 => ?_)
 refine o_callP rfl rfl ent168 (f168_calls (r0) bookW 2 w6 (by omega) (by decide)) ?_; rintro et w7 ⟨htR, g7⟩
 rcases htR with ⟨ns, tv, hns, rfl, htrow⟩ | ⟨hns, u, rfl⟩; rotate_left
 ·refine .inr ⟨_, rfl, postP ?_⟩
  refine ⟨.inr ⟨?_, u, rfl⟩, (G.step0 g6).step0 g7⟩
  rw [hpar]
  unfold headOf
  rw [hns]
  rfl
 refine .inl ⟨_, rfl, ?_⟩
 obtain ⟨hnl, hnr⟩ := told_ok hns
 obtain ⟨tA, tc, rfl, _, _, htS⟩ := htrow.reads
 rw [hnl]
 refine o_v v_assign ?_
 refine o_end (k5 _ _ ?_)
 replace G := (G.step0 g6).step0 g7; replace B2 := (B2.step0 g6).step0 g7; replace B4 := (B4.step0 g6).step0 g7; replace hSs := (hSs.step0 g6).step0 g7
 obtain ⟨tb, to, rfl, hn0⟩ := htS.int 0 (by omega)
 obtain ⟨tb1, to1, hA1, hn1⟩ := htS.int 1 (by omega)
 obtain ⟨e1, e2⟩ : tb = tb1 ∧ to = to1 := by injection hA1 with hA; injection hA with h1 h2; exact ⟨h1, h2⟩
 rw [← e1, ← e2] at hn1
 clear hA1 e1 e2
 obtain ⟨n0, hnn0⟩ : ∃ x, x = ns[0]'(by omega) := ⟨_, rfl⟩
 rw [← hnn0] at hn0
 have hnr0 := hnr _ (List.getElem_mem (show 0 < ns.length by omega))
 rw [← hnn0] at hnr0
 have hnd0 : ns[0]?.getD 0 = n0 := by rw [getD_get (by omega), hnn0]
 obtain ⟨n1, hnn1⟩ : ∃ x, x = ns[1]'(by omega) := ⟨_, rfl⟩
 rw [← hnn1] at hn1
 have hnr1 := hnr _ (List.getElem_mem (show 1 < ns.length by omega))
 rw [← hnn1] at hnr1
 have hnd1 : ns[1]?.getD 0 = n1 := by rw [getD_get (by omega), hnn1]
 have hhead : headOf r0 = some ⟨[], n0, n1, []⟩ := by unfold headOf; rw [hns, Option.map_some, hnd0, hnd1]
 rw [hhead, Option.bind_some] at hpar
 clear htS htrow hnr
 refine s_seq fun _ k6 => ?_
 refine s_anyD 8 [25, 26, 27, 28, 29, 30, 31, 6] [[], [(0, some 25)], [(1, some 26)], [], [(3, some 28)], [(4, some 29)], [(2, some 27), (5, some 30)], []] [(6, some 31), (7, some 6)] (fun W => w7.grownBy W none) (fun _ => G0) []
  [([], fun _ v W => v = .slice (some ⟨tb, to, none⟩) 2 tc), ([], fun _ v W => v = .pointer (some ⟨tb, to + 0 * 1, none⟩)), ([], fun _ v W => v = I n0), ([], fun _ v W => v = .slice (some ⟨tb, to, none⟩) 2 tc), ([], fun _ v W => v = .pointer (some ⟨tb, to + 1 * 1, none⟩)), ([], fun _ v W => v = I n1), ([], fun _ v W => v = .agg #[.slice none 0 0, I n0, I n1, .slice none 0 0]), ([], fun _ v W => ∃ k, v = .pointer (some ⟨k, 0, none⟩) ∧ w7.heap.size ≤ k ∧ Blk W k [.slice none 0 0, I 0, I 0, .slice none 0 0] 25)]
  mixed (by kernel_rfl) (by kernel_rfl) (by kernel_rfl) (by kernel_rfl) (by kernel_rfl) g0_drawn ?_ ?_ ?_ ?_
 ·exact fun k W1 W2 hC hS => World.grownBy.trans hC hS
 ·intro i k v W1 W2 vs hik hd p hp h hS
  rcases i with _ | _ | _ | _ | _ | _ | _ | _ | i
  ·cases hp; exact h
  ·cases hp; exact h
  ·cases hp; exact h
  ·cases hp; exact h
  ·cases hp; exact h
  ·cases hp; exact h
  ·cases hp; exact h
  ·cases hp; obtain ⟨k, h1, h2, h3⟩ := h; exact ⟨k, h1, h2, h3.step0 hS⟩
  ·simp at hp
 ·refine ⟨?_, ?_, ?_, ?_, ?_, ?_, ?_, ?_, trivial⟩
  ·rintro jv W hC
   exact o_v v_move (o_end (opD_done (grown_refl _ _) rfl))
  ·rintro jv W hC _ rfl
   exact o_v (v_index rfl rfl slt56 (by omega)) (o_end (opD_done (grown_refl _ _) rfl))
  ·rintro jv W hC _ rfl
   exact o_v (v_loadC rfl sc3 (cell0 hC hn0)) (o_end (opD_done (grown_refl _ _) rfl))
  ·rintro jv W hC
   exact o_v v_move (o_end (opD_done (grown_refl _ _) rfl))
  ·rintro jv W hC _ rfl
   exact o_v (v_index rfl rfl slt56 (by omega)) (o_end (opD_done (grown_refl _ _) rfl))
  ·rintro jv W hC _ rfl
   exact o_v (v_loadC rfl sc3 (cell0 hC hn1)) (o_end (opD_done (grown_refl _ _) rfl))
  ·rintro jv W hC _ rfl _ rfl
   exact o_v (v_build rfl (fun W => bld25_12 W)) (o_end (opD_done (grown_refl _ _) rfl))
  ·rintro jv W hC
   refine o_alloc (t := 25) ze25 rfl ?_; intro wb Bb gb zb
   exact o_end (opD_done gb ⟨_, rfl, hC.size, Bb⟩)
 rintro jv w9 g9 _ rfl _ ⟨kb, rfl, hkb, B6⟩
 refine o_storeB (vs := [.slice none 0 0, I n0, I n1, .slice none 0 0]) rfl rfl sz25 rfl B6 rfl rfl ?_; intro wC BC gC zC
 have GC : w7.grownBy wC none := grown_own g9 gC hkb
 have hlow := B2.lt
 clear B6
 refine o_end (k6 _ _ ?_)
 refine s_seq fun _ k7 => ?_
 refine s_rseq fun _ k8 => ?_
 refine o_v v_move ?_
 refine o_v v_move ?_
 refine o_v (v_len rfl Tryz.underlying186) ?_
 refine o_v (v_sub rfl rfl (by omega)) ?_
 refine o_v (v_sliceLH (i := 1) (j := rows.length - 2) rfl rfl (by exact congrArg (Value.int .i64) (by omega)) slt186 (by omega)) ?_
 have hl0 : (midL rows).length = rows.length - 2 - 1 := by unfold midL; rw [List.length_drop, List.length_take]; omega
 obtain ⟨l, hl⟩ : ∃ l, l = midL rows := ⟨_, rfl⟩
 rw [← hl] at hl0 hpar
 have hSl := (hSs.take (rows.length - 2)).drop 1 (c := rows.length) (by rw [List.length_take]; omega)
 rw [show (rows.take (rows.length - 2)).drop 1 = l from hl.symm] at hSl
 have hll : ∀ r ∈ l, r.length ≤ 300 := fun r hr => hrl r (by rw [hl] at hr; exact List.mem_of_mem_take (List.mem_of_mem_drop hr))
 rw [← hl0]
 refine o_v (v_len rfl Tryz.underlying186) ?_
 refine o_v v_move ?_
 refine o_end (k8 _ _ ?_)
 refine s_block ?_
 have hrow0 : rowsTo l ⟨[], n0, n1, []⟩ 0 = some ⟨[], n0, n1, []⟩ := by with_unfolding_all rfl
 have hSl0 := hSl
 have B40 := B4
 have GG := G
 refine s_loop (G := Nat × Book × Value × Value) (fun g => [(38, I g.1)]) [38] [8, 9, 10, 39, 40, 41, 42, 43, 44, 45, 46, 47, 48, 49, 50, 51, 52, 53, 54, 55, 56, 57, 58, 59, 60, 61, 62, 63, 64, 65, 66, 67, 68, 69, 70, 71, 72, 73, 74, 75, 76, 77, 78] (fun g W => (g.1 ≤ l.length ∧ rowsTo l ⟨[], n0, n1, []⟩ g.1 = some g.2.1 ∧ Rd kb w7.heap.size g.2.1 g.2.2.1 g.2.2.2 W ∧ BookSm g.2.1 g.1) ∧ w7.grownBy W none) (fun g => l.length - g.1) (fun _ => rfl) (0, ⟨[], n0, n1, []⟩, .slice none 0 0, .slice none 0 0) ⟨rfl, trivial⟩ ⟨⟨Nat.zero_le _, hrow0, ⟨BC, Ty.Row.nil _ _ _ _, Ty.Row.nil _ _ _ _⟩, ⟨Nat.le_refl _, ⟨hnr0, hnr1⟩, fun g h => (by cases h), fun g h => (by cases h)⟩⟩, GC⟩ ?_
 clear BC gC g9 G B4 hSl hSs
 rintro ⟨i, b, gv, ev⟩ jv w10 ⟨⟨hi, hrw, hrd, hsm⟩, g10⟩
 simp only at hi hrw hrd hsm ⊢
 refine s_rseq fun _ k9 => ?_
 refine o_v (v_lss rfl rfl) ?_
 refine o_end (k9 _ _ ?_)
 refine s_seq fun _ k10 => ?_
 refine s_ifd rfl (fun c10 => ?_) (fun c10 => ?_)
 ·have hlt : i < l.length := by omega
  obtain ⟨bx, ox, hAx, hcx⟩ := (hSl0.step0 g10).str i hlt
  obtain ⟨r, hre⟩ : ∃ r, r = l[i] := ⟨_, rfl⟩
  have hrl' := hll _ (List.getElem_mem hlt)
  rw [← hre] at hcx hrl'
  have hstep := rowsTo_succ hrw hlt
  rw [← hre] at hstep
  have hfew := hsm.few
  have bad : addRow b r = none → parsedL s = none := fun h => by
   rw [hpar]
   have := rowsTo_none (k := i + 1) (by rw [hstep]; exact h) (l.length - (i + 1))
   rw [show i + 1 + (l.length - (i + 1)) = l.length by omega] at this
   rw [this]
   rfl
  refine s_skip ?_
  refine k10 _ _ ?_
  refine s_seq fun _ k11 => ?_
  refine s_block ?_
  refine s_rseq fun _ k12 => ?_
  refine o_v (v_index (b := bx) (o := ox) (by exact congrArg (fun A => Value.slice A _ _) hAx) rfl slt186 (by omega)) ?_
  refine o_v (v_loadC rfl sc9 hcx) ?_
  refine o_v v_assign ?_
  refine o_end (k12 _ _ ?_)
  refine s_seq fun _ k13 => ?_
  have B4 := B40.step0 g10
  have hgw : wordsV[0 + (1 : Int).toNat * 1]? = some (strV goodW) := rfl
  have hew : wordsV[0 + (2 : Int).toNat * 1]? = some (strV entryW) := rfl
  refine s_rseq fun _ k14 => ?_
  refine o_v v_move ?_
  refine o_v (v_indexP (sz := 1) rfl rfl Tryz.underlying220 (by kernel_rfl) (by omega)) ?_
  refine o_v (v_loadC rfl sc9 ((B4.cell _).trans hgw)) ?_
  refine o_call rfl rfl ent169 ((f169_calls r goodW w10)) ?_; rintro _ w11 ⟨rfl, g11⟩; refine ⟨_, rfl, ?_⟩
  replace g10 := g10.step0 g11; replace B4 := B4.step0 g11; replace hrd := hrd.step0 g11
  refine o_end (k14 _ _ ?_)
  refine s_if rfl (fun c14 => ?_) (fun c14 => ?_)
  ·refine s_rseq fun _ k15 => ?_
   refine o_v v_move ?_
   refine o_v (v_indexP (sz := 1) rfl rfl Tryz.underlying220 (by kernel_rfl) (by omega)) ?_
   refine o_v (v_loadC rfl sc9 ((B4.cell _).trans hgw)) ?_
   refine o_callP rfl rfl ent168 (f168_calls (r) goodW 1 w11 (by omega) (by decide)) ?_; rintro et w12 ⟨htR, g12⟩
   rcases htR with ⟨ns, tv, hns, rfl, htrow⟩ | ⟨hns, u, rfl⟩; rotate_left
   ·refine .inr ⟨_, rfl, postP ?_⟩
    refine ⟨.inr ⟨bad ?_, u, rfl⟩, (GG.step0 g10).step0 g12⟩
    unfold addRow
    rw [if_pos c14, hns]
    rfl
   refine .inl ⟨_, rfl, ?_⟩
   obtain ⟨hnl, hnr⟩ := told_ok hns
   obtain ⟨tA, tc, rfl, _, _, htS⟩ := htrow.reads
   rw [hnl]
   replace g10 := g10.step0 g12; replace hrd := hrd.step0 g12
   obtain ⟨tb, to, rfl, hn0⟩ := htS.int 0 (by omega)
   obtain ⟨n0, hnn0⟩ : ∃ x, x = ns[0]'(by omega) := ⟨_, rfl⟩
   rw [← hnn0] at hn0
   have hnr0 := hnr _ (List.getElem_mem (show 0 < ns.length by omega))
   rw [← hnn0] at hnr0
   have hnd0 : ns[0]?.getD 0 = n0 := by rw [getD_get (by omega), hnn0]
   refine o_v v_assign ?_
   refine o_end (k15 _ _ ?_)
   refine s_seq fun _ k16 => ?_
   refine s_anyD 7 [50, 51, 52, 53, 54, 55, 56] [[], [(0, some 50)], [], [(2, some 52)], [(3, some 53)], [(4, some 54)], [(5, some 55)]] [(1, some 51), (6, some 56)] (fun W => w12.grownBy W none) (fun _ => G0) []
    [([], fun _ v W => v = .pointer (some ⟨kb, 0 + 0, none⟩)), ([], fun _ v W => v = gv), ([], fun _ v W => v = .slice (some ⟨tb, to, none⟩) 1 tc), ([], fun _ v W => v = .pointer (some ⟨tb, to + 0 * 1, none⟩)), ([], fun _ v W => v = I n0), ([], fun _ v W => v = .agg #[I n0]), ([], fun _ v W => ∃ k, v = .slice (some ⟨k, 0, none⟩) 1 1 ∧ Blk W k [I n0] 148)]
    mixed (by kernel_rfl) (by kernel_rfl) (by kernel_rfl) (by kernel_rfl) (by kernel_rfl) g0_drawn ?_ ?_ ?_ ?_
   ·exact fun k W1 W2 hC hS => World.grownBy.trans hC hS
   ·intro i k v W1 W2 vs hik hd p hp h hS
    rcases i with _ | _ | _ | _ | _ | _ | _ | i
    ·cases hp; exact h
    ·cases hp; exact h
    ·cases hp; exact h
    ·cases hp; exact h
    ·cases hp; exact h
    ·cases hp; exact h
    ·cases hp; obtain ⟨k, h1, h2⟩ := h; exact ⟨k, h1, h2.step0 hS⟩
    ·simp at hp
   ·refine ⟨?_, ?_, ?_, ?_, ?_, ?_, ?_, trivial⟩
    ·rintro jv W hC
     exact o_v (v_field rfl fld25_0) (o_end (opD_done (grown_refl _ _) rfl))
    ·rintro jv W hC _ rfl
     exact o_v (v_loadB rfl sc22 (hrd.blk.step0 hC) rfl) (o_end (opD_done (grown_refl _ _) rfl))
    ·rintro jv W hC
     exact o_v v_move (o_end (opD_done (grown_refl _ _) rfl))
    ·rintro jv W hC _ rfl
     exact o_v (v_index rfl rfl slt56 (by omega)) (o_end (opD_done (grown_refl _ _) rfl))
    ·rintro jv W hC _ rfl
     exact o_v (v_loadC rfl sc3 (cell0 hC hn0)) (o_end (opD_done (grown_refl _ _) rfl))
    ·rintro jv W hC _ rfl
     exact o_v (v_build rfl (fun W => bld148_0 W)) (o_end (opD_done (grown_refl _ _) rfl))
    ·rintro jv W hC _ rfl
     refine o_bslice rfl (fun W => bls22_1 W) ?_; intro wb Bb gb zb
     exact o_end (opD_done gb ⟨_, rfl, Bb⟩)
   rintro jv w13 g13 _ rfl _ ⟨k1, rfl, Bn⟩
   replace g10 := g10.step0 g13; replace hrd := hrd.step0 g13
   have hgb := hrd.gr.bound
   have heb := hrd.er.bound
   have hkl := hrd.blk.lt
   have h7 := g10.size
   refine o_append1 (t := Ty.int) (p := n0) rfl rfl hrd.gr Bn Tryz.underlying22 info148 rfl rfl (fun k hk => ⟨by omega, by omega, fun e => by have := (heb.1 k e).2.lt; omega⟩) (by omega) (by decide) ?_
   intro gv' wa hrowa ga hat
   obtain ⟨gA', gc', hgv⟩ := hrowa.slice
   refine o_v (v_field rfl fld25_0) ?_
   refine o_storeB (vs := [gv']) rfl (by rw [hgv]; rfl) sz22 rfl (hrd.blk.step ga (fun e => (hrd.gr.1 _ e.symm).2.1 rfl)) rfl (by rw [hgv]; rfl) ?_; intro wd Bd gd zd
   have hrd' : Rd kb w7.heap.size { b with goods := b.goods ++ [n0] } gv' ev wd := hrd.good hrowa ga hat Bd gd
   have Gd : w7.grownBy wd none := grown_own (grown_ownO g10 ga (fun b hb => (hrd.gr.1 b hb).1)) gd hkb
   refine o_end (k16 _ _ ?_)
   refine s_exit ?_
   refine k11 _ _ ?_
   refine s_region ?_
   refine o_v (v_add rfl rfl (by omega)) ?_
   refine o_v v_move ?_
   refine o_end ?_
   refine mid (i + 1, { b with goods := b.goods ++ [n0] }, gv', ev) ?_ ?_ ?_
   ·repeat (first | exact off_refl | refine off_cons rfl ?_)
   ·exact ⟨rfl, trivial⟩
   ·exact ⟨⟨⟨hlt, by rw [hstep]; exact addRow_good c14 hns hnd0, hrd', hsm.good hnr0⟩, Gd⟩, by simp only; omega⟩
  ·have c14' : ¬ prefB r goodW = true := by rw [c14]; decide
   refine s_skip ?_
   refine k13 _ _ ?_
   refine s_rseq fun _ k17 => ?_
   refine o_v v_move ?_
   refine o_v (v_indexP (sz := 1) rfl rfl Tryz.underlying220 (by kernel_rfl) (by omega)) ?_
   refine o_v (v_loadC rfl sc9 ((B4.cell _).trans hew)) ?_
   refine o_callP rfl rfl ent168 (f168_calls (r) entryW 3 w11 (by omega) (by decide)) ?_; rintro et w16 ⟨htR, g16⟩
   rcases htR with ⟨ns, tv, hns, rfl, htrow⟩ | ⟨hns, u, rfl⟩; rotate_left
   ·refine .inr ⟨_, rfl, postP ?_⟩
    refine ⟨.inr ⟨bad ?_, u, rfl⟩, (GG.step0 g10).step0 g16⟩
    unfold addRow
    rw [if_neg c14', hns]
    rfl
   refine .inl ⟨_, rfl, ?_⟩
   obtain ⟨hnl, hnr⟩ := told_ok hns
   obtain ⟨tA, tc, rfl, _, _, htS⟩ := htrow.reads
   rw [hnl]
   replace g10 := g10.step0 g16; replace hrd := hrd.step0 g16
   obtain ⟨tb, to, rfl, hn0⟩ := htS.int 0 (by omega)
   obtain ⟨tb1, to1, hA1, hn1⟩ := htS.int 1 (by omega)
   obtain ⟨e1, e2⟩ : tb = tb1 ∧ to = to1 := by injection hA1 with hA; injection hA with h1 h2; exact ⟨h1, h2⟩
   rw [← e1, ← e2] at hn1
   clear hA1 e1 e2
   obtain ⟨tb2, to2, hA2, hn2⟩ := htS.int 2 (by omega)
   obtain ⟨e1, e2⟩ : tb = tb2 ∧ to = to2 := by injection hA2 with hA; injection hA with h1 h2; exact ⟨h1, h2⟩
   rw [← e1, ← e2] at hn2
   clear hA2 e1 e2
   obtain ⟨n0, hnn0⟩ : ∃ x, x = ns[0]'(by omega) := ⟨_, rfl⟩
   rw [← hnn0] at hn0
   have hnr0 := hnr _ (List.getElem_mem (show 0 < ns.length by omega))
   rw [← hnn0] at hnr0
   have hnd0 : ns[0]?.getD 0 = n0 := by rw [getD_get (by omega), hnn0]
   obtain ⟨n1, hnn1⟩ : ∃ x, x = ns[1]'(by omega) := ⟨_, rfl⟩
   rw [← hnn1] at hn1
   have hnr1 := hnr _ (List.getElem_mem (show 1 < ns.length by omega))
   rw [← hnn1] at hnr1
   have hnd1 : ns[1]?.getD 0 = n1 := by rw [getD_get (by omega), hnn1]
   obtain ⟨n2, hnn2⟩ : ∃ x, x = ns[2]'(by omega) := ⟨_, rfl⟩
   rw [← hnn2] at hn2
   have hnr2 := hnr _ (List.getElem_mem (show 2 < ns.length by omega))
   rw [← hnn2] at hnr2
   have hnd2 : ns[2]?.getD 0 = n2 := by rw [getD_get (by omega), hnn2]
   refine o_v v_assign ?_
   refine o_end (k17 _ _ ?_)
   refine s_anyD 13 [63, 64, 65, 66, 67, 68, 69, 70, 71, 72, 73, 74, 75] [[], [(0, some 63)], [], [(2, some 65)], [(3, some 66)], [], [(5, some 68)], [(6, some 69)], [], [(8, some 71)], [(9, some 72)], [(4, some 67), (7, some 70), (10, some 73)], [(11, some 74)]] [(1, some 64), (12, some 75)] (fun W => w16.grownBy W none) (fun _ => G0) []
    [([], fun _ v W => v = .pointer (some ⟨kb, 0 + 3, none⟩)), ([], fun _ v W => v = ev), ([], fun _ v W => v = .slice (some ⟨tb, to, none⟩) 3 tc), ([], fun _ v W => v = .pointer (some ⟨tb, to + 0 * 1, none⟩)), ([], fun _ v W => v = I n0), ([], fun _ v W => v = .slice (some ⟨tb, to, none⟩) 3 tc), ([], fun _ v W => v = .pointer (some ⟨tb, to + 1 * 1, none⟩)), ([], fun _ v W => v = I n1), ([], fun _ v W => v = .slice (some ⟨tb, to, none⟩) 3 tc), ([], fun _ v W => v = .pointer (some ⟨tb, to + 2 * 1, none⟩)), ([], fun _ v W => v = I n2), ([], fun _ v W => v = .agg #[I n0, I n1, I n2]), ([], fun _ v W => ∃ k, v = .slice (some ⟨k, 0, none⟩) 1 1 ∧ Blk W k [I n0, I n1, I n2] 99)]
    mixed (by kernel_rfl) (by kernel_rfl) (by kernel_rfl) (by kernel_rfl) (by kernel_rfl) g0_drawn ?_ ?_ ?_ ?_
   ·exact fun k W1 W2 hC hS => World.grownBy.trans hC hS
   ·intro i k v W1 W2 vs hik hd p hp h hS
    rcases i with _ | _ | _ | _ | _ | _ | _ | _ | _ | _ | _ | _ | _ | i
    ·cases hp; exact h
    ·cases hp; exact h
    ·cases hp; exact h
    ·cases hp; exact h
    ·cases hp; exact h
    ·cases hp; exact h
    ·cases hp; exact h
    ·cases hp; exact h
    ·cases hp; exact h
    ·cases hp; exact h
    ·cases hp; exact h
    ·cases hp; exact h
    ·cases hp; obtain ⟨k, h1, h2⟩ := h; exact ⟨k, h1, h2.step0 hS⟩
    ·simp at hp
   ·refine ⟨?_, ?_, ?_, ?_, ?_, ?_, ?_, ?_, ?_, ?_, ?_, ?_, ?_, trivial⟩
    ·rintro jv W hC
     exact o_v (v_field rfl fld25_3) (o_end (opD_done (grown_refl _ _) rfl))
    ·rintro jv W hC _ rfl
     exact o_v (v_loadB rfl sc23 (hrd.blk.step0 hC) rfl) (o_end (opD_done (grown_refl _ _) rfl))
    ·rintro jv W hC
     exact o_v v_move (o_end (opD_done (grown_refl _ _) rfl))
    ·rintro jv W hC _ rfl
     exact o_v (v_index rfl rfl slt56 (by omega)) (o_end (opD_done (grown_refl _ _) rfl))
    ·rintro jv W hC _ rfl
     exact o_v (v_loadC rfl sc3 (cell0 hC hn0)) (o_end (opD_done (grown_refl _ _) rfl))
    ·rintro jv W hC
     exact o_v v_move (o_end (opD_done (grown_refl _ _) rfl))
    ·rintro jv W hC _ rfl
     exact o_v (v_index rfl rfl slt56 (by omega)) (o_end (opD_done (grown_refl _ _) rfl))
    ·rintro jv W hC _ rfl
     exact o_v (v_loadC rfl sc3 (cell0 hC hn1)) (o_end (opD_done (grown_refl _ _) rfl))
    ·rintro jv W hC
     exact o_v v_move (o_end (opD_done (grown_refl _ _) rfl))
    ·rintro jv W hC _ rfl
     exact o_v (v_index rfl rfl slt56 (by omega)) (o_end (opD_done (grown_refl _ _) rfl))
    ·rintro jv W hC _ rfl
     exact o_v (v_loadC rfl sc3 (cell0 hC hn2)) (o_end (opD_done (grown_refl _ _) rfl))
    ·rintro jv W hC _ rfl _ rfl _ rfl
     exact o_v (v_build rfl (fun W => bld99_012 W)) (o_end (opD_done (grown_refl _ _) rfl))
    ·rintro jv W hC _ rfl
     refine o_bslice rfl (fun W => bls23_1 W) ?_; intro wb Bb gb zb
     exact o_end (opD_done gb ⟨_, rfl, Bb⟩)
   rintro jv w17 g17 _ rfl _ ⟨k1, rfl, Bn⟩
   replace g10 := g10.step0 g17; replace hrd := hrd.step0 g17
   have hgb := hrd.gr.bound
   have heb := hrd.er.bound
   have hkl := hrd.blk.lt
   have h7 := g10.size
   refine o_append1 (t := entT) (p := ⟨n0, n1, n2⟩) rfl rfl hrd.er Bn Tryz.underlying23 info99 rfl rfl (fun k hk => ⟨by omega, by omega, fun e => by have := (hgb.1 k e).2.lt; omega⟩) (by omega) (by decide) ?_
   intro ev' wa hrowa ga hat
   obtain ⟨eA', ec', hev⟩ := hrowa.slice
   refine o_v (v_field rfl fld25_3) ?_
   refine o_storeB (vs := [ev']) rfl (by rw [hev]; rfl) sz23 rfl (hrd.blk.step ga (fun e => (hrd.er.1 _ e.symm).2.1 rfl)) rfl (by rw [hev]; rfl) ?_; intro wd Bd gd zd
   have hrd' : Rd kb w7.heap.size { b with ents := b.ents ++ [⟨n0, n1, n2⟩] } gv ev' wd := hrd.ent hrowa ga hat Bd gd
   have Gd : w7.grownBy wd none := grown_own (grown_ownO g10 ga (fun b hb => (hrd.er.1 b hb).1)) gd hkb
   refine o_end ?_
   refine k11 _ _ ?_
   refine s_region ?_
   refine o_v (v_add rfl rfl (by omega)) ?_
   refine o_v v_move ?_
   refine o_end ?_
   refine mid (i + 1, { b with ents := b.ents ++ [⟨n0, n1, n2⟩] }, gv, ev') ?_ ?_ ?_
   ·repeat (first | exact off_refl | refine off_cons rfl ?_)
   ·exact ⟨rfl, trivial⟩
   ·exact ⟨⟨⟨hlt, by rw [hstep]; exact addRow_ent c14' hns hnd0 hnd1 hnd2, hrd', hsm.ent ⟨hnr0, hnr1, hnr2⟩⟩, Gd⟩, by simp only; omega⟩
 ·obtain rfl : i = l.length := by omega
  rw [hrw, Option.bind_some] at hpar
  have hfew := hsm.few
  obtain ⟨gA, gc, eA, ec, rfl, rfl, hBI⟩ := hrd.book
  replace hrd := hrd.blk
  refine s_exit ?_
  refine k7 _ _ ?_
  refine s_rseq fun _ k18 => ?_
  refine o_v (v_loadBS (vs := b.cells gA gc eA ec) rfl ag25 hrd rfl rfl) ?_
  refine o_call rfl rfl ent116 (f116_calls b gA gc eA ec w10 hBI (by omega) (by omega) (hsm.lns (by omega))) ?_; rintro _ w20 ⟨rfl, g20⟩; refine ⟨_, rfl, ?_⟩
  replace g10 := g10.step0 g20; replace hrd := hrd.step0 g20; replace hBI := hBI.step0 g20
  refine o_v v_move ?_
  refine o_v (v_eqlS (a := textL b) (b := s) rfl rfl) ?_
  refine o_v v_move ?_
  refine o_callP rfl rfl ent167 (f167_calls (decide (textL b = s)) s w20) ?_; rintro _ w21 ⟨rfl, g21⟩
  rcases Bool.eq_false_or_eq_true (decide (textL b = s)) with hb21 | hb21; rotate_left
  ·refine .inr ⟨_, by rw [hb21]; rfl, postP ?_⟩
   refine ⟨.inr ⟨?_, s, rfl⟩, (GG.step0 g10).step0 g21⟩
   rw [hpar, if_neg (by simpa using hb21)]
  refine .inl ⟨_, by rw [hb21]; rfl, ?_⟩
  rw [if_pos (by simpa using hb21)] at hpar
  replace g10 := g10.step0 g21; replace hrd := hrd.step0 g21; replace hBI := hBI.step0 g21; replace B2 := B2.step0 g10; replace GG := GG.step0 g10
  refine o_end (k18 _ _ ?_)
  refine s_rseq fun _ k19 => ?_
  refine o_v (v_loadBS (vs := b.cells gA gc eA ec) rfl ag25 hrd rfl rfl) ?_
  refine o_storeB (vs := b.cells gA gc eA ec) rfl rfl sz25 rfl B2 rfl rfl ?_; intro w22 B2 g22 z22
  refine o_end (k19 _ _ ?_)
  refine s_ret (postR (v := .agg (b.cells gA gc eA ec).toArray) (res_c rfl rfl (run_loadVar_ag ag25 B2 rfl)) ?_)
  have hsz := g1.size
  refine ⟨.inl ⟨b, gA, gc, eA, ec, hpar, rfl, ?_⟩, grown_own GG g22 (Nat.le_refl _)⟩
  have hne : ∀ k, w7.heap.size ≤ k ∧ k ≠ kb → some k ≠ some w.heap.size := fun k hk e => by injection e with e; omega
  exact ⟨(hBI.goods.step g22 hne).mono fun k hk => by omega, hBI.gl, (hBI.ents.step g22 hne).mono fun k hk => by omega, hBI.el⟩
end Go.Proofs.NV
