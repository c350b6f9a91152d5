/- Part of the proof: costs.. CompareFunc of lists; the better purchase; the best one.. -/
import Derived.Test.YtbjnjlgeendakaaGreatDoorKb22
import Derived.Test.YtbjnjlgeendakaaGreatDoorKb18
set_option linter.unusedVariables false
set_option maxRecDepth 100000
set_option maxHeartbeats 8000000
set_option linter.unusedSimpArgs false
namespace Go.Proofs.NV
open Go.RowKit Go.Shelf
attribute [local irreducible] bodyPost bodyPostM wpQuiet
theorem mkI215 (v : Value) (w : World) : (Instr.makeInterface 215 v).run Tryz.prog w = .ok (.iface 215 v) w := by kernel_rfl
def payTo (s : Seller) (r : List Int) (st : List Int × Int) : Nat → Option (List Int × Int)
 | 0 => some st
 | j + 1 => (payTo s r st j).bind fun q => if inB (r[j]?.getD 0) 0 (s.stock[j]?.getD 0) then some (q.1.set j (q.1[j]?.getD 0 - r[j]?.getD 0), q.2 + r[j]?.getD 0 * s.price[j]?.getD 0) else none
def paysTo (l : List Seller) (wants : List Int) (buy : List (List Int)) : Nat → Option (List Int × Int)
 | 0 => some (wants, 0)
 | i + 1 => (paysTo l wants buy i).bind fun q => (l[i]?).bind fun s => if (buy[i]?.getD []).length ≠ wants.length then none else (payTo s (buy[i]?.getD []) q wants.length).map fun q => (q.1, if sumL (buy[i]?.getD []) > 0 then q.2 + s.parcel else q.2)
def costsL (l : List Seller) (wants : List Int) (buy : List (List Int)) : Option Int :=
 if buy.length ≠ l.length then none else (paysTo l wants buy l.length).bind fun q => if q.1.any (fun x => decide (x ≠ 0)) then none else some q.2
structure Pay (m : Nat) (a : Int) (q : List Int × Int) : Prop where
 len : q.1.length = m
 all : ∀ x ∈ q.1, -a ≤ x ∧ x ≤ 400
 cost : 0 ≤ q.2 ∧ q.2 ≤ a * 1001
theorem getD_mem {l : List Int} {P : Int → Prop} (h : ∀ x ∈ l, P x) (h0 : P 0) (j : Nat) : P (l[j]?.getD 0) := by
 cases hj : l[j]? with
 | none => exact h0
 | some x => exact h x (List.mem_of_getElem? hj)
theorem Pay.step {m : Nat} {a : Int} {q : List Int × Int} (h : Pay m a q) (ha : 0 ≤ a) (j : Nat) {n p : Int} (hn : 0 ≤ n ∧ n ≤ 100) (hp : 0 ≤ p ∧ p ≤ 1000) : Pay m (a + 100) (q.1.set j (q.1[j]?.getD 0 - n), q.2 + n * p) := by
 have h1 := Int.mul_nonneg hn.1 hp.1
 have h2 := Int.mul_le_mul hn.2 hp.2 hp.1 (by decide : (0 : Int) ≤ 100)
 have hc := h.cost
 refine ⟨by rw [List.length_set]; exact h.len, fun x hx => ?_, by simp only; omega⟩
 have hx0 := getD_mem (P := fun x => -a ≤ x ∧ x ≤ 400) h.all (by omega) j
 rcases List.mem_or_eq_of_mem_set hx with hx | rfl
 ·have := h.all x hx; omega
 ·omega
theorem payTo_ok {s : Seller} {r : List Int} {st : List Int × Int} {m : Nat} {a : Int} (ha : 0 ≤ a) (hst : Pay m a st) (hs : ∀ x ∈ s.stock, 0 ≤ x ∧ x ≤ 100) (hp : ∀ x ∈ s.price, 0 ≤ x ∧ x ≤ 1000) : ∀ (j : Nat) (q : List Int × Int), payTo s r st j = some q → Pay m (a + 100 * j) q ∧ ∀ i, i < j → 0 ≤ r[i]?.getD 0 ∧ r[i]?.getD 0 ≤ 100
 | 0, q, h => by
  injection h with h
  subst h
  exact ⟨by simpa using hst, fun i hi => by omega⟩
 | j + 1, q, h => by
  rw [payTo] at h
  cases hq : payTo s r st j with
  | none => rw [hq] at h; cases h
  | some q0 =>
   rw [hq, Option.bind_some] at h
   obtain ⟨h1, h2⟩ := payTo_ok ha hst hs hp j q0 hq
   have hsj := getD_mem (P := fun x => 0 ≤ x ∧ x ≤ 100) hs (by omega) j
   have hpj := getD_mem (P := fun x => 0 ≤ x ∧ x ≤ 1000) hp (by omega) j
   split at h
   ·rename_i hb
    unfold inB at hb
    simp only [Bool.and_eq_true, decide_eq_true_eq] at hb
    have hn : 0 ≤ r[j]?.getD 0 ∧ r[j]?.getD 0 ≤ 100 := by omega
    injection h with h
    subst h
    have := h1.step (by omega) j hn hpj
    rw [show a + 100 * (j : Int) + 100 = a + 100 * ((j + 1 : Nat) : Int) by omega] at this
    refine ⟨this, fun i hi => ?_⟩
    by_cases hij : i = j
    ·subst hij; exact hn
    ·exact h2 i (by omega)
   ·cases h
theorem paysTo_ok {l : List Seller} {wants : List Int} (h : SellOk l wants) (buy : List (List Int)) : ∀ (i : Nat) (q : List Int × Int), paysTo l wants buy i = some q → Pay wants.length (501 * i) q
 | 0, q, hq => by
  injection hq with hq
  subst hq
  exact ⟨rfl, fun x hx => by have := h.want x hx; omega, by simp⟩
 | i + 1, q, hq => by
  rw [paysTo] at hq
  cases h0 : paysTo l wants buy i with
  | none => rw [h0] at hq; cases hq
  | some q0 =>
   rw [h0, Option.bind_some] at hq
   have ih := paysTo_ok h buy i q0 h0
   cases hs : l[i]? with
   | none => rw [hs] at hq; cases hq
   | some s =>
    rw [hs, Option.bind_some] at hq
    have hm := List.mem_of_getElem? hs
    split at hq
    ·cases hq
    ·cases hp : payTo s (buy[i]?.getD []) q0 wants.length with
     | none => rw [hp] at hq; cases hq
     | some q1 =>
      rw [hp, Option.map_some] at hq
      injection hq with hq
      subst hq
      have h1 := (payTo_ok (by omega) ih (h.stock s hm).2 (h.price s hm).2 _ _ hp).1
      have hg := h.goods
      have hpc := h.parcel s hm
      have hc := h1.cost
      refine ⟨h1.len, fun x hx => by have := h1.all x hx; omega, ?_⟩
      simp only
      split <;> omega
theorem payTo_none {s : Seller} {r : List Int} {st : List Int × Int} {j : Nat} (h : payTo s r st j = none) : ∀ m, payTo s r st (j + m) = none
 | 0 => h
 | m + 1 => by rw [← Nat.add_assoc, payTo, payTo_none h m]; rfl
theorem paysTo_none {l : List Seller} {wants : List Int} {buy : List (List Int)} {j : Nat} (h : paysTo l wants buy j = none) : ∀ m, paysTo l wants buy (j + m) = none
 | 0 => h
 | m + 1 => by rw [← Nat.add_assoc, paysTo, paysTo_none h m]; rfl
theorem paysTo_zero (l : List Seller) (wants : List Int) (buy : List (List Int)) : paysTo l wants buy 0 = some (wants, 0) := rfl
theorem payTo_zero (s : Seller) (r : List Int) (st : List Int × Int) : payTo s r st 0 = some st := rfl
theorem payTo_yes {s : Seller} {r : List Int} {st q : List Int × Int} {j : Nat} (h : payTo s r st j = some q) (hb : inB (r[j]?.getD 0) 0 (s.stock[j]?.getD 0) = true) : payTo s r st (j + 1) = some (q.1.set j (q.1[j]?.getD 0 - r[j]?.getD 0), q.2 + r[j]?.getD 0 * s.price[j]?.getD 0) := by
 rw [payTo, h, Option.bind_some, if_pos hb]
theorem payTo_no {s : Seller} {r : List Int} {st q : List Int × Int} {j : Nat} (h : payTo s r st j = some q) (hb : ¬ inB (r[j]?.getD 0) 0 (s.stock[j]?.getD 0) = true) : payTo s r st (j + 1) = none := by
 rw [payTo, h, Option.bind_some, if_neg hb]
theorem paysTo_yes {l : List Seller} {wants : List Int} {buy : List (List Int)} {i : Nat} {q q1 : List Int × Int} {s : Seller} {r : List Int} (h : paysTo l wants buy i = some q) (hs : l[i]? = some s) (hr : buy[i]? = some r) (hl : r.length = wants.length) (hq : payTo s r q wants.length = some q1) : paysTo l wants buy (i + 1) = some (q1.1, if sumL r > 0 then q1.2 + s.parcel else q1.2) := by
 rw [paysTo, h, Option.bind_some, hs, Option.bind_some, hr, Option.getD_some, if_neg (by omega), hq, Option.map_some]
theorem paysTo_len {l : List Seller} {wants : List Int} {buy : List (List Int)} {i : Nat} {q : List Int × Int} {s : Seller} {r : List Int} (h : paysTo l wants buy i = some q) (hs : l[i]? = some s) (hr : buy[i]? = some r) (hl : r.length ≠ wants.length) : paysTo l wants buy (i + 1) = none := by
 rw [paysTo, h, Option.bind_some, hs, Option.bind_some, hr, Option.getD_some, if_pos hl]
theorem paysTo_no {l : List Seller} {wants : List Int} {buy : List (List Int)} {i : Nat} {q : List Int × Int} {s : Seller} {r : List Int} (h : paysTo l wants buy i = some q) (hs : l[i]? = some s) (hr : buy[i]? = some r) (hl : r.length = wants.length) (hq : payTo s r q wants.length = none) : paysTo l wants buy (i + 1) = none := by
 rw [paysTo, h, Option.bind_some, hs, Option.bind_some, hr, Option.getD_some, if_neg (by omega), hq]
 rfl
theorem costsL_none {l : List Seller} {wants : List Int} {buy : List (List Int)} {i : Nat} (h : paysTo l wants buy i = none) (hi : i ≤ l.length) : costsL l wants buy = none := by
 unfold costsL
 rw [show l.length = i + (l.length - i) by omega, paysTo_none h]
 split <;> rfl
theorem costsL_some {l : List Seller} {wants : List Int} {buy : List (List Int)} {left : List Int} {c : Int} (hl : buy.length = l.length) (h : paysTo l wants buy l.length = some (left, c)) (h0 : ∀ x ∈ left, x = 0) : costsL l wants buy = some c := by
 unfold costsL
 rw [if_neg (by omega), h, Option.bind_some]
 simp only
 rw [if_neg]
 simp only [List.any_eq_true, decide_eq_true_eq, not_exists, not_and, Classical.not_not]
 exact h0
theorem costsL_left {l : List Seller} {wants : List Int} {buy : List (List Int)} {left : List Int} {c : Int} (hl : buy.length = l.length) (h : paysTo l wants buy l.length = some (left, c)) {x : Int} (hx : x ∈ left) (h0 : x ≠ 0) : costsL l wants buy = none := by
 unfold costsL
 rw [if_neg (by omega), h, Option.bind_some]
 simp only
 rw [if_pos]
 rw [List.any_eq_true]
 exact ⟨x, hx, by simpa using h0⟩
theorem cellS {W W' : World} {row : Option Nat} {b o : Nat} {v : Value} (g : W.grownBy W' row) (hb : some b ≠ row) (h : W.cell? ⟨b, o, none⟩ = some v) : W'.cell? ⟨b, o, none⟩ = some v := by
 have hlt : b < W.heap.size := by
  unfold World.cell? at h
  simp only at h
  rcases Nat.lt_or_ge b W.heap.size with h1 | h1
  ·exact h1
  ·rw [Array.getElem?_eq_none h1] at h; cases h
 have hs := g.block b hlt hb
 unfold World.cell? at h ⊢
 simp only at h ⊢
 rw [hs]
 exact h
theorem Ty.Sl.intS {w : World} {S : Nat → Prop} {A : Option Addr} {xs : List Int} (h : Ty.int.Sl w S A xs) (i : Nat) (hi : i < xs.length) : ∃ b o, A = some ⟨b, o, none⟩ ∧ S b ∧ w.cell? ⟨b, o + i * 1, none⟩ = some (.int .i64 xs[i]) := by
 obtain ⟨b, o, c, hA, hS, hc, hr⟩ := h.get i hi
 obtain rfl : c = [.int .i64 xs[i]] := hc
 exact ⟨b, o, hA, hS, by have := hr 0 _ rfl; simpa [Ty.int, Ty.scalar] using this⟩
def CostsR (l : List Seller) (wants : List Int) (buy : List (List Int)) (e : Ending) : Prop :=
 (∃ c, costsL l wants buy = some c ∧ e = .returned (I c)) ∨ (costsL l wants buy = none ∧ ∃ x, e = .panicked [{ v := .iface 215 x, recovered := false }])
attribute [local irreducible] payTo paysTo costsL sumL
theorem f107_calls {S T U : Nat → Prop} (lA : Option Addr) (lc : Nat) (l : List Seller) (wA : Option Addr) (wc : Nat) (wants : List Int) (bA : Option Addr) (bc : Nat) (buy : List (List Int)) (w : World) (hl : sellT.Sl w S lA l) (hw : Ty.int.Sl w T wA wants) (hb : Ty.int.sl.Sl w U bA buy) (hbm : buy.length ≤ 1000000) (hok : SellOk l wants) :
  Calls Tryz.prog 107 #[.slice lA l.length lc, .slice wA wants.length wc, .slice bA buy.length bc] w fun e w' => CostsR l wants buy e ∧ w.grownBy w' none := by
 refine s_enter (n := 107) Tryz.func107 rfl rfl rfl ?_
 have G := grown_refl w none
 have hfew := hok.few
 have hgoods := hok.goods
 obtain ⟨m, hmw⟩ : ∃ m, m = wants.length := ⟨_, rfl⟩
 replace hl := hl.bound; replace hb := hb.bound
 refine s_rseq fun _ k1 => ?_
 refine o_v v_assign ?_
 refine o_end (k1 _ _ ?_)
 refine s_seq fun _ k2 => ?_
 refine s_rseq fun _ k3 => ?_
 refine o_v v_move ?_
 refine o_v (v_len rfl Tryz.underlying33) ?_
 refine o_v v_move ?_
 refine o_v (v_len rfl Tryz.underlying87) ?_
 refine o_v (v_neq rfl rfl) ?_
 refine o_end (k3 _ _ ?_)
 refine s_ifd rfl (fun c3 => ?_) (fun c3 => ?_)
 ·refine s_region ?_
  refine o_v v_move ?_
  refine o_v (v_len rfl Tryz.underlying33) ?_
  refine o_v (v_build rfl (fun W => bld215_0 W)) ?_
  refine o_v (v_mkI rfl (mkI215 _)) ?_
  refine o_panic rfl (postP ?_)
  exact ⟨.inr ⟨by unfold costsL; rw [if_pos (by omega)], _, rfl⟩, G⟩
 ·have hbl : buy.length = l.length := by omega
  refine s_skip ?_
  refine k2 _ _ ?_
  refine s_rseq fun _ k4 => ?_
  refine o_v v_move ?_
  refine o_call rfl rfl ent104 (f104_calls (S := fun k => w.heap.size ≤ k) wA wc wants w hw (by omega) (fun _ h => h)) ?_; rintro _ w1 ⟨cv, rfl, hrow, hcvo, g1⟩; refine ⟨_, rfl, ?_⟩
  obtain ⟨cb, cap, _, hcv, hcb, _⟩ := hrow.putI 0 (by omega)
  rw [← hmw] at hcv
  subst hcv
  replace G := G.step0 g1
  refine o_v v_assign ?_
  refine o_end (k4 _ _ ?_)
  refine s_rseq fun _ k5 => ?_
  refine o_v v_assign ?_
  refine o_end (k5 _ _ ?_)
  refine s_seq fun _ k6 => ?_
  refine s_rseq fun _ k7 => ?_
  refine o_v v_move ?_
  refine o_v (v_len rfl Tryz.underlying33) ?_
  refine o_v v_move ?_
  refine o_end (k7 _ _ ?_)
  refine s_block ?_
  refine s_loop (G := Nat × Int) (fun g => [(8, I g.2), (28, I g.1)]) [8, 28] [9, 10, 11, 12, 29, 30, 31, 32, 33, 34, 35, 36, 37, 38, 39, 40, 41, 42, 43, 44, 45, 46, 47, 48, 49, 50, 51, 52, 53, 54, 55, 56, 57, 58, 59, 60, 61, 62, 63, 64, 65, 66, 67, 68, 69, 70, 71, 72, 73, 74, 75, 76, 77, 78, 79, 80, 81, 82, 83, 84, 85, 86, 87, 88, 89, 90, 91, 92] (fun g W => (g.1 ≤ l.length ∧ ∃ left, paysTo l wants buy g.1 = some (left, g.2) ∧ Ty.int.Row 3 W (fun k => w.heap.size ≤ k) (.slice (some ⟨cb, 0, none⟩) m cap) left) ∧ w.grownBy W none) (fun g => l.length - g.1) (fun _ => rfl) (0, 0) ⟨rfl, rfl, trivial⟩ ⟨⟨Nat.zero_le _, wants, paysTo_zero _ _ _, hrow⟩, G⟩ ?_
  rintro ⟨i, c⟩ jv w2 ⟨⟨hi, left, hpy, hrow⟩, g2⟩
  simp only at hi hpy
  replace G := g2
  have hpay := paysTo_ok hok buy i _ hpy
  have hlenp := hpay.len
  have hallp := hpay.all
  have hcostp := hpay.cost
  simp only at hlenp hallp hcostp
  rw [← hmw] at hlenp
  refine s_rseq fun _ k8 => ?_
  refine o_v (v_lss rfl rfl) ?_
  refine o_end (k8 _ _ ?_)
  refine s_seq fun _ k9 => ?_
  refine s_ifd rfl (fun c9 => ?_) (fun c9 => ?_)
  ·have hilt : i < l.length := by omega
   have hbi : i < buy.length := by omega
   obtain ⟨rv, hrv⟩ : ∃ rv, rv = buy[i] := ⟨_, rfl⟩
   have hr? : buy[i]? = some rv := by rw [List.getElem?_eq_getElem hbi, hrv]
   obtain ⟨s, hse⟩ : ∃ s, s = l[i] := ⟨_, rfl⟩
   have hs? : l[i]? = some s := by rw [List.getElem?_eq_getElem hilt, hse]
   have hsm := List.mem_of_getElem? hs?
   have hsst := hok.stock s hsm
   have hspr := hok.price s hsm
   have hspa := hok.parcel s hsm
   obtain ⟨br, orr, cr, rfl, _, hrepr, hrr⟩ := (hb.step0 G).get i hbi
   rw [← hrv] at hrepr
   obtain ⟨rA, rc, rfl, hrl1, hrl2, hrS⟩ := hrepr
   have hcr := hrr 0 _ rfl
   obtain ⟨bl, ol, cl, rfl, hSl, hrepl, hrl⟩ := (hl.step0 G).get i hilt
   rw [← hse] at hrepl
   obtain ⟨sA, sc, pA, pc, rfl, ⟨_, _, hstk⟩, _, _, hprc⟩ := sellT_iff.1 hrepl
   rw [sellT_sz] at hrl
   have hc0 := hrl 0 _ rfl; have hc1 := hrl 1 _ rfl; have hc2 := hrl 2 _ rfl
   have hneq : ∀ k, k < w.heap.size → some k ≠ some cb := fun k hk e => by injection e with e; have : w.heap.size ≤ cb := hcb; omega
   refine s_skip ?_
   refine k9 _ _ ?_
   refine s_seq fun _ k10 => ?_
   refine s_block ?_
   refine s_rseq fun _ k11 => ?_
   refine o_v v_move ?_
   refine o_v (v_index rfl rfl slt33 (by omega)) ?_
   refine o_v (v_loadC rfl sc56 hcr) ?_
   refine o_v v_assign ?_
   refine o_v v_assign ?_
   refine o_end (k11 _ _ ?_)
   refine s_seq fun _ k12 => ?_
   refine s_rseq fun _ k13 => ?_
   refine o_v v_move ?_
   refine o_v (v_len rfl Tryz.underlying56) ?_
   refine o_v v_move ?_
   refine o_v (v_len rfl Tryz.underlying56) ?_
   refine o_v (v_neq rfl rfl) ?_
   refine o_end (k13 _ _ ?_)
   refine s_ifd rfl (fun c13 => ?_) (fun c13 => ?_)
   ·refine s_region ?_
    refine o_v v_move ?_
    refine o_v (v_build rfl (fun W => bld215_0 W)) ?_
    refine o_v (v_mkI rfl (mkI215 _)) ?_
    refine o_panic rfl (postP ?_)
    exact ⟨.inr ⟨costsL_none (paysTo_len hpy hs? hr? (by omega)) hilt, _, rfl⟩, G⟩
   ·have hrlen : rv.length = m := by omega
    refine s_skip ?_
    refine k12 _ _ ?_
    refine s_seq fun _ k14 => ?_
    refine s_rseq fun _ k15 => ?_
    refine o_v v_move ?_
    refine o_v (v_len rfl Tryz.underlying56) ?_
    refine o_v v_move ?_
    refine o_end (k15 _ _ ?_)
    refine s_block ?_
    refine s_loop (G := Nat × Int) (fun g => [(8, I g.2), (43, I g.1)]) [8, 43] [11, 12, 44, 45, 46, 47, 48, 49, 50, 51, 52, 53, 54, 55, 56, 57, 58, 59, 60, 61, 62, 63, 64, 65, 66, 67, 68, 69, 70, 71, 72, 73, 74, 75, 76, 77, 78, 79, 80, 81] (fun g W => (g.1 ≤ m ∧ ∃ left', payTo s rv (left, c) g.1 = some (left', g.2) ∧ Ty.int.Row 3 W (fun k => w.heap.size ≤ k) (.slice (some ⟨cb, 0, none⟩) m cap) left') ∧ w2.grownBy W (some cb)) (fun g => m - g.1) (fun _ => rfl) (0, c) ⟨rfl, rfl, trivial⟩ ⟨⟨Nat.zero_le _, left, payTo_zero _ _ _, hrow⟩, grown_refl _ _⟩ ?_
    rintro ⟨j, c2⟩ jv w3 ⟨⟨hj, left2, hpt, hrow2⟩, g3⟩
    simp only at hj hpt
    obtain ⟨hpay2, hrvb⟩ := payTo_ok (by omega) hpay hsst.2 hspr.2 j _ hpt
    have hlen2 := hpay2.len
    have hall2 := hpay2.all
    have hcost2 := hpay2.cost
    simp only at hlen2 hall2 hcost2
    rw [← hmw] at hlen2
    replace G := grown_own G g3 hcb
    refine s_rseq fun _ k16 => ?_
    refine o_v (v_lss rfl rfl) ?_
    refine o_end (k16 _ _ ?_)
    refine s_seq fun _ k17 => ?_
    refine s_ifd rfl (fun c17 => ?_) (fun c17 => ?_)
    ·have hjlt : j < m := by omega
     obtain ⟨b1, o1, rfl, hcj⟩ := (hrS.step g3 (fun k hk => hneq k hk.2.lt)).int j (by omega)
     obtain ⟨b2, o2, rfl, hcs⟩ := (hstk.step g3 (fun k hk => hneq k hk.2.lt)).int j (by omega)
     obtain ⟨b3, o3, rfl, hSp, hcp⟩ := (hprc.step g3 (fun k hk => hneq k hk.2.lt)).intS j (by omega)
     have hd1 := cellS g3 (hneq bl hSl.2.lt) hc1
     have hd2 := cellS g3 (hneq bl hSl.2.lt) hc2
     have hyes := payTo_yes hpt
     have hno := payTo_no hpt
     rw [show rv[j]?.getD 0 = rv[j]'(by omega) by rw [List.getElem?_eq_getElem (by omega)]; rfl, show s.stock[j]?.getD 0 = s.stock[j]'(by omega) by rw [List.getElem?_eq_getElem (by omega)]; rfl] at hyes hno
     rw [show s.price[j]?.getD 0 = s.price[j]'(by omega) by rw [List.getElem?_eq_getElem (by omega)]; rfl] at hyes
     simp only at hyes
     have hskb := hsst.2 _ (List.getElem_mem (show j < s.stock.length by omega))
     have hprb := hspr.2 _ (List.getElem_mem (show j < s.price.length by omega))
     obtain ⟨n, hn⟩ : ∃ n, n = rv[j]'(by omega) := ⟨_, rfl⟩
     obtain ⟨sk, hsk⟩ : ∃ sk, sk = s.stock[j]'(by omega) := ⟨_, rfl⟩
     obtain ⟨pr, hpr⟩ : ∃ pr, pr = s.price[j]'(by omega) := ⟨_, rfl⟩
     rw [← hn] at hcj hyes hno
     rw [← hsk] at hcs hyes hno hskb
     rw [← hpr] at hcp hyes hprb
     obtain ⟨gb, cap2, csr, hvi, hgS, hBr, hcr2, hcellr, hput⟩ := hrow2.putI j (by omega)
     obtain ⟨rfl, -, -⟩ : cb = gb ∧ m = left2.length ∧ cap = cap2 := by simpa using hvi
     have hlx := hall2 _ (List.getElem_mem (show j < left2.length by omega))
     rw [show left2[j]?.getD 0 = left2[j]'(by omega) by rw [List.getElem?_eq_getElem (by omega)]; rfl] at hyes
     obtain ⟨lx, hlxe⟩ : ∃ lx, lx = left2[j]'(by omega) := ⟨_, rfl⟩
     rw [← hlxe] at hcellr hyes hlx
     refine s_skip ?_
     refine k17 _ _ ?_
     refine s_seq fun _ k18 => ?_
     refine s_block ?_
     refine s_rseq fun _ k19 => ?_
     refine o_v v_move ?_
     refine o_v (v_index rfl rfl slt56 (by omega)) ?_
     refine o_v (v_loadC rfl sc3 hcj) ?_
     refine o_v v_assign ?_
     refine o_v v_assign ?_
     refine o_end (k19 _ _ ?_)
     refine s_seq fun _ k20 => ?_
     refine s_rseq fun _ k21 => ?_
     refine o_v v_move ?_
     refine o_v v_move ?_
     refine o_v v_move ?_
     refine o_v (v_index rfl rfl slt87 (by omega)) ?_
     refine o_v (v_field rfl fld103_1) ?_
     refine o_v (v_loadC rfl sc56 hd1) ?_
     refine o_v v_move ?_
     refine o_v (v_index rfl rfl slt56 (by omega)) ?_
     refine o_v (v_loadC rfl sc3 hcs) ?_
     refine o_call rfl rfl ent100 ((by have := f100_calls n 0 sk w3; exact this)) ?_; rintro _ w4 ⟨rfl, g4⟩; refine ⟨_, rfl, ?_⟩
     replace G := G.step0 g4; replace hcellr := cell0 g4 hcellr; replace hBr := hBr.step0 g4; replace hcp := cell0 g4 hcp; replace hd2 := cell0 g4 hd2
     refine o_v (v_not rfl) ?_
     refine o_end (k21 _ _ ?_)
     refine s_if rfl (fun c21 => ?_) (fun c21 => ?_)
     ·refine s_region ?_
      refine o_v v_move ?_
      refine o_v (v_build rfl (fun W => bld215_0 W)) ?_
      refine o_v (v_mkI rfl (mkI215 _)) ?_
      refine o_panic rfl (postP ?_)
      exact ⟨.inr ⟨costsL_none (paysTo_no hpy hs? hr? (by omega) (by rw [← hmw, show m = (j + 1) + (m - (j + 1)) by omega]; exact payTo_none (hno (by simpa using c21)) _)) hilt, _, rfl⟩, G⟩
     ·have hin : inB n 0 sk = true := by simpa using c21
      replace hyes := hyes hin
      have hnb : 0 ≤ n ∧ n ≤ 100 := by unfold inB at hin; simp only [Bool.and_eq_true, decide_eq_true_eq] at hin; omega
      have hm1 := Int.mul_nonneg hnb.1 hprb.1
      have hm2 := Int.mul_le_mul hnb.2 hprb.2 hprb.1 (by decide : (0 : Int) ≤ 100)
      refine s_skip ?_
      refine k20 _ _ ?_
      refine s_rseq fun _ k22 => ?_
      refine o_v v_move ?_
      refine o_v v_move ?_
      refine o_v (v_index rfl rfl slt56 (by omega)) ?_
      refine o_v (v_loadC rfl sc3 hcellr) ?_
      refine o_v v_move ?_
      refine o_v (v_sub rfl rfl (by omega)) ?_
      refine o_v (v_index rfl rfl slt56 (by omega)) ?_
      refine o_storeB (vs := [I (lx - n)]) rfl rfl sz3 rfl hBr (by rw [Nat.ble_eq]; simp; omega) rfl ?_; intro w5 hB5 g5 z5
      have g35 : w3.grownBy w5 (some cb) := World.grownBy.trans (grown_weak g4) g5
      have hrow5 := hput _ _ hB5 g35
      replace G := grown_own G g5 hcb
      replace hcp := cellS g5 (hneq b3 hSp.2.lt) hcp
      replace hd2 := cellS g5 (hneq bl hSl.2.lt) hd2
      refine o_end (k22 _ _ ?_)
      refine s_region ?_
      refine o_v v_move ?_
      refine o_v v_move ?_
      refine o_v v_move ?_
      refine o_v v_move ?_
      refine o_v (v_index rfl rfl slt87 (by omega)) ?_
      refine o_v (v_field rfl fld103_2) ?_
      refine o_v (v_loadC rfl sc56 hd2) ?_
      refine o_v v_move ?_
      refine o_v (v_index rfl rfl slt56 (by omega)) ?_
      refine o_v (v_loadC rfl sc3 hcp) ?_
      refine o_v (v_mul rfl rfl (by omega)) ?_
      refine o_v (v_add rfl rfl (by omega)) ?_
      refine o_v v_assign ?_
      refine o_end ?_
      refine k18 _ _ ?_
      refine s_region ?_
      refine o_v (v_add rfl rfl (by omega)) ?_
      refine o_v v_move ?_
      refine o_end ?_
      refine mid (j + 1, c2 + n * pr) ?_ ?_ ?_
      ·repeat (first | exact off_refl | refine off_cons rfl ?_)
      ·exact ⟨rfl, rfl, trivial⟩
      ·exact ⟨⟨⟨hjlt, _, hyes, hrow5⟩, World.grownBy.trans g3 g35⟩, by simp only; omega⟩
    ·obtain rfl : j = m := by omega
     have hrS3 := hrS.step g3 (fun k hk => hneq k hk.2.lt)
     have hd0 := cellS g3 (hneq bl hSl.2.lt) hc0
     have hsb := f108_calls rA rc rv w3 hrS3 (by omega) (fun x hx => by
      obtain ⟨q, hq, rfl⟩ := List.getElem_of_mem hx
      have := hrvb q (by omega)
      rw [List.getElem?_eq_getElem hq, Option.getD_some] at this
      omega)
     have hdone := paysTo_yes hpy hs? hr? (by omega) (by rw [← hmw]; exact hpt)
     refine s_exit ?_
     refine k14 _ _ ?_
     refine s_rseq fun _ k23 => ?_
     refine o_v v_move ?_
     refine o_call rfl rfl ent108 (hsb) ?_; rintro _ w6 ⟨rfl, g6⟩; refine ⟨_, rfl, ?_⟩
     replace G := G.step0 g6; replace hd0 := cell0 g6 hd0; replace hrow2 := hrow2.step0 g6
     refine o_v (v_gtr rfl rfl) ?_
     refine o_end (k23 _ _ ?_)
     refine s_ifd rfl (fun c23 => ?_) (fun c23 => ?_)
     ·rw [if_pos (by exact c23)] at hdone
      refine s_region ?_
      refine o_v v_move ?_
      refine o_v v_move ?_
      refine o_v v_move ?_
      refine o_v (v_index rfl rfl slt87 (by omega)) ?_
      refine o_v (v_field rfl fld103_0) ?_
      refine o_v (v_loadC rfl sc3 hd0) ?_
      refine o_v (v_add rfl rfl (by omega)) ?_
      refine o_v v_assign ?_
      refine o_end ?_
      refine k10 _ _ ?_
      refine s_region ?_
      refine o_v (v_add rfl rfl (by omega)) ?_
      refine o_v v_move ?_
      refine o_end ?_
      refine mid (i + 1, c2 + s.parcel) ?_ ?_ ?_
      ·repeat (first | exact off_refl | refine off_cons rfl ?_)
      ·exact ⟨rfl, rfl, trivial⟩
      ·exact ⟨⟨⟨hilt, _, hdone, hrow2⟩, G⟩, by simp only; omega⟩
     ·rw [if_neg (by exact c23)] at hdone
      refine s_skip ?_
      refine k10 _ _ ?_
      refine s_region ?_
      refine o_v (v_add rfl rfl (by omega)) ?_
      refine o_v v_move ?_
      refine o_end ?_
      refine mid (i + 1, c2) ?_ ?_ ?_
      ·repeat (first | exact off_refl | refine off_cons rfl ?_)
      ·exact ⟨rfl, rfl, trivial⟩
      ·exact ⟨⟨⟨hilt, _, hdone, hrow2⟩, G⟩, by simp only; omega⟩
  ·obtain rfl : i = l.length := by omega
   refine s_exit ?_
   refine k6 _ _ ?_
   refine s_seq fun _ k24 => ?_
   refine s_rseq fun _ k25 => ?_
   refine o_v v_move ?_
   refine o_v (v_len rfl Tryz.underlying56) ?_
   refine o_v v_move ?_
   refine o_end (k25 _ _ ?_)
   refine s_block ?_
   refine s_loop (G := Nat) (fun j => [(95, I j)]) [95] [14, 96, 97, 98, 99, 100, 101, 102, 103, 104, 105] (fun j W => (j ≤ m ∧ ∀ x ∈ left.take j, x = 0) ∧ w2.grownBy W none) (fun j => m - j) (fun _ => rfl) 0 ⟨rfl, trivial⟩ ⟨⟨Nat.zero_le _, by simp⟩, grown_refl _ _⟩ ?_
   rintro j jv w7 ⟨⟨hj, hz⟩, g7⟩
   replace G := G.step0 g7
   refine s_rseq fun _ k26 => ?_
   refine o_v (v_lss rfl rfl) ?_
   refine o_end (k26 _ _ ?_)
   refine s_seq fun _ k27 => ?_
   refine s_ifd rfl (fun c27 => ?_) (fun c27 => ?_)
   ·have hjlt : j < m := by omega
    obtain ⟨gb, cap2, csr, hvi, hgS, hBr, hcr2, hcellr, -⟩ := (hrow.step0 g7).putI j (by omega)
    obtain ⟨rfl, -, -⟩ : cb = gb ∧ m = left.length ∧ cap = cap2 := by simpa using hvi
    refine s_skip ?_
    refine k27 _ _ ?_
    refine s_seq fun _ k28 => ?_
    refine s_block ?_
    refine s_rseq fun _ k29 => ?_
    refine o_v (v_index rfl rfl slt56 (by omega)) ?_
    refine o_v (v_loadC rfl sc3 hcellr) ?_
    refine o_v v_assign ?_
    refine o_end (k29 _ _ ?_)
    refine s_rseq fun _ k30 => ?_
    refine o_v v_move ?_
    refine o_v (v_neq rfl rfl) ?_
    refine o_end (k30 _ _ ?_)
    refine s_ifd rfl (fun c30 => ?_) (fun c30 => ?_)
    ·refine s_region ?_
     refine o_v v_move ?_
     refine o_v (v_len rfl Tryz.underlying33) ?_
     refine o_v (v_build rfl (fun W => bld215_0 W)) ?_
     refine o_v (v_mkI rfl (mkI215 _)) ?_
     refine o_panic rfl (postP ?_)
     exact ⟨.inr ⟨costsL_left hbl hpy (List.getElem_mem (show j < left.length by omega)) (by exact c30), _, rfl⟩, G⟩
    ·refine s_skip ?_
     refine k28 _ _ ?_
     refine s_region ?_
     refine o_v (v_add rfl rfl (by omega)) ?_
     refine o_v v_move ?_
     refine o_end ?_
     refine mid (j + 1) ?_ ?_ ?_
     ·repeat (first | exact off_refl | refine off_cons rfl ?_)
     ·exact ⟨rfl, trivial⟩
     ·refine ⟨⟨⟨hjlt, fun x hx => ?_⟩, g7⟩, by omega⟩
      rw [List.take_succ_eq_append_getElem (by omega)] at hx
      rcases List.mem_append.1 hx with hx | hx
      ·exact hz x hx
      ·rw [List.mem_singleton.1 hx]
       exact Classical.not_not.1 (by exact c30)
   ·refine s_exit ?_
    refine k24 _ _ ?_
    refine s_rseq fun _ k31 => ?_
    refine o_v v_move ?_
    refine o_v v_assign ?_
    refine o_end (k31 _ _ ?_)
    refine s_ret (post1 rfl ?_)
    have hjm : j = m := by omega
    rw [List.take_of_length_le (by omega)] at hz
    exact ⟨.inl ⟨_, costsL_some hbl hpy hz, rfl⟩, G⟩
end Go.Proofs.NV
namespace Go.Proofs.NV
open Go.RowKit Go.Shelf
attribute [local irreducible] bodyPost bodyPostM wpQuiet
structure Bought where
 buy : List (List Int)
 cost : Int
 parcels : Int
def boughtT : Ty Bought := (Ty.int.sl.sl.pair (Ty.int.pair Ty.int)).iso fun b => (b.buy, b.cost, b.parcels)
theorem boughtT_sz : boughtT.sz = 3 := rfl
theorem boughtT_iff {w : World} {S : Nat → Prop} {p : Bought} {cs : List Value} : boughtT.rep w S p cs ↔ ∃ A c, cs = [.slice A p.buy.length c, I p.cost, I p.parcels] ∧ p.buy.length ≤ c ∧ c ≤ maxLen ∧ Ty.int.sl.Sl w S A p.buy := by
 constructor
 ·rintro ⟨c0, c1, rfl, ⟨A, c, rfl, h1, h2, h3⟩, c2, c3, rfl, h4, h5⟩
  obtain rfl : c2 = [I p.cost] := h4
  obtain rfl : c3 = [I p.parcels] := h5
  exact ⟨A, c, rfl, h1, h2, h3⟩
 ·rintro ⟨A, c, rfl, h1, h2, h3⟩
  exact ⟨[.slice A p.buy.length c], [I p.cost, I p.parcels], rfl, ⟨A, c, rfl, h1, h2, h3⟩, [I p.cost], [I p.parcels], rfl, rfl, rfl⟩
def cmpLL : List (List Int) → List (List Int) → Int
 | [], [] => 0
 | [], _ :: _ => -1
 | _ :: _, [] => 1
 | a :: l, b :: m => if cmpL a b ≠ 0 then cmpL a b else cmpLL l m
def betterB (a b : Bought) : Bool := if a.cost ≠ b.cost then decide (a.cost < b.cost) else if a.parcels ≠ b.parcels then decide (a.parcels < b.parcels) else decide (cmpLL a.buy b.buy < 0)
def Bought.fine (b : Bought) : Prop := b.buy.length ≤ 1000 ∧ ∀ r ∈ b.buy, r.length ≤ 1000
theorem f112_calls {S T : Nat → Prop} (A : Option Addr) (c : Nat) (xs : List Int) (B : Option Addr) (d : Nat) (ys : List Int) (w : World) (hx : Ty.int.Sl w S A xs) (hy : Ty.int.Sl w T B ys) (hm : xs.length ≤ 1000000) (hm2 : ys.length ≤ 1000000) :
  Calls Tryz.prog 112 #[.slice A xs.length c, .slice B ys.length d] w fun e w' => e = .returned (I (cmpL xs ys)) ∧ w.grownBy w' none := by
 refine s_enter (n := 8) Tryz.func112 rfl rfl rfl ?_
 have G := grown_refl w none
 refine s_rseq fun _ k1 => ?_
 refine o_v v_assign ?_
 refine o_end (k1 _ _ ?_)
 refine s_rseq fun _ k2 => ?_
 refine o_v v_move ?_
 refine o_v v_move ?_
 refine o_call rfl rfl ent99 (f99_calls A c xs B d ys _ hx hy hm hm2) ?_; rintro _ w1 ⟨rfl, g1⟩; refine ⟨_, rfl, ?_⟩
 replace G := G.step0 g1
 refine o_v v_assign ?_
 refine o_end (k2 _ _ ?_)
 refine s_ret (post1 rfl ?_)
 exact ⟨rfl, G⟩
theorem f111_calls {S T : Nat → Prop} (A : Option Addr) (c : Nat) (xs : List (List Int)) (B : Option Addr) (d : Nat) (ys : List (List Int)) (w : World) (hx : Ty.int.sl.Sl w S A xs) (hy : Ty.int.sl.Sl w T B ys) (hm : xs.length ≤ 1000 ∧ ∀ r ∈ xs, r.length ≤ 1000) (hm2 : ys.length ≤ 1000 ∧ ∀ r ∈ ys, r.length ≤ 1000) :
  Calls Tryz.prog 111 #[.slice A xs.length c, .slice B ys.length d, .func (.func 112) #[] #[]] w fun e w' => e = .returned (I (cmpLL xs ys)) ∧ w.grownBy w' none := by
 refine s_enter (n := 39) Tryz.func111 rfl rfl rfl ?_
 have G := grown_refl w none
 refine s_rseq fun _ k1 => ?_
 refine o_v v_assign ?_
 refine o_end (k1 _ _ ?_)
 refine s_seq fun _ k2 => ?_
 refine s_rseq fun _ k3 => ?_
 refine o_v v_move ?_
 refine o_v (v_len rfl Tryz.underlying33) ?_
 refine o_v v_move ?_
 refine o_end (k3 _ _ ?_)
 refine s_block ?_
 refine s_loop (G := Nat) (fun g => [(13, I g)]) [13] [6, 7, 8, 9, 10, 14, 15, 16, 17, 18, 19, 20, 21, 22, 23, 24, 25, 26, 27, 28, 29, 30, 31, 32, 33] (fun g W => (g ≤ xs.length ∧ g ≤ ys.length ∧ cmpLL xs ys = cmpLL (xs.drop g) (ys.drop g)) ∧ w.grownBy W none) (fun g => xs.length - g) (fun _ => rfl) 0 ⟨rfl, trivial⟩ ⟨⟨Nat.zero_le _, Nat.zero_le _, rfl⟩, grown_refl _ _⟩ ?_
 rintro g jv w1 ⟨⟨hg, hg2, hcm⟩, g1⟩
 replace G := G.step0 g1
 refine s_rseq fun _ k4 => ?_
 refine o_v (v_lss rfl rfl) ?_
 refine o_end (k4 _ _ ?_)
 refine s_seq fun _ k5 => ?_
 refine s_ifd rfl (fun c5 => ?_) (fun c5 => ?_)
 ·have hlt : g < xs.length := by omega
  obtain ⟨b1, o1, c1, rfl, _, ⟨rA, rc, rfl, _, _, hrS⟩, hr1⟩ := (hx.step0 g1).get g hlt
  have hc1 := hr1 0 _ rfl
  have hdx := List.drop_eq_getElem_cons hlt
  have hxl := hm.2 _ (List.getElem_mem hlt)
  refine s_skip ?_
  refine k5 _ _ ?_
  refine s_seq fun _ k6 => ?_
  refine s_block ?_
  refine s_rseq fun _ k7 => ?_
  refine o_v v_move ?_
  refine o_v (v_index rfl rfl slt33 (by omega)) ?_
  refine o_v (v_loadC rfl sc56 hc1) ?_
  refine o_v v_assign ?_
  refine o_v v_assign ?_
  refine o_end (k7 _ _ ?_)
  refine s_seq fun _ k8 => ?_
  refine s_rseq fun _ k9 => ?_
  refine o_v v_move ?_
  refine o_v v_move ?_
  refine o_v (v_len rfl Tryz.underlying33) ?_
  refine o_v (v_geq rfl rfl) ?_
  refine o_end (k9 _ _ ?_)
  refine s_ifd rfl (fun c9 => ?_) (fun c9 => ?_)
  ·refine s_rseq fun _ k10 => ?_
   refine o_v v_assign ?_
   refine o_end (k10 _ _ ?_)
   refine s_ret (post1 rfl ?_)
   have hdy : ys.drop g = [] := List.drop_eq_nil_of_le (by omega)
   exact ⟨ret_int (by rw [hcm, hdx, hdy, cmpLL]), G⟩
  ·have hlt2 : g < ys.length := by omega
   obtain ⟨b2, o2, c2, rfl, _, ⟨sA, sc, rfl, _, _, hsS⟩, hr2⟩ := (hy.step0 g1).get g hlt2
   have hc2 := hr2 0 _ rfl
   have hdy := List.drop_eq_getElem_cons hlt2
   have hyl := hm2.2 _ (List.getElem_mem hlt2)
   rw [hdx, hdy, cmpLL] at hcm
   refine s_skip ?_
   refine k8 _ _ ?_
   refine s_rseq fun _ k11 => ?_
   refine o_v v_move ?_
   refine o_v v_move ?_
   refine o_v (v_index rfl rfl slt33 (by omega)) ?_
   refine o_v (v_loadC rfl sc56 hc2) ?_
   refine o_v v_assign ?_
   refine o_end (k11 _ _ ?_)
   refine s_rseq fun _ k12 => ?_
   refine o_v v_move ?_
   refine o_v v_move ?_
   refine o_v v_move ?_
   refine o_call rfl rfl ent112 (f112_calls rA rc xs[g] sA sc ys[g] _ hrS hsS (by omega) (by omega)) ?_; rintro _ w2 ⟨rfl, g2⟩; refine ⟨_, rfl, ?_⟩
   replace G := G.step0 g2; replace g1 := g1.step0 g2
   refine o_v v_assign ?_
   refine o_end (k12 _ _ ?_)
   refine s_rseq fun _ k13 => ?_
   refine o_v v_move ?_
   refine o_v (v_neq rfl rfl) ?_
   refine o_end (k13 _ _ ?_)
   refine s_ifd rfl (fun c13 => ?_) (fun c13 => ?_)
   ·refine s_rseq fun _ k14 => ?_
    refine o_v v_move ?_
    refine o_v v_assign ?_
    refine o_end (k14 _ _ ?_)
    refine s_ret (post1 rfl ?_)
    exact ⟨ret_int (by rw [hcm, if_pos c13]), G⟩
   ·refine s_skip ?_
    refine k6 _ _ ?_
    refine s_region ?_
    refine o_v (v_add rfl rfl (by omega)) ?_
    refine o_v v_move ?_
    refine o_end ?_
    refine mid (g + 1) ?_ ?_ ?_
    ·repeat (first | exact off_refl | refine off_cons rfl ?_)
    ·exact ⟨rfl, trivial⟩
    ·exact ⟨⟨⟨hlt, hlt2, by rw [hcm, if_neg c13]⟩, g1⟩, (by omega)⟩
 ·have hdx : xs.drop g = [] := List.drop_eq_nil_of_le (by omega)
  rw [hdx] at hcm
  refine s_exit ?_
  refine k2 _ _ ?_
  refine s_seq fun _ k15 => ?_
  refine s_rseq fun _ k16 => ?_
  refine o_v v_move ?_
  refine o_v (v_len rfl Tryz.underlying33) ?_
  refine o_v v_move ?_
  refine o_v (v_len rfl Tryz.underlying33) ?_
  refine o_v (v_lss rfl rfl) ?_
  refine o_end (k16 _ _ ?_)
  refine s_ifd rfl (fun c16 => ?_) (fun c16 => ?_)
  ·refine s_rseq fun _ k17 => ?_
   refine o_v v_assign ?_
   refine o_end (k17 _ _ ?_)
   refine s_ret (post1 rfl ?_)
   have hlt2 : g < ys.length := by omega
   exact ⟨ret_int (by rw [hcm, List.drop_eq_getElem_cons hlt2, cmpLL]), G⟩
  ·refine s_skip ?_
   refine k15 _ _ ?_
   refine s_rseq fun _ k18 => ?_
   refine o_v v_assign ?_
   refine o_end (k18 _ _ ?_)
   refine s_ret (post1 rfl ?_)
   have hdy : ys.drop g = [] := List.drop_eq_nil_of_le (by omega)
   exact ⟨ret_int (by rw [hcm, hdy, cmpLL]), G⟩
theorem f110_calls {S T : Nat → Prop} (x y : Bought) (cx cy : List Value) (w : World) (hx : boughtT.rep w S x cx) (hy : boughtT.rep w T y cy) (fx : x.fine) (fy : y.fine) :
  Calls Tryz.prog 110 #[.agg cx.toArray, .agg cy.toArray] w fun e w' => e = .returned (.bool (betterB x y)) ∧ w.grownBy w' none := by
 obtain ⟨xA, xc, rfl, hx1, hx2, hx3⟩ := boughtT_iff.1 hx
 obtain ⟨yA, yc, rfl, hy1, hy2, hy3⟩ := boughtT_iff.1 hy
 refine s_enter (n := 31) Tryz.func110 rfl rfl rfl ?_
 have G := grown_refl w none
 refine s_rseq fun _ k1 => ?_
 refine o_box (t := 177) rfl ?_; intro w1 B2 g1 z1
 replace G := G.step0 g1
 refine o_box (t := 177) rfl ?_; intro w2 B3 g2 z2
 replace G := G.step0 g2; replace B2 := B2.step0 g2
 refine o_v v_assign ?_
 refine o_end (k1 _ _ ?_)
 refine s_seq fun _ k2 => ?_
 refine s_rseq fun _ k3 => ?_
 refine o_v (v_field rfl fld177_1) ?_
 refine o_v (v_loadB rfl sc3 B2 rfl) ?_
 refine o_v (v_field rfl fld177_1) ?_
 refine o_v (v_loadB rfl sc3 B3 rfl) ?_
 refine o_v (v_neq rfl rfl) ?_
 refine o_end (k3 _ _ ?_)
 refine s_ifd rfl (fun c3 => ?_) (fun c3 => ?_)
 ·refine s_rseq fun _ k4 => ?_
  refine o_v (v_field rfl fld177_1) ?_
  refine o_v (v_loadB rfl sc3 B2 rfl) ?_
  refine o_v (v_field rfl fld177_1) ?_
  refine o_v (v_loadB rfl sc3 B3 rfl) ?_
  refine o_v (v_lss rfl rfl) ?_
  refine o_v v_assign ?_
  refine o_end (k4 _ _ ?_)
  refine s_ret (post1 rfl ?_)
  refine ⟨ret_bool ?_, G⟩
  unfold betterB
  rw [if_pos c3]
 ·refine s_skip ?_
  refine k2 _ _ ?_
  refine s_seq fun _ k5 => ?_
  refine s_rseq fun _ k6 => ?_
  refine o_v (v_field rfl fld177_2) ?_
  refine o_v (v_loadB rfl sc3 B2 rfl) ?_
  refine o_v (v_field rfl fld177_2) ?_
  refine o_v (v_loadB rfl sc3 B3 rfl) ?_
  refine o_v (v_neq rfl rfl) ?_
  refine o_end (k6 _ _ ?_)
  refine s_ifd rfl (fun c6 => ?_) (fun c6 => ?_)
  ·refine s_rseq fun _ k7 => ?_
   refine o_v (v_field rfl fld177_2) ?_
   refine o_v (v_loadB rfl sc3 B2 rfl) ?_
   refine o_v (v_field rfl fld177_2) ?_
   refine o_v (v_loadB rfl sc3 B3 rfl) ?_
   refine o_v (v_lss rfl rfl) ?_
   refine o_v v_assign ?_
   refine o_end (k7 _ _ ?_)
   refine s_ret (post1 rfl ?_)
   refine ⟨ret_bool ?_, G⟩
   unfold betterB
   rw [if_neg c3, if_pos c6]
  ·refine s_skip ?_
   refine k5 _ _ ?_
   refine s_rseq fun _ k8 => ?_
   refine o_v (v_field rfl fld177_0) ?_
   refine o_v (v_loadB rfl sc33 B2 rfl) ?_
   refine o_v (v_field rfl fld177_0) ?_
   refine o_v (v_loadB rfl sc33 B3 rfl) ?_
   refine o_call rfl rfl ent111 (f111_calls xA xc x.buy yA yc y.buy _ (hx3.step0 G) (hy3.step0 G) fx fy) ?_; rintro _ w3 ⟨rfl, g3⟩; refine ⟨_, rfl, ?_⟩
   replace G := G.step0 g3; replace B2 := B2.step0 g3; replace B3 := B3.step0 g3
   refine o_v (v_lss rfl rfl) ?_
   refine o_v v_assign ?_
   refine o_end (k8 _ _ ?_)
   refine s_ret (post1 rfl ?_)
   refine ⟨ret_bool ?_, G⟩
   unfold betterB
   rw [if_neg c3, if_neg c6]
abbrev zeroBought : List Value := [.slice none 0 0, I 0, I 0]
theorem bought_three {w : World} {S : Nat → Prop} {p : Bought} {cs : List Value} (h : boughtT.rep w S p cs) : cs.length = 3 ∧ cs.all (·.oneCell') = true := ⟨boughtT.hlen h, by rw [List.all_eq_true]; exact boughtT.hone h⟩
def BestB (w : World) (S : Nat → Prop) (o : Option Bought) (cs : List Value) : Prop := (o = none ∧ cs = zeroBought) ∨ ∃ q, o = some q ∧ boughtT.rep w S q cs
theorem BestB.three {w : World} {S : Nat → Prop} {o : Option Bought} {cs : List Value} (h : BestB w S o cs) : cs.length = 3 ∧ cs.all (·.oneCell') = true := by
 rcases h with ⟨_, rfl⟩ | ⟨q, _, h⟩
 ·exact ⟨rfl, rfl⟩
 ·exact bought_three h
theorem BestB.step {w w' : World} {S : Nat → Prop} {o : Option Bought} {cs : List Value} {row : Option Nat} (h : BestB w S o cs) (g : w.grownBy w' row) (hS : ∀ k, S k → some k ≠ row) : BestB w' S o cs := by
 rcases h with h | ⟨q, h1, h⟩
 ·exact .inl h
 ·exact .inr ⟨q, h1, boughtT.step h g hS⟩
theorem BestB.step0 {w w' : World} {S : Nat → Prop} {o : Option Bought} {cs : List Value} (h : BestB w S o cs) (g : w.grownBy w' none) : BestB w' S o cs := h.step g (fun _ _ => by simp)
theorem f109_calls {S : Nat → Prop} (w : World) (bt : Bought → Bought → Bool) (Fn : Bought → Prop) (f : FuncId) (hf : Ent Tryz.prog f) (hbt : ∀ x y cx cy W, boughtT.rep W (fun k => S k ∧ IsC w k) x cx → boughtT.rep W (fun k => S k ∧ IsC w k) y cy → Fn x → Fn y → Calls Tryz.prog f #[.agg cx.toArray, .agg cy.toArray] W fun e w' => e = .returned (.bool (bt x y)) ∧ W.grownBy w' none)
  (A : Option Addr) (c : Nat) (xs : List Bought) (hx : boughtT.Sl w S A xs) (hm : xs.length ≤ 1000000) (hFn : ∀ x ∈ xs, Fn x) :
  Calls Tryz.prog 109 #[.slice A xs.length c, .func (.func f) #[] #[]] w fun e w' => ∃ cs, e = .returned (.tuple #[.agg cs.toArray, .bool (decide (0 < (xs.length : Int)))]) ∧ BestB w' (fun k => S k ∧ IsC w k) (bestL bt xs) cs ∧ w.grownBy w' none := by
 refine s_enter (n := 30) Tryz.func109 rfl rfl rfl ?_
 have G := grown_refl w none
 replace hx := hx.bound
 refine s_rseq fun _ k1 => ?_
 refine o_alloc (t := 177) ze177 rfl ?_; intro w1 B4 g1 z1
 replace G := G.step0 g1
 refine o_v v_assign ?_
 refine o_end (k1 _ _ ?_)
 refine s_rseq fun _ k2 => ?_
 have B4a := B4
 refine o_alloc (t := 177) ze177 rfl ?_; intro w2 B6 g2 z2
 replace G := G.step0 g2; replace B4 := B4.step0 g2
 refine o_end (k2 _ _ ?_)
 refine s_seq fun _ k3 => ?_
 refine s_rseq fun _ k4 => ?_
 refine o_v v_move ?_
 refine o_v (v_len rfl Tryz.underlying173) ?_
 refine o_v v_move ?_
 refine o_end (k4 _ _ ?_)
 refine s_block ?_
 refine s_loop (G := Nat) (fun g => [(11, I g)]) [11] [7, 8, 12, 13, 14, 15, 16, 17, 18, 19, 20, 21, 22, 23, 24, 25] (fun g W => (g ≤ xs.length ∧ ∃ cs, BestB W (fun k => S k ∧ IsC w k) (bestL bt (xs.take g)) cs ∧ Blk W w1.heap.size cs 177) ∧ w1.grownBy W none) (fun g => xs.length - g) (fun _ => rfl) 0 ⟨rfl, trivial⟩ ⟨⟨Nat.zero_le _, zeroBought, .inl ⟨rfl, rfl⟩, B6⟩, g2⟩ ?_
 rintro g jv w3 ⟨⟨hg, csb, hbest, B6⟩, g3⟩
 replace G := g1.step0 g3; replace B4 := B4a.step0 g3
 refine s_rseq fun _ k5 => ?_
 refine o_v (v_lss rfl rfl) ?_
 refine o_end (k5 _ _ ?_)
 refine s_seq fun _ k6 => ?_
 refine s_ifd rfl (fun c6 => ?_) (fun c6 => ?_)
 ·have hlt : g < xs.length := by omega
  obtain ⟨bx, ox, cx, rfl, _, hrep, hrg⟩ := ((hx.step0 g1).step0 g3).get g hlt
  have hcx := bought_three hrep
  rw [boughtT_sz] at hrg
  obtain ⟨oo, hoo⟩ : ∃ o : Bought, g = 0 ∨ bestL bt (xs.take g) = some o := by
   by_cases h0 : g = 0
   ·exact ⟨xs[g], .inl h0⟩
   ·obtain ⟨o, ho⟩ := bestL_some bt (l := xs.take g) (by intro e; have := congrArg List.length e; rw [List.length_take, List.length_nil] at this; omega)
    exact ⟨o, .inr ho⟩
  have htake : xs.take (g + 1) = xs.take g ++ [xs[g]] := List.take_succ_eq_append_getElem hlt
  refine s_skip ?_
  refine k6 _ _ ?_
  refine s_seq fun _ k7 => ?_
  refine s_block ?_
  refine s_rseq fun _ k8 => ?_
  refine o_v v_move ?_
  refine o_v (v_index rfl rfl slt173 (by omega)) ?_
  refine o_v (v_loadR rfl ag177 hrg hcx.1) ?_
  refine o_allocst1 (vs := cx) ze177 rfl rfl rfl sz177 hcx.1 rfl hcx.2 ?_; intro w4 B8 g4 z4
  replace hbest := hbest.step0 g4; replace hrep := boughtT.step0 hrep g4
  replace G := G.step0 g4; replace B4 := B4.step0 g4; replace B6 := B6.step0 g4; replace g3 := g3.step0 g4
  refine o_end (k8 _ _ ?_)
  refine s_rseq fun _ k9 => ?_
  refine o_v v_move ?_
  refine o_v (v_eql rfl rfl) ?_
  refine o_v v_move ?_
  refine o_mid (G := Unit) 5 (fun _ => [(23, .bool (decide ((g : Int) = 0) || bt xs[g] oo))]) [23] [19, 20, 21, 22] (fun _ w' => w4.grownBy w' none) (fun _ => rfl) ?_ ?_
  ·have H1 := grown_refl w4 none
   rcases Bool.eq_false_or_eq_true (decide ((g : Int) = 0)) with hX1 | hX1
   ·refine g_no rfl rfl rfl hX1 ?_
    refine g_no rfl rfl rfl hX1 ?_
    refine g_no rfl rfl rfl hX1 ?_
    refine g_no rfl rfl rfl hX1 ?_
    refine o_v (v_pick_t rfl hX1) ?_
    refine o_end (mid () ?_ ?_ ?_)
    ·repeat (first | exact off_refl | refine off_cons rfl ?_)
    ·exact ⟨by rw [hX1]; rfl, trivial⟩
    ·exact H1
   ·have hg0 : g ≠ 0 := fun h => by rw [h] at hX1; simp at hX1
    have hoo' := hoo.resolve_left hg0
    have hrb : boughtT.rep w4 (fun k => S k ∧ IsC w k) oo csb := by
     rcases hbest with ⟨h, _⟩ | ⟨q, h, hr⟩
     ·rw [hoo'] at h; cases h
     ·rw [hoo'] at h; injection h with h; rw [h]; exact hr
    refine g_yes rfl rfl rfl hX1 ?_
    refine o_v v_move ?_
    refine g_yes rfl rfl rfl hX1 ?_
    refine o_v (v_loadBS (vs := cx) rfl ag177 B8 (by rw [List.drop_zero, List.take_of_length_le (by rw [hcx.1]; decide)]) hcx.1) ?_
    refine g_yes rfl rfl rfl hX1 ?_
    refine o_v (v_loadBS (vs := csb) rfl ag177 B6 (by rw [List.drop_zero, List.take_of_length_le (by rw [(bought_three hrb).1]; decide)]) (bought_three hrb).1) ?_
    refine g_yes rfl rfl rfl hX1 ?_
    refine o_call rfl rfl hf (hbt xs[g] oo _ _ _ hrep hrb (hFn _ (List.getElem_mem hlt)) (hFn _ (List.mem_of_mem_take (bestL_mem hoo')))) ?_; rintro _ w5 ⟨rfl, g5⟩; refine ⟨_, rfl, ?_⟩
    replace G := G.step0 g5; replace B4 := B4.step0 g5; replace B6 := B6.step0 g5; replace g3 := g3.step0 g5; replace B8 := B8.step0 g5; replace H1 := H1.step0 g5
    refine o_v (v_pick_f rfl hX1) ?_
    refine o_end (mid () ?_ ?_ ?_)
    ·repeat (first | exact off_refl | refine off_cons rfl ?_)
    ·exact ⟨by rw [hX1]; rfl, trivial⟩
    ·exact H1
  ·rintro _ jv w6 g6
   replace G := G.step0 g6; replace B4 := B4.step0 g6; replace B6 := B6.step0 g6; replace g3 := g3.step0 g6; replace B8 := B8.step0 g6
   replace hbest := hbest.step0 g6; replace hrep := boughtT.step0 hrep g6
   refine o_end (k9 _ _ ?_)
   refine s_if rfl (fun c9 => ?_) (fun c9 => ?_)
   ·refine s_region ?_
    refine o_v (v_loadBS (vs := cx) rfl ag177 B8 (by rw [List.drop_zero, List.take_of_length_le (by rw [hcx.1]; decide)]) hcx.1) ?_
    rw [Bool.or_eq_true, decide_eq_true_eq] at c9
    have hcb := hbest.three
    refine o_storeB (vs := cx) rfl rfl sz177 hcx.1 B6 (by rw [hcx.1, hcb.1]; rfl) hcx.2 ?_; intro w7 B6 g7 z7
    rw [over_all (by rw [hcx.1, hcb.1])] at B6
    have hkw : ∀ k, S k ∧ IsC w k → some k ≠ some w1.heap.size := fun k hk e => by injection e with e; have := hk.2.lt; omega
    refine o_end ?_
    refine k7 _ _ ?_
    refine s_region ?_
    refine o_v (v_add rfl rfl (by omega)) ?_
    refine o_v v_move ?_
    refine o_end ?_
    refine mid (g + 1) ?_ ?_ ?_
    ·repeat (first | exact off_refl | refine off_cons rfl ?_)
    ·exact ⟨rfl, trivial⟩
    ·refine ⟨⟨⟨hlt, cx, .inr ⟨xs[g], ?_, boughtT.step hrep g7 hkw⟩, B6⟩, grown_own g3 g7 (by omega)⟩, by omega⟩
     rw [htake]
     rcases hoo with h0 | h0
     ·subst h0
      rfl
     ·rw [bestL_snoc h0]
      by_cases hb : bt xs[g] oo = true
      ·rw [if_pos hb]
      ·have : g = 0 := by
        rcases c9 with h | h
        ·omega
        ·exact absurd h hb
       subst this
       cases h0
   ·refine s_skip ?_
    refine k7 _ _ ?_
    refine s_region ?_
    refine o_v (v_add rfl rfl (by omega)) ?_
    refine o_v v_move ?_
    refine o_end ?_
    refine mid (g + 1) ?_ ?_ ?_
    ·repeat (first | exact off_refl | refine off_cons rfl ?_)
    ·exact ⟨rfl, trivial⟩
    ·rw [Bool.or_eq_false_iff, decide_eq_false_iff_not] at c9
     have h0 := hoo.resolve_left (by omega)
     refine ⟨⟨⟨hlt, csb, ?_, B6⟩, g3⟩, by omega⟩
     rw [htake, bestL_snoc h0, c9.2, if_neg (by decide), ← h0]
     exact hbest
 ·obtain rfl : g = xs.length := by omega
  rw [List.take_length] at hbest
  have hcb := hbest.three
  refine s_exit ?_
  refine k3 _ _ ?_
  refine s_rseq fun _ k10 => ?_
  refine o_v (v_loadBS (vs := csb) rfl ag177 B6 (by rw [List.drop_zero, List.take_of_length_le (by rw [hcb.1]; decide)]) hcb.1) ?_
  refine o_v v_move ?_
  refine o_v (v_len rfl Tryz.underlying173) ?_
  refine o_v (v_gtr rfl rfl) ?_
  refine o_storeB (vs := csb) rfl rfl sz177 hcb.1 B4 (by rw [hcb.1]; rfl) hcb.2 ?_; intro w8 B4 g8 z8
  rw [over_all (by rw [hcb.1]; rfl)] at B4
  refine o_v v_assign ?_
  refine o_end (k10 _ _ ?_)
  refine s_ret (postR (res_ct rfl rfl (run_loadVar_ag ag177 B4 hcb.1)) ?_)
  exact ⟨csb, rfl, hbest.step g8 (fun k hk e => by injection e with e; have := hk.2.lt; omega), grown_own G g8 (by omega)⟩
end Go.Proofs.NV
