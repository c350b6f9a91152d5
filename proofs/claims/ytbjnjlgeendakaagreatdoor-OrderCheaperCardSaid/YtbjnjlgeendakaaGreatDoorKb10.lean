/- Part of the proof: opened: its state between the loops.. Walk: opened.. -/
import Derived.Test.YtbjnjlgeendakaaGreatDoorKb9
set_option linter.unusedVariables false
set_option maxRecDepth 100000
set_option linter.unusedSimpArgs false
namespace Go.Proofs.NV
open Go.RowKit Go.Shelf
attribute [local irreducible] bodyPost bodyPostM wpQuiet
def ocL (b1 b2 b3 : Nat) (pv : Value) (X : Nat → Prop) (k : Nat) : Prop := k = b1 ∨ k = b2 ∨ k = b3 ∨ pv.ownBlock = some k ∨ X k
structure OC (w0 : World) (cs : List Value) (b1 b2 b3 : Nat) (zs : List Value) (pv : Value) (vs : List Value) (X : Nat → Prop) (pss : List (List Page)) (Ds : List Nat) (W : World) : Prop where
 g : w0.grownBy W none
 B1 : Blk W b1 cs 25
 B2 : Blk W b2 zs 130
 B3 : Blk W b3 (cs ++ [pv]) 130
 ne : w0.heap.size ≤ b1 ∧ w0.heap.size ≤ b2 ∧ w0.heap.size ≤ b3 ∧ b1 ≠ b2 ∧ b1 ≠ b3 ∧ b2 ≠ b3
 row : valT.Row 135 W (fun k => k ≠ b1 ∧ k ≠ b2 ∧ k ≠ b3 ∧ w0.heap.size ≤ k ∧ ¬ X k) pv vs
 pgs : Pgs W (fun k => ocL b1 b2 b3 pv X k ∨ k < w0.heap.size) vs pss
 new : ∀ j (hj : j < vs.length) k, vs[j].ownBlock = some k → w0.heap.size ≤ k
 nd : Ds.Nodup
 dm : ∀ D ∈ Ds, W.heap[D]? = some (.deferred (some []))
section
variable {w0 W w' : World} {cs zs : List Value} {b1 b2 b3 : Nat} {pv : Value} {vs : List Value} {X M : Nat → Prop} {pss pss' : List (List Page)} {Ds : List Nat} {B : Nat}
theorem OC.frame (h : OC w0 cs b1 b2 b3 zs pv vs X pss Ds W) (F : Fr M W w') (hM : ∀ k, M k → w0.heap.size ≤ k ∧ IsC W k ∧ k ≠ b1 ∧ k ≠ b2 ∧ k ≠ b3 ∧ pv.ownBlock ≠ some k) (hP : Pgs w' (fun k => ocL b1 b2 b3 pv X k ∨ k < w0.heap.size) vs pss') : OC w0 cs b1 b2 b3 zs pv vs X pss' Ds w' where
 g := ⟨F.os.trans h.g.os, F.tape.trans h.g.tape, F.output.trans h.g.output, Nat.le_trans h.g.size F.size, fun k hk _ => (F.same k (Nat.lt_of_lt_of_le hk h.g.size) fun hm => by have := (hM k hm).1; omega).trans (h.g.block k hk (by simp))⟩
 B1 := h.B1.fr F fun hm => (hM _ hm).2.2.1 rfl
 B2 := h.B2.fr F fun hm => (hM _ hm).2.2.2.1 rfl
 B3 := h.B3.fr F fun hm => (hM _ hm).2.2.2.2.1 rfl
 ne := h.ne
 row := by
  obtain ⟨h0, inner, ho, hr⟩ := h.row
  exact ⟨h0, inner, Ty.own_move ho (fun k hk => F.same k (Ty.own_lt ho k hk) fun hm => (hM k hm).2.2.2.2.2 hk), hr⟩
 pgs := hP
 new := h.new
 nd := h.nd
 dm := fun D hD => (F.same D (Array.getElem?_eq_some_iff.1 (h.dm D hD)).1 fun hm => by
  obtain ⟨o, h1, h2⟩ := (hM D hm).2.1
  rw [h.dm D hD] at h1; cases h1; cases h2).trans (h.dm D hD)
theorem OC.step0 (h : OC w0 cs b1 b2 b3 zs pv vs X pss Ds W) (g : W.grownBy w' none) : OC w0 cs b1 b2 b3 zs pv vs X pss Ds w' := h.frame (M := fun _ => False) (Fr.grown g) (fun _ hm => hm.elim) (h.pgs.step0 g)
theorem OC.stepX (h : OC w0 cs b1 b2 b3 zs pv vs X pss Ds W) {k : Nat} (g : W.grownBy w' (some k)) (hX : X k) (hk : w0.heap.size ≤ k) (hc : IsC W k) (hn : k ≠ b1 ∧ k ≠ b2 ∧ k ≠ b3) : OC w0 cs b1 b2 b3 zs pv vs X pss Ds w' := by
 have F : Fr (fun j => j = k) W w' := Fr.of_grown g fun j hj => by injection hj with hj; exact hj.symm
 refine h.frame F (fun j hj => ?_) (h.pgs.fr F fun j hj => by subst hj; exact .inl (.inr (.inr (.inr (.inr hX)))))
 subst hj
 exact ⟨hk, hc, hn.1, hn.2.1, hn.2.2, fun e => (h.row.1 j e).2.2.2.2 hX⟩
theorem OC.fz (h : OC w0 cs b1 b2 b3 zs pv vs X pss Ds W) (hB : w0.heap.size ≤ B) (hD : ∀ D ∈ Ds, D < B) (F : Fz B W w') : OC w0 cs b1 b2 b3 zs pv vs X pss Ds w' where
 g := ⟨F.os.trans h.g.os, F.tape.trans h.g.tape, F.output.trans h.g.output, Nat.le_trans h.g.size F.size, fun k hk _ => (F.same k (Nat.lt_of_lt_of_le hk h.g.size) (.inr (by omega))).trans (h.g.block k hk (by simp))⟩
 B1 := h.B1.fz F
 B2 := h.B2.fz F
 B3 := h.B3.fz F
 ne := h.ne
 row := by
  obtain ⟨h0, inner, ho, hr⟩ := h.row
  exact ⟨h0, inner, Ty.own_move ho (fun k hk => F.same k (Ty.own_lt ho k hk) (.inl (Ty.own_isC ho k hk))), hr⟩
 pgs := h.pgs.fz F
 new := h.new
 nd := h.nd
 dm := fun D hm => (F.same D (Array.getElem?_eq_some_iff.1 (h.dm D hm)).1 (.inr (hD D hm))).trans (h.dm D hm)
theorem OC.head (h : OC w0 cs b1 b2 b3 zs pv vs X pss Ds W) (hv : 0 < vs.length) : ∃ bO cap csO, pv = .slice (some ⟨bO, 0, none⟩) vs.length cap ∧ Blk W bO csO 135 ∧ csO.take vs.length = vs ∧ pv.ownBlock = some bO ∧ csO.length = cap ∧ vs.length ≤ cap ∧ cap ≤ maxLen ∧ w0.heap.size ≤ bO ∧ bO ≠ b1 ∧ bO ≠ b2 ∧ bO ≠ b3 := by
 obtain ⟨bO, cap, csO, h1, h2, h3, h4, h5, h6, h7⟩ := h.row.open_ hv
 have hreps : ∀ (xs : List Value) (ys : List Value), Reps (valT.rep W (fun k => (k ≠ b1 ∧ k ≠ b2 ∧ k ≠ b3 ∧ w0.heap.size ≤ k ∧ ¬ X k) ∧ k ≠ bO)) xs ys → ys = xs := by
  intro xs
  induction xs with
  | nil => intro ys h; exact h
  | cons x xs ih =>
   rintro ys ⟨c, r, rfl, hc, hr⟩
   rw [hc.1, ih r hr]; rfl
 refine ⟨bO, cap, csO, h1, h3, ?_, by rw [h1]; rfl, by simpa [valT] using h4, h5, h6, h2.2.2.2.1, h2.1, h2.2.1, h2.2.2.1⟩
 have := hreps _ _ h7
 simpa [valT] using this
theorem OC.count (h : OC w0 cs b1 b2 b3 zs pv vs X pss Ds W) {E : Nat} (hE : E < vs.length) (F : Fr (fun k => vs[E].ownBlock = some k) W w') (hP : Pgs w' (fun k => ocL b1 b2 b3 pv X k ∨ k < w0.heap.size) vs pss') : OC w0 cs b1 b2 b3 zs pv vs X pss' Ds w' := by
 refine h.frame F (fun k hk => ?_) hP
 have hr := h.pgs.row E hE
 have h0 := hr.1 k hk
 refine ⟨h.new E hE k hk, ?_, fun e => h0.1 (.inl (.inl e)), fun e => h0.1 (.inl (.inr (.inl e))), fun e => h0.1 (.inl (.inr (.inr (.inl e)))), fun e => h0.1 (.inl (.inr (.inr (.inr (.inl e)))))⟩
 obtain ⟨_, inner, ho, _⟩ := hr
 exact Ty.own_isC ho k hk
theorem OC.fresh (h : OC w0 cs b1 b2 b3 zs pv vs X pss Ds W) : ∀ k, W.heap.size ≤ k → ∀ j (hj : j < vs.length), vs[j].ownBlock ≠ some k := by
 intro k hk j hj e
 obtain ⟨_, inner, ho, _⟩ := h.pgs.row j hj
 have := Ty.own_lt ho k e
 omega
theorem OC.newX {X' : Nat → Prop} (h : OC w0 cs b1 b2 b3 zs pv vs X pss Ds W) (hX : ∀ k, X' k → X k ∨ W.heap.size ≤ k) : OC w0 cs b1 b2 b3 zs pv vs X' pss Ds W where
 g := h.g
 B1 := h.B1
 B2 := h.B2
 B3 := h.B3
 ne := h.ne
 row := h.row.bound.mono fun k hk => ⟨hk.1.1, hk.1.2.1, hk.1.2.2.1, hk.1.2.2.2.1, fun hx => by
  rcases hX k hx with h1 | h1
  ·exact hk.1.2.2.2.2 h1
  ·have := hk.2.lt; omega⟩
 pgs := ⟨h.pgs.len, fun i hi => (h.pgs.row i hi).bound.mono fun k hk => ⟨fun hl => by
  rcases hl with (h1 | h1 | h1 | h1 | h1) | h1
  ·exact hk.1.1 (.inl (.inl h1))
  ·exact hk.1.1 (.inl (.inr (.inl h1)))
  ·exact hk.1.1 (.inl (.inr (.inr (.inl h1))))
  ·exact hk.1.1 (.inl (.inr (.inr (.inr (.inl h1)))))
  ·rcases hX k h1 with h2 | h2
   ·exact hk.1.1 (.inl (.inr (.inr (.inr (.inr h2)))))
   ·have := hk.2.lt; omega
  ·exact hk.1.1 (.inr h1), hk.1.2⟩⟩
 new := h.new
 nd := h.nd
 dm := h.dm
theorem OC.mark (h : OC w0 cs b1 b2 b3 zs pv vs X pss Ds W) {D : Nat} (hD : ∀ D' ∈ Ds, D' < D) (hd : W.heap[D]? = some (.deferred (some []))) : OC w0 cs b1 b2 b3 zs pv vs X pss (D :: Ds) W := { h with
 nd := List.nodup_cons.2 ⟨fun hm => by have := hD D hm; omega, h.nd⟩
 dm := fun D' hm => by
  rcases List.mem_cons.1 hm with rfl | hm
  ·exact hd
  ·exact h.dm D' hm }
theorem OC.push {W1 W2 : World} {pv' lv : Value} {ps : List Page} (h : OC w0 cs b1 b2 b3 zs pv vs X pss Ds W) (row' : valT.Row 135 W1 (fun k => k ≠ b1 ∧ k ≠ b2 ∧ k ≠ b3 ∧ w0.heap.size ≤ k ∧ ¬ X k) pv' (vs ++ [lv])) (g1 : W.grownBy W1 pv.ownBlock) (hat : pv'.ownBlock = pv.ownBlock ∨ pv'.ownBlock = some W.heap.size)
  (B3' : Blk W2 b3 (cs ++ [pv']) 130) (g2 : W1.grownBy W2 (some b3)) (hX : ∀ k, lv.ownBlock = some k → X k) (hl : pageT.Row 137 W (fun k => k ≠ b1 ∧ k ≠ b2 ∧ k ≠ b3 ∧ pv.ownBlock ≠ some k ∧ w0.heap.size ≤ k ∧ ∀ j (hj : j < vs.length), vs[j].ownBlock ≠ some k) lv ps) :
  OC w0 cs b1 b2 b3 zs pv' (vs ++ [lv]) (fun _ => False) (pss ++ [ps]) Ds W2 := by
 have hpv : ∀ k, pv.ownBlock = some k → k ≠ b1 ∧ k ≠ b2 ∧ k ≠ b3 ∧ w0.heap.size ≤ k ∧ ¬ X k := fun k hk => h.row.1 k hk
 have hpc : ∀ k, pv.ownBlock = some k → IsC W k := fun k hk => by obtain ⟨_, inner, ho, _⟩ := h.row; exact Ty.own_isC ho k hk
 have F : Fr (fun k => pv.ownBlock = some k ∨ k = b3) W W2 := (Fr.of_grown g1 fun k hk => .inl hk).trans (Fr.of_grown (M := fun k => k = b3) g2 fun k hk => by injection hk with hk; exact hk.symm) fun k _ hk => .inr hk
 have hnb : ∀ k, pv'.ownBlock = some k → k < W.heap.size → pv.ownBlock = some k := fun k hk hlt => by
  rcases hat with e | e
  ·rw [← e]; exact hk
  ·rw [e] at hk; injection hk with hk; omega
 have hvo : ∀ j (hj : j < vs.length) k, vs[j].ownBlock = some k → k < W.heap.size := fun j hj k hk => by
  have hr := h.pgs.row j hj
  obtain ⟨_, inner, ho, _⟩ := hr
  exact Ty.own_lt ho k hk
 have hlo : ∀ k, lv.ownBlock = some k → k < W.heap.size := fun k hk => by obtain ⟨_, inner, ho, _⟩ := hl; exact Ty.own_lt ho k hk
 have hget : ∀ j (hj : j < (vs ++ [lv]).length), (∃ h : j < vs.length, (vs ++ [lv])[j] = vs[j]) ∨ (j = vs.length ∧ (vs ++ [lv])[j] = lv) := fun j hj => by
  rcases Nat.lt_or_ge j vs.length with h1 | h1
  ·exact .inl ⟨h1, List.getElem_append_left h1⟩
  ·right
   have : j = vs.length := by simp at hj; omega
   subst this
   exact ⟨rfl, by simp⟩
 have hrow : ∀ j (hj : j < vs.length), pageT.Row 137 W2 (fun k => ¬ (ocL b1 b2 b3 pv' (fun _ => False) k ∨ k < w0.heap.size) ∧ ∀ i (hi : i < (vs ++ [lv]).length), i ≠ j → (vs ++ [lv])[i].ownBlock ≠ some k) vs[j] (pss[j]?.getD []) := fun j hj => by
  refine ((h.pgs.row j hj).bound.fr F fun k hk hm => ?_).mono fun k hk => ⟨fun hL => ?_, fun i hi hij e => ?_⟩
  ·rcases hm with hm | hm
   ·exact hk.1.1 (.inl (.inr (.inr (.inr (.inl hm)))))
   ·exact hk.1.1 (.inl (.inr (.inr (.inl hm))))
  ·rcases hL with (h1 | h1 | h1 | h1 | h1) | h1
   ·exact hk.1.1 (.inl (.inl h1))
   ·exact hk.1.1 (.inl (.inr (.inl h1)))
   ·exact hk.1.1 (.inl (.inr (.inr (.inl h1))))
   ·exact hk.1.1 (.inl (.inr (.inr (.inr (.inl (hnb k h1 hk.2.lt))))))
   ·exact h1
   ·exact hk.1.1 (.inr h1)
  ·rcases hget i hi with ⟨h1, h2⟩ | ⟨h1, h2⟩
   ·rw [h2] at e; exact hk.1.2 i h1 hij e
   ·rw [h2] at e; exact hk.1.1 (.inl (.inr (.inr (.inr (.inr (hX k e))))))
 refine ⟨?_, h.B1.fr F ?_, h.B2.fr F ?_, B3', h.ne, ?_, ⟨by simp [h.pgs.len], fun i hi => ?_⟩, fun j hj k hk => ?_, h.nd, fun D hD => ?_⟩
 ·exact ⟨F.os.trans h.g.os, F.tape.trans h.g.tape, F.output.trans h.g.output, Nat.le_trans h.g.size F.size, fun k hk _ => (F.same k (Nat.lt_of_lt_of_le hk h.g.size) fun hm => by
   rcases hm with hm | hm
   ·have := (hpv k hm).2.2.2.1; omega
   ·have := h.ne.2.2.1; omega).trans (h.g.block k hk (by simp))⟩
 ·rintro (hm | hm)
  ·exact (hpv _ hm).1 rfl
  ·exact h.ne.2.2.2.2.1 hm
 ·rintro (hm | hm)
  ·exact (hpv _ hm).2.1 rfl
  ·exact h.ne.2.2.2.2.2 hm
 ·exact (row'.mono fun k hk => ⟨hk.1, hk.2.1, hk.2.2.1, hk.2.2.2.1, fun h => h⟩).step g2 fun k hk => by intro e; injection e with e; exact hk.2.2.1 e
 ·rcases hget i hi with ⟨h1, h2⟩ | ⟨h1, h2⟩
  ·rw [h2, List.getElem?_append_left (by rw [← h.pgs.len]; exact h1)]
   exact hrow i h1
  ·rw [h2, h1, h.pgs.len, List.getElem?_append_right (Nat.le_refl _), Nat.sub_self]
   refine (hl.bound.fr F fun k hk hm => ?_).mono fun k hk => ⟨fun hL => ?_, fun j hj hji e => ?_⟩
   ·rcases hm with hm | hm
    ·exact hk.1.2.2.2.1 hm
    ·exact hk.1.2.2.1 hm
   ·rcases hL with (h3 | h3 | h3 | h3 | h3) | h3
    ·exact hk.1.1 h3
    ·exact hk.1.2.1 h3
    ·exact hk.1.2.2.1 h3
    ·exact hk.1.2.2.2.1 (hnb k h3 hk.2.lt)
    ·exact h3
    ·have := hk.1.2.2.2.2.1; omega
   ·rcases hget j hj with ⟨h3, h4⟩ | ⟨h3, h4⟩
    ·rw [h4] at e; exact hk.1.2.2.2.2.2 j h3 e
    ·rw [h.pgs.len] at h3; exact hji h3
 ·rcases hget j hj with ⟨h1, h2⟩ | ⟨h1, h2⟩
  ·rw [h2] at hk; exact h.new j h1 k hk
  ·rw [h2] at hk; exact (hl.1 k hk).2.2.2.2.1
 ·refine (F.same D (Array.getElem?_eq_some_iff.1 (h.dm D hD)).1 ?_).trans (h.dm D hD)
  rintro (hm | hm)
  ·obtain ⟨o, h1, h2⟩ := hpc D hm
   rw [h.dm D hD] at h1; cases h1; cases h2
  ·have h1 : Blk W b3 _ 130 := h.B3
   rw [← hm] at h1
   have h2 := h.dm D hD
   rw [show W.heap[D]? = _ from h1] at h2
   cases h2
end
end Go.Proofs.NV
namespace Go.Proofs.NV
open Go.RowKit Go.Shelf
attribute [local irreducible] bodyPost bodyPostM wpQuiet
theorem info137 : (Tryz.prog.info? 137).map (fun i => (i.zero, i.size, i.bytes)) = some (some (.agg #[.slice none 0 0, .int .i64 0, .int .i64 0]), 3, 40) := by kernel_rfl
theorem info135 : (Tryz.prog.info? 135).map (fun i => (i.zero, i.size, i.bytes)) = some (some (.slice none 0 0), 1, 24) := by kernel_rfl
theorem takeMap (f : List Int → Page) (p : List Int → Bool) (l : List (List Int)) (i : Nat) (h : i < l.length) : ((l.take (i + 1)).filter p).map f = ((l.take i).filter p).map f ++ if p l[i] then [f l[i]] else [] := by
 rw [List.take_succ_eq_append_getElem h, List.filter_append, List.map_append]
 cases hp : p l[i] <;> simp [hp]
theorem slice_oneCell {A : Option Addr} {n c : Nat} : (Value.slice A n c).oneCell' = true := rfl
theorem Ty.Row.one {α : Type} {t : Ty α} {e : TypeId} {w : World} {S : Nat → Prop} {v : Value} {xs : List α} (h : t.Row e w S v xs) : ∃ A n c, v = .slice A n c := by
 obtain ⟨A, c, h, _⟩ := h.reads
 exact ⟨A, _, c, h⟩
def Rnd (w0 : World) (cs : List Value) (b1 b2 b3 b4 b5 : Nat) (zs : List Value) (pv : Value) (vs : List Value) (pss : List (List Page)) (Ds : List Nat) (e : Int) (ps : List Page) (M : Nat → Prop) (W : World) : Prop :=
 ∃ lv, (∀ k, M k ↔ (ocL b1 b2 b3 pv (fun _ => False) k ∨ k = b4 ∨ k = b5 ∨ (∃ j, ∃ h : j < vs.length, vs[j].ownBlock = some k) ∨ lv.ownBlock = some k ∨ IsC w0 k)) ∧
  OC w0 cs b1 b2 b3 zs pv vs (fun k => k = b4 ∨ k = b5 ∨ lv.ownBlock = some k) pss Ds W ∧ Blk W b4 [I e] 3 ∧ Blk W b5 [lv] 135 ∧
  pageT.Row 137 W (fun k => k ≠ b1 ∧ k ≠ b2 ∧ k ≠ b3 ∧ k ≠ b4 ∧ k ≠ b5 ∧ pv.ownBlock ≠ some k ∧ w0.heap.size ≤ k ∧ ∀ j (hj : j < vs.length), vs[j].ownBlock ≠ some k) lv ps
theorem Rnd.fz {w0 W W' : World} {cs : List Value} {b1 b2 b3 b4 b5 : Nat} {zs : List Value} {pv : Value} {vs : List Value} {pss : List (List Page)} {Ds : List Nat} {e : Int} {ps : List Page} {M : Nat → Prop} {B : Nat} (h : Rnd w0 cs b1 b2 b3 b4 b5 zs pv vs pss Ds e ps M W) (hB : w0.heap.size ≤ B) (hD : ∀ D ∈ Ds, D < B) (F : Fz B W W') : Rnd w0 cs b1 b2 b3 b4 b5 zs pv vs pss Ds e ps M W' := by
 obtain ⟨lv, h1, h2, h3, h4, h5⟩ := h
 exact ⟨lv, h1, h2.fz hB hD F, h3.fz F, h4.fz F, h5.fz F⟩
theorem Rnd.cells {w0 W : World} {cs : List Value} {b1 b2 b3 b4 b5 : Nat} {zs : List Value} {pv : Value} {vs : List Value} {pss : List (List Page)} {Ds : List Nat} {e : Int} {ps : List Page} {M : Nat → Prop} (h : Rnd w0 cs b1 b2 b3 b4 b5 zs pv vs pss Ds e ps M W) : ∀ k, M k → IsC W k := by
 obtain ⟨lv, hM, hO, B4, B5, hR⟩ := h
 intro k hk
 rcases (hM k).1 hk with h1 | h1 | h1 | ⟨j, hj, h1⟩ | h1 | h1
 ·rcases h1 with rfl | rfl | rfl | h1 | h1
  ·exact hO.B1.isC
  ·exact hO.B2.isC
  ·exact hO.B3.isC
  ·obtain ⟨_, inner, ho, _⟩ := hO.row; exact Ty.own_isC ho k h1
  ·exact h1.elim
 ·rw [h1]; exact B4.isC
 ·rw [h1]; exact B5.isC
 ·obtain ⟨_, inner, ho, _⟩ := hO.pgs.row j hj; exact Ty.own_isC ho k h1
 ·obtain ⟨_, inner, ho, _⟩ := hR; exact Ty.own_isC ho k h1
 ·obtain ⟨o, h2, h3⟩ := h1; exact ⟨o, (hO.g.block k (Array.getElem?_eq_some_iff.1 h2).1 (by simp)).trans h2, h3⟩
theorem Rnd.add {w0 W W1 W2 : World} {cs : List Value} {b1 b2 b3 b4 b5 : Nat} {zs : List Value} {pv : Value} {vs : List Value} {pss : List (List Page)} {Ds : List Nat} {e : Int} {ps ps' : List Page} {M : Nat → Prop} {lv lv' : Value}
  (hM : ∀ k, M k ↔ (ocL b1 b2 b3 pv (fun _ => False) k ∨ k = b4 ∨ k = b5 ∨ (∃ j, ∃ h : j < vs.length, vs[j].ownBlock = some k) ∨ lv.ownBlock = some k ∨ IsC w0 k))
  (hO : OC w0 cs b1 b2 b3 zs pv vs (fun k => k = b4 ∨ k = b5 ∨ lv.ownBlock = some k) pss Ds W) (B4 : Blk W b4 [I e] 3)
  (hR : pageT.Row 137 W (fun k => k ≠ b1 ∧ k ≠ b2 ∧ k ≠ b3 ∧ k ≠ b4 ∧ k ≠ b5 ∧ pv.ownBlock ≠ some k ∧ w0.heap.size ≤ k ∧ ∀ j (hj : j < vs.length), vs[j].ownBlock ≠ some k) lv ps)
  (hR' : pageT.Row 137 W1 (fun k => k ≠ b1 ∧ k ≠ b2 ∧ k ≠ b3 ∧ k ≠ b4 ∧ k ≠ b5 ∧ pv.ownBlock ≠ some k ∧ w0.heap.size ≤ k ∧ ∀ j (hj : j < vs.length), vs[j].ownBlock ≠ some k) lv' ps')
  (g1 : W.grownBy W1 lv.ownBlock) (hat : lv'.ownBlock = lv.ownBlock ∨ lv'.ownBlock = some W.heap.size) (hB5 : IsC W b5) (B5' : Blk W2 b5 [lv'] 135) (g2 : W1.grownBy W2 (some b5)) (hb : w0.heap.size ≤ b5) (hne : b4 ≠ b5 ∧ b5 ≠ b1 ∧ b5 ≠ b2 ∧ b5 ≠ b3) :
  ∃ M', Rnd w0 cs b1 b2 b3 b4 b5 zs pv vs pss Ds e ps' M' W2 ∧ Turn M M' W W2 := by
 have hlc : ∀ k, lv.ownBlock = some k → IsC W k := fun k hk => by obtain ⟨_, inner, ho, _⟩ := hR; exact Ty.own_isC ho k hk
 have hO2 := hO.newX (X' := fun k => k = b4 ∨ k = b5 ∨ lv.ownBlock = some k ∨ lv'.ownBlock = some k) fun k hk => by
  rcases hk with h | h | h | h
  ·exact .inl (.inl h)
  ·exact .inl (.inr (.inl h))
  ·exact .inl (.inr (.inr h))
  ·rcases hat with e | e
   ·rw [e] at h; exact .inl (.inr (.inr h))
   ·rw [e] at h; injection h with h; exact .inr (by omega)
 have F1 : Fr (fun k => lv.ownBlock = some k) W W1 := Fr.of_grown g1 fun k hk => hk
 have hO3 := hO2.frame F1 (fun k hk => ⟨(hR.1 k hk).2.2.2.2.2.2.1, hlc k hk, (hR.1 k hk).1, (hR.1 k hk).2.1, (hR.1 k hk).2.2.1, (hR.1 k hk).2.2.2.2.2.1⟩) (hO2.pgs.fr F1 fun k hk => .inl (.inr (.inr (.inr (.inr (.inr (.inr (.inl hk))))))))
 have hb5l : lv.ownBlock ≠ some b5 := fun h => (hR.1 b5 h).2.2.2.2.1 rfl
 have hO4 := hO3.stepX g2 (.inr (.inl rfl)) hb (F1.isC hB5 hb5l) ⟨hne.2.1, hne.2.2.1, hne.2.2.2⟩
 have hO5 := hO4.newX (X' := fun k => k = b4 ∨ k = b5 ∨ lv'.ownBlock = some k) fun k hk => by
  rcases hk with h | h | h
  ·exact .inl (.inl h)
  ·exact .inl (.inr (.inl h))
  ·exact .inl (.inr (.inr (.inr h)))
 have B4' : Blk W2 b4 [I e] 3 := (B4.fr F1 fun h => (hR.1 b4 h).2.2.2.1 rfl).step g2 (by simp; exact hne.1)
 have hR2 := hR'.step g2 (fun k hk => by intro e; injection e with e; exact hk.2.2.2.2.1 e)
 have hrnd : Rnd w0 cs b1 b2 b3 b4 b5 zs pv vs pss Ds e ps' (fun k => ocL b1 b2 b3 pv (fun _ => False) k ∨ k = b4 ∨ k = b5 ∨ (∃ j, ∃ h : j < vs.length, vs[j].ownBlock = some k) ∨ lv'.ownBlock = some k ∨ IsC w0 k) W2 := ⟨lv', fun _ => Iff.rfl, hO5, B4', B5', hR2⟩
 refine ⟨_, hrnd, ⟨((F1.mono fun k _ h => (hM k).2 (.inr (.inr (.inr (.inr (.inl h))))))).trans (Fr.of_grown (M := M) g2 fun k h => by injection h with h; exact (hM k).2 (.inr (.inr (.inl h.symm)))) fun _ _ h => h, fun k hk => ⟨hrnd.cells k hk, ?_⟩⟩⟩
 rcases hk with h | h | h | h | h | h
 ·exact .inl ((hM k).2 (.inl h))
 ·exact .inl ((hM k).2 (.inr (.inl h)))
 ·exact .inl ((hM k).2 (.inr (.inr (.inl h))))
 ·exact .inl ((hM k).2 (.inr (.inr (.inr (.inl h)))))
 ·rcases hat with e | e
  ·rw [e] at h; exact .inl ((hM k).2 (.inr (.inr (.inr (.inr (.inl h))))))
  ·rw [e] at h; injection h with h; exact .inr (by omega)
 ·exact .inl ((hM k).2 (.inr (.inr (.inr (.inr (.inr h))))))
theorem Fr.toGrown {row : Option Nat} {a b : World} (h : Fr (fun k => row = some k) a b) : a.grownBy b row := ⟨h.os, h.tape, h.output, h.size, fun i hi hn => h.same i hi fun e => hn e.symm⟩
theorem OC.del {w0 W W1 W2 : World} {cs zs : List Value} {b1 b2 b3 : Nat} {pv : Value} {vs : List Value} {X : Nat → Prop} {pss : List (List Page)} {Ds : List Nat} (h : OC w0 cs b1 b2 b3 zs pv vs X pss Ds W) {g : Nat} (hg : g < vs.length) {v' : Value} {ps' : List Page}
  (hr' : pageT.Row 137 W1 (fun k => ¬ (ocL b1 b2 b3 pv X k ∨ k < w0.heap.size) ∧ ∀ j (hj : j < vs.length), j ≠ g → vs[j].ownBlock ≠ some k) v' ps') (g1 : W.grownBy W1 vs[g].ownBlock) (ho : v'.ownBlock = vs[g].ownBlock) (h1c : v'.oneCell' = true) {bO cap : Nat} {csO : List Value} (hpv : pv = .slice (some ⟨bO, 0, none⟩) vs.length cap)
  (hb : Blk W1 bO csO 135) (hb2 : Blk W2 bO (over csO (g * 1 + 0) [v']) 135) (g2 : W1.grownBy W2 (some bO)) : OC w0 cs b1 b2 b3 zs pv (vs.set g v') X (pss.set g ps') Ds W2 := by
 have hpo : pv.ownBlock = some bO := by rw [hpv]; rfl
 have hrg := h.pgs.row g hg
 have hgl : ∀ k, vs[g].ownBlock = some k → ¬ ocL b1 b2 b3 pv X k ∧ IsC W k := fun k hk => ⟨fun hh => (hrg.1 k hk).1 (.inl hh), by obtain ⟨_, inner, ho, _⟩ := hrg; exact Ty.own_isC ho k hk⟩
 have F1 : Fr (fun k => vs[g].ownBlock = some k) W W1 := Fr.of_grown g1 fun k hk => hk
 have hown : ∀ j (hj : j < (vs.set g v').length), ((vs.set g v')[j]).ownBlock = (vs[j]'(by rwa [List.length_set] at hj)).ownBlock := fun j hj => by
  rw [List.getElem_set]
  split
  ·rename_i e; subst e; exact ho
  ·rfl
 have F2 : Fr (fun k => vs[g].ownBlock = some k ∨ k = bO) W W2 := (F1.mono fun k _ hk => .inl hk).trans (Fr.of_grown (M := fun k => k = bO) g2 fun k hk => by injection hk with hk; exact hk.symm) fun k _ hk => .inr hk
 have hbO := h.row.1 bO hpo
 have hn : ∀ k, (vs[g].ownBlock = some k ∨ k = bO) → w0.heap.size ≤ k ∧ IsC W k ∧ k ≠ b1 ∧ k ≠ b2 ∧ k ≠ b3 := fun k hk => by
  rcases hk with hk | rfl
  ·have h1 := hgl k hk
   exact ⟨h.new g hg k hk, h1.2, fun e => h1.1 (.inl e), fun e => h1.1 (.inr (.inl e)), fun e => h1.1 (.inr (.inr (.inl e)))⟩
  ·exact ⟨hbO.2.2.2.1, by obtain ⟨_, inner, ho, _⟩ := h.row; exact Ty.own_isC ho k hpo, hbO.1, hbO.2.1, hbO.2.2.1⟩
 have hrow1 : valT.Row 135 W1 (fun k => k ≠ b1 ∧ k ≠ b2 ∧ k ≠ b3 ∧ w0.heap.size ≤ k ∧ ¬ X k) pv vs := by
  obtain ⟨h0, inner, ho', hr⟩ := h.row
  exact ⟨h0, inner, Ty.own_move ho' (fun k hk => F1.same k (Ty.own_lt ho' k hk) fun hm => (hgl k hm).1 (.inr (.inr (.inr (.inl hk))))), hr⟩
 obtain ⟨bO', cap', csO', hpe, _, hbb, hl8, _, _, _, hput⟩ := hrow1.put g hg
 obtain ⟨rfl, rfl⟩ : bO = bO' ∧ cap = cap' := by rw [hpv] at hpe; simpa using hpe
 obtain rfl : csO' = csO := by have := hbb.symm.trans hb; simpa using this
 refine ⟨?_, h.B1.fr F2 fun hm => (hn _ hm).2.2.1 rfl, h.B2.fr F2 fun hm => (hn _ hm).2.2.2.1 rfl, h.B3.fr F2 fun hm => (hn _ hm).2.2.2.2 rfl, h.ne, hput 0 v' W2 v' (by decide) ⟨by
  have : ((csO'.drop (g * valT.sz)).take valT.sz).length = 1 := by
   rw [List.length_take, List.length_drop]
   simp only [valT] at hl8
   simp only [valT]
   omega
  obtain ⟨y, hy⟩ := List.length_eq_one_iff.1 this
  rw [hy]; rfl, h1c⟩ h1c hb2 g2, ⟨by rw [List.length_set, List.length_set]; exact h.pgs.len, fun i hi => ?_⟩, fun j hj k hk => ?_, h.nd, fun D hD => ?_⟩
 ·exact ⟨F2.os.trans h.g.os, F2.tape.trans h.g.tape, F2.output.trans h.g.output, Nat.le_trans h.g.size F2.size, fun k hk _ => (F2.same k (Nat.lt_of_lt_of_le hk h.g.size) fun hm => by have := (hn k hm).1; omega).trans (h.g.block k hk (by simp))⟩
 ·have hi' : i < vs.length := by rwa [List.length_set] at hi
  by_cases hig : g = i
  ·subst hig
   rw [List.getElem_set_self, List.getElem?_set_self (by rw [← h.pgs.len]; exact hg)]
   refine (hr'.step g2 fun k hk => ?_).mono fun k hk => ⟨hk.1, fun j hj hji => by rw [hown j hj]; exact hk.2 j (by rwa [List.length_set] at hj) hji⟩
   intro e; injection e with e
   exact hk.1 (.inl (.inr (.inr (.inr (.inl (by rw [e]; exact hpo))))))
  ·rw [List.getElem_set_ne hig, List.getElem?_set_ne hig]
   refine ((h.pgs.row i hi').fr F2 fun k hk hm => ?_).mono fun k hk => ⟨hk.1, fun j hj hji => by rw [hown j hj]; exact hk.2 j (by rwa [List.length_set] at hj) hji⟩
   rcases hm with hm | hm
   ·exact hk.2 g hg hig hm
   ·exact hk.1 (.inl (.inr (.inr (.inr (.inl (by rw [hm]; exact hpo))))))
 ·rw [hown j hj] at hk
  exact h.new j _ k hk
 ·refine (F2.same D (Array.getElem?_eq_some_iff.1 (h.dm D hD)).1 fun hm => ?_).trans (h.dm D hD)
  obtain ⟨o, h1, h2⟩ := (hn D hm).2.1
  rw [h.dm D hD] at h1; cases h1; cases h2
theorem f133_calls {S : Nat → Prop} (b : Book) (gA : Option Addr) (gc : Nat) (eA : Option Addr) (ec : Nat) (w : World) (hI : BookIn w S b gA gc eA ec) (hok : b.ok = true) :
  Calls Tryz.prog 133 #[.agg (b.cells gA gc eA ec).toArray] w fun e w' => ∃ pA c, e = .returned (.agg (b.cells gA gc eA ec ++ [Value.slice pA (openedL b).length c]).toArray) ∧ pageT.sl.Sl w' (fun k => w.heap.size ≤ k) pA (openedL b) ∧ (openedL b).length ≤ c ∧ c ≤ maxLen ∧ w.grownBy w' none := by
 have hgd := Book.ok_goods hok
 obtain ⟨n, hn⟩ : ∃ n : Nat, b.ed = n := ⟨b.ed.toNat, by omega⟩
 have hn' : b.ed.toNat = n := by omega
 have hgl : b.goods.length ≤ 5 := hgd.2.1
 obtain ⟨all, hall⟩ : ∃ all, all = extL b.goods.length b.goods.length [] := ⟨_, rfl⟩
 have hall120 : all.length ≤ 120 := by rw [hall]; exact orders_len _ hgl
 refine s_enterM (n := 80) Tryz.func133 rfl rfl rfl ?_
 refine s_rseq fun _ k1 => ?_
 refine o_box (t := 25) rfl ?_; intro w1 B1 g1 z1
 refine o_alloc (t := 130) ze130 rfl ?_; intro w2 B2 g2 z2
 replace B1 := B1.step0 g2
 refine o_end (k1 _ _ ?_)
 refine s_rseq fun _ k2 => ?_
 refine o_v (v_loadBS rfl ag25 B1 rfl rfl) ?_
 refine o_v (v_build rfl (fun W => bld130_0 W)) ?_
 refine o_allocst ze130 rfl rfl rfl sz130 rfl rfl rfl ?_; intro w3 B3 g3 z3
 replace B1 := B1.step0 g3; replace B2 := B2.step0 g3
 refine o_end (k2 _ _ ?_)
 obtain ⟨zs, hzs⟩ : ∃ zs : List Value, zs = [Value.slice none 0 0, .int .i64 0, .int .i64 0, .slice none 0 0, .slice none 0 0] := ⟨_, rfl⟩
 have hOC : OC w (b.cells gA gc eA ec) w.heap.size w1.heap.size w2.heap.size zs (.slice none 0 0) [] (fun _ => False) [] [] w3 :=
  ⟨World.grownBy.trans g1 (World.grownBy.trans g2 g3), B1, by rw [hzs]; exact B2, B3, by omega, Ty.Row.nil _ _ _ _, ⟨rfl, (fun i hi => by cases hi)⟩, (fun j hj => by cases hj), List.nodup_nil, (fun D hD => by cases hD)⟩
 obtain ⟨b1, hb1⟩ : ∃ b1, b1 = w.heap.size := ⟨_, rfl⟩
 obtain ⟨b2, hb2⟩ : ∃ b2, b2 = w1.heap.size := ⟨_, rfl⟩
 obtain ⟨b3, hb3⟩ : ∃ b3, b3 = w2.heap.size := ⟨_, rfl⟩
 rw [← hb1, ← hb2, ← hb3] at hOC
 rw [← hb1] at B1
 rw [← hb1, ← hb2, ← hb3]
 refine s_seq fun _ k3 => ?_
 refine s_rseq fun _ k4 => ?_
 refine o_v (v_field rfl fld25_1) ?_
 refine o_v (v_loadB rfl sc3 B1 rfl) ?_
 refine o_v v_move ?_
 refine o_end (k4 _ _ ?_)
 refine s_block ?_
 refine s_loopD (G := Nat × List Nat) (fun g => marks g.2) (fun g => [(15, I g.1)]) [15] [4, 5, 6, 16, 17, 18, 19, 20, 21, 22, 23, 24, 25, 26, 27, 28, 29, 30, 31, 32, 33, 34, 35, 36, 37, 38]
  (fun g W => g.1 ≤ n ∧ (∀ D ∈ g.2, w.heap.size ≤ D ∧ D < W.heap.size) ∧ ∃ pv vs, OC w (b.cells gA gc eA ec) b1 b2 b3 zs pv vs (fun _ => False) ((List.range g.1).map (pagesOf b)) g.2 W) (fun g => n - g.1) (fun _ => rfl) (0, []) rfl ⟨rfl, trivial⟩ ⟨Nat.zero_le _, (fun D hD => by cases hD), _, _, hOC⟩ ?_
 rintro ⟨k, Ds⟩ jv w4 ⟨hk, hDs, pv, vs, hO⟩
 simp only at hk hDs hO ⊢
 refine s_rseq fun _ k5 => ?_
 refine o_v (v_lss rfl rfl) ?_
 refine o_end (k5 _ _ ?_)
 refine s_seq fun _ k6 => ?_
 refine s_ifd rfl (fun c6 => ?_) (fun c6 => ?_)
 ·have hkn : k < n := by omega
  refine s_skip ?_
  refine k6 _ _ ?_
  refine s_seq fun _ k7 => ?_
  refine s_block ?_
  refine s_rseq fun _ k8 => ?_
  refine o_v v_move ?_
  refine o_allocst ze3 rfl rfl rfl sz3 rfl rfl rfl ?_; intro w5 B4 g5 z5
  refine o_end (k8 _ _ ?_)
  refine s_rseq fun _ k9 => ?_
  refine o_alloc (t := 135) ze135 rfl ?_; intro w6 B5 g6 z6
  replace B4 := B4.step0 g6
  refine o_end (k9 _ _ ?_)
  have hO6 := (hO.newX (X' := fun k => k = w4.heap.size ∨ k = w5.heap.size ∨ (Value.slice none 0 0).ownBlock = some k) fun k hk => by
   rcases hk with h | h | h
   ·exact .inr (by omega)
   ·exact .inr (by omega)
   ·simp [Value.ownBlock] at h).step0 (World.grownBy.trans g5 g6)
  have hgw := hO.g.size
  refine s_seq fun _ k10 => ?_
  refine s_rseq fun _ k11 => ?_
  refine o_v (v_field rfl fld25_0) ?_
  refine o_v (v_loadB rfl sc22 hO6.B1 rfl) ?_
  refine o_v (v_len rfl Tryz.underlying22) ?_
  refine o_call rfl rfl ent175 (f175_calls _ _) ?_; rintro _ w7 ⟨rfl, B6, g7⟩; refine ⟨_, rfl, ?_⟩
  have hO7 := hO6.step0 g7
  replace B4 := B4.step0 g7; replace B5 := B5.step0 g7
  refine o_end (k11 _ _ ?_)
  refine s_block ?_
  have hR0 : Rnd w (b.cells gA gc eA ec) b1 b2 b3 w4.heap.size w5.heap.size zs pv vs ((List.range k).map (pagesOf b)) Ds k [] (fun j => ocL b1 b2 b3 pv (fun _ => False) j ∨ j = w4.heap.size ∨ j = w5.heap.size ∨ (∃ i, ∃ h : i < vs.length, vs[i].ownBlock = some j) ∨ (Value.slice none 0 0).ownBlock = some j ∨ IsC w j) w7 :=
   ⟨.slice none 0 0, fun _ => Iff.rfl, hO7, B4, B5, Ty.Row.nil _ _ _ _⟩
  have hold : ∀ j, (ocL b1 b2 b3 pv (fun _ => False) j ∨ j = w4.heap.size ∨ j = w5.heap.size ∨ (∃ i, ∃ h : i < vs.length, vs[i].ownBlock = some j) ∨ (Value.slice none 0 0).ownBlock = some j ∨ IsC w j) → j < w6.heap.size := by
   intro j hj
   rcases hj with h1 | h1 | h1 | ⟨i, hi, h1⟩ | h1 | h1
   ·rcases h1 with rfl | rfl | rfl | h1 | h1
    ·exact hO6.B1.lt
    ·exact hO6.B2.lt
    ·exact hO6.B3.lt
    ·obtain ⟨_, inner, ho, _⟩ := hO6.row; exact Ty.own_lt ho j h1
    ·exact h1.elim
   ·omega
   ·omega
   ·obtain ⟨_, inner, ho, _⟩ := hO6.pgs.row i hi; exact Ty.own_lt ho j h1
   ·simp [Value.ownBlock] at h1
   ·have := h1.lt; omega
  have hgives := gives_orders b.goods.length (by omega) w6.heap.size w7 B6
  rw [← hall] at hgives
  refine s_rangeFuncA (cap := [ptr w6.heap.size]) rfl rfl ent196 hgives
   (fun i M W => Rnd w (b.cells gA gc eA ec) b1 b2 b3 w4.heap.size w5.heap.size zs pv vs ((List.range k).map (pagesOf b)) Ds k (((all.take i).filter (suitsB b k)).map fun m => ⟨m, 1, 1⟩) M W) _
   (fun j hj => ⟨hR0.cells j hj, fun e => by have := hold j hj; omega⟩) ?_ ?_ hR0 ?_ ?_
  ·intro i M W W' h F
   exact h.fz (by have := g7.size; omega) (fun D hD => by have := (hDs D hD).2; have := g7.size; omega) F
  ·rintro i v M W W' ⟨A, c, m, h1, h2, h3, h4, h5⟩ F
   exact ⟨A, c, m, h1, h2, h3, h4, h5.fz F⟩
  ·rintro l i v M W hi hR ⟨A, c, m, hmi, rfl, hm1, hm2, hms⟩ hfr hMc
   have hmem : m ∈ all := List.mem_of_getElem? hmi
   have hml : m.length = b.goods.length := by rw [hall] at hmem; simpa using extL_len _ _ _ _ hmem
   have hmi' : all[i] = m := by rw [List.getElem?_eq_getElem hi] at hmi; injection hmi
   obtain ⟨lv, hM, hOr, C4, C5, hRow⟩ := hR
   refine s_block ?_
   refine s_rseq fun _ k12 => ?_
   refine o_v (v_loadBS rfl ag25 hOr.B1 rfl rfl) ?_
   refine o_v (v_loadB rfl sc3 C4 rfl) ?_
   refine o_v v_move ?_
   refine o_call rfl rfl ent128 (f128_calls (T := fun k => ¬ M k) b gA gc eA ec k A c m W (hI.step0 hOr.g) hms ⟨hm1, hm2⟩ (fun x hx => by have := (hgd.2.2.2.2.2.2.2.2 x hx).2.1; omega)) ?_; rintro _ w8 ⟨rfl, g8⟩; refine ⟨_, rfl, ?_⟩
   have hMc8 : ∀ j, M j → IsC W j := fun j hj => (hMc j hj).1
   have T8 : Turn M M W w8 := Turn.grown hMc8 g8
   have hOr8 := hOr.step0 g8
   replace C4 := C4.step0 g8; replace C5 := C5.step0 g8; replace hRow := hRow.step0 g8; replace hms := hms.step0 g8
   have htm := takeMap (fun m => (⟨m, 1, 1⟩ : Page)) (suitsB b k) all i hi
   rw [hmi'] at htm
   refine o_end (k12 _ _ ?_)
   refine s_if rfl (fun c12 => ?_) (fun c12 => ?_)
   ·rw [c12, if_pos rfl] at htm
    refine s_region ?_
    refine o_v (v_loadB rfl sc135 C5 rfl) ?_
    refine o_v v_move ?_
    refine o_v (v_build rfl (fun W => bld137_012 W)) ?_
    refine o_bslice rfl (fun W => bls135_1 W) ?_; intro w9 B30 g9 z9
    have hOr9 := hOr8.step0 g9
    replace C4 := C4.step0 g9; replace C5 := C5.step0 g9; replace hRow := hRow.step0 g9; replace hms := hms.step0 g9
    have hlen9 : (((all.take i).filter (suitsB b k)).map fun m => (⟨m, 1, 1⟩ : Page)).length ≤ 120 := by
     rw [List.length_map]
     exact Nat.le_trans (List.length_filter_le _ _) (by rw [List.length_take]; omega)
    have hMb : ∀ j, ¬ M j → j ≠ b1 ∧ j ≠ b2 ∧ j ≠ b3 ∧ j ≠ w4.heap.size ∧ j ≠ w5.heap.size ∧ pv.ownBlock ≠ some j ∧ (∀ i (hi : i < vs.length), vs[i].ownBlock ≠ some j) ∧ lv.ownBlock ≠ some j ∧ ¬ IsC w j := fun j hj => by
     rw [hM] at hj
     refine ⟨fun h => hj (.inl (.inl h)), fun h => hj (.inl (.inr (.inl h))), fun h => hj (.inl (.inr (.inr (.inl h)))), fun h => hj (.inr (.inl h)), fun h => hj (.inr (.inr (.inl h))), fun h => hj (.inl (.inr (.inr (.inr (.inl h))))), fun i hi h => hj (.inr (.inr (.inr (.inl ⟨i, hi, h⟩)))), fun h => hj (.inr (.inr (.inr (.inr (.inl h))))), fun h => hj (.inr (.inr (.inr (.inr (.inr h)))))⟩
    have hge : ∀ j, ¬ M j → IsC w9 j → w.heap.size ≤ j := fun j hj hc => by
     rcases Nat.lt_or_ge j w.heap.size with h | h
     ·obtain ⟨o, h2, h3⟩ := hc
      exact absurd ⟨o, (hOr9.g.block j h (by simp)).symm.trans h2, h3⟩ (hMb j hj).2.2.2.2.2.2.2.2
     ·exact h
    refine o_append1 (t := pageT) (p := ⟨m, 1, 1⟩) rfl rfl hRow B30 Tryz.underlying135 info137 rfl
     (pageT_iff.2 ⟨A, c, rfl, hm1, hm2, hms.bound.mono fun j hj => ⟨⟨(hMb j hj.1).1, (hMb j hj.1).2.1, (hMb j hj.1).2.2.1, (hMb j hj.1).2.2.2.1, (hMb j hj.1).2.2.2.2.1, (hMb j hj.1).2.2.2.2.2.1, hge j hj.1 hj.2, (hMb j hj.1).2.2.2.2.2.2.1⟩, fun e => (hMb j hj.1).2.2.2.2.2.2.2.1 e.symm⟩⟩)
     (fun j hj => by
      have hs := hOr9.g.size
      have hlt : ∀ i, IsC w9 i → i < w9.heap.size := fun i h => h.lt
      refine ⟨?_, ?_, ?_, ?_, ?_, ?_, by omega, ?_⟩
      ·rintro rfl; have := hOr9.B1.lt; omega
      ·rintro rfl; have := hOr9.B2.lt; omega
      ·rintro rfl; have := hOr9.B3.lt; omega
      ·rintro rfl; have := C4.lt; omega
      ·rintro rfl; have := C5.lt; omega
      ·intro e; obtain ⟨_, inner, ho, _⟩ := hOr9.row; have := Ty.own_lt ho j e; omega
      ·exact hOr9.fresh j hj) (by omega) (by decide) ?_
    intro lv' w10 hRow' g10 hat
    obtain ⟨_, _, _, hlv⟩ := hRow'.one
    have hC5 : IsC w9 w5.heap.size := C5.isC
    have C5' := C5.step g10 (fun e => (hRow.1 _ e.symm).2.2.2.2.1 rfl)
    refine o_storeB (vs := [lv']) rfl (by rw [hlv]; rfl) sz135 rfl C5' rfl (by rw [hlv]; rfl) ?_
    intro w11 B11 g11 z11
    obtain ⟨M', hR', hT'⟩ := Rnd.add hM hOr9 C4 hRow hRow' g10 hat hC5 B11 g11 (by have := hOr9.g.size; omega) (by
     have e1 := hO7.B1.lt; have e2 := hO7.B2.lt; have e3 := hO7.B3.lt
     have f1 := hO.B1.lt; have f2 := hO.B2.lt; have f3 := hO.B3.lt
     omega)
    refine o_end ⟨rfl, M', ?_, (T8.trans (Turn.grown (fun j hj => (T8.new j hj).1) g9)).trans hT'⟩
    rw [htm]
    exact hR'
   ·rw [c12, if_neg (by simp), List.append_nil] at htm
    refine s_skip ?_
    refine ⟨rfl, M, ?_, T8⟩
    rw [htm]
    exact ⟨lv, hM, hOr8, C4, C5, hRow⟩
  ·intro D M W hD hR hfr hDd
   rw [List.take_length] at hR
   obtain ⟨lv, hM, hOr, C4, C5, hRow⟩ := hR
   have hOm := hOr.mark (D := D) (fun D' h' => by have := (hDs D' h').2; have := g7.size; omega) hDd
   have hpage : ((all.filter (suitsB b k)).map fun m => (⟨m, 1, 1⟩ : Page)) = pagesOf b k := by rw [hall]; rfl
   rw [hpage] at hRow
   obtain ⟨lA, ln, lc, hlv⟩ := hRow.one
   obtain ⟨qA, qn, qc, hpv⟩ := hOm.row.one
   refine k10 _ _ ?_
   refine s_region ?_
   refine o_v (v_field rfl fld130_1) ?_
   refine o_v (v_loadB (v := pv) rfl sc128 hOm.B3 rfl) ?_
   refine o_v (v_loadB (v := .slice lA ln lc) rfl sc135 (by rw [hlv] at C5; exact C5) rfl) ?_
   refine o_bslice rfl (fun W => bls128_1 W) ?_; intro w8 B35 g8 z8
   have hO8 := hOm.step0 g8
   replace hRow := hRow.step0 g8
   have hvl : vs.length = k := by have := hO8.pgs.len; simpa using this
   refine o_append1 (t := valT) (p := .slice lA ln lc) rfl rfl hO8.row B35 Tryz.underlying128 info135 rfl ⟨rfl, rfl⟩ (fun j hj => by
    have hs := hO8.g.size
    refine ⟨?_, ?_, ?_, by omega, ?_⟩
    ·rintro rfl; have := hO8.B1.lt; omega
    ·rintro rfl; have := hO8.B2.lt; omega
    ·rintro rfl; have := hO8.B3.lt; omega
    ·rintro (h | h | h)
     ·have := (C4.step0 g8).lt; omega
     ·have := (C5.step0 g8).lt; omega
     ·obtain ⟨_, inner, ho, _⟩ := hRow; have := Ty.own_lt ho j h; omega) (by omega) (by decide) ?_
   intro pv' w9 hRow' g9 hat
   obtain ⟨_, _, _, hpv'⟩ := hRow'.one
   have B39 := hO8.B3.step g9 (fun e => (hO8.row.1 _ e.symm).2.2.1 rfl)
   refine o_v (v_field rfl fld130_1) ?_
   refine o_storeB (vs := [pv']) rfl (by rw [hpv']; rfl) sz128 rfl B39 rfl (by rw [hpv']; rfl) ?_
   intro w10 B10 g10 z10
   have hpush := hO8.push hRow' g9 hat B10 g10 (fun j hj => .inr (.inr (by rw [hlv]; exact hj))) (ps := pagesOf b k) (by
    rw [hlv] at hRow
    exact hRow.mono fun j hj => ⟨hj.1, hj.2.1, hj.2.2.1, hj.2.2.2.2.2.1, hj.2.2.2.2.2.2.1, hj.2.2.2.2.2.2.2⟩)
   have hrange : (List.range k).map (pagesOf b) ++ [pagesOf b k] = (List.range (k + 1)).map (pagesOf b) := by rw [List.range_succ]; simp
   rw [hrange] at hpush
   refine o_end ?_
   refine k7 _ _ ?_
   refine s_region ?_
   refine o_v (v_add rfl rfl (by omega)) ?_
   refine o_v v_move ?_
   refine o_end ?_
   refine midD (k + 1, D :: Ds) rfl ?_ ?_ ?_
   ·repeat (first | exact off_refl | refine off_cons rfl ?_)
   ·exact ⟨rfl, trivial⟩
   ·refine ⟨⟨hkn, fun D' h' => ?_, pv', _, hpush⟩, by omega⟩
    have hsz : W.heap.size ≤ w10.heap.size := by have := g8.size; have := g9.size; have := g10.size; omega
    rcases List.mem_cons.1 h' with rfl | h'
    ·have := (Array.getElem?_eq_some_iff.1 hDd).1; have := g7.size; omega
    ·have := hDs D' h'; have := g7.size; have := hfr.size; omega
 ·have hkn : k = n := by omega
  subst hkn
  have hvl : vs.length = k := by have := hO.pgs.len; simpa using this
  obtain ⟨bO, cap, csO, rfl, hbO, hcsO, hown, hcl, hvc, hcm, hge⟩ := hO.head (by omega)
  have hP0 : (List.range k).map (pagesOf b) = pages0 b := by unfold pages0; rw [hn']
  rw [hP0] at hO
  have hf1 : ∀ g, g ≤ 3 → Fine b.goods.length bd1 (bd2 k) (fwdL b.mv g (pages0 b)) := fun g hg => fwdL_fine (b := b) (fine0 b hgl k) g hg
  have hf2 : ∀ j, j + 1 ≤ k → Fine b.goods.length bd1 (bd2 k) (bwdL b.mv k j (fwdL b.mv k (pages0 b))) := fun j hj => bwdL_fine (by omega) (hf1 k (by omega)) j hj
  have hbd1 : ∀ i, bd1 i ≤ 1000000 := fun i => by unfold bd1; (repeat split) <;> omega
  have hbd2 : ∀ i, bd2 k i ≤ 1000000 := fun i => by unfold bd2; (repeat split) <;> omega
  refine s_exit ?_
  refine k3 _ _ ?_
  refine s_seq fun _ k12 => ?_
  refine s_rseq fun _ k13 => ?_
  refine o_v (v_field rfl fld25_1) ?_
  refine o_v (v_loadB rfl sc3 hO.B1 rfl) ?_
  refine o_v v_move ?_
  refine o_end (k13 _ _ ?_)
  refine s_block ?_
  refine s_loop (G := Nat) (fun g => [(41, I g)]) [41] [7, 42, 43, 44, 45, 46, 47, 48, 49, 50, 51] (fun g W => g ≤ k ∧ OC w (b.cells gA gc eA ec) b1 b2 b3 zs (.slice (some ⟨bO, 0, none⟩) vs.length cap) vs (fun _ => False) (fwdL b.mv g (pages0 b)) Ds W) (fun g => k - g) (fun _ => rfl) 0 ⟨rfl, trivial⟩ ⟨Nat.zero_le _, hO⟩ ?_
  rintro g jv w8 ⟨hg, hO8⟩
  refine s_rseq fun _ k14 => ?_
  refine o_v (v_lss rfl rfl) ?_
  refine o_end (k14 _ _ ?_)
  refine s_seq fun _ k15 => ?_
  refine s_ifd rfl (fun c15 => ?_) (fun c15 => ?_)
  ·have hgk : g < k := by omega
   refine s_skip ?_
   refine k15 _ _ ?_
   refine s_seq fun _ k16 => ?_
   refine s_block ?_
   refine s_rseq fun _ k17 => ?_
   refine o_v v_move ?_
   refine o_v v_assign ?_
   refine o_end (k17 _ _ ?_)
   refine s_rseq fun _ k18 => ?_
   refine o_v v_move ?_
   refine o_v (v_gtr rfl rfl) ?_
   refine o_end (k18 _ _ ?_)
   refine s_ifd rfl (fun c18 => ?_) (fun c18 => ?_)
   ·have hg0 : 0 < g := by omega
    obtain ⟨bO', cap', csO', hpe, hbO8, hcsO8, _⟩ := hO8.head (by omega)
    obtain ⟨rfl, rfl⟩ : bO = bO' ∧ cap = cap' := by simpa using hpe
    have hcall := f176_calls 1 177 178 (.inl rfl) ent177 ent178 (fun k o x cs w => f177_calls k o x cs w) (fun p A c w => f178_calls _ _ _ w rfl) (fun k => ocL b1 b2 b3 (.slice (some ⟨bO, 0, none⟩) vs.length cap) (fun _ => False) k ∨ k < w.heap.size) vs (fwdL b.mv g (pages0 b)) b.goods.length bO cap csO' (.slice gA b.goods.length gc) (I b.ed) (.slice eA b.ents.length ec) b.mv g (g - 1) w8 hO8.pgs hbO8 hcsO8 (.inl (.inr (.inr (.inr (.inl rfl))))) hO8.fresh (by omega) (by omega) (by omega) (by omega) ((hf1 g (by omega)).len) (fun i => Nat.le_trans ((hf1 g (by omega)).few i) (by omega)) (fun q hq => ⟨((hf1 g (by omega)).before _ q hq).1, Int.le_trans ((hf1 g (by omega)).before _ q hq).2 (hbd1 _)⟩)
    rw [show (((g - 1 : Nat) : Int)) = (g : Int) - 1 by omega] at hcall
    refine s_region ?_
    refine o_v (v_loadBS rfl ag130 hO8.B3 rfl rfl) ?_
    refine o_v v_move ?_
    refine o_v v_move ?_
    refine o_v (v_sub rfl rfl (by omega)) ?_
    refine o_call rfl rfl ent176 hcall ?_; rintro _ w9 ⟨⟨vr, rfl⟩, hP9, hF9⟩; refine ⟨_, rfl, ?_⟩
    have hO9 := hO8.count (by omega) hF9 hP9
    refine o_end ?_
    refine k16 _ _ ?_
    refine s_region ?_
    refine o_v (v_add rfl rfl (by omega)) ?_
    refine o_v v_move ?_
    refine o_end ?_
    refine mid (g + 1) ?_ ?_ ?_
    ·repeat (first | exact off_refl | refine off_cons rfl ?_)
    ·exact ⟨rfl, trivial⟩
    ·refine ⟨⟨hgk, ?_⟩, by omega⟩
     unfold fwdL
     rw [if_neg (by omega)]
     exact hO9
   ·obtain rfl : g = 0 := by omega
    refine s_skip ?_
    refine k16 _ _ ?_
    refine s_region ?_
    refine o_v (v_add rfl rfl (by omega)) ?_
    refine o_v v_move ?_
    refine o_end ?_
    refine mid 1 ?_ ?_ ?_
    ·repeat (first | exact off_refl | refine off_cons rfl ?_)
    ·exact ⟨rfl, trivial⟩
    ·exact ⟨⟨hgk, hO8⟩, by omega⟩
  ·obtain rfl : g = k := by omega
   refine s_exit ?_
   refine k12 _ _ ?_
   refine s_seq fun _ k19 => ?_
   refine s_rseq fun _ k20 => ?_
   refine o_v (v_field rfl fld25_1) ?_
   refine o_v (v_loadB rfl sc3 hO8.B1 rfl) ?_
   refine o_v (v_sub rfl rfl (by omega)) ?_
   refine o_v v_assign ?_
   refine o_end (k20 _ _ ?_)
   refine s_block ?_
   refine s_loop (G := Nat) (fun j => [(8, I (b.ed - 2 - j))]) [8] [55, 56, 57, 58, 59, 60, 61, 62, 63] (fun j W => j + 1 ≤ g ∧ OC w (b.cells gA gc eA ec) b1 b2 b3 zs (.slice (some ⟨bO, 0, none⟩) vs.length cap) vs (fun _ => False) (bwdL b.mv g j (fwdL b.mv g (pages0 b))) Ds W) (fun j => g - j) (fun _ => rfl) 0 ⟨by exact congrArg I (by omega : b.ed - 2 = b.ed - 2 - ((0 : Nat) : Int)), trivial⟩ ⟨by omega, hO8⟩ ?_
   rintro j jv w10 ⟨hj, hO10⟩
   refine s_seq fun _ k21 => ?_
   refine s_rseq fun _ k22 => ?_
   refine o_v v_move ?_
   refine o_v (v_geq rfl rfl) ?_
   refine o_end (k22 _ _ ?_)
   refine s_ifd rfl (fun c22 => ?_) (fun c22 => ?_)
   ·obtain ⟨bO', cap', csO', hpe, hbO8, hcsO8, _⟩ := hO10.head (by omega)
    obtain ⟨rfl, rfl⟩ : bO = bO' ∧ cap = cap' := by simpa using hpe
    have hcall := f176_calls 2 179 180 (.inr rfl) ent179 ent180 (fun k o x cs w => f179_calls k o x cs w) (fun p A c w => f180_calls _ _ _ w rfl) (fun k => ocL b1 b2 b3 (.slice (some ⟨bO, 0, none⟩) vs.length cap) (fun _ => False) k ∨ k < w.heap.size) vs (bwdL b.mv g j (fwdL b.mv g (pages0 b))) b.goods.length bO cap csO' (.slice gA b.goods.length gc) (I b.ed) (.slice eA b.ents.length ec) b.mv (g - 2 - j) (g - 1 - j) w10 hO10.pgs hbO8 hcsO8 (.inl (.inr (.inr (.inr (.inl rfl))))) hO10.fresh (by omega) (by omega) (by omega) (by omega) ((hf2 j hj).len) (fun i => Nat.le_trans ((hf2 j hj).few i) (by omega)) (fun q hq => ⟨((hf2 j hj).after _ q hq).1, Int.le_trans ((hf2 j hj).after _ q hq).2 (hbd2 _)⟩)
    rw [show (((g - 2 - j : Nat) : Int)) = b.ed - 2 - j by omega, show (((g - 1 - j : Nat) : Int)) = b.ed - 2 - j + 1 by omega] at hcall
    refine s_skip ?_
    refine k21 _ _ ?_
    refine s_seq fun _ k23 => ?_
    refine s_block ?_
    refine s_region ?_
    refine o_v (v_loadBS rfl ag130 hO10.B3 rfl rfl) ?_
    refine o_v v_move ?_
    refine o_v v_move ?_
    refine o_v (v_add rfl rfl (by omega)) ?_
    refine o_call rfl rfl ent176 hcall ?_; rintro _ w11 ⟨⟨vr, rfl⟩, hP11, hF11⟩; refine ⟨_, rfl, ?_⟩
    have hO11 := hO10.count (by omega) hF11 hP11
    refine o_end ?_
    refine k23 _ _ ?_
    refine s_region ?_
    refine o_v v_move ?_
    refine o_v (v_sub rfl rfl (by omega)) ?_
    refine o_v v_assign ?_
    refine o_end ?_
    refine mid (j + 1) ?_ ?_ ?_
    ·repeat (first | exact off_refl | refine off_cons rfl ?_)
    ·exact ⟨congrArg I (by omega : b.ed - 2 - (j : Int) - 1 = b.ed - 2 - ((j + 1 : Nat) : Int)), trivial⟩
    ·exact ⟨⟨by omega, hO11⟩, by omega⟩
   ·have hje : j = g - 1 := by omega
    have hP2 : bwdL b.mv g j (fwdL b.mv g (pages0 b)) = pages2 b := by unfold pages2; rw [hn', hje]
    rw [hP2] at hO10
    refine s_exit ?_
    refine k19 _ _ ?_
    have hf := hf2 (g - 1) (by omega)
    have hpg : ∀ P', P' = bwdL b.mv g (g - 1) (fwdL b.mv g (pages0 b)) → P' = pages2 b := fun P' h => by rw [h]; unfold pages2; rw [hn']
    rw [hpg _ rfl] at hf
    have hlenP : (pages2 b).length = g := by have := hO10.pgs.len; omega
    refine s_seq fun _ k24 => ?_
    refine s_rseq fun _ k25 => ?_
    refine o_v (v_field rfl fld130_1) ?_
    refine o_v (v_loadB (v := .slice (some ⟨bO, 0, none⟩) vs.length cap) rfl sc128 hO10.B3 rfl) ?_
    refine o_v (v_len rfl Tryz.underlying128) ?_
    refine o_v v_move ?_
    refine o_end (k25 _ _ ?_)
    refine s_block ?_
    obtain ⟨flt, hflt⟩ : ∃ flt : List Page → List Page, flt = fun l => l.filter fun p => !p.gone := ⟨_, rfl⟩
    refine s_loop (G := Nat) (fun i => [(67, I i)]) [67] [9, 10, 68, 69, 70, 71, 72, 73, 74, 75, 76, 77, 78] (fun i W => i ≤ g ∧ ∃ us, us.length = vs.length ∧ OC w (b.cells gA gc eA ec) b1 b2 b3 zs (.slice (some ⟨bO, 0, none⟩) us.length cap) us (fun _ => False) (((pages2 b).take i).map flt ++ (pages2 b).drop i) Ds W) (fun i => g - i) (fun _ => rfl) 0 ⟨rfl, trivial⟩ ⟨Nat.zero_le _, vs, rfl, by simpa using hO10⟩ ?_
    rintro i jv w12 ⟨hi, us, hus, hO12⟩
    refine s_rseq fun _ k26 => ?_
    refine o_v (v_lss rfl rfl) ?_
    refine o_end (k26 _ _ ?_)
    refine s_seq fun _ k27 => ?_
    refine s_ifd rfl (fun c27 => ?_) (fun c27 => ?_)
    ·have hig : i < g := by omega
     have hiu : i < us.length := by omega
     obtain ⟨bO', cap', csO', hpe, hb12, hcs12, hown12, _, _, _, _, hx1, hx2, hx3⟩ := hO12.head (by omega)
     obtain ⟨rfl, rfl⟩ : bO = bO' ∧ cap = cap' := by simpa using hpe
     have hrow := hO12.pgs.row i hiu
     have hcur : (((pages2 b).take i).map flt ++ (pages2 b).drop i)[i]?.getD [] = (pages2 b)[i]'(by omega) := by
      rw [List.getElem?_append_right (by simp; omega), List.length_map, List.length_take, Nat.min_eq_left (by omega), Nat.sub_self, List.getElem?_drop, Nat.add_zero, List.getElem?_eq_getElem (by omega)]
      rfl
     have hPi : (pages2 b)[i]?.getD [] = (pages2 b)[i]'(by omega) := by rw [List.getElem?_eq_getElem (by omega)]; rfl
     rw [hcur] at hrow
     obtain ⟨uA, un, uc, huv⟩ := hrow.one
     have hcell : ∀ W, Blk W bO csO' 135 → W.cell? ⟨bO, 0 + i * 1, none⟩ = some us[i] := fun W hb => by
      rw [hb.cell, Nat.zero_add, Nat.mul_one, ← List.getElem?_take_of_lt hiu, hcs12, List.getElem?_eq_getElem hiu]
     have hnob : us[i].ownBlock ≠ some bO := fun e => (hrow.1 bO e).1 (.inl (.inr (.inr (.inr (.inl hown12)))))
     have hnb3 : us[i].ownBlock ≠ some b3 := fun e => (hrow.1 b3 e).1 (.inl (.inr (.inr (.inl rfl))))
     refine s_skip ?_
     refine k27 _ _ ?_
     refine s_seq fun _ k28 => ?_
     refine s_block ?_
     refine s_rseq fun _ k29 => ?_
     refine o_v v_move ?_
     refine o_v (v_index rfl rfl slt128 (by omega)) ?_
     refine o_v (v_loadC rfl sc135 (hcell _ hb12)) ?_
     refine o_v v_assign ?_
     refine o_v v_assign ?_
     refine o_end (k29 _ _ ?_)
     have hfew := hf.few i
     have hbound : ∀ p ∈ (pages2 b)[i]'(by omega), -1000000000000 ≤ p.before * p.after ∧ p.before * p.after ≤ 1000000000000 := fun p hp => by
      have h1 := hf.before i p (by rw [hPi]; exact hp)
      have h2 := hf.after i p (by rw [hPi]; exact hp)
      have h3 := Int.le_trans h1.2 (hbd1 i)
      have h4 := Int.le_trans h2.2 (hbd2 i)
      have h5 : 0 ≤ p.before * p.after := Int.mul_nonneg h1.1 h2.1
      have h6 : p.before * p.after ≤ 1000000 * 1000000 := Int.mul_le_mul h3 h4 h2.1 (by omega)
      omega
     refine s_anyR 5 [72, 73, 74, 75, 76] [[], [(0, some 72)], [], [], [(3, some 75)]] [(1, some 73), (2, some 74), (4, some 76)] (Fr (fun k => us[i].ownBlock = some k) w12) (fun k => if k = 4 then Fr (fun k => us[i].ownBlock = some k) else G0) []
      [([], fun _ v _ => v = .pointer (some ⟨b3, 0 + 4, none⟩)), ([], fun _ v _ => v = .slice (some ⟨bO, 0, none⟩) us.length cap), ([], fun _ v _ => v = I i), ([], fun _ v _ => v = us[i]),
       ([], fun _ v W => pageT.Row 137 W (fun k => ¬ (ocL b1 b2 b3 (.slice (some ⟨bO, 0, none⟩) us.length cap) (fun _ => False) k ∨ k < w.heap.size) ∧ ∀ j (hj : j < us.length), j ≠ i → us[j].ownBlock ≠ some k) v (flt ((pages2 b)[i]'(by omega))) ∧ v.ownBlock = us[i].ownBlock)]
      (fun k W => k = 4 → pageT.Row 137 W (fun k => ¬ (ocL b1 b2 b3 (.slice (some ⟨bO, 0, none⟩) us.length cap) (fun _ => False) k ∨ k < w.heap.size) ∧ ∀ j (hj : j < us.length), j ≠ i → us[j].ownBlock ≠ some k) us[i] ((pages2 b)[i]'(by omega)))
      mixed (by kernel_rfl) (by kernel_rfl) (by kernel_rfl) (by kernel_rfl) (by kernel_rfl) (Fr.grown g0_drawn) ?_ ?_ ?_ ?_ ?_ ?_
     ·intro k W W' hC hS
      by_cases hk : k = 4
      ·simp only [hk, if_true] at hS
       exact hC.trans hS fun _ _ h => h
      ·simp only [if_neg hk] at hS
       exact hC.trans (Fr.grown (M := fun _ => False) hS) fun _ _ h => h.elim
     ·intro k _
      exact hrow.step0 g0_drawn
     ·intro k k' W W' hkk hR hS hk4
      subst hk4
      simp only [if_neg (Ne.symm hkk)] at hS
      exact (hR rfl).step0 hS
     ·intro k k' v W W' vs' hkk _ p hp h hS
      rcases k with _ | _ | _ | _ | _ | k
      ·cases hp; exact h
      ·cases hp; exact h
      ·cases hp; exact h
      ·cases hp; exact h
      ·cases hp
       simp only [if_neg (Ne.symm hkk)] at hS
       exact ⟨h.1.step0 hS, h.2⟩
      ·simp at hp
     ·refine ⟨?_, ?_, ?_, ?_, ?_, trivial⟩
      ·intro jv W hC _
       exact o_v (v_field rfl fld130_1) (o_end (opD_done (grown_refl _ _) rfl))
      ·rintro jv W hC _ _ rfl
       exact o_v (v_loadB (v := .slice (some ⟨bO, 0, none⟩) us.length cap) rfl sc128 (hO12.B3.fr hC hnb3) rfl) (o_end (opD_done (grown_refl _ _) rfl))
      ·intro jv W hC _
       exact o_v v_move (o_end (opD_done (grown_refl _ _) rfl))
      ·intro jv W hC _
       exact o_v v_move (o_end (opD_done (grown_refl _ _) rfl))
      ·rintro jv W hC hR _ rfl
       refine o_call rfl rfl ent181 (f181_calls us[i] _ W (hR rfl) hbound (by rw [← hPi]; omega) (fun k hk => ?_)) ?_
       ·have hsz := hC.size
        refine ⟨fun hL => ?_, fun j hj _ e => ?_⟩
        ·rcases hL with (rfl | rfl | rfl | h | h) | h
         ·have := hO12.B1.lt; omega
         ·have := hO12.B2.lt; omega
         ·have := hO12.B3.lt; omega
         ·rw [hown12] at h; injection h with h; have := hb12.lt; omega
         ·exact h
         ·have := hO12.g.size; omega
        ·exact hO12.fresh k (by omega) j hj e
       ·rintro _ w4 ⟨v', rfl, hr4, hg4, ho4⟩
        exact ⟨_, rfl, o_end (opD_done (Fr.of_grown hg4 fun k hk => hk) ⟨by rw [hflt]; exact hr4, ho4⟩)⟩
     ·rintro jv W hC _ rfl _ rfl v4 ⟨hr4, ho4⟩
      obtain ⟨_, _, _, hv4⟩ := hr4.one
      have hbW := hb12.fr hC hnob
      refine o_v (v_index rfl rfl slt128 (by omega)) ?_
      refine o_storeB (vs := [v4]) rfl (by rw [hv4]; rfl) sz135 rfl hbW (by rw [Nat.ble_eq]; have := congrArg List.length hcs12; rw [List.length_take] at this; simp; omega) (by rw [hv4]; rfl) ?_
      intro w14 hb14 g14 z14
      have hdel := hO12.del hiu hr4 hC.toGrown ho4 (by rw [hv4]; rfl) rfl hbW (by simpa using hb14) g14
      refine o_end ?_
      refine k28 _ _ ?_
      refine s_region ?_
      refine o_v (v_add rfl rfl (by omega)) ?_
      refine o_v v_move ?_
      refine o_end ?_
      refine mid (i + 1) ?_ ?_ ?_
      ·repeat (first | exact off_refl | refine off_cons rfl ?_)
      ·exact ⟨rfl, trivial⟩
      ·refine ⟨⟨hig, us.set i v4, by rw [List.length_set]; exact hus, ?_⟩, by omega⟩
       have hset : (((pages2 b).take i).map flt ++ (pages2 b).drop i).set i (flt ((pages2 b)[i]'(by omega))) = ((pages2 b).take (i + 1)).map flt ++ (pages2 b).drop (i + 1) := by
        rw [List.set_append_right _ _ (by simp; omega), List.length_map, List.length_take, Nat.min_eq_left (by omega), Nat.sub_self, List.drop_eq_getElem_cons (by omega), List.set_cons_zero, List.take_succ_eq_append_getElem (by omega), List.map_append]
        simp
       rw [hset] at hdel
       rw [List.length_set]
       exact hdel
    ·have hie : i = g := by omega
     have hPe : ((pages2 b).take i).map flt ++ (pages2 b).drop i = openedL b := by
      rw [hie, ← hlenP, List.take_length, List.drop_length, List.append_nil, hflt]; rfl
     rw [hPe] at hO12
     obtain ⟨bO', cap', csO', hpe, hb12, hcs12, hown12, hcl12, hvc12, hcm12, _, hx1, hx2, hx3⟩ := hO12.head (by omega)
     obtain ⟨rfl, rfl⟩ : bO = bO' ∧ cap = cap' := by simpa using hpe
     have hol : us.length = (openedL b).length := hO12.pgs.len
     refine s_exit ?_
     refine k24 _ _ ?_
     refine s_rseq fun _ k30 => ?_
     refine o_v (v_loadBS rfl ag130 hO12.B3 rfl rfl) ?_
     refine o_storeB (vs := b.cells gA gc eA ec ++ [.slice (some ⟨bO, 0, none⟩) us.length cap]) rfl rfl sz130 rfl hO12.B2 (by rw [hzs]; rfl) rfl ?_
     intro w16 B16 g16 z16
     have hover : over zs 0 (b.cells gA gc eA ec ++ [.slice (some ⟨bO, 0, none⟩) us.length cap]) = b.cells gA gc eA ec ++ [.slice (some ⟨bO, 0, none⟩) us.length cap] := by rw [hzs]; rfl
     rw [hover] at B16
     have G16 : w.grownBy w16 none := ⟨g16.os.trans hO12.g.os, g16.tape.trans hO12.g.tape, g16.output.trans hO12.g.output, Nat.le_trans hO12.g.size g16.size, fun k hk _ => (g16.block k (Nat.lt_of_lt_of_le hk hO12.g.size) (by have := hO12.ne.2.1; simp; omega)).trans (hO12.g.block k hk (by simp))⟩
     have hsl : pageT.sl.Sl w16 (fun k => w.heap.size ≤ k) (some ⟨bO, 0, none⟩) (openedL b) := by
      have hbO16 := hb12.step g16 (by simp; exact hx2)
      refine .inr ⟨bO, 0, us, rfl, (hO12.row.1 bO hown12).2.2.2.1, ?_, ?_⟩
      ·have := hbO16.range 0 us.length
       rwa [List.drop_zero, hcs12] at this
      ·have hall : ∀ j (hj : j < us.length), pageT.sl.rep w16 (fun k => w.heap.size ≤ k) ((openedL b)[j]'(by omega)) [us[j]] := fun j hj => by
        have hr := (hO12.pgs.row j hj).step g16 (fun k hk => by intro e; injection e with e; exact hk.1 (.inl (.inr (.inl e))))
        rw [List.getElem?_eq_getElem (by omega), Option.getD_some] at hr
        exact (hr.rep).elim fun A h => h.elim fun c h => ⟨A, c, h.1, h.2.1, h.2.2.1, h.2.2.2.mono fun k hk => Nat.le_of_not_lt fun hlt => hk.1 (.inr hlt)⟩
       have key : ∀ (ps : List (List Page)) (xs : List Value) (hl : xs.length = ps.length), (∀ j (hj : j < xs.length), pageT.sl.rep w16 (fun k => w.heap.size ≤ k) (ps[j]'(by omega)) [xs[j]]) → Reps (pageT.sl.rep w16 (fun k => w.heap.size ≤ k)) ps xs := by
        intro ps
        induction ps with
        | nil => intro xs hl _; exact List.eq_nil_of_length_eq_zero hl
        | cons p ps ih =>
         intro xs hl h
         cases xs with
         | nil => cases hl
         | cons x xs => exact ⟨[x], xs, rfl, h 0 (by simp), ih xs (by simpa using hl) fun j hj => h (j + 1) (by simpa using hj)⟩
       exact key _ _ hol hall
     have hD16 : ∀ D ∈ Ds, w16.heap[D]? = some (.deferred (some [])) := fun D hD => (g16.block D (Array.getElem?_eq_some_iff.1 (hO12.dm D hD)).1 (by
      intro e; injection e with e
      have h1 := hO12.dm D hD
      rw [e, show w12.heap[b2]? = _ from hO12.B2] at h1
      cases h1)).trans (hO12.dm D hD)
     refine o_end (k30 _ _ ?_)
     refine s_ret (postM hO12.nd hD16 fun w' hz hf' => ⟨_, res_c rfl rfl (run_loadVar_ag ag130 (B16.fz hz) rfl), ?_⟩)
     refine ⟨some ⟨bO, 0, none⟩, cap, by rw [hol], (by rw [hb1]; exact hsl.fz hz), by omega, hcm12, ?_⟩
     exact ⟨hz.os.trans G16.os, hz.tape.trans G16.tape, hz.output.trans G16.output, Nat.le_trans G16.size hz.size, fun k hk _ => (hf'.same k (Nat.lt_of_lt_of_le hk G16.size) (fun hm => by have := (hDs k hm).1; omega)).trans (G16.block k hk (by simp))⟩
end Go.Proofs.NV
