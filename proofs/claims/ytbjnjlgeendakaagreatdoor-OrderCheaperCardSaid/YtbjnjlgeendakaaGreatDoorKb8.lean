/- Part of the proof: A range over an iterator of the program's own: what the iterator owes, the loop, the marks on the way out.. What build and buildSlice leave, shape by shape; printed by gen_B.py.. Walks: page.first, last, truths; sum; the setters and getters of opened; count.. -/
import Derived.Test.YtbjnjlgeendakaaGreatDoorKb7
import Derived.Test.YtbjnjlgeendakaaGreatDoorKb3
import Derived.Test.YtbjnjlgeendakaaGreatDoorKb6
set_option linter.unusedVariables false
set_option linter.unusedSimpArgs false
set_option maxRecDepth 100000
namespace Go.Proofs.NV
open Go.RowKit Go.Shelf
structure Fr (M : Nat → Prop) (w w' : World) : Prop where
 os : w'.os = w.os
 tape : w'.tape = w.tape
 output : w'.output = w.output
 size : w.heap.size ≤ w'.heap.size
 same : ∀ k, k < w.heap.size → ¬ M k → w'.heap[k]? = w.heap[k]?
structure Fz (B : Nat) (w w' : World) : Prop where
 os : w'.os = w.os
 tape : w'.tape = w.tape
 output : w'.output = w.output
 size : w.heap.size ≤ w'.heap.size
 same : ∀ k, k < w.heap.size → (IsC w k ∨ k < B) → w'.heap[k]? = w.heap[k]?
theorem Fr.refl (M : Nat → Prop) (w : World) : Fr M w w := ⟨rfl, rfl, rfl, Nat.le_refl _, fun _ _ _ => rfl⟩
theorem Fr.trans {M M' : Nat → Prop} {a b c : World} (h : Fr M a b) (k : Fr M' b c) (hm : ∀ i, i < a.heap.size → M' i → M i) : Fr M a c :=
 ⟨k.os.trans h.os, k.tape.trans h.tape, k.output.trans h.output, Nat.le_trans h.size k.size, fun i hi hn => (k.same i (Nat.lt_of_lt_of_le hi h.size) fun hm' => hn (hm i hi hm')).trans (h.same i hi hn)⟩
theorem Fr.mono {M M' : Nat → Prop} {a b : World} (h : Fr M a b) (hm : ∀ i, i < a.heap.size → M i → M' i) : Fr M' a b := ⟨h.os, h.tape, h.output, h.size, fun i hi hn => h.same i hi fun hm' => hn (hm i hi hm')⟩
theorem Fr.of_grown {M : Nat → Prop} {row : Option Nat} {a b : World} (h : a.grownBy b row) (hm : ∀ k, row = some k → M k) : Fr M a b := ⟨h.os, h.tape, h.output, h.size, fun i hi hn => h.block i hi fun e => hn (hm i e.symm)⟩
theorem Fr.grown {M : Nat → Prop} {a b : World} (h : a.grownBy b none) : Fr M a b := Fr.of_grown h fun _ h => by cases h
theorem Fr.g0 {a b : World} (h : Fr (fun _ => False) a b) : a.grownBy b none := ⟨h.os, h.tape, h.output, h.size, fun i hi _ => h.same i hi id⟩
theorem Fz.of_g0 {B : Nat} {a b : World} (h : a.grownBy b none) : Fz B a b := ⟨h.os, h.tape, h.output, h.size, fun i hi _ => h.block i hi (by simp)⟩
theorem Fz.of_put {B : Nat} {w : World} {l : Nat} {o o' : Obj} (hl : w.heap[l]? = some o) (ho : o.isCells = false) (hB : B ≤ l) : Fz B w (w.putObj l o') :=
 ⟨rfl, rfl, rfl, by simp, fun k _ hk => World.putObj_heap_other fun e => by
  subst e
  rcases hk with ⟨o2, h2, h3⟩ | h
  ·rw [hl] at h2; cases h2; rw [ho] at h3; cases h3
  ·omega⟩
theorem Fz.isC {B : Nat} {w w' : World} {k : Nat} (h : Fz B w w') (hk : IsC w k) : IsC w' k := by
 obtain ⟨o, h1, h2⟩ := hk
 exact ⟨o, (h.same k (Array.getElem?_eq_some_iff.1 h1).1 (.inl ⟨o, h1, h2⟩)).trans h1, h2⟩
theorem Fr.isC {M : Nat → Prop} {w w' : World} {k : Nat} (h : Fr M w w') (hk : IsC w k) (hm : ¬ M k) : IsC w' k := by
 obtain ⟨o, h1, h2⟩ := hk
 exact ⟨o, (h.same k (Array.getElem?_eq_some_iff.1 h1).1 hm).trans h1, h2⟩
theorem Blk.fr {M : Nat → Prop} {w w' : World} {b : Nat} {cs : List Value} {t : TypeId} (h : Blk w b cs t) (g : Fr M w w') (hb : ¬ M b) : Blk w' b cs t := (g.same b h.lt hb).trans h
theorem Blk.fz {B : Nat} {w w' : World} {b : Nat} {cs : List Value} {t : TypeId} (h : Blk w b cs t) (g : Fz B w w') : Blk w' b cs t := (g.same b h.lt (.inl h.isC)).trans h
namespace Ty
variable {α : Type} {t : Ty α} {w w' : World} {S M : Nat → Prop} {B : Nat} {A : Option Addr} {xs : List α} {x : α} {cs : List Value} {e : TypeId} {v : Value}
theorem fr (h : t.rep w S x cs) (g : Fr M w w') (hS : ∀ k, S k → ¬ M k) : t.rep w' S x cs := t.hmove (fun k hk hc => g.same k hc.lt (hS k hk)) h
theorem fz (h : t.rep w S x cs) (g : Fz B w w') : t.rep w' S x cs := t.hmove (fun k hk hc => g.same k hc.lt (.inl hc)) h
theorem Sl.fr (h : t.Sl w S A xs) (g : Fr M w w') (hS : ∀ k, S k → ¬ M k) : t.Sl w' S A xs := Sl.move (fun k hk hc => g.same k hc.lt (hS k hk)) h
theorem Sl.fz (h : t.Sl w S A xs) (g : Fz B w w') : t.Sl w' S A xs := Sl.move (fun k hk hc => g.same k hc.lt (.inl hc)) h
theorem Row.fr (h : t.Row e w S v xs) (g : Fr M w w') (hS : ∀ k, S k → ¬ M k) : t.Row e w' S v xs := Row.move (fun k hk hc => g.same k hc.lt (hS k hk)) h
theorem Row.fz (h : t.Row e w S v xs) (g : Fz B w w') : t.Row e w' S v xs := Row.move (fun k hk hc => g.same k hc.lt (.inl hc)) h
end Ty
structure Turn (M M' : Nat → Prop) (w w' : World) : Prop where
 fr : Fr M w w'
 new : ∀ k, M' k → IsC w' k ∧ (M k ∨ w.heap.size ≤ k)
theorem Turn.refl {M : Nat → Prop} {w : World} (h : ∀ k, M k → IsC w k) : Turn M M w w := ⟨Fr.refl _ _, fun k hk => ⟨h k hk, .inl hk⟩⟩
theorem Turn.trans {M M' M'' : Nat → Prop} {a b c : World} (h : Turn M M' a b) (k : Turn M' M'' b c) : Turn M M'' a c :=
 ⟨h.fr.trans k.fr fun i hi hm => by
   rcases (h.new i hm).2 with h1 | h1
   ·exact h1
   ·omega,
  fun i hi => ⟨(k.new i hi).1, by
   rcases (k.new i hi).2 with h1 | h1
   ·exact (h.new i h1).2
   ·exact .inr (Nat.le_trans h.fr.size h1)⟩⟩
theorem Turn.grown {M : Nat → Prop} {a b : World} (hM : ∀ k, M k → IsC a k) (h : a.grownBy b none) : Turn M M a b :=
 ⟨Fr.grown h, fun k hk => ⟨by obtain ⟨o, h1, h2⟩ := hM k hk; exact ⟨o, (h.block k (hM k hk).lt (by simp)).trans h1, h2⟩, .inl hk⟩⟩
def Gives (P : Program) (g : FuncId) (cap : List Value) (N : Nat) (El : Nat → Value → (Nat → Prop) → World → Prop) (Own : Nat → Prop) (w : World) : Prop :=
 ∀ (l : Nat) (J : Nat → (Nat → Prop) → World → Prop) (M : Nat → Prop) (W : World),
  w.grownBy W none → (∀ k, M k → IsC W k ∧ ¬ Own k) → (∀ i M W W', J i M W → W.grownBy W' none → J i M W') →
  (∀ i v M W1, i < N → J i M W1 → (∀ k, M k → IsC W1 k) → El i v M W1 → YieldAt (Fw none) 0 P l #[v] W1 fun e W' => e = .returned (.bool true) ∧ ∃ M', J (i + 1) M' W' ∧ Turn M M' W1 W') →
  J 0 M W → Calls P g (.func (.yield l) #[] #[] :: cap).toArray W fun e W' => (∃ v, e = .returned v) ∧ ∃ M', J N M' W' ∧ Turn M M' W W'
section range
variable {P : Program} {Q : Exit → Act → World → Prop} {n : Nat} {e : Env} {ds : List Deferred} {w : World} {d : Nat} {ty : TypeId} {ps : String} {af : Array Edge}
theorem o_yield {r : Option Nat} {ops : Array Oper} {rest : List Oper} {l : Nat} {fo x : Operand} {v : Value} {ats : Array TypeId} {R : World → Prop} (hf : ev n e fo = .func (.yield l) #[] #[]) (hx : ev n e x = v)
  (hY : YieldAt (Fw none) 0 P l #[v] w fun en W' => en = .returned (.bool true) ∧ R W') (h : ∀ W', R W' → wl r P ops Q rest (act n ((d, .bool true) :: e) ds) W') :
  wl r P ops Q (⟨some d, .call { callee := .value fo, args := #[x], argTypes := ats }, ty, ps, af, none⟩ :: rest) (act n e ds) w := by
 rw [wl_cons, if_pos (by rfl)]
 obtain ⟨fn, tmps, assign, body, hy, hR⟩ := hY
 have hrun : (execOp (ev n e) ⟨some d, .call { callee := .value fo, args := #[x], argTypes := ats }, ty, ps, af, none⟩).run P w = .ok (.round l fn tmps assign body) w := by
  simp only [execOp, resolve, hf, hx, Deferred.ofValue, Sem.run_bind, Sem.run_pure, Result.andThen_ok, invoke]
  simpa [hx] using hy
 rw [Oper.semAt_eq _ _ _ (fun _ => by simp), act_eval, hrun]
 refine ⟨fun h => by simp [Fw, Fence.wide] at h, ?_⟩
 refine RoundIn.mono (F := Fw r) hR ?_
 rintro en W' ⟨rfl, hr⟩
 have h2 := h W' hr
 rw [← act_put] at h2
 exact h2
theorem act_param {p : Nat} {v : Value} : ({ tmps := (#[p].zip #[v]).foldl (fun (t : Array Value) (p, v) => t.setIfInBounds p v) (act n e ds).tmps, defers := [] } : Act) = act n ((p, v) :: e) [] := by
 rw [← act_put]
 simp [Act.put, act]
theorem s_rangeFunc {g : Operand} {p : Nat} {assign body : Code} {gf : FuncId} {cap : List Value} {N : Nat} {El : Nat → Value → (Nat → Prop) → World → Prop} {Own : Nat → Prop}
  (hg : ev n e g = .func (.func gf) #[] cap.toArray) (he : Ent P gf) (hit : Gives P gf cap N El Own w)
  (I : Nat → (Nat → Prop) → World → Prop) (M0 : Nat → Prop) (Ax : Nat → Env → (Nat → Prop) → World → Prop) (hM0 : ∀ k, M0 k → IsC w k ∧ ¬ Own k)
  (hI : ∀ i M W W', I i M W → Fz w.heap.size W W' → I i M W') (hAx : ∀ i e1 M W W', Ax i e1 M W → Fz w.heap.size W W' → Ax i e1 M W') (h0 : I 0 M0 w)
  (hassign : ∀ l i v M W, i < N → I i M W → Fr M0 w W → (∀ k, M k → IsC W k ∧ (M0 k ∨ w.heap.size ≤ k)) → El i v M W → assign.wpIn (Fw (some l)) 0 P (Exit.then (fun a1 W1 => ∃ e1 M1, a1 = act n e1 [] ∧ Turn M M1 W W1 ∧ Ax i e1 M1 W1) (fun _ _ _ => False)) (act n ((p, v) :: e) []) W)
  (hbody : ∀ l i e1 M W, i < N → Ax i e1 M W → Fr M0 w W → (∀ k, M k → IsC W k ∧ (M0 k ∨ w.heap.size ≤ k)) → body.wpIn (Fw (some l)) 0 P (fun ex a' W' => ex = .normal ∧ ∃ M', I (i + 1) M' W' ∧ Turn M M' W W') (act n e1 []) W)
  (hdone : ∀ D M W, w.heap.size ≤ D → I N M W → Fr M0 w W → W.heap[D]? = some (.deferred (some [])) → Q .normal (act n e ({ target := .collected D, args := #[] } :: ds)) W) :
  (Code.rangeFunc g #[p] assign body).wpIn (Fw none) 0 P Q (act n e ds) w := by
 refine wpIn_rangeFunc ?_
 intro fn hfn
 obtain ⟨rec, hrec⟩ : ∃ rec : LoopState → Option Code → Loop, rec = fun st pe => { state := st, pending := pe, fn, tmps := (act n e ds).tmps, params := #[p], assign, body, defers := w.heap.size } := ⟨_, rfl⟩
 obtain ⟨W1, hW1⟩ : ∃ W1, (w.alloc (.deferred (some []))).alloc (.loop (rec .ready none)) = W1 := ⟨_, rfl⟩
 have hL1 : W1.heap[w.heap.size + 1]? = some (.loop (rec .ready none)) := by
  rw [← hW1]; have := World.alloc_heap_new (w.alloc (.deferred (some []))) (.loop (rec .ready none)); rwa [World.size_alloc] at this
 have hK1 : W1.heap[w.heap.size]? = some (.deferred (some [])) := by
  rw [← hW1]; exact (Below.heap_alloc _ _ _ (by simp)).trans (World.alloc_heap_new w _)
 have hg1 : w.grownBy W1 none := by rw [← hW1]; exact World.grownBy.trans (World.grownBy_alloc w _ none) (World.grownBy_alloc _ _ none)
 have hz1 : ∀ k, M0 k → IsC W1 k ∧ ¬ Own k := fun k hk => ⟨by obtain ⟨⟨o, h1, h2⟩, _⟩ := hM0 k hk; exact ⟨o, (hg1.block k (Array.getElem?_eq_some_iff.1 h1).1 (by simp)).trans h1, h2⟩, (hM0 k hk).2⟩
 refine ⟨w.heap.size + 1, [{ target := .collected w.heap.size, args := #[] }], W1, { target := .fn (.func gf) cap.toArray, args := #[.func (.yield (w.heap.size + 1)) #[] #[]] }, W1, gf,
  #[.func (.yield (w.heap.size + 1)) #[] #[]] ++ cap.toArray, W1, ?_, ?_, fun _ _ => trivial, ?_, fun h => by simp [Fw, Fence.wide] at h, ?_⟩
 ·rw [← hW1, hrec]; exact run_enterLoop_outer _ _ _ _ _
 ·rw [act_eval]
  simp only [resolve, hg]
  simp [go_sem]
  rfl
 ·simp [invoke, go_sem, he _ _]
 ·rw [Fw_none, callsIn_wide]
  have hargs : #[Value.func (.yield (w.heap.size + 1)) #[] #[]] ++ cap.toArray = (Value.func (.yield (w.heap.size + 1)) #[] #[] :: cap).toArray := by simp
  rw [hargs]
  have hcall := hit (w.heap.size + 1)
   (fun i M W => I i M W ∧ Fr M0 w W ∧ (∀ k, M k → M0 k ∨ w.heap.size ≤ k) ∧ W.heap[w.heap.size + 1]? = some (.loop (rec .ready none)) ∧ W.heap[w.heap.size]? = some (.deferred (some [])))
   M0 W1 hg1 hz1 ?_ ?_ ⟨hI _ _ _ _ h0 (Fz.of_g0 hg1), Fr.grown hg1, fun k hk => .inl hk, hL1, hK1⟩
  ·refine hcall.mono ?_
   rintro en W2 ⟨⟨v, rfl⟩, M', ⟨hi, hfr, _, hl, hk⟩, _⟩
   refine ⟨none, _, by have := run_endLoop (P := P) hl (by rw [hrec]; simp); rw [hrec] at this; exact this, ?_⟩
   exact hdone _ M' _ (Nat.le_refl _) (hI _ _ _ _ hi (Fz.of_put hl rfl (by omega))) ⟨hfr.os, hfr.tape, hfr.output, by simp; exact hfr.size, fun k hk' hn => (World.putObj_heap_other (by omega)).trans (hfr.same k hk' hn)⟩ ((World.putObj_heap_other (by omega)).trans hk)
  ·rintro i M W W' ⟨hi, hfr, hM, hl, hk⟩ hg'
   exact ⟨hI _ _ _ _ hi (Fz.of_g0 hg'), hfr.trans (Fr.grown (M := M0) hg') fun _ _ h => h, hM, (hg'.block _ (Array.getElem?_eq_some_iff.1 hl).1 (by simp)).trans hl, (hg'.block _ (Array.getElem?_eq_some_iff.1 hk).1 (by simp)).trans hk⟩
  ·rintro i v M W hi ⟨hii, hfr, hM, hl, hk⟩ hMc hel
   have hlt : w.heap.size + 1 < W.heap.size := (Array.getElem?_eq_some_iff.1 hl).1
   have hy := run_yield (P := P) (args := #[v]) hl (by rw [hrec]; rfl)
   rw [hrec] at hy
   refine ⟨fn, _, assign, body, hy, roundIn_of_wpIn (F := Fw none) hfn ?_⟩
   clear hy
   have hact := act_param (n := n) (e := e) (ds := ds) (p := p) (v := v)
   simp only at hact ⊢
   rw [hact]
   refine wpIn_mono (hassign (w.heap.size + 1) i v M W hi hii hfr (fun k hk => ⟨hMc k hk, hM k hk⟩) hel) ?_
   intro ex a1 Wa hq
   cases ex with
   | normal =>
    obtain ⟨e1, M1, rfl, hT, hax⟩ := hq
    have hMl : ¬ M (w.heap.size + 1) := fun h => by obtain ⟨o, h1, h2⟩ := hMc _ h; rw [hl] at h1; cases h1; cases h2
    have hMk : ¬ M w.heap.size := fun h => by obtain ⟨o, h1, h2⟩ := hMc _ h; rw [hk] at h1; cases h1; cases h2
    have hla := (hT.fr.same _ (Array.getElem?_eq_some_iff.1 hl).1 hMl).trans hl
    have hka := (hT.fr.same _ (Array.getElem?_eq_some_iff.1 hk).1 hMk).trans hk
    have hlta : w.heap.size + 1 < Wa.heap.size := (Array.getElem?_eq_some_iff.1 hla).1
    refine ⟨_, run_beginRound hla (by rw [hrec]), ?_⟩
    obtain ⟨W2, hW2⟩ : ∃ W2, Wa.putObj (w.heap.size + 1) (.loop { rec .ready none with state := .busy }) = W2 := ⟨_, rfl⟩
    rw [hW2]
    have hl2 : W2.heap[w.heap.size + 1]? = some (.loop { rec .ready none with state := .busy }) := by rw [← hW2]; exact World.putObj_heap_same hlta
    have hk2 : W2.heap[w.heap.size]? = some (.deferred (some [])) := by rw [← hW2]; exact (World.putObj_heap_other (by omega)).trans hka
    have hz2 : Fz w.heap.size Wa W2 := by rw [← hW2]; exact Fz.of_put hla rfl (by omega)
    have hM1 : ∀ k, M1 k → IsC W2 k ∧ (M0 k ∨ w.heap.size ≤ k) := fun k hk => ⟨hz2.isC (hT.new k hk).1, by
     rcases (hT.new k hk).2 with h | h
     ·exact hM k h
     ·exact .inr (by omega)⟩
    have hM1l : ¬ M1 (w.heap.size + 1) := fun h => by obtain ⟨o, h1, h2⟩ := (hM1 _ h).1; rw [hl2] at h1; cases h1; cases h2
    have hM1k : ¬ M1 w.heap.size := fun h => by obtain ⟨o, h1, h2⟩ := (hM1 _ h).1; rw [hk2] at h1; cases h1; cases h2
    have hfra : Fr M0 w Wa := hfr.trans hT.fr fun k hk hm => by
     rcases hM k hm with h | h
     ·exact h
     ·omega
    have hfr2 : Fr M0 w W2 := by
     refine ⟨?_, ?_, ?_, ?_, fun k hk hn => ?_⟩
     ·rw [← hW2]; exact hfra.os
     ·rw [← hW2]; exact hfra.tape
     ·rw [← hW2]; exact hfra.output
     ·rw [← hW2]; simp; exact hfra.size
     ·rw [← hW2]; exact (World.putObj_heap_other (by omega)).trans (hfra.same k hk hn)
    refine wpIn_mono (hbody (w.heap.size + 1) i e1 M1 W2 hi (hAx _ _ _ _ _ hax hz2) hfr2 hM1) ?_
    rintro ex a3 W3 ⟨rfl, M', hi3, hT3⟩
    have hl3 := (hT3.fr.same _ (Array.getElem?_eq_some_iff.1 hl2).1 hM1l).trans hl2
    have hk3 := (hT3.fr.same _ (Array.getElem?_eq_some_iff.1 hk2).1 hM1k).trans hk2
    have her := run_endRound (P := P) none hl3
    refine ⟨_, _, her, ?_⟩
    obtain ⟨W4, hW4⟩ : ∃ W4, W3.putObj (w.heap.size + 1) (.loop (rec .ready none)) = W4 := ⟨_, rfl⟩
    have hput : W3.putObj (w.heap.size + 1) (.loop { ({ rec .ready none with state := .busy } : Loop) with state := if (none : Option Code).isNone then .ready else .done, pending := none }) = W4 := by
     rw [← hW4]; rw [hrec]; rfl
    rw [hput]
    have hl4 : W4.heap[w.heap.size + 1]? = some (.loop (rec .ready none)) := by rw [← hW4]; exact World.putObj_heap_same (Array.getElem?_eq_some_iff.1 hl3).1
    have hk4 : W4.heap[w.heap.size]? = some (.deferred (some [])) := by rw [← hW4]; exact (World.putObj_heap_other (by omega)).trans hk3
    have hz4 : Fz w.heap.size W3 W4 := by rw [← hW4]; exact Fz.of_put hl3 rfl (by omega)
    have hT24 : Fr M W W4 := by
     have hs2 : W2.heap.size = Wa.heap.size := by rw [← hW2]; simp
     refine ⟨?_, ?_, ?_, ?_, fun k hk' hn => ?_⟩
     ·exact hz4.os.trans (hT3.fr.os.trans (hz2.os.trans hT.fr.os))
     ·exact hz4.tape.trans (hT3.fr.tape.trans (hz2.tape.trans hT.fr.tape))
     ·exact hz4.output.trans (hT3.fr.output.trans (hz2.output.trans hT.fr.output))
     ·exact Nat.le_trans hT.fr.size (Nat.le_trans hz2.size (Nat.le_trans hT3.fr.size hz4.size))
     ·by_cases hkl : k = w.heap.size + 1
      ·subst hkl; rw [hl4, hl]
      ·have hka' : k < Wa.heap.size := Nat.lt_of_lt_of_le hk' hT.fr.size
       have h1 : W4.heap[k]? = W3.heap[k]? := by rw [← hW4]; exact World.putObj_heap_other hkl
       have h2 : W2.heap[k]? = Wa.heap[k]? := by rw [← hW2]; exact World.putObj_heap_other hkl
       have hM1k' : ¬ M1 k := fun h => by
        rcases (hT.new k h).2 with h' | h'
        ·exact hn h'
        ·omega
       rw [h1, hT3.fr.same k (by omega) hM1k', h2, hT.fr.same k hk' hn]
    refine ⟨by simp, M', ⟨hI _ _ _ _ hi3 hz4, ?_, ?_, hl4, hk4⟩, hT24, fun k hk => ⟨hz4.isC (hT3.new k hk).1, ?_⟩⟩
    ·exact hfr.trans hT24 fun k hk hm => by
      rcases hM k hm with h | h
      ·exact h
      ·omega
    ·intro k hk
     rcases (hT3.new k hk).2 with h | h
     ·exact (hM1 k h).2
     ·exact .inr (Nat.le_trans hfr2.size h)
    ·rcases (hT3.new k hk).2 with h | h
     ·exact (hT.new k h).2
     ·have hs2 : W2.heap.size = Wa.heap.size := by rw [← hW2]; simp
      exact .inr (by have := hT.fr.size; omega)
   | _ => exact hq.elim
theorem s_rangeFuncA {g : Operand} {p t id : Nat} {ty : TypeId} {ps : String} {af : Array Edge} {body : Code} {gf : FuncId} {cap : List Value} {N : Nat} {El : Nat → Value → (Nat → Prop) → World → Prop} {Own : Nat → Prop}
  (hp : Nat.blt p n = true) (hg : ev n e g = .func (.func gf) #[] cap.toArray) (he : Ent P gf) (hit : Gives P gf cap N El Own w)
  (I : Nat → (Nat → Prop) → World → Prop) (M0 : Nat → Prop) (hM0 : ∀ k, M0 k → IsC w k ∧ ¬ Own k)
  (hI : ∀ i M W W', I i M W → Fz w.heap.size W W' → I i M W') (hEl : ∀ i v M W W', El i v M W → Fz w.heap.size W W' → El i v M W') (h0 : I 0 M0 w)
  (hbody : ∀ l i v M W, i < N → I i M W → El i v M W → Fr M0 w W → (∀ k, M k → IsC W k ∧ (M0 k ∨ w.heap.size ≤ k)) → body.wpIn (Fw (some l)) 0 P (fun ex a' W' => ex = .normal ∧ ∃ M', I (i + 1) M' W' ∧ Turn M M' W W') (act n ((t, v) :: (p, v) :: e) []) W)
  (hdone : ∀ D M W, w.heap.size ≤ D → I N M W → Fr M0 w W → W.heap[D]? = some (.deferred (some [])) → Q .normal (act n e ({ target := .collected D, args := #[] } :: ds)) W) :
  (Code.rangeFunc g #[p] (Code.region id [⟨some t, .assign (.tmp p), ty, ps, af, none⟩].toArray false) body).wpIn (Fw none) 0 P Q (act n e ds) w := by
 refine s_rangeFunc hg he hit I M0 (fun i e1 M W => ∃ v, e1 = (t, v) :: (p, v) :: e ∧ I i M W ∧ El i v M W) hM0 hI ?_ h0 ?_ ?_ hdone
 ·rintro i e1 M W W' ⟨v, rfl, h1, h2⟩ hz
  exact ⟨v, rfl, hI _ _ _ _ h1 hz, hEl _ _ _ _ _ h2 hz⟩
 ·intro l i v M W hi hii hfr hM hel
  refine s_region (o_v v_assign (o_end ⟨_, M, rfl, Turn.refl fun k hk => (hM k hk).1, v, ?_, hii, hel⟩))
  have : ev n ((p, v) :: e) (.tmp p) = v := by simp [ev, hp, rd]
  rw [this]
 ·rintro l i e1 M W hi ⟨v, rfl, h1, h2⟩ hfr hM
  exact hbody l i v M W hi h1 h2 hfr hM
end range
section codeD
variable {r : Option Nat} {P : Program} {Q : Exit → Act → World → Prop} {n : Nat} {e : Env} {ds : List Deferred} {w : World}
def MidD {G : Type} (n : Nat) (dsf : G → List Deferred) (L : List Nat) (vals : G → List (Nat × Value)) (I : G → World → Prop) (e : Env) : Act → World → Prop :=
 fun a' w' => ∃ e' g, a' = act n e' (dsf g) ∧ Off L e' e ∧ Has e' (vals g) ∧ I g w'
theorem midD {G : Type} {dsf : G → List Deferred} {L : List Nat} {vals : G → List (Nat × Value)} {I : G → World → Prop} {e e' : Env} (g : G) (hds : ds = dsf g) (ho : Off L e' e) (hh : Has e' (vals g)) (hI : I g w) : Exit.then (MidD n dsf L vals I e) Q .normal (act n e' ds) w := ⟨e', g, by rw [hds], ho, hh, hI⟩
theorem s_loopD {G : Type} (dsf : G → List Deferred) (vals : G → List (Nat × Value)) (Ks J : List Nat) (I : G → World → Prop) (μ : G → Nat) (hK : ∀ g, (vals g).map (·.1) = Ks) (g0 : G) (hds : dsf g0 = ds) (h0 : Has e (vals g0)) (hI : I g0 w) {c : Code}
  (hr : ∀ g jv w', I g w' → c.wpIn (Fw r) 0 P (Exit.then (MidD n dsf (Ks ++ J) vals (fun g' w'' => I g' w'' ∧ μ g' < μ g) (ovr (vals g) J jv e)) Q) (act n (ovr (vals g) J jv e) (dsf g)) w') :
  (Code.loop c).wpIn (Fw r) 0 P Q (act n e ds) w := by
 have key : ∀ (g : G) (e1 : Env) (w' : World), Off (Ks ++ J) e1 e → Has e1 (vals g) → I g w' → (Code.loop c).wpIn (Fw r) 0 P Q (act n e1 (dsf g)) w' := by
  intro g e1 w' ho hh hi
  refine wpIn_loop (fun a' w'' => ∃ e' g', a' = act n e' (dsf g') ∧ Off (Ks ++ J) e' e ∧ Has e' (vals g') ∧ I g' w'') (fun a' w'' => @dite Nat (∃ m, ∃ e' g', a' = act n e' (dsf g') ∧ Off (Ks ++ J) e' e ∧ Has e' (vals g') ∧ I g' w'' ∧ μ g' = m) (Classical.propDecidable _) (fun h => Classical.choose (least h)) (fun _ => 0)) ⟨e1, g, rfl, ho, hh, hi⟩ ?_
  intro a' w'' hst
  have hex : ∃ m, ∃ e' g', a' = act n e' (dsf g') ∧ Off (Ks ++ J) e' e ∧ Has e' (vals g') ∧ I g' w'' ∧ μ g' = m := by
   obtain ⟨e', g', h1, h2, h3, h4⟩ := hst
   exact ⟨_, e', g', h1, h2, h3, h4, rfl⟩
  rw [dif_pos hex]
  obtain ⟨e', g', rfl, h2, h3, h4, h5⟩ := (Classical.choose_spec (least hex)).1
  rw [← h5, act_ovr (J := J) (by rw [hK g']; exact h2) h3]
  refine wpIn_mono (hr g' (rd e') w'' h4) fun ex a3 w3 hq => ?_
  cases ex with
  | normal =>
   obtain ⟨e4, g4, rfl, k2, k3, k4, k5⟩ := hq
   have k2' : Off (Ks ++ J) e4 e := off_trans k2 (by have := off_ovr (g := vals g') (J := J) (jv := rd e') (e := e); rwa [hK g'] at this)
   have hex' : ∃ m, ∃ e' g', act n e4 (dsf g4) = act n e' (dsf g') ∧ Off (Ks ++ J) e' e ∧ Has e' (vals g') ∧ I g' w3 ∧ μ g' = m := ⟨_, e4, g4, rfl, k2', k3, k4, rfl⟩
   refine ⟨⟨e4, g4, rfl, k2', k3, k4⟩, ?_⟩
   rw [dif_pos hex']
   exact Nat.lt_of_le_of_lt ((Classical.choose_spec (least hex')).2 _ ⟨e4, g4, rfl, k2', k3, k4, rfl⟩) k5
  | _ => exact hq
 rw [← hds]
 exact key g0 e w off_refl h0 hI
end codeD
section posts
variable {P : Program} {fn : Func} {R : Ending → World → Prop} {n : Nat} {e : Env} {ds : List Deferred} {w : World}
theorem tmps_getD' (t : Nat) : (act n e ds).tmps.getD t undef = ev n e (.tmp t) := congrFun (act_eval n e ds) (.tmp t)
theorem run_loadVar_ag {t bt : TypeId} {b k : Nat} {cs : List Value} (hs : Ag P t k) (hb : Blk w b cs bt) (hk : cs.length = k) : (loadVar t ⟨b, 0, none⟩).run P w = .ok (.agg cs.toArray) w := by
 obtain ⟨⟨dd, hu, hd⟩, hsz⟩ := hs
 have hr : w.rangeAt b 0 cs := by
  have := hb.range 0 cs.length
  rwa [List.drop_zero, List.take_length] at this
 have := run_loadAt_mid w b 0 t cs dd hr hu hd (by rw [hsz, hk])
 simpa [Instr.loadAt, Instr.sureAddr] using this
theorem run_loadVar_sc {t bt : TypeId} {b : Nat} {v : Value} {cs : List Value} (hs : Sc P t) (hb : Blk w b cs bt) (hv : cs[0]? = some v) : (loadVar t ⟨b, 0, none⟩).run P w = .ok v w := by
 have := run_loadAt_sc (w := w) (a := ⟨b, 0, none⟩) hs ((hb.cell 0).trans hv)
 simpa [Instr.loadAt, Instr.sureAddr] using this
theorem res_t {t : Nat} (hr : fn.results = #[.tmp t]) : (results fn (act n e ds).tmps).run P w = .ok (ev n e (.tmp t)) w := by rw [results_tmp hr, tmps_getD']
theorem res_tt {t u : Nat} (hr : fn.results = #[.tmp t, .tmp u]) : (results fn (act n e ds).tmps).run P w = .ok (.tuple #[ev n e (.tmp t), ev n e (.tmp u)]) w := by rw [results_tmp2 hr, tmps_getD', tmps_getD']
theorem res_c {t : Nat} {ty : TypeId} {b : Nat} {v : Value} (hr : fn.results = #[.cell t ty]) (hp : ev n e (.tmp t) = .pointer (some ⟨b, 0, none⟩)) (hl : (loadVar ty ⟨b, 0, none⟩).run P w = .ok v w) : (results fn (act n e ds).tmps).run P w = .ok v w := by
 rw [← tmps_getD' (ds := ds)] at hp
 simp [results, hr, ← Array.getD_eq_getD_getElem?, hp, asAddr, hl]
theorem res_ct {t u : Nat} {ty : TypeId} {b : Nat} {v : Value} (hr : fn.results = #[.cell t ty, .tmp u]) (hp : ev n e (.tmp t) = .pointer (some ⟨b, 0, none⟩)) (hl : (loadVar ty ⟨b, 0, none⟩).run P w = .ok v w) : (results fn (act n e ds).tmps).run P w = .ok (.tuple #[v, ev n e (.tmp u)]) w := by
 rw [← tmps_getD' (ds := ds)] at hp
 rw [← tmps_getD' (ds := ds) u]
 simp [results, hr, ← Array.getD_eq_getD_getElem?, hp, asAddr, hl]
theorem res_ctt {t u x : Nat} {ty : TypeId} {b : Nat} {v : Value} (hr : fn.results = #[.cell t ty, .tmp u, .tmp x]) (hp : ev n e (.tmp t) = .pointer (some ⟨b, 0, none⟩)) (hl : (loadVar ty ⟨b, 0, none⟩).run P w = .ok v w) : (results fn (act n e ds).tmps).run P w = .ok (.tuple #[v, ev n e (.tmp u), ev n e (.tmp x)]) w := by
 rw [← tmps_getD' (ds := ds)] at hp
 rw [← tmps_getD' (ds := ds) u, ← tmps_getD' (ds := ds) x]
 simp [results, hr, ← Array.getD_eq_getD_getElem?, hp, asAddr, hl]
theorem postR {v : Value} (hres : (results fn (act n e []).tmps).run P w = .ok v w) (hR : R (.returned v) w) : bodyPost P fn R .ret (act n e []) w := ⟨rfl, v, hres, hR⟩
def marks (Ds : List Nat) : List Deferred := Ds.map fun D => { target := .collected D, args := #[] }
theorem leaves_marks {tmps : Array Value} : ∀ {Ds : List Nat} {w : World}, Ds.Nodup → (∀ D ∈ Ds, w.heap[D]? = some (.deferred (some []))) → (∀ w', Fz 0 w w' → Fr (fun k => k ∈ Ds) w w' → ∃ v, (results fn tmps).run P w' = .ok v w' ∧ R (.returned v) w') →
  LeavesInM (Fw none) 0 P fn tmps R (marks Ds) .returning w
 | [], w, _, _, hR => hR w ⟨rfl, rfl, rfl, Nat.le_refl _, fun _ _ _ => rfl⟩ (Fr.refl _ _)
 | D :: Ds, w, hn, hD, hR => by
  have h0 := hD D (by simp)
  refine ⟨by simp, .inl ⟨D, _, rfl, run_takeDeferred h0, ?_⟩⟩
  rw [List.nodup_cons] at hn
  have hz : Fz 0 w (w.putObj D (.deferred none)) := Fz.of_put h0 rfl (Nat.zero_le _)
  have hf : Fr (fun k => k ∈ D :: Ds) w (w.putObj D (.deferred none)) := ⟨rfl, rfl, rfl, by simp, fun k _ hk => World.putObj_heap_other fun e => hk (by rw [e]; simp)⟩
  refine leaves_marks hn.2 (fun D' h' => ?_) fun w' hz' hf' => ?_
  ·rw [World.putObj_heap_other (fun e => hn.1 (by rw [← e]; exact h'))]
   exact hD D' (by simp [h'])
  ·refine hR w' ⟨hz'.os.trans hz.os, hz'.tape.trans hz.tape, hz'.output.trans hz.output, Nat.le_trans hz.size hz'.size, fun k hk hc => ?_⟩ (hf.trans hf' fun k _ hk => List.mem_cons_of_mem _ hk)
   rcases hc with hc | hc
   ·exact (hz'.same k (Nat.lt_of_lt_of_le hk hz.size) (.inl (hz.isC hc))).trans (hz.same k hk (.inl hc))
   ·omega
theorem postM {Ds : List Nat} (hn : Ds.Nodup) (hD : ∀ D ∈ Ds, w.heap[D]? = some (.deferred (some []))) (hR : ∀ w', Fz 0 w w' → Fr (fun k => k ∈ Ds) w w' → ∃ v, (results fn (act n e (marks Ds)).tmps).run P w' = .ok v w' ∧ R (.returned v) w') :
  bodyPostM (Fw none) 0 P fn R .ret (act n e (marks Ds)) w := leaves_marks hn hD hR
theorem s_enterM {f : FuncId} {c : Code} {vs : List Value} (hf : P.funcs[f]? = some fn) (hb : fn.body = some c) (hn : fn.ntmps = n) (hv : Nat.ble vs.length n = true)
  (h : c.wpIn (Fw none) 0 P (bodyPostM (Fw none) 0 P fn R) (act n (ins 0 vs) (marks [])) w) : Calls P f vs.toArray w R := by
 refine callsIn_wide.1 (callsIn_of_wp_marks (F := Fence.wide) (n := 0) hf hb trivial ?_)
 subst hn
 rw [act_start _ _ (Nat.le_of_ble_eq_true hv)]
 exact h
end posts
end Go.Proofs.NV
namespace Go.Proofs.NV
open Go.RowKit Go.Shelf
theorem bld103_012 {x1 : Int} {x2 : Option Addr} {x3 : Nat} {x4 : Nat} {x5 : Option Addr} {x6 : Nat} {x7 : Nat} (w : World) : (Instr.build 103 #[(0, .int .i64 x1), (1, .slice x2 x3 x4), (2, .slice x5 x6 x7)]).run Tryz.prog w = .ok (.agg #[.int .i64 x1, .slice x2 x3 x4, .slice x5 x6 x7]) w := by kernel_rfl
theorem bld130_  (w : World) : (Instr.build 130 #[]).run Tryz.prog w = .ok (.agg #[.slice none 0 0, .int .i64 0, .int .i64 0, .slice none 0 0, .slice none 0 0]) w := by kernel_rfl
theorem bld130_0 {x1 : Option Addr} {x2 : Nat} {x3 : Nat} {x4 : Int} {x5 : Int} {x6 : Option Addr} {x7 : Nat} {x8 : Nat} (w : World) : (Instr.build 130 #[(0, .agg #[.slice x1 x2 x3, .int .i64 x4, .int .i64 x5, .slice x6 x7 x8])]).run Tryz.prog w = .ok (.agg #[.slice x1 x2 x3, .int .i64 x4, .int .i64 x5, .slice x6 x7 x8, .slice none 0 0]) w := by kernel_rfl
theorem bld137_012 {x1 : Option Addr} {x2 : Nat} {x3 : Nat} {x4 : Int} {x5 : Int} (w : World) : (Instr.build 137 #[(0, .slice x1 x2 x3), (1, .int .i64 x4), (2, .int .i64 x5)]).run Tryz.prog w = .ok (.agg #[.slice x1 x2 x3, .int .i64 x4, .int .i64 x5]) w := by kernel_rfl
theorem bld140_012 {x1 : Int} {x2 : Int} {x3 : Int} (w : World) : (Instr.build 140 #[(0, .int .i64 x1), (1, .int .i64 x2), (2, .int .i64 x3)]).run Tryz.prog w = .ok (.agg #[.int .i64 x1, .int .i64 x2, .int .i64 x3]) w := by kernel_rfl
theorem bld148_0 {x1 : Int} (w : World) : (Instr.build 148 #[(0, .int .i64 x1)]).run Tryz.prog w = .ok (.agg #[.int .i64 x1]) w := by kernel_rfl
theorem bld155_01 {x1 : Int} {x2 : Option Addr} {x3 : Nat} {x4 : Nat} (w : World) : (Instr.build 155 #[(0, .int .i64 x1), (1, .slice x2 x3 x4)]).run Tryz.prog w = .ok (.agg #[.int .i64 x1, .slice x2 x3 x4]) w := by kernel_rfl
theorem bld164_01 {x1 : Int} {x2 : Int} (w : World) : (Instr.build 164 #[(0, .int .i64 x1), (1, .int .i64 x2)]).run Tryz.prog w = .ok (.agg #[.int .i64 x1, .int .i64 x2]) w := by kernel_rfl
theorem bld167_01 {x1 : Option Addr} {x2 : Nat} {x3 : Nat} {x4 : Int} (w : World) : (Instr.build 167 #[(0, .slice x1 x2 x3), (1, .int .i64 x4)]).run Tryz.prog w = .ok (.agg #[.slice x1 x2 x3, .int .i64 x4]) w := by kernel_rfl
theorem bld170_01 {x1 : Option Addr} {x2 : Nat} {x3 : Nat} {x4 : Option Nat} (w : World) : (Instr.build 170 #[(0, .slice x1 x2 x3), (1, .map x4)]).run Tryz.prog w = .ok (.agg #[.slice x1 x2 x3, .map x4]) w := by kernel_rfl
theorem bld177_012 {x1 : Option Addr} {x2 : Nat} {x3 : Nat} {x4 : Int} {x5 : Int} (w : World) : (Instr.build 177 #[(0, .slice x1 x2 x3), (1, .int .i64 x4), (2, .int .i64 x5)]).run Tryz.prog w = .ok (.agg #[.slice x1 x2 x3, .int .i64 x4, .int .i64 x5]) w := by kernel_rfl
theorem bld197_01 {x1 : Fn} {x2 : Array Value} {x3 : Array Value} {x4 : Fn} {x5 : Array Value} {x6 : Array Value} (w : World) : (Instr.build 197 #[(0, .func x1 x2 x3), (1, .func x4 x5 x6)]).run Tryz.prog w = .ok (.agg #[.func x1 x2 x3, .func x4 x5 x6]) w := by kernel_rfl
theorem bld215_0 {x1 : Int} (w : World) : (Instr.build 215 #[(0, .int .i64 x1)]).run Tryz.prog w = .ok (.agg #[.int .i64 x1]) w := by kernel_rfl
theorem bld220_012 {x1 : ByteArray} {x2 : ByteArray} {x3 : ByteArray} (w : World) : (Instr.build 220 #[(0, .string x1), (1, .string x2), (2, .string x3)]).run Tryz.prog w = .ok (.agg #[.string x1, .string x2, .string x3]) w := by kernel_rfl
theorem bld229_0 {x1 : ByteArray} (w : World) : (Instr.build 229 #[(0, .string x1)]).run Tryz.prog w = .ok (.agg #[.string x1]) w := by kernel_rfl
theorem bld253_01 {x1 : Int} {x2 : Int} (w : World) : (Instr.build 253 #[(0, .int .i64 x1), (1, .int .i64 x2)]).run Tryz.prog w = .ok (.agg #[.int .i64 x1, .int .i64 x2]) w := by kernel_rfl
theorem bld255_0 {x1 : Int} (w : World) : (Instr.build 255 #[(0, .int .i64 x1)]).run Tryz.prog w = .ok (.agg #[.int .i64 x1]) w := by kernel_rfl
theorem bld257_012 {x1 : Int} {x2 : Int} {x3 : Int} (w : World) : (Instr.build 257 #[(0, .int .i64 x1), (1, .int .i64 x2), (2, .int .i64 x3)]).run Tryz.prog w = .ok (.agg #[.int .i64 x1, .int .i64 x2, .int .i64 x3]) w := by kernel_rfl
theorem bld25_  (w : World) : (Instr.build 25 #[]).run Tryz.prog w = .ok (.agg #[.slice none 0 0, .int .i64 0, .int .i64 0, .slice none 0 0]) w := by kernel_rfl
theorem bld25_0123 {x1 : Option Addr} {x2 : Nat} {x3 : Nat} {x4 : Int} {x5 : Int} {x6 : Option Addr} {x7 : Nat} {x8 : Nat} (w : World) : (Instr.build 25 #[(0, .slice x1 x2 x3), (1, .int .i64 x4), (2, .int .i64 x5), (3, .slice x6 x7 x8)]).run Tryz.prog w = .ok (.agg #[.slice x1 x2 x3, .int .i64 x4, .int .i64 x5, .slice x6 x7 x8]) w := by kernel_rfl
theorem bld25_12 {x1 : Int} {x2 : Int} (w : World) : (Instr.build 25 #[(1, .int .i64 x1), (2, .int .i64 x2)]).run Tryz.prog w = .ok (.agg #[.slice none 0 0, .int .i64 x1, .int .i64 x2, .slice none 0 0]) w := by kernel_rfl
theorem bld35_  (w : World) : (Instr.build 35 #[]).run Tryz.prog w = .ok (.agg #[.slice none 0 0, .slice none 0 0]) w := by kernel_rfl
theorem bld35_0 {x1 : Option Addr} {x2 : Nat} {x3 : Nat} (w : World) : (Instr.build 35 #[(0, .slice x1 x2 x3)]).run Tryz.prog w = .ok (.agg #[.slice x1 x2 x3, .slice none 0 0]) w := by kernel_rfl
theorem bld47_0 {x1 : Int} (w : World) : (Instr.build 47 #[(0, .int .i64 x1)]).run Tryz.prog w = .ok (.agg #[.int .i64 x1, .slice none 0 0]) w := by kernel_rfl
theorem bld47_01 {x1 : Int} {x2 : Option Addr} {x3 : Nat} {x4 : Nat} (w : World) : (Instr.build 47 #[(0, .int .i64 x1), (1, .slice x2 x3 x4)]).run Tryz.prog w = .ok (.agg #[.int .i64 x1, .slice x2 x3 x4]) w := by kernel_rfl
theorem bld65_  (w : World) : (Instr.build 65 #[]).run Tryz.prog w = .ok (.agg #[.int .i64 0, .int .i64 0]) w := by kernel_rfl
theorem bld65_01 {x1 : Int} {x2 : Int} (w : World) : (Instr.build 65 #[(0, .int .i64 x1), (1, .int .i64 x2)]).run Tryz.prog w = .ok (.agg #[.int .i64 x1, .int .i64 x2]) w := by kernel_rfl
theorem bld65_1 {x1 : Int} (w : World) : (Instr.build 65 #[(1, .int .i64 x1)]).run Tryz.prog w = .ok (.agg #[.int .i64 0, .int .i64 x1]) w := by kernel_rfl
theorem bld67_012 {x1 : Int} {x2 : Int} {x3 : Int} {x4 : Int} (w : World) : (Instr.build 67 #[(0, .int .i64 x1), (1, .agg #[.int .i64 x2, .int .i64 x3]), (2, .int .i64 x4)]).run Tryz.prog w = .ok (.agg #[.int .i64 x1, .int .i64 x2, .int .i64 x3, .int .i64 x4]) w := by kernel_rfl
theorem bld80_  (w : World) : (Instr.build 80 #[]).run Tryz.prog w = .ok (.agg #[.slice none 0 0, .int .i64 0, .int .i64 0]) w := by kernel_rfl
theorem bld80_0 {x1 : Option Addr} {x2 : Nat} {x3 : Nat} (w : World) : (Instr.build 80 #[(0, .slice x1 x2 x3)]).run Tryz.prog w = .ok (.agg #[.slice x1 x2 x3, .int .i64 0, .int .i64 0]) w := by kernel_rfl
theorem bld80_012 {x1 : Option Addr} {x2 : Nat} {x3 : Nat} {x4 : Int} {x5 : Int} (w : World) : (Instr.build 80 #[(0, .slice x1 x2 x3), (1, .int .i64 x4), (2, .int .i64 x5)]).run Tryz.prog w = .ok (.agg #[.slice x1 x2 x3, .int .i64 x4, .int .i64 x5]) w := by kernel_rfl
theorem bld99_012 {x1 : Int} {x2 : Int} {x3 : Int} (w : World) : (Instr.build 99 #[(0, .int .i64 x1), (1, .int .i64 x2), (2, .int .i64 x3)]).run Tryz.prog w = .ok (.agg #[.int .i64 x1, .int .i64 x2, .int .i64 x3]) w := by kernel_rfl
theorem bls114_1 {x1 : Int} (w : World) : (Instr.buildSlice 114 1 #[(0, .int .u8 x1)]).run Tryz.prog w = .ok (.slice (some ⟨w.heap.size, 0, none⟩) 1 1) (w.alloc (.cells #[.int .u8 x1] 5)) := by kernel_rfl
theorem bls128_1 {x1 : Option Addr} {x2 : Nat} {x3 : Nat} (w : World) : (Instr.buildSlice 128 1 #[(0, .slice x1 x2 x3)]).run Tryz.prog w = .ok (.slice (some ⟨w.heap.size, 0, none⟩) 1 1) (w.alloc (.cells #[.slice x1 x2 x3] 135)) := by kernel_rfl
theorem bls134_1 {x1 : Int} {x2 : Int} {x3 : Int} (w : World) : (Instr.buildSlice 134 1 #[(0, .agg #[.int .i64 x1, .int .i64 x2, .int .i64 x3])]).run Tryz.prog w = .ok (.slice (some ⟨w.heap.size, 0, none⟩) 1 1) (w.alloc (.cells #[.int .i64 x1, .int .i64 x2, .int .i64 x3] 140)) := by kernel_rfl
theorem bls135_1 {x1 : Option Addr} {x2 : Nat} {x3 : Nat} {x4 : Int} {x5 : Int} (w : World) : (Instr.buildSlice 135 1 #[(0, .agg #[.slice x1 x2 x3, .int .i64 x4, .int .i64 x5])]).run Tryz.prog w = .ok (.slice (some ⟨w.heap.size, 0, none⟩) 1 1) (w.alloc (.cells #[.slice x1 x2 x3, .int .i64 x4, .int .i64 x5] 137)) := by kernel_rfl
theorem bls151_1 {x1 : Int} {x2 : Option Addr} {x3 : Nat} {x4 : Nat} (w : World) : (Instr.buildSlice 151 1 #[(0, .agg #[.int .i64 x1, .slice x2 x3 x4])]).run Tryz.prog w = .ok (.slice (some ⟨w.heap.size, 0, none⟩) 1 1) (w.alloc (.cells #[.int .i64 x1, .slice x2 x3 x4] 155)) := by kernel_rfl
theorem bls172_1 {x1 : Option Addr} {x2 : Nat} {x3 : Nat} {x4 : Int} {x5 : Int} (w : World) : (Instr.buildSlice 172 1 #[(0, .agg #[.slice x1 x2 x3, .int .i64 x4, .int .i64 x5])]).run Tryz.prog w = .ok (.slice (some ⟨w.heap.size, 0, none⟩) 1 1) (w.alloc (.cells #[.slice x1 x2 x3, .int .i64 x4, .int .i64 x5] 80)) := by kernel_rfl
theorem bls173_1 {x1 : Option Addr} {x2 : Nat} {x3 : Nat} {x4 : Int} {x5 : Int} (w : World) : (Instr.buildSlice 173 1 #[(0, .agg #[.slice x1 x2 x3, .int .i64 x4, .int .i64 x5])]).run Tryz.prog w = .ok (.slice (some ⟨w.heap.size, 0, none⟩) 1 1) (w.alloc (.cells #[.slice x1 x2 x3, .int .i64 x4, .int .i64 x5] 177)) := by kernel_rfl
theorem bls186_1 {x1 : ByteArray} (w : World) : (Instr.buildSlice 186 1 #[(0, .string x1)]).run Tryz.prog w = .ok (.slice (some ⟨w.heap.size, 0, none⟩) 1 1) (w.alloc (.cells #[.string x1] 9)) := by kernel_rfl
theorem bls207_1 {x1 : Option Addr} {x2 : Nat} {x3 : Nat} {x4 : Int} (w : World) : (Instr.buildSlice 207 1 #[(0, .agg #[.slice x1 x2 x3, .int .i64 x4])]).run Tryz.prog w = .ok (.slice (some ⟨w.heap.size, 0, none⟩) 1 1) (w.alloc (.cells #[.slice x1 x2 x3, .int .i64 x4] 167)) := by kernel_rfl
theorem bls222_1 {x1 : TypeId} {x2 : Value} (w : World) : (Instr.buildSlice 222 1 #[(0, .iface x1 x2)]).run Tryz.prog w = .ok (.slice (some ⟨w.heap.size, 0, none⟩) 1 1) (w.alloc (.cells #[.iface x1 x2] 225)) := by kernel_rfl
theorem bls22_1 {x1 : Int} (w : World) : (Instr.buildSlice 22 1 #[(0, .agg #[.int .i64 x1])]).run Tryz.prog w = .ok (.slice (some ⟨w.heap.size, 0, none⟩) 1 1) (w.alloc (.cells #[.int .i64 x1] 148)) := by kernel_rfl
theorem bls22_4 {x1 : Int} {x2 : Int} {x3 : Int} {x4 : Int} (w : World) : (Instr.buildSlice 22 4 #[(0, .agg #[.int .i64 x1]), (1, .agg #[.int .i64 x2]), (2, .agg #[.int .i64 x3]), (3, .agg #[.int .i64 x4])]).run Tryz.prog w = .ok (.slice (some ⟨w.heap.size, 0, none⟩) 4 4) (w.alloc (.cells #[.int .i64 x1, .int .i64 x2, .int .i64 x3, .int .i64 x4] 148)) := by kernel_rfl
theorem bls23_1 {x1 : Int} {x2 : Int} {x3 : Int} (w : World) : (Instr.buildSlice 23 1 #[(0, .agg #[.int .i64 x1, .int .i64 x2, .int .i64 x3])]).run Tryz.prog w = .ok (.slice (some ⟨w.heap.size, 0, none⟩) 1 1) (w.alloc (.cells #[.int .i64 x1, .int .i64 x2, .int .i64 x3] 99)) := by kernel_rfl
theorem bls23_3 {x1 : Int} {x2 : Int} {x3 : Int} {x4 : Int} {x5 : Int} {x6 : Int} {x7 : Int} {x8 : Int} {x9 : Int} (w : World) : (Instr.buildSlice 23 3 #[(0, .agg #[.int .i64 x1, .int .i64 x2, .int .i64 x3]), (1, .agg #[.int .i64 x4, .int .i64 x5, .int .i64 x6]), (2, .agg #[.int .i64 x7, .int .i64 x8, .int .i64 x9])]).run Tryz.prog w = .ok (.slice (some ⟨w.heap.size, 0, none⟩) 3 3) (w.alloc (.cells #[.int .i64 x1, .int .i64 x2, .int .i64 x3, .int .i64 x4, .int .i64 x5, .int .i64 x6, .int .i64 x7, .int .i64 x8, .int .i64 x9] 99)) := by kernel_rfl
theorem bls33_1 {x1 : Option Addr} {x2 : Nat} {x3 : Nat} (w : World) : (Instr.buildSlice 33 1 #[(0, .slice x1 x2 x3)]).run Tryz.prog w = .ok (.slice (some ⟨w.heap.size, 0, none⟩) 1 1) (w.alloc (.cells #[.slice x1 x2 x3] 56)) := by kernel_rfl
theorem bls33_2 {x1 : Option Addr} {x2 : Nat} {x3 : Nat} {x4 : Option Addr} {x5 : Nat} {x6 : Nat} (w : World) : (Instr.buildSlice 33 2 #[(0, .slice x1 x2 x3), (1, .slice x4 x5 x6)]).run Tryz.prog w = .ok (.slice (some ⟨w.heap.size, 0, none⟩) 2 2) (w.alloc (.cells #[.slice x1 x2 x3, .slice x4 x5 x6] 56)) := by kernel_rfl
theorem bls45_1 {x1 : Int} {x2 : Int} {x3 : Int} {x4 : Int} (w : World) : (Instr.buildSlice 45 1 #[(0, .agg #[.int .i64 x1, .int .i64 x2, .int .i64 x3, .int .i64 x4])]).run Tryz.prog w = .ok (.slice (some ⟨w.heap.size, 0, none⟩) 1 1) (w.alloc (.cells #[.int .i64 x1, .int .i64 x2, .int .i64 x3, .int .i64 x4] 67)) := by kernel_rfl
theorem bls45_3 {x1 : Int} {x2 : Int} {x3 : Int} {x4 : Int} {x5 : Int} {x6 : Int} {x7 : Int} {x8 : Int} {x9 : Int} {x10 : Int} {x11 : Int} {x12 : Int} (w : World) : (Instr.buildSlice 45 3 #[(0, .agg #[.int .i64 x1, .int .i64 x2, .int .i64 x3, .int .i64 x4]), (1, .agg #[.int .i64 x5, .int .i64 x6, .int .i64 x7, .int .i64 x8]), (2, .agg #[.int .i64 x9, .int .i64 x10, .int .i64 x11, .int .i64 x12])]).run Tryz.prog w = .ok (.slice (some ⟨w.heap.size, 0, none⟩) 3 3) (w.alloc (.cells #[.int .i64 x1, .int .i64 x2, .int .i64 x3, .int .i64 x4, .int .i64 x5, .int .i64 x6, .int .i64 x7, .int .i64 x8, .int .i64 x9, .int .i64 x10, .int .i64 x11, .int .i64 x12] 67)) := by kernel_rfl
theorem bls56_0  (w : World) : (Instr.buildSlice 56 0 #[]).run Tryz.prog w = .ok (.slice (some ⟨w.heap.size, 0, none⟩) 0 0) (w.alloc (.cells #[] 3)) := by kernel_rfl
theorem bls56_1 {x1 : Int} (w : World) : (Instr.buildSlice 56 1 #[(0, .int .i64 x1)]).run Tryz.prog w = .ok (.slice (some ⟨w.heap.size, 0, none⟩) 1 1) (w.alloc (.cells #[.int .i64 x1] 3)) := by kernel_rfl
theorem bls56_2 {x1 : Int} {x2 : Int} (w : World) : (Instr.buildSlice 56 2 #[(0, .int .i64 x1), (1, .int .i64 x2)]).run Tryz.prog w = .ok (.slice (some ⟨w.heap.size, 0, none⟩) 2 2) (w.alloc (.cells #[.int .i64 x1, .int .i64 x2] 3)) := by kernel_rfl
theorem bls56_3 {x1 : Int} {x2 : Int} {x3 : Int} (w : World) : (Instr.buildSlice 56 3 #[(0, .int .i64 x1), (1, .int .i64 x2), (2, .int .i64 x3)]).run Tryz.prog w = .ok (.slice (some ⟨w.heap.size, 0, none⟩) 3 3) (w.alloc (.cells #[.int .i64 x1, .int .i64 x2, .int .i64 x3] 3)) := by kernel_rfl
theorem bls59_4 {x1 : Int} {x2 : Int} {x3 : Int} {x4 : Int} {x5 : Int} {x6 : Int} {x7 : Int} {x8 : Int} (w : World) : (Instr.buildSlice 59 4 #[(0, .agg #[.int .i64 x1, .int .i64 x2]), (1, .agg #[.int .i64 x3, .int .i64 x4]), (2, .agg #[.int .i64 x5, .int .i64 x6]), (3, .agg #[.int .i64 x7, .int .i64 x8])]).run Tryz.prog w = .ok (.slice (some ⟨w.heap.size, 0, none⟩) 4 4) (w.alloc (.cells #[.int .i64 x1, .int .i64 x2, .int .i64 x3, .int .i64 x4, .int .i64 x5, .int .i64 x6, .int .i64 x7, .int .i64 x8] 65)) := by kernel_rfl
theorem bls74_3 {x1 : Int} {x2 : Int} {x3 : Int} {x4 : Int} {x5 : Int} {x6 : Int} (w : World) : (Instr.buildSlice 74 3 #[(0, .agg #[.int .i64 x1, .int .i64 x2]), (1, .agg #[.int .i64 x3, .int .i64 x4]), (2, .agg #[.int .i64 x5, .int .i64 x6])]).run Tryz.prog w = .ok (.slice (some ⟨w.heap.size, 0, none⟩) 3 3) (w.alloc (.cells #[.int .i64 x1, .int .i64 x2, .int .i64 x3, .int .i64 x4, .int .i64 x5, .int .i64 x6] 164)) := by kernel_rfl
theorem bls87_1 {x1 : Int} {x2 : Option Addr} {x3 : Nat} {x4 : Nat} {x5 : Option Addr} {x6 : Nat} {x7 : Nat} (w : World) : (Instr.buildSlice 87 1 #[(0, .agg #[.int .i64 x1, .slice x2 x3 x4, .slice x5 x6 x7])]).run Tryz.prog w = .ok (.slice (some ⟨w.heap.size, 0, none⟩) 1 1) (w.alloc (.cells #[.int .i64 x1, .slice x2 x3 x4, .slice x5 x6 x7] 103)) := by kernel_rfl
theorem bls87_2 {x1 : Int} {x2 : Option Addr} {x3 : Nat} {x4 : Nat} {x5 : Option Addr} {x6 : Nat} {x7 : Nat} {x8 : Int} {x9 : Option Addr} {x10 : Nat} {x11 : Nat} {x12 : Option Addr} {x13 : Nat} {x14 : Nat} (w : World) : (Instr.buildSlice 87 2 #[(0, .agg #[.int .i64 x1, .slice x2 x3 x4, .slice x5 x6 x7]), (1, .agg #[.int .i64 x8, .slice x9 x10 x11, .slice x12 x13 x14])]).run Tryz.prog w = .ok (.slice (some ⟨w.heap.size, 0, none⟩) 2 2) (w.alloc (.cells #[.int .i64 x1, .slice x2 x3 x4, .slice x5 x6 x7, .int .i64 x8, .slice x9 x10 x11, .slice x12 x13 x14] 103)) := by kernel_rfl
end Go.Proofs.NV
namespace Go.Proofs.NV
open Go.RowKit Go.Shelf
attribute [local irreducible] bodyPost bodyPostM wpQuiet
structure Page where
 means : List Int
 before : Int
 after : Int
def pageT : Ty Page := ((Ty.int.sl).pair (Ty.int.pair Ty.int)).iso fun p => (p.means, p.before, p.after)
theorem pageT_sz : pageT.sz = 3 := rfl
theorem pageT_iff {w : World} {S : Nat → Prop} {p : Page} {cs : List Value} : pageT.rep w S p cs ↔ ∃ A c, cs = [.slice A p.means.length c, I p.before, I p.after] ∧ p.means.length ≤ c ∧ c ≤ maxLen ∧ Ty.int.Sl w S A p.means := by
 constructor
 ·rintro ⟨c0, c1, rfl, ⟨A, c, rfl, h1, h2, h3⟩, c2, c3, rfl, h4, h5⟩
  obtain rfl : c2 = [I p.before] := h4
  obtain rfl : c3 = [I p.after] := h5
  exact ⟨A, c, rfl, h1, h2, h3⟩
 ·rintro ⟨A, c, rfl, h1, h2, h3⟩
  exact ⟨_, _, rfl, ⟨A, c, rfl, h1, h2, h3⟩, _, _, rfl, rfl, rfl⟩
def Page.truths (p : Page) : Int := p.before * p.after
theorem f134_calls (v : Value) (b a : Int) (w : World) (hv : v.oneCell' = true) :
  Calls Tryz.prog 134 #[.agg #[v, I b, I a]] w fun e w' => e = .returned (I b) ∧ w.grownBy w' none := by
 refine s_enter (n := 5) Tryz.func134 rfl rfl rfl ?_
 have G := grown_refl w none
 refine s_rseq fun _ k1 => ?_
 refine o_box (t := 137) rfl ?_; intro w1 B1 g1 z1
 replace G := G.step0 g1
 refine o_v v_assign ?_
 refine o_end (k1 _ _ ?_)
 refine s_rseq fun _ k2 => ?_
 refine o_v (v_field rfl fld137_1) ?_
 refine o_v (v_loadB rfl sc3 B1 rfl) ?_
 refine o_v v_assign ?_
 refine o_end (k2 _ _ ?_)
 refine s_ret (post1 rfl ?_)
 exact ⟨rfl, G⟩
theorem f135_calls (v : Value) (b a : Int) (w : World) (hv : v.oneCell' = true) :
  Calls Tryz.prog 135 #[.agg #[v, I b, I a]] w fun e w' => e = .returned (I a) ∧ w.grownBy w' none := by
 refine s_enter (n := 5) Tryz.func135 rfl rfl rfl ?_
 have G := grown_refl w none
 refine s_rseq fun _ k1 => ?_
 refine o_box (t := 137) rfl ?_; intro w1 B1 g1 z1
 replace G := G.step0 g1
 refine o_v v_assign ?_
 refine o_end (k1 _ _ ?_)
 refine s_rseq fun _ k2 => ?_
 refine o_v (v_field rfl fld137_2) ?_
 refine o_v (v_loadB rfl sc3 B1 rfl) ?_
 refine o_v v_assign ?_
 refine o_end (k2 _ _ ?_)
 refine s_ret (post1 rfl ?_)
 exact ⟨rfl, G⟩
theorem f178_calls (v : Value) (b a : Int) (w : World) (hv : v.oneCell' = true) :
  Calls Tryz.prog 178 #[.agg #[v, I b, I a]] w fun e w' => e = .returned (I b) ∧ w.grownBy w' none := by
 refine s_enter (n := 5) Tryz.func178 rfl rfl rfl ?_
 have G := grown_refl w none
 refine s_rseq fun _ k1 => ?_
 refine o_box (t := 137) rfl ?_; intro w1 B1 g1 z1
 replace G := G.step0 g1
 refine o_v v_assign ?_
 refine o_end (k1 _ _ ?_)
 refine s_rseq fun _ k2 => ?_
 refine o_v (v_field rfl fld137_1) ?_
 refine o_v (v_loadB rfl sc3 B1 rfl) ?_
 refine o_v v_assign ?_
 refine o_end (k2 _ _ ?_)
 refine s_ret (post1 rfl ?_)
 exact ⟨rfl, G⟩
theorem f180_calls (v : Value) (b a : Int) (w : World) (hv : v.oneCell' = true) :
  Calls Tryz.prog 180 #[.agg #[v, I b, I a]] w fun e w' => e = .returned (I a) ∧ w.grownBy w' none := by
 refine s_enter (n := 5) Tryz.func180 rfl rfl rfl ?_
 have G := grown_refl w none
 refine s_rseq fun _ k1 => ?_
 refine o_box (t := 137) rfl ?_; intro w1 B1 g1 z1
 replace G := G.step0 g1
 refine o_v v_assign ?_
 refine o_end (k1 _ _ ?_)
 refine s_rseq fun _ k2 => ?_
 refine o_v (v_field rfl fld137_2) ?_
 refine o_v (v_loadB rfl sc3 B1 rfl) ?_
 refine o_v v_assign ?_
 refine o_end (k2 _ _ ?_)
 refine s_ret (post1 rfl ?_)
 exact ⟨rfl, G⟩
theorem f182_calls (v : Value) (b a : Int) (w : World) (hb : -9223372036854775808 ≤ b * a ∧ b * a ≤ 9223372036854775807) :
  Calls Tryz.prog 182 #[.agg #[v, I b, I a]] w fun e w' => e = .returned (.bool (decide (b * a = 0))) ∧ w.grownBy w' none := by
 refine s_enter (n := 9) Tryz.func182 rfl rfl rfl ?_
 have G := grown_refl w none
 refine s_rseq fun _ k1 => ?_
 refine o_box (t := 137) rfl ?_; intro w1 B1 g1 z1
 replace G := G.step0 g1
 refine o_v v_assign ?_
 refine o_end (k1 _ _ ?_)
 refine s_rseq fun _ k2 => ?_
 refine o_v (v_field rfl fld137_1) ?_
 refine o_v (v_loadB rfl sc3 B1 rfl) ?_
 refine o_v (v_field rfl fld137_2) ?_
 refine o_v (v_loadB rfl sc3 B1 rfl) ?_
 refine o_v (v_mul rfl rfl hb) ?_
 refine o_v (v_eql rfl rfl) ?_
 refine o_v v_assign ?_
 refine o_end (k2 _ _ ?_)
 refine s_ret (post1 rfl ?_)
 exact ⟨rfl, G⟩
theorem f80_calls (v : Value) (b a : Int) (w : World) (hv : v.oneCell' = true) (hb : -9223372036854775808 ≤ b ∧ b ≤ 9223372036854775807) (hba : -9223372036854775808 ≤ b * a ∧ b * a ≤ 9223372036854775807) :
  Calls Tryz.prog 80 #[.agg #[v, I b, I a]] w fun e w' => e = .returned (I (b * a)) ∧ w.grownBy w' none := by
 refine s_enter (n := 20) Tryz.func80 rfl rfl rfl ?_
 have G := grown_refl w none
 refine s_rseq fun _ k1 => ?_
 refine o_box (t := 137) rfl ?_; intro w1 B1 g1 z1
 replace G := G.step0 g1
 refine o_v v_assign ?_
 refine o_end (k1 _ _ ?_)
 refine s_rseq fun _ k2 => ?_
 refine o_v v_assign ?_
 refine o_end (k2 _ _ ?_)
 refine s_seq fun _ k3 => ?_
 refine s_rseq fun _ k4 => ?_
 refine o_v (v_loadBS rfl ag137 B1 rfl rfl) ?_
 refine o_v v_func ?_
 refine o_v (v_loadBS rfl ag137 B1 rfl rfl) ?_
 refine o_v v_func ?_
 refine o_v (v_build rfl (fun W => bld197_01 W)) ?_
 refine o_v v_move ?_
 refine o_end (k4 _ _ ?_)
 refine s_block ?_
 refine s_loop (G := Nat) (fun g => [(3, I (if g = 0 then 1 else if g = 1 then b else b * a)), (11, I g)]) [3, 11] [5, 12, 13, 14, 15, 16, 17, 18] (fun g W => (g ≤ 2) ∧ w1.grownBy W none) (fun g => 2 - g) (fun _ => rfl) 0 ⟨rfl, rfl, trivial⟩ ⟨Nat.zero_le _, grown_refl _ _⟩ ?_
 rintro g jv w2 ⟨hk, g2⟩
 replace G := G.step0 g2; replace B1 := B1.step0 g2
 refine s_rseq fun _ k5 => ?_
 refine o_v (v_lss rfl rfl) ?_
 refine o_end (k5 _ _ ?_)
 refine s_seq fun _ k6 => ?_
 refine s_ifd rfl (fun c6 => ?_) (fun c6 => ?_)
 ·obtain rfl | rfl : g = 0 ∨ g = 1 := by omega
  ·refine s_skip ?_
   refine k6 _ _ ?_
   refine s_seq fun _ k7 => ?_
   refine s_block ?_
   refine s_rseq fun _ k8 => ?_
   refine o_v (v_indexA rfl rfl Tryz.underlying197 sc133 (by omega) rfl) ?_
   refine o_v v_assign ?_
   refine o_end (k8 _ _ ?_)
   refine s_region ?_
   refine o_v v_move ?_
   refine o_v v_move ?_
   refine o_call rfl rfl ent134 (f134_calls v b a _ hv) ?_; rintro _ w3 ⟨rfl, g3⟩; refine ⟨_, rfl, ?_⟩
   refine o_v (v_mul rfl rfl (by simp; omega)) ?_
   refine o_v v_assign ?_
   refine o_end ?_
   refine k7 _ _ ?_
   refine s_region ?_
   refine o_v (v_add rfl rfl (by omega)) ?_
   refine o_v v_move ?_
   refine o_end ?_
   refine mid 1 ?_ ?_ ?_
   ·repeat (first | exact off_refl | refine off_cons rfl ?_)
   ·exact ⟨congrArg I (by simp : (if (0:Nat) = 0 then (1:Int) else if (0:Nat) = 1 then b else b * a) * b = if (1:Nat) = 0 then 1 else if (1:Nat) = 1 then b else b * a), rfl, trivial⟩
   ·exact ⟨⟨by omega, g2.step0 g3⟩, by omega⟩
  ·refine s_skip ?_
   refine k6 _ _ ?_
   refine s_seq fun _ k7 => ?_
   refine s_block ?_
   refine s_rseq fun _ k8 => ?_
   refine o_v (v_indexA rfl rfl Tryz.underlying197 sc133 (by omega) rfl) ?_
   refine o_v v_assign ?_
   refine o_end (k8 _ _ ?_)
   refine s_region ?_
   refine o_v v_move ?_
   refine o_v v_move ?_
   refine o_call rfl rfl ent135 (f135_calls v b a _ hv) ?_; rintro _ w3 ⟨rfl, g3⟩; refine ⟨_, rfl, ?_⟩
   refine o_v (v_mul rfl rfl (by simpa using hba)) ?_
   refine o_v v_assign ?_
   refine o_end ?_
   refine k7 _ _ ?_
   refine s_region ?_
   refine o_v (v_add rfl rfl (by omega)) ?_
   refine o_v v_move ?_
   refine o_end ?_
   refine mid 2 ?_ ?_ ?_
   ·repeat (first | exact off_refl | refine off_cons rfl ?_)
   ·exact ⟨congrArg I (by simp : (if (1:Nat) = 0 then (1:Int) else if (1:Nat) = 1 then b else b * a) * a = if (2:Nat) = 0 then 1 else if (2:Nat) = 1 then b else b * a), rfl, trivial⟩
   ·exact ⟨⟨by omega, g2.step0 g3⟩, by omega⟩
 ·refine s_exit ?_
  refine k3 _ _ ?_
  refine s_rseq fun _ k9 => ?_
  refine o_v v_move ?_
  refine o_v v_assign ?_
  refine o_end (k9 _ _ ?_)
  refine s_ret (post1 rfl ?_)
  obtain rfl : g = 2 := by omega
  exact ⟨rfl, G⟩
theorem f177_calls (k o : Nat) (x : Int) (cs : List Value) (w : World) (hB : Blk w k cs 137) (ho : o + 1 < cs.length) :
  Calls Tryz.prog 177 #[.pointer (some ⟨k, o, none⟩), I x] w fun e w' => (∃ v, e = .returned v) ∧ Blk w' k (over cs (o + 1) [I x]) 137 ∧ w.grownBy w' (some k) := by
 refine s_enter (n := 8) Tryz.func177 rfl rfl rfl ?_
 refine s_region ?_
 refine o_v v_move ?_
 refine o_v v_move ?_
 refine o_v (v_nilP rfl) ?_
 refine o_v (v_field rfl fld137_1) ?_
 refine o_storeB (vs := [I x]) rfl rfl sz3 rfl hB (by rw [Nat.ble_eq]; simp; omega) rfl ?_; intro w1 B1 g1 z1
 refine o_end ?_
 exact post0n rfl ⟨⟨_, rfl⟩, B1, g1⟩
theorem f179_calls (k o : Nat) (x : Int) (cs : List Value) (w : World) (hB : Blk w k cs 137) (ho : o + 2 < cs.length) :
  Calls Tryz.prog 179 #[.pointer (some ⟨k, o, none⟩), I x] w fun e w' => (∃ v, e = .returned v) ∧ Blk w' k (over cs (o + 2) [I x]) 137 ∧ w.grownBy w' (some k) := by
 refine s_enter (n := 8) Tryz.func179 rfl rfl rfl ?_
 refine s_region ?_
 refine o_v v_move ?_
 refine o_v v_move ?_
 refine o_v (v_nilP rfl) ?_
 refine o_v (v_field rfl fld137_2) ?_
 refine o_storeB (vs := [I x]) rfl rfl sz3 rfl hB (by rw [Nat.ble_eq]; simp; omega) rfl ?_; intro w1 B1 g1 z1
 refine o_end ?_
 exact post0n rfl ⟨⟨_, rfl⟩, B1, g1⟩
def sumL : List Int → Int
 | [] => 0
 | x :: l => x + sumL l
theorem sumL_append (l m : List Int) : sumL (l ++ m) = sumL l + sumL m := by
 induction l with
 | nil => simp [sumL]
 | cons x l ih => simp only [List.cons_append, sumL, ih]; omega
theorem sumL_snoc (l : List Int) (x : Int) : sumL (l ++ [x]) = sumL l + x := by rw [sumL_append]; simp [sumL]
theorem sumL_take (l : List Int) (k : Nat) (h : k < l.length) : sumL (l.take (k + 1)) = sumL (l.take k) + l[k] := by rw [List.take_succ_eq_append_getElem h, sumL_snoc]
theorem sumL_bound (l : List Int) (B : Int) (hB : 0 ≤ B) (h : ∀ x ∈ l, -B ≤ x ∧ x ≤ B) : -(B * l.length) ≤ sumL l ∧ sumL l ≤ B * l.length := by
 induction l with
 | nil => simp [sumL]
 | cons x l ih =>
  have h1 := ih fun y hy => h y (by simp [hy])
  have h2 := h x (by simp)
  simp only [sumL, List.length_cons]
  have e : B * ((l.length + 1 : Nat) : Int) = B * l.length + B := by rw [Int.natCast_add, Int.mul_add]; simp
  rw [e]
  omega
theorem sumL_nonneg (l : List Int) (h : ∀ x ∈ l, 0 ≤ x) : 0 ≤ sumL l := by
 induction l with
 | nil => simp [sumL]
 | cons x l ih =>
  have h1 := ih fun y hy => h y (by simp [hy])
  have h2 := h x (by simp)
  simp only [sumL]; omega
theorem f108_calls {S : Nat → Prop} (A : Option Addr) (c : Nat) (xs : List Int) (w : World) (hx : Ty.int.Sl w S A xs) (hm : xs.length ≤ 1000000) (hB : ∀ x ∈ xs, -1000000000000 ≤ x ∧ x ≤ 1000000000000) :
  Calls Tryz.prog 108 #[.slice A xs.length c] w fun e w' => e = .returned (I (sumL xs)) ∧ w.grownBy w' none := by
 refine s_enter (n := 17) Tryz.func108 rfl rfl rfl ?_
 have G := grown_refl w none
 refine s_rseq fun _ k1 => ?_
 refine o_v v_assign ?_
 refine o_end (k1 _ _ ?_)
 refine s_rseq fun _ k2 => ?_
 refine o_v v_assign ?_
 refine o_end (k2 _ _ ?_)
 refine s_seq fun _ k3 => ?_
 refine s_rseq fun _ k4 => ?_
 refine o_v v_move ?_
 refine o_v (v_len rfl Tryz.underlying56) ?_
 refine o_v v_move ?_
 refine o_end (k4 _ _ ?_)
 refine s_block ?_
 refine s_loop (G := Nat) (fun g => [(3, I (sumL (xs.take g))), (8, I g)]) [3, 8] [5, 9, 10, 11, 12, 13, 14, 15] (fun g W => (g ≤ xs.length) ∧ w.grownBy W none) (fun g => xs.length - g) (fun _ => rfl) 0 ⟨rfl, rfl, trivial⟩ ⟨Nat.zero_le _, grown_refl _ _⟩ ?_
 rintro g jv w1 ⟨hk, g1⟩
 replace G := G.step0 g1; replace hx := hx.step0 g1
 refine s_rseq fun _ k5 => ?_
 refine o_v (v_lss rfl rfl) ?_
 refine o_end (k5 _ _ ?_)
 refine s_seq fun _ k6 => ?_
 refine s_ifd rfl (fun c6 => ?_) (fun c6 => ?_)
 ·have hlt : g < xs.length := by omega
  obtain ⟨b0, o0, rfl, hc⟩ := hx.int g hlt
  have hsn := sumL_take xs g hlt
  have hbd := sumL_bound (xs.take g) 1000000000000 (by omega) (fun x hx => hB x (List.mem_of_mem_take hx))
  rw [List.length_take] at hbd
  have hbx := hB xs[g] (List.getElem_mem hlt)
  refine s_skip ?_
  refine k6 _ _ ?_
  refine s_seq fun _ k7 => ?_
  refine s_block ?_
  refine s_rseq fun _ k8 => ?_
  refine o_v (v_index rfl rfl slt56 (by omega)) ?_
  refine o_v (v_loadC rfl sc3 hc) ?_
  refine o_v v_assign ?_
  refine o_end (k8 _ _ ?_)
  refine s_region ?_
  refine o_v v_move ?_
  refine o_v v_move ?_
  refine o_v (v_add rfl rfl (by omega)) ?_
  refine o_v v_assign ?_
  refine o_end ?_
  refine k7 _ _ ?_
  refine s_region ?_
  refine o_v (v_add rfl rfl (by omega)) ?_
  refine o_v v_move ?_
  refine o_end ?_
  refine mid (g + 1) ?_ ?_ ?_
  ·repeat (first | exact off_refl | refine off_cons rfl ?_)
  ·exact ⟨by rw [hsn]; rfl, rfl, trivial⟩
  ·exact ⟨⟨hlt, g1⟩, by omega⟩
 ·refine s_exit ?_
  refine k3 _ _ ?_
  refine s_rseq fun _ k9 => ?_
  refine o_v v_move ?_
  refine o_v v_assign ?_
  refine o_end (k9 _ _ ?_)
  refine s_ret (post1 rfl ?_)
  obtain rfl : g = xs.length := by omega
  exact ⟨ret_int (by rw [List.take_length]), G⟩
end Go.Proofs.NV
