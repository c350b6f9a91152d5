/- Part of the proof: A small calculus of my own over the walk's 'wpIn': frames as association lists, one rule an operation. No program in sight.. -/
import Derived.WalkKit
import Derived.RangeFuncNested
import Derived.RangeFuncCalls
import Derived.Maps.AppendAt
import Derived.Deep.MidRow
import Derived.Shelf.Abstract
import Derived.Deep.Quiet
set_option linter.unusedVariables false
set_option linter.unusedSimpArgs false
namespace Go.Proofs.NV
open Go.RowKit Go.Shelf
abbrev Env := List (Nat × Value)
def rd : Env → Nat → Value
 | [], _ => undef
 | p :: r, t => bif Nat.beq p.1 t then p.2 else rd r t
def act (n : Nat) (e : Env) (ds : List Deferred) : Act := { tmps := Array.ofFn (n := n) fun i => rd e i.val, defers := ds }
def ev (n : Nat) (e : Env) : Operand → Value
 | .tmp t => bif Nat.blt t n then rd e t else undef
 | .const v => v
 | .global g => .pointer (some ⟨g, 0, none⟩)
 | .func f => .func (.func f) #[] #[]
theorem beq_false {a b : Nat} (h : a ≠ b) : Nat.beq a b = false := by
 cases hb : Nat.beq a b with
 | false => rfl
 | true => exact absurd (Nat.eq_of_beq_eq_true hb) h
theorem act_eval (n : Nat) (e : Env) (ds : List Deferred) : (act n e ds).eval = ev n e := by
 funext x
 cases x with
 | tmp t =>
  simp only [Act.eval, act, ev, Array.getD_eq_getD_getElem?, Array.getElem?_ofFn]
  by_cases h : t < n
  ·have hb : Nat.blt t n = true := by rw [Nat.blt_eq]; exact h
   rw [hb]; simp [h]
  ·have hb : Nat.blt t n = false := by rw [Bool.eq_false_iff, ne_eq, Nat.blt_eq]; exact h
   rw [hb]; simp [h]
 | const v => rfl
 | global g => rfl
 | func f => rfl
theorem act_put (n : Nat) (e : Env) (ds : List Deferred) (d : Nat) (v : Value) : (act n e ds).put (some d) v = act n ((d, v) :: e) ds := by
 simp only [Act.put, act, Act.mk.injEq, and_true]
 apply Array.ext
 ·simp
 ·intro i h1 h2
  simp only [Array.size_setIfInBounds, Array.size_ofFn] at h1
  rw [Array.getElem_ofFn]
  by_cases h : d = i
  ·subst h
   rw [Array.getElem_setIfInBounds_self]
   simp [rd]
  ·rw [Array.getElem_setIfInBounds_ne (by simpa using h1) h, Array.getElem_ofFn]
   have : Nat.beq d i = false := beq_false h
   simp [rd, this]
theorem act_put_none (n : Nat) (e : Env) (ds : List Deferred) (v : Value) : (act n e ds).put none v = act n e ds := rfl
def ins : Nat → List Value → Env
 | _, [] => []
 | k, v :: r => (k, v) :: ins (k + 1) r
theorem rd_ins (vs : List Value) : ∀ k i, k ≤ i → rd (ins k vs) i = (vs[i - k]?).getD undef := by
 induction vs with
 | nil => intro k i h; simp [ins, rd]
 | cons v r ih =>
  intro k i h
  simp only [ins, rd]
  by_cases hk : k = i
  ·subst hk; simp
  ·have : Nat.beq k i = false := beq_false hk
   rw [this, cond_false, ih (k + 1) i (by omega)]
   have : i - k = (i - (k + 1)) + 1 := by omega
   rw [this, List.getElem?_cons_succ]
theorem act_start (n : Nat) (vs : List Value) (h : vs.length ≤ n) : ({ tmps := vs.toArray ++ Array.replicate (n - vs.toArray.size) undef, defers := [] } : Act) = act n (ins 0 vs) [] := by
 simp only [act, Act.mk.injEq, and_true]
 apply Array.ext
 ·simp; omega
 ·intro i h1 h2
  simp only [Array.size_ofFn] at h2
  rw [Array.getElem_ofFn, rd_ins vs 0 i (Nat.zero_le _), Nat.sub_zero]
  by_cases hi : i < vs.length
  ·rw [Array.getElem_append_left (by simpa using hi)]
   simp [List.getElem?_eq_getElem hi]
  ·rw [Array.getElem_append_right (by simpa using hi)]
   simp [List.getElem?_eq_none (Nat.le_of_not_lt hi)]
def Fw (r : Option Nat) : Fence := { Fence.wide with round := r }
theorem Fw_none : Fw none = Fence.wide := rfl
theorem room_Fw (r : Option Nat) (n : Nat) : (Fw r).room n := fun _ h => by simp [Fw, Fence.wide] at h
def wl (r : Option Nat) (P : Program) (ops : Array Oper) (Q : Exit → Act → World → Prop) : List Oper → Act → World → Prop
 | [], a, w => Q .normal a w
 | o :: rest, a, w =>
  if Region.wanted o (yielded ops a.tmps) then o.uponIn (Fw r) 0 P a (wl r P ops Q rest) Q ((o.semAt r a.eval).run P w)
  else wl r P ops Q rest (a.put o.dst undef) w
theorem wl_eq (r : Option Nat) (P : Program) (ops : Array Oper) (Q : Exit → Act → World → Prop) (l : List Oper) :
  ∀ k, (∀ j, l[j]? = ops[k + j]?) → ∀ a w, wl r P ops Q l a w → wpOpsIn (Fw r) 0 P ops Q (List.range' k l.length) a w := by
 induction l with
 | nil => intro k _ a w h; simpa [wpOpsIn, wl] using h
 | cons o l ih =>
  intro k hk a w h
  have h0 : ops[k]? = some o := by simpa using (hk 0).symm
  have ih' := ih (k + 1) (fun j => by have := hk (j + 1); simpa [Nat.add_assoc, Nat.add_comm 1 j] using this)
  simp only [List.length_cons, List.range'_succ, wpOpsIn, h0]
  simp only [wl] at h
  by_cases hw : Region.wanted o (yielded ops a.tmps) = true
  ·rw [if_pos hw] at h
   rw [if_pos hw]
   refine ⟨fun _ _ => trivial, ?_⟩
   have hrr : (Fw r).round = r := rfl
   rw [hrr]
   revert h
   generalize (o.semAt r a.eval).run P w = res
   intro h
   have hnx : ∀ a' w', wl r P ops Q l a' w' → wpOpsIn (Fw r) 0 P ops Q (List.range' (k + 1) l.length) a' w' := ih'
   cases res with
   | ok nx w' =>
    cases nx <;> simp only [Oper.uponIn] at h ⊢
    all_goals first
     | exact h.elim
     | exact hnx _ _ h
     | (obtain ⟨h1, h2, h3⟩ := h
        refine ⟨h1, h2, fun cs hc => ?_⟩
        obtain ⟨e, w'', fr, hR, hs⟩ := h3 cs hc
        refine ⟨e, w'', fr, ?_, hs⟩
        cases e with
        | returned v => exact hnx _ _ hR
        | panicked c => exact hR
        | outgrown => exact hR)
     | (obtain ⟨h1, h3⟩ := h
        refine ⟨h1, fun c cs hc => ?_⟩
        obtain ⟨v, w'', hR, hs⟩ := h3 c cs hc
        exact ⟨v, w'', hnx _ _ hR, hs⟩)
     | (obtain ⟨h1, h2, h3⟩ := h
        refine ⟨h1, h2, fun c cs hc => ?_⟩
        obtain ⟨e, w'', hR, hs⟩ := h3 c cs hc
        refine ⟨e, w'', ?_, hs⟩
        cases e with
        | returned v => exact hnx _ _ hR
        | panicked c => exact hR
        | outgrown => exact hR)
   | halt x w' => cases x <;> simp only [Oper.uponIn] at h ⊢ <;> first | exact h | exact h.elim
  ·rw [if_neg hw] at h
   rw [if_neg hw]
   exact ⟨fun _ _ => trivial, ih' _ _ h⟩
theorem s_region {r : Option Nat} {P : Program} {Q : Exit → Act → World → Prop} {a : Act} {w : World} {id : Nat} {l : List Oper}
  (h : wl r P l.toArray Q l a w) : (Code.region id l.toArray false).wpIn (Fw r) 0 P Q a w := by
 refine wpIn_region ?_
 have := wl_eq r P l.toArray Q l 0 (by simp) a w h
 rwa [List.size_toArray, List.range_eq_range']
section code
variable {r : Option Nat} {P : Program} {Q : Exit → Act → World → Prop} {n : Nat} {e : Env} {ds : List Deferred} {w : World} {a : Act}
theorem s_enter {f : FuncId} {fn : Func} {c : Code} {vs : List Value} {R : Ending → World → Prop} (hf : P.funcs[f]? = some fn) (hb : fn.body = some c) (hn : fn.ntmps = n) (hv : Nat.ble vs.length n = true)
  (h : c.wpIn (Fw none) 0 P (bodyPost P fn R) (act n (ins 0 vs) []) w) : Calls P f vs.toArray w R := by
 refine calls_of_wp hf hb ?_
 subst hn
 rw [act_start _ _ (Nat.le_of_ble_eq_true hv)]
 exact wpIn_wide.1 h
theorem s_seq {x y : Code} (h : ∀ K : Act → World → Prop, (∀ a w, y.wpIn (Fw r) 0 P Q a w → K a w) → x.wpIn (Fw r) 0 P (Exit.then K Q) a w) : (Code.seq x y).wpIn (Fw r) 0 P Q a w := wpIn_seq_k h
theorem s_rseq {id : Nat} {l : List Oper} {y : Code} (h : ∀ K : Act → World → Prop, (∀ a w, y.wpIn (Fw r) 0 P Q a w → K a w) → wl r P l.toArray (Exit.then K Q) l a w) : (Code.seq (Code.region id l.toArray false) y).wpIn (Fw r) 0 P Q a w := wpIn_seq_k fun K hK => s_region (h K hK)
theorem s_if {c : Operand} {x y : Code} {b : Bool} (hc : ev n e c = .bool b) (ht : b = true → x.wpIn (Fw r) 0 P Q (act n e ds) w) (hf : b = false → y.wpIn (Fw r) 0 P Q (act n e ds) w) : (Code.cond c x y).wpIn (Fw r) 0 P Q (act n e ds) w :=
 wpIn_cond_split (by rw [act_eval]; exact hc) ht hf
theorem s_ifd {c : Operand} {x y : Code} {p : Prop} {_ : Decidable p} (hc : ev n e c = .bool (decide p)) (ht : p → x.wpIn (Fw r) 0 P Q (act n e ds) w) (hf : ¬ p → y.wpIn (Fw r) 0 P Q (act n e ds) w) : (Code.cond c x y).wpIn (Fw r) 0 P Q (act n e ds) w :=
 s_if hc (fun h => ht (of_decide_eq_true h)) (fun h => hf (of_decide_eq_false h))
theorem s_block {id : Nat} {c : Code} (h : c.wpIn (Fw r) 0 P (Exit.inBlock id Q) a w) : (Code.block id c).wpIn (Fw r) 0 P Q a w := wpIn_block h
theorem s_exit {id : Nat} (h : Q (.exit id) a w) : (Code.exit id).wpIn (Fw r) 0 P Q a w := wpIn_exit h
theorem s_skip (h : Q .normal a w) : Code.skip.wpIn (Fw r) 0 P Q a w := wpIn_skip h
theorem s_ret (h : Q .ret a w) : Code.ret.wpIn (Fw none) 0 P Q a w := wpIn_ret h
def Has (e : Env) : List (Nat × Value) → Prop
 | [] => True
 | p :: r => rd e p.1 = p.2 ∧ Has e r
def Off (L : List Nat) (e' e : Env) : Prop := ∀ t, L.contains t = false → rd e' t = rd e t
def ovr (g : List (Nat × Value)) (J : List Nat) (jv : Nat → Value) (e : Env) : Env := g ++ (J.map (fun t => (t, jv t)) ++ e)
theorem off_refl {L : List Nat} {e : Env} : Off L e e := fun _ _ => rfl
theorem off_cons {L : List Nat} {e' e : Env} {k : Nat} {v : Value} (hk : L.contains k = true) (h : Off L e' e) : Off L ((k, v) :: e') e := fun t ht => by
 have hne : k ≠ t := fun he => by subst he; rw [hk] at ht; cases ht
 simp only [rd, beq_false hne, cond_false]
 exact h t ht
theorem off_trans {L : List Nat} {a b c : Env} (h : Off L a b) (k : Off L b c) : Off L a c := fun t ht => (h t ht).trans (k t ht)
theorem off_ovr {g : List (Nat × Value)} {J : List Nat} {jv : Nat → Value} {e : Env} : Off (g.map (·.1) ++ J) (ovr g J jv e) e := fun t ht => by
 unfold ovr
 have hJ : rd (J.map (fun t => (t, jv t)) ++ e) t = rd e t := by
  have hnj : t ∉ J := fun hm => by
   have : (g.map (·.1) ++ J).contains t = true := by simp [hm]
   rw [this] at ht; cases ht
  clear ht
  induction J with
  | nil => rfl
  | cons k J ih =>
   have hk : k ≠ t := fun he => hnj (by simp [he])
   simp only [List.map_cons, List.cons_append, rd, beq_false hk, cond_false]
   exact ih (fun hm => hnj (List.mem_cons_of_mem _ hm))
 have hng : t ∉ g.map (·.1) := fun hm => by
  have : (g.map (·.1) ++ J).contains t = true := by simp only [List.contains_eq_mem, List.mem_append, hm, true_or, decide_true]
  rw [this] at ht; cases ht
 clear ht
 induction g with
 | nil => exact hJ
 | cons p g ih =>
  have hk : p.1 ≠ t := fun he => hng (by simp [he])
  simp only [List.cons_append, rd, beq_false hk, cond_false]
  exact ih (fun hm => hng (by simp only [List.map_cons]; exact List.mem_cons_of_mem _ hm))
theorem act_ovr {n : Nat} {ds : List Deferred} {g : List (Nat × Value)} {J : List Nat} {e' e : Env} (ho : Off (g.map (·.1) ++ J) e' e) (hh : Has e' g) : act n e' ds = act n (ovr g J (rd e') e) ds := by
 have key : ∀ t, rd e' t = rd (ovr g J (rd e') e) t := by
  intro t
  unfold ovr
  have hJ : (t ∈ J ∨ rd e' t = rd e t) → rd e' t = rd (J.map (fun t => (t, rd e' t)) ++ e) t := by
   clear ho
   induction J with
   | nil => rintro (h | h); cases h; exact h
   | cons k J ih =>
    intro h
    simp only [List.map_cons, List.cons_append, rd]
    by_cases hk : k = t
    ·subst hk; simp
    ·rw [beq_false hk, cond_false]
     refine ih (h.imp (fun hm => ?_) id)
     rcases List.mem_cons.1 hm with h | h
     ·exact absurd h.symm hk
     ·exact h
  have hG : ∀ g : List (Nat × Value), Has e' g → (t ∈ g.map (·.1) ∨ t ∈ J ∨ rd e' t = rd e t) → rd e' t = rd (g ++ (J.map (fun t => (t, rd e' t)) ++ e)) t := by
   intro g
   induction g with
   | nil =>
    intro _ h
    exact hJ (h.resolve_left (by simp))
   | cons p g ih =>
    intro hh h
    simp only [List.cons_append, rd]
    by_cases hk : p.1 = t
    ·subst hk; simp [hh.1]
    ·rw [beq_false hk, cond_false]
     refine ih hh.2 (h.imp (fun hm => ?_) id)
     rcases List.mem_cons.1 hm with h | h
     ·exact absurd h.symm hk
     ·exact h
  refine hG g hh ?_
  by_cases h1 : t ∈ g.map (·.1)
  ·exact .inl h1
  ·by_cases h2 : t ∈ J
   ·exact .inr (.inl h2)
   ·exact .inr (.inr (ho t (by simp only [List.contains_eq_mem, List.mem_append, h1, h2, or_self, decide_false])))
 simp only [act, Act.mk.injEq, and_true]
 congr 1
 funext i
 exact key i.val
def Mid {G : Type} (n : Nat) (ds : List Deferred) (L : List Nat) (vals : G → List (Nat × Value)) (I : G → World → Prop) (e : Env) : Act → World → Prop :=
 fun a' w' => ∃ e' g, a' = act n e' ds ∧ Off L e' e ∧ Has e' (vals g) ∧ I g w'
theorem mid {G : Type} {L : List Nat} {vals : G → List (Nat × Value)} {I : G → World → Prop} {e e' : Env} (g : G) (ho : Off L e' e) (hh : Has e' (vals g)) (hI : I g w) : Exit.then (Mid n ds L vals I e) Q .normal (act n e' ds) w := ⟨e', g, rfl, ho, hh, hI⟩
theorem s_mid {G : Type} (vals : G → List (Nat × Value)) (Ks J : List Nat) (I : G → World → Prop) (hKs : ∀ g, (vals g).map (·.1) = Ks) {x y : Code}
  (h1 : x.wpIn (Fw r) 0 P (Exit.then (Mid n ds (Ks ++ J) vals I e) Q) (act n e ds) w)
  (h2 : ∀ g jv w', I g w' → y.wpIn (Fw r) 0 P Q (act n (ovr (vals g) J jv e) ds) w') : (Code.seq x y).wpIn (Fw r) 0 P Q (act n e ds) w :=
 wpIn_seq_k fun K hK => wpIn_mono h1 fun ex a w hq => by
  cases ex with
  | normal =>
   obtain ⟨e', g, rfl, ho, hh, hI⟩ := hq
   refine hK _ _ ?_
   rw [act_ovr (J := J) (by rw [hKs g]; exact ho) hh]
   exact h2 g _ _ hI
  | _ => exact hq
theorem least {p : Nat → Prop} (h : ∃ m, p m) : ∃ m, p m ∧ ∀ k, p k → m ≤ k := by
 obtain ⟨m, hm⟩ := h
 induction m using Nat.strongRecOn with
 | _ m ih =>
  by_cases hx : ∃ k, k < m ∧ p k
  ·obtain ⟨k, hk, hp⟩ := hx
   exact ih k hk hp
  ·exact ⟨m, hm, fun k hp => Nat.le_of_not_lt fun hlt => hx ⟨k, hlt, hp⟩⟩
theorem s_loop {G : Type} (vals : G → List (Nat × Value)) (Ks J : List Nat) (I : G → World → Prop) (μ : G → Nat) (hK : ∀ g, (vals g).map (·.1) = Ks) (g0 : G) (h0 : Has e (vals g0)) (hI : I g0 w) {c : Code}
  (hr : ∀ g jv w', I g w' → c.wpIn (Fw r) 0 P (Exit.then (Mid n ds (Ks ++ J) vals (fun g' w'' => I g' w'' ∧ μ g' < μ g) (ovr (vals g) J jv e)) Q) (act n (ovr (vals g) J jv e) ds) w') :
  (Code.loop c).wpIn (Fw r) 0 P Q (act n e ds) w := by
 have key : ∀ (g : G) (e1 : Env) (w' : World), Off (Ks ++ J) e1 e → Has e1 (vals g) → I g w' → (Code.loop c).wpIn (Fw r) 0 P Q (act n e1 ds) w' := by
  intro g e1 w' ho hh hi
  refine wpIn_loop (fun a' w'' => ∃ e' g', a' = act n e' ds ∧ Off (Ks ++ J) e' e ∧ Has e' (vals g') ∧ I g' w'') (fun a' w'' => @dite Nat (∃ m, ∃ e' g', a' = act n e' ds ∧ Off (Ks ++ J) e' e ∧ Has e' (vals g') ∧ I g' w'' ∧ μ g' = m) (Classical.propDecidable _) (fun h => Classical.choose (least h)) (fun _ => 0)) ⟨e1, g, rfl, ho, hh, hi⟩ ?_
  intro a' w'' hst
  have hex : ∃ m, ∃ e' g', a' = act n e' ds ∧ Off (Ks ++ J) e' e ∧ Has e' (vals g') ∧ I g' w'' ∧ μ g' = m := by
   obtain ⟨e', g', h1, h2, h3, h4⟩ := hst
   exact ⟨_, e', g', h1, h2, h3, h4, rfl⟩
  rw [dif_pos hex]
  obtain ⟨e', g', rfl, h2, h3, h4, h5⟩ := (Classical.choose_spec (least hex)).1
  rw [← h5, act_ovr (J := J) (by rw [hK g']; exact h2) h3]
  refine wpIn_mono (hr g' (rd e') w'' h4) fun ex a3 w3 hq => ?_
  cases ex with
  | normal =>
   obtain ⟨e4, g4, rfl, k2, k3, k4, k5⟩ := hq
   have k2' : Off (Ks ++ J) e4 e := off_trans k2 (by have := off_ovr (g := vals g') (J := J) (jv := rd e') (e := e); rwa [hK g'] at this)
   have hex' : ∃ m, ∃ e' g', act n e4 ds = act n e' ds ∧ Off (Ks ++ J) e' e ∧ Has e' (vals g') ∧ I g' w3 ∧ μ g' = m := ⟨_, e4, g4, rfl, k2', k3, k4, rfl⟩
   refine ⟨⟨e4, g4, rfl, k2', k3, k4⟩, ?_⟩
   rw [dif_pos hex']
   exact Nat.lt_of_le_of_lt ((Classical.choose_spec (least hex')).2 _ ⟨e4, g4, rfl, k2', k3, k4, rfl⟩) k5
  | _ => exact hq
 exact key g0 e w off_refl h0 hI
end code
def Sc (P : Program) (t : TypeId) : Prop := (∃ d, P.underlying t = some d ∧ d.isRow = false) ∧ (P.info? t).map (·.size) = some 1
def Ag (P : Program) (t : TypeId) (k : Nat) : Prop := (∃ d, P.underlying t = some d ∧ d.isRow = true) ∧ (P.info? t).map (·.size) = some k
def Ze (P : Program) (t : TypeId) (z : Value) : Prop := (P.info? t).bind (·.zero) = some z
def Fld (P : Program) (s : TypeId) (f off : Nat) : Prop := ∀ a w, (Instr.fieldAt s (.pointer (some a)) f).run P w = .ok (.pointer (some (a.add off))) w
def Slt (P : Program) (t et sz : Nat) : Prop := P.underlying t = some (.slice et) ∧ (P.info? et).map (·.size) = some sz
def Ent (P : Program) (f : FuncId) : Prop := ∀ args w, (callFunc f args).run P w = .ok (.enter f args) w
def Blk (w : World) (b : Nat) (cs : List Value) (t : TypeId) : Prop := w.heap[b]? = some (.cells cs.toArray t (0, 0))
theorem Blk.lt {w : World} {b : Nat} {cs : List Value} {t : TypeId} (h : Blk w b cs t) : b < w.heap.size := (Array.getElem?_eq_some_iff.1 h).1
theorem Blk.step {w w' : World} {b : Nat} {cs : List Value} {t : TypeId} {row : Option Nat} (h : Blk w b cs t) (hg : w.grownBy w' row) (hr : some b ≠ row) : Blk w' b cs t := (hg.block b h.lt hr).trans h
theorem Blk.cell {w : World} {b : Nat} {cs : List Value} {t : TypeId} (h : Blk w b cs t) (o : Nat) : w.cell? ⟨b, o, none⟩ = cs[o]? := by
 rw [cell_of_row w b o cs.toArray t (0, 0) h]; simp
theorem Blk.range {w : World} {b : Nat} {cs : List Value} {t : TypeId} (h : Blk w b cs t) (o k : Nat) : w.rangeAt b o ((cs.drop o).take k) := fun j v hv => by
 rw [h.cell]
 rw [List.getElem?_take] at hv
 split at hv
 ·rwa [List.getElem?_drop] at hv
 ·cases hv
theorem grown_refl (w : World) (row : Option Nat) : w.grownBy w row := World.grownBy.refl w row
theorem grown_below {w w' : World} (h : Below w.heap.size w w') (row : Option Nat) : w.grownBy w' row := ⟨h.os, h.tape, h.output, h.size, fun i hi _ => h.block i hi⟩
theorem below_grown {w w' : World} (h : w.grownBy w' none) : Below w.heap.size w w' := ⟨h.os, h.tape, h.output, h.size, fun i hi => h.block i hi (by simp)⟩
theorem grown_drewN (w : World) (k : Nat) (row : Option Nat) : w.grownBy (w.drewN k) row := ⟨rfl, rfl, rfl, Nat.le_refl _, fun _ _ _ => rfl⟩
theorem cell0 {w w' : World} {a : Addr} {v : Value} (hg : w.grownBy w' none) (h : w.cell? a = some v) : w'.cell? a = some v :=
 (World.cell?_of_block (w := w) (a := a) (hg.block _ (World.block_lt_of_cell? w a h) (by simp))).trans h
theorem range0 {w w' : World} {b o : Nat} {cs : List Value} (hg : w.grownBy w' none) (h : w.rangeAt b o cs) : w'.rangeAt b o cs := fun j v hv => cell0 hg (h j v hv)
def Gr (w : World) : World → Prop := fun w' => w.grownBy w' none
section ops
variable {r : Option Nat} {P : Program} {ops : Array Oper} {Q : Exit → Act → World → Prop} {rest : List Oper} {n : Nat} {e : Env} {ds : List Deferred} {w : World} {d : Nat} {ty : TypeId} {ps : String} {af : Array Edge}
theorem o_end {a : Act} (h : Q .normal a w) : wl r P ops Q [] a w := h
theorem o_val {op : Op} {v : Value} {w' : World} (hd : ∀ c, op ≠ .defer c) (hrun : (execOp (ev n e) ⟨some d, op, ty, ps, af, none⟩).run P w = .ok (.value v) w') (h : wl r P ops Q rest (act n ((d, v) :: e) ds) w') :
  wl r P ops Q (⟨some d, op, ty, ps, af, none⟩ :: rest) (act n e ds) w := by
 simp only [wl]
 rw [if_pos (by rfl), Oper.semAt_eq _ _ _ hd, act_eval, hrun]
 simp only [Oper.uponIn]
 rw [act_put]
 exact h
theorem o_none {op : Op} {w' : World} (hd : ∀ c, op ≠ .defer c) (hrun : (execOp (ev n e) ⟨none, op, ty, ps, af, none⟩).run P w = .ok .skip w') (h : wl r P ops Q rest (act n e ds) w') :
  wl r P ops Q (⟨none, op, ty, ps, af, none⟩ :: rest) (act n e ds) w := by
 simp only [wl]
 rw [if_pos (by rfl), Oper.semAt_eq _ _ _ hd, act_eval, hrun]
 simp only [Oper.uponIn]
 exact h
theorem o_v {op : Op} {v : Value} (hrun : (execOp (ev n e) ⟨some d, op, ty, ps, af, none⟩).run P w = .ok (.value v) w) (h : wl r P ops Q rest (act n ((d, v) :: e) ds) w) (hd : ∀ c, op ≠ .defer c := by intro _ h; cases h) :
  wl r P ops Q (⟨some d, op, ty, ps, af, none⟩ :: rest) (act n e ds) w := o_val hd hrun h
theorem v_move {x : Operand} :
  (execOp (ev n e) ⟨some d, .move x, ty, ps, af, none⟩).run P w = .ok (.value (ev n e x)) w := by simp [execOp]
theorem v_assign {x : Operand} :
  (execOp (ev n e) ⟨some d, .assign x, ty, ps, af, none⟩).run P w = .ok (.value (ev n e x)) w := by simp [execOp]
theorem v_pick_t {c x y : Operand} {b : Bool} (hc : ev n e c = .bool b) (hb : b = true) :
  (execOp (ev n e) ⟨some d, .pick c x y, ty, ps, af, none⟩).run P w = .ok (.value (ev n e x)) w := by subst hb; simp [execOp, hc, asBool]
theorem v_pick_f {c x y : Operand} {b : Bool} (hc : ev n e c = .bool b) (hb : b = false) :
  (execOp (ev n e) ⟨some d, .pick c x y, ty, ps, af, none⟩).run P w = .ok (.value (ev n e y)) w := by subst hb; simp [execOp, hc, asBool]
theorem v_pick {c x y : Operand} {b : Bool} (hc : ev n e c = .bool b) :
  (execOp (ev n e) ⟨some d, .pick c x y, ty, ps, af, none⟩).run P w = .ok (.value (bif b then ev n e x else ev n e y)) w := by cases b <;> simp [execOp, hc, asBool]
theorem run_bin {op : BinOp} {t yt : TypeId} {x y : Operand} {k k' : IntKind} {a b : Int} (hx : ev n e x = .int k a) (hy : ev n e y = .int k' b) :
  (execOp (ev n e) ⟨some d, .binOp op t x y yt, ty, ps, af, none⟩).run P w = ((binOp op t (.int k a) (.int k' b)).run P w).andThen fun v w => .ok (.value v) w := by
 simp only [execOp, hx, hy, Sem.run_bind, Sem.run_pure, eqGuard]
 cases op <;> simp [Result.andThen]
section
variable {t yt : TypeId} {x y : Operand} {k k' : IntKind} {a b : Int}
theorem v_add (hx : ev n e x = .int .i64 a) (hy : ev n e y = .int .i64 b) (hb : -9223372036854775808 ≤ a + b ∧ a + b ≤ 9223372036854775807) :
  (execOp (ev n e) ⟨some d, .binOp .add t x y yt, ty, ps, af, none⟩).run P w = .ok (.value (.int .i64 (a + b))) w := by rw [run_bin hx hy]; simp [binOp, Op.intArith, Result.andThen, IntWalk.i64_in _ hb]
theorem v_sub (hx : ev n e x = .int .i64 a) (hy : ev n e y = .int .i64 b) (hb : -9223372036854775808 ≤ a - b ∧ a - b ≤ 9223372036854775807) :
  (execOp (ev n e) ⟨some d, .binOp .sub t x y yt, ty, ps, af, none⟩).run P w = .ok (.value (.int .i64 (a - b))) w := by rw [run_bin hx hy]; simp [binOp, Op.intArith, Result.andThen, IntWalk.i64_in _ hb]
theorem v_mul (hx : ev n e x = .int .i64 a) (hy : ev n e y = .int .i64 b) (hb : -9223372036854775808 ≤ a * b ∧ a * b ≤ 9223372036854775807) :
  (execOp (ev n e) ⟨some d, .binOp .mul t x y yt, ty, ps, af, none⟩).run P w = .ok (.value (.int .i64 (a * b))) w := by rw [run_bin hx hy]; simp [binOp, Op.intArith, Result.andThen, IntWalk.i64_in _ hb]
theorem v_addw (hx : ev n e x = .int k a) (hy : ev n e y = .int k b) :
  (execOp (ev n e) ⟨some d, .binOp .add t x y yt, ty, ps, af, none⟩).run P w = .ok (.value (.int k (k.wrap (a + b)))) w := by rw [run_bin hx hy]; simp [binOp, Op.intArith, Result.andThen]
theorem v_lss (hx : ev n e x = .int k a) (hy : ev n e y = .int k b) :
  (execOp (ev n e) ⟨some d, .binOp .lss t x y yt, ty, ps, af, none⟩).run P w = .ok (.value (.bool (decide (a < b)))) w := by rw [run_bin hx hy]; simp [binOp, Op.intCmp, Result.andThen]
theorem v_leq (hx : ev n e x = .int k a) (hy : ev n e y = .int k b) :
  (execOp (ev n e) ⟨some d, .binOp .leq t x y yt, ty, ps, af, none⟩).run P w = .ok (.value (.bool (decide (a ≤ b)))) w := by rw [run_bin hx hy]; simp [binOp, Op.intCmp, Result.andThen]
theorem v_gtr (hx : ev n e x = .int k a) (hy : ev n e y = .int k b) :
  (execOp (ev n e) ⟨some d, .binOp .gtr t x y yt, ty, ps, af, none⟩).run P w = .ok (.value (.bool (decide (b < a)))) w := by rw [run_bin hx hy]; simp [binOp, Op.intCmp, Result.andThen]
theorem v_geq (hx : ev n e x = .int k a) (hy : ev n e y = .int k b) :
  (execOp (ev n e) ⟨some d, .binOp .geq t x y yt, ty, ps, af, none⟩).run P w = .ok (.value (.bool (decide (b ≤ a)))) w := by rw [run_bin hx hy]; simp [binOp, Op.intCmp, Result.andThen]
theorem v_eql (hx : ev n e x = .int k a) (hy : ev n e y = .int k b) :
  (execOp (ev n e) ⟨some d, .binOp .eql t x y yt, ty, ps, af, none⟩).run P w = .ok (.value (.bool (decide (a = b)))) w := by rw [run_bin hx hy]; simp only [binOp, Op.intCmp, Result.andThen, Sem.run_pure, ne_eq, not_true_eq_false, ite_false]; rw [show (a == b) = decide (a = b) from rfl]
theorem v_neq (hx : ev n e x = .int k a) (hy : ev n e y = .int k b) :
  (execOp (ev n e) ⟨some d, .binOp .neq t x y yt, ty, ps, af, none⟩).run P w = .ok (.value (.bool (decide (a ≠ b)))) w := by rw [run_bin hx hy]; simp only [binOp, Op.intCmp, Result.andThen, Sem.run_pure, ne_eq, not_true_eq_false, ite_false]; rw [show (a != b) = decide (¬ a = b) by rw [bne, decide_not]; rfl]
theorem v_shr (hx : ev n e x = .int k a) (hy : ev n e y = .int k' b) (hb : 0 ≤ b) :
  (execOp (ev n e) ⟨some d, .binOp .shr t x y yt, ty, ps, af, none⟩).run P w = .ok (.value (.int k (a.fdiv (2 ^ min b.toNat k.bits)))) w := by rw [run_bin hx hy]; simp [binOp, Op.shift, Result.andThen, Int.not_lt.2 hb]
theorem v_shl (hx : ev n e x = .int k a) (hy : ev n e y = .int k' b) (hb : 0 ≤ b) :
  (execOp (ev n e) ⟨some d, .binOp .shl t x y yt, ty, ps, af, none⟩).run P w = .ok (.value (.int k (k.wrap (a * 2 ^ min b.toNat k.bits)))) w := by rw [run_bin hx hy]; simp [binOp, Op.shift, Result.andThen, Int.not_lt.2 hb]
theorem v_not {b : Bool} (hx : ev n e x = .bool b) :
  (execOp (ev n e) ⟨some d, .unOp .not t x, ty, ps, af, none⟩).run P w = .ok (.value (.bool (!b))) w := by simp [execOp, hx, Op.unary]
theorem v_notd {p : Prop} {_ : Decidable p} (hx : ev n e x = .bool (decide p)) :
  (execOp (ev n e) ⟨some d, .unOp .not t x, ty, ps, af, none⟩).run P w = .ok (.value (.bool (decide (¬ p)))) w := by
 rw [v_not hx]; simp
end
theorem g_yes {l : List Oper} {op : Op} {dd : Option Nat} {j s : Nat} {b x : Bool} (hj : (l[j]?).bind (·.dst) = some s) (hs : Nat.blt s n = true) (hv : rd e s = .bool x) (hx : x = b)
  (h : wl r P l.toArray Q (⟨dd, op, ty, ps, af, none⟩ :: rest) (act n e ds) w) : wl r P l.toArray Q (⟨dd, op, ty, ps, af, some (j, b)⟩ :: rest) (act n e ds) w := by
 have hw : Region.wanted ⟨dd, op, ty, ps, af, some (j, b)⟩ (yielded l.toArray (act n e ds).tmps) = true := by
  have hsl : s < n := by rw [Nat.blt_eq] at hs; exact hs
  simp only [Region.wanted, yielded, List.getElem?_toArray, hj, Option.bind_some]
  have : (act n e ds).tmps[s]? = some (.bool x) := by simp [act, hsl, hv]
  rw [this]; simp [hx]
 simp only [wl] at h ⊢
 rw [if_pos hw]
 rw [if_pos (by rfl)] at h
 exact h
theorem g_no {l : List Oper} {op : Op} {dd : Nat} {j s : Nat} {b x : Bool} (hj : (l[j]?).bind (·.dst) = some s) (hs : Nat.blt s n = true) (hv : rd e s = .bool x) (hx : x = !b)
  (h : wl r P l.toArray Q rest (act n ((dd, undef) :: e) ds) w) : wl r P l.toArray Q (⟨some dd, op, ty, ps, af, some (j, b)⟩ :: rest) (act n e ds) w := by
 have hw : Region.wanted ⟨some dd, op, ty, ps, af, some (j, b)⟩ (yielded l.toArray (act n e ds).tmps) = false := by
  have hsl : s < n := by rw [Nat.blt_eq] at hs; exact hs
  simp only [Region.wanted, yielded, List.getElem?_toArray, hj, Option.bind_some]
  have : (act n e ds).tmps[s]? = some (.bool x) := by simp [act, hsl, hv]
  rw [this]; subst hx; cases b <;> rfl
 simp only [wl]
 rw [hw, act_put]
 exact h
theorem g_un {l : List Oper} {op : Op} {dd : Nat} {j s : Nat} {b : Bool} (hj : (l[j]?).bind (·.dst) = some s) (hs : Nat.blt s n = true) (hv : rd e s = undef)
  (h : wl r P l.toArray Q rest (act n ((dd, undef) :: e) ds) w) : wl r P l.toArray Q (⟨some dd, op, ty, ps, af, some (j, b)⟩ :: rest) (act n e ds) w := by
 have hw : Region.wanted ⟨some dd, op, ty, ps, af, some (j, b)⟩ (yielded l.toArray (act n e ds).tmps) = false := by
  have hsl : s < n := by rw [Nat.blt_eq] at hs; exact hs
  simp only [Region.wanted, yielded, List.getElem?_toArray, hj, Option.bind_some]
  have : (act n e ds).tmps[s]? = some undef := by simp [act, hsl, hv]
  rw [this]; cases b <;> rfl
 simp only [wl]
 rw [hw, act_put]
 exact h
theorem o_mid {G : Type} (m : Nat) (vals : G → List (Nat × Value)) (Ks J : List Nat) (I : G → World → Prop) (hKs : ∀ g, (vals g).map (·.1) = Ks) {l : List Oper}
  (h1 : wl r P ops (Exit.then (Mid n ds (Ks ++ J) vals I e) Q) (l.take m) (act n e ds) w)
  (h2 : ∀ g jv w', I g w' → wl r P ops Q (l.drop m) (act n (ovr (vals g) J jv e) ds) w') : wl r P ops Q l (act n e ds) w := by
 have h2' : ∀ a w, Mid n ds (Ks ++ J) vals I e a w → wl r P ops Q (l.drop m) a w := by
  rintro a w ⟨e', g, rfl, ho, hh, hI⟩
  rw [act_ovr (J := J) (by rw [hKs g]; exact ho) hh]
  exact h2 g _ _ hI
 clear h2
 revert h1
 generalize act n e ds = a
 generalize Mid n ds (Ks ++ J) vals I e = M at *
 intro h1
 induction m generalizing l a w with
 | zero => exact h2' a w h1
 | succ m ih =>
  cases l with
  | nil => exact h2' a w h1
  | cons o l =>
   simp only [List.take_succ_cons, List.drop_succ_cons] at h1 h2'
   have hnx : ∀ a' w', wl r P ops (Exit.then M Q) (l.take m) a' w' → wl r P ops Q l a' w' := fun a' w' hh => ih a' h2' hh
   simp only [wl] at h1 ⊢
   by_cases hw : Region.wanted o (yielded ops a.tmps) = true
   ·rw [if_pos hw] at h1
    rw [if_pos hw]
    revert h1
    generalize (o.semAt r a.eval).run P w = res
    intro h
    have hlet : LetsOut (Exit.then M Q) → LetsOut Q := id
    cases res with
    | ok nx w' =>
     cases nx <;> simp only [Oper.uponIn] at h ⊢
     all_goals first
      | exact h.elim
      | exact hnx _ _ h
      | (obtain ⟨h1, h2, h3⟩ := h
         refine ⟨h1, h2, fun cs hc => ?_⟩
         obtain ⟨e, w'', fr, hR, hs⟩ := h3 cs hc
         refine ⟨e, w'', fr, ?_, hs⟩
         cases e with
         | returned v => exact hnx _ _ hR
         | panicked c => exact hR
         | outgrown => exact hlet hR)
      | (obtain ⟨h1, h3⟩ := h
         refine ⟨h1, fun c cs hc => ?_⟩
         obtain ⟨v, w'', hR, hs⟩ := h3 c cs hc
         exact ⟨v, w'', hnx _ _ hR, hs⟩)
      | (obtain ⟨h1, h2, h3⟩ := h
         refine ⟨h1, h2, fun c cs hc => ?_⟩
         obtain ⟨e, w'', hR, hs⟩ := h3 c cs hc
         refine ⟨e, w'', ?_, hs⟩
         cases e with
         | returned v => exact hnx _ _ hR
         | panicked c => exact hR
         | outgrown => exact hlet hR)
    | halt x w' => cases x <;> simp only [Oper.uponIn] at h ⊢ <;> first | exact h | exact h.elim
   ·rw [if_neg hw] at h1
    rw [if_neg hw]
    exact hnx _ _ h1
theorem o_box {t : TypeId} {x : Operand} {cs : List Value} (hv : (ev n e x).cells.toList = cs) (h : ∀ w', Blk w' w.heap.size cs t → w.grownBy w' none → w'.heap.size = w.heap.size + 1 → wl r P ops Q rest (act n ((d, .pointer (some ⟨w.heap.size, 0, none⟩)) :: e) ds) w') :
  wl r P ops Q (⟨some d, .box t x, ty, ps, af, none⟩ :: rest) (act n e ds) w := by
 refine o_val (fun _ => by simp) (w' := w.alloc (.cells cs.toArray t)) (v := .pointer (some ⟨w.heap.size, 0, none⟩)) ?_ (h _ (World.alloc_heap_new w _) (World.grownBy_alloc w _ _) (World.size_alloc _ _))
 have : (ev n e x).cells = cs.toArray := by rw [← hv]
 simp [execOp, Instr.box, newVar, newRow, this]
theorem o_alloc {t : TypeId} {z : Value} {cs : List Value} (hz : Ze P t z) (hv : z.cells.toList = cs) (h : ∀ w', Blk w' w.heap.size cs t → w.grownBy w' none → w'.heap.size = w.heap.size + 1 → wl r P ops Q rest (act n ((d, .pointer (some ⟨w.heap.size, 0, none⟩)) :: e) ds) w') :
  wl r P ops Q (⟨some d, .alloc t, ty, ps, af, none⟩ :: rest) (act n e ds) w := by
 refine o_val (fun _ => by simp) (w' := w.alloc (.cells cs.toArray t)) (v := .pointer (some ⟨w.heap.size, 0, none⟩)) ?_ (h _ (World.alloc_heap_new w _) (World.grownBy_alloc w _ _) (World.size_alloc _ _))
 have hc : z.cells = cs.toArray := by rw [← hv]
 obtain ⟨i, hi, hz⟩ := Option.bind_eq_some_iff.1 hz
 have hzv : (zeroValue t).run P w = .ok z w := by simp [zeroValue, typeInfo, hi, hz]
 simp [execOp, Instr.alloc, newVar, newRow, hzv, hc]
theorem run_loadAt_sc {t : TypeId} {a : Addr} {v : Value} (hs : Sc P t) (hc : w.cell? a = some v) : (Instr.loadAt t (.pointer (some a))).run P w = .ok v w := by
 obtain ⟨⟨dd, hu, hd⟩, _⟩ := hs
 have hagg : (isAgg t).run P w = .ok false w := by
  unfold isAgg
  rw [Sem.run_bind, run_underlying hu w]
  cases dd <;> simp_all
 simp [Instr.loadAt, Instr.sureAddr, loadVar, Sem.run_bind, hagg, Result.andThen, hc]
theorem v_loadC {t : TypeId} {x : Operand} {a : Addr} {v : Value} (hp : ev n e x = .pointer (some a)) (hs : Sc P t) (hc : w.cell? a = some v) :
  (execOp (ev n e) ⟨some d, .load t x, ty, ps, af, none⟩).run P w = .ok (.value (v)) w := by simp [execOp, hp, run_loadAt_sc hs hc]
theorem v_loadB {t bt : TypeId} {x : Operand} {b o : Nat} {cs : List Value} {v : Value} (hp : ev n e x = .pointer (some ⟨b, o, none⟩)) (hs : Sc P t) (hb : Blk w b cs bt) (hv : cs[o]? = some v) :
  (execOp (ev n e) ⟨some d, .load t x, ty, ps, af, none⟩).run P w = .ok (.value v) w :=
 v_loadC hp hs ((hb.cell o).trans hv)
theorem v_loadR {t : TypeId} {x : Operand} {b o k : Nat} {cs : List Value} (hp : ev n e x = .pointer (some ⟨b, o, none⟩)) (hs : Ag P t k) (hc : w.rangeAt b o cs) (hk : cs.length = k) :
  (execOp (ev n e) ⟨some d, .load t x, ty, ps, af, none⟩).run P w = .ok (.value (.agg cs.toArray)) w := by
 obtain ⟨⟨dd, hu, hd⟩, hsz⟩ := hs
 simp [execOp, hp, run_loadAt_mid w b o t cs dd hc hu hd (by rw [hsz, hk])]
theorem v_loadBS {t bt : TypeId} {x : Operand} {b o k : Nat} {cs vs : List Value} (hp : ev n e x = .pointer (some ⟨b, o, none⟩)) (hs : Ag P t k) (hb : Blk w b cs bt) (hv : (cs.drop o).take k = vs) (hk : vs.length = k) :
  (execOp (ev n e) ⟨some d, .load t x, ty, ps, af, none⟩).run P w = .ok (.value (.agg vs.toArray)) w := by
 subst hv
 exact v_loadR hp hs (hb.range o k) hk
theorem setCells_blk {b : Nat} {t : TypeId} (vs : List Value) : ∀ {w : World} {cs : List Value} (o : Nat), Blk w b cs t → o + vs.length ≤ cs.length →
  Blk (w.setCells b o vs) b (cs.take o ++ vs ++ cs.drop (o + vs.length)) t := by
 induction vs with
 | nil => intro w cs o hb _; simpa [World.setCells] using hb
 | cons v vs ih =>
  intro w cs o hb hlen
  simp only [List.length_cons] at hlen
  rw [World.setCells]
  have hb1 : Blk (w.setCell ⟨b, o, none⟩ v) b (cs.set o v) t := by
   unfold Blk at hb ⊢
   simp only [World.setCell, Array.getElem?_modify, if_true, hb, Option.map_some]
   simp
  have := ih (o + 1) hb1 (by simp; omega)
  have e1 : (cs.set o v).take (o + 1) = cs.take o ++ [v] := by
   rw [List.take_succ_eq_append_getElem (by simp; omega), List.take_set, List.set_eq_of_length_le (by simp; omega)]
   simp
  have e2 : (cs.set o v).drop (o + 1 + vs.length) = cs.drop (o + 1 + vs.length) := by
   rw [List.drop_set_of_lt (by omega)]
  rw [e1, e2] at this
  simpa [Nat.add_assoc, Nat.add_comm 1] using this
theorem setCells_grown (b : Nat) (vs : List Value) : ∀ (o : Nat) (w : World), w.grownBy (w.setCells b o vs) (some b) ∧ (w.setCells b o vs).heap.size = w.heap.size := by
 induction vs with
 | nil => intro o w; exact ⟨World.grownBy.refl _ _, rfl⟩
 | cons v vs ih =>
  intro o w
  rw [World.setCells]
  obtain ⟨h1, h2⟩ := ih (o + 1) (w.setCell ⟨b, o, none⟩ v)
  have h3 : (w.setCell ⟨b, o, none⟩ v).heap.size = w.heap.size := by simp [World.setCell]
  have h0 : w.grownBy (w.setCell ⟨b, o, none⟩ v) (some b) := ⟨rfl, rfl, rfl, by rw [h3]; exact Nat.le_refl _, fun k hk hne => Below.heap_setCell _ _ _ _ (fun he => hne (by rw [he]))⟩
  exact ⟨World.grownBy.trans h0 h1, by rw [h2, h3]⟩
def over (cs : List Value) (o : Nat) (vs : List Value) : List Value := cs.take o ++ vs ++ cs.drop (o + vs.length)
theorem o_storeB {t bt : TypeId} {x y : Operand} {b o k : Nat} {cs vs : List Value} (hp : ev n e x = .pointer (some ⟨b, o, none⟩)) (hv : (ev n e y).cells.toList = vs) (hsz : (P.info? t).map (·.size) = some k) (hk : vs.length = k)
  (hb : Blk w b cs bt) (hle : Nat.ble (o + vs.length) cs.length = true) (h1 : vs.all (·.oneCell') = true)
  (h : ∀ w', Blk w' b (over cs o vs) bt → w.grownBy w' (some b) → w'.heap.size = w.heap.size → wl r P ops Q rest (act n e ds) w') :
  wl r P ops Q (⟨none, .store t x y, ty, ps, af, none⟩ :: rest) (act n e ds) w := by
 have hle' := Nat.le_of_ble_eq_true hle
 refine o_none (fun _ => by simp) (w' := w.setCells b o vs) ?_ (h _ (setCells_blk vs o hb hle') (setCells_grown b vs o w).1 (setCells_grown b vs o w).2)
 have hc : (ev n e y).cells = vs.toArray := by rw [← hv]
 have hcl : ∀ j, j < vs.length → (w.cell? ⟨b, o + j, none⟩).isSome = true := fun j hj => by rw [hb.cell]; simp; omega
 have hfz : ∀ j, w.frozen? ⟨b, o + j, none⟩ = false := fun j => by simp only [World.frozen?]; rw [show w.heap[(⟨b, o + j, none⟩ : Addr).block]? = _ from hb]; simp
 have hst := run_storeCells_cells (P := P) b o vs 0 w (fun j hj => by simpa using hcl j hj) (fun j hj => by simpa using hfz j) (fun v hv => (List.all_eq_true.1 h1) v hv)
 simp only [Nat.add_zero] at hst
 obtain ⟨i, hi, hsz⟩ := Option.map_eq_some_iff.1 hsz
 have hne : ¬ (ev n e y).cells.size ≠ i.size := by rw [hc, List.size_toArray]; omega
 simp only [execOp, hp, Instr.storeAt, Instr.sureAddr, storeVar, sizeOf, typeInfo, hi, Sem.run_bind, Sem.run_pure, run_program, Result.andThen_ok]
 rw [if_neg (by simpa using hne)]
 rw [hc]
 simp [hst, Result.andThen]
theorem v_field {t : TypeId} {x : Operand} {f b o off : Nat} (hp : ev n e x = .pointer (some ⟨b, o, none⟩)) (hf : Fld P t f off) :
  (execOp (ev n e) ⟨some d, .fieldAddr t x f, ty, ps, af, none⟩).run P w = .ok (.value (.pointer (some ⟨b, o + off, none⟩))) w := by simp only [execOp, hp, Sem.run_bind, hf _ w, Result.andThen_ok]; rw [Addr.add_mid]; rfl
theorem run_sz {t et sz : TypeId} (ht : Slt P t et sz) : (sizeOf et).run P w = .ok sz w := by
 obtain ⟨j, hj, hs⟩ := Option.map_eq_some_iff.1 ht.2
 simp [sizeOf, typeInfo, hj, hs]
theorem v_index {t et sz : TypeId} {x y : Operand} {k : IntKind} {b o len c : Nat} {i : Int} (hx : ev n e x = .slice (some ⟨b, o, none⟩) len c) (hi : ev n e y = .int k i) (ht : Slt P t et sz) (h0 : 0 ≤ i ∧ i < len) :
  (execOp (ev n e) ⟨some d, .indexAddr t x y, ty, ps, af, none⟩).run P w = .ok (.value (.pointer (some ⟨b, o + i.toNat * sz, none⟩))) w := by
 simp [execOp, hx, hi, Instr.indexAt, asIntOf, run_underlying ht.1, run_sz ht, h0, Addr.add_mid]
theorem v_len {t : TypeId} {x : Operand} {et : TypeId} {A : Option Addr} {len c : Nat} (hx : ev n e x = .slice A len c) (ht : P.underlying t = some (.slice et)) :
  (execOp (ev n e) ⟨some d, .call { callee := .builtin .len, args := #[x], argTypes := #[t] }, ty, ps, af, none⟩).run P w = .ok (.value (.int .i64 len)) w := by simp [execOp, resolve, invoke, builtin, hx, Builtin.len_, run_underlying ht, goInt]
theorem v_lenS {t : TypeId} {x : Operand} {s : ByteArray} (hx : ev n e x = .string s) (ht : P.underlying t = some .string) :
  (execOp (ev n e) ⟨some d, .call { callee := .builtin .len, args := #[x], argTypes := #[t] }, ty, ps, af, none⟩).run P w = .ok (.value (.int .i64 s.size)) w := by simp [execOp, resolve, invoke, builtin, hx, Builtin.len_, run_underlying ht, goInt]
theorem v_sliceH {t et sz : TypeId} {x y : Operand} {k : IntKind} {A : Option Addr} {len c : Nat} {i : Int} (hx : ev n e x = .slice A len c) (hi : ev n e y = .int k i) (ht : Slt P t et sz) (h0 : 0 ≤ i ∧ i ≤ c) :
  (execOp (ev n e) ⟨some d, .slice t x none (some y) none, ty, ps, af, none⟩).run P w = .ok (.value (.slice A i.toNat c)) w := by
 simp [execOp, hx, hi, Instr.sliceAt, Instr.slice, Instr.sliceBounds, Instr.sliceBound, asIntOf, run_underlying ht.1, run_sz ht, h0]
 cases A <;> simp [Addr.add]
theorem v_sliceL {t et sz : TypeId} {x y : Operand} {k : IntKind} {A : Option Addr} {len c : Nat} {i : Int} (hx : ev n e x = .slice A len c) (hi : ev n e y = .int k i) (ht : Slt P t et sz) (h0 : 0 ≤ i ∧ i ≤ len) :
  (execOp (ev n e) ⟨some d, .slice t x (some y) none none, ty, ps, af, none⟩).run P w = .ok (.value (.slice (if c = i.toNat then A else A.map (·.add (i.toNat * sz))) (len - i.toNat) (c - i.toNat))) w := by
 simp [execOp, hx, hi, Instr.sliceAt, Instr.slice, Instr.sliceBounds, Instr.sliceBound, asIntOf, run_underlying ht.1, run_sz ht, h0]
theorem v_func {fn : Fn} {first cap : Array Operand} :
  (execOp (ev n e) ⟨some d, .makeFunc fn first cap, ty, ps, af, none⟩).run P w = .ok (.value (.func fn (first.toList.map (ev n e)).toArray (cap.toList.map (ev n e)).toArray)) w := by
 have h : ∀ xs : Array Operand, xs.map (ev n e) = (xs.toList.map (ev n e)).toArray := fun xs => by rw [← Array.toList_map, Array.toArray_toList]
 simp only [execOp, Instr.makeFunc, h, Sem.run_bind, Sem.run_pure, Result.andThen_ok]
theorem v_nilP {x : Operand} {a : Addr} (hx : ev n e x = .pointer (some a)) :
  (execOp (ev n e) ⟨some d, .nilCheck x, ty, ps, af, none⟩).run P w = .ok (.value (.pointer (some a))) w := by simp [execOp, hx]
theorem v_extract {x : Operand} {i : Nat} {vs : List Value} {v : Value} (hx : ev n e x = .tuple vs.toArray) (hv : vs[i]? = some v) :
  (execOp (ev n e) ⟨some d, .extract x i, ty, ps, af, none⟩).run P w = .ok (.value (v)) w := by simp [execOp, hx, Instr.extract, hv]
theorem v_build {t : TypeId} {parts : Array (Nat × Operand)} {ps' : List (Nat × Value)} {v : Value} (hp : parts.toList.map (fun p => (p.1, ev n e p.2)) = ps') (hb : ∀ w, (Instr.build t ps'.toArray).run P w = .ok v w) :
  (execOp (ev n e) ⟨some d, .build t parts, ty, ps, af, none⟩).run P w = .ok (.value (v)) w := by
 have : parts.map (fun x => (x.1, ev n e x.2)) = ps'.toArray := by rw [← hp, ← Array.toList_map, Array.toArray_toList]
 have h2 := hb w
 rw [← this] at h2
 simp only [execOp, Sem.run_bind]
 rw [show (parts.map fun (i, x) => (i, ev n e x)) = parts.map (fun x => (x.1, ev n e x.2)) from rfl, h2]
 rfl
theorem o_bslice {t et : TypeId} {len : Nat} {parts : Array (Nat × Operand)} {ps' : List (Nat × Value)} {cs : List Value} (hp : parts.toList.map (fun p => (p.1, ev n e p.2)) = ps')
  (hb : ∀ w, (Instr.buildSlice t len ps'.toArray).run P w = .ok (.slice (some ⟨w.heap.size, 0, none⟩) len len) (w.alloc (.cells cs.toArray et)))
  (h : ∀ w', Blk w' w.heap.size cs et → w.grownBy w' none → w'.heap.size = w.heap.size + 1 → wl r P ops Q rest (act n ((d, .slice (some ⟨w.heap.size, 0, none⟩) len len) :: e) ds) w') :
  wl r P ops Q (⟨some d, .buildSlice t len parts, ty, ps, af, none⟩ :: rest) (act n e ds) w := by
 refine o_val (fun _ => by simp) (w' := w.alloc (.cells cs.toArray et)) (v := .slice (some ⟨w.heap.size, 0, none⟩) len len) ?_ (h _ (World.alloc_heap_new w _) (World.grownBy_alloc w _ _) (World.size_alloc _ _))
 have : parts.map (fun x => (x.1, ev n e x.2)) = ps'.toArray := by rw [← hp, ← Array.toList_map, Array.toArray_toList]
 have h2 := hb w
 rw [← this] at h2
 simp only [execOp, Sem.run_bind]
 rw [show (parts.map fun (i, x) => (i, ev n e x)) = parts.map (fun x => (x.1, ev n e x.2)) from rfl, h2]
 rfl
theorem o_call {fo : Operand} {args : Array Operand} {ats : Array TypeId} {f : FuncId} {fi cap vs : List Value} {R : Ending → World → Prop} (hf : ev n e fo = .func (.func f) fi.toArray cap.toArray) (ha : args.toList.map (ev n e) = vs) (he : Ent P f)
  (hC : Calls P f (fi ++ vs ++ cap).toArray w R) (hk : ∀ en w', R en w' → ∃ v, en = .returned v ∧ wl r P ops Q rest (act n ((d, v) :: e) ds) w') :
  wl r P ops Q (⟨some d, .call { callee := .value fo, args := args, argTypes := ats }, ty, ps, af, none⟩ :: rest) (act n e ds) w := by
 simp only [wl]
 rw [if_pos (by rfl), Oper.semAt_eq _ _ _ (fun _ => by simp), act_eval]
 have ha' : args.map (ev n e) = vs.toArray := by rw [← ha, ← Array.toList_map, Array.toArray_toList]
 have hrun : (execOp (ev n e) ⟨some d, .call { callee := .value fo, args := args, argTypes := ats }, ty, ps, af, none⟩).run P w = .ok (.enter f (fi ++ vs ++ cap).toArray) w := by
  simp only [execOp, resolve, hf, ha', Deferred.ofValue, Sem.run_bind, Sem.run_pure, Result.andThen_ok, invoke]
  rw [he]
  simp
 rw [hrun]
 simp only [Oper.uponIn]
 refine ⟨fun h => by simp [Fw, Fence.wide] at h, trivial, fun cs _ => ?_⟩
 obtain ⟨en, w', fr, hR, hc, hfn, hl⟩ := hC cs
 obtain ⟨v, rfl, hw⟩ := hk en w' hR
 refine ⟨.returned v, w', fr, ?_, comesIn_wide.2 hc, hfn, hl⟩
 show wl r P ops Q rest ((act n e ds).put (some d) v) w'
 rw [act_put]
 exact hw
end ops
theorem Blk.step0 {w w' : World} {b : Nat} {cs : List Value} {t : TypeId} (h : Blk w b cs t) (hg : w.grownBy w' none) : Blk w' b cs t := h.step hg (by simp)
theorem ret_bool {a b : Bool} (h : a = b) : Ending.returned (.bool a) = .returned (.bool b) := by rw [h]
theorem ret_int {k : IntKind} {a b : Int} (h : a = b) : Ending.returned (.int k a) = .returned (.int k b) := by rw [h]
section posts
variable {P : Program} {fn : Func} {R : Ending → World → Prop} {n : Nat} {e : Env} {w : World}
theorem post0 (hr : fn.results = #[]) (hR : R (.returned (.tuple #[])) w) : bodyPost P fn R .ret (act n e []) w :=
 ⟨rfl, _, by simp [results, hr], hR⟩
theorem tmps_getD (t : Nat) : (act n e []).tmps.getD t undef = ev n e (.tmp t) := congrFun (act_eval n e []) (.tmp t)
theorem post1 {t : Nat} (hr : fn.results = #[.tmp t]) (hR : R (.returned (ev n e (.tmp t))) w) : bodyPost P fn R .ret (act n e []) w :=
 ⟨rfl, _, by rw [results_tmp hr, tmps_getD], hR⟩
theorem post2 {t u : Nat} (hr : fn.results = #[.tmp t, .tmp u]) (hR : R (.returned (.tuple #[ev n e (.tmp t), ev n e (.tmp u)])) w) : bodyPost P fn R .ret (act n e []) w :=
 ⟨rfl, _, by rw [results_tmp2 hr, tmps_getD, tmps_getD], hR⟩
theorem post0n (hr : fn.results = #[]) (hR : R (.returned (.tuple #[])) w) : bodyPost P fn R .normal (act n e []) w :=
 ⟨rfl, _, by simp [results, hr], hR⟩
end posts
section quiet
variable {P : Program} {ops : Array Oper} {Qa : Act → Prop} {rest : List Oper} {n : Nat} {e : Env} {w : World} {d : Nat} {ty : TypeId} {ps : String} {af : Array Edge}
theorem s_quiet {Q : Exit → Act → World → Prop} {id : Nat} {l : List Oper} (hm : P.follows .mixedOrders = true) (hB : Region.lexB .any l.toArray = true)
  (h : wpQuiet P l.toArray (Gr w) (fun a' => ∀ w', w.grownBy w' none → Q .normal a' w') l (act n e [])) : (Code.region id l.toArray true).wpIn (Fw none) 0 P Q (act n e []) w :=
 wpIn_wide.2 (wp_region_quiet (C := Gr w) hm hB ⟨rfl, rfl, rfl, Nat.le_refl _, fun _ _ _ => rfl⟩ h)
theorem q_end (h : Qa (act n e [])) : wpQuiet P ops (Gr w) Qa [] (act n e []) := h
theorem q_v {op : Op} {v : Value} (hrun : ∀ w', w.grownBy w' none → (execOp (ev n e) ⟨some d, op, ty, ps, af, none⟩).run P w' = .ok (.value v) w') (h : wpQuiet P ops (Gr w) Qa rest (act n ((d, v) :: e) [])) :
  wpQuiet P ops (Gr w) Qa (⟨some d, op, ty, ps, af, none⟩ :: rest) (act n e []) := by
 simp only [wpQuiet]
 rw [if_pos (by rfl)]
 refine ⟨v, ?_, by rw [act_put]; exact h⟩
 intro w' hg
 unfold Oper.quietAt
 rw [act_eval, hrun w' hg]
 exact ⟨rfl, rfl⟩
theorem q_yes {l : List Oper} {op : Op} {dd : Option Nat} {j s : Nat} {b x : Bool} (hj : (l[j]?).bind (·.dst) = some s) (hs : Nat.blt s n = true) (hv : rd e s = .bool x) (hx : x = b)
  (h : wpQuiet P l.toArray (Gr w) Qa (⟨dd, op, ty, ps, af, none⟩ :: rest) (act n e [])) : wpQuiet P l.toArray (Gr w) Qa (⟨dd, op, ty, ps, af, some (j, b)⟩ :: rest) (act n e []) := by
 have hw : Region.wanted ⟨dd, op, ty, ps, af, some (j, b)⟩ (yielded l.toArray (act n e []).tmps) = true := by
  have hsl : s < n := by rw [Nat.blt_eq] at hs; exact hs
  simp only [Region.wanted, yielded, List.getElem?_toArray, hj, Option.bind_some]
  have : (act n e []).tmps[s]? = some (.bool x) := by simp [act, hsl, hv]
  rw [this]; simp [hx]
 simp only [wpQuiet] at h ⊢
 rw [if_pos hw]
 rw [if_pos (by rfl)] at h
 exact h
theorem q_no {l : List Oper} {op : Op} {dd : Nat} {j s : Nat} {b x : Bool} (hj : (l[j]?).bind (·.dst) = some s) (hs : Nat.blt s n = true) (hv : rd e s = .bool x) (hx : x = !b)
  (h : wpQuiet P l.toArray (Gr w) Qa rest (act n ((dd, undef) :: e) [])) : wpQuiet P l.toArray (Gr w) Qa (⟨some dd, op, ty, ps, af, some (j, b)⟩ :: rest) (act n e []) := by
 have hw : Region.wanted ⟨some dd, op, ty, ps, af, some (j, b)⟩ (yielded l.toArray (act n e []).tmps) = false := by
  have hsl : s < n := by rw [Nat.blt_eq] at hs; exact hs
  simp only [Region.wanted, yielded, List.getElem?_toArray, hj, Option.bind_some]
  have : (act n e []).tmps[s]? = some (.bool x) := by simp [act, hsl, hv]
  rw [this]; subst hx; cases b <;> rfl
 simp only [wpQuiet]
 rw [hw, act_put]
 exact h
theorem q_un {l : List Oper} {op : Op} {dd : Nat} {j s : Nat} {b : Bool} (hj : (l[j]?).bind (·.dst) = some s) (hs : Nat.blt s n = true) (hv : rd e s = undef)
  (h : wpQuiet P l.toArray (Gr w) Qa rest (act n ((dd, undef) :: e) [])) : wpQuiet P l.toArray (Gr w) Qa (⟨some dd, op, ty, ps, af, some (j, b)⟩ :: rest) (act n e []) := by
 have hw : Region.wanted ⟨some dd, op, ty, ps, af, some (j, b)⟩ (yielded l.toArray (act n e []).tmps) = false := by
  have hsl : s < n := by rw [Nat.blt_eq] at hs; exact hs
  simp only [Region.wanted, yielded, List.getElem?_toArray, hj, Option.bind_some]
  have : (act n e []).tmps[s]? = some undef := by simp [act, hsl, hv]
  rw [this]; cases b <;> rfl
 simp only [wpQuiet]
 rw [hw, act_put]
 exact h
def MidQ {G : Type} (n : Nat) (L : List Nat) (vals : G → List (Nat × Value)) (e : Env) : Act → Prop := fun a' => ∃ e' g, a' = act n e' [] ∧ Off L e' e ∧ Has e' (vals g)
theorem midq {G : Type} {L : List Nat} {vals : G → List (Nat × Value)} {e e' : Env} (g : G) (ho : Off L e' e) (hh : Has e' (vals g)) : MidQ n L vals e (act n e' []) := ⟨e', g, rfl, ho, hh⟩
theorem q_mid {G : Type} (m : Nat) (vals : G → List (Nat × Value)) (Ks J : List Nat) (hKs : ∀ g, (vals g).map (·.1) = Ks) {l : List Oper}
  (h1 : wpQuiet P ops (Gr w) (MidQ n (Ks ++ J) vals e) (l.take m) (act n e []))
  (h2 : ∀ g jv, wpQuiet P ops (Gr w) Qa (l.drop m) (act n (ovr (vals g) J jv e) [])) : wpQuiet P ops (Gr w) Qa l (act n e []) := by
 have h2' : ∀ a, MidQ n (Ks ++ J) vals e a → wpQuiet P ops (Gr w) Qa (l.drop m) a := by
  rintro a ⟨e', g, rfl, ho, hh⟩
  rw [act_ovr (J := J) (by rw [hKs g]; exact ho) hh]
  exact h2 g _
 clear h2
 revert h1
 generalize act n e [] = a
 generalize MidQ n (Ks ++ J) vals e = M at *
 intro h1
 induction m generalizing l a with
 | zero => exact h2' a h1
 | succ m ih =>
  cases l with
  | nil => exact h2' a h1
  | cons o l =>
   simp only [List.take_succ_cons, List.drop_succ_cons, wpQuiet] at h1 h2' ⊢
   split
   ·rename_i hw; rw [if_pos hw] at h1; exact Oper.quiet_mono (fun a' hh => ih a' h2' hh) h1
   ·rename_i hw; rw [if_neg hw] at h1; exact ih _ h2' h1
theorem q_call {fo : Operand} {args : Array Operand} {ats : Array TypeId} {f : FuncId} {fi cap vs : List Value} {v : Value} (hf : ev n e fo = .func (.func f) fi.toArray cap.toArray) (ha : args.toList.map (ev n e) = vs) (he : Ent P f)
  (hC : ∀ w1, w.grownBy w1 none → Calls P f (fi ++ vs ++ cap).toArray w1 fun en w' => en = .returned v ∧ w1.grownBy w' none) (h : wpQuiet P ops (Gr w) Qa rest (act n ((d, v) :: e) [])) :
  wpQuiet P ops (Gr w) Qa (⟨some d, .call { callee := .value fo, args := args, argTypes := ats }, ty, ps, af, none⟩ :: rest) (act n e []) := by
 simp only [wpQuiet]
 rw [if_pos (by rfl)]
 refine ⟨v, ?_, by rw [act_put]; exact h⟩
 intro w1 hg
 unfold Oper.quietAt
 have ha' : args.map (ev n e) = vs.toArray := by rw [← ha, ← Array.toList_map, Array.toArray_toList]
 have hrun : (execOp (ev n e) ⟨some d, .call { callee := .value fo, args := args, argTypes := ats }, ty, ps, af, none⟩).run P w1 = .ok (.enter f (fi ++ vs ++ cap).toArray) w1 := by
  simp only [execOp, resolve, hf, ha', Deferred.ofValue, Sem.run_bind, Sem.run_pure, Result.andThen_ok, invoke]
  rw [he]
  simp
 rw [act_eval, hrun]
 exact ⟨rfl, (hC w1 hg).mono fun _ _ h => ⟨h.1, World.grownBy.trans hg h.2⟩⟩
end quiet
def Reps {α : Type} (R : α → List Value → Prop) : List α → List Value → Prop
 | [], cs => cs = []
 | x :: xs, cs => ∃ c r, cs = c ++ r ∧ R x c ∧ Reps R xs r
def IsC (w : World) (k : Nat) : Prop := ∃ o : Obj, w.heap[k]? = some o ∧ o.isCells = true
theorem IsC.lt {w : World} {k : Nat} (h : IsC w k) : k < w.heap.size := by obtain ⟨o, h, _⟩ := h; exact (Array.getElem?_eq_some_iff.1 h).1
theorem Blk.isC {w : World} {b : Nat} {cs : List Value} {t : TypeId} (h : Blk w b cs t) : IsC w b := ⟨_, h, rfl⟩
structure Ty (α : Type) where
 sz : Nat
 rep : World → (Nat → Prop) → α → List Value → Prop
 hpos : 0 < sz
 hlen : ∀ {w S x cs}, rep w S x cs → cs.length = sz
 hone : ∀ {w S x cs}, rep w S x cs → ∀ u ∈ cs, u.oneCell' = true
 hmono : ∀ {w S S' x cs}, (∀ k, S k → S' k) → rep w S x cs → rep w S' x cs
 hbound : ∀ {w : World} {S x cs}, rep w S x cs → rep w (fun k => S k ∧ IsC w k) x cs
 hmove : ∀ {w w' : World} {S x cs}, (∀ k, S k → IsC w k → w'.heap[k]? = w.heap[k]?) → rep w S x cs → rep w' S x cs
section reps
variable {α β : Type} {R R' : α → List Value → Prop} {sz : Nat}
theorem Reps.imp {xs : List α} : ∀ {cs : List Value}, Reps R xs cs → (∀ x c, x ∈ xs → R x c → R' x c) → Reps R' xs cs := by
 induction xs with
 | nil => intro cs h _; exact h
 | cons x xs ih =>
  rintro cs ⟨c, r, rfl, h1, h2⟩ hi
  exact ⟨c, r, rfl, hi x c (by simp) h1, ih h2 (fun y d hy => hi y d (by simp [hy]))⟩
theorem Reps.len {xs : List α} (hl : ∀ x c, R x c → c.length = sz) : ∀ {cs : List Value}, Reps R xs cs → cs.length = xs.length * sz := by
 induction xs with
 | nil => intro cs h; rw [h]; simp
 | cons x xs ih =>
  rintro cs ⟨c, r, rfl, h1, h2⟩
  rw [List.length_append, hl _ _ h1, ih h2, List.length_cons, Nat.succ_mul, Nat.add_comm]
theorem Reps.append {xs ys : List α} {cs bs : List Value} (h : Reps R xs cs) (k : Reps R ys bs) : Reps R (xs ++ ys) (cs ++ bs) := by
 induction xs generalizing cs with
 | nil => rw [h]; exact k
 | cons x xs ih =>
  obtain ⟨c, r, rfl, h1, h2⟩ := h
  exact ⟨c, r ++ bs, by rw [List.append_assoc], h1, ih h2⟩
theorem Reps.one {x : α} {c : List Value} (h : R x c) : Reps R [x] c := ⟨c, [], by simp, h, rfl⟩
theorem Reps.get {xs : List α} (hl : ∀ x c, R x c → c.length = sz) : ∀ {cs : List Value}, Reps R xs cs → ∀ (i : Nat) (h : i < xs.length), R xs[i] ((cs.drop (i * sz)).take sz) := by
 induction xs with
 | nil => intro cs _ i h; cases h
 | cons x xs ih =>
  rintro cs ⟨c, r, rfl, h1, h2⟩ i h
  have hc := hl _ _ h1
  cases i with
  | zero => simp only [Nat.zero_mul, List.drop_zero, List.getElem_cons_zero]; rw [List.take_left' hc]; exact h1
  | succ i =>
   have e : (c ++ r).drop ((i + 1) * sz) = r.drop (i * sz) := by
    rw [show (i + 1) * sz = c.length + i * sz by rw [hc, Nat.succ_mul, Nat.add_comm], ← List.drop_drop, List.drop_left]
   rw [e]
   simpa using ih h2 i (by simpa using h)
theorem Reps.take {xs : List α} (hl : ∀ x c, R x c → c.length = sz) : ∀ {cs : List Value}, Reps R xs cs → ∀ m, Reps R (xs.take m) (cs.take (m * sz)) := by
 induction xs with
 | nil => intro cs h m; rw [h]; simp [Reps]
 | cons x xs ih =>
  rintro cs ⟨c, r, rfl, h1, h2⟩ m
  cases m with
  | zero => simp [Reps]
  | succ m =>
   have hc := hl _ _ h1
   refine ⟨c, r.take (m * sz), ?_, h1, ih h2 m⟩
   rw [show (m + 1) * sz = c.length + m * sz by rw [hc, Nat.succ_mul, Nat.add_comm], List.take_length_add_append]
theorem Reps.drop {xs : List α} (hl : ∀ x c, R x c → c.length = sz) : ∀ {cs : List Value}, Reps R xs cs → ∀ m, Reps R (xs.drop m) (cs.drop (m * sz)) := by
 induction xs with
 | nil => intro cs h m; rw [h]; simp [Reps]
 | cons x xs ih =>
  rintro cs ⟨c, r, rfl, h1, h2⟩ m
  cases m with
  | zero => exact ⟨c, r, by simp, h1, h2⟩
  | succ m =>
   have hc := hl _ _ h1
   have e : (c ++ r).drop ((m + 1) * sz) = r.drop (m * sz) := by
    rw [show (m + 1) * sz = c.length + m * sz by rw [hc, Nat.succ_mul, Nat.add_comm], ← List.drop_drop, List.drop_left]
   rw [e]
   exact ih h2 m
theorem Reps.mem {xs : List α} {p : Value → Prop} (hp : ∀ x c, R x c → ∀ u ∈ c, p u) : ∀ {cs : List Value}, Reps R xs cs → ∀ u ∈ cs, p u := by
 induction xs with
 | nil => intro cs h u hu; rw [h] at hu; cases hu
 | cons x xs ih =>
  rintro cs ⟨c, r, rfl, h1, h2⟩ u hu
  rcases List.mem_append.1 hu with h | h
  ·exact hp _ _ h1 u h
  ·exact ih h2 u h
end reps
theorem World.rangeAt.lt {w : World} {b o : Nat} {cs : List Value} (h : w.rangeAt b o cs) (hne : 0 < cs.length) : b < w.heap.size :=
 World.block_lt_of_cell? w _ (h 0 _ (List.getElem?_eq_getElem hne))
theorem World.rangeAt.isC {w : World} {b o : Nat} {cs : List Value} (h : w.rangeAt b o cs) (hne : 0 < cs.length) : IsC w b :=
 cells_of_cell (h 0 _ (List.getElem?_eq_getElem hne))
theorem World.rangeAt.move {w w' : World} {b o : Nat} {cs : List Value} (h : w.rangeAt b o cs) (hb : w'.heap[b]? = w.heap[b]?) : w'.rangeAt b o cs := fun j v hv =>
 (World.cell?_of_block (w := w) (a := ⟨b, o + j, none⟩) hb).trans (h j v hv)
theorem World.rangeAt.sub {w : World} {b o : Nat} {cs : List Value} (h : w.rangeAt b o cs) (i k : Nat) : w.rangeAt b (o + i) ((cs.drop i).take k) := fun j v hv => by
 rw [List.getElem?_take] at hv
 split at hv
 ·rw [List.getElem?_drop] at hv
  rw [Nat.add_assoc]
  exact h _ _ hv
 ·cases hv
namespace Ty
variable {α β : Type}
theorem step (t : Ty α) {w w' : World} {S : Nat → Prop} {x : α} {cs : List Value} {row : Option Nat} (h : t.rep w S x cs) (hg : w.grownBy w' row) (hS : ∀ k, S k → some k ≠ row) : t.rep w' S x cs :=
 t.hmove (fun k hk hlt => hg.block k hlt.lt (hS k hk)) h
def scalar (enc : α → Value) (h1 : ∀ x, (enc x).oneCell' = true) : Ty α where
 sz := 1
 rep := fun _ _ x cs => cs = [enc x]
 hpos := Nat.one_pos
 hlen := fun h => by rw [h]; rfl
 hone := fun h u hu => by rw [h] at hu; rw [List.mem_singleton.1 hu]; exact h1 _
 hmono := fun _ h => h
 hbound := fun h => h
 hmove := fun _ h => h
def int : Ty Int := scalar (Value.int .i64) (fun _ => rfl)
def bool : Ty Bool := scalar Value.bool (fun _ => rfl)
def str : Ty ByteArray := scalar Value.string (fun _ => rfl)
def Sl (t : Ty α) (w : World) (S : Nat → Prop) (A : Option Addr) (xs : List α) : Prop :=
 xs = [] ∨ ∃ b o cs, A = some ⟨b, o, none⟩ ∧ S b ∧ w.rangeAt b o cs ∧ Reps (t.rep w S) xs cs
theorem Sl.mono {t : Ty α} {w : World} {S S' : Nat → Prop} {A : Option Addr} {xs : List α} (h : t.Sl w S A xs) (hS : ∀ k, S k → S' k) : t.Sl w S' A xs := by
 rcases h with h | ⟨b, o, cs, hA, hb, hr, hR⟩
 ·exact .inl h
 ·exact .inr ⟨b, o, cs, hA, hS b hb, hr, hR.imp fun _ _ _ h => t.hmono hS h⟩
theorem Sl.bound {t : Ty α} {w : World} {S : Nat → Prop} {A : Option Addr} {xs : List α} (h : t.Sl w S A xs) : t.Sl w (fun k => S k ∧ IsC w k) A xs := by
 rcases h with h | ⟨b, o, cs, hA, hb, hr, hR⟩
 ·exact .inl h
 ·by_cases hx : xs = []
  ·exact .inl hx
  have hl := hR.len (fun _ _ h => t.hlen h)
  have : 0 < cs.length := by rw [hl]; exact Nat.mul_pos (List.length_pos_iff.2 hx) t.hpos
  exact .inr ⟨b, o, cs, hA, ⟨hb, World.rangeAt.isC hr this⟩, hr, hR.imp fun _ _ _ h => t.hbound h⟩
theorem Sl.move {t : Ty α} {w w' : World} {S : Nat → Prop} {A : Option Addr} {xs : List α} (hm : ∀ k, S k → IsC w k → w'.heap[k]? = w.heap[k]?) (h : t.Sl w S A xs) : t.Sl w' S A xs := by
 by_cases hx : xs = []
 ·exact .inl hx
 rcases h.bound with h | ⟨b, o, cs, hA, hb, hr, hR⟩
 ·exact .inl h
 ·exact .inr ⟨b, o, cs, hA, hb.1, World.rangeAt.move hr (hm b hb.1 hb.2), hR.imp fun _ _ _ h => t.hmono (fun k hk => hk.1) (t.hmove (fun k hk hlt => hm k hk.1 hlt) h)⟩
theorem Sl.step {t : Ty α} {w w' : World} {S : Nat → Prop} {A : Option Addr} {xs : List α} {row : Option Nat} (h : t.Sl w S A xs) (hg : w.grownBy w' row) (hS : ∀ k, S k → some k ≠ row) : t.Sl w' S A xs :=
 Sl.move (fun k hk hlt => hg.block k hlt.lt (hS k hk)) h
theorem Sl.step0 {t : Ty α} {w w' : World} {S : Nat → Prop} {A : Option Addr} {xs : List α} (h : t.Sl w S A xs) (hg : w.grownBy w' none) : t.Sl w' S A xs := h.step hg (fun _ _ => by simp)
theorem step0 (t : Ty α) {w w' : World} {S : Nat → Prop} {x : α} {cs : List Value} (h : t.rep w S x cs) (hg : w.grownBy w' none) : t.rep w' S x cs := t.step h hg (fun _ _ => by simp)
theorem Sl.get {t : Ty α} {w : World} {S : Nat → Prop} {A : Option Addr} {xs : List α} (h : t.Sl w S A xs) (i : Nat) (hi : i < xs.length) :
  ∃ b o c, A = some ⟨b, o, none⟩ ∧ S b ∧ t.rep w S xs[i] c ∧ w.rangeAt b (o + i * t.sz) c := by
 rcases h with h | ⟨b, o, cs, hA, hb, hr, hR⟩
 ·rw [h] at hi; cases hi
 ·exact ⟨b, o, _, hA, hb, hR.get (fun _ _ h => t.hlen h) i hi, World.rangeAt.sub hr _ _⟩
theorem Sl.addr {t : Ty α} {w : World} {S : Nat → Prop} {A : Option Addr} {xs : List α} (h : t.Sl w S A xs) (hx : 0 < xs.length) : ∃ b o, A = some ⟨b, o, none⟩ := by
 obtain ⟨b, o, _, hA, _⟩ := h.get 0 hx
 exact ⟨b, o, hA⟩
theorem Sl.nil (t : Ty α) (w : World) (S : Nat → Prop) (A : Option Addr) : t.Sl w S A [] := .inl rfl
theorem Sl.take {t : Ty α} {w : World} {S : Nat → Prop} {A : Option Addr} {xs : List α} (h : t.Sl w S A xs) (m : Nat) : t.Sl w S A (xs.take m) := by
 rcases h with h | ⟨b, o, cs, hA, hb, hr, hR⟩
 ·exact .inl (by rw [h]; simp)
 ·exact .inr ⟨b, o, cs.take (m * t.sz), hA, hb, fun j v hv => hr j v (by rw [List.getElem?_take] at hv; split at hv; exact hv; cases hv), hR.take (fun _ _ h => t.hlen h) m⟩
theorem Sl.drop {t : Ty α} {w : World} {S : Nat → Prop} {A : Option Addr} {xs : List α} (h : t.Sl w S A xs) (m : Nat) {c : Nat} (hc : xs.length ≤ c) : t.Sl w S (if c = m then A else A.map (·.add (m * t.sz))) (xs.drop m) := by
 by_cases hcm : c = m
 ·exact .inl (List.drop_eq_nil_of_le (by omega))
 rw [if_neg hcm]
 rcases h with h | ⟨b, o, cs, hA, hb, hr, hR⟩
 ·exact .inl (by rw [h]; simp)
 ·refine .inr ⟨b, o + m * t.sz, cs.drop (m * t.sz), by rw [hA, Option.map_some, Addr.add_mid], hb, fun j v hv => ?_, hR.drop (fun _ _ h => t.hlen h) m⟩
  rw [List.getElem?_drop] at hv
  rw [Nat.add_assoc]
  exact hr _ _ hv
def sl (t : Ty α) : Ty (List α) where
 sz := 1
 rep := fun w S xs cs => ∃ A c, cs = [.slice A xs.length c] ∧ xs.length ≤ c ∧ c ≤ maxLen ∧ t.Sl w S A xs
 hpos := Nat.one_pos
 hlen := by rintro w S x cs ⟨A, c, rfl, _⟩; rfl
 hone := by
  rintro w S x cs ⟨A, c, rfl, _⟩ u hu
  rw [List.mem_singleton.1 hu]; rfl
 hmono := by rintro w S S' x cs hS ⟨A, c, rfl, h1, h2, h3⟩; exact ⟨A, c, rfl, h1, h2, h3.mono hS⟩
 hbound := by rintro w S x cs ⟨A, c, rfl, h1, h2, h3⟩; exact ⟨A, c, rfl, h1, h2, h3.bound⟩
 hmove := by rintro w w' S x cs hm ⟨A, c, rfl, h1, h2, h3⟩; exact ⟨A, c, rfl, h1, h2, h3.move hm⟩
def pair (a : Ty α) (b : Ty β) : Ty (α × β) where
 sz := a.sz + b.sz
 rep := fun w S x cs => ∃ c0 c1, cs = c0 ++ c1 ∧ a.rep w S x.1 c0 ∧ b.rep w S x.2 c1
 hpos := Nat.add_pos_left a.hpos _
 hlen := by rintro w S x cs ⟨c0, c1, rfl, h0, h1⟩; rw [List.length_append, a.hlen h0, b.hlen h1]
 hone := by
  rintro w S x cs ⟨c0, c1, rfl, h0, h1⟩ u hu
  rcases List.mem_append.1 hu with h | h
  ·exact a.hone h0 u h
  ·exact b.hone h1 u h
 hmono := by rintro w S S' x cs hS ⟨c0, c1, rfl, h0, h1⟩; exact ⟨c0, c1, rfl, a.hmono hS h0, b.hmono hS h1⟩
 hbound := by rintro w S x cs ⟨c0, c1, rfl, h0, h1⟩; exact ⟨c0, c1, rfl, a.hbound h0, b.hbound h1⟩
 hmove := by rintro w w' S x cs hm ⟨c0, c1, rfl, h0, h1⟩; exact ⟨c0, c1, rfl, a.hmove hm h0, b.hmove hm h1⟩
def iso (a : Ty α) (f : β → α) : Ty β where
 sz := a.sz
 rep := fun w S x cs => a.rep w S (f x) cs
 hpos := a.hpos
 hlen := a.hlen
 hone := a.hone
 hmono := a.hmono
 hbound := a.hbound
 hmove := a.hmove
theorem Sl.int {w : World} {S : Nat → Prop} {A : Option Addr} {xs : List Int} (h : Ty.int.Sl w S A xs) (i : Nat) (hi : i < xs.length) : ∃ b o, A = some ⟨b, o, none⟩ ∧ w.cell? ⟨b, o + i * 1, none⟩ = some (.int .i64 xs[i]) := by
 obtain ⟨b, o, c, hA, _, hc, hr⟩ := h.get i hi
 obtain rfl : c = [.int .i64 xs[i]] := hc
 exact ⟨b, o, hA, by have := hr 0 _ rfl; simpa [Ty.int, Ty.scalar] using this⟩
end Ty
theorem wl_cons {r : Option Nat} {P : Program} {Q : Exit → Act → World → Prop} {w : World} {ops : Array Oper} {o : Oper} {rest : List Oper} {a : Act} : wl r P ops Q (o :: rest) a w = if Region.wanted o (yielded ops a.tmps) then o.uponIn (Fw r) 0 P a (wl r P ops Q rest) Q ((o.semAt r a.eval).run P w) else wl r P ops Q rest (a.put o.dst undef) w := by
 simp only [wl]
theorem wl_nil {r : Option Nat} {P : Program} {Q : Exit → Act → World → Prop} {w : World} {ops : Array Oper} {a : Act} : wl r P ops Q [] a w = Q .normal a w := by simp only [wl]
attribute [irreducible] wl
end Go.Proofs.NV
theorem Go.World.grownBy.step0 {w0 w w' : Go.World} (h : w0.grownBy w none) (hg : w.grownBy w' none) : w0.grownBy w' none := World.grownBy.trans h hg
