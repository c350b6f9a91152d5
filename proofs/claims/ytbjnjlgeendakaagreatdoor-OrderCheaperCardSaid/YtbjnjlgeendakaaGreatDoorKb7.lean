/- Part of the proof: A region that draws its order, whose operations may do things: each one is walked once, from what those say for which it waits; a tail stands in line.. -/
import Derived.Test.YtbjnjlgeendakaaGreatDoorKb5
import Derived.OrdersIn
import Derived.StillTail
set_option linter.unusedVariables false
set_option linter.unusedSimpArgs false
namespace Go.Proofs.NV
open Go.RowKit Go.Shelf
def depsOf (l : List Oper) (i : Nat) : List Nat := ((l[i]?).map fun o => (o.after.toList.filter (Region.binds .any)).map (·.on)).getD []
def clo (l : List Oper) : Nat → List Nat → List Nat
 | 0, s => s
 | f + 1, s => clo l f ((s ++ s.flatMap (depsOf l)).eraseDups)
def apartB : List (Option Nat) → Bool
 | [] => true
 | x :: xs => x.isSome && !xs.contains x && apartB xs
def anyB (l : List Oper) (m : Nat) : Bool :=
 (List.range l.length).all (fun i => (depsOf l i).all fun d => Nat.blt d i) && apartB ((l.take m).map (·.dst)) && Nat.ble m l.length &&
 (List.range l.length).all (fun t => Nat.blt t m || (List.range t).all fun k => (clo l 10 (depsOf l t)).contains k)
theorem apartB_some : ∀ {xs : List (Option Nat)}, apartB xs = true → ∀ (i : Nat) (x : Option Nat), xs[i]? = some x → x.isSome = true
 | [], _, i, x, h => by cases h
 | y :: ys, hb, i, x, h => by
  simp only [apartB, Bool.and_eq_true] at hb
  cases i with
  | zero => simp at h; rw [← h]; exact hb.1.1
  | succ i => exact apartB_some hb.2 i x (by simpa using h)
theorem apartB_ne : ∀ {xs : List (Option Nat)}, apartB xs = true → ∀ (i j : Nat) (x y : Option Nat), i ≠ j → xs[i]? = some x → xs[j]? = some y → x ≠ y
 | [], _, i, j, x, y, _, h, _ => by cases h
 | z :: zs, hb, i, j, x, y, hij, hi, hj => by
  simp only [apartB, Bool.and_eq_true, Bool.not_eq_true', List.contains_eq_mem, decide_eq_false_iff_not] at hb
  cases i with
  | zero =>
   cases j with
   | zero => exact absurd rfl hij
   | succ j =>
    simp at hi hj
    subst hi
    rintro rfl
    exact hb.1.2 (List.mem_of_getElem? hj)
  | succ i =>
   cases j with
   | zero =>
    simp at hi hj
    subst hj
    rintro rfl
    exact hb.1.2 (List.mem_of_getElem? hi)
   | succ j => exact apartB_ne hb.2 i j x y (by omega) (by simpa using hi) (by simpa using hj)
theorem mem_ready' {l : List Oper} {listed : Array Bool} {i : Nat} : i ∈ Region.ready .any l.toArray listed ↔ listed.getD i true = false ∧ (∃ o, l[i]? = some o) ∧ ∀ d ∈ depsOf l i, listed.getD d false = true := by
 rw [mem_ready]
 constructor
 ·rintro ⟨h1, o, ho, h2⟩
  rw [List.getElem?_toArray] at ho
  refine ⟨h1, ⟨o, ho⟩, fun d hd => ?_⟩
  simp only [depsOf, ho, Option.map_some, Option.getD_some, List.mem_map, List.mem_filter] at hd
  obtain ⟨e, ⟨he, hb⟩, rfl⟩ := hd
  exact h2 e (by simpa using he) hb
 ·rintro ⟨h1, ⟨o, ho⟩, h2⟩
  refine ⟨h1, o, by rw [List.getElem?_toArray]; exact ho, fun e he hb => h2 e.on ?_⟩
  simp only [depsOf, ho, Option.map_some, Option.getD_some, List.mem_map, List.mem_filter]
  exact ⟨e, ⟨by simpa using he, hb⟩, rfl⟩
theorem clo_listed {l : List Oper} {listed : Array Bool} (hc : ∀ j, listed.getD j false = true → ∀ d ∈ depsOf l j, listed.getD d false = true) : ∀ (f : Nat) (s : List Nat), (∀ d ∈ s, listed.getD d false = true) → ∀ d ∈ clo l f s, listed.getD d false = true
 | 0, s, h => h
 | f + 1, s, h => by
  refine clo_listed hc f _ fun d hd => ?_
  rw [List.mem_eraseDups, List.mem_append, List.mem_flatMap] at hd
  rcases hd with hd | ⟨k, hk, hd⟩
  ·exact h d hd
  ·exact hc k (h k hk) d hd
attribute [irreducible] clo
theorem getD_two {listed : Array Bool} {i : Nat} (hi : i < listed.size) (d e : Bool) : listed.getD i d = listed.getD i e := by simp [hi]
theorem listed_set {listed : Array Bool} {i j : Nat} : (listed.setIfInBounds i true).getD j false = true ↔ listed.getD j false = true ∨ (j = i ∧ i < listed.size) := by
 by_cases hij : i = j
 ·subst hij
  by_cases hlt : i < listed.size
  ·simp [hlt]
  ·simp [hlt]
 ·simp [Array.getElem?_setIfInBounds_ne hij, Ne.symm hij]
theorem left_set {listed : Array Bool} {i : Nat} (h : listed.getD i true = false) : (listed.setIfInBounds i true).count false + 1 = listed.count false := by
 have hlt : i < listed.size := by
  rcases Nat.lt_or_ge i listed.size with h' | h'
  ·exact h'
  ·simp [Array.getElem?_eq_none h'] at h
 have hv : listed[i] = false := by simpa [hlt] using h
 rw [Array.setIfInBounds, dif_pos hlt, Array.count_set hlt]
 have hpos : 0 < listed.count false := Array.count_pos_iff.2 (by rw [← hv]; exact Array.getElem_mem hlt)
 simp [hv]
 omega
theorem left_zero {listed : Array Bool} (h : listed.count false = 0) (i : Nat) : listed.getD i true = true := by
 rcases Nat.lt_or_ge i listed.size with h' | h'
 ·cases hb : listed[i] with
  | true => simp [h', hb]
  | false =>
   have : 0 < listed.count false := Array.count_pos_iff.2 (by rw [← hb]; exact Array.getElem_mem h')
   omega
 ·simp [Array.getElem?_eq_none h']
section any
variable {r : Option Nat} {P : Program} {Q : Exit → Act → World → Prop} {n : Nat} {e : Env} {ds : List Deferred} {w : World}
theorem uponIn_mono2 {o : Oper} {a : Act} {K K' : Act → World → Prop} {Q Q' : Exit → Act → World → Prop} (h : ∀ a w, K a w → K' a w) (hp : ∀ c a w, Q (.panic c) a w → Q' (.panic c) a w) (hl : LetsOut Q → LetsOut Q') {res : Result Next}
  (hh : o.uponIn (Fw r) 0 P a K Q res) : o.uponIn (Fw r) 0 P a K' Q' res := by
 cases res with
 | ok x w' =>
  cases x <;> simp only [Oper.uponIn] at hh ⊢ <;>
   first
    | exact h _ _ hh
    | exact ⟨hh.1, CallsIn.mono hh.2 (fun e w'' he => by cases e <;> first | exact h _ _ he | exact hp _ _ _ he | exact hl he)⟩
    | exact ⟨hh.1, RowsIn.mono hh.2 (fun _ _ he => h _ _ he)⟩
    | exact ⟨hh.1, RoundIn.mono hh.2 (fun e w'' he => by cases e <;> first | exact h _ _ he | exact hp _ _ _ he | exact hl he)⟩
 | halt x w' => cases x <;> simp only [Oper.uponIn] at hh ⊢ <;> first | exact hh | exact hp _ _ _ hh
def headDs (l : List Oper) (m : Nat) : List Nat := (l.take m).filterMap (·.dst)
theorem any_tail {l : List Oper} {m : Nat} (hB : anyB l m = true) : ∀ (fuel t : Nat) (listed : Array Bool) (a : Act) (w : World), m ≤ t → t ≤ l.length → listed.size = l.length → (∀ k, k < l.length → (listed.getD k false = true ↔ k < t)) → l.length ≤ t + fuel →
  wl r P l.toArray Q (l.drop t) a w → wpAnyIn (Fw r) 0 P .any l.toArray Q fuel listed a w := by
 simp only [anyB, Bool.and_eq_true, List.all_eq_true, List.mem_range, Bool.or_eq_true, Nat.blt_eq, List.contains_eq_mem, decide_eq_true_eq] at hB
 obtain ⟨⟨⟨hdep, _⟩, _⟩, hcl⟩ := hB
 intro fuel
 induction fuel with
 | zero =>
  intro t listed a w hmt htl hsz hL hf hw
  have ht : t = l.length := by omega
  refine ⟨?_, ?_⟩
  ·rw [List.eq_nil_iff_forall_not_mem]
   intro i hi
   rw [mem_ready'] at hi
   obtain ⟨h1, ⟨o, ho⟩, _⟩ := hi
   have hlt := (List.getElem?_eq_some_iff.1 ho).1
   have := (hL i hlt).2 (by omega)
   rw [getD_two (by omega) false true, h1] at this
   cases this
  ·rw [List.drop_eq_nil_of_le (by omega), wl_nil] at hw; exact hw
 | succ fuel ih =>
  intro t listed a w hmt htl hsz hL hf hw
  rcases Nat.lt_or_ge t l.length with hlt | hge
  ·have ht0 : listed.getD t true = false := by
    rw [getD_two (by omega) true false]
    have := hL t hlt
    by_cases hx : listed.getD t false = true
    ·exact absurd (this.1 hx) (by omega)
    ·simpa using hx
   have htr : t ∈ Region.ready .any l.toArray listed := mem_ready'.2 ⟨ht0, ⟨l[t], List.getElem?_eq_getElem hlt⟩, fun d hd => (hL d (by have := hdep t hlt d hd; omega)).2 (hdep t hlt d hd)⟩
   refine ⟨fun h0 => (by rw [h0] at htr; cases htr), fun i hi => ?_⟩
   have hit : i = t := by
    rw [mem_ready'] at hi
    obtain ⟨h1, ⟨o, ho⟩, h2⟩ := hi
    have hil := (List.getElem?_eq_some_iff.1 ho).1
    have hnt : ¬ i < t := fun h => by
     have := (hL i hil).2 h
     rw [getD_two (by omega) false true, h1] at this; cases this
    rcases Nat.lt_or_ge t i with h | h
    ·have hc := hcl i hil
     rcases hc with hc | hc
     ·omega
     ·have := clo_listed (l := l) (listed := listed) (fun j hj d hd => by
       have hjl : j < l.length := by
        rcases Nat.lt_or_ge j l.length with h | h
        ·exact h
        ·rw [Array.getD_eq_getD_getElem?, Array.getElem?_eq_none (by omega)] at hj; cases hj
       have h3 := (hL j hjl).1 hj
       have h4 := hdep j hjl d hd
       exact (hL d (by omega)).2 (by omega)) 10 _ h2 t (hc t h)
      exact absurd ((hL t hlt).1 this) (by omega)
    ·omega
   subst hit
   have hlo : l[i]? = some l[i] := List.getElem?_eq_getElem hlt
   rw [List.drop_eq_getElem_cons hlt, wl_cons] at hw
   have hnext : ∀ a' w', wl r P l.toArray Q (l.drop (i + 1)) a' w' → wpAnyIn (Fw r) 0 P .any l.toArray Q fuel (listed.setIfInBounds i true) a' w' := fun a' w' hh => by
    refine ih (i + 1) _ a' w' (by omega) (by omega) (by simpa using hsz) (fun k hk => ?_) (by omega) hh
    rw [listed_set, hL k hk]
    omega
   unfold wpOpIn
   simp only [List.getElem?_toArray, hlo]
   by_cases hwn : Region.wanted l[i] (yielded l.toArray a.tmps) = true
   ·rw [if_pos hwn] at hw
    rw [if_pos hwn]
    exact ⟨fun _ _ => trivial, uponIn_mono2 hnext (fun _ _ _ h => h) id hw⟩
   ·rw [if_neg hwn] at hw
    rw [if_neg hwn]
    exact ⟨fun _ _ => trivial, hnext _ _ hw⟩
  ·refine ⟨fun _ => by rw [List.drop_eq_nil_of_le (by omega), wl_nil] at hw; exact hw, fun i hi => ?_⟩
   rw [mem_ready'] at hi
   obtain ⟨h1, ⟨o, ho⟩, _⟩ := hi
   have hil := (List.getElem?_eq_some_iff.1 ho).1
   have := (hL i hil).2 (by omega)
   rw [getD_two (by omega) false true, h1] at this
   cases this
def opPost (n : Nat) (ds : List Deferred) (St : World → World → Prop) (f : Value → World → Prop) (d : Option Nat) (e' : Env) (W : World) : Exit → Act → World → Prop :=
 fun ex a' W' => ex = .normal ∧ ∃ k v, d = some k ∧ a' = act n ((k, v) :: e') ds ∧ St W W' ∧ f v W'
theorem any_head {l : List Oper} {m : Nat} (hB : anyB l m = true) (St : World → World → Prop) (F : Nat → Value → World → Prop) (ht : ∀ a b c, St a b → St b c → St a c) (hF : ∀ i v W W', F i v W → St W W' → F i v W')
  (hop : ∀ i o, i < m → l[i]? = some o → ∀ e' W, Off (headDs l m) e' e → St w W → (∀ j ∈ depsOf l i, ∀ d, (l[j]?).bind (·.dst) = some d → F j (rd e' d) W) → wl r P l.toArray (opPost n ds St (F i) o.dst e' W) [o] (act n e' ds) W)
  (htail : ∀ e' W, Off (headDs l m) e' e → St w W → (∀ i, i < m → ∀ d, (l[i]?).bind (·.dst) = some d → F i (rd e' d) W) → wl r P l.toArray Q (l.drop m) (act n e' ds) W) :
  ∀ (fuel : Nat) (listed : Array Bool) (e' : Env) (W : World), listed.size = l.length → (∀ j, listed.getD j false = true → j < m ∧ ∀ d ∈ depsOf l j, listed.getD d false = true) → listed.count false ≤ fuel →
   Off (headDs l m) e' e → St w W → (∀ i, listed.getD i false = true → ∀ d, (l[i]?).bind (·.dst) = some d → F i (rd e' d) W) → wpAnyIn (Fw r) 0 P .any l.toArray Q fuel listed (act n e' ds) W := by
 have hB' := hB
 simp only [anyB, Bool.and_eq_true, List.all_eq_true, List.mem_range, Bool.or_eq_true, Nat.blt_eq, List.contains_eq_mem, decide_eq_true_eq, Nat.ble_eq] at hB
 obtain ⟨⟨⟨hdep, hap⟩, hml⟩, hcl⟩ := hB
 have tolist : ∀ (fuel : Nat) (listed : Array Bool) (e' : Env) (W : World), listed.size = l.length → (∀ j, listed.getD j false = true → j < m ∧ ∀ d ∈ depsOf l j, listed.getD d false = true) → (∀ k, k < m → listed.getD k false = true) → listed.count false ≤ fuel →
   Off (headDs l m) e' e → St w W → (∀ i, listed.getD i false = true → ∀ d, (l[i]?).bind (·.dst) = some d → F i (rd e' d) W) → wpAnyIn (Fw r) 0 P .any l.toArray Q fuel listed (act n e' ds) W := by
  intro fuel listed e' W hsz hL hall hfuel hoff hS hFs
  have hLm : ∀ k, k < l.length → (listed.getD k false = true ↔ k < m) := fun k hk => ⟨fun h => (hL k h).1, fun h => hall k h⟩
  have hcnt : l.length ≤ m + fuel := by
   have hc : listed.count false = l.length - m := by
    have e1 : listed = (List.replicate m true ++ List.replicate (l.length - m) false).toArray := by
     apply Array.ext
     ·simp; omega
     ·intro i h1 h2
      have hk : i < l.length := by omega
      have h3 := hLm i hk
      rw [Array.getD_eq_getD_getElem?, Array.getElem?_eq_getElem h1, Option.getD_some] at h3
      simp only [List.getElem_toArray, List.getElem_append, List.length_replicate, List.getElem_replicate]
      by_cases h : i < m
      ·rw [dif_pos h]; exact h3.2 h
      ·rw [dif_neg h]
       cases hb : listed[i] with
       | false => rfl
       | true => exact absurd (h3.1 hb) h
    rw [e1]
    simp [List.count_replicate]
   omega
  exact any_tail hB' fuel m listed _ W (Nat.le_refl _) hml hsz hLm hcnt (htail e' W hoff hS fun i hi d hd => hFs i (hall i hi) d hd)
 intro fuel
 induction fuel with
 | zero =>
  intro listed e' W hsz hL hfuel hoff hS hFs
  refine tolist 0 listed e' W hsz hL (fun k hk => ?_) hfuel hoff hS hFs
  have := left_zero (by omega : listed.count false = 0) k
  rwa [getD_two (by omega) false true]
 | succ fuel ih =>
  intro listed e' W hsz hL hfuel hoff hS hFs
  by_cases hall : ∀ k, k < m → listed.getD k false = true
  ·exact tolist (fuel + 1) listed e' W hsz hL hall hfuel hoff hS hFs
  ·have hex : ∃ k, k < m ∧ listed.getD k false = false := by
    apply Classical.byContradiction
    intro hn
    exact hall fun k hk => by
     cases hb : listed.getD k false with
     | true => rfl
     | false => exact absurd ⟨k, hk, hb⟩ hn
   obtain ⟨k0, ⟨hk0, hu0⟩, hmin⟩ := least hex
   have hr0 : k0 ∈ Region.ready .any l.toArray listed := mem_ready'.2 ⟨by rw [getD_two (by omega) true false]; exact hu0, ⟨l[k0]'(by omega), List.getElem?_eq_getElem (by omega)⟩, fun d hd => by
    have h1 := hdep k0 (by omega) d hd
    cases hb : listed.getD d false with
    | true => rfl
    | false => have := hmin d ⟨by omega, hb⟩; omega⟩
   refine ⟨fun h0 => (by rw [h0] at hr0; cases hr0), fun i hi => ?_⟩
   rw [mem_ready'] at hi
   obtain ⟨h1, ⟨o, ho⟩, h2⟩ := hi
   have hil := (List.getElem?_eq_some_iff.1 ho).1
   have him : i < m := by
    rcases Nat.lt_or_ge i m with h | h
    ·exact h
    ·rcases hcl i hil with hc | hc
     ·exact hc
     ·have := clo_listed (l := l) (listed := listed) (fun j hj => (hL j hj).2) 10 _ h2 k0 (hc k0 (by omega))
      rw [hu0] at this; cases this
   have hgo := hop i o him ho e' W hoff hS fun j hj d hd => hFs j (h2 j hj) d hd
   have hnext : ∀ a' W', opPost n ds St (F i) o.dst e' W .normal a' W' → wpAnyIn (Fw r) 0 P .any l.toArray Q fuel (listed.setIfInBounds i true) a' W' := by
    rintro a' W' ⟨_, k, v, hk, rfl, hS', hf⟩
    have htk : (l.take m)[i]? = some o := by rw [List.getElem?_take, if_pos him]; exact ho
    have hkm : (headDs l m).contains k = true := by
     simp only [headDs, List.contains_eq_mem, decide_eq_true_eq, List.mem_filterMap]
     exact ⟨o, List.mem_of_getElem? htk, hk⟩
    refine ih _ ((k, v) :: e') W' (by simpa using hsz) (fun j hj => ?_) (by have := left_set h1; omega) (off_cons hkm hoff) (ht _ _ _ hS hS') (fun j hj d hd => ?_)
    ·rw [listed_set] at hj
     rcases hj with hj | ⟨rfl, _⟩
     ·exact ⟨(hL j hj).1, fun d hd => listed_set.2 (.inl ((hL j hj).2 d hd))⟩
     ·exact ⟨him, fun d hd => listed_set.2 (.inl (h2 d hd))⟩
    ·rw [listed_set] at hj
     rcases Nat.decEq j i with hji | rfl
     ·rcases hj with hj | ⟨rfl, _⟩
      ·have hjm := (hL j hj).1
       have hdk : d ≠ k := by
        obtain ⟨oj, hoj, hdj⟩ := Option.bind_eq_some_iff.1 hd
        have := apartB_ne hap j i oj.dst o.dst hji (by rw [List.getElem?_map, List.getElem?_take, if_pos hjm, hoj]; rfl) (by rw [List.getElem?_map, htk]; rfl)
        rw [hdj, hk] at this
        exact fun h => this (by rw [h])
       have : rd ((k, v) :: e') d = rd e' d := by simp only [rd, beq_false (Ne.symm hdk), cond_false]
       rw [this]
       exact hF _ _ _ _ (hFs j hj d hd) hS'
      ·exact absurd rfl hji
     ·obtain ⟨oj, hoj, hdj⟩ := Option.bind_eq_some_iff.1 hd
      rw [ho] at hoj; cases hoj
      rw [hk] at hdj; cases hdj
      simpa [rd] using hf
   rw [wl_cons] at hgo
   unfold wpOpIn
   simp only [List.getElem?_toArray, ho]
   by_cases hwn : Region.wanted o (yielded l.toArray (act n e' ds).tmps) = true
   ·rw [if_pos hwn] at hgo
    rw [if_pos hwn]
    refine ⟨fun _ _ => trivial, uponIn_mono2 (fun a w h => hnext a w (by rwa [wl_nil] at h)) (fun _ _ _ h => by cases h.1) (fun ⟨_, _, h⟩ => by cases h.1) hgo⟩
   ·rw [if_neg hwn, wl_nil] at hgo
    rw [if_neg hwn]
    exact ⟨fun _ _ => trivial, hnext _ _ hgo⟩
def Deps (F : Nat → Value → World → Prop) (W : World) (K : List (Nat × Value) → Prop) : List (Nat × Nat) → List (Nat × Value) → Prop
 | [], acc => K acc
 | p :: ps, acc => ∀ v, F p.1 v W → Deps F W K ps (acc ++ [(p.2, v)])
theorem deps_use {F : Nat → Value → World → Prop} {W : World} {K : List (Nat × Value) → Prop} {e' : Env} : ∀ (ps : List (Nat × Nat)) (acc : List (Nat × Value)), Deps F W K ps acc → (∀ p ∈ ps, F p.1 (rd e' p.2) W) → K (acc ++ ps.map fun p => (p.2, rd e' p.2))
 | [], acc, h, _ => by rw [List.map_nil, List.append_nil]; exact h
 | p :: ps, acc, h, hp => by
  have := deps_use ps _ (h _ (hp p (by simp))) (fun q hq => hp q (by simp [hq]))
  simpa using this
def Fl (Fs : List (Value → World → Prop)) (i : Nat) : Value → World → Prop := (Fs[i]?).getD fun _ _ => True
def Stab (St : World → World → Prop) : List (Value → World → Prop) → Prop
 | [] => True
 | f :: fs => (∀ v W W', f v W → St W W' → f v W') ∧ Stab St fs
theorem stab_get {St : World → World → Prop} : ∀ {Fs : List (Value → World → Prop)}, Stab St Fs → ∀ i v W W', Fl Fs i v W → St W W' → Fl Fs i v W'
 | [], _, i, v, W, W', _, _ => by simp [Fl]
 | f :: fs, h, 0, v, W, W', hf, hs => by simp only [Fl, List.getElem?_cons_zero, Option.getD_some] at hf ⊢; exact h.1 v W W' hf hs
 | f :: fs, h, i + 1, v, W, W', hf, hs => by simp only [Fl, List.getElem?_cons_succ] at hf ⊢; exact stab_get h.2 i v W W' hf hs
def depsB (l : List Oper) : Nat → List (List (Nat × Nat)) → Bool
 | _, [] => true
 | i, K :: Ks => K.all (fun p => (depsOf l i).contains p.1 && ((l[p.1]?).bind (·.dst) == some p.2)) && depsB l (i + 1) Ks
def AllOps (r : Option Nat) (P : Program) (n : Nat) (e : Env) (ds : List Deferred) (w : World) (l : List Oper) (J : List Nat) (St : World → World → Prop) (Fs : List (Value → World → Prop)) : Nat → List Oper → List (List (Nat × Nat)) → Prop
 | i, o :: os, K :: Ks => (∀ jv W, St w W → Deps (Fl Fs) W (fun g => wl r P l.toArray (opPost n ds St (Fl Fs i) o.dst (ovr g J jv e) W) [o] (act n (ovr g J jv e) ds) W) K []) ∧ AllOps r P n e ds w l J St Fs (i + 1) os Ks
 | _, [], _ => True
 | _, _ :: _, [] => False
theorem allOps_get {l : List Oper} {J : List Nat} {St : World → World → Prop} {Fs : List (Value → World → Prop)} : ∀ {os : List Oper} {Ks : List (List (Nat × Nat))} {i0 : Nat}, AllOps r P n e ds w l J St Fs i0 os Ks → depsB l i0 Ks = true → ∀ i o, os[i]? = some o →
  ∃ K : List (Nat × Nat), (∀ p ∈ K, p.1 ∈ depsOf l (i0 + i) ∧ (l[p.1]?).bind (·.dst) = some p.2) ∧ ∀ jv W, St w W → Deps (Fl Fs) W (fun g => wl r P l.toArray (opPost n ds St (Fl Fs (i0 + i)) o.dst (ovr g J jv e) W) [o] (act n (ovr g J jv e) ds) W) K []
 | [], _, _, _, _, i, o, h => by cases h
 | _ :: _, [], _, h, _, _, _, _ => h.elim
 | o' :: os, K :: Ks, i0, h, hb, 0, o, ho => by
  simp only [List.getElem?_cons_zero, Option.some.injEq] at ho
  subst ho
  simp only [depsB, Bool.and_eq_true, List.all_eq_true, List.contains_eq_mem, decide_eq_true_eq, beq_iff_eq] at hb
  exact ⟨K, fun p hp => hb.1 p hp, h.1⟩
 | o' :: os, K :: Ks, i0, h, hb, i + 1, o, ho => by
  simp only [List.getElem?_cons_succ] at ho
  simp only [depsB, Bool.and_eq_true] at hb
  obtain ⟨K', h1, h2⟩ := allOps_get h.2 hb.2 i o ho
  rw [show i0 + 1 + i = i0 + (i + 1) by omega] at h1 h2
  exact ⟨K', h1, h2⟩
theorem off_more {G J : List Nat} {e' e : Env} (h : Off J e' e) : Off (G ++ J) e' e := fun t ht => h t (by
 cases hb : J.contains t with
 | false => rfl
 | true =>
  have : (G ++ J).contains t = true := by
   simp only [List.contains_eq_mem, decide_eq_true_eq] at hb
   simp [hb]
  rw [this] at ht; cases ht)
theorem has_map {e' : Env} : ∀ (K : List (Nat × Nat)), Has e' (K.map fun p => (p.2, rd e' p.2))
 | [] => trivial
 | p :: K => ⟨rfl, has_map K⟩
theorem act_deps {J : List Nat} {e' : Env} (K : List (Nat × Nat)) (h : Off J e' e) : act n e' ds = act n (ovr (K.map fun p => (p.2, rd e' p.2)) J (rd e') e) ds := act_ovr (off_more h) (has_map K)
theorem op_done {St : World → World → Prop} {f : Value → World → Prop} {k : Nat} {v : Value} {e' : Env} {W W' : World} (hS : St W W') (hf : f v W') : opPost n ds St f (some k) e' W .normal (act n ((k, v) :: e') ds) W' := ⟨rfl, k, v, rfl, rfl, hS, hf⟩
theorem s_any {id : Nat} {l : List Oper} (m : Nat) (J : List Nat) (Ks : List (List (Nat × Nat))) (Kt : List (Nat × Nat)) (St : World → World → Prop) (Fs : List (Value → World → Prop)) (hm : P.follows .mixedOrders = true) (hB : anyB l m = true) (hJ : headDs l m = J) (hK : depsB l 0 Ks = true)
  (hKt : Kt.all (fun p => Nat.blt p.1 m && ((l[p.1]?).bind (·.dst) == some p.2)) = true)
  (hd : St w { w with drawn := w.drawn + 1 }) (ht : ∀ a b c, St a b → St b c → St a c) (hF : Stab St Fs)
  (hops : AllOps r P n e ds w l J St Fs 0 (l.take m) Ks)
  (htail : ∀ jv W, St w W → Deps (Fl Fs) W (fun g => wl r P l.toArray Q (l.drop m) (act n (ovr g J jv e) ds) W) Kt []) :
  (Code.region id l.toArray true).wpIn (Fw r) 0 P Q (act n e ds) w := by
 have hf := any_head (r := r) (P := P) (Q := Q) (n := n) (e := e) (ds := ds) (w := w) hB St (Fl Fs) ht (stab_get hF)
  (fun i o him ho e' W hoff hS hdep => by
   obtain ⟨K, h1, h2⟩ := allOps_get hops hK i o (by rw [List.getElem?_take, if_pos him]; exact ho)
   rw [Nat.zero_add] at h1 h2
   rw [hJ] at hoff
   have h3 := deps_use (e' := e') K [] (h2 (rd e') W hS) (fun p hp => hdep p.1 (h1 p hp).1 p.2 (h1 p hp).2)
   rw [List.nil_append] at h3
   have h4 := act_deps (n := n) (ds := ds) K hoff
   rw [← h4] at h3
   unfold opPost at h3 ⊢
   have h5 : ∀ k v, act n ((k, v) :: ovr (K.map fun p => (p.2, rd e' p.2)) J (rd e') e) ds = act n ((k, v) :: e') ds := fun k v => by
    rw [← act_put, ← act_put, h4]
   simp only [h5] at h3
   exact h3)
  (fun e' W hoff hS hfs => by
   rw [hJ] at hoff
   simp only [List.all_eq_true, Bool.and_eq_true, Nat.blt_eq, beq_iff_eq] at hKt
   have h3 := deps_use (e' := e') Kt [] (htail (rd e') W hS) (fun p hp => hfs p.1 (hKt p hp).1 p.2 (hKt p hp).2)
   rw [List.nil_append, ← act_deps (n := n) (ds := ds) Kt hoff] at h3
   exact h3)
  l.length (Array.replicate l.length false) e { w with drawn := w.drawn + 1 } (by simp) (fun j hj => by rw [getD_replicate_false] at hj; cases hj) (by simp [Array.count_replicate]) off_refl hd (fun j hj => by rw [getD_replicate_false] at hj; cases hj)
 refine wpIn_region_any hm ?_
 rw [List.size_toArray]
 exact hf
def apartN : List (Option Nat) → Bool
 | [] => true
 | none :: xs => apartN xs
 | some x :: xs => !xs.contains (some x) && apartN xs
theorem apartN_ne : ∀ {xs : List (Option Nat)}, apartN xs = true → ∀ (i j : Nat) (x : Nat), i ≠ j → xs[i]? = some (some x) → xs[j]? ≠ some (some x)
 | [], _, i, j, x, _, h => by cases h
 | none :: zs, hb, 0, j, x, hij, h => by simp at h
 | none :: zs, hb, i + 1, 0, x, hij, h => by simp
 | none :: zs, hb, i + 1, j + 1, x, hij, h => by simpa using apartN_ne (xs := zs) hb i j x (by omega) (by simpa using h)
 | some y :: zs, hb, i, j, x, hij, hi => by
  simp only [apartN, Bool.and_eq_true, Bool.not_eq_true', List.contains_eq_mem, decide_eq_false_iff_not] at hb
  intro hj
  cases i with
  | zero =>
   cases j with
   | zero => exact hij rfl
   | succ j =>
    simp at hi hj
    subst hi
    exact hb.1 (List.mem_of_getElem? hj)
  | succ i =>
   cases j with
   | zero =>
    simp at hi hj
    subst hj
    exact hb.1 (List.mem_of_getElem? hi)
   | succ j => exact apartN_ne hb.2 i j x (by omega) (by simpa using hi) (by simpa using hj)
def waitB (l : List Oper) (m : Nat) : Bool :=
 (List.range l.length).all (fun i => (depsOf l i).all fun d => Nat.blt d i) && apartN ((l.take m).map (·.dst)) && Nat.ble m l.length &&
 (List.range l.length).all (fun t => Nat.blt t m || (List.range t).all fun k => (clo l 10 (depsOf l t)).contains k)
theorem any_tail' {l : List Oper} {m : Nat} (hB : waitB l m = true) : ∀ (fuel t : Nat) (listed : Array Bool) (a : Act) (w : World), m ≤ t → t ≤ l.length → listed.size = l.length → (∀ k, k < l.length → (listed.getD k false = true ↔ k < t)) → l.length ≤ t + fuel →
  wl r P l.toArray Q (l.drop t) a w → wpAnyIn (Fw r) 0 P .any l.toArray Q fuel listed a w := by
 simp only [waitB, Bool.and_eq_true, List.all_eq_true, List.mem_range, Bool.or_eq_true, Nat.blt_eq, List.contains_eq_mem, decide_eq_true_eq] at hB
 obtain ⟨⟨⟨hdep, _⟩, _⟩, hcl⟩ := hB
 intro fuel
 induction fuel with
 | zero =>
  intro t listed a w hmt htl hsz hL hf hw
  have ht : t = l.length := by omega
  refine ⟨?_, ?_⟩
  ·rw [List.eq_nil_iff_forall_not_mem]
   intro i hi
   rw [mem_ready'] at hi
   obtain ⟨h1, ⟨o, ho⟩, _⟩ := hi
   have hlt := (List.getElem?_eq_some_iff.1 ho).1
   have := (hL i hlt).2 (by omega)
   rw [getD_two (by omega) false true, h1] at this
   cases this
  ·rw [List.drop_eq_nil_of_le (by omega), wl_nil] at hw; exact hw
 | succ fuel ih =>
  intro t listed a w hmt htl hsz hL hf hw
  rcases Nat.lt_or_ge t l.length with hlt | hge
  ·have ht0 : listed.getD t true = false := by
    rw [getD_two (by omega) true false]
    have := hL t hlt
    by_cases hx : listed.getD t false = true
    ·exact absurd (this.1 hx) (by omega)
    ·simpa using hx
   have htr : t ∈ Region.ready .any l.toArray listed := mem_ready'.2 ⟨ht0, ⟨l[t], List.getElem?_eq_getElem hlt⟩, fun d hd => (hL d (by have := hdep t hlt d hd; omega)).2 (hdep t hlt d hd)⟩
   refine ⟨fun h0 => (by rw [h0] at htr; cases htr), fun i hi => ?_⟩
   have hit : i = t := by
    rw [mem_ready'] at hi
    obtain ⟨h1, ⟨o, ho⟩, h2⟩ := hi
    have hil := (List.getElem?_eq_some_iff.1 ho).1
    have hnt : ¬ i < t := fun h => by
     have := (hL i hil).2 h
     rw [getD_two (by omega) false true, h1] at this; cases this
    rcases Nat.lt_or_ge t i with h | h
    ·have hc := hcl i hil
     rcases hc with hc | hc
     ·omega
     ·have := clo_listed (l := l) (listed := listed) (fun j hj d hd => by
       have hjl : j < l.length := by
        rcases Nat.lt_or_ge j l.length with h | h
        ·exact h
        ·rw [Array.getD_eq_getD_getElem?, Array.getElem?_eq_none (by omega)] at hj; cases hj
       have h3 := (hL j hjl).1 hj
       have h4 := hdep j hjl d hd
       exact (hL d (by omega)).2 (by omega)) 10 _ h2 t (hc t h)
      exact absurd ((hL t hlt).1 this) (by omega)
    ·omega
   subst hit
   have hlo : l[i]? = some l[i] := List.getElem?_eq_getElem hlt
   rw [List.drop_eq_getElem_cons hlt, wl_cons] at hw
   have hnext : ∀ a' w', wl r P l.toArray Q (l.drop (i + 1)) a' w' → wpAnyIn (Fw r) 0 P .any l.toArray Q fuel (listed.setIfInBounds i true) a' w' := fun a' w' hh => by
    refine ih (i + 1) _ a' w' (by omega) (by omega) (by simpa using hsz) (fun k hk => ?_) (by omega) hh
    rw [listed_set, hL k hk]
    omega
   unfold wpOpIn
   simp only [List.getElem?_toArray, hlo]
   by_cases hwn : Region.wanted l[i] (yielded l.toArray a.tmps) = true
   ·rw [if_pos hwn] at hw
    rw [if_pos hwn]
    exact ⟨fun _ _ => trivial, uponIn_mono2 hnext (fun _ _ _ h => h) id hw⟩
   ·rw [if_neg hwn] at hw
    rw [if_neg hwn]
    exact ⟨fun _ _ => trivial, hnext _ _ hw⟩
  ·refine ⟨fun _ => by rw [List.drop_eq_nil_of_le (by omega), wl_nil] at hw; exact hw, fun i hi => ?_⟩
   rw [mem_ready'] at hi
   obtain ⟨h1, ⟨o, ho⟩, _⟩ := hi
   have hil := (List.getElem?_eq_some_iff.1 ho).1
   have := (hL i hil).2 (by omega)
   rw [getD_two (by omega) false true, h1] at this
   cases this
def putE : Option Nat → Value → Env → Env
 | some k, v, e => (k, v) :: e
 | none, _, e => e
def rdO (e : Env) : Option Nat → Value
 | some k => rd e k
 | none => undef
def opPostD (n : Nat) (ds : List Deferred) (St : World → World → Prop) (f : Env → Value → World → Prop) (d : Option Nat) (e' : Env) (W : World) : Exit → Act → World → Prop :=
 fun ex a' W' => ex = .normal ∧ ∃ v, (d = none → v = undef) ∧ a' = act n (putE d v e') ds ∧ St W W' ∧ f e' v W'
theorem any_headD {l : List Oper} {m : Nat} (hB : waitB l m = true) (C : World → Prop) (St : Nat → World → World → Prop) (F : Nat → Env → Value → World → Prop) (dead : Nat → Nat → Bool) (Dom : Nat → List Nat)
  (hC : ∀ k W W', C W → St k W W' → C W') (hF : ∀ i k a v W W', i ≠ k → dead i k = false → F i a v W → St k W W' → F i a v W') (hcong : ∀ i a1 a2 v W, (∀ d ∈ Dom i, rd a1 d = rd a2 d) → F i a1 v W → F i a2 v W)
  (hDom : ∀ i, i < m → ∀ d ∈ Dom i, ∃ j, j ∈ clo l 10 (depsOf l i) ∧ j < m ∧ (l[j]?).bind (·.dst) = some d)
  (hop : ∀ i o, i < m → l[i]? = some o → ∀ e' W, Off (headDs l m) e' e → C W → (∀ j, j ∈ clo l 10 (depsOf l i) → (∀ x, dead j x = true → x = i ∨ i ∈ clo l 10 (depsOf l x)) → F j e' (rdO e' ((l[j]?).bind (·.dst))) W) → wl r P l.toArray (opPostD n ds (St i) (F i) o.dst e' W) [o] (act n e' ds) W)
  (htail : ∀ e' W, Off (headDs l m) e' e → C W → (∀ i, i < m → (∀ x, x < m → dead i x = false) → F i e' (rdO e' ((l[i]?).bind (·.dst))) W) → wl r P l.toArray Q (l.drop m) (act n e' ds) W) :
  ∀ (fuel : Nat) (listed : Array Bool) (e' : Env) (W : World), listed.size = l.length → (∀ j, listed.getD j false = true → j < m ∧ ∀ d ∈ depsOf l j, listed.getD d false = true) → listed.count false ≤ fuel →
   Off (headDs l m) e' e → C W → (∀ i, listed.getD i false = true → (∀ x, dead i x = true → listed.getD x false = false) → F i e' (rdO e' ((l[i]?).bind (·.dst))) W) → wpAnyIn (Fw r) 0 P .any l.toArray Q fuel listed (act n e' ds) W := by
 have hB' := hB
 simp only [waitB, Bool.and_eq_true, List.all_eq_true, List.mem_range, Bool.or_eq_true, Nat.blt_eq, List.contains_eq_mem, decide_eq_true_eq, Nat.ble_eq] at hB
 obtain ⟨⟨⟨hdep, hap⟩, hml⟩, hcl⟩ := hB
 have tolist : ∀ (fuel : Nat) (listed : Array Bool) (e' : Env) (W : World), listed.size = l.length → (∀ j, listed.getD j false = true → j < m ∧ ∀ d ∈ depsOf l j, listed.getD d false = true) → (∀ k, k < m → listed.getD k false = true) → listed.count false ≤ fuel →
   Off (headDs l m) e' e → C W → (∀ i, listed.getD i false = true → (∀ x, dead i x = true → listed.getD x false = false) → F i e' (rdO e' ((l[i]?).bind (·.dst))) W) → wpAnyIn (Fw r) 0 P .any l.toArray Q fuel listed (act n e' ds) W := by
  intro fuel listed e' W hsz hL hall hfuel hoff hS hFs
  have hLm : ∀ k, k < l.length → (listed.getD k false = true ↔ k < m) := fun k hk => ⟨fun h => (hL k h).1, fun h => hall k h⟩
  have hcnt : l.length ≤ m + fuel := by
   have hc : listed.count false = l.length - m := by
    have e1 : listed = (List.replicate m true ++ List.replicate (l.length - m) false).toArray := by
     apply Array.ext
     ·simp; omega
     ·intro i h1 h2
      have hk : i < l.length := by omega
      have h3 := hLm i hk
      rw [Array.getD_eq_getD_getElem?, Array.getElem?_eq_getElem h1, Option.getD_some] at h3
      simp only [List.getElem_toArray, List.getElem_append, List.length_replicate, List.getElem_replicate]
      by_cases h : i < m
      ·rw [dif_pos h]; exact h3.2 h
      ·rw [dif_neg h]
       cases hb : listed[i] with
       | false => rfl
       | true => exact absurd (h3.1 hb) h
    rw [e1]
    simp [List.count_replicate]
   omega
  exact any_tail' hB' fuel m listed _ W (Nat.le_refl _) hml hsz hLm hcnt (htail e' W hoff hS fun i hi hx => hFs i (hall i hi) fun x hd => by
   cases hb : listed.getD x false with
   | false => rfl
   | true => rw [hx x (hL x hb).1] at hd; cases hd)
 intro fuel
 induction fuel with
 | zero =>
  intro listed e' W hsz hL hfuel hoff hS hFs
  refine tolist 0 listed e' W hsz hL (fun k hk => ?_) hfuel hoff hS hFs
  have := left_zero (by omega : listed.count false = 0) k
  rwa [getD_two (by omega) false true]
 | succ fuel ih =>
  intro listed e' W hsz hL hfuel hoff hS hFs
  by_cases hall : ∀ k, k < m → listed.getD k false = true
  ·exact tolist (fuel + 1) listed e' W hsz hL hall hfuel hoff hS hFs
  ·have hex : ∃ k, k < m ∧ listed.getD k false = false := by
    apply Classical.byContradiction
    intro hn
    exact hall fun k hk => by
     cases hb : listed.getD k false with
     | true => rfl
     | false => exact absurd ⟨k, hk, hb⟩ hn
   obtain ⟨k0, ⟨hk0, hu0⟩, hmin⟩ := least hex
   have hr0 : k0 ∈ Region.ready .any l.toArray listed := mem_ready'.2 ⟨by rw [getD_two (by omega) true false]; exact hu0, ⟨l[k0]'(by omega), List.getElem?_eq_getElem (by omega)⟩, fun d hd => by
    have h1 := hdep k0 (by omega) d hd
    cases hb : listed.getD d false with
    | true => rfl
    | false => have := hmin d ⟨by omega, hb⟩; omega⟩
   refine ⟨fun h0 => (by rw [h0] at hr0; cases hr0), fun i hi => ?_⟩
   rw [mem_ready'] at hi
   obtain ⟨h1, ⟨o, ho⟩, h2⟩ := hi
   have hil := (List.getElem?_eq_some_iff.1 ho).1
   have hui : listed.getD i false = false := by rw [getD_two (by omega) false true]; exact h1
   have hclo : ∀ j, j ∈ clo l 10 (depsOf l i) → listed.getD j false = true := clo_listed (l := l) (listed := listed) (fun j hj => (hL j hj).2) 10 _ h2
   have him : i < m := by
    rcases Nat.lt_or_ge i m with h | h
    ·exact h
    ·rcases hcl i hil with hc | hc
     ·exact hc
     ·have := hclo k0 (hc k0 (by omega))
      rw [hu0] at this; cases this
   have hgo := hop i o him ho e' W hoff hS fun j hj hx => hFs j (hclo j hj) fun x hd => by
    cases hb : listed.getD x false with
    | false => rfl
    | true =>
     rcases hx x hd with rfl | hx
     ·rw [hui] at hb; cases hb
     ·have := clo_listed (l := l) (listed := listed) (fun j hj => (hL j hj).2) 10 _ (hL x hb).2 i hx
      rw [hui] at this; cases this
   have hnext : ∀ a' W', opPostD n ds (St i) (F i) o.dst e' W .normal a' W' → wpAnyIn (Fw r) 0 P .any l.toArray Q fuel (listed.setIfInBounds i true) a' W' := by
    rintro a' W' ⟨_, v, hv0, rfl, hS', hf⟩
    have htk : (l.take m)[i]? = some o := by rw [List.getElem?_take, if_pos him]; exact ho
    have hoff' : Off (headDs l m) (putE o.dst v e') e := by
     cases hk : o.dst with
     | none => exact hoff
     | some k =>
      refine off_cons ?_ hoff
      simp only [headDs, List.contains_eq_mem, decide_eq_true_eq, List.mem_filterMap]
      exact ⟨o, List.mem_of_getElem? htk, hk⟩
    have hkeep : ∀ j d, j ≠ i → j < m → (l[j]?).bind (·.dst) = some d → rd (putE o.dst v e') d = rd e' d := by
     intro j d hji hjm hd
     cases hk : o.dst with
     | none => rfl
     | some k =>
      have hdk : d ≠ k := by
       rintro rfl
       obtain ⟨oj, hoj, hdj⟩ := Option.bind_eq_some_iff.1 hd
       exact apartN_ne hap j i d hji (by rw [List.getElem?_map, List.getElem?_take, if_pos hjm, hoj]; simp [hdj]) (by rw [List.getElem?_map, htk]; simp [hk])
      simp only [putE, rd, beq_false (Ne.symm hdk), cond_false]
    have hdom : ∀ j, (j = i ∨ listed.getD j false = true) → j < m → ∀ d ∈ Dom j, rd (putE o.dst v e') d = rd e' d := by
     intro j hj hjm d hd
     obtain ⟨x, hx, hxm, hxd⟩ := hDom j hjm d hd
     refine hkeep x d (fun hxi => ?_) hxm hxd
     have : listed.getD i false = true := by
      rw [← hxi]
      rcases hj with hj | hj
      ·rw [hj] at hx; exact hclo x hx
      ·exact clo_listed (l := l) (listed := listed) (fun j hj => (hL j hj).2) 10 _ (hL j hj).2 x hx
     rw [hui] at this; cases this
    refine ih _ (putE o.dst v e') W' (by simpa using hsz) (fun j hj => ?_) (by have := left_set h1; omega) hoff' (hC _ _ _ hS hS') (fun j hj hx => ?_)
    ·rw [listed_set] at hj
     rcases hj with hj | ⟨rfl, _⟩
     ·exact ⟨(hL j hj).1, fun d hd => listed_set.2 (.inl ((hL j hj).2 d hd))⟩
     ·exact ⟨him, fun d hd => listed_set.2 (.inl (h2 d hd))⟩
    ·rcases Nat.decEq j i with hji | rfl
     ·rw [listed_set] at hj
      rcases hj with hj | ⟨rfl, _⟩
      ·have hjm := (hL j hj).1
       have hnd : dead j i = false := by
        cases hb : dead j i with
        | false => rfl
        | true =>
         have := hx i hb
         have h3 : (listed.setIfInBounds i true).getD i false = true := listed_set.2 (.inr ⟨rfl, by omega⟩)
         rw [h3] at this; cases this
       have hf0 := hFs j hj fun x hd => by
        cases hb : listed.getD x false with
        | false => rfl
        | true => have := hx x hd; rw [listed_set.2 (.inl hb)] at this; cases this
       have hval : rdO (putE o.dst v e') ((l[j]?).bind (·.dst)) = rdO e' ((l[j]?).bind (·.dst)) := by
        cases hd : (l[j]?).bind (·.dst) with
        | none => rfl
        | some d => exact hkeep j d hji hjm hd
       rw [hval]
       exact hcong _ _ _ _ _ (fun d hd => (hdom j (.inr hj) hjm d hd).symm) (hF _ _ _ _ _ _ hji hnd hf0 hS')
      ·exact absurd rfl hji
     ·rw [ho, Option.bind_some]
      have hval : rdO (putE o.dst v e') o.dst = v := by
       cases hk : o.dst with
       | none => exact (hv0 hk).symm
       | some k => simp [rdO, putE, rd]
      rw [hval]
      exact hcong _ _ _ _ _ (fun d hd => (hdom j (.inl rfl) him d hd).symm) hf
   rw [wl_cons] at hgo
   unfold wpOpIn
   simp only [List.getElem?_toArray, ho]
   by_cases hwn : Region.wanted o (yielded l.toArray (act n e' ds).tmps) = true
   ·rw [if_pos hwn] at hgo
    rw [if_pos hwn]
    refine ⟨fun _ _ => trivial, uponIn_mono2 (fun a w h => hnext a w (by rwa [wl_nil] at h)) (fun _ _ _ h => by cases h.1) (fun ⟨_, _, h⟩ => by cases h.1) hgo⟩
   ·rw [if_neg hwn, wl_nil] at hgo
    rw [if_neg hwn]
    exact ⟨fun _ _ => trivial, hnext _ _ hgo⟩
abbrev Fact := List Nat × (List Value → Value → World → Prop)
def FD (Fs : List Fact) (i : Nat) (a : Env) (v : Value) (W : World) : Prop := match Fs[i]? with
 | some p => p.2 (p.1.map (rd a)) v W
 | none => True
def DepsD (Fs : List Fact) (W : World) (K : Env → Prop) : List (Nat × Option Nat) → Env → Prop
 | [], acc => K acc
 | (i, some d) :: ps, acc => ∀ v, FD Fs i acc v W → DepsD Fs W K ps (acc ++ [(d, v)])
 | (i, none) :: ps, acc => FD Fs i acc undef W → DepsD Fs W K ps acc
def askB (Fs : List Fact) : List (Nat × Option Nat) → List Nat → Bool
 | [], _ => true
 | (i, d) :: ps, seen => ((Fs[i]?).map (fun p => p.1.all seen.contains)).getD true && askB Fs ps (seen ++ d.toList)
theorem rd_append {a b : Env} {d : Nat} (h : (a.map (·.1)).contains d = true) : rd (a ++ b) d = rd a d := by
 induction a with
 | nil => simp at h
 | cons p a ih =>
  simp only [List.cons_append, rd]
  cases hb : Nat.beq p.1 d with
  | true => rfl
  | false =>
   simp only [cond_false]
   refine ih ?_
   simp only [List.map_cons, List.contains_cons, Bool.or_eq_true, beq_iff_eq] at h
   rcases h with h | h
   ·rw [h, Nat.beq_refl] at hb; cases hb
   ·exact h
def envOf (e' : Env) : List (Nat × Option Nat) → Env
 | [] => []
 | (_, some d) :: ps => (d, rd e' d) :: envOf e' ps
 | (_, none) :: ps => envOf e' ps
theorem has_envOf {e' : Env} : ∀ (K : List (Nat × Option Nat)), Has e' (envOf e' K)
 | [] => trivial
 | (_, some d) :: K => ⟨rfl, has_envOf K⟩
 | (_, none) :: K => has_envOf K
theorem rd_has {e' : Env} {d : Nat} : ∀ {g : Env}, Has e' g → (g.map (·.1)).contains d = true → rd g d = rd e' d
 | [], _, h => by simp at h
 | p :: g, hh, h => by
  simp only [rd]
  cases hb : Nat.beq p.1 d with
  | true =>
   rw [cond_true]
   have := Nat.eq_of_beq_eq_true hb
   rw [← this]; exact hh.1.symm
  | false =>
   rw [cond_false]
   refine rd_has hh.2 ?_
   simp only [List.map_cons, List.contains_cons, Bool.or_eq_true, beq_iff_eq] at h
   rcases h with h | h
   ·rw [h, Nat.beq_refl] at hb; cases hb
   ·exact h
theorem depsD_use {Fs : List Fact} {W : World} {K : Env → Prop} {e' : Env} : ∀ (ps : List (Nat × Option Nat)) (acc : Env), Has e' acc → askB Fs ps (acc.map (·.1)) = true → DepsD Fs W K ps acc → (∀ p ∈ ps, FD Fs p.1 e' (rdO e' p.2) W) → K (acc ++ envOf e' ps)
 | [], acc, _, _, h, _ => by rw [envOf, List.append_nil]; exact h
 | (i, d) :: ps, acc, hh, hb, h, hp => by
  simp only [askB, Bool.and_eq_true] at hb
  have hf := hp (i, d) (by simp)
  have hf' : FD Fs i acc (rdO e' d) W := by
   unfold FD at hf ⊢
   cases hi : Fs[i]? with
   | none => trivial
   | some p =>
    rw [hi] at hf
    have h1 := hb.1
    rw [hi, Option.map_some, Option.getD_some, List.all_eq_true] at h1
    have : p.1.map (rd acc) = p.1.map (rd e') := List.map_congr_left fun x hx => rd_has hh (h1 x hx)
    simp only at hf ⊢
    rw [this]; exact hf
  cases d with
  | none =>
   have := depsD_use ps acc hh (by simpa using hb.2) (h hf') (fun q hq => hp q (by simp [hq]))
   simpa [envOf] using this
  | some d =>
   have hh' : Has e' (acc ++ [(d, rd e' d)]) := by
    clear hb h hf hf'
    induction acc with
    | nil => exact ⟨rfl, trivial⟩
    | cons p acc ih => exact ⟨hh.1, ih hh.2⟩
   have := depsD_use ps _ hh' (by simpa using hb.2) (h _ hf') (fun q hq => hp q (by simp [hq]))
   simpa [envOf] using this
def OpsD (r : Option Nat) (P : Program) (n : Nat) (e : Env) (ds : List Deferred) (l : List Oper) (J : List Nat) (C : World → Prop) (St : Nat → World → World → Prop) (Fs : List Fact) : Nat → List Oper → List (List (Nat × Option Nat)) → Prop
 | i, o :: os, K :: Ks => (∀ jv W, C W → DepsD Fs W (fun g => wl r P l.toArray (opPostD n ds (St i) (FD Fs i) o.dst (ovr g J jv e) W) [o] (act n (ovr g J jv e) ds) W) K []) ∧ OpsD r P n e ds l J C St Fs (i + 1) os Ks
 | _, [], _ => True
 | _, _ :: _, [] => False
def knowB (l : List Oper) (m : Nat) (dead : List (Nat × Nat)) (Fs : List Fact) : Nat → List (List (Nat × Option Nat)) → Bool
 | _, [] => true
 | i, K :: Ks => askB Fs K [] && K.all (fun p => (clo l 10 (depsOf l i)).contains p.1 && ((l[p.1]?).bind (·.dst) == p.2) && dead.all fun q => !(q.1 == p.1) || q.2 == i || (clo l 10 (depsOf l q.2)).contains i) && knowB l m dead Fs (i + 1) Ks
def domB (l : List Oper) (m : Nat) (Fs : List Fact) : Bool := (List.range m).all fun i => ((Fs[i]?).map (fun p => p.1.all fun d => (clo l 10 (depsOf l i)).any fun j => Nat.blt j m && ((l[j]?).bind (·.dst) == some d))).getD true
theorem opsD_get {l : List Oper} {m : Nat} {J : List Nat} {C : World → Prop} {St : Nat → World → World → Prop} {Fs : List Fact} {dead : List (Nat × Nat)} : ∀ {os : List Oper} {Ks : List (List (Nat × Option Nat))} {i0 : Nat}, OpsD r P n e ds l J C St Fs i0 os Ks → knowB l m dead Fs i0 Ks = true → ∀ i o, os[i]? = some o →
  ∃ K : List (Nat × Option Nat), askB Fs K [] = true ∧ (∀ p ∈ K, p.1 ∈ clo l 10 (depsOf l (i0 + i)) ∧ (l[p.1]?).bind (·.dst) = p.2 ∧ ∀ x, dead.contains (p.1, x) = true → x = i0 + i ∨ i0 + i ∈ clo l 10 (depsOf l x)) ∧
   ∀ jv W, C W → DepsD Fs W (fun g => wl r P l.toArray (opPostD n ds (St (i0 + i)) (FD Fs (i0 + i)) o.dst (ovr g J jv e) W) [o] (act n (ovr g J jv e) ds) W) K []
 | [], _, _, _, _, i, o, h => by cases h
 | _ :: _, [], _, h, _, _, _, _ => h.elim
 | o' :: os, K :: Ks, i0, h, hb, 0, o, ho => by
  simp only [List.getElem?_cons_zero, Option.some.injEq] at ho
  subst ho
  simp only [knowB, Bool.and_eq_true, List.all_eq_true, List.contains_eq_mem, decide_eq_true_eq, beq_iff_eq, Bool.or_eq_true, Bool.not_eq_true'] at hb
  refine ⟨K, hb.1.1, fun p hp => ⟨(hb.1.2 p hp).1.1, (hb.1.2 p hp).1.2, fun x hx => ?_⟩, h.1⟩
  rw [List.contains_eq_mem, decide_eq_true_eq] at hx
  rcases (hb.1.2 p hp).2 _ hx with (h1 | h1) | h1
  ·simp at h1
  ·exact .inl h1
  ·exact .inr h1
 | o' :: os, K :: Ks, i0, h, hb, i + 1, o, ho => by
  simp only [List.getElem?_cons_succ] at ho
  simp only [knowB, Bool.and_eq_true] at hb
  obtain ⟨K', h0, h1, h2⟩ := opsD_get h.2 hb.2 i o ho
  rw [show i0 + 1 + i = i0 + (i + 1) by omega] at h1 h2
  exact ⟨K', h0, h1, h2⟩
theorem has_self {e' : Env} : ∀ (J : List Nat), Has e' (J.map fun t => (t, rd e' t))
 | [] => trivial
 | _ :: J => ⟨rfl, has_self J⟩
theorem act_envOf {J : List Nat} {e' : Env} (K : List (Nat × Option Nat)) (h : Off J e' e) : act n e' ds = act n (ovr (envOf e' K) J (rd e') e) ds := act_ovr (off_more h) (has_envOf K)
theorem opD_done {St : World → World → Prop} {f : Env → Value → World → Prop} {k : Nat} {v : Value} {e' : Env} {W W' : World} (hS : St W W') (hf : f e' v W') : opPostD n ds St f (some k) e' W .normal (act n ((k, v) :: e') ds) W' := ⟨rfl, v, (fun h => by cases h), rfl, hS, hf⟩
theorem opD_none {St : World → World → Prop} {f : Env → Value → World → Prop} {e' : Env} {W W' : World} (hS : St W W') (hf : f e' undef W') : opPostD n ds St f none e' W .normal (act n e' ds) W' := ⟨rfl, undef, fun _ => rfl, rfl, hS, hf⟩
theorem putE_ovr {d : Option Nat} {v : Value} {e1 e2 : Env} (h : act n e1 ds = act n e2 ds) : act n (putE d v e1) ds = act n (putE d v e2) ds := by
 cases d with
 | none => exact h
 | some k => show act n ((k, v) :: e1) ds = act n ((k, v) :: e2) ds; rw [← act_put, ← act_put, h]
theorem s_anyD {id : Nat} {l : List Oper} (m : Nat) (J : List Nat) (Ks : List (List (Nat × Option Nat))) (Kt : List (Nat × Option Nat)) (C : World → Prop) (St : Nat → World → World → Prop) (dead : List (Nat × Nat)) (Fs : List Fact) (hm : P.follows .mixedOrders = true)
  (hB : waitB l m = true) (hJ : headDs l m = J) (hK : knowB l m dead Fs 0 Ks = true) (hD : domB l m Fs = true)
  (hKt : (askB Fs Kt [] && Kt.all fun p => Nat.blt p.1 m && ((l[p.1]?).bind (·.dst) == p.2) && dead.all fun q => !(q.1 == p.1)) = true)
  (hd : C { w with drawn := w.drawn + 1 }) (hC : ∀ k W W', C W → St k W W' → C W')
  (hF : ∀ i k v W W' vs, i ≠ k → dead.contains (i, k) = false → (∀ p, Fs[i]? = some p → p.2 vs v W → St k W W' → p.2 vs v W'))
  (hops : OpsD r P n e ds l J C St Fs 0 (l.take m) Ks)
  (htail : ∀ jv W, C W → DepsD Fs W (fun g => wl r P l.toArray Q (l.drop m) (act n (ovr g J jv e) ds) W) Kt []) :
  (Code.region id l.toArray true).wpIn (Fw r) 0 P Q (act n e ds) w := by
 have hcong : ∀ i a1 a2 v W, (∀ d ∈ ((Fs[i]?).map (·.1)).getD [], rd a1 d = rd a2 d) → FD Fs i a1 v W → FD Fs i a2 v W := by
  intro i a1 a2 v W h hf
  unfold FD at hf ⊢
  cases hi : Fs[i]? with
  | none => trivial
  | some p =>
   rw [hi] at hf h
   have : p.1.map (rd a1) = p.1.map (rd a2) := List.map_congr_left fun x hx => h x (by simpa using hx)
   simp only at hf ⊢
   rw [← this]; exact hf
 have hf := any_headD (r := r) (P := P) (Q := Q) (n := n) (e := e) (ds := ds) hB C St (FD Fs) (fun i k => dead.contains (i, k)) (fun i => ((Fs[i]?).map (·.1)).getD []) hC
  (fun i k a v W W' hik hdd hfa hst => by
   unfold FD at hfa ⊢
   cases hi : Fs[i]? with
   | none => trivial
   | some p => rw [hi] at hfa; exact hF i k v W W' _ hik hdd p hi hfa hst)
  hcong
  (fun i him d hd => by
   simp only [domB, List.all_eq_true, List.mem_range] at hD
   have := hD i him
   cases hi : Fs[i]? with
   | none => rw [hi] at hd; simp at hd
   | some p =>
    rw [hi] at hd this
    simp only [Option.map_some, Option.getD_some, List.all_eq_true, List.any_eq_true, Bool.and_eq_true, Nat.blt_eq, beq_iff_eq] at hd this
    obtain ⟨j, h1, h2, h3⟩ := this d hd
    exact ⟨j, h1, h2, h3⟩)
  (fun i o him ho e' W hoff hS hdep => by
   obtain ⟨K, h0, h1, h2⟩ := opsD_get hops hK i o (by rw [List.getElem?_take, if_pos him]; exact ho)
   rw [Nat.zero_add] at h1 h2
   rw [hJ] at hoff
   have h3 := depsD_use (e' := e') K [] trivial h0 (h2 (rd e') W hS) (fun p hp => by
    have := hdep p.1 (h1 p hp).1 (h1 p hp).2.2
    rwa [(h1 p hp).2.1] at this)
   rw [List.nil_append] at h3
   have h4 := act_envOf (n := n) (ds := ds) K hoff
   rw [← h4] at h3
   have h5 : ∀ ex a' W', opPostD n ds (St i) (FD Fs i) o.dst (ovr (envOf e' K) J (rd e') e) W ex a' W' → opPostD n ds (St i) (FD Fs i) o.dst e' W ex a' W' := by
    rintro ex a' W' ⟨h6, v, h7, rfl, h8, h9⟩
    refine ⟨h6, v, h7, (putE_ovr h4).symm, h8, hcong _ _ _ _ _ (fun d hd => ?_) h9⟩
    have hall : ∀ t, rd (ovr (envOf e' K) J (rd e') e) t = rd e' t := by
     intro t
     by_cases hc : ((envOf e' K).map (·.1)).contains t = true
     ·unfold ovr
      rw [rd_append hc]
      exact rd_has (has_envOf K) hc
     ·have h10 : rd (ovr (envOf e' K) J (rd e') e) t = rd (J.map (fun t => (t, rd e' t)) ++ e) t := by
       unfold ovr
       clear h9 h8 h7 h6 h3 h4
       generalize envOf e' K = g at hc
       induction g with
       | nil => rfl
       | cons p g ih =>
        simp only [List.map_cons, List.contains_cons, Bool.or_eq_true, beq_iff_eq, not_or] at hc
        simp only [List.cons_append, rd]
        rw [beq_false (fun h => hc.1 h.symm), cond_false]
        exact ih hc.2
      rw [h10]
      by_cases hj : J.contains t = true
      ·have h11 : ((J.map (fun t => (t, rd e' t))).map (·.1)).contains t = true := by simpa using hj
       rw [rd_append h11]
       exact rd_has (has_self J) h11
      ·have h12 : J.contains t = false := by simpa using hj
       rw [hoff t h12]
       have h11 : ∀ (J' : List Nat), J'.contains t = false → rd (J'.map (fun t => (t, rd e' t)) ++ e) t = rd e t := by
        intro J' hJ'
        induction J' with
        | nil => rfl
        | cons k J' ih =>
         simp only [List.contains_cons, Bool.or_eq_false_iff, beq_eq_false_iff_ne] at hJ'
         simp only [List.map_cons, List.cons_append, rd]
         rw [beq_false (Ne.symm hJ'.1), cond_false]
         exact ih hJ'.2
       exact h11 J h12
    exact hall d
   rw [wl_cons] at h3 ⊢
   split at h3
   ·rename_i hw
    rw [if_pos hw]
    exact uponIn_mono2 (fun a w h => by rw [wl_nil] at h ⊢; exact h5 _ _ _ h) (fun _ _ _ h => by cases h.1) (fun ⟨_, _, h⟩ => by cases h.1) h3
   ·rename_i hw
    rw [if_neg hw]
    rw [wl_nil] at h3 ⊢
    exact h5 _ _ _ h3)
  (fun e' W hoff hS hfs => by
   rw [hJ] at hoff
   simp only [List.all_eq_true, Bool.and_eq_true, Nat.blt_eq, beq_iff_eq, Bool.not_eq_true'] at hKt
   have h3 := depsD_use (e' := e') Kt [] trivial hKt.1 (htail (rd e') W hS) (fun p hp => by
    have := hfs p.1 (hKt.2 p hp).1.1 (fun x _ => by
     cases hb : dead.contains (p.1, x) with
     | false => rfl
     | true =>
      rw [List.contains_eq_mem, decide_eq_true_eq] at hb
      have := (hKt.2 p hp).2 _ hb
      simp at this)
    rwa [(hKt.2 p hp).1.2] at this)
   rw [List.nil_append, ← act_envOf (n := n) (ds := ds) Kt hoff] at h3
   exact h3)
  l.length (Array.replicate l.length false) e { w with drawn := w.drawn + 1 } (by simp) (fun j hj => by rw [getD_replicate_false] at hj; cases hj) (by simp [Array.count_replicate]) off_refl hd (fun j hj => by rw [getD_replicate_false] at hj; cases hj)
 refine wpIn_region_any hm ?_
 rw [List.size_toArray]
 exact hf
abbrev G0 (a b : World) : Prop := a.grownBy b none
theorem g0_drawn : G0 w { w with drawn := w.drawn + 1 } := ⟨rfl, rfl, rfl, Nat.le_refl _, fun _ _ _ => rfl⟩
theorem g0_trans (a b c : World) (h : G0 a b) (k : G0 b c) : G0 a c := World.grownBy.trans h k
theorem any_headR {l : List Oper} {m : Nat} (hB : waitB l m = true) (C : World → Prop) (St : Nat → World → World → Prop) (F : Nat → Env → Value → World → Prop) (dead : Nat → Nat → Bool) (Dom : Nat → List Nat) (Rs : Nat → World → Prop) (hRs : ∀ i k W W', i ≠ k → Rs i W → St k W W' → Rs i W')
  (hC : ∀ k W W', C W → St k W W' → C W') (hF : ∀ i k a v W W', i ≠ k → dead i k = false → F i a v W → St k W W' → F i a v W') (hcong : ∀ i a1 a2 v W, (∀ d ∈ Dom i, rd a1 d = rd a2 d) → F i a1 v W → F i a2 v W)
  (hDom : ∀ i, i < m → ∀ d ∈ Dom i, ∃ j, j ∈ clo l 10 (depsOf l i) ∧ j < m ∧ (l[j]?).bind (·.dst) = some d)
  (hop : ∀ i o, i < m → l[i]? = some o → ∀ e' W, Off (headDs l m) e' e → C W → Rs i W → (∀ j, j ∈ clo l 10 (depsOf l i) → (∀ x, dead j x = true → x = i ∨ i ∈ clo l 10 (depsOf l x)) → F j e' (rdO e' ((l[j]?).bind (·.dst))) W) → wl r P l.toArray (opPostD n ds (St i) (F i) o.dst e' W) [o] (act n e' ds) W)
  (htail : ∀ e' W, Off (headDs l m) e' e → C W → (∀ i, i < m → (∀ x, x < m → dead i x = false) → F i e' (rdO e' ((l[i]?).bind (·.dst))) W) → wl r P l.toArray Q (l.drop m) (act n e' ds) W) :
  ∀ (fuel : Nat) (listed : Array Bool) (e' : Env) (W : World), listed.size = l.length → (∀ j, listed.getD j false = true → j < m ∧ ∀ d ∈ depsOf l j, listed.getD d false = true) → listed.count false ≤ fuel →
   Off (headDs l m) e' e → C W → (∀ i, i < m → listed.getD i false = false → Rs i W) → (∀ i, listed.getD i false = true → (∀ x, dead i x = true → listed.getD x false = false) → F i e' (rdO e' ((l[i]?).bind (·.dst))) W) → wpAnyIn (Fw r) 0 P .any l.toArray Q fuel listed (act n e' ds) W := by
 have hB' := hB
 simp only [waitB, Bool.and_eq_true, List.all_eq_true, List.mem_range, Bool.or_eq_true, Nat.blt_eq, List.contains_eq_mem, decide_eq_true_eq, Nat.ble_eq] at hB
 obtain ⟨⟨⟨hdep, hap⟩, hml⟩, hcl⟩ := hB
 have tolist : ∀ (fuel : Nat) (listed : Array Bool) (e' : Env) (W : World), listed.size = l.length → (∀ j, listed.getD j false = true → j < m ∧ ∀ d ∈ depsOf l j, listed.getD d false = true) → (∀ k, k < m → listed.getD k false = true) → listed.count false ≤ fuel →
   Off (headDs l m) e' e → C W → (∀ i, listed.getD i false = true → (∀ x, dead i x = true → listed.getD x false = false) → F i e' (rdO e' ((l[i]?).bind (·.dst))) W) → wpAnyIn (Fw r) 0 P .any l.toArray Q fuel listed (act n e' ds) W := by
  intro fuel listed e' W hsz hL hall hfuel hoff hS hFs
  have hLm : ∀ k, k < l.length → (listed.getD k false = true ↔ k < m) := fun k hk => ⟨fun h => (hL k h).1, fun h => hall k h⟩
  have hcnt : l.length ≤ m + fuel := by
   have hc : listed.count false = l.length - m := by
    have e1 : listed = (List.replicate m true ++ List.replicate (l.length - m) false).toArray := by
     apply Array.ext
     ·simp; omega
     ·intro i h1 h2
      have hk : i < l.length := by omega
      have h3 := hLm i hk
      rw [Array.getD_eq_getD_getElem?, Array.getElem?_eq_getElem h1, Option.getD_some] at h3
      simp only [List.getElem_toArray, List.getElem_append, List.length_replicate, List.getElem_replicate]
      by_cases h : i < m
      ·rw [dif_pos h]; exact h3.2 h
      ·rw [dif_neg h]
       cases hb : listed[i] with
       | false => rfl
       | true => exact absurd (h3.1 hb) h
    rw [e1]
    simp [List.count_replicate]
   omega
  exact any_tail' hB' fuel m listed _ W (Nat.le_refl _) hml hsz hLm hcnt (htail e' W hoff hS fun i hi hx => hFs i (hall i hi) fun x hd => by
   cases hb : listed.getD x false with
   | false => rfl
   | true => rw [hx x (hL x hb).1] at hd; cases hd)
 intro fuel
 induction fuel with
 | zero =>
  intro listed e' W hsz hL hfuel hoff hS hRl hFs
  refine tolist 0 listed e' W hsz hL (fun k hk => ?_) hfuel hoff hS hFs
  have := left_zero (by omega : listed.count false = 0) k
  rwa [getD_two (by omega) false true]
 | succ fuel ih =>
  intro listed e' W hsz hL hfuel hoff hS hRl hFs
  by_cases hall : ∀ k, k < m → listed.getD k false = true
  ·exact tolist (fuel + 1) listed e' W hsz hL hall hfuel hoff hS hFs
  ·have hex : ∃ k, k < m ∧ listed.getD k false = false := by
    apply Classical.byContradiction
    intro hn
    exact hall fun k hk => by
     cases hb : listed.getD k false with
     | true => rfl
     | false => exact absurd ⟨k, hk, hb⟩ hn
   obtain ⟨k0, ⟨hk0, hu0⟩, hmin⟩ := least hex
   have hr0 : k0 ∈ Region.ready .any l.toArray listed := mem_ready'.2 ⟨by rw [getD_two (by omega) true false]; exact hu0, ⟨l[k0]'(by omega), List.getElem?_eq_getElem (by omega)⟩, fun d hd => by
    have h1 := hdep k0 (by omega) d hd
    cases hb : listed.getD d false with
    | true => rfl
    | false => have := hmin d ⟨by omega, hb⟩; omega⟩
   refine ⟨fun h0 => (by rw [h0] at hr0; cases hr0), fun i hi => ?_⟩
   rw [mem_ready'] at hi
   obtain ⟨h1, ⟨o, ho⟩, h2⟩ := hi
   have hil := (List.getElem?_eq_some_iff.1 ho).1
   have hui : listed.getD i false = false := by rw [getD_two (by omega) false true]; exact h1
   have hclo : ∀ j, j ∈ clo l 10 (depsOf l i) → listed.getD j false = true := clo_listed (l := l) (listed := listed) (fun j hj => (hL j hj).2) 10 _ h2
   have him : i < m := by
    rcases Nat.lt_or_ge i m with h | h
    ·exact h
    ·rcases hcl i hil with hc | hc
     ·exact hc
     ·have := hclo k0 (hc k0 (by omega))
      rw [hu0] at this; cases this
   have hgo := hop i o him ho e' W hoff hS (hRl i him hui) fun j hj hx => hFs j (hclo j hj) fun x hd => by
    cases hb : listed.getD x false with
    | false => rfl
    | true =>
     rcases hx x hd with rfl | hx
     ·rw [hui] at hb; cases hb
     ·have := clo_listed (l := l) (listed := listed) (fun j hj => (hL j hj).2) 10 _ (hL x hb).2 i hx
      rw [hui] at this; cases this
   have hnext : ∀ a' W', opPostD n ds (St i) (F i) o.dst e' W .normal a' W' → wpAnyIn (Fw r) 0 P .any l.toArray Q fuel (listed.setIfInBounds i true) a' W' := by
    rintro a' W' ⟨_, v, hv0, rfl, hS', hf⟩
    have htk : (l.take m)[i]? = some o := by rw [List.getElem?_take, if_pos him]; exact ho
    have hoff' : Off (headDs l m) (putE o.dst v e') e := by
     cases hk : o.dst with
     | none => exact hoff
     | some k =>
      refine off_cons ?_ hoff
      simp only [headDs, List.contains_eq_mem, decide_eq_true_eq, List.mem_filterMap]
      exact ⟨o, List.mem_of_getElem? htk, hk⟩
    have hkeep : ∀ j d, j ≠ i → j < m → (l[j]?).bind (·.dst) = some d → rd (putE o.dst v e') d = rd e' d := by
     intro j d hji hjm hd
     cases hk : o.dst with
     | none => rfl
     | some k =>
      have hdk : d ≠ k := by
       rintro rfl
       obtain ⟨oj, hoj, hdj⟩ := Option.bind_eq_some_iff.1 hd
       exact apartN_ne hap j i d hji (by rw [List.getElem?_map, List.getElem?_take, if_pos hjm, hoj]; simp [hdj]) (by rw [List.getElem?_map, htk]; simp [hk])
      simp only [putE, rd, beq_false (Ne.symm hdk), cond_false]
    have hdom : ∀ j, (j = i ∨ listed.getD j false = true) → j < m → ∀ d ∈ Dom j, rd (putE o.dst v e') d = rd e' d := by
     intro j hj hjm d hd
     obtain ⟨x, hx, hxm, hxd⟩ := hDom j hjm d hd
     refine hkeep x d (fun hxi => ?_) hxm hxd
     have : listed.getD i false = true := by
      rw [← hxi]
      rcases hj with hj | hj
      ·rw [hj] at hx; exact hclo x hx
      ·exact clo_listed (l := l) (listed := listed) (fun j hj => (hL j hj).2) 10 _ (hL j hj).2 x hx
     rw [hui] at this; cases this
    refine ih _ (putE o.dst v e') W' (by simpa using hsz) (fun j hj => ?_) (by have := left_set h1; omega) hoff' (hC _ _ _ hS hS') (fun j hjm hj => ?_) (fun j hj hx => ?_)
    ·rw [listed_set] at hj
     rcases hj with hj | ⟨rfl, _⟩
     ·exact ⟨(hL j hj).1, fun d hd => listed_set.2 (.inl ((hL j hj).2 d hd))⟩
     ·exact ⟨him, fun d hd => listed_set.2 (.inl (h2 d hd))⟩
    ·have hji : j ≠ i := by
      rintro rfl
      rw [listed_set.2 (.inr ⟨rfl, by omega⟩)] at hj; cases hj
     have hju : listed.getD j false = false := by
      cases hb : listed.getD j false with
      | false => rfl
      | true => rw [listed_set.2 (.inl hb)] at hj; cases hj
     exact hRs j i W W' hji (hRl j hjm hju) hS'
    ·rcases Nat.decEq j i with hji | rfl
     ·rw [listed_set] at hj
      rcases hj with hj | ⟨rfl, _⟩
      ·have hjm := (hL j hj).1
       have hnd : dead j i = false := by
        cases hb : dead j i with
        | false => rfl
        | true =>
         have := hx i hb
         have h3 : (listed.setIfInBounds i true).getD i false = true := listed_set.2 (.inr ⟨rfl, by omega⟩)
         rw [h3] at this; cases this
       have hf0 := hFs j hj fun x hd => by
        cases hb : listed.getD x false with
        | false => rfl
        | true => have := hx x hd; rw [listed_set.2 (.inl hb)] at this; cases this
       have hval : rdO (putE o.dst v e') ((l[j]?).bind (·.dst)) = rdO e' ((l[j]?).bind (·.dst)) := by
        cases hd : (l[j]?).bind (·.dst) with
        | none => rfl
        | some d => exact hkeep j d hji hjm hd
       rw [hval]
       exact hcong _ _ _ _ _ (fun d hd => (hdom j (.inr hj) hjm d hd).symm) (hF _ _ _ _ _ _ hji hnd hf0 hS')
      ·exact absurd rfl hji
     ·rw [ho, Option.bind_some]
      have hval : rdO (putE o.dst v e') o.dst = v := by
       cases hk : o.dst with
       | none => exact (hv0 hk).symm
       | some k => simp [rdO, putE, rd]
      rw [hval]
      exact hcong _ _ _ _ _ (fun d hd => (hdom j (.inl rfl) him d hd).symm) hf
   rw [wl_cons] at hgo
   unfold wpOpIn
   simp only [List.getElem?_toArray, ho]
   by_cases hwn : Region.wanted o (yielded l.toArray (act n e' ds).tmps) = true
   ·rw [if_pos hwn] at hgo
    rw [if_pos hwn]
    refine ⟨fun _ _ => trivial, uponIn_mono2 (fun a w h => hnext a w (by rwa [wl_nil] at h)) (fun _ _ _ h => by cases h.1) (fun ⟨_, _, h⟩ => by cases h.1) hgo⟩
   ·rw [if_neg hwn, wl_nil] at hgo
    rw [if_neg hwn]
    exact ⟨fun _ _ => trivial, hnext _ _ hgo⟩
def OpsR (r : Option Nat) (P : Program) (n : Nat) (e : Env) (ds : List Deferred) (l : List Oper) (J : List Nat) (C : World → Prop) (St : Nat → World → World → Prop) (Fs : List Fact) (Rs : Nat → World → Prop) : Nat → List Oper → List (List (Nat × Option Nat)) → Prop
 | i, o :: os, K :: Ks => (∀ jv W, C W → Rs i W → DepsD Fs W (fun g => wl r P l.toArray (opPostD n ds (St i) (FD Fs i) o.dst (ovr g J jv e) W) [o] (act n (ovr g J jv e) ds) W) K []) ∧ OpsR r P n e ds l J C St Fs Rs (i + 1) os Ks
 | _, [], _ => True
 | _, _ :: _, [] => False
theorem opsR_get {l : List Oper} {m : Nat} {J : List Nat} {C : World → Prop} {St : Nat → World → World → Prop} {Fs : List Fact} {dead : List (Nat × Nat)} {Rs : Nat → World → Prop} : ∀ {os : List Oper} {Ks : List (List (Nat × Option Nat))} {i0 : Nat}, OpsR r P n e ds l J C St Fs Rs i0 os Ks → knowB l m dead Fs i0 Ks = true → ∀ i o, os[i]? = some o →
  ∃ K : List (Nat × Option Nat), askB Fs K [] = true ∧ (∀ p ∈ K, p.1 ∈ clo l 10 (depsOf l (i0 + i)) ∧ (l[p.1]?).bind (·.dst) = p.2 ∧ ∀ x, dead.contains (p.1, x) = true → x = i0 + i ∨ i0 + i ∈ clo l 10 (depsOf l x)) ∧
   ∀ jv W, C W → Rs (i0 + i) W → DepsD Fs W (fun g => wl r P l.toArray (opPostD n ds (St (i0 + i)) (FD Fs (i0 + i)) o.dst (ovr g J jv e) W) [o] (act n (ovr g J jv e) ds) W) K []
 | [], _, _, _, _, i, o, h => by cases h
 | _ :: _, [], _, h, _, _, _, _ => h.elim
 | o' :: os, K :: Ks, i0, h, hb, 0, o, ho => by
  simp only [List.getElem?_cons_zero, Option.some.injEq] at ho
  subst ho
  simp only [knowB, Bool.and_eq_true, List.all_eq_true, List.contains_eq_mem, decide_eq_true_eq, beq_iff_eq, Bool.or_eq_true, Bool.not_eq_true'] at hb
  refine ⟨K, hb.1.1, fun p hp => ⟨(hb.1.2 p hp).1.1, (hb.1.2 p hp).1.2, fun x hx => ?_⟩, h.1⟩
  rw [List.contains_eq_mem, decide_eq_true_eq] at hx
  rcases (hb.1.2 p hp).2 _ hx with (h1 | h1) | h1
  ·simp at h1
  ·exact .inl h1
  ·exact .inr h1
 | o' :: os, K :: Ks, i0, h, hb, i + 1, o, ho => by
  simp only [List.getElem?_cons_succ] at ho
  simp only [knowB, Bool.and_eq_true] at hb
  obtain ⟨K', h0, h1, h2⟩ := opsR_get h.2 hb.2 i o ho
  rw [show i0 + 1 + i = i0 + (i + 1) by omega] at h1 h2
  exact ⟨K', h0, h1, h2⟩
theorem s_anyR {id : Nat} {l : List Oper} (m : Nat) (J : List Nat) (Ks : List (List (Nat × Option Nat))) (Kt : List (Nat × Option Nat)) (C : World → Prop) (St : Nat → World → World → Prop) (dead : List (Nat × Nat)) (Fs : List Fact) (Rs : Nat → World → Prop) (hm : P.follows .mixedOrders = true)
  (hB : waitB l m = true) (hJ : headDs l m = J) (hK : knowB l m dead Fs 0 Ks = true) (hD : domB l m Fs = true)
  (hKt : (askB Fs Kt [] && Kt.all fun p => Nat.blt p.1 m && ((l[p.1]?).bind (·.dst) == p.2) && dead.all fun q => !(q.1 == p.1)) = true)
  (hd : C { w with drawn := w.drawn + 1 }) (hC : ∀ k W W', C W → St k W W' → C W') (hR0 : ∀ i, Rs i { w with drawn := w.drawn + 1 }) (hRs : ∀ i k W W', i ≠ k → Rs i W → St k W W' → Rs i W')
  (hF : ∀ i k v W W' vs, i ≠ k → dead.contains (i, k) = false → (∀ p, Fs[i]? = some p → p.2 vs v W → St k W W' → p.2 vs v W'))
  (hops : OpsR r P n e ds l J C St Fs Rs 0 (l.take m) Ks)
  (htail : ∀ jv W, C W → DepsD Fs W (fun g => wl r P l.toArray Q (l.drop m) (act n (ovr g J jv e) ds) W) Kt []) :
  (Code.region id l.toArray true).wpIn (Fw r) 0 P Q (act n e ds) w := by
 have hcong : ∀ i a1 a2 v W, (∀ d ∈ ((Fs[i]?).map (·.1)).getD [], rd a1 d = rd a2 d) → FD Fs i a1 v W → FD Fs i a2 v W := by
  intro i a1 a2 v W h hf
  unfold FD at hf ⊢
  cases hi : Fs[i]? with
  | none => trivial
  | some p =>
   rw [hi] at hf h
   have : p.1.map (rd a1) = p.1.map (rd a2) := List.map_congr_left fun x hx => h x (by simpa using hx)
   simp only at hf ⊢
   rw [← this]; exact hf
 have hf := any_headR (r := r) (P := P) (Q := Q) (n := n) (e := e) (ds := ds) hB C St (FD Fs) (fun i k => dead.contains (i, k)) (fun i => ((Fs[i]?).map (·.1)).getD []) Rs hRs hC
  (fun i k a v W W' hik hdd hfa hst => by
   unfold FD at hfa ⊢
   cases hi : Fs[i]? with
   | none => trivial
   | some p => rw [hi] at hfa; exact hF i k v W W' _ hik hdd p hi hfa hst)
  hcong
  (fun i him d hd => by
   simp only [domB, List.all_eq_true, List.mem_range] at hD
   have := hD i him
   cases hi : Fs[i]? with
   | none => rw [hi] at hd; simp at hd
   | some p =>
    rw [hi] at hd this
    simp only [Option.map_some, Option.getD_some, List.all_eq_true, List.any_eq_true, Bool.and_eq_true, Nat.blt_eq, beq_iff_eq] at hd this
    obtain ⟨j, h1, h2, h3⟩ := this d hd
    exact ⟨j, h1, h2, h3⟩)
  (fun i o him ho e' W hoff hS hri hdep => by
   obtain ⟨K, h0, h1, h2⟩ := opsR_get hops hK i o (by rw [List.getElem?_take, if_pos him]; exact ho)
   rw [Nat.zero_add] at h1 h2
   rw [hJ] at hoff
   have h3 := depsD_use (e' := e') K [] trivial h0 (h2 (rd e') W hS hri) (fun p hp => by
    have := hdep p.1 (h1 p hp).1 (h1 p hp).2.2
    rwa [(h1 p hp).2.1] at this)
   rw [List.nil_append] at h3
   have h4 := act_envOf (n := n) (ds := ds) K hoff
   rw [← h4] at h3
   have h5 : ∀ ex a' W', opPostD n ds (St i) (FD Fs i) o.dst (ovr (envOf e' K) J (rd e') e) W ex a' W' → opPostD n ds (St i) (FD Fs i) o.dst e' W ex a' W' := by
    rintro ex a' W' ⟨h6, v, h7, rfl, h8, h9⟩
    refine ⟨h6, v, h7, (putE_ovr h4).symm, h8, hcong _ _ _ _ _ (fun d hd => ?_) h9⟩
    have hall : ∀ t, rd (ovr (envOf e' K) J (rd e') e) t = rd e' t := by
     intro t
     by_cases hc : ((envOf e' K).map (·.1)).contains t = true
     ·unfold ovr
      rw [rd_append hc]
      exact rd_has (has_envOf K) hc
     ·have h10 : rd (ovr (envOf e' K) J (rd e') e) t = rd (J.map (fun t => (t, rd e' t)) ++ e) t := by
       unfold ovr
       clear h9 h8 h7 h6 h3 h4
       generalize envOf e' K = g at hc
       induction g with
       | nil => rfl
       | cons p g ih =>
        simp only [List.map_cons, List.contains_cons, Bool.or_eq_true, beq_iff_eq, not_or] at hc
        simp only [List.cons_append, rd]
        rw [beq_false (fun h => hc.1 h.symm), cond_false]
        exact ih hc.2
      rw [h10]
      by_cases hj : J.contains t = true
      ·have h11 : ((J.map (fun t => (t, rd e' t))).map (·.1)).contains t = true := by simpa using hj
       rw [rd_append h11]
       exact rd_has (has_self J) h11
      ·have h12 : J.contains t = false := by simpa using hj
       rw [hoff t h12]
       have h11 : ∀ (J' : List Nat), J'.contains t = false → rd (J'.map (fun t => (t, rd e' t)) ++ e) t = rd e t := by
        intro J' hJ'
        induction J' with
        | nil => rfl
        | cons k J' ih =>
         simp only [List.contains_cons, Bool.or_eq_false_iff, beq_eq_false_iff_ne] at hJ'
         simp only [List.map_cons, List.cons_append, rd]
         rw [beq_false (Ne.symm hJ'.1), cond_false]
         exact ih hJ'.2
       exact h11 J h12
    exact hall d
   rw [wl_cons] at h3 ⊢
   split at h3
   ·rename_i hw
    rw [if_pos hw]
    exact uponIn_mono2 (fun a w h => by rw [wl_nil] at h ⊢; exact h5 _ _ _ h) (fun _ _ _ h => by cases h.1) (fun ⟨_, _, h⟩ => by cases h.1) h3
   ·rename_i hw
    rw [if_neg hw]
    rw [wl_nil] at h3 ⊢
    exact h5 _ _ _ h3)
  (fun e' W hoff hS hfs => by
   rw [hJ] at hoff
   simp only [List.all_eq_true, Bool.and_eq_true, Nat.blt_eq, beq_iff_eq, Bool.not_eq_true'] at hKt
   have h3 := depsD_use (e' := e') Kt [] trivial hKt.1 (htail (rd e') W hS) (fun p hp => by
    have := hfs p.1 (hKt.2 p hp).1.1 (fun x _ => by
     cases hb : dead.contains (p.1, x) with
     | false => rfl
     | true =>
      rw [List.contains_eq_mem, decide_eq_true_eq] at hb
      have := (hKt.2 p hp).2 _ hb
      simp at this)
    rwa [(hKt.2 p hp).1.2] at this)
   rw [List.nil_append, ← act_envOf (n := n) (ds := ds) Kt hoff] at h3
   exact h3)
  l.length (Array.replicate l.length false) e { w with drawn := w.drawn + 1 } (by simp) (fun j hj => by rw [getD_replicate_false] at hj; cases hj) (by simp [Array.count_replicate]) off_refl hd (fun i _ _ => hR0 i) (fun j hj => by rw [getD_replicate_false] at hj; cases hj)
 refine wpIn_region_any hm ?_
 rw [List.size_toArray]
 exact hf
end any
end Go.Proofs.NV
