/- Part of the proof: A region that draws its order: operations that only read, or call what only adds, and behind them a tail in line.. Truths; Max; best of questions; Ask.. -/
import Derived.Test.YtbjnjlgeendakaaGreatDoorKb11
import Derived.Test.YtbjnjlgeendakaaGreatDoorKb12
set_option linter.unusedVariables false
set_option linter.unusedSimpArgs false
set_option maxRecDepth 100000
set_option maxHeartbeats 8000000
namespace Go.Proofs.NV
open Go.RowKit Go.Shelf
section quietT
variable {r : Option Nat} {P : Program} {Q : Exit → Act → World → Prop} {n : Nat} {e : Env} {ds : List Deferred} {w : World}
def seenB (l : List Oper) (m : Nat) : Bool := Region.noSelect l.toArray && (l.take m).all (fun o => match o.op with | .defer _ => false | _ => true) &&
 (List.range m).all fun i => ((l[i]?).map fun o => (o.looksAt l.toArray).all fun d => (List.range m).all fun j => !((l[j]?).bind (·.dst) == some d) || (Nat.blt j i && (clo l 10 (depsOf l i)).contains j)).getD true
def lexE : List Oper → List Value → Env → Env
 | o :: l, v :: vs, e => lexE l vs (putE o.dst v e)
 | _, _, e => e
theorem put_act (d : Option Nat) (v : Value) (e : Env) (ds : List Deferred) : (act n e ds).put d v = act n (putE d v e) ds := by
 cases d with
 | none => rfl
 | some d => rw [act_put]; rfl
theorem quiet_vals {ops : Array Oper} {C : World → Prop} {Qa : Act → Prop} : ∀ (l : List Oper) (e : Env), wpQuiet P ops C Qa l (act n e ds) → ∃ vs : List Value, vs.length = l.length ∧ (∀ i o v, l[i]? = some o → vs[i]? = some v → YieldsIn P ops C o v (act n (lexE (l.take i) (vs.take i) e) ds)) ∧ Qa (act n (lexE l vs e) ds)
 | [], e, h => ⟨[], rfl, (fun i o v h => by simp at h), h⟩
 | o :: l, e, h => by
  have key : ∃ v, YieldsIn P ops C o v (act n e ds) ∧ wpQuiet P ops C Qa l (act n (putE o.dst v e) ds) := by
   simp only [wpQuiet] at h
   by_cases hw : Region.wanted o (yielded ops (act n e ds).tmps) = true
   ·rw [if_pos hw] at h
    obtain ⟨v, h1, h2⟩ := h
    exact ⟨v, .inl ⟨hw, h1⟩, by rw [← put_act]; exact h2⟩
   ·rw [if_neg hw] at h
    exact ⟨undef, .inr ⟨by simpa using hw, rfl⟩, by rw [← put_act]; exact h⟩
  obtain ⟨v, hy, h2⟩ := key
  obtain ⟨vs, h3, h4, h5⟩ := quiet_vals l _ h2
  refine ⟨v :: vs, by simp [h3], fun i o' v' ho hv => ?_, h5⟩
  cases i with
  | zero =>
   simp only [List.getElem?_cons_zero, Option.some.injEq] at ho hv
   subst ho; subst hv
   exact hy
  | succ i =>
   simp only [List.getElem?_cons_succ] at ho hv
   exact h4 i o' v' ho hv
theorem lexE_off : ∀ (l : List Oper) (vs : List Value) (e : Env) (t : Nat), (∀ o ∈ l, o.dst ≠ some t) → rd (lexE l vs e) t = rd e t
 | [], _, _, _, _ => rfl
 | o :: l, [], _, _, _ => rfl
 | o :: l, v :: vs, e, t, h => by
  rw [lexE, lexE_off l vs _ t fun o' ho => h o' (by simp [ho])]
  cases hd : o.dst with
  | none => rfl
  | some d =>
   have : d ≠ t := fun hh => h o (by simp) (by rw [hd, hh])
   simp only [putE, rd, beq_false this, cond_false]
theorem lexE_at : ∀ (l : List Oper) (vs : List Value) (e : Env) (j : Nat) (o : Oper) (v : Value) (d : Nat), l[j]? = some o → vs[j]? = some v → o.dst = some d → (∀ k o', k ≠ j → l[k]? = some o' → o'.dst ≠ some d) → rd (lexE l vs e) d = v
 | [], _, _, j, _, _, _, h, _, _, _ => by simp at h
 | o :: l, [], _, j, _, _, _, _, h, _, _ => by simp at h
 | o :: l, v :: vs, e, 0, o', v', d, ho, hv, hd, hu => by
  simp only [List.getElem?_cons_zero, Option.some.injEq] at ho hv
  subst ho; subst hv
  rw [lexE, lexE_off l vs _ d fun o' ho' => by
   obtain ⟨k, hk, rfl⟩ := List.mem_iff_getElem.1 ho'
   exact hu (k + 1) _ (by omega) (by simp [hk])]
  rw [hd]
  simp [putE, rd]
 | o :: l, v :: vs, e, j + 1, o', v', d, ho, hv, hd, hu => by
  simp only [List.getElem?_cons_succ] at ho hv
  rw [lexE]
  exact lexE_at l vs _ j o' v' d ho hv hd fun k o2 hk h2 => hu (k + 1) o2 (by omega) (by simpa using h2)
theorem looks_same {ops : Array Oper} {o : Oper} (hs : ∀ cs b, o.op ≠ .select cs b) {e1 e2 e : Env} (D : List Nat) (h1 : Off D e1 e) (h2 : Off D e2 e) (hl : ∀ d ∈ o.looksAt ops, rd e1 d = rd e2 d) :
  execOp (act n e1 ds).eval o = execOp (act n e2 ds).eval o ∧ Region.wanted o (yielded ops (act n e1 ds).tmps) = Region.wanted o (yielded ops (act n e2 ds).tmps) := by
 have wipe : ∀ (D : List Nat) (e1 : Env), (∀ d ∈ D, d ∉ o.looksAt ops) → ∃ e1', (∀ t, rd e1' t = if t ∈ D then undef else rd e1 t) ∧ execOp (act n e1' ds).eval o = execOp (act n e1 ds).eval o ∧ Region.wanted o (yielded ops (act n e1' ds).tmps) = Region.wanted o (yielded ops (act n e1 ds).tmps) := by
  intro D
  induction D with
  | nil => intro e1 _; exact ⟨e1, by simp, rfl, rfl⟩
  | cons d D ih =>
   intro e1 hD
   obtain ⟨e1', ha, hb, hc⟩ := ih e1 fun x hx => hD x (by simp [hx])
   refine ⟨(d, undef) :: e1', fun t => ?_, ?_, ?_⟩
   ·by_cases h : d = t
    ·subst h; simp [rd]
    ·simp only [rd, beq_false h, cond_false, ha, List.mem_cons]
     by_cases h3 : t ∈ D
     ·rw [if_pos h3, if_pos (.inr h3)]
     ·rw [if_neg h3, if_neg (fun hh => by rcases hh with hh | hh; exact h hh.symm; exact h3 hh)]
   ·rw [← hb, ← act_put]
    exact execOp_put o hs _ (some d) undef fun d' hd => by cases hd; exact hD d (by simp)
   ·rw [← hc, ← act_put]
    exact wanted_put o _ (some d) undef fun d' hd => by cases hd; exact hD d (by simp)
 obtain ⟨e1', a1, b1, c1⟩ := wipe (D.filter fun d => !(o.looksAt ops).contains d) e1 (fun d hd => by simpa using (List.mem_filter.1 hd).2)
 obtain ⟨e2', a2, b2, c2⟩ := wipe (D.filter fun d => !(o.looksAt ops).contains d) e2 (fun d hd => by simpa using (List.mem_filter.1 hd).2)
 have hsame : act n e1' ds = act n e2' ds := by
  simp only [act, Act.mk.injEq, and_true]
  congr 1
  funext i
  rw [a1, a2]
  by_cases hm : i.val ∈ D.filter fun d => !(o.looksAt ops).contains d
  ·rw [if_pos hm, if_pos hm]
  ·rw [if_neg hm, if_neg hm]
   by_cases hk : i.val ∈ o.looksAt ops
   ·exact hl _ hk
   ·have hD : D.contains i.val = false := by
     rw [List.contains_eq_mem, decide_eq_false_iff_not]
     intro h
     exact hm (List.mem_filter.2 ⟨h, by simpa using hk⟩)
    rw [h1 _ hD, h2 _ hD]
 rw [← b1, ← b2, ← c1, ← c2, hsame]
 exact ⟨rfl, rfl⟩
theorem s_quietT {id : Nat} {l : List Oper} (m : Nat) (hm : P.follows .mixedOrders = true) (hB : waitB l m = true) (hS : seenB l m = true)
  (h : wpQuiet P l.toArray (Gr w) (fun a' => ∀ w', w.grownBy w' none → wl r P l.toArray Q (l.drop m) a' w') (l.take m) (act n e ds)) : (Code.region id l.toArray true).wpIn (Fw r) 0 P Q (act n e ds) w := by
 obtain ⟨vs, hlen, hy, hQ⟩ := quiet_vals _ _ h
 have hB0 := hB
 simp only [waitB, Bool.and_eq_true, List.all_eq_true, List.mem_range, Bool.or_eq_true, Nat.blt_eq, List.contains_eq_mem, decide_eq_true_eq, Nat.ble_eq] at hB0
 obtain ⟨⟨⟨hdep, hap⟩, hml⟩, hcl⟩ := hB0
 simp only [seenB, Bool.and_eq_true] at hS
 obtain ⟨⟨hns, hnd⟩, hsee⟩ := hS
 have huniq : ∀ (i j : Nat) (x : Nat) (oi oj : Oper), i ≠ j → (l.take m)[i]? = some oi → (l.take m)[j]? = some oj → oi.dst = some x → oj.dst ≠ some x := by
  intro i j x oi oj hij hi hj hx hxj
  exact apartN_ne hap i j x hij (by rw [List.getElem?_map, hi]; simp [hx]) (by rw [List.getElem?_map, hj]; simp [hxj])
 have hlm : (l.take m).length = m := by rw [List.length_take]; omega
 have hoffE : ∀ i, Off (headDs l m) (lexE ((l.take m).take i) (vs.take i) e) e := fun i t ht => lexE_off _ _ _ t fun o ho hd => by
  have : t ∈ headDs l m := List.mem_filterMap.2 ⟨o, List.mem_of_mem_take ho, hd⟩
  rw [List.contains_eq_mem, decide_eq_false_iff_not] at ht
  exact ht this
 have hgetl : ∀ i o, i < m → l[i]? = some o → (l.take m)[i]? = some o := fun i o hi ho => by rw [List.getElem?_take, if_pos hi]; exact ho
 have hf := any_headR (r := r) (P := P) (Q := Q) (n := n) (e := e) (ds := ds) hB (Gr w) (fun _ _ W' => Gr w W') (fun i _ v _ => ∀ u, vs[i]? = some u → (∃ d, ((l[i]?).bind (·.dst)) = some d) → v = u) (fun _ _ => false) (fun _ => []) (fun _ _ => True) (fun _ _ _ _ _ _ _ => trivial)
  (fun k W W' hC hst => hst) (fun i k a v W W' _ _ hfa _ => hfa) (fun i a1 a2 v W _ hfa => hfa) (fun i him d hd => by cases hd)
  (fun i o him ho e' W hoff hC _ hdeps => by
   obtain ⟨v, hv⟩ : ∃ v, vs[i]? = some v := ⟨vs[i]'(by omega), List.getElem?_eq_getElem (by omega)⟩
   have hyi := hy i o v (hgetl i o him ho) hv
   have hsel : ∀ cs b, o.op ≠ .select cs b := fun cs b => Region.noSelect_spec hns i o cs b (by simpa using ho)
   have hl : ∀ d ∈ o.looksAt l.toArray, rd e' d = rd (lexE ((l.take m).take i) (vs.take i) e) d := by
    intro d hd
    by_cases hh : (headDs l m).contains d = true
    ·rw [List.contains_eq_mem, decide_eq_true_eq] at hh
     obtain ⟨oj, hoj, hdj⟩ := List.mem_filterMap.1 hh
     obtain ⟨j, hj, rfl⟩ := List.mem_iff_getElem.1 hoj
     rw [hlm] at hj
     have hj2 : l[j]? = some (l.take m)[j] := by rw [List.getElem?_eq_getElem (by omega), List.getElem_take]
     rw [List.all_eq_true] at hsee
     have h3 := hsee i (List.mem_range.2 him)
     rw [ho, Option.map_some, Option.getD_some, List.all_eq_true] at h3
     have h4 := h3 d hd
     rw [List.all_eq_true] at h4
     have h5 := h4 j (List.mem_range.2 hj)
     rw [hj2, Option.bind_some, hdj] at h5
     simp only [BEq.rfl, Bool.not_true, Bool.false_or, Bool.and_eq_true, Nat.blt_eq, List.contains_eq_mem, decide_eq_true_eq] at h5
     obtain ⟨u, hu⟩ : ∃ u, vs[j]? = some u := ⟨vs[j]'(by omega), List.getElem?_eq_getElem (by omega)⟩
     have hfj := hdeps j h5.2 (fun x hx => by cases hx) u hu ⟨d, by rw [hj2, Option.bind_some, hdj]⟩
     rw [hj2, Option.bind_some, hdj] at hfj
     simp only [rdO] at hfj
     rw [hfj]
     symm
     refine lexE_at _ _ _ j _ u d (by rw [List.getElem?_take, if_pos h5.1, List.getElem?_eq_getElem (by omega)]) (by rw [List.getElem?_take, if_pos h5.1]; exact hu) hdj ?_
     intro k o' hk ho'
     rw [List.getElem?_take] at ho'
     split at ho'
     ·exact huniq j k d _ o' (fun h => hk h.symm) (List.getElem?_eq_getElem (by omega)) ho' hdj
     ·cases ho'
    ·rw [Bool.not_eq_true] at hh
     rw [hoff d hh, hoffE i d hh]
   obtain ⟨hex, hwn⟩ := looks_same (n := n) (ds := ds) hsel (headDs l m) hoff (hoffE i) hl
   have hyi' := hyi.of_same hex hwn
   rw [wl_cons]
   have hpost : ∀ W', Gr w W' → wl r P l.toArray (opPostD n ds (fun _ W' => Gr w W') (fun a v W => ∀ u, vs[i]? = some u → (∃ d, ((l[i]?).bind (·.dst)) = some d) → v = u) o.dst e' W) [] ((act n e' ds).put o.dst v) W' := by
    intro W' hg
    rw [wl_nil, put_act]
    cases hd : o.dst with
    | none => exact ⟨rfl, undef, fun _ => rfl, rfl, hg, fun u _ ⟨d, hd'⟩ => by rw [ho, Option.bind_some, hd] at hd'; cases hd'⟩
    | some d => exact ⟨rfl, v, (fun hh => by cases hh), rfl, hg, fun u hu _ => by rw [hv] at hu; exact Option.some.inj hu⟩
   rcases hyi' with ⟨hw, hq⟩ | ⟨hw, rfl⟩
   ·rw [if_pos hw]
    have h6 := hq W hC
    have hdf : ∀ c, o.op ≠ .defer c := by
     intro c hc
     rw [List.all_eq_true] at hnd
     have := hnd o (List.mem_of_getElem? (hgetl i o him ho))
     rw [hc] at this
     cases this
    rw [Oper.semAt_eq _ _ _ hdf]
    unfold Oper.quietAt at h6
    revert h6
    generalize (execOp (act n e' ds).eval o).run P W = res
    intro h6
    cases res with
    | ok nx W' =>
     cases nx <;> simp only [Oper.quietUpon] at h6 <;> simp only [Oper.uponIn]
     case value u =>
      obtain ⟨e1, e2⟩ := h6
      rw [e1, e2]
      exact hpost _ hC
     case skip =>
      obtain ⟨e1, e2⟩ := h6
      rw [e1, ← e2]
      exact hpost _ hC
     case enter f args =>
      obtain ⟨e1, hc⟩ := h6
      rw [e1]
      refine ⟨fun h => by simp [Fw, Fence.wide] at h, trivial, fun cs _ => ?_⟩
      obtain ⟨en, W2, fr, ⟨rfl, hg2⟩, hcc, hfn, hl⟩ := hc cs
      exact ⟨.returned v, W2, fr, hpost _ hg2, comesIn_wide.2 hcc, hfn, hl⟩
    | halt x W' => simp only [Oper.quietUpon] at h6
   ·rw [if_neg (by rw [hw]; decide)]
    exact hpost _ hC)
  (fun e' W hoff hC hfs => by
   have hsame : act n e' ds = act n (lexE (l.take m) vs e) ds := by
    have hE : Off (headDs l m) (lexE (l.take m) vs e) e := fun t ht => lexE_off _ _ _ t fun o ho hd => by
     have : t ∈ headDs l m := List.mem_filterMap.2 ⟨o, ho, hd⟩
     rw [List.contains_eq_mem, decide_eq_false_iff_not] at ht
     exact ht this
    simp only [act, Act.mk.injEq, and_true]
    congr 1
    funext i
    by_cases hh : (headDs l m).contains i.val = true
    ·rw [List.contains_eq_mem, decide_eq_true_eq] at hh
     obtain ⟨oj, hoj, hdj⟩ := List.mem_filterMap.1 hh
     obtain ⟨j, hj, rfl⟩ := List.mem_iff_getElem.1 hoj
     rw [hlm] at hj
     have hj2 : l[j]? = some (l.take m)[j] := by rw [List.getElem?_eq_getElem (by omega), List.getElem_take]
     obtain ⟨u, hu⟩ : ∃ u, vs[j]? = some u := ⟨vs[j]'(by omega), List.getElem?_eq_getElem (by omega)⟩
     have hfj := hfs j hj (fun _ _ => rfl) u hu ⟨i.val, by rw [hj2, Option.bind_some, hdj]⟩
     rw [hj2, Option.bind_some, hdj] at hfj
     simp only [rdO] at hfj
     rw [hfj]
     symm
     exact lexE_at _ _ _ j _ u _ (List.getElem?_eq_getElem (by omega)) hu hdj fun k o' hk ho' => huniq j k _ _ o' (fun h => hk h.symm) (List.getElem?_eq_getElem (by omega)) ho' hdj
    ·rw [Bool.not_eq_true] at hh
     rw [hoff _ hh, hE _ hh]
   rw [hsame]
   exact hQ W hC)
  l.length (Array.replicate l.length false) e { w with drawn := w.drawn + 1 } (by simp) (fun j hj => by rw [getD_replicate_false] at hj; cases hj) (by simp [Array.count_replicate]) off_refl g0_drawn (fun i _ _ => trivial) (fun j hj => by rw [getD_replicate_false] at hj; cases hj)
 refine wpIn_region_any hm ?_
 rw [List.size_toArray]
 exact hf
end quietT
section posts
variable {P : Program} {fn : Func} {R : Ending → World → Prop} {n : Nat} {e : Env} {w : World}
theorem post4 {t u x y : Nat} (hr : fn.results = #[.tmp t, .tmp u, .tmp x, .tmp y]) (hR : R (.returned (.tuple #[ev n e (.tmp t), ev n e (.tmp u), ev n e (.tmp x), ev n e (.tmp y)])) w) : bodyPost P fn R .ret (act n e []) w := by
 refine ⟨rfl, _, ?_, hR⟩
 rw [← tmps_getD, ← tmps_getD, ← tmps_getD, ← tmps_getD]
 simp [results, hr, ← Array.getD_eq_getD_getElem?]
theorem post3 {t u x : Nat} (hr : fn.results = #[.tmp t, .tmp u, .tmp x]) (hR : R (.returned (.tuple #[ev n e (.tmp t), ev n e (.tmp u), ev n e (.tmp x)])) w) : bodyPost P fn R .ret (act n e []) w := by
 refine ⟨rfl, _, ?_, hR⟩
 rw [← tmps_getD, ← tmps_getD, ← tmps_getD]
 simp [results, hr, ← Array.getD_eq_getD_getElem?]
end posts
end Go.Proofs.NV
namespace Go.Proofs.NV
open Go.RowKit Go.Shelf
attribute [local irreducible] bodyPost bodyPostM wpQuiet
theorem f21_calls {S : Nat → Prop} (b : Book) (gA : Option Addr) (gc : Nat) (eA : Option Addr) (ec : Nat) (w : World) (hI : BookIn w S b gA gc eA ec) :
  Calls Tryz.prog 21 #[.agg (b.cells gA gc eA ec).toArray] w fun e w' => e = .returned (.tuple #[I (if askedE b true = 0 then truthsL (openedL b) else 0), I (askedE b true)]) ∧ w.grownBy w' none := by
 refine s_enter (n := 16) Tryz.func21 rfl rfl rfl ?_
 have G := grown_refl w none
 refine s_rseq fun _ k1 => ?_
 refine o_box (t := 25) rfl ?_; intro w1 B1 g1 z1
 replace G := G.step0 g1; replace hI := hI.step0 g1
 refine o_v v_assign ?_
 refine o_v v_assign ?_
 refine o_end (k1 _ _ ?_)
 refine s_rseq fun _ k2 => ?_
 refine o_v (v_loadBS rfl ag25 B1 rfl rfl) ?_
 refine o_call rfl rfl ent78 (f78_ask b gA gc eA ec true _ hI) ?_; rintro _ w2 ⟨os, rfl, g2, hax⟩; refine ⟨_, rfl, ?_⟩
 replace G := G.step0 g2; replace hI := hI.step0 g2; replace B1 := B1.step0 g2
 refine o_v v_move ?_
 refine o_v (v_extract rfl rfl) ?_
 refine o_v (v_extract rfl rfl) ?_
 refine o_allocst (vs := os) ze130 rfl rfl rfl sz130 hax.five.1 rfl hax.five.2 ?_; intro w3 B4 g3 z3
 replace hax := hax.step0 g3
 replace G := G.step0 g3; replace hI := hI.step0 g3; replace B1 := B1.step0 g3
 refine o_v v_assign ?_
 refine o_end (k2 _ _ ?_)
 refine s_seq fun _ k3 => ?_
 refine s_rseq fun _ k4 => ?_
 refine o_v v_move ?_
 refine o_v (v_neq rfl rfl) ?_
 refine o_end (k4 _ _ ?_)
 refine s_ifd rfl (fun c4 => ?_) (fun c4 => ?_)
 ·refine s_rseq fun _ k5 => ?_
  refine o_v v_move ?_
  refine o_v v_assign ?_
  refine o_v v_assign ?_
  refine o_end (k5 _ _ ?_)
  refine s_ret (post2 rfl ?_)
  refine ⟨?_, G⟩
  rw [if_neg (by exact c4)]
  rfl
 ·have he0 : askedE b true = 0 := by
   apply Classical.byContradiction
   exact c4
  obtain ⟨pA, pc, rfl, hsl, hpl, hpm⟩ := hax.good he0
  obtain ⟨hok, _, h00⟩ := asked_ok he0
  have hgd := Book.ok_goods hok
  have hol := openedL_len b
  have hP0 : (openedL b)[0]?.getD [] = (openedL b)[0]'(by omega) := by rw [List.getElem?_eq_getElem (by omega)]; rfl
  have hfew := opened_few hok 0
  have hcall := f79_calls (.slice gA b.goods.length gc) (I b.ed) (I b.mv) (.slice eA b.ents.length ec) pA pc (openedL b) w3 hsl (by omega) (by rw [← hP0]; exact hfew) (fun p hp => by
   have hpo := opened_ok hok (i := 0) (p := p) (by rw [hP0]; exact hp)
   have h1 := hpo.before
   have h2 := hpo.prod
   exact ⟨by omega, by omega⟩)
  refine s_skip ?_
  refine k3 _ _ ?_
  refine s_rseq fun _ k6 => ?_
  refine o_v (v_loadBS rfl ag130 B4 rfl rfl) ?_
  refine o_call rfl rfl ent79 (hcall) ?_; rintro _ w4 ⟨rfl, g4⟩; refine ⟨_, rfl, ?_⟩
  replace G := G.step0 g4; replace hI := hI.step0 g4; replace B1 := B1.step0 g4; replace B4 := B4.step0 g4
  refine o_v v_assign ?_
  refine o_v v_assign ?_
  refine o_end (k6 _ _ ?_)
  refine s_ret (post2 rfl ?_)
  refine ⟨?_, G⟩
  rw [if_pos he0, he0]
  rfl
def maxL : Int → List Int → Int
 | m, [] => m
 | m, x :: l => maxL (if x > m then x else m) l
def maxOf (l : List Int) : Int := maxL (l[0]?.getD 0) (l.drop 1)
theorem maxL_snoc (m x : Int) (l : List Int) : maxL m (l ++ [x]) = if x > maxL m l then x else maxL m l := by
 induction l generalizing m with
 | nil => rfl
 | cons y l ih => rw [List.cons_append, maxL, maxL, ih]
theorem f81_calls {S : Nat → Prop} (A : Option Addr) (c : Nat) (xs : List Int) (w : World) (hx : Ty.int.Sl w S A xs) (h0 : 0 < xs.length) (hm : xs.length ≤ 1000000) :
  Calls Tryz.prog 81 #[.slice A xs.length c] w fun e w' => e = .returned (I (maxOf xs)) ∧ w.grownBy w' none := by
 refine s_enter (n := 25) Tryz.func81 rfl rfl rfl ?_
 have G := grown_refl w none
 refine s_rseq fun _ k1 => ?_
 refine o_v v_assign ?_
 refine o_end (k1 _ _ ?_)
 refine s_seq fun _ k2 => ?_
 refine s_rseq fun _ k3 => ?_
 refine o_v v_move ?_
 refine o_v (v_len rfl Tryz.underlying56) ?_
 refine o_v (v_lss rfl rfl) ?_
 refine o_end (k3 _ _ ?_)
 refine s_ifd rfl (fun c3 => ?_) (fun c3 => ?_)
 ·refine s_region ?_
  exact absurd c3 (by omega)
 ·obtain ⟨b0, o0, rfl, hc0⟩ := hx.int 0 h0
  refine s_skip ?_
  refine k2 _ _ ?_
  refine s_rseq fun _ k4 => ?_
  refine o_v v_move ?_
  refine o_v (v_index rfl rfl slt56 (by omega)) ?_
  refine o_v (v_loadC rfl sc3 (by simpa using hc0)) ?_
  refine o_v v_assign ?_
  refine o_end (k4 _ _ ?_)
  refine s_seq fun _ k5 => ?_
  refine s_rseq fun _ k6 => ?_
  refine o_v v_assign ?_
  refine o_end (k6 _ _ ?_)
  refine s_block ?_
  refine s_loop (G := (Nat)) (fun g => [(3, I (maxL xs[0] ((xs.drop 1).take g))), (4, I (g + 1 : Nat))]) [3, 4] [12, 13, 14, 15, 16, 17, 18, 19, 20, 21, 22, 23] (fun g W => (g + 1 ≤ xs.length) ∧ w.grownBy W none) (fun g => xs.length - g) (fun _ => rfl) 0 ⟨rfl, rfl, trivial⟩ ⟨(by omega), grown_refl _ _⟩ ?_
  rintro g jv w1 ⟨hg, g1⟩
  replace G := G.step0 g1
  refine s_seq fun _ k7 => ?_
  refine s_rseq fun _ k8 => ?_
  refine o_v v_move ?_
  refine o_v v_move ?_
  refine o_v (v_len rfl Tryz.underlying56) ?_
  refine o_v (v_lss rfl rfl) ?_
  refine o_end (k8 _ _ ?_)
  refine s_ifd rfl (fun c8 => ?_) (fun c8 => ?_)
  ·have hlt : g + 1 < xs.length := by omega
   obtain ⟨b1, o1, hA1, hc1⟩ := (hx.step0 g1).int (g + 1) hlt
   obtain ⟨rfl, rfl⟩ : b0 = b1 ∧ o0 = o1 := by simpa using hA1
   refine s_skip ?_
   refine k7 _ _ ?_
   refine s_seq fun _ k9 => ?_
   refine s_block ?_
   refine s_region ?_
   refine o_v v_move ?_
   refine o_v v_move ?_
   refine o_v v_move ?_
   refine o_v (v_index rfl rfl slt56 (by omega)) ?_
   refine o_v (v_loadC rfl sc3 (by simpa using hc1)) ?_
   refine o_v (v_max rfl rfl) ?_
   refine o_v v_assign ?_
   refine o_end ?_
   refine k9 _ _ ?_
   refine s_region ?_
   refine o_v v_move ?_
   refine o_v (v_add rfl rfl (by omega)) ?_
   refine o_v v_assign ?_
   refine o_end ?_
   refine mid (g + 1) ?_ ?_ ?_
   ·repeat (first | exact off_refl | refine off_cons rfl ?_)
   ·refine ⟨?_, rfl, trivial⟩
    have hd : (xs.drop 1).take (g + 1) = (xs.drop 1).take g ++ [xs[g + 1]] := by
     rw [List.take_succ_eq_append_getElem (by rw [List.length_drop]; omega), List.getElem_drop]
     congr 3
     omega
    rw [hd, maxL_snoc]
    rfl
   ·exact ⟨⟨by omega, g1⟩, (by omega)⟩
  ·refine s_exit ?_
   refine k5 _ _ ?_
   refine s_rseq fun _ k10 => ?_
   refine o_v v_move ?_
   refine o_v v_assign ?_
   refine o_end (k10 _ _ ?_)
   refine s_ret (post1 rfl ?_)
   refine ⟨?_, G⟩
   have hgl : g + 1 = xs.length := by omega
   unfold maxOf
   rw [List.getElem?_eq_getElem h0, Option.getD_some, show (xs.drop 1).take g = xs.drop 1 from List.take_of_length_le (by rw [List.length_drop]; omega)]
   rfl
def bestF {α : Type} (bt : α → α → Bool) : α → List α → α
 | o, [] => o
 | o, x :: l => bestF bt (if bt x o then x else o) l
def bestL {α : Type} (bt : α → α → Bool) : List α → Option α
 | [] => none
 | x :: l => some (bestF bt x l)
theorem bestF_snoc {α : Type} (bt : α → α → Bool) (o x : α) (l : List α) : bestF bt o (l ++ [x]) = if bt x (bestF bt o l) then x else bestF bt o l := by
 induction l generalizing o with
 | nil => rfl
 | cons y l ih => rw [List.cons_append, bestF, bestF, ih]
theorem bestL_snoc {α : Type} {bt : α → α → Bool} {l : List α} {o x : α} (h : bestL bt l = some o) : bestL bt (l ++ [x]) = some (if bt x o then x else o) := by
 cases l with
 | nil => cases h
 | cons y l =>
  rw [List.cons_append, bestL, bestF_snoc]
  rw [bestL, Option.some.injEq] at h
  rw [h]
theorem bestL_some {α : Type} (bt : α → α → Bool) {l : List α} (h : l ≠ []) : ∃ o, bestL bt l = some o := by
 cases l with
 | nil => exact absurd rfl h
 | cons y l => exact ⟨_, rfl⟩
theorem bestF_mem {α : Type} (bt : α → α → Bool) (o : α) (l : List α) : bestF bt o l = o ∨ bestF bt o l ∈ l := by
 induction l generalizing o with
 | nil => exact .inl rfl
 | cons y l ih =>
  rw [bestF]
  rcases ih (if bt y o then y else o) with h | h
  ·rw [h]
   split
   ·exact .inr (by simp)
   ·exact .inl rfl
  ·exact .inr (by simp [h])
theorem bestL_mem {α : Type} {bt : α → α → Bool} {l : List α} {o : α} (h : bestL bt l = some o) : o ∈ l := by
 cases l with
 | nil => cases h
 | cons y l =>
  rw [bestL, Option.some.injEq] at h
  rcases bestF_mem bt y l with h1 | h1
  ·rw [← h, h1]; simp
  ·rw [← h]; simp [h1]
structure Quest where
 ed : Int
 num : Int
 left : Int
abbrev Quest.cells (q : Quest) : List Value := [I q.ed, I q.num, I q.left]
def questT : Ty Quest := Ty.flat 3 (by decide) Quest.cells (fun _ => rfl) (fun x u hu => by simp only [List.mem_cons, List.not_mem_nil, or_false] at hu; rcases hu with rfl | rfl | rfl <;> rfl)
def questC : Option Quest → List Value
 | none => [I 0, I 0, I 0]
 | some q => q.cells
theorem questC_len (o : Option Quest) : (questC o).length = 3 := by cases o <;> rfl
theorem questC_one (o : Option Quest) : (questC o).all (·.oneCell') = true := by cases o <;> rfl
theorem f82_calls {S : Nat → Prop} (bt : Quest → Quest → Bool) (f : FuncId) (hf : Ent Tryz.prog f) (hbt : ∀ x y w, Calls Tryz.prog f #[.agg x.cells.toArray, .agg y.cells.toArray] w fun e w' => e = .returned (.bool (bt x y)) ∧ w.grownBy w' none)
  (A : Option Addr) (c : Nat) (xs : List Quest) (w : World) (hx : questT.Sl w S A xs) (hm : xs.length ≤ 1000000) :
  Calls Tryz.prog 82 #[.slice A xs.length c, .func (.func f) #[] #[]] w fun e w' => e = .returned (.tuple #[.agg (questC (bestL bt xs)).toArray, .bool (decide (0 < (xs.length : Int)))]) ∧ w.grownBy w' none := by
 refine s_enter (n := 30) Tryz.func82 rfl rfl rfl ?_
 have G := grown_refl w none
 refine s_rseq fun _ k1 => ?_
 refine o_alloc (t := 140) ze140 rfl ?_; intro w1 B4 g1 z1
 replace G := G.step0 g1
 refine o_v v_assign ?_
 refine o_end (k1 _ _ ?_)
 refine s_rseq fun _ k2 => ?_
 have B4a := B4
 refine o_alloc (t := 140) ze140 rfl ?_; intro w2 B6 g2 z2
 replace G := G.step0 g2; replace B4 := B4.step0 g2
 refine o_end (k2 _ _ ?_)
 refine s_seq fun _ k3 => ?_
 refine s_rseq fun _ k4 => ?_
 refine o_v v_move ?_
 refine o_v (v_len rfl Tryz.underlying134) ?_
 refine o_v v_move ?_
 refine o_end (k4 _ _ ?_)
 refine s_block ?_
 refine s_loop (G := Nat) (fun g => [(11, I g)]) [11] [7, 8, 12, 13, 14, 15, 16, 17, 18, 19, 20, 21, 22, 23, 24, 25] (fun g W => (g ≤ xs.length ∧ Blk W w1.heap.size (questC (bestL bt (xs.take g))) 140) ∧ w1.grownBy W none) (fun g => xs.length - g) (fun _ => rfl) 0 ⟨rfl, trivial⟩ ⟨⟨Nat.zero_le _, B6⟩, g2⟩ ?_
 rintro g jv w3 ⟨⟨hg, B6⟩, g3⟩
 replace G := g1.step0 g3; replace B4 := B4a.step0 g3
 refine s_rseq fun _ k5 => ?_
 refine o_v (v_lss rfl rfl) ?_
 refine o_end (k5 _ _ ?_)
 refine s_seq fun _ k6 => ?_
 refine s_ifd rfl (fun c6 => ?_) (fun c6 => ?_)
 ·have hlt : g < xs.length := by omega
  obtain ⟨bx, ox, cx, rfl, _, hrep, hrg⟩ := ((hx.step0 g1).step0 g3).get g hlt
  obtain rfl : cx = xs[g].cells := hrep
  rw [show questT.sz = 3 from rfl] at hrg
  obtain ⟨oo, hoo⟩ : ∃ o : Quest, g = 0 ∨ bestL bt (xs.take g) = some o := by
   by_cases h0 : g = 0
   ·exact ⟨xs[g], .inl h0⟩
   ·obtain ⟨o, ho⟩ := bestL_some bt (l := xs.take g) (by intro e; have := congrArg List.length e; rw [List.length_take, List.length_nil] at this; omega)
    exact ⟨o, .inr ho⟩
  have htake : xs.take (g + 1) = xs.take g ++ [xs[g]] := List.take_succ_eq_append_getElem hlt
  refine s_skip ?_
  refine k6 _ _ ?_
  refine s_seq fun _ k7 => ?_
  refine s_block ?_
  refine s_rseq fun _ k8 => ?_
  refine o_v v_move ?_
  refine o_v (v_index rfl rfl slt134 (by omega)) ?_
  refine o_v (v_loadR rfl ag140 hrg rfl) ?_
  refine o_allocst1 ze140 rfl rfl rfl sz140 rfl rfl rfl ?_; intro w4 B8 g4 z4
  replace G := G.step0 g4; replace B4 := B4.step0 g4; replace B6 := B6.step0 g4; replace g3 := g3.step0 g4
  refine o_end (k8 _ _ ?_)
  refine s_rseq fun _ k9 => ?_
  refine o_v v_move ?_
  refine o_v (v_eql rfl rfl) ?_
  refine o_v v_move ?_
  refine o_mid (G := Unit) 5 (fun _ => [(23, .bool (decide ((g : Int) = 0) || bt xs[g] oo))]) [23] [19, 20, 21, 22] (fun _ w' => w4.grownBy w' none) (fun _ => rfl) ?_ ?_
  ·have H1 := grown_refl w4 none
   rcases Bool.eq_false_or_eq_true (decide ((g : Int) = 0)) with hX1 | hX1
   ·refine g_no rfl rfl rfl hX1 ?_
    refine g_no rfl rfl rfl hX1 ?_
    refine g_no rfl rfl rfl hX1 ?_
    refine g_no rfl rfl rfl hX1 ?_
    refine o_v (v_pick_t rfl hX1) ?_
    refine o_end (mid () ?_ ?_ ?_)
    ·repeat (first | exact off_refl | refine off_cons rfl ?_)
    ·exact ⟨by rw [hX1]; rfl, trivial⟩
    ·exact H1
   ·have hg0 : g ≠ 0 := fun h => by rw [h] at hX1; simp at hX1
    have hoo := hoo.resolve_left hg0
    rw [hoo] at B6
    refine g_yes rfl rfl rfl hX1 ?_
    refine o_v v_move ?_
    refine g_yes rfl rfl rfl hX1 ?_
    refine o_v (v_loadBS rfl ag140 B8 rfl rfl) ?_
    refine g_yes rfl rfl rfl hX1 ?_
    refine o_v (v_loadBS rfl ag140 B6 rfl rfl) ?_
    refine g_yes rfl rfl rfl hX1 ?_
    refine o_call rfl rfl hf (hbt xs[g] oo _) ?_; rintro _ w5 ⟨rfl, g5⟩; refine ⟨_, rfl, ?_⟩
    replace G := G.step0 g5; replace B4 := B4.step0 g5; replace B6 := B6.step0 g5; replace g3 := g3.step0 g5; replace B8 := B8.step0 g5; replace H1 := H1.step0 g5
    refine o_v (v_pick_f rfl hX1) ?_
    refine o_end (mid () ?_ ?_ ?_)
    ·repeat (first | exact off_refl | refine off_cons rfl ?_)
    ·exact ⟨by rw [hX1]; rfl, trivial⟩
    ·exact H1
  ·rintro _ jv w6 g6
   replace G := G.step0 g6; replace B4 := B4.step0 g6; replace B6 := B6.step0 g6; replace g3 := g3.step0 g6; replace B8 := B8.step0 g6
   refine o_end (k9 _ _ ?_)
   refine s_if rfl (fun c9 => ?_) (fun c9 => ?_)
   ·refine s_region ?_
    refine o_v (v_loadBS rfl ag140 B8 rfl rfl) ?_
    rw [Bool.or_eq_true, decide_eq_true_eq] at c9
    refine o_storeB (vs := xs[g].cells) rfl rfl sz140 rfl B6 (by rw [questC_len]; rfl) rfl ?_; intro w7 B6 g7 z7
    rw [over_all (by rw [questC_len]; rfl)] at B6
    refine o_end ?_
    refine k7 _ _ ?_
    refine s_region ?_
    refine o_v (v_add rfl rfl (by omega)) ?_
    refine o_v v_move ?_
    refine o_end ?_
    refine mid (g + 1) ?_ ?_ ?_
    ·repeat (first | exact off_refl | refine off_cons rfl ?_)
    ·exact ⟨rfl, trivial⟩
    ·refine ⟨⟨⟨hlt, ?_⟩, grown_own g3 g7 (by omega)⟩, by omega⟩
     rw [htake]
     rcases hoo with h0 | h0
     ·subst h0
      exact B6
     ·rw [bestL_snoc h0]
      by_cases hb : bt xs[g] oo = true
      ·rw [if_pos hb]; exact B6
      ·have : g = 0 := by
        rcases c9 with h | h
        ·omega
        ·exact absurd h hb
       subst this
       cases h0
   ·refine s_skip ?_
    refine k7 _ _ ?_
    refine s_region ?_
    refine o_v (v_add rfl rfl (by omega)) ?_
    refine o_v v_move ?_
    refine o_end ?_
    refine mid (g + 1) ?_ ?_ ?_
    ·repeat (first | exact off_refl | refine off_cons rfl ?_)
    ·exact ⟨rfl, trivial⟩
    ·refine ⟨⟨⟨hlt, ?_⟩, g3⟩, by omega⟩
     rw [Bool.or_eq_false_iff, decide_eq_false_iff_not] at c9
     rw [htake, bestL_snoc (hoo.resolve_left (by omega)), c9.2, if_neg (by decide), ← hoo.resolve_left (by omega)]
     exact B6
 ·obtain rfl : g = xs.length := by omega
  rw [List.take_length] at B6
  refine s_exit ?_
  refine k3 _ _ ?_
  refine s_rseq fun _ k10 => ?_
  refine o_v (v_loadBS (vs := questC (bestL bt xs)) rfl ag140 B6 (by rw [List.drop_zero, List.take_of_length_le (by rw [questC_len]; decide)]) (questC_len _)) ?_
  refine o_v v_move ?_
  refine o_v (v_len rfl Tryz.underlying134) ?_
  refine o_v (v_gtr rfl rfl) ?_
  refine o_storeB (vs := questC (bestL bt xs)) rfl rfl sz140 (questC_len _) B4 (by rw [questC_len]; rfl) (questC_one _) ?_; intro w8 B4 g8 z8
  rw [over_all (by rw [questC_len]; rfl)] at B4
  refine o_v v_assign ?_
  refine o_end (k10 _ _ ?_)
  refine s_ret (postR (res_ct rfl rfl (run_loadVar_ag ag140 B4 (questC_len _))) ?_)
  exact ⟨rfl, grown_own G g8 (by omega)⟩
theorem f83_calls (x y : Quest) (w : World) :
  Calls Tryz.prog 83 #[.agg x.cells.toArray, .agg y.cells.toArray] w fun e w' => e = .returned (.bool (decide (x.left < y.left))) ∧ w.grownBy w' none := by
 refine s_enter (n := 10) Tryz.func83 rfl rfl rfl ?_
 have G := grown_refl w none
 refine s_rseq fun _ k1 => ?_
 refine o_box (t := 140) rfl ?_; intro w1 B2 g1 z1
 replace G := G.step0 g1
 refine o_box (t := 140) rfl ?_; intro w2 B3 g2 z2
 replace G := G.step0 g2; replace B2 := B2.step0 g2
 refine o_v v_assign ?_
 refine o_end (k1 _ _ ?_)
 refine s_rseq fun _ k2 => ?_
 refine o_v (v_field rfl fld140_2) ?_
 refine o_v (v_loadB rfl sc3 B2 rfl) ?_
 refine o_v (v_field rfl fld140_2) ?_
 refine o_v (v_loadB rfl sc3 B3 rfl) ?_
 refine o_v (v_lss rfl rfl) ?_
 refine o_v v_assign ?_
 refine o_end (k2 _ _ ?_)
 refine s_ret (post1 rfl ?_)
 exact ⟨rfl, G⟩
theorem Ty.Row.putI {e : TypeId} {w : World} {S : Nat → Prop} {v : Value} {xs : List Int} (h : Ty.int.Row e w S v xs) (i : Nat) (hi : i < xs.length) :
  ∃ g cap cs, v = .slice (some ⟨g, 0, none⟩) xs.length cap ∧ S g ∧ Blk w g cs e ∧ i < cs.length ∧ w.cell? ⟨g, 0 + i * 1, none⟩ = some (I xs[i]) ∧
   ∀ x w', Blk w' g (over cs (0 + i * 1) [I x]) e → w.grownBy w' (some g) → Ty.int.Row e w' S v (xs.set i x) := by
 obtain ⟨g, cap, cs, hv, hS, hB, hl, hc, hm, hrep, hput⟩ := h.put i hi
 have hsz : Ty.int.sz = 1 := rfl
 rw [hsz] at hl
 have hrep' : (cs.drop (i * 1)).take 1 = [I xs[i]] := hrep
 have hat : cs[i]? = some (I xs[i]) := by
  have h2 : ((cs.drop (i * 1)).take 1)[0]? = some (I xs[i]) := by rw [hrep']; rfl
  rw [List.getElem?_take, if_pos (by omega), List.getElem?_drop] at h2
  simpa using h2
 refine ⟨g, cap, cs, hv, hS, hB, by omega, by rw [hB.cell]; simpa using hat, fun x w' hB' hg => ?_⟩
 refine hput 0 (I x) w' x (by rw [hsz]; omega) ?_ rfl ?_ hg
 ·show ((cs.drop (i * Ty.int.sz)).take Ty.int.sz).set 0 (I x) = [I x]
  rw [hsz, hrep']
  rfl
 ·rw [hsz]; simpa using hB'
def addAt (l : List Int) (g x : Int) : List Int := l.set g.toNat (l[g.toNat]?.getD 0 + x)
def leftsL (N num : Nat) (ps : List Page) : List Int := ps.foldl (fun l p => addAt l (p.means[num]?.getD 0) p.truths) (List.replicate N 0)
theorem leftsL_snoc (N num : Nat) (ps : List Page) (p : Page) : leftsL N num (ps ++ [p]) = addAt (leftsL N num ps) (p.means[num]?.getD 0) p.truths := by
 unfold leftsL
 rw [List.foldl_append]
 rfl
theorem addAt_len (l : List Int) (g x : Int) : (addAt l g x).length = l.length := by unfold addAt; rw [List.length_set]
theorem leftsL_fine (N num : Nat) (B : Int) (hB : 0 ≤ B) : ∀ (ps : List Page), (∀ p ∈ ps, 0 ≤ p.truths ∧ p.truths ≤ B) → (leftsL N num ps).length = N ∧ ∀ x ∈ leftsL N num ps, 0 ≤ x ∧ x ≤ B * ps.length := by
 intro ps
 obtain ⟨qs, hqs⟩ : ∃ qs, qs = ps.reverse := ⟨_, rfl⟩
 rw [show ps = qs.reverse by rw [hqs, List.reverse_reverse]]
 clear hqs ps
 induction qs with
 | nil =>
  intro _
  refine ⟨by simp [leftsL], fun x hx => ?_⟩
  simp only [leftsL, List.reverse_nil, List.foldl_nil] at hx
  rw [List.eq_of_mem_replicate hx]
  simp
 | cons q qs ih =>
  intro h
  rw [List.reverse_cons, leftsL_snoc]
  obtain ⟨h1, h2⟩ := ih fun p hp => h p (by rw [List.reverse_cons]; exact List.mem_append_left _ hp)
  refine ⟨by rw [addAt_len, h1], fun x hx => ?_⟩
  have hq := h q (by simp)
  have hle : B * ((qs.reverse).length : Int) ≤ B * ((qs.reverse ++ [q]).length : Int) := Int.mul_le_mul_of_nonneg_left (by simp; omega) hB
  have heq : B * ((qs.reverse ++ [q]).length : Int) = B * ((qs.reverse).length : Int) + B := by rw [List.length_append, List.length_singleton, Int.natCast_add, Int.mul_add]; simp
  rcases List.mem_or_eq_of_mem_set hx with hx | hx
  ·have := h2 x hx; omega
  ·subst hx
   cases hg : (leftsL N num qs.reverse)[(q.means[num]?.getD 0).toNat]? with
   | none => simp only [Option.getD_none]; have := Int.mul_nonneg hB (Int.natCast_nonneg qs.reverse.length); omega
   | some y =>
    simp only [Option.getD_some]
    have := h2 y (List.mem_of_getElem? hg)
    omega
def questOf (b : Book) (e k : Nat) : Quest := ⟨e, k, maxOf (leftsL b.goods.length k ((openedL b)[e]?.getD []))⟩
def questsTo (b : Book) (e k : Nat) : List Quest := ((List.range e).flatMap fun e => (List.range b.goods.length).map (questOf b e)) ++ (List.range k).map (questOf b e)
theorem questsTo_next (b : Book) (e : Nat) : questsTo b e b.goods.length = questsTo b (e + 1) 0 := by
 unfold questsTo
 rw [List.range_succ, List.flatMap_append]
 simp
theorem questsTo_zero (b : Book) : questsTo b 0 0 = [] := rfl
theorem leftsL_zero (N num : Nat) (ps : List Page) : leftsL N num (ps.take 0) = List.replicate N 0 := rfl
theorem questsTo_snoc (b : Book) (e k : Nat) : questsTo b e (k + 1) = questsTo b e k ++ [questOf b e k] := by
 unfold questsTo
 rw [List.range_succ, List.map_append, List.append_assoc]
 rfl
theorem questsTo_len (b : Book) (e k : Nat) : (questsTo b e k).length = e * b.goods.length + k := by
 unfold questsTo
 rw [List.length_append, List.length_map, List.length_range, List.length_flatMap]
 congr 1
 induction e with
 | zero => simp
 | succ e ih => rw [List.range_succ, List.map_append, List.sum_append, ih]; simp [Nat.succ_mul]
def fewer (x y : Quest) : Bool := decide (x.left < y.left)
def askQ (b : Book) : Quest × Int :=
 if askedE b true ≠ 0 then (⟨0, 0, 0⟩, askedE b true) else if truthsL (openedL b) = 1 then (⟨0, 0, 0⟩, 5) else ((bestL fewer (questsTo b b.ed.toNat 0)).getD ⟨0, 0, 0⟩, 0)
theorem info140 : (Tryz.prog.info? 140).map (fun i => (i.zero, i.size, i.bytes)) = some (some (.agg #[.int .i64 0, .int .i64 0, .int .i64 0]), 3, 24) := by kernel_rfl
attribute [local irreducible] leftsL questsTo openedL truthsL
theorem f22_calls {S : Nat → Prop} (b : Book) (gA : Option Addr) (gc : Nat) (eA : Option Addr) (ec : Nat) (w : World) (hI : BookIn w S b gA gc eA ec) :
  Calls Tryz.prog 22 #[.agg (b.cells gA gc eA ec).toArray] w fun e w' => e = .returned (.tuple #[I (askQ b).1.ed, I (askQ b).1.num, I (askQ b).1.left, I (askQ b).2]) ∧ w.grownBy w' none := by
 refine s_enter (n := 86) Tryz.func22 rfl rfl rfl ?_
 have G := grown_refl w none
 refine s_rseq fun _ k1 => ?_
 refine o_box (t := 25) rfl ?_; intro w1 B1 g1 z1
 replace G := G.step0 g1; replace hI := hI.step0 g1
 refine o_v v_assign ?_
 refine o_v v_assign ?_
 refine o_v v_assign ?_
 refine o_v v_assign ?_
 refine o_end (k1 _ _ ?_)
 refine s_rseq fun _ k2 => ?_
 refine o_v (v_loadBS rfl ag25 B1 rfl rfl) ?_
 refine o_call rfl rfl ent78 (f78_ask b gA gc eA ec true _ hI) ?_; rintro _ w2 ⟨os, rfl, g2, hax⟩; refine ⟨_, rfl, ?_⟩
 replace G := G.step0 g2; replace hI := hI.step0 g2; replace B1 := B1.step0 g2
 refine o_v v_move ?_
 refine o_v (v_extract rfl rfl) ?_
 refine o_v (v_extract rfl rfl) ?_
 refine o_allocst (vs := os) ze130 rfl rfl rfl sz130 hax.five.1 rfl hax.five.2 ?_; intro w3 B6 g3 z3
 replace hax := hax.step0 g3
 replace G := G.step0 g3; replace hI := hI.step0 g3; replace B1 := B1.step0 g3
 refine o_v v_assign ?_
 refine o_end (k2 _ _ ?_)
 refine s_seq fun _ k3 => ?_
 refine s_rseq fun _ k4 => ?_
 refine o_v v_move ?_
 refine o_v (v_neq rfl rfl) ?_
 refine o_end (k4 _ _ ?_)
 refine s_ifd rfl (fun c4 => ?_) (fun c4 => ?_)
 ·refine s_rseq fun _ k5 => ?_
  refine o_v v_move ?_
  refine o_v v_assign ?_
  refine o_v v_assign ?_
  refine o_v v_assign ?_
  refine o_v v_assign ?_
  refine o_end (k5 _ _ ?_)
  refine s_ret (post4 rfl ?_)
  refine ⟨?_, G⟩
  unfold askQ
  rw [if_pos (by exact c4)]
  rfl
 ·have he0 : askedE b true = 0 := by
   apply Classical.byContradiction
   exact c4
  obtain ⟨pA, pc, rfl, hsl, hpl, hpm⟩ := hax.good he0
  obtain ⟨hok, _, h00⟩ := asked_ok he0
  have hgd := Book.ok_goods hok
  have hol := openedL_len b
  have hP0 : (openedL b)[0]?.getD [] = (openedL b)[0]'(by omega) := by rw [List.getElem?_eq_getElem (by omega)]; rfl
  have hfew := opened_few hok 0
  have hcall := f79_calls (.slice gA b.goods.length gc) (I b.ed) (I b.mv) (.slice eA b.ents.length ec) pA pc (openedL b) w3 hsl (by omega) (by rw [← hP0]; exact hfew) (fun p hp => by
   have hpo := opened_ok hok (i := 0) (p := p) (by rw [hP0]; exact hp)
   have h1 := hpo.before
   have h2 := hpo.prod
   exact ⟨by omega, by omega⟩)
  refine s_skip ?_
  refine k3 _ _ ?_
  refine s_seq fun _ k6 => ?_
  refine s_rseq fun _ k7 => ?_
  refine o_v (v_loadBS rfl ag130 B6 rfl rfl) ?_
  refine o_call rfl rfl ent79 (hcall) ?_; rintro _ w4 ⟨rfl, g4⟩; refine ⟨_, rfl, ?_⟩
  replace G := G.step0 g4; replace hI := hI.step0 g4; replace B1 := B1.step0 g4; replace B6 := B6.step0 g4
  replace hsl := hsl.step0 g4
  refine o_v (v_eql rfl rfl) ?_
  refine o_end (k7 _ _ ?_)
  refine s_ifd rfl (fun c7 => ?_) (fun c7 => ?_)
  ·refine s_rseq fun _ k8 => ?_
   refine o_v v_assign ?_
   refine o_v v_assign ?_
   refine o_v v_assign ?_
   refine o_v v_assign ?_
   refine o_end (k8 _ _ ?_)
   refine s_ret (post4 rfl ?_)
   refine ⟨?_, G⟩
   unfold askQ
   rw [if_neg (fun h => h he0), if_pos (by exact c7)]
   rfl
  ·obtain ⟨n, hn⟩ : ∃ n : Nat, b.ed = n := ⟨b.ed.toNat, by omega⟩
   have hn' : b.ed.toNat = n := by omega
   refine s_skip ?_
   refine k6 _ _ ?_
   refine s_rseq fun _ k9 => ?_
   refine o_v v_assign ?_
   refine o_end (k9 _ _ ?_)
   refine s_seq fun _ k10 => ?_
   refine s_rseq fun _ k11 => ?_
   refine o_v (v_field rfl fld25_1) ?_
   refine o_v (v_loadB rfl sc3 B1 rfl) ?_
   refine o_v v_move ?_
   refine o_end (k11 _ _ ?_)
   refine s_block ?_
   have G4 := G; have B14 := B1; have B64 := B6
   refine s_loop (G := Nat × Value) (fun g => [(8, g.2), (29, I g.1)]) [8, 29] [9, 10, 11, 13, 30, 31, 32, 33, 34, 35, 36, 37, 38, 39, 40, 41, 42, 43, 44, 45, 46, 47, 48, 49, 50, 51, 52, 53, 54, 55, 56, 57, 58, 59, 60, 61, 62, 63, 64, 65, 66, 67, 68, 69, 70, 71, 72, 73, 74] (fun g W => (g.1 ≤ n ∧ questT.Row 140 W (fun k => w4.heap.size ≤ k) g.2 (questsTo b g.1 0)) ∧ w4.grownBy W none) (fun g => n - g.1) (fun _ => rfl) (0, .slice none 0 0) ⟨rfl, rfl, trivial⟩ ⟨⟨Nat.zero_le _, by rw [questsTo_zero]; exact Ty.Row.nil _ _ _ _⟩, grown_refl _ _⟩ ?_
   rintro ⟨g, all⟩ jv w5 ⟨⟨hk, hrow⟩, g5⟩
   simp only at hk hrow ⊢
   replace G := G.step0 g5; replace hI := hI.step0 g5; replace B1 := B1.step0 g5; replace B6 := B6.step0 g5
   refine s_rseq fun _ k12 => ?_
   refine o_v (v_lss rfl rfl) ?_
   refine o_end (k12 _ _ ?_)
   refine s_seq fun _ k13 => ?_
   refine s_ifd rfl (fun c13 => ?_) (fun c13 => ?_)
   ·have hgn : g < n := by omega
    refine s_skip ?_
    refine k13 _ _ ?_
    refine s_seq fun _ k14 => ?_
    refine s_block ?_
    refine s_rseq fun _ k15 => ?_
    refine o_v v_move ?_
    refine o_v v_assign ?_
    refine o_end (k15 _ _ ?_)
    refine s_rseq fun _ k16 => ?_
    refine o_v (v_field rfl fld25_0) ?_
    refine o_v (v_loadB rfl sc22 B1 rfl) ?_
    refine o_v (v_len rfl Tryz.underlying22) ?_
    refine o_v v_move ?_
    refine o_end (k16 _ _ ?_)
    refine s_block ?_
    refine s_loop (G := Nat × Value) (fun g => [(8, g.2), (35, I g.1)]) [8, 35] [10, 11, 13, 36, 37, 38, 39, 40, 41, 42, 43, 44, 45, 46, 47, 48, 49, 50, 51, 52, 53, 54, 55, 56, 57, 58, 59, 60, 61, 62, 63, 64, 65, 66, 67, 68, 69, 70, 71, 72, 73] (fun h W => (h.1 ≤ b.goods.length ∧ questT.Row 140 W (fun k => w4.heap.size ≤ k) h.2 (questsTo b g h.1)) ∧ w4.grownBy W none) (fun h => b.goods.length - h.1) (fun _ => rfl) (0, all) ⟨rfl, rfl, trivial⟩ ⟨⟨Nat.zero_le _, hrow⟩, g5⟩ ?_
    rintro ⟨k, all⟩ jv w6 ⟨⟨hk6, hrow6⟩, g6⟩
    simp only at hk6 hrow6 ⊢
    replace G := G4.step0 g6; replace B1 := B14.step0 g6; replace B6 := B64.step0 g6
    refine s_rseq fun _ k17 => ?_
    refine o_v (v_lss rfl rfl) ?_
    refine o_end (k17 _ _ ?_)
    refine s_seq fun _ k18 => ?_
    refine s_ifd rfl (fun c18 => ?_) (fun c18 => ?_)
    ·have hkN : k < b.goods.length := by omega
     obtain ⟨bP, oP, csP, rfl, _, ⟨qA, qc, rfl, hq1, hq2, hq3⟩, hr0⟩ := hsl.get g (by omega)
     replace hr0 := range0 g6 hr0
     replace hq3 := hq3.step0 g6
     have hcell := hr0 0 _ rfl
     simp only [Ty.sl] at hcell
     obtain ⟨ps, hps⟩ : ∃ ps, ps = (openedL b)[g]'(by omega) := ⟨_, rfl⟩
     have hrow0 : (openedL b)[g]?.getD [] = ps := by rw [List.getElem?_eq_getElem (by omega), hps]; rfl
     rw [← hps] at hcell hq1 hq3
     have hfewg := opened_few hok g
     rw [hrow0] at hfewg
     have hpok : ∀ p ∈ ps, PageOk b g p := fun p hp => opened_ok hok (by rw [hrow0]; exact hp)
     have hall := hrow6.bound
     obtain ⟨N, hN⟩ : ∃ N, N = b.goods.length := ⟨_, rfl⟩
     have hfine : ∀ j, (leftsL N k (ps.take j)).length = N ∧ ∀ x ∈ leftsL N k (ps.take j), 0 ≤ x ∧ x ≤ 207360000 * (ps.take j).length := fun j => leftsL_fine N k 207360000 (by decide) _ fun p hp => (hpok p (List.mem_of_mem_take hp)).prod
     refine s_skip ?_
     refine k18 _ _ ?_
     refine s_seq fun _ k19 => ?_
     refine s_block ?_
     refine s_rseq fun _ k20 => ?_
     refine o_v v_move ?_
     refine o_v v_assign ?_
     refine o_end (k20 _ _ ?_)
     refine s_rseq fun _ k21 => ?_
     refine o_v (v_field rfl fld25_0) ?_
     refine o_v (v_loadB rfl sc22 B1 rfl) ?_
     refine o_v (v_len rfl Tryz.underlying22) ?_
     refine o_make (t := Ty.int) (S := fun j => w6.heap.size ≤ j) (xs := List.replicate N 0) (m := N) (cs := List.replicate N (I 0)) (by rw [hN]; rfl) (by rw [hN]; rfl) Tryz.underlying56 info3 (by rw [show N * Ty.int.sz = N from Nat.mul_one _]; exact toList_madeCells_one _ _) (fun _ _ => reps_zeros N) (List.length_replicate) (by omega) (by omega) (fun _ h => h) ?_
     intro w7 hleft g7 z7
     refine o_v v_assign ?_
     refine o_end (k21 _ _ ?_)
     refine s_seq fun _ k22 => ?_
     refine s_rseq fun _ k23 => ?_
     refine o_v (v_field rfl fld130_1) ?_
     refine o_v (v_loadB rfl sc128 (B6.step0 g7) rfl) ?_
     refine o_v v_move ?_
     refine o_v (v_index rfl rfl slt128 (by omega)) ?_
     refine o_v (v_loadC rfl sc135 (cell0 g7 (by simpa using hcell))) ?_
     refine o_v (v_len rfl Tryz.underlying135) ?_
     refine o_v v_move ?_
     refine o_end (k23 _ _ ?_)
     refine s_block ?_
     refine s_loop (G := Nat) (fun g => [(48, I g)]) [48] [13, 49, 50, 51, 52, 53, 54, 55, 56, 57, 58, 59, 60, 61, 62, 63, 64] (fun j W => (j ≤ ps.length ∧ Ty.int.Row 3 W (fun j => w6.heap.size ≤ j) (.slice (some ⟨w6.heap.size, 0, none⟩) N N) (leftsL N k (ps.take j))) ∧ w6.grownBy W none) (fun j => ps.length - j) (fun _ => rfl) 0 ⟨rfl, trivial⟩ ⟨⟨Nat.zero_le _, by rw [leftsL_zero]; exact hleft⟩, g7⟩ ?_
     rintro j jv w8 ⟨⟨hj, hleft⟩, g8⟩
     replace G := G.step0 g8; replace B1 := B1.step0 g8; replace B6 := B6.step0 g8
     refine s_rseq fun _ k24 => ?_
     refine o_v (v_lss rfl rfl) ?_
     refine o_end (k24 _ _ ?_)
     refine s_seq fun _ k25 => ?_
     refine s_ifd rfl (fun c25 => ?_) (fun c25 => ?_)
     ·have hjlt : j < ps.length := by omega
      obtain ⟨bp, op, cp, rfl, _, hrepp, hrgp⟩ := (hq3.step0 g8).get j hjlt
      obtain ⟨mA, mc, rfl, hml, hmm, hmean⟩ := pageT_iff.1 hrepp
      rw [pageT_sz] at hrgp
      have hp0 := hpok ps[j] (List.getElem_mem hjlt)
      have hplen := hp0.len
      have hpb := hp0.before
      have hpp := hp0.prod
      refine s_skip ?_
      refine k25 _ _ ?_
      refine s_seq fun _ k26 => ?_
      refine s_block ?_
      refine s_rseq fun _ k27 => ?_
      refine o_v (v_index rfl rfl slt135 (by omega)) ?_
      refine o_v (v_loadR rfl ag137 hrgp rfl) ?_
      refine o_allocst ze137 rfl rfl rfl sz137 rfl rfl rfl ?_; intro w9 B13 g9 z9
      replace G := G.step0 g9; replace B1 := B1.step0 g9; replace B6 := B6.step0 g9; replace g8 := g8.step0 g9; replace hleft := hleft.step0 g9; replace hmean := hmean.step0 g9
      obtain ⟨bm, om, rfl, hcm⟩ := hmean.int k (by omega)
      have hgv : ps[j].means[k]?.getD 0 = ps[j].means[k]'(by omega) := by rw [List.getElem?_eq_getElem (by omega)]; rfl
      have hgr := hp0.range _ (List.getElem_mem (show k < ps[j].means.length by omega))
      rw [← hgv] at hcm hgr
      obtain ⟨gv, hgve⟩ : ∃ gv, gv = ps[j].means[k]?.getD 0 := ⟨_, rfl⟩
      rw [← hgve] at hcm hgr
      have hlf := hfine j
      obtain ⟨gl, cap, csl, hlv, hgS, hBl, hlc, hcl, hput⟩ := hleft.putI gv.toNat (by omega)
      obtain ⟨rfl, -, rfl⟩ : w6.heap.size = gl ∧ N = (leftsL N k (ps.take j)).length ∧ N = cap := by simpa using hlv
      obtain ⟨lo, hlo⟩ : ∃ lo, lo = (leftsL N k (ps.take j))[gv.toNat]'(by omega) := ⟨_, rfl⟩
      have hlob := hlf.2 _ (List.getElem_mem (show gv.toNat < (leftsL N k (ps.take j)).length by omega))
      rw [← hlo] at hcl hlob
      have hlt120 : (ps.take j).length ≤ 120 := by rw [List.length_take]; omega
      refine o_end (k27 _ _ ?_)
      refine s_quietT 12 mixed (by kernel_rfl) (by kernel_rfl) ?_
      refine q_v (fun _ gq => v_move) ?_
      refine q_v (fun _ gq => v_field rfl fld137_0) ?_
      refine q_v (fun _ gq => v_loadB rfl sc56 (B13.step0 gq) rfl) ?_
      refine q_v (fun _ gq => v_move) ?_
      refine q_v (fun _ gq => v_index rfl rfl slt56 (by omega)) ?_
      refine q_v (fun _ gq => v_loadC rfl sc3 (cell0 gq hcm)) ?_
      refine q_v (fun _ gq => v_index rfl rfl slt56 (by omega)) ?_
      refine q_v (fun _ gq => v_loadC rfl sc3 (cell0 gq hcl)) ?_
      refine q_v (fun _ gq => v_loadBS rfl ag137 (B13.step0 gq) rfl rfl) ?_
      refine q_call rfl rfl ent80 (fun wq gq => by have := f80_calls (.slice (some ⟨bm, om, none⟩) ps[j].means.length mc) ps[j].before ps[j].after wq rfl (by omega) (by omega); exact this) ?_
      refine q_v (fun _ gq => v_add rfl rfl (by omega)) ?_
      refine q_v (fun _ gq => v_index rfl rfl slt56 (by omega)) ?_
      refine q_end (fun w10 g10 => ?_)
      replace hBl := hBl.step0 g10
      refine o_storeB (vs := [I (lo + ps[j].before * ps[j].after)]) rfl rfl sz3 rfl hBl (by rw [Nat.ble_eq]; simp; omega) rfl ?_; intro w11 hBl g11 z11
      refine o_end ?_
      refine k26 _ _ ?_
      refine s_region ?_
      refine o_v (v_add rfl rfl (by omega)) ?_
      refine o_v v_move ?_
      refine o_end ?_
      refine mid (j + 1) ?_ ?_ ?_
      ·repeat (first | exact off_refl | refine off_cons rfl ?_)
      ·exact ⟨rfl, trivial⟩
      ·have g911 : w9.grownBy w11 (some w6.heap.size) := World.grownBy.trans (grown_weak g10) g11
       refine ⟨⟨⟨hjlt, ?_⟩, grown_own g8 g911 (Nat.le_refl _)⟩, by omega⟩
       have := hput _ _ hBl g911
       rw [List.take_succ_eq_append_getElem hjlt, leftsL_snoc]
       unfold addAt
       rw [← hgve, List.getElem?_eq_getElem (by omega), Option.getD_some, ← hlo]
       exact this
     ·obtain rfl : j = ps.length := by omega
      rw [List.take_length] at hleft
      have hlf := hfine ps.length
      rw [List.take_length] at hlf
      obtain ⟨lA, lc, hlv, _, _, hls⟩ := hleft.reads
      rw [hlf.1] at hlv
      obtain ⟨rfl, rfl⟩ : some ⟨w6.heap.size, 0, none⟩ = lA ∧ N = lc := by simpa using hlv
      have hmaxc := f81_calls (some ⟨w6.heap.size, 0, none⟩) N (leftsL N k ps) w8 hls (by omega) (by omega)
      rw [hlf.1] at hmaxc
      have hrow8 := (hall.step0 g8).mono (S' := fun k => w4.heap.size ≤ k) fun k hk => hk.1
      refine s_exit ?_
      refine k22 _ _ ?_
      refine s_region ?_
      refine o_v v_move ?_
      refine o_v v_move ?_
      refine o_v v_move ?_
      refine o_v v_move ?_
      refine o_call rfl rfl ent81 (hmaxc) ?_; rintro _ w12 ⟨rfl, g12⟩; refine ⟨_, rfl, ?_⟩
      replace G := G.step0 g12; replace g8 := g8.step0 g12; replace hrow8 := hrow8.step0 g12
      refine o_v (v_build rfl (fun W => bld140_012 W)) ?_
      refine o_bslice rfl (fun W => bls134_1 W) ?_; intro w13 B71 g13 z13
      replace G := G.step0 g13; replace g8 := g8.step0 g13; replace hrow8 := hrow8.step0 g13
      refine o_append1 (t := questT) (p := questOf b g k) rfl rfl hrow8 B71 Tryz.underlying134 info140 rfl (by unfold questOf; rw [hrow0, ← hN]; rfl) (fun k hk => by have := g6.size; have := g8.size; omega) (by rw [questsTo_len]; have := Nat.mul_le_mul (show g ≤ 3 by omega) (show b.goods.length ≤ 5 by omega); omega) (by decide) ?_
      intro out' w14 hrow14 g14 hat
      have g4s := World.grownBy.trans g6 g8
      have hge : ∀ k, all.ownBlock = some k → w4.heap.size ≤ k := fun k hk => hrow6.1 k hk
      have G14 : w4.grownBy w14 none := ⟨g14.os.trans g4s.os, g14.tape.trans g4s.tape, g14.output.trans g4s.output, Nat.le_trans g4s.size g14.size, fun k hk _ => (g14.block k (Nat.lt_of_lt_of_le hk g4s.size) (fun e => by have := hge k e.symm; omega)).trans (g4s.block k hk (by simp))⟩
      refine o_v v_assign ?_
      refine o_end ?_
      refine k19 _ _ ?_
      refine s_region ?_
      refine o_v (v_add rfl rfl (by omega)) ?_
      refine o_v v_move ?_
      refine o_end ?_
      refine mid (k + 1, out') ?_ ?_ ?_
      ·repeat (first | exact off_refl | refine off_cons rfl ?_)
      ·exact ⟨rfl, rfl, trivial⟩
      ·refine ⟨⟨⟨hkN, ?_⟩, G14⟩, by simp only; omega⟩
       rw [questsTo_snoc]
       exact hrow14
    ·refine s_exit ?_
     refine k14 _ _ ?_
     refine s_region ?_
     refine o_v (v_add rfl rfl (by omega)) ?_
     refine o_v v_move ?_
     refine o_end ?_
     refine mid (g + 1, all) ?_ ?_ ?_
     ·repeat (first | exact off_refl | refine off_cons rfl ?_)
     ·exact ⟨rfl, rfl, trivial⟩
     ·obtain rfl : k = b.goods.length := by omega
      refine ⟨⟨⟨hgn, ?_⟩, g6⟩, by simp only; omega⟩
      rw [← questsTo_next]
      exact hrow6
   ·obtain rfl : g = n := by omega
    obtain ⟨aA, ac, hav, _, _, has⟩ := hrow.reads
    subst hav
    have hql := questsTo_len b g 0
    have hqm := Nat.mul_le_mul (show g ≤ 3 by omega) (show b.goods.length ≤ 5 by omega)
    have hbest := f82_calls fewer 83 ent83 (fun x y w => f83_calls x y w) aA ac (questsTo b g 0) w5 has (by omega)
    obtain ⟨qb, hqb⟩ := bestL_some fewer (l := questsTo b g 0) (fun e => by have := congrArg List.length e; rw [hql, List.length_nil, Nat.add_zero] at this; have := Nat.mul_pos (show 0 < g by omega) (show 0 < b.goods.length by omega); omega)
    rw [hqb] at hbest
    refine s_exit ?_
    refine k10 _ _ ?_
    refine s_rseq fun _ k28 => ?_
    refine o_v v_move ?_
    refine o_call rfl rfl ent82 (hbest) ?_; rintro _ w14 ⟨rfl, g14⟩; refine ⟨_, rfl, ?_⟩
    replace G := G.step0 g14; replace hI := hI.step0 g14; replace B1 := B1.step0 g14; replace B6 := B6.step0 g14; replace g5 := g5.step0 g14
    refine o_v v_move ?_
    refine o_v (v_extract rfl rfl) ?_
    refine o_v (v_extract rfl rfl) ?_
    refine o_allocst (vs := qb.cells) ze140 rfl rfl rfl sz140 rfl rfl rfl ?_; intro w15 B14x g15 z15
    replace G := G.step0 g15
    refine o_v v_assign ?_
    refine o_end (k28 _ _ ?_)
    refine s_seq fun _ k29 => ?_; refine s_quiet mixed (by kernel_rfl) ?_
    refine q_v (fun _ gq => v_field rfl fld140_0) ?_
    refine q_v (fun _ gq => v_loadB rfl sc3 (B14x.step0 gq) rfl) ?_
    refine q_v (fun _ gq => v_field rfl fld140_1) ?_
    refine q_v (fun _ gq => v_loadB rfl sc3 (B14x.step0 gq) rfl) ?_
    refine q_v (fun _ gq => v_field rfl fld140_2) ?_
    refine q_v (fun _ gq => v_loadB rfl sc3 (B14x.step0 gq) rfl) ?_
    refine q_v (fun _ gq => v_assign) ?_
    refine q_v (fun _ gq => v_assign) ?_
    refine q_v (fun _ gq => v_assign) ?_
    refine q_v (fun _ gq => v_assign) ?_
    refine q_end (fun w16 g16 => k29 _ _ ?_)
    replace G := G.step0 g16
    refine s_ret (post4 rfl ?_)
    refine ⟨?_, G⟩
    unfold askQ
    rw [if_neg (fun h => h he0), if_neg (by exact c7), hn', hqb]
    rfl
end Go.Proofs.NV
