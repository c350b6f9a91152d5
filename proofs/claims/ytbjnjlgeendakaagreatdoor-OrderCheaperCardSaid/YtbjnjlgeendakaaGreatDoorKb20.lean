/- Part of the proof: Deferred calls of one's own, and recover.. try; Read, Print.. Structs of numbers compared; bytes as a string.. The reference: Same, SameLists, SameSpans; Decimal, words.. -/
import Derived.Test.YtbjnjlgeendakaaGreatDoorKb18
import Derived.Recover
import Derived.Test.YtbjnjlgeendakaaGreatDoorKb19
import Derived.Test.YtbjnjlgeendakaaGreatDoorKb17
import Derived.Test.YtbjnjlgeendakaaGreatDoorKb3
import Derived.Laws.StructEq
import Derived.Laws.IdiomStrings
set_option linter.unusedVariables false
set_option maxRecDepth 100000
set_option maxHeartbeats 8000000
set_option linter.unusedSimpArgs false
namespace Go.Proofs.NV
open Go.RowKit Go.Shelf
section
variable {P : Program} {ops : Array Oper} {Q : Exit → Act → World → Prop} {rest : List Oper} {n : Nat} {e : Env} {ds : List Deferred} {w : World} {d : Nat} {ty : TypeId} {ps : String} {af : Array Edge} {dst : Option Nat}
def defOf (g : FuncId) (cap : List Value) : Deferred := { target := .fn (.func g) cap.toArray, args := #[] }
theorem o_defer {fo : Operand} {g : FuncId} {cap : List Value} (hf : ev n e fo = .func (.func g) #[] cap.toArray) (h : wl none P ops Q rest (act n e (defOf g cap :: ds)) w) :
  wl none P ops Q (⟨none, .defer { callee := .value fo, args := #[], argTypes := #[] }, ty, ps, af, none⟩ :: rest) (act n e ds) w := by
 simp only [wl]
 rw [if_pos (by rfl), Oper.semAt_none, act_eval]
 have hrun : (execOp (ev n e) ⟨none, .defer { callee := .value fo, args := #[], argTypes := #[] }, ty, ps, af, none⟩).run P w = .ok (.defer (defOf g cap)) w := by
  simp only [execOp, resolve, hf, Deferred.ofValue, Sem.run_bind, Sem.run_pure, Result.andThen_ok]
  simp [defOf]
 rw [hrun]
 exact h
theorem s_enterDf {f : FuncId} {fn : Func} {c : Code} {vs : List Value} {R : Ending → World → Prop} (hf : P.funcs[f]? = some fn) (hb : fn.body = some c) (hn : fn.ntmps = n) (hv : Nat.ble vs.length n = true)
  (h : c.wpIn (Fw none) 0 P (bodyPostD P fn R) (act n (ins 0 vs) []) w) : Calls P f vs.toArray w R := by
 refine calls_of_wp_defers hf hb ?_
 subst hn
 rw [act_start _ _ (Nat.le_of_ble_eq_true hv)]
 exact wpIn_wide.1 h
theorem sS_recover {id : Nat} {y : Code} {v : Value} {cs cs' : List Frame} {QS : Exit → Act → List Frame → World → Prop} (h : recoverD cs = some (v, cs'))
  (hy : y.wpIn (Fw none) 0 P (fun e a' w' => QS e a' cs' w') (act n ((d, v) :: e) []) w) :
  (Code.seq (Code.region id #[⟨some d, .call { callee := .builtin .recover, args := #[], argTypes := #[] }, ty, ps, af, none⟩] false) y).wpS P QS (act n e []) cs w := by
 refine wpS_seq (wpS_region ?_)
 show wpOpsS P _ _ [0] _ _ _
 have hrun : (execOp (ev n e) ⟨some d, .call { callee := .builtin .recover, args := #[], argTypes := #[] }, ty, ps, af, none⟩).run P w = .ok .recover w := by
  simp [execOp, resolve, invoke, builtin]
 simp only [wpOpsS]
 rw [show (#[(⟨some d, .call { callee := .builtin .recover, args := #[], argTypes := #[] }, ty, ps, af, none⟩ : Oper)])[0]? = some ⟨some d, .call { callee := .builtin .recover, args := #[], argTypes := #[] }, ty, ps, af, none⟩ from rfl]
 simp only
 rw [if_pos (by rfl), act_eval, hrun]
 simp only [h]
 rw [act_put]
 exact wpS_of_wp (wpIn_wide.1 hy)
theorem sS_recoverNone {id : Nat} {y : Code} {cs : List Frame} {QS : Exit → Act → List Frame → World → Prop} (h : recoverD cs = none)
  (hy : y.wpIn (Fw none) 0 P (fun e a' w' => QS e a' cs w') (act n ((d, .nilIface) :: e) []) w) :
  (Code.seq (Code.region id #[⟨some d, .call { callee := .builtin .recover, args := #[], argTypes := #[] }, ty, ps, af, none⟩] false) y).wpS P QS (act n e []) cs w := by
 refine wpS_seq (wpS_region ?_)
 show wpOpsS P _ _ [0] _ _ _
 have hrun : (execOp (ev n e) ⟨some d, .call { callee := .builtin .recover, args := #[], argTypes := #[] }, ty, ps, af, none⟩).run P w = .ok .recover w := by
  simp [execOp, resolve, invoke, builtin]
 simp only [wpOpsS]
 rw [show (#[(⟨some d, .call { callee := .builtin .recover, args := #[], argTypes := #[] }, ty, ps, af, none⟩ : Oper)])[0]? = some ⟨some d, .call { callee := .builtin .recover, args := #[], argTypes := #[] }, ty, ps, af, none⟩ from rfl]
 simp only
 rw [if_pos (by rfl), act_eval, hrun]
 simp only [h]
 rw [act_put]
 exact wpS_of_wp (wpIn_wide.1 hy)
theorem sS_enter {f : FuncId} {fn : Func} {c : Code} {vs : List Value} {u : FrameMode} {R : Ending → FrameMode → World → Prop} (hf : P.funcs[f]? = some fn) (hb : fn.body = some c) (hn : fn.ntmps = n) (hv : Nat.ble vs.length n = true)
  (h : ∀ (c₀ : Frame) (cs : List Frame), c₀.mode = u → c.wpS P (bodyPostS P fn c₀ cs R) (act n (ins 0 vs) []) (c₀ :: cs) w) : CallsD P f vs.toArray u w R := by
 refine callsD_of_wpS hf hb fun c₀ cs hu => ?_
 subst hn
 rw [act_start _ _ (Nat.le_of_ble_eq_true hv)]
 exact h c₀ cs hu
theorem v_eqNil {t yt : TypeId} {x : Operand} {a : Value} {b : Bool} (hx : ev n e x = a) (ha : a = .nilIface ∨ ∃ u v, a = .iface u v) (hE : ∀ w, (binOp .eql t a .nilIface).run P w = .ok (.bool b) w) :
  (execOp (ev n e) ⟨some d, .binOp .eql t x (.const .nilIface) yt, ty, ps, af, none⟩).run P w = .ok (.value (.bool b)) w := by
 have h2 : ev n e (.const .nilIface) = .nilIface := rfl
 have hg : (eqGuard .eql t x (.const .nilIface) a .nilIface).run P w = .ok () w := by
  rcases ha with rfl | ⟨u, v, rfl⟩ <;> simp [eqGuard]
 simp only [execOp, hx, h2, Sem.run_bind, hg, Result.andThen_ok, hE, Sem.run_pure]
end
end Go.Proofs.NV
namespace Go.Proofs.NV
open Go.RowKit Go.Shelf
attribute [local irreducible] bodyPost bodyPostM wpQuiet
theorem eqn0 (w : World) : (binOp .eql 20 .nilIface .nilIface).run Tryz.prog w = .ok (.bool true) w := by kernel_rfl
theorem eqn215 (v : Value) (w : World) : (binOp .eql 20 (.iface 215 v) .nilIface).run Tryz.prog w = .ok (.bool false) w := by kernel_rfl
theorem eqn229 (v : Value) (w : World) : (binOp .eql 20 (.iface 229 v) .nilIface).run Tryz.prog w = .ok (.bool false) w := by kernel_rfl
theorem ta20_215 (v : Value) (w : World) : (Instr.typeAssert (.iface 215 v) 20 215 true).run Tryz.prog w = .ok (.tuple #[v, .bool true]) w := by kernel_rfl
theorem ta20_229 (v : Value) (w : World) : (Instr.typeAssert (.iface 229 v) 20 229 true).run Tryz.prog w = .ok (.tuple #[v, .bool true]) w := by kernel_rfl
theorem ta20_no (v : Value) (w : World) : (Instr.typeAssert (.iface 229 v) 20 215 true).run Tryz.prog w = .ok (.tuple #[.agg #[.int .i64 0], .bool false]) w := by kernel_rfl
theorem res_none {P : Program} {fn : Func} {tmps : Array Value} {w : World} (hr : fn.results = #[]) : (results fn tmps).run P w = .ok (.tuple #[]) w := by simp [results, hr]
theorem f165_idle (k : Nat) (w : World) : CallsD Tryz.prog 165 #[ptr k] .returning w fun e u' w' => e = .returned (.tuple #[]) ∧ u' = .returning ∧ w.grownBy w' none := by
 refine sS_enter (n := 14) (vs := [ptr k]) Tryz.func165 rfl rfl rfl fun c₀ cs hu => ?_
 refine sS_recoverNone (by unfold recoverD; simp [hu]) ?_
 refine s_block ?_
 refine s_rseq fun _ k1 => ?_
 refine o_v (v_eqNil rfl (.inl rfl) eqn0) ?_
 refine o_end (k1 _ _ ?_)
 refine s_if rfl (fun _ => ?_) (fun h => by cases h)
 refine s_region ?_
 refine o_v v_assign ?_
 refine o_end ?_
 exact ⟨rfl, .returning, by cases c₀; cases hu; rfl, .tuple #[], res_none rfl, rfl, rfl, grown_refl _ _⟩
theorem f165_caught (k : Nat) (t : TypeId) (c : Value) (hc : c.oneCell' = true) (ht : t = 215 ∨ t = 229) (z : Value) (w : World) (B : Blk w k [z] 28) :
  CallsD Tryz.prog 165 #[ptr k] (.panicking [{ v := .iface t (.agg #[c]), recovered := false }]) w fun e u' w' => e = .returned (.tuple #[]) ∧ u' = .panicking [{ v := .iface t (.agg #[c]), recovered := true }] ∧ Blk w' k [I (if t = 215 then 2 else 4)] 28 ∧ w.grownBy w' (some k) := by
 refine sS_enter (n := 14) (vs := [ptr k]) Tryz.func165 rfl rfl rfl fun c₀ cs hu => ?_
 refine sS_recover (v := .iface t (.agg #[c])) (cs' := { c₀ with mode := .panicking [{ v := .iface t (.agg #[c]), recovered := true }] } :: cs) (by unfold recoverD; simp [hu]) ?_
 rcases ht with rfl | rfl
 ·refine s_block ?_
  refine s_rseq fun _ k1 => ?_
  refine o_v (v_eqNil rfl (.inr ⟨_, _, rfl⟩) (eqn215 _)) ?_
  refine o_end (k1 _ _ ?_)
  refine s_if rfl (fun h => by cases h) (fun _ => ?_)
  refine s_rseq fun _ k2 => ?_
  refine o_v (v_ta rfl (fun W => ta20_215 _ W)) ?_
  refine o_v (v_extract rfl rfl) ?_
  refine o_v (v_extract rfl rfl) ?_
  refine o_end (k2 _ _ ?_)
  refine s_if rfl (fun _ => ?_) (fun h => by cases h)
  refine s_rseq fun _ k3 => ?_
  refine o_allocst (vs := [c]) ze215 rfl rfl rfl sz215 rfl rfl (by simp [hc]) ?_; intro w1 B1 g1 z1
  refine o_end (k3 _ _ ?_)
  refine s_region ?_
  refine o_storeB (vs := [I 2]) rfl rfl sz28 rfl (B.step0 g1) rfl rfl ?_; intro w2 B2 g2 z2
  refine o_end ?_
  exact ⟨rfl, _, rfl, .tuple #[], res_none rfl, rfl, rfl, B2, World.grownBy.trans (grown_weak g1) g2⟩
 ·refine s_block ?_
  refine s_rseq fun _ k1 => ?_
  refine o_v (v_eqNil rfl (.inr ⟨_, _, rfl⟩) (eqn229 _)) ?_
  refine o_end (k1 _ _ ?_)
  refine s_if rfl (fun h => by cases h) (fun _ => ?_)
  refine s_rseq fun _ k2 => ?_
  refine o_v (v_ta rfl (fun W => ta20_no _ W)) ?_
  refine o_v (v_extract rfl rfl) ?_
  refine o_v (v_extract rfl rfl) ?_
  refine o_end (k2 _ _ ?_)
  refine s_if rfl (fun h => by cases h) (fun _ => ?_)
  refine s_rseq fun _ k4 => ?_
  refine o_v (v_ta rfl (fun W => ta20_229 _ W)) ?_
  refine o_v (v_extract rfl rfl) ?_
  refine o_v (v_extract rfl rfl) ?_
  refine o_end (k4 _ _ ?_)
  refine s_if rfl (fun _ => ?_) (fun h => by cases h)
  refine s_rseq fun _ k3 => ?_
  refine o_allocst (vs := [c]) ze229 rfl rfl rfl sz229 rfl rfl (by simp [hc]) ?_; intro w1 B1 g1 z1
  refine o_end (k3 _ _ ?_)
  refine s_region ?_
  refine o_storeB (vs := [I 4]) rfl rfl sz28 rfl (B.step0 g1) rfl rfl ?_; intro w2 B2 g2 z2
  refine o_end ?_
  exact ⟨rfl, _, rfl, .tuple #[], res_none rfl, rfl, rfl, B2, World.grownBy.trans (grown_weak g1) g2⟩
def OkEnd (e : Ending) : Prop := (∃ v, e = .returned v) ∨ ∃ t c, (t = 215 ∨ t = 229) ∧ c.oneCell' = true ∧ e = .panicked [{ v := .iface t (.agg #[c]), recovered := false }]
def codeE : Ending → Int
 | .panicked ({ v := .iface t _, .. } :: _) => if t = 215 then 2 else 4
 | _ => 0
theorem inv165 (k : Nat) (w : World) : (invoke (.fn (.func 165) #[ptr k]) #[]).run Tryz.prog w = .ok (.enter 165 #[ptr k]) w := by
 show (callFunc 165 (#[] ++ #[ptr k])).run Tryz.prog w = _
 exact ent165 _ _
theorem f117_calls (g : FuncId) (cap : List Value) (w : World) (R : Ending → World → Prop) (hg : Ent Tryz.prog g)
  (hC : ∀ w1, w.grownBy w1 none → w1.heap.size = w.heap.size + 1 → Calls Tryz.prog g cap.toArray w1 fun e w' => R e w' ∧ OkEnd e ∧ ∃ row, row ≠ some w.heap.size ∧ w1.grownBy w' row) :
  Calls Tryz.prog 117 #[.func (.func g) #[] cap.toArray] w fun e w' => ∃ e1 w1, R e1 w1 ∧ OkEnd e1 ∧ e = .returned (I (codeE e1)) ∧ w1.grownBy w' (some w.heap.size) := by
 refine s_enterDf (n := 6) (vs := [.func (.func g) #[] cap.toArray]) Tryz.func117 rfl rfl rfl ?_
 have G := grown_refl w none
 refine s_rseq fun _ k1 => ?_
 refine o_alloc (t := 28) ze28 rfl ?_; intro w1 B2 g1 z1
 replace G := G.step0 g1
 refine o_end (k1 _ _ ?_)
 refine s_rseq fun _ k2 => ?_
 refine o_v v_func ?_
 refine o_defer (g := 165) (cap := [ptr w.heap.size]) rfl ?_
 refine o_end (k2 _ _ ?_)
 refine s_rseq fun _ k3 => ?_
 refine o_v v_move ?_
 refine o_callP (fi := []) (vs := []) (cap := cap) rfl rfl hg (hC w1 g1 z1) ?_; rintro e1 w2 ⟨hR, hok, row, hrow, g2⟩
 have B2' := B2.step g2 (Ne.symm hrow)
 rcases hok with ⟨v, rfl⟩ | ⟨t, c, ht, hc, rfl⟩; rotate_left
 ·refine .inr ⟨_, rfl, ?_⟩
  refine leaves_cons (by simp) (inv165 _ _) ?_
  refine (f165_caught w.heap.size t c hc ht _ w2 B2').mono ?_
  rintro e u' w' ⟨rfl, rfl, B3, g3⟩
  exact ⟨_, res_c rfl rfl (run_loadVar_sc sc28 B3 rfl), _, w2, hR, .inr ⟨t, c, ht, hc, rfl⟩, rfl, g3⟩
 refine .inl ⟨_, rfl, ?_⟩
 clear B2'
 have B2 := B2.step g2 (Ne.symm hrow)
 refine o_end (k3 _ _ ?_)
 refine s_rseq fun _ k4 => ?_
 refine o_storeB rfl rfl sz28 rfl B2 rfl rfl ?_; intro w3 B2 g3 z3
 refine o_end (k4 _ _ ?_)
 refine wpIn_ret ?_
 refine leaves_cons (by simp) (inv165 _ _) ?_
 refine (f165_idle w.heap.size w3).mono ?_
 rintro e u' w' ⟨rfl, rfl, g4⟩
 exact ⟨_, res_c rfl rfl (run_loadVar_sc sc28 (B2.step0 g4) rfl), _, w2, hR, .inl ⟨v, rfl⟩, rfl, World.grownBy.trans g3 (grown_weak g4)⟩
def Read1R (s : List UInt8) (k4 : Nat) (w : World) (e : Ending) (w' : World) : Prop :=
 (∃ b gA gc eA ec, parsedL s = some b ∧ e = .returned (.tuple #[]) ∧ Blk w' k4 (b.cells gA gc eA ec) 25 ∧ BookIn w' (fun k => w.heap.size ≤ k) b gA gc eA ec) ∨ (parsedL s = none ∧ ∃ u, e = .panicked [noneV u])
theorem f118_calls (s : List UInt8) (k1 k4 : Nat) (cs : List Value) (w : World) (hs : s.length ≤ 300) (B1 : Blk w k1 [strV s] 9) (B4 : Blk w k4 cs 25) (hcs : cs.length = 4) :
  Calls Tryz.prog 118 #[ptr k1, ptr k4] w fun e w' => Read1R s k4 w e w' ∧ w.grownBy w' (some k4) := by
 refine s_enter (n := 4) Tryz.func118 rfl rfl rfl ?_
 have G := grown_refl w none
 refine s_region ?_
 refine o_v (v_loadC rfl sc9 ((B1.cell 0).trans rfl)) ?_
 refine o_callP rfl rfl ent119 (f119_calls s w hs) ?_; rintro et w1 ⟨hP, g1⟩
 rcases hP with ⟨b, gA, gc, eA, ec, hp, rfl, hBI⟩ | ⟨hp, u, rfl⟩; rotate_left
 ·exact .inr ⟨_, rfl, postP ⟨.inr ⟨hp, u, rfl⟩, grown_weak g1⟩⟩
 refine .inl ⟨_, rfl, ?_⟩
 have hlt := B4.lt
 refine o_storeB (vs := b.cells gA gc eA ec) rfl rfl sz25 rfl (B4.step0 g1) (by rw [hcs]; rfl) rfl ?_; intro w2 B2 g2 z2
 refine o_end ?_
 rw [over_all (by rw [hcs]; rfl)] at B2
 have hne : ∀ k, w.heap.size ≤ k → some k ≠ some k4 := fun k hk e => by injection e with e; omega
 exact post0n rfl ⟨.inl ⟨b, gA, gc, eA, ec, hp, rfl, B2, ⟨hBI.goods.step g2 hne, hBI.gl, hBI.ents.step g2 hne, hBI.el⟩⟩, World.grownBy.trans (grown_weak g1) g2⟩
def zeroB : Book := ⟨[], 0, 0, []⟩
def readE (s : List UInt8) : Int := if 300 < (s.length : Int) then 3 else match parsedL s with
 | none => 4
 | some b => if b.ok then 0 else 2
def readB (s : List UInt8) : Book := if readE s = 0 then (parsedL s).getD zeroB else zeroB
theorem zeroB_in (w : World) (S : Nat → Prop) : BookIn w S zeroB none 0 none 0 := ⟨.inl rfl, ⟨Nat.le_refl _, by unfold maxLen; omega⟩, .inl rfl, ⟨Nat.le_refl _, by unfold maxLen; omega⟩⟩
theorem BookIn.mono {w : World} {S S' : Nat → Prop} {b : Book} {gA : Option Addr} {gc : Nat} {eA : Option Addr} {ec : Nat} (h : BookIn w S b gA gc eA ec) (hS : ∀ k, S k → S' k) : BookIn w S' b gA gc eA ec := ⟨h.goods.mono hS, h.gl, h.ents.mono hS, h.el⟩
theorem read_bad {s : List UInt8} {c : Int} (h : readE s = c) (h0 : c ≠ 0) : readB s = zeroB := by unfold readB; rw [if_neg (by omega)]
def ReadR (s : List UInt8) (w w' : World) (e : Ending) : Prop := ∃ gA gc eA ec, e = .returned (.tuple #[.agg ((readB s).cells gA gc eA ec).toArray, I (readE s)]) ∧ BookIn w' (fun k => w.heap.size ≤ k) (readB s) gA gc eA ec
theorem read_zero {s : List UInt8} {c : Int} {w w' : World} (h : readE s = c) (h0 : c ≠ 0) : ReadR s w w' (.returned (.tuple #[.agg (zeroB.cells none 0 none 0).toArray, I c])) := ⟨none, 0, none, 0, by rw [read_bad h h0, h], by rw [read_bad h h0]; exact zeroB_in _ _⟩
theorem f61_calls (s : List UInt8) (w : World) (hs : s.length ≤ 9000000000000000000) :
  Calls Tryz.prog 61 #[.string (bs s)] w fun e w' => ReadR s w w' e ∧ w.grownBy w' none := by
 refine s_enter (n := 21) Tryz.func61 rfl rfl rfl ?_
 have G := grown_refl w none
 refine s_rseq fun _ k1 => ?_
 refine o_box (t := 9) rfl ?_; intro w1 B1 g1 z1
 replace G := G.step0 g1
 refine o_alloc (t := 25) ze25 rfl ?_; intro w2 B2 g2 z2
 replace G := G.step0 g2; replace B1 := B1.step0 g2
 refine o_v v_assign ?_
 refine o_end (k1 _ _ ?_)
 refine s_seq fun _ k2 => ?_
 refine s_rseq fun _ k3 => ?_
 refine o_v (v_loadB rfl sc9 B1 rfl) ?_
 refine o_v (v_lenB (a := s) rfl Tryz.underlying9) ?_
 refine o_v (v_gtr rfl rfl) ?_
 refine o_end (k3 _ _ ?_)
 refine s_ifd rfl (fun c3 => ?_) (fun c3 => ?_)
 ·refine s_rseq fun _ k4 => ?_
  refine o_v (v_build rfl (fun W => bld25_ W)) ?_
  refine o_storeB (vs := zeroB.cells none 0 none 0) rfl rfl sz25 rfl B2 rfl rfl ?_; intro w3 B2 g3 z3
  refine o_v v_assign ?_
  refine o_end (k4 _ _ ?_)
  refine s_ret (postR (res_ct rfl rfl (run_loadVar_ag ag25 B2 rfl)) ?_)
  exact ⟨read_zero (by unfold readE; rw [if_pos c3]) (by decide), grown_own G g3 (by omega)⟩
 ·have hs3 : s.length ≤ 300 := by omega
  refine s_skip ?_
  refine k2 _ _ ?_
  refine s_rseq fun _ k5 => ?_
  refine o_alloc (t := 25) ze25 rfl ?_; intro w4 B4 g4 z4
  replace G := G.step0 g4; replace B1 := B1.step0 g4; replace B2 := B2.step0 g4
  refine o_end (k5 _ _ ?_)
  refine s_seq fun _ k6 => ?_
  refine s_rseq fun _ k7 => ?_
  refine o_v v_func ?_
  have hRC : ∀ w1, w4.grownBy w1 none → w1.heap.size = w4.heap.size + 1 → Calls Tryz.prog 118 #[ptr w.heap.size, ptr w2.heap.size] w1 fun e w' => (Read1R s w2.heap.size w1 e w' ∧ w1.heap.size = w4.heap.size + 1 ∧ w4.grownBy w1 none ∧ w1.grownBy w' (some w2.heap.size)) ∧ OkEnd e ∧ ∃ row, row ≠ some w4.heap.size ∧ w1.grownBy w' row := fun w1 h1 h2 =>
   (f118_calls s w.heap.size w2.heap.size _ w1 hs3 (B1.step0 h1) (B4.step0 h1) rfl).mono fun e w' ⟨hR, hg⟩ => ⟨⟨hR, h2, h1, hg⟩, by
    rcases hR with ⟨b, gA, gc, eA, ec, _, he, _⟩ | ⟨_, u, he⟩
    ·exact .inl ⟨_, he⟩
    ·exact .inr ⟨229, strV u, .inr rfl, rfl, he⟩, some w2.heap.size, fun e => by injection e with e; omega, hg⟩
  refine o_call rfl rfl ent117 (f117_calls 118 [ptr w.heap.size, ptr w2.heap.size] w4 (fun e w' => ∃ w1, Read1R s w2.heap.size w1 e w' ∧ w1.heap.size = w4.heap.size + 1 ∧ w4.grownBy w1 none ∧ w1.grownBy w' (some w2.heap.size)) ent118 fun w1 h1 h2 => (hRC w1 h1 h2).mono fun e w' h => ⟨⟨w1, h.1⟩, h.2⟩) ?_
  rintro _ w5 ⟨e1, wm, ⟨w1', hR1, hsz1, hgr1, hgrm⟩, _, rfl, g5⟩; refine ⟨_, rfl, ?_⟩
  clear hRC
  have B2m : Blk wm w1.heap.size _ 25 := (B2.step0 hgr1).step hgrm (fun e => by injection e with e; omega)
  replace B2 := B2m.step g5 (fun e => by injection e with e; omega)
  have G2 : w2.grownBy w5 none := grown_own (grown_own (g4.step0 hgr1) hgrm (Nat.le_refl _)) g5 (by omega)
  replace G := (g1.step0 g2).step0 G2
  refine o_v v_assign ?_
  refine o_end (k7 _ _ ?_)
  refine s_rseq fun _ k8 => ?_
  refine o_v v_move ?_
  refine o_v (v_neq rfl rfl) ?_
  refine o_end (k8 _ _ ?_)
  obtain ⟨cE, hcE⟩ : ∃ cE, cE = codeE e1 := ⟨_, rfl⟩
  rw [← hcE]
  refine s_ifd rfl (fun c8 => ?_) (fun c8 => ?_)
  ·refine s_rseq fun _ k9 => ?_
   refine o_v (v_build rfl (fun W => bld25_ W)) ?_
   refine o_v v_move ?_
   refine o_storeB (vs := zeroB.cells none 0 none 0) rfl rfl sz25 rfl B2 rfl rfl ?_; intro w6 B2 g6 z6
   refine o_v v_assign ?_
   refine o_end (k9 _ _ ?_)
   refine s_ret (postR (res_ct rfl rfl (run_loadVar_ag ag25 B2 rfl)) ?_)
   rcases hR1 with ⟨b, gA, gc, eA, ec, hp, rfl, _⟩ | ⟨hp, u, rfl⟩
   ·exact absurd hcE c8
   ·obtain rfl : cE = 4 := hcE
    exact ⟨read_zero (by unfold readE; rw [if_neg c3, hp]) (by decide), grown_own G g6 (by omega)⟩
  ·rcases hR1 with ⟨b, gA, gc, eA, ec, hp, rfl, B4', hBI⟩ | ⟨hp, u, rfl⟩; rotate_left
   ·exact absurd (show cE = 0 by omega) (by rw [hcE]; exact fun h => absurd (show (4 : Int) = 0 from h) (by decide))
   clear B4 hcE
   have hne : ∀ k, w1'.heap.size ≤ k → some k ≠ some w4.heap.size := fun k hk e => by injection e with e; omega
   have B4 := B4'.step g5 (fun e => by injection e with e; omega)
   replace hBI : BookIn w5 (fun k => w1'.heap.size ≤ k) b gA gc eA ec := ⟨hBI.goods.step g5 hne, hBI.gl, hBI.ents.step g5 hne, hBI.el⟩
   refine s_skip ?_
   refine k6 _ _ ?_
   refine s_seq fun _ k10 => ?_
   refine s_rseq fun _ k11 => ?_
   refine o_v (v_loadBS (vs := b.cells gA gc eA ec) rfl ag25 B4 rfl rfl) ?_
   refine o_call rfl rfl ent115 ((f115_calls b gA gc eA ec w5 hBI)) ?_; rintro _ w7 ⟨rfl, g7⟩; refine ⟨_, rfl, ?_⟩
   replace G := G.step0 g7; replace B2 := B2.step0 g7; replace B4 := B4.step0 g7; replace hBI := hBI.step0 g7
   refine o_v (v_not rfl) ?_
   refine o_end (k11 _ _ ?_)
   refine s_if rfl (fun c11 => ?_) (fun c11 => ?_)
   ·refine s_rseq fun _ k12 => ?_
    refine o_v (v_build rfl (fun W => bld25_ W)) ?_
    refine o_storeB (vs := zeroB.cells none 0 none 0) rfl rfl sz25 rfl B2 rfl rfl ?_; intro w8 B2 g8 z8
    refine o_v v_assign ?_
    refine o_end (k12 _ _ ?_)
    refine s_ret (postR (res_ct rfl rfl (run_loadVar_ag ag25 B2 rfl)) ?_)
    have hnok : b.ok = false := by simpa using c11
    exact ⟨read_zero (by unfold readE; rw [if_neg c3, hp]; simp [hnok]) (by decide), grown_own G g8 (by omega)⟩
   ·refine s_skip ?_
    refine k10 _ _ ?_
    refine s_rseq fun _ k13 => ?_
    refine o_v (v_loadBS (vs := b.cells gA gc eA ec) rfl ag25 B4 rfl rfl) ?_
    refine o_storeB (vs := b.cells gA gc eA ec) rfl rfl sz25 rfl B2 rfl rfl ?_; intro w9 B2 g9 z9
    refine o_v v_assign ?_
    refine o_end (k13 _ _ ?_)
    refine s_ret (postR (res_ct rfl rfl (run_loadVar_ag ag25 B2 rfl)) ?_)
    have hok : b.ok = true := by simpa using c11
    have hE : readE s = 0 := by unfold readE; rw [if_neg c3, hp]; simp [hok]
    have hB : readB s = b := by unfold readB; rw [if_pos hE, hp]; rfl
    have hn2 : ∀ k, w1'.heap.size ≤ k → some k ≠ some w1.heap.size := fun k hk e => by injection e with e; omega
    refine ⟨⟨gA, gc, eA, ec, by rw [hB, hE]; rfl, ?_⟩, grown_own G g9 (by omega)⟩
    rw [hB]
    exact ⟨(hBI.goods.step g9 hn2).mono fun k hk => by omega, hBI.gl, (hBI.ents.step g9 hn2).mono fun k hk => by omega, hBI.el⟩
def printS (b : Book) : List UInt8 := if b.ok then textL b else []
theorem ok_sm {b : Book} (h : b.ok = true) : BookSm b 13 := by
 have hg := Book.ok_goods h
 unfold Book.ok at h
 simp only [Bool.and_eq_true, decide_eq_true_eq, Bool.not_eq_true'] at h
 have hgs := h.1.2
 have hes := h.2
 refine ⟨by omega, by omega, fun g hgm => ?_, fun x hx => ?_⟩
 ·have : 1 ≤ g ∧ g ≤ 99 := by simpa [inB] using List.any_eq_false.1 hgs g hgm
  omega
 ·have := List.any_eq_false.1 hes x hx
  unfold Book.badEnt Book.isEd Book.isNum inB at this
  simp only [Bool.or_eq_true, Bool.not_eq_true', decide_eq_false_iff_not, not_or, Classical.not_not] at this
  omega
theorem ok_lns {b : Book} (h : b.ok = true) : LnsOk (linesL b) := (ok_sm h).lns (by decide)
theorem BookSm.mono {b : Book} {k m : Nat} (h : BookSm b k) (hm : k ≤ m) : BookSm b m := ⟨Nat.le_trans h.few hm, h.hd, h.gs, h.es⟩
theorem f60_calls {S : Nat → Prop} (b : Book) (gA : Option Addr) (gc : Nat) (eA : Option Addr) (ec : Nat) (w : World) (hI : BookIn w S b gA gc eA ec) :
  Calls Tryz.prog 60 #[.agg (b.cells gA gc eA ec).toArray] w fun e w' => e = .returned (.tuple #[strV (printS b), I (if b.ok then 0 else 2)]) ∧ w.grownBy w' none := by
 refine s_enter (n := 9) Tryz.func60 rfl rfl rfl ?_
 have G := grown_refl w none
 refine s_rseq fun _ k1 => ?_
 refine o_box (t := 25) rfl ?_; intro w1 B1 g1 z1
 replace G := G.step0 g1
 replace hI := hI.step0 g1
 refine o_v v_assign ?_
 refine o_v v_assign ?_
 refine o_end (k1 _ _ ?_)
 refine s_seq fun _ k2 => ?_
 refine s_rseq fun _ k3 => ?_
 refine o_v (v_loadBS (vs := b.cells gA gc eA ec) rfl ag25 B1 rfl rfl) ?_
 refine o_call rfl rfl ent115 ((f115_calls b gA gc eA ec w1 hI)) ?_; rintro _ w2 ⟨rfl, g2⟩; refine ⟨_, rfl, ?_⟩
 replace G := G.step0 g2; replace B1 := B1.step0 g2
 replace hI := hI.step0 g2
 refine o_v (v_not rfl) ?_
 refine o_end (k3 _ _ ?_)
 refine s_if rfl (fun c3 => ?_) (fun c3 => ?_)
 ·refine s_rseq fun _ k4 => ?_
  refine o_v v_assign ?_
  refine o_v v_assign ?_
  refine o_end (k4 _ _ ?_)
  refine s_ret (post2 rfl ?_)
  have hnok : b.ok = false := by simpa using c3
  exact ⟨by unfold printS; rw [hnok]; rfl, G⟩
 ·have hok : b.ok = true := by simpa using c3
  have hgd := Book.ok_goods hok
  refine s_skip ?_
  refine k2 _ _ ?_
  refine s_rseq fun _ k5 => ?_
  refine o_v (v_loadBS (vs := b.cells gA gc eA ec) rfl ag25 B1 rfl rfl) ?_
  refine o_call rfl rfl ent116 ((f116_calls b gA gc eA ec w2 hI (by omega) (by omega) (ok_lns hok))) ?_; rintro _ w3 ⟨rfl, g3⟩; refine ⟨_, rfl, ?_⟩
  replace G := G.step0 g3; replace B1 := B1.step0 g3
  refine o_v v_assign ?_
  refine o_v v_assign ?_
  refine o_end (k5 _ _ ?_)
  refine s_ret (post2 rfl ?_)
  exact ⟨by unfold printS; rw [hok]; rfl, G⟩
end Go.Proofs.NV
namespace Go.Proofs.NV
open Go.RowKit Go.Shelf
section
variable {P : Program} {dd : Nat} {xs ys : Array Value} {f : Field} {fs : List Field} {a b : Value} {p q : Bool} {w : World}
theorem eqf_cons (hn : (f.name == "_") = false) (ha : (part f.type xs f.offset).run P w = .ok a w) (hb : (part f.type ys f.offset).run P w = .ok b w) (he : (Op.equalIn dd f.type a b).run P w = .ok p w) (hr : (Op.eqFields dd xs ys fs).run P w = .ok q w) : (Op.eqFields dd xs ys (f :: fs)).run P w = .ok (p && q) w := by
 have hn' : f.name ≠ "_" := by simpa using hn
 rw [Op.eqFields]
 simp only [if_pos hn', Sem.run_bind, ha, hb, he, Result.andThen_ok]
 cases p
 ·simp
 ·simpa using hr
theorem eqf_nil : (Op.eqFields dd xs ys []).run P w = .ok true w := by simp [Op.eqFields]
theorem eqA_of {t : TypeId} {fs : Array Field} (hu : P.underlying t = some (.struct fs)) (hp : P.stoodInHeld t = false) (h : (Op.eqFields dd xs ys fs.toList).run P w = .ok p w) : (Op.equalIn (dd + 1) t (.agg xs) (.agg ys)).run P w = .ok p w := by
 have hf : P.fieldsOf t = fs := by simp [Program.fieldsOf, hu]
 rw [run_equalIn_struct (P := P) w dd t xs ys (by rw [hf]; exact hu) hp, hf]
 exact h
theorem part_sc {t : TypeId} {o : Nat} {v : Value} (hs : Sc P t) (h : xs[o]? = some v) : (part t xs o).run P w = .ok v w := by
 obtain ⟨⟨d, hu, hd⟩, _⟩ := hs
 have hagg : (isAgg t).run P w = .ok false w := by
  unfold isAgg
  rw [Sem.run_bind, run_underlying hu w]
  cases d <;> simp_all
 simp [part, Sem.run_bind, hagg, Result.andThen, h]
end
theorem eqI (d : Nat) (a b : Int) (w : World) : (Op.equalIn (d + 1) 3 (.int .i64 a) (.int .i64 b)).run Tryz.prog w = .ok (a == b) w := by simp [Op.equalIn, run_underlying Tryz.underlying3]
theorem eq65 (a b c d : Int) (w : World) : (Op.equal 65 (.agg #[.int .i64 a, .int .i64 b]) (.agg #[.int .i64 c, .int .i64 d])).run Tryz.prog w = .ok (a == c && (b == d && true)) w :=
 eqA_of (dd := 9998 + 1) Tryz.underlying65 (by kernel_rfl) (eqf_cons rfl (part_sc sc3 rfl) (part_sc sc3 rfl) (eqI 9998 a c w) (eqf_cons rfl (part_sc sc3 rfl) (part_sc sc3 rfl) (eqI 9998 b d w) eqf_nil))
theorem eq148 (a c : Int) (w : World) : (Op.equal 148 (.agg #[.int .i64 a]) (.agg #[.int .i64 c])).run Tryz.prog w = .ok (a == c && true) w :=
 eqA_of (dd := 9998 + 1) Tryz.underlying148 (by kernel_rfl) (eqf_cons rfl (part_sc sc3 rfl) (part_sc sc3 rfl) (eqI 9998 a c w) eqf_nil)
theorem eq99 (a b e c d f : Int) (w : World) : (Op.equal 99 (.agg #[.int .i64 a, .int .i64 b, .int .i64 e]) (.agg #[.int .i64 c, .int .i64 d, .int .i64 f])).run Tryz.prog w = .ok (a == c && (b == d && (e == f && true))) w :=
 eqA_of (dd := 9998 + 1) Tryz.underlying99 (by kernel_rfl) (eqf_cons rfl (part_sc sc3 rfl) (part_sc sc3 rfl) (eqI 9998 a c w) (eqf_cons rfl (part_sc sc3 rfl) (part_sc sc3 rfl) (eqI 9998 b d w) (eqf_cons rfl (part_sc sc3 rfl) (part_sc sc3 rfl) (eqI 9998 e f w) eqf_nil)))
section
variable {P : Program} {n : Nat} {e : Env} {w : World} {d : Nat} {ty : TypeId} {ps : String} {af : Array Edge}
theorem v_neqA {t yt : TypeId} {x y : Operand} {xs ys : Array Value} {b : Bool} (hx : ev n e x = .agg xs) (hy : ev n e y = .agg ys) (hg : P.eqGuardType P.depth t = false) (he : (Op.equal t (.agg xs) (.agg ys)).run P w = .ok b w) :
  (execOp (ev n e) ⟨some d, .binOp .neq t x y yt, ty, ps, af, none⟩).run P w = .ok (.value (.bool (!b))) w := by
 have hgd : (eqGuard .neq t x y (.agg xs) (.agg ys)).run P w = .ok () w := by simp [eqGuard, hg]
 simp only [execOp, hx, hy, Sem.run_bind, hgd, Result.andThen_ok]
 simp [binOp, he]
theorem v_conv8 {s t : TypeId} {x : Operand} {k : IntKind} {a : Int} {ds : TypeDesc} (hx : ev n e x = .int k a) (hs : P.underlying s = some ds) (ht : P.underlying t = some (.int .u8)) (hb : 0 ≤ a ∧ a ≤ 255) :
  (execOp (ev n e) ⟨some d, .convert s t x, ty, ps, af, none⟩).run P w = .ok (.value (.int .u8 a)) w := by
 rw [v_conv hx hs ht, IntWalk.u8_in _ hb]
theorem v_bytesS {s t et : TypeId} {x : Operand} {b o c : Nat} {l : List UInt8} (hx : ev n e x = .slice (some ⟨b, o, none⟩) l.length c) (hs : P.underlying s = some (.slice et)) (he : P.underlying et = some (.int .u8)) (ht : P.underlying t = some .string) (hc : ∀ j (hj : j < l.length), w.cell? ⟨b, o + j, none⟩ = some (.int .u8 (l[j].toNat : Int))) :
  (execOp (ev n e) ⟨some d, .convert s t x, ty, ps, af, none⟩).run P w = .ok (.value (.string (bs l))) w := by
 have := run_convert_bytes_back (P := P) w s t et ⟨b, o, none⟩ c l hs he ht (fun j hj => by rw [Addr.add_mid]; exact hc j hj)
 simp only [execOp, hx, Sem.run_bind, this, Result.andThen_ok, Sem.run_pure]
 rfl
end
end Go.Proofs.NV
namespace Go.Proofs.NV
open Go.RowKit Go.Shelf
attribute [local irreducible] bodyPost bodyPostM wpQuiet
theorem take_eq {α : Type} {xs ys : List α} {i : Nat} (h : xs.take i = ys.take i) (hx : i < xs.length) (hy : i < ys.length) (he : xs[i] = ys[i]) : xs.take (i + 1) = ys.take (i + 1) := by
 rw [List.take_succ_eq_append_getElem hx, List.take_succ_eq_append_getElem hy, h, he]
theorem ne_at {α : Type} {xs ys : List α} {i : Nat} (hx : i < xs.length) (hy : i < ys.length) (he : xs[i] ≠ ys[i]) : xs ≠ ys := fun h => by subst h; exact he rfl
theorem take_all {α : Type} {xs ys : List α} (hl : xs.length = ys.length) (h : xs.take xs.length = ys.take xs.length) : xs = ys := by
 rwa [List.take_of_length_le (Nat.le_refl _), List.take_of_length_le (by omega)] at h
instance : DecidableEq Span := fun a b => decidable_of_iff (a.lo = b.lo ∧ a.hi = b.hi) ⟨fun h => by cases a; cases b; simp only at h; rw [h.1, h.2], fun h => by rw [h]; exact ⟨rfl, rfl⟩⟩
theorem span_eq {a b : Span} (h : a.lo = b.lo ∧ a.hi = b.hi) : a = b := by cases a; cases b; simp only at h; rw [h.1, h.2]
theorem ret_dec {p : Prop} {_ : Decidable p} {b : Bool} (h : p ↔ b = true) : Ending.returned (.bool b) = .returned (.bool (decide p)) := by
 congr 2
 cases b
 ·exact (decide_eq_false (fun hp => by cases h.1 hp)).symm
 ·exact (decide_eq_true (h.2 rfl)).symm
theorem f49_calls {S T : Nat → Prop} (A B : Option Addr) (c d : Nat) (xs ys : List Int) (w : World) (hx : Ty.int.Sl w S A xs) (hy : Ty.int.Sl w T B ys) (hm : xs.length ≤ maxLen) :
  Calls Tryz.prog 49 #[.slice A xs.length c, .slice B ys.length d] w fun e w' => e = .returned (.bool (decide (xs = ys))) ∧ w.grownBy w' none := by
 refine s_enter (n := 26) Tryz.func49 rfl rfl rfl ?_
 have G := grown_refl w none
 refine s_rseq fun _ k1 => ?_
 refine o_v v_assign ?_
 refine o_end (k1 _ _ ?_)
 refine s_seq fun _ k2 => ?_
 refine s_rseq fun _ k3 => ?_
 refine o_v v_move ?_
 refine o_v (v_len rfl Tryz.underlying56) ?_
 refine o_v v_move ?_
 refine o_v (v_len rfl Tryz.underlying56) ?_
 refine o_v (v_neq rfl rfl) ?_
 refine o_end (k3 _ _ ?_)
 refine s_ifd rfl (fun c3 => ?_) (fun c3 => ?_)
 ·refine s_rseq fun _ k4 => ?_
  refine o_v v_assign ?_
  refine o_end (k4 _ _ ?_)
  refine s_ret (post1 rfl ?_)
  exact ⟨ret_dec ⟨fun h => absurd (congrArg List.length h) (by omega), fun h => by cases h⟩, G⟩
 ·refine s_skip ?_
  refine k2 _ _ ?_
  refine s_seq fun _ k5 => ?_
  refine s_rseq fun _ k6 => ?_
  refine o_v v_assign ?_
  refine o_end (k6 _ _ ?_)
  refine s_block ?_
  have hl : xs.length = ys.length := by omega
  rw [maxLen_val] at hm
  refine s_loop (G := Nat) (fun i => [(5, I i)]) [5] [4, 11, 12, 13, 14, 15, 16, 17, 18, 19, 20, 21, 22, 23, 24, 25] (fun i W => (i ≤ xs.length ∧ xs.take i = ys.take i) ∧ w.grownBy W none) (fun i => xs.length - i) (fun _ => rfl) 0 ⟨rfl, trivial⟩ ⟨⟨Nat.zero_le _, rfl⟩, grown_refl _ _⟩ ?_
  rintro i jv w1 ⟨⟨hi, ht⟩, g1⟩
  replace G := G.step0 g1
  refine s_seq fun _ k7 => ?_
  refine s_rseq fun _ k8 => ?_
  refine o_v v_move ?_
  refine o_v v_move ?_
  refine o_v (v_len rfl Tryz.underlying56) ?_
  refine o_v (v_lss rfl rfl) ?_
  refine o_end (k8 _ _ ?_)
  refine s_ifd rfl (fun c8 => ?_) (fun c8 => ?_)
  ·have hlt : i < xs.length := by omega
   obtain ⟨b1, o1, rfl, hc1⟩ := (hx.step0 g1).int i hlt
   obtain ⟨b2, o2, rfl, hc2⟩ := (hy.step0 g1).int i (by omega)
   refine s_skip ?_
   refine k7 _ _ ?_
   refine s_seq fun _ k9 => ?_
   refine s_block ?_
   refine s_seq fun _ k10 => ?_; refine s_quiet mixed (by kernel_rfl) ?_
   refine q_v (fun _ gq => v_move) ?_
   refine q_v (fun _ gq => v_move) ?_
   refine q_v (fun _ gq => v_index rfl rfl slt56 (by omega)) ?_
   refine q_v (fun _ gq => v_loadC rfl sc3 (cell0 gq hc1)) ?_
   refine q_v (fun _ gq => v_move) ?_
   refine q_v (fun _ gq => v_move) ?_
   refine q_v (fun _ gq => v_index rfl rfl slt56 (by omega)) ?_
   refine q_v (fun _ gq => v_loadC rfl sc3 (cell0 gq hc2)) ?_
   refine q_v (fun _ gq => v_neq rfl rfl) ?_
   refine q_end (fun w2 g2 => k10 _ _ ?_)
   replace G := G.step0 g2; replace g1 := g1.step0 g2
   refine s_ifd rfl (fun c10 => ?_) (fun c10 => ?_)
   ·refine s_rseq fun _ k11 => ?_
    refine o_v v_assign ?_
    refine o_end (k11 _ _ ?_)
    refine s_ret (post1 rfl ?_)
    exact ⟨ret_dec ⟨fun h => absurd h (ne_at hlt (by omega) c10), fun h => by cases h⟩, G⟩
   ·refine s_skip ?_
    refine k9 _ _ ?_
    refine s_region ?_
    refine o_v v_move ?_
    refine o_v (v_add rfl rfl (by omega)) ?_
    refine o_v v_assign ?_
    refine o_end ?_
    refine mid (i + 1) ?_ ?_ ?_
    ·repeat (first | exact off_refl | refine off_cons rfl ?_)
    ·exact ⟨rfl, trivial⟩
    ·exact ⟨⟨⟨hlt, take_eq ht hlt (by omega) (by simpa using c10)⟩, by assumption⟩, by omega⟩
  ·obtain rfl : i = xs.length := by omega
   refine s_exit ?_
   refine k5 _ _ ?_
   refine s_rseq fun _ k12 => ?_
   refine o_v v_assign ?_
   refine o_end (k12 _ _ ?_)
   refine s_ret (post1 rfl ?_)
   exact ⟨ret_dec ⟨fun _ => rfl, fun _ => take_all hl ht⟩, G⟩
theorem f57_calls {S T : Nat → Prop} (A B : Option Addr) (c d : Nat) (xs ys : List (List Int)) (w : World) (hx : Ty.int.sl.Sl w S A xs) (hy : Ty.int.sl.Sl w T B ys) (hm : xs.length ≤ maxLen) :
  Calls Tryz.prog 57 #[.slice A xs.length c, .slice B ys.length d] w fun e w' => e = .returned (.bool (decide (xs = ys))) ∧ w.grownBy w' none := by
 refine s_enter (n := 27) Tryz.func57 rfl rfl rfl ?_
 have G := grown_refl w none
 refine s_rseq fun _ k1 => ?_
 refine o_v v_assign ?_
 refine o_end (k1 _ _ ?_)
 refine s_seq fun _ k2 => ?_
 refine s_rseq fun _ k3 => ?_
 refine o_v v_move ?_
 refine o_v (v_len rfl Tryz.underlying33) ?_
 refine o_v v_move ?_
 refine o_v (v_len rfl Tryz.underlying33) ?_
 refine o_v (v_neq rfl rfl) ?_
 refine o_end (k3 _ _ ?_)
 refine s_ifd rfl (fun c3 => ?_) (fun c3 => ?_)
 ·refine s_rseq fun _ k4 => ?_
  refine o_v v_assign ?_
  refine o_end (k4 _ _ ?_)
  refine s_ret (post1 rfl ?_)
  exact ⟨ret_dec ⟨fun h => absurd (congrArg List.length h) (by omega), fun h => by cases h⟩, G⟩
 ·refine s_skip ?_
  refine k2 _ _ ?_
  refine s_seq fun _ k5 => ?_
  refine s_rseq fun _ k6 => ?_
  refine o_v v_assign ?_
  refine o_end (k6 _ _ ?_)
  refine s_block ?_
  have hl : xs.length = ys.length := by omega
  rw [maxLen_val] at hm
  refine s_loop (G := Nat) (fun i => [(5, I i)]) [5] [4, 11, 12, 13, 14, 15, 16, 17, 18, 19, 20, 21, 22, 23, 24, 25, 26] (fun i W => (i ≤ xs.length ∧ xs.take i = ys.take i) ∧ w.grownBy W none) (fun i => xs.length - i) (fun _ => rfl) 0 ⟨rfl, trivial⟩ ⟨⟨Nat.zero_le _, rfl⟩, grown_refl _ _⟩ ?_
  rintro i jv w1 ⟨⟨hi, ht⟩, g1⟩
  replace G := G.step0 g1
  refine s_seq fun _ k7 => ?_
  refine s_rseq fun _ k8 => ?_
  refine o_v v_move ?_
  refine o_v v_move ?_
  refine o_v (v_len rfl Tryz.underlying33) ?_
  refine o_v (v_lss rfl rfl) ?_
  refine o_end (k8 _ _ ?_)
  refine s_ifd rfl (fun c8 => ?_) (fun c8 => ?_)
  ·have hlt : i < xs.length := by omega
   obtain ⟨b1, o1, cc1, rfl, _, ⟨rA, rc, rfl, hrl, hrm, hrS⟩, hr1⟩ := (hx.step0 g1).get i hlt
   obtain ⟨b2, o2, cc2, rfl, _, ⟨qA, qc, rfl, _, _, hqS⟩, hr2⟩ := (hy.step0 g1).get i (by omega)
   have hc1 := hr1 0 _ rfl
   have hc2 := hr2 0 _ rfl
   refine s_skip ?_
   refine k7 _ _ ?_
   refine s_seq fun _ k9 => ?_
   refine s_block ?_
   refine s_seq fun _ k10 => ?_; refine s_quiet mixed (by kernel_rfl) ?_
   refine q_v (fun _ gq => v_move) ?_
   refine q_v (fun _ gq => v_move) ?_
   refine q_v (fun _ gq => v_index rfl rfl slt33 (by omega)) ?_
   refine q_v (fun _ gq => v_loadC rfl sc56 (cell0 gq hc1)) ?_
   refine q_v (fun _ gq => v_move) ?_
   refine q_v (fun _ gq => v_move) ?_
   refine q_v (fun _ gq => v_index rfl rfl slt33 (by omega)) ?_
   refine q_v (fun _ gq => v_loadC rfl sc56 (cell0 gq hc2)) ?_
   refine q_call rfl rfl ent49 (fun _ gq => by have := f49_calls rA qA rc qc xs[i] ys[i] _ (hrS.step0 gq) (hqS.step0 gq) (by omega); exact this) ?_
   refine q_v (fun _ gq => v_not rfl) ?_
   refine q_end (fun w3 g3 => k10 _ _ ?_)
   replace G := G.step0 g3; replace g1 := g1.step0 g3
   refine s_if rfl (fun c10 => ?_) (fun c10 => ?_)
   ·refine s_rseq fun _ k11 => ?_
    refine o_v v_assign ?_
    refine o_end (k11 _ _ ?_)
    refine s_ret (post1 rfl ?_)
    exact ⟨ret_dec ⟨fun h => absurd h (ne_at hlt (by omega) (by simpa using c10)), fun h => by cases h⟩, G⟩
   ·refine s_skip ?_
    refine k9 _ _ ?_
    refine s_region ?_
    refine o_v v_move ?_
    refine o_v (v_add rfl rfl (by omega)) ?_
    refine o_v v_assign ?_
    refine o_end ?_
    refine mid (i + 1) ?_ ?_ ?_
    ·repeat (first | exact off_refl | refine off_cons rfl ?_)
    ·exact ⟨rfl, trivial⟩
    ·exact ⟨⟨⟨hlt, take_eq ht hlt (by omega) (by simpa using c10)⟩, by assumption⟩, by omega⟩
  ·obtain rfl : i = xs.length := by omega
   refine s_exit ?_
   refine k5 _ _ ?_
   refine s_rseq fun _ k12 => ?_
   refine o_v v_assign ?_
   refine o_end (k12 _ _ ?_)
   refine s_ret (post1 rfl ?_)
   exact ⟨ret_dec ⟨fun _ => rfl, fun _ => take_all hl ht⟩, G⟩
theorem f77_calls {S T : Nat → Prop} (A B : Option Addr) (c d : Nat) (xs ys : List Span) (w : World) (hx : spanT.Sl w S A xs) (hy : spanT.Sl w T B ys) (hm : xs.length ≤ maxLen) :
  Calls Tryz.prog 77 #[.slice A xs.length c, .slice B ys.length d] w fun e w' => e = .returned (.bool (decide (xs = ys))) ∧ w.grownBy w' none := by
 refine s_enter (n := 26) Tryz.func77 rfl rfl rfl ?_
 have G := grown_refl w none
 refine s_rseq fun _ k1 => ?_
 refine o_v v_assign ?_
 refine o_end (k1 _ _ ?_)
 refine s_seq fun _ k2 => ?_
 refine s_rseq fun _ k3 => ?_
 refine o_v v_move ?_
 refine o_v (v_len rfl Tryz.underlying59) ?_
 refine o_v v_move ?_
 refine o_v (v_len rfl Tryz.underlying59) ?_
 refine o_v (v_neq rfl rfl) ?_
 refine o_end (k3 _ _ ?_)
 refine s_ifd rfl (fun c3 => ?_) (fun c3 => ?_)
 ·refine s_rseq fun _ k4 => ?_
  refine o_v v_assign ?_
  refine o_end (k4 _ _ ?_)
  refine s_ret (post1 rfl ?_)
  exact ⟨ret_dec ⟨fun h => absurd (congrArg List.length h) (by omega), fun h => by cases h⟩, G⟩
 ·refine s_skip ?_
  refine k2 _ _ ?_
  refine s_seq fun _ k5 => ?_
  refine s_rseq fun _ k6 => ?_
  refine o_v v_assign ?_
  refine o_end (k6 _ _ ?_)
  refine s_block ?_
  have hl : xs.length = ys.length := by omega
  rw [maxLen_val] at hm
  refine s_loop (G := Nat) (fun i => [(5, I i)]) [5] [4, 11, 12, 13, 14, 15, 16, 17, 18, 19, 20, 21, 22, 23, 24, 25] (fun i W => (i ≤ xs.length ∧ xs.take i = ys.take i) ∧ w.grownBy W none) (fun i => xs.length - i) (fun _ => rfl) 0 ⟨rfl, trivial⟩ ⟨⟨Nat.zero_le _, rfl⟩, grown_refl _ _⟩ ?_
  rintro i jv w1 ⟨⟨hi, ht⟩, g1⟩
  replace G := G.step0 g1
  refine s_seq fun _ k7 => ?_
  refine s_rseq fun _ k8 => ?_
  refine o_v v_move ?_
  refine o_v v_move ?_
  refine o_v (v_len rfl Tryz.underlying59) ?_
  refine o_v (v_lss rfl rfl) ?_
  refine o_end (k8 _ _ ?_)
  refine s_ifd rfl (fun c8 => ?_) (fun c8 => ?_)
  ·have hlt : i < xs.length := by omega
   obtain ⟨b1, o1, cc1, rfl, _, hp1, hr1⟩ := (hx.step0 g1).get i hlt
   obtain ⟨b2, o2, cc2, rfl, _, hp2, hr2⟩ := (hy.step0 g1).get i (by omega)
   obtain rfl : cc1 = xs[i].cells := hp1
   obtain rfl : cc2 = ys[i].cells := hp2
   refine s_skip ?_
   refine k7 _ _ ?_
   refine s_seq fun _ k9 => ?_
   refine s_block ?_
   refine s_seq fun _ k10 => ?_; refine s_quiet mixed (by kernel_rfl) ?_
   refine q_v (fun _ gq => v_move) ?_
   refine q_v (fun _ gq => v_move) ?_
   refine q_v (fun _ gq => v_index rfl rfl slt59 (by omega)) ?_
   refine q_v (fun _ gq => v_loadR rfl ag65 (range0 gq hr1) rfl) ?_
   refine q_v (fun _ gq => v_move) ?_
   refine q_v (fun _ gq => v_move) ?_
   refine q_v (fun _ gq => v_index rfl rfl slt59 (by omega)) ?_
   refine q_v (fun _ gq => v_loadR rfl ag65 (range0 gq hr2) rfl) ?_
   refine q_v (fun W gq => v_neqA rfl rfl (by kernel_rfl) (eq65 xs[i].lo xs[i].hi ys[i].lo ys[i].hi W)) ?_
   refine q_end (fun w2 g2 => k10 _ _ ?_)
   replace G := G.step0 g2; replace g1 := g1.step0 g2
   refine s_if rfl (fun c10 => ?_) (fun c10 => ?_)
   ·refine s_rseq fun _ k11 => ?_
    refine o_v v_assign ?_
    refine o_end (k11 _ _ ?_)
    refine s_ret (post1 rfl ?_)
    exact ⟨ret_dec ⟨fun h => absurd h (ne_at hlt (by omega) (fun h => by rw [h] at c10; simp at c10)), fun h => by cases h⟩, G⟩
   ·refine s_skip ?_
    refine k9 _ _ ?_
    refine s_region ?_
    refine o_v v_move ?_
    refine o_v (v_add rfl rfl (by omega)) ?_
    refine o_v v_assign ?_
    refine o_end ?_
    refine mid (i + 1) ?_ ?_ ?_
    ·repeat (first | exact off_refl | refine off_cons rfl ?_)
    ·exact ⟨rfl, trivial⟩
    ·exact ⟨⟨⟨hlt, take_eq ht hlt (by omega) (span_eq (by simpa using c10))⟩, by assumption⟩, by omega⟩
  ·obtain rfl : i = xs.length := by omega
   refine s_exit ?_
   refine k5 _ _ ?_
   refine s_rseq fun _ k12 => ?_
   refine o_v v_assign ?_
   refine o_end (k12 _ _ ?_)
   refine s_ret (post1 rfl ?_)
   exact ⟨ret_dec ⟨fun _ => rfl, fun _ => take_all hl ht⟩, G⟩
def dg (x : Int) : UInt8 := UInt8.ofNat (48 + x).toNat
theorem dg_nat {x : Int} (h : 0 ≤ x ∧ x < 10) : ((dg x).toNat : Int) = 48 + x := by
 unfold dg
 rw [UInt8.toNat_ofNat']
 omega
theorem decL_two (n : Int) (h : 0 ≤ n ∧ n < 100) : decL n = if n < 10 then [dg (n % 10)] else [dg (n / 10 % 10), dg (n % 10)] := by
 have : ∀ k, k < 100 → Lib.decDigits k = if k < 10 then [UInt8.ofNat (48 + k % 10)] else [UInt8.ofNat (48 + k / 10 % 10), UInt8.ofNat (48 + k % 10)] := by decide +kernel
 have h1 := this n.toNat (by omega)
 unfold decL dg
 rw [h1]
 by_cases hn : n < 10
 ·rw [if_pos (by omega), if_pos hn, show 48 + n.toNat % 10 = (48 + n % 10).toNat by omega]
 ·rw [if_neg (by omega), if_neg hn, show 48 + n.toNat % 10 = (48 + n % 10).toNat by omega, show 48 + n.toNat / 10 % 10 = (48 + n / 10 % 10).toNat by omega]
def DecS (n : Int) (g : Int × List UInt8) : Prop := (g.1 = n ∧ g.2 = [dg (n % 10)]) ∨ (g.1 = n / 10 ∧ 10 ≤ n ∧ g.2 = [dg (n / 10 % 10), dg (n % 10)])
theorem f121_calls (n : Int) (hn : 0 ≤ n ∧ n < 100) (w : World) :
  Calls Tryz.prog 121 #[I n] w fun e w' => e = .returned (strV (decL n)) ∧ w.grownBy w' none := by
 refine s_enter (n := 23) Tryz.func121 rfl rfl rfl ?_
 have G := grown_refl w none
 refine s_rseq fun _ k1 => ?_
 refine o_v v_assign ?_
 refine o_end (k1 _ _ ?_)
 refine s_rseq fun _ k2 => ?_
 refine o_v v_move ?_
 refine o_v (v_rem rfl rfl (by omega) (by omega)) ?_
 refine o_v (v_add rfl rfl (by omega)) ?_
 refine o_v (v_conv8 rfl Tryz.underlying3 Tryz.underlying5 (by omega)) ?_
 refine o_bslice rfl (fun W => bls114_1 W) ?_; intro w1 B8 g1 z1
 replace G := G.step0 g1
 have hd := dg_nat (x := n % 10) (by omega)
 refine o_v (v_bytesS (l := [dg (n % 10)]) rfl Tryz.underlying114 Tryz.underlying5 Tryz.underlying9 (fun j hj => by
  obtain rfl : j = 0 := by simpa using hj
  rw [B8.cell]
  exact congrArg (fun x => some (Value.int .u8 x)) hd.symm)) ?_
 refine o_v v_assign ?_
 refine o_end (k2 _ _ ?_)
 refine s_seq fun _ k3 => ?_
 refine s_block ?_
 refine s_loop (G := Int × List UInt8) (fun g => [(0, I g.1), (3, strV g.2)]) [0, 3] [10, 11, 12, 13, 14, 15, 16, 17, 18, 19, 20, 21] (fun g W => (DecS n g) ∧ w.grownBy W none) (fun g => g.1.toNat) (fun _ => rfl) (n, [dg (n % 10)]) ⟨rfl, rfl, trivial⟩ ⟨.inl ⟨rfl, rfl⟩, G⟩ ?_
 clear B8 G
 rintro ⟨m, s⟩ jv w2 ⟨hS, g2⟩
 simp only
 refine s_seq fun _ k4 => ?_
 refine s_rseq fun _ k5 => ?_
 refine o_v v_move ?_
 refine o_v (v_geq rfl rfl) ?_
 refine o_end (k5 _ _ ?_)
 refine s_ifd rfl (fun c5 => ?_) (fun c5 => ?_)
 ·rcases hS with ⟨h1, h2⟩ | ⟨h1, h3, h2⟩ <;> simp only at h1 h2
  rotate_left
  ·omega
  subst h1 h2
  refine s_skip ?_
  refine k4 _ _ ?_
  refine s_block ?_
  refine s_rseq fun _ k6 => ?_
  refine o_v v_move ?_
  refine o_v (v_quo rfl rfl (by omega) (by omega)) ?_
  refine o_v v_assign ?_
  refine o_end (k6 _ _ ?_)
  refine s_region ?_
  refine o_v v_move ?_
  refine o_v (v_rem rfl rfl (by omega) (by omega)) ?_
  refine o_v (v_add rfl rfl (by omega)) ?_
  refine o_v (v_conv8 rfl Tryz.underlying3 Tryz.underlying5 (by omega)) ?_
  refine o_bslice rfl (fun W => bls114_1 W) ?_; intro w3 B18 g3 z3
  replace g2 := g2.step0 g3
  have hd := dg_nat (x := m / 10 % 10) (by omega)
  refine o_v (v_bytesS (l := [dg (m / 10 % 10)]) rfl Tryz.underlying114 Tryz.underlying5 Tryz.underlying9 (fun j hj => by
   obtain rfl : j = 0 := by simpa using hj
   rw [B18.cell]
   exact congrArg (fun x => some (Value.int .u8 x)) hd.symm)) ?_
  refine o_v v_move ?_
  refine o_v (v_addS (a := [dg (m / 10 % 10)]) (b := [dg (m % 10)]) rfl rfl (by simp)) ?_
  refine o_v v_assign ?_
  refine o_end ?_
  refine midB (m / 10, [dg (m / 10 % 10), dg (m % 10)]) ?_ ?_ ?_
  ·repeat (first | exact off_refl | refine off_cons rfl ?_)
  ·exact ⟨rfl, rfl, trivial⟩
  ·exact ⟨⟨.inr ⟨rfl, by omega, rfl⟩, g2⟩, by simp only; omega⟩
 ·have hfin : s = decL n := by
   rw [decL_two n hn]
   rcases hS with ⟨h1, h2⟩ | ⟨h1, h3, h2⟩ <;> simp only at h1 h2
   ·rw [h2, if_pos (by omega)]
   ·rw [h2, if_neg (by omega)]
  refine s_exit ?_
  refine k3 _ _ ?_
  refine s_rseq fun _ k7 => ?_
  refine o_v v_move ?_
  refine o_v v_assign ?_
  refine o_end (k7 _ _ ?_)
  refine s_ret (post1 rfl ?_)
  exact ⟨by rw [← hfin]; rfl, g2⟩
def wordsTo (l : List Int) (k : Nat) : List UInt8 := (l.take k).flatMap fun n => 32 :: decL n
theorem wordsTo_succ (l : List Int) (k : Nat) (h : k < l.length) : wordsTo l (k + 1) = wordsTo l k ++ [32] ++ decL l[k] := by
 unfold wordsTo
 rw [List.take_succ_eq_append_getElem h, List.flatMap_append]
 simp
theorem wordsTo_len (l : List Int) (hn : ∀ n ∈ l, 0 ≤ n ∧ n < 100) : ∀ k, k ≤ l.length → (wordsTo l k).length ≤ 3 * k
 | 0, _ => by simp [wordsTo]
 | k + 1, h => by
  have ih := wordsTo_len l hn k (by omega)
  have hd := decL_len _ (hn _ (List.getElem_mem (show k < l.length by omega)))
  rw [wordsTo_succ l k (by omega)]
  simp only [List.length_append, List.length_cons, List.length_nil]
  omega
theorem wordsTo_zero (l : List Int) : wordsTo l 0 = [] := rfl
attribute [local irreducible] wordsTo decL
theorem f120_calls {S : Nat → Prop} (A : Option Addr) (c : Nat) (l : List Int) (w : World) (hl : Ty.int.Sl w S A l) (hm : l.length ≤ 1000) (hn : ∀ n ∈ l, 0 ≤ n ∧ n < 100) :
  Calls Tryz.prog 120 #[.slice A l.length c] w fun e w' => e = .returned (strV (wordsTo l l.length)) ∧ w.grownBy w' none := by
 refine s_enter (n := 20) Tryz.func120 rfl rfl rfl ?_
 have G := grown_refl w none
 refine s_rseq fun _ k1 => ?_
 refine o_v v_assign ?_
 refine o_end (k1 _ _ ?_)
 refine s_rseq fun _ k2 => ?_
 refine o_v v_assign ?_
 refine o_end (k2 _ _ ?_)
 refine s_seq fun _ k3 => ?_
 refine s_rseq fun _ k4 => ?_
 refine o_v v_assign ?_
 refine o_end (k4 _ _ ?_)
 refine s_block ?_
 refine s_loop (G := Nat) (fun i => [(3, strV (wordsTo l i)), (4, I i)]) [3, 4] [5, 6, 7, 8, 9, 10, 11, 12, 13, 14, 15, 16, 17, 18] (fun i W => (i ≤ l.length) ∧ w.grownBy W none) (fun i => l.length - i) (fun _ => rfl) 0 ⟨by rw [wordsTo_zero]; rfl, rfl, trivial⟩ ⟨Nat.zero_le _, grown_refl _ _⟩ ?_
 rintro i jv w1 ⟨hi, g1⟩
 replace G := G.step0 g1
 refine s_seq fun _ k5 => ?_
 refine s_rseq fun _ k6 => ?_
 refine o_v v_move ?_
 refine o_v v_move ?_
 refine o_v (v_len rfl Tryz.underlying56) ?_
 refine o_v (v_lss rfl rfl) ?_
 refine o_end (k6 _ _ ?_)
 refine s_ifd rfl (fun c6 => ?_) (fun c6 => ?_)
 ·have hlt : i < l.length := by omega
  obtain ⟨b1, o1, rfl, hc1⟩ := (hl.step0 g1).int i hlt
  have hni := hn _ (List.getElem_mem hlt)
  have hwl := wordsTo_len l hn i hi
  have hdl := decL_len _ hni
  refine s_skip ?_
  refine k5 _ _ ?_
  refine s_seq fun _ k7 => ?_
  refine s_block ?_
  refine s_region ?_
  refine o_v v_move ?_
  refine o_v (v_addS (b := [32]) rfl rfl (by simp only [List.length_cons, List.length_nil]; omega)) ?_
  refine o_v v_move ?_
  refine o_v v_move ?_
  refine o_v (v_index rfl rfl slt56 (by omega)) ?_
  refine o_v (v_loadC rfl sc3 hc1) ?_
  refine o_call rfl rfl ent121 ((f121_calls l[i] hni w1)) ?_; rintro _ w2 ⟨rfl, g2⟩; refine ⟨_, rfl, ?_⟩
  replace G := G.step0 g2; replace g1 := g1.step0 g2
  refine o_v (v_addS rfl rfl (by simp only [List.length_append, List.length_cons, List.length_nil]; omega)) ?_
  refine o_v v_assign ?_
  refine o_end ?_
  refine k7 _ _ ?_
  refine s_region ?_
  refine o_v v_move ?_
  refine o_v (v_add rfl rfl (by omega)) ?_
  refine o_v v_assign ?_
  refine o_end ?_
  refine mid (i + 1) ?_ ?_ ?_
  ·repeat (first | exact off_refl | refine off_cons rfl ?_)
  ·exact ⟨by rw [wordsTo_succ l i hlt]; rfl, rfl, trivial⟩
  ·exact ⟨⟨hlt, g1⟩, by omega⟩
 ·obtain rfl : i = l.length := by omega
  refine s_exit ?_
  refine k3 _ _ ?_
  refine s_rseq fun _ k8 => ?_
  refine o_v v_move ?_
  refine o_v v_assign ?_
  refine o_end (k8 _ _ ?_)
  refine s_ret (post1 rfl ?_)
  exact ⟨rfl, G⟩
end Go.Proofs.NV
