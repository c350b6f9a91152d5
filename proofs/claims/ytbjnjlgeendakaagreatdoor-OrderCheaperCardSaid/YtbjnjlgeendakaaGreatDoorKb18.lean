/- Part of the proof: Go's library, by its shelf: Itoa of a number below 100, HasPrefix, Split at one byte.. A panic of the program's own: the operation, and a call that may end so.. Lines of a text: words, numbers, kind; sure; Split.. The text of a book; Print.. -/
import Derived.Test.YtbjnjlgeendakaaGreatDoorKb1
import Derived.Test.YtbjnjlgeendakaaGreatDoorKb17
import Derived.Shelf.Strings.Prefix
import Derived.Shelf.Strings.Split
import Derived.Shelf.Strconv.Itoa3
import Derived.Test.YtbjnjlgeendakaaGreatDoorKb2
import Derived.Scope
set_option linter.unusedVariables false
set_option maxRecDepth 100000
set_option maxHeartbeats 8000000
set_option linter.unusedSimpArgs false
namespace Go.Proofs.NV
open Go.RowKit Go.Shelf
def decL (i : Int) : List UInt8 := Lib.decDigits i.toNat
theorem f164_calls (i : Int) (hi : 0 ≤ i ∧ i < 100) (w : World) :
  Calls Tryz.prog 164 #[.int .i64 i] w fun e w' => e = .returned (.string (bs (decL i))) ∧ w.grownBy w' none := by
 obtain ⟨n, rfl⟩ : ∃ n : Nat, i = n := ⟨i.toNat, by omega⟩
 refine Calls.mono (Any.strconv_Itoa_small Tryz.laysItoa n (by omega) w) ?_
 rintro e w' ⟨rfl, rfl⟩
 exact ⟨rfl, grown_refl _ _⟩
def prefB (s p : List UInt8) : Bool := p.isPrefixOf s
theorem f169_calls (s p : List UInt8) (w : World) :
  Calls Tryz.prog 169 #[.string (bs s), .string (bs p)] w fun e w' => e = .returned (.bool (prefB s p)) ∧ w.grownBy w' none := by
 refine Calls.mono (Any.strings_HasPrefix Tryz.laysPrefix (bs s) (bs p) w) ?_
 rintro e w' ⟨rfl, rfl⟩
 exact ⟨by rw [data_bs, data_bs]; rfl, grown_refl _ _⟩
def splitL (c : UInt8) : List UInt8 → List (List UInt8)
 | [] => [[]]
 | b :: l => if b = c then [] :: splitL c l else match splitL c l with
  | [] => [[b]]
  | p :: ps => (b :: p) :: ps
theorem splitK_eq (c : UInt8) : ∀ (l : List UInt8) (k : Nat), l.count c ≤ k → Lib.splitK [c] 0 k l = splitL c l
 | [], 0, _ => rfl
 | [], k + 1, _ => by rw [Lib.splitK, Lib.index_one]; rfl
 | b :: l, k, h => by
  by_cases hb : b = c
  ·subst hb
   rw [List.count_cons_self] at h
   obtain ⟨k', rfl⟩ : ∃ k', k = k' + 1 := ⟨k - 1, by omega⟩
   have hi : Lib.index (b :: l) [b] = 0 := by rw [Lib.index_one, Lib.indexByte]; simp
   rw [Lib.splitK, hi, splitL, if_pos rfl, ← splitK_eq b l k' (by omega)]
   rfl
  ·rw [List.count_cons_of_ne (by simpa using hb)] at h
   have ih := splitK_eq c l k h
   rw [splitL, if_neg hb, ← ih]
   cases k with
   | zero => rfl
   | succ k =>
    have hi : Lib.index (b :: l) [c] = if Lib.index l [c] == -1 then -1 else Lib.index l [c] + 1 := by
     rw [Lib.index_one, Lib.index_one, Lib.indexByte, if_neg (by simpa using hb)]
    have hge := Lib.index_ge l [c]
    rw [Lib.splitK, Lib.splitK, hi]
    by_cases h1 : Lib.index l [c] = -1
    ·rw [h1]; rfl
    ·obtain ⟨i, hi'⟩ : ∃ i : Nat, Lib.index l [c] = i := ⟨(Lib.index l [c]).toNat, by omega⟩
     rw [hi']
     have e1 : ((i : Int) == -1) = false := by rw [beq_eq_false_iff_ne]; omega
     have e2 : ((i : Int) + 1 == -1) = false := by rw [beq_eq_false_iff_ne]; omega
     simp only [e1, Bool.false_eq_true, if_false, e2]
     have e3 : ((i : Int) + 1).toNat = i + 1 := by omega
     rw [e3]
     simp
theorem splitL_pos (c : UInt8) : ∀ l, 0 < (splitL c l).length
 | [] => by simp [splitL]
 | b :: l => by
  rw [splitL]
  split
  ·simp
  ·split <;> simp
theorem splitL_len (c : UInt8) : ∀ l, (splitL c l).length = l.count c + 1
 | [] => rfl
 | b :: l => by
  have ih := splitL_len c l
  rw [splitL]
  by_cases hb : b = c
  ·rw [if_pos hb, List.length_cons, ih, hb, List.count_cons_self]
  ·rw [if_neg hb, List.count_cons_of_ne (by simpa using hb), ← ih]
   cases h : splitL c l with
   | nil => rw [h] at ih; simp at ih
   | cons p ps => rfl
theorem splitB_eq (c : UInt8) (s : List UInt8) : Lib.splitB (bs [c]) 0 (Lib.countB (bs s) (bs [c])) (bs s) = (splitL c s).map bs := by
 have h := Lib.splitB_data (bs [c]) 0 (Lib.countB (bs s) (bs [c])) (bs s)
 have hc : Lib.countB (bs s) (bs [c]) = s.count c := by
  unfold Lib.countB
  rw [data_bs, data_bs, Lib.count_one]
 rw [data_bs, data_bs, hc, splitK_eq c s _ (Nat.le_refl _)] at h
 rw [hc, ← h, List.map_map]
 conv => lhs; rw [← List.map_id (Lib.splitB (bs [c]) 0 (s.count c) (bs s))]
 refine List.map_congr_left fun x _ => ?_
 exact (bs_data x).symm
theorem info9 : (Tryz.prog.info? 9).map (fun i => (i.zero, i.size, i.bytes)) = some (some (.string ByteArray.empty), 1, 16) := by kernel_rfl
def strV (l : List UInt8) : Value := .string (bs l)
def strT : Ty (List UInt8) := Ty.scalar strV (fun _ => rfl)
theorem f193_calls (s : List UInt8) (c : UInt8) (w : World) (hs : s.length ≤ 1000000) :
  Calls Tryz.prog 193 #[.string (bs s), .string (bs [c]), .int .i64 0, .int .i64 (-1)] w fun e w' => e = .returned (.slice (some ⟨w.heap.size, 0, none⟩) (splitL c s).length (splitL c s).length) ∧ Blk w' w.heap.size ((splitL c s).map strV) 9 ∧ w.grownBy w' none := by
 have hl : s.count c ≤ s.length := List.count_le_length
 have hc : Lib.countB (bs s) (bs [c]) = s.count c := by
  unfold Lib.countB
  rw [data_bs, data_bs, Lib.count_one]
 have h := Any.strings_genSplit_core Tryz.laysGenSplit info9 (bs s) (bs [c]) 0 (-1) (s.count c + 1) w (by rw [bs_size]; omega) (by rw [bs_size]; exact Nat.le_refl _) (Nat.zero_le _)
  (fun x cc hx => Calls.mono (Any.strings_Index_one Tryz.laysIndex x c _) (by
   rintro e w' ⟨rfl, rfl⟩
   refine ⟨?_, rfl⟩
   unfold Lib.indexB
   rw [data_bs, Lib.index_one]))
  (Calls.mono (Any.strings_Count_one Tryz.laysCount (bs s) c _) (by
   rintro e w' ⟨rfl, rfl⟩
   refine ⟨?_, rfl⟩
   rw [hc, data_bs]
   rfl)) (by decide) (by decide) (by rw [if_pos (by decide), hc, bs_size]; omega)
 refine Calls.mono h ?_
 rintro e w' ⟨rfl, rfl⟩
 rw [Nat.add_sub_cancel, ← hc, splitB_eq, hc]
 have hlen := splitL_len c s
 have hcells : Lib.cellsOf ((splitL c s).map bs) (s.count c + 1) = ((splitL c s).map strV).toArray := by
  rw [← hlen]
  have := Lib.cellsOf_full ((splitL c s).map bs)
  rw [List.length_map, List.map_map] at this
  exact this
 refine ⟨by rw [List.length_map, ← hlen], ?_, World.grownBy_alloc w _ _⟩
 rw [hcells]
 exact World.alloc_heap_new w _
end Go.Proofs.NV
namespace Go.Proofs.NV
open Go.RowKit Go.Shelf
section
variable {P : Program} {ops : Array Oper} {Q : Exit → Act → World → Prop} {rest : List Oper} {n : Nat} {e : Env} {ds : List Deferred} {w : World} {d : Nat} {r : Option Nat} {ty : TypeId} {ps : String} {af : Array Edge} {dst : Option Nat}
theorem v_mkI {t : TypeId} {x : Operand} {v : Value} (hx : ev n e x = v) (hm : ∀ w, (Instr.makeInterface t v).run P w = .ok (.iface t v) w) : (execOp (ev n e) ⟨some d, .makeInterface t x, ty, ps, af, none⟩).run P w = .ok (.value (.iface t v)) w := by
 simp only [execOp, hx, Sem.run_bind, hm, Result.andThen_ok, Sem.run_pure]
theorem o_panic {x : Operand} {t : TypeId} {v : Value} (hx : ev n e x = .iface t v) (h : Q (.panic [{ v := .iface t v, recovered := false }]) (act n e ds) w) :
  wl r P ops Q (⟨dst, .panic x, ty, ps, af, none⟩ :: rest) (act n e ds) w := by
 simp only [wl]
 rw [if_pos (by rfl), Oper.semAt_eq _ _ _ (fun _ => by simp), act_eval]
 have hrun : (execOp (ev n e) ⟨dst, .panic x, ty, ps, af, none⟩).run P w = .halt (.panic (.iface t v)) w := by
  have h0 : (Instr.panic (.iface t v)).run P w = .halt (.panic (.iface t v)) w := rfl
  simp only [execOp, hx, Sem.run_bind, h0]
  rfl
 rw [hrun]
 exact h
theorem s_scope {c : Code} {a : Act} (h : c.wpIn (Fw none) 0 P (Exit.noGoto Q) a w) : (Code.scope c).wpIn (Fw none) 0 P Q a w := wpIn_wide.2 (wp_scope_straight (wpIn_wide.1 h))
theorem s_label {l : Nat} {a : Act} (h : Q .normal a w) : (Code.label l).wpIn (Fw none) 0 P Q a w := wpIn_label h
theorem postP {fn : Func} {R : Ending → World → Prop} {ch : List PanicEntry} (h : R (.panicked ch) w) : bodyPost P fn R (.panic ch) (act n e []) w := ⟨rfl, h⟩
theorem o_callP {fo : Operand} {args : Array Operand} {ats : Array TypeId} {f : FuncId} {fi cap vs : List Value} {R : Ending → World → Prop} (hf : ev n e fo = .func (.func f) fi.toArray cap.toArray) (ha : args.toList.map (ev n e) = vs) (he : Ent P f)
  (hC : Calls P f (fi ++ vs ++ cap).toArray w R) (hk : ∀ en w', R en w' → (∃ v, en = .returned v ∧ wl r P ops Q rest (act n ((d, v) :: e) ds) w') ∨ ∃ ch, en = .panicked ch ∧ Q (.panic ch) (act n e ds) w') :
  wl r P ops Q (⟨some d, .call { callee := .value fo, args := args, argTypes := ats }, ty, ps, af, none⟩ :: rest) (act n e ds) w := by
 simp only [wl]
 rw [if_pos (by rfl), Oper.semAt_eq _ _ _ (fun _ => by simp), act_eval]
 have ha' : args.map (ev n e) = vs.toArray := by rw [← ha, ← Array.toList_map, Array.toArray_toList]
 have hrun : (execOp (ev n e) ⟨some d, .call { callee := .value fo, args := args, argTypes := ats }, ty, ps, af, none⟩).run P w = .ok (.enter f (fi ++ vs ++ cap).toArray) w := by
  simp only [execOp, resolve, hf, ha', Deferred.ofValue, Sem.run_bind, Sem.run_pure, Result.andThen_ok, invoke]
  rw [he]
  simp
 rw [hrun]
 simp only [Oper.uponIn]
 refine ⟨fun h => by simp [Fw, Fence.wide] at h, trivial, fun cs _ => ?_⟩
 obtain ⟨en, w', fr, hR, hc, hfn, hl⟩ := hC cs
 rcases hk en w' hR with ⟨v, rfl, hw⟩ | ⟨ch, rfl, hw⟩
 ·refine ⟨.returned v, w', fr, ?_, comesIn_wide.2 hc, hfn, hl⟩
  show wl r P ops Q rest ((act n e ds).put (some d) v) w'
  rw [act_put]
  exact hw
 ·exact ⟨.panicked ch, w', fr, hw, comesIn_wide.2 hc, hfn, hl⟩
end
end Go.Proofs.NV
namespace Go.Proofs.NV
open Go.RowKit Go.Shelf
attribute [local irreducible] bodyPost bodyPostM wpQuiet
inductive Ln where
 | head (ed mv : Int)
 | good (l : Int)
 | ent (x : Entry)
def Ln.val : Ln → Value
 | .head e m => .iface 253 (.agg #[I e, I m])
 | .good l => .iface 255 (.agg #[I l])
 | .ent x => .iface 257 (.agg #[I x.ed, I x.num, I x.good])
def Ln.kind : Ln → Nat
 | .head _ _ => 0
 | .good _ => 1
 | .ent _ => 2
def Ln.nums : Ln → List Int
 | .head e m => [e, m]
 | .good l => [l]
 | .ent x => [x.ed, x.num, x.good]
def lnT : Ty Ln := Ty.scalar Ln.val (fun x => by cases x <;> rfl)
def bookW : List UInt8 := [98, 111, 111, 107]
def goodW : List UInt8 := [103, 111, 111, 100]
def entryW : List UInt8 := [101, 110, 116, 114, 121]
def wordsV : List Value := [strV bookW, strV goodW, strV entryW]
theorem mkI229 (v : Value) (w : World) : (Instr.makeInterface 229 v).run Tryz.prog w = .ok (.iface 229 v) w := by kernel_rfl
theorem mkI253 (v : Value) (w : World) : (Instr.makeInterface 253 v).run Tryz.prog w = .ok (.iface 253 v) w := by kernel_rfl
theorem mkI255 (v : Value) (w : World) : (Instr.makeInterface 255 v).run Tryz.prog w = .ok (.iface 255 v) w := by kernel_rfl
theorem mkI257 (v : Value) (w : World) : (Instr.makeInterface 257 v).run Tryz.prog w = .ok (.iface 257 v) w := by kernel_rfl
theorem info225 : (Tryz.prog.info? 225).map (fun i => (i.zero, i.size, i.bytes)) = some (some .nilIface, 1, 16) := by kernel_rfl
def noneV (s : List UInt8) : PanicEntry := { v := .iface 229 (.agg #[strV s]), recovered := false }
theorem f166_calls (s : List UInt8) (c : UInt8) (w : World) (hs : s.length ≤ 1000000) :
  Calls Tryz.prog 166 #[.string (bs s), .string (bs [c])] w fun e w' => e = .returned (.slice (some ⟨w.heap.size, 0, none⟩) (splitL c s).length (splitL c s).length) ∧ Blk w' w.heap.size ((splitL c s).map strV) 9 ∧ w.grownBy w' none := by
 refine s_enter (n := 8) Tryz.func166 rfl rfl rfl ?_
 have G := grown_refl w none
 refine s_rseq fun _ k1 => ?_
 refine o_v v_assign ?_
 refine o_end (k1 _ _ ?_)
 refine s_rseq fun _ k2 => ?_
 refine o_v v_move ?_
 refine o_v v_move ?_
 refine o_call rfl rfl ent193 (f193_calls s c w hs) ?_; rintro _ w1 ⟨rfl, B1, g1⟩; refine ⟨_, rfl, ?_⟩
 replace G := G.step0 g1
 refine o_v v_assign ?_
 refine o_end (k2 _ _ ?_)
 refine s_ret (post1 rfl ?_)
 exact ⟨rfl, B1, G⟩
theorem f161_calls (w : World) :
  Calls Tryz.prog 161 #[] w fun e w' => e = .returned (.agg wordsV.toArray) ∧ w.grownBy w' none := by
 refine s_enter (n := 2) Tryz.func161 rfl rfl rfl ?_
 have G := grown_refl w none
 refine s_rseq fun _ k1 => ?_
 refine o_alloc (t := 220) ze220 rfl ?_; intro w1 B0 g1 z1
 replace G := G.step0 g1
 refine o_end (k1 _ _ ?_)
 refine s_rseq fun _ k2 => ?_
 refine o_v (v_build rfl (fun W => bld220_012 W)) ?_
 refine o_storeB (vs := wordsV) rfl rfl sz220 rfl B0 rfl rfl ?_; intro w2 B0 g2 z2
 refine o_end (k2 _ _ ?_)
 refine s_ret (postR (v := .agg wordsV.toArray) (res_c rfl rfl (run_loadVar_ag ag220 B0 rfl)) ?_)
 exact ⟨rfl, grown_own G g2 (Nat.le_refl _)⟩
theorem f167_calls (b : Bool) (s : List UInt8) (w : World) :
  Calls Tryz.prog 167 #[.bool b, .string (bs s)] w fun e w' => e = (if b then .returned (.tuple #[]) else .panicked [noneV s]) ∧ w.grownBy w' none := by
 refine s_enter (n := 9) Tryz.func167 rfl rfl rfl ?_
 have G := grown_refl w none
 refine s_rseq fun _ k1 => ?_
 refine o_v v_move ?_
 refine o_v (v_not rfl) ?_
 refine o_end (k1 _ _ ?_)
 refine s_if rfl (fun c1 => ?_) (fun c1 => ?_)
 ·refine s_region ?_
  refine o_v v_move ?_
  refine o_v (v_build rfl (fun W => bld229_0 W)) ?_
  refine o_v (v_mkI rfl (mkI229 _)) ?_
  refine o_panic rfl (postP ?_)
  exact ⟨by rw [if_neg (by simpa using c1)]; rfl, G⟩
 ·refine s_skip ?_
  exact post0n rfl ⟨by rw [if_pos (by simpa using c1)], G⟩
theorem f260_calls (x y : Int) (w : World) :
  Calls Tryz.prog 260 #[.agg #[I x, I y]] w fun e w' => ∃ A, e = .returned (.slice A 2 2) ∧ Ty.int.Sl w' (fun k => w.heap.size ≤ k) A [x, y] ∧ w.grownBy w' none := by
 refine s_enter (n := 8) Tryz.func260 rfl rfl rfl ?_
 have G := grown_refl w none
 refine s_rseq fun _ k1 => ?_
 refine o_box (t := 253) rfl ?_; intro w1 B1 g1 z1
 replace G := G.step0 g1
 refine o_v v_assign ?_
 refine o_end (k1 _ _ ?_)
 refine s_rseq fun _ k2 => ?_
 refine o_v (v_field rfl fld253_0) ?_
 refine o_v (v_loadB rfl sc3 B1 rfl) ?_
 refine o_v (v_field rfl fld253_1) ?_
 refine o_v (v_loadB rfl sc3 B1 rfl) ?_
 refine o_bslice rfl (fun W => bls56_2 W) ?_; intro w2 B7 g2 z2
 replace G := G.step0 g2; replace B1 := B1.step0 g2
 refine o_v v_assign ?_
 refine o_end (k2 _ _ ?_)
 refine s_ret (post1 rfl ?_)
 exact ⟨_, rfl, .inr ⟨w1.heap.size, 0, _, rfl, g1.size, B7.range 0 2, reps_int [x, y]⟩, G⟩
theorem f261_calls (x : Int) (w : World) :
  Calls Tryz.prog 261 #[.agg #[I x]] w fun e w' => ∃ A, e = .returned (.slice A 1 1) ∧ Ty.int.Sl w' (fun k => w.heap.size ≤ k) A [x] ∧ w.grownBy w' none := by
 refine s_enter (n := 6) Tryz.func261 rfl rfl rfl ?_
 have G := grown_refl w none
 refine s_rseq fun _ k1 => ?_
 refine o_box (t := 255) rfl ?_; intro w1 B1 g1 z1
 replace G := G.step0 g1
 refine o_v v_assign ?_
 refine o_end (k1 _ _ ?_)
 refine s_rseq fun _ k2 => ?_
 refine o_v (v_field rfl fld255_0) ?_
 refine o_v (v_loadB rfl sc3 B1 rfl) ?_
 refine o_bslice rfl (fun W => bls56_1 W) ?_; intro w2 B5 g2 z2
 replace G := G.step0 g2; replace B1 := B1.step0 g2
 refine o_v v_assign ?_
 refine o_end (k2 _ _ ?_)
 refine s_ret (post1 rfl ?_)
 exact ⟨_, rfl, .inr ⟨w1.heap.size, 0, _, rfl, g1.size, B5.range 0 1, reps_int [x]⟩, G⟩
theorem f262_calls (x y z : Int) (w : World) :
  Calls Tryz.prog 262 #[.agg #[I x, I y, I z]] w fun e w' => ∃ A, e = .returned (.slice A 3 3) ∧ Ty.int.Sl w' (fun k => w.heap.size ≤ k) A [x, y, z] ∧ w.grownBy w' none := by
 refine s_enter (n := 10) Tryz.func262 rfl rfl rfl ?_
 have G := grown_refl w none
 refine s_rseq fun _ k1 => ?_
 refine o_box (t := 257) rfl ?_; intro w1 B1 g1 z1
 replace G := G.step0 g1
 refine o_v v_assign ?_
 refine o_end (k1 _ _ ?_)
 refine s_rseq fun _ k2 => ?_
 refine o_v (v_field rfl fld257_0) ?_
 refine o_v (v_loadB rfl sc3 B1 rfl) ?_
 refine o_v (v_field rfl fld257_1) ?_
 refine o_v (v_loadB rfl sc3 B1 rfl) ?_
 refine o_v (v_field rfl fld257_2) ?_
 refine o_v (v_loadB rfl sc3 B1 rfl) ?_
 refine o_bslice rfl (fun W => bls56_3 W) ?_; intro w2 B9 g2 z2
 replace G := G.step0 g2; replace B1 := B1.step0 g2
 refine o_v v_assign ?_
 refine o_end (k2 _ _ ?_)
 refine s_ret (post1 rfl ?_)
 exact ⟨_, rfl, .inr ⟨w1.heap.size, 0, _, rfl, g1.size, B9.range 0 3, reps_int [x, y, z]⟩, G⟩
theorem meth253 (v : Value) (w : World) : (callMethod (.iface 253 v) "nacre/order.numbers" #[]).run Tryz.prog w = .ok (.enter 260 #[v]) w := by kernel_rfl
theorem meth255 (v : Value) (w : World) : (callMethod (.iface 255 v) "nacre/order.numbers" #[]).run Tryz.prog w = .ok (.enter 261 #[v]) w := by kernel_rfl
theorem meth257 (v : Value) (w : World) : (callMethod (.iface 257 v) "nacre/order.numbers" #[]).run Tryz.prog w = .ok (.enter 262 #[v]) w := by kernel_rfl
def Ln.obj : Ln → Value
 | .head e m => .agg #[I e, I m]
 | .good l => .agg #[I l]
 | .ent x => .agg #[I x.ed, I x.num, I x.good]
def Ln.ty : Ln → Nat
 | .head _ _ => 253
 | .good _ => 255
 | .ent _ => 257
theorem Ln.val_eq (l : Ln) : l.val = .iface l.ty l.obj := by cases l <;> rfl
theorem Ln.numbers (l : Ln) : ∃ f, (∀ w, (callMethod (.iface l.ty l.obj) "nacre/order.numbers" #[]).run Tryz.prog w = .ok (.enter f #[l.obj]) w) ∧ ∀ w, Calls Tryz.prog f #[l.obj] w fun e w' => ∃ A, e = .returned (.slice A l.nums.length l.nums.length) ∧ Ty.int.Sl w' (fun k => w.heap.size ≤ k) A l.nums ∧ w.grownBy w' none := by
 cases l with
 | head e m => exact ⟨260, meth253 _, fun w => f260_calls e m w⟩
 | good l => exact ⟨261, meth255 _, fun w => f261_calls l w⟩
 | ent x => exact ⟨262, meth257 _, fun w => f262_calls x.ed x.num x.good w⟩
theorem Ln.ta1 (l : Ln) : ∃ o, ∀ w, (Instr.typeAssert l.val 225 253 true).run Tryz.prog w = .ok (.tuple #[o, .bool (decide (l.kind = 0))]) w := by
 cases l with
 | head e m => exact ⟨_, fun w => ta253_253 _ w⟩
 | good l => exact ⟨_, fun w => ta255_253 _ w⟩
 | ent x => exact ⟨_, fun w => ta257_253 _ w⟩
theorem Ln.ta2 (l : Ln) (h : l.kind ≠ 0) : ∃ o, ∀ w, (Instr.typeAssert l.val 225 255 true).run Tryz.prog w = .ok (.tuple #[o, .bool (decide (l.kind = 1))]) w := by
 cases l with
 | head e m => exact absurd rfl h
 | good l => exact ⟨_, fun w => ta255_255 _ w⟩
 | ent x => exact ⟨_, fun w => ta257_255 _ w⟩
theorem Ln.kind_le (l : Ln) : l.kind ≤ 2 := by cases l <;> simp [Ln.kind]
theorem f163_calls (l : Ln) (w : World) :
  Calls Tryz.prog 163 #[l.val] w fun e w' => e = .returned (I l.kind) ∧ w.grownBy w' none := by
 refine s_enter (n := 10) Tryz.func163 rfl rfl rfl ?_
 have G := grown_refl w none
 refine s_rseq fun _ k1 => ?_
 refine o_v v_assign ?_
 refine o_end (k1 _ _ ?_)
 refine s_seq fun _ k2 => ?_
 refine s_rseq fun _ k3 => ?_
 refine o_v v_move ?_
 refine o_end (k3 _ _ ?_)
 refine s_block ?_
 refine s_rseq fun _ k4 => ?_
 obtain ⟨o1, h1⟩ := l.ta1
 refine o_v (v_ta rfl (fun W => h1 W)) ?_
 refine o_v (v_extract rfl rfl) ?_
 refine o_v (v_extract rfl rfl) ?_
 refine o_end (k4 _ _ ?_)
 refine s_if rfl (fun c4 => ?_) (fun c4 => ?_)
 ·refine s_rseq fun _ k5 => ?_
  refine o_v v_assign ?_
  refine o_end (k5 _ _ ?_)
  refine s_ret (post1 rfl ?_)
  exact ⟨by rw [show l.kind = 0 from by simpa using c4]; rfl, G⟩
 ·refine s_rseq fun _ k6 => ?_
  obtain ⟨o2, h2⟩ := l.ta2 (by simpa using c4)
  refine o_v (v_ta rfl (fun W => h2 W)) ?_
  refine o_v (v_extract rfl rfl) ?_
  refine o_v (v_extract rfl rfl) ?_
  refine o_end (k6 _ _ ?_)
  refine s_if rfl (fun c6 => ?_) (fun c6 => ?_)
  ·refine s_rseq fun _ k7 => ?_
   refine o_v v_assign ?_
   refine o_end (k7 _ _ ?_)
   refine s_ret (post1 rfl ?_)
   exact ⟨by rw [show l.kind = 1 from by simpa using c6]; rfl, G⟩
  ·refine s_skip ?_
   refine k2 _ _ ?_
   refine s_rseq fun _ k8 => ?_
   refine o_v v_assign ?_
   refine o_end (k8 _ _ ?_)
   refine s_ret (post1 rfl ?_)
   have h1 : l.kind ≠ 0 := by simpa using c4
   have h2 : l.kind ≠ 1 := by simpa using c6
   have h3 := l.kind_le
   exact ⟨by rw [show l.kind = 2 by omega]; rfl, G⟩
def linesTo (b : Book) (i j : Nat) : List Ln := (.head b.ed b.mv :: (b.goods.take i).map .good) ++ (b.ents.take j).map .ent
def linesL (b : Book) : List Ln := linesTo b b.goods.length b.ents.length
theorem linesTo_good (b : Book) (i : Nat) (h : i < b.goods.length) : linesTo b (i + 1) 0 = linesTo b i 0 ++ [.good b.goods[i]] := by
 unfold linesTo
 rw [List.take_succ_eq_append_getElem h]
 simp only [List.map_append, List.map_cons, List.map_nil, List.take_zero, List.append_nil, List.cons_append]
theorem linesTo_ent (b : Book) (i j : Nat) (h : j < b.ents.length) : linesTo b i (j + 1) = linesTo b i j ++ [.ent b.ents[j]] := by
 unfold linesTo
 rw [List.take_succ_eq_append_getElem h]
 simp only [List.map_append, List.map_cons, List.map_nil, List.append_assoc, List.cons_append]
theorem linesTo_len (b : Book) (i j : Nat) : (linesTo b i j).length ≤ 1 + i + j := by
 unfold linesTo
 simp only [List.length_append, List.length_cons, List.length_map, List.length_take]
 omega
theorem linesTo_zero (b : Book) : linesTo b 0 0 = [.head b.ed b.mv] := by unfold linesTo; simp
attribute [local irreducible] linesTo
theorem f162_calls {S : Nat → Prop} (b : Book) (gA : Option Addr) (gc : Nat) (eA : Option Addr) (ec : Nat) (w : World) (hI : BookIn w S b gA gc eA ec) (hg : b.goods.length ≤ 1000) (he : b.ents.length ≤ 1000) :
  Calls Tryz.prog 162 #[.agg (b.cells gA gc eA ec).toArray] w fun e w' => ∃ v, e = .returned v ∧ lnT.Row 225 w' (fun k => w.heap.size ≤ k) v (linesL b) ∧ w.grownBy w' none := by
 refine s_enter (n := 50) Tryz.func162 rfl rfl rfl ?_
 have G := grown_refl w none
 refine s_rseq fun _ k1 => ?_
 refine o_box (t := 25) rfl ?_; intro w1 B1 g1 z1
 replace G := G.step0 g1
 replace hI := hI.step0 g1
 refine o_v v_assign ?_
 refine o_end (k1 _ _ ?_)
 refine s_rseq fun _ k2 => ?_
 refine o_v (v_field rfl fld25_1) ?_
 refine o_v (v_loadB rfl sc3 B1 rfl) ?_
 refine o_v (v_field rfl fld25_2) ?_
 refine o_v (v_loadB rfl sc3 B1 rfl) ?_
 refine o_v (v_build rfl (fun W => bld253_01 W)) ?_
 refine o_v (v_mkI rfl (mkI253 _)) ?_
 refine o_bslice rfl (fun W => bls222_1 W) ?_; intro w2 B14 g2 z2
 have hrow0 : lnT.Row 225 w2 (fun k => w1.heap.size ≤ k) (.slice (some ⟨w1.heap.size, 0, none⟩) 1 1) (linesTo b 0 0) := by
  rw [linesTo_zero]
  exact Ty.Row.close (ys := [Ln.head b.ed b.mv]) (Nat.le_refl _) B14 rfl (Nat.le_refl _) (by decide) (Reps.one rfl)
 clear B14
 have hI0 := hI
 have B0 := B1
 replace B1 := B1.step0 g2
 refine o_v v_assign ?_
 refine o_end (k2 _ _ ?_)
 refine s_seq fun _ k3 => ?_
 refine s_rseq fun _ k4 => ?_
 refine o_v (v_field rfl fld25_0) ?_
 refine o_v (v_loadB rfl sc22 B1 rfl) ?_
 refine o_v (v_len rfl Tryz.underlying22) ?_
 refine o_v v_move ?_
 refine o_end (k4 _ _ ?_)
 refine s_block ?_
 refine s_loop (G := Nat × Value) (fun g => [(3, g.2), (18, I g.1)]) [3, 18] [5, 19, 20, 21, 22, 23, 24, 25, 26, 27, 28, 29] (fun g W => (g.1 ≤ b.goods.length ∧ lnT.Row 225 W (fun k => w1.heap.size ≤ k) g.2 (linesTo b g.1 0)) ∧ w1.grownBy W none) (fun g => b.goods.length - g.1) (fun _ => rfl) (0, .slice (some ⟨w1.heap.size, 0, none⟩) 1 1) ⟨rfl, rfl, trivial⟩ ⟨⟨Nat.zero_le _, hrow0⟩, g2⟩ ?_
 rintro ⟨i, row⟩ jv w3 ⟨⟨hi, hrow⟩, g3⟩
 simp only at hi hrow ⊢
 have h13 := g3.size
 replace hI := hI0.step0 g3
 replace B1 := B0.step0 g3
 refine s_rseq fun _ k5 => ?_
 refine o_v (v_lss rfl rfl) ?_
 refine o_end (k5 _ _ ?_)
 refine s_seq fun _ k6 => ?_
 refine s_ifd rfl (fun c6 => ?_) (fun c6 => ?_)
 ·have hlt : i < b.goods.length := by omega
  obtain ⟨bl, ol, cl, rfl, _, hrepl, hrgl⟩ := hI.goods.get i hlt
  obtain rfl : cl = [I b.goods[i]] := hrepl
  have hll := linesTo_len b i 0
  refine s_skip ?_
  refine k6 _ _ ?_
  refine s_seq fun _ k7 => ?_
  refine s_block ?_
  refine s_rseq fun _ k8 => ?_
  refine o_v (v_index rfl rfl slt22 (by omega)) ?_
  refine o_v (v_loadR rfl ag148 hrgl rfl) ?_
  refine o_allocst ze148 rfl rfl rfl sz148 rfl rfl rfl ?_; intro w4 B5 g4 z4
  replace g3 := g3.step0 g4; replace hrow := hrow.step0 g4
  refine o_end (k8 _ _ ?_)
  refine s_region ?_
  refine o_v v_move ?_
  refine o_v (v_field rfl fld148_0) ?_
  refine o_v (v_loadB rfl sc3 B5 rfl) ?_
  refine o_v (v_build rfl (fun W => bld255_0 W)) ?_
  refine o_v (v_mkI rfl (mkI255 _)) ?_
  refine o_bslice rfl (fun W => bls222_1 W) ?_; intro w5 B27 g5 z5
  replace g3 := g3.step0 g5; replace hrow := hrow.step0 g5
  refine o_append1 (t := lnT) (p := .good b.goods[i]) rfl rfl hrow B27 Tryz.underlying222 info225 rfl rfl (fun k hk => by have := g3.size; omega) (by omega) (by decide) ?_
  intro row' wa hrow6 ga hat
  have G6 : w1.grownBy wa none := grown_ownO g3 ga (fun b hb => hrow.1 b hb)
  refine o_v v_assign ?_
  refine o_end ?_
  refine k7 _ _ ?_
  refine s_region ?_
  refine o_v (v_add rfl rfl (by omega)) ?_
  refine o_v v_move ?_
  refine o_end ?_
  refine mid (i + 1, row') ?_ ?_ ?_
  ·repeat (first | exact off_refl | refine off_cons rfl ?_)
  ·exact ⟨rfl, rfl, trivial⟩
  ·refine ⟨⟨⟨hlt, ?_⟩, G6⟩, by simp only; omega⟩
   simp only
   rw [linesTo_good b i hlt]
   exact hrow6
 ·obtain rfl : i = b.goods.length := by omega
  clear hi c6
  refine s_exit ?_
  refine k3 _ _ ?_
  refine s_seq fun _ k9 => ?_
  refine s_rseq fun _ k10 => ?_
  refine o_v (v_field rfl fld25_3) ?_
  refine o_v (v_loadB rfl sc23 B1 rfl) ?_
  refine o_v (v_len rfl Tryz.underlying23) ?_
  refine o_v v_move ?_
  refine o_end (k10 _ _ ?_)
  refine s_block ?_
  refine s_loop (G := Nat × Value) (fun g => [(3, g.2), (33, I g.1)]) [3, 33] [7, 34, 35, 36, 37, 38, 39, 40, 41, 42, 43, 44, 45, 46, 47, 48] (fun g W => (g.1 ≤ b.ents.length ∧ lnT.Row 225 W (fun k => w1.heap.size ≤ k) g.2 (linesTo b b.goods.length g.1)) ∧ w1.grownBy W none) (fun g => b.ents.length - g.1) (fun _ => rfl) (0, row) ⟨rfl, rfl, trivial⟩ ⟨⟨Nat.zero_le _, hrow⟩, g3⟩ ?_
  clear hrow g3 h13 hI
  rintro ⟨j, row⟩ jv w6 ⟨⟨hj, hrow⟩, g6⟩
  simp only at hj hrow ⊢
  have h16 := g6.size
  replace hI := hI0.step0 g6
  replace B1 := B0.step0 g6
  refine s_rseq fun _ k11 => ?_
  refine o_v (v_lss rfl rfl) ?_
  refine o_end (k11 _ _ ?_)
  refine s_seq fun _ k12 => ?_
  refine s_ifd rfl (fun c12 => ?_) (fun c12 => ?_)
  ·have hlt : j < b.ents.length := by omega
   obtain ⟨bl, ol, cl, rfl, _, hrepl, hrgl⟩ := hI.ents.get j hlt
   obtain rfl : cl = [I b.ents[j].ed, I b.ents[j].num, I b.ents[j].good] := hrepl
   have hll := linesTo_len b b.goods.length j
   refine s_skip ?_
   refine k12 _ _ ?_
   refine s_seq fun _ k13 => ?_
   refine s_block ?_
   refine s_rseq fun _ k14 => ?_
   refine o_v (v_index rfl rfl slt23 (by omega)) ?_
   refine o_v (v_loadR rfl ag99 hrgl rfl) ?_
   refine o_allocst ze99 rfl rfl rfl sz99 rfl rfl rfl ?_; intro w7 B7 g7 z7
   replace g6 := g6.step0 g7; replace hrow := hrow.step0 g7
   refine o_end (k14 _ _ ?_)
   refine s_region ?_
   refine o_v v_move ?_
   refine o_v (v_field rfl fld99_0) ?_
   refine o_v (v_loadB rfl sc3 B7 rfl) ?_
   refine o_v (v_field rfl fld99_1) ?_
   refine o_v (v_loadB rfl sc3 B7 rfl) ?_
   refine o_v (v_field rfl fld99_2) ?_
   refine o_v (v_loadB rfl sc3 B7 rfl) ?_
   refine o_v (v_build rfl (fun W => bld257_012 W)) ?_
   refine o_v (v_mkI rfl (mkI257 _)) ?_
   refine o_bslice rfl (fun W => bls222_1 W) ?_; intro w8 B46 g8 z8
   replace g6 := g6.step0 g8; replace hrow := hrow.step0 g8
   refine o_append1 (t := lnT) (p := .ent b.ents[j]) rfl rfl hrow B46 Tryz.underlying222 info225 rfl rfl (fun k hk => by have := g6.size; omega) (by omega) (by decide) ?_
   intro row' wb hrowb gb hat
   have G10 : w1.grownBy wb none := grown_ownO g6 gb (fun b hb => hrow.1 b hb)
   refine o_v v_assign ?_
   refine o_end ?_
   refine k13 _ _ ?_
   refine s_region ?_
   refine o_v (v_add rfl rfl (by omega)) ?_
   refine o_v v_move ?_
   refine o_end ?_
   refine mid (j + 1, row') ?_ ?_ ?_
   ·repeat (first | exact off_refl | refine off_cons rfl ?_)
   ·exact ⟨rfl, rfl, trivial⟩
   ·refine ⟨⟨⟨hlt, ?_⟩, G10⟩, by simp only; omega⟩
    simp only
    rw [linesTo_ent b _ j hlt]
    exact hrowb
  ·obtain rfl : j = b.ents.length := by omega
   refine s_exit ?_
   refine k9 _ _ ?_
   refine s_rseq fun _ k15 => ?_
   refine o_v v_move ?_
   refine o_v v_assign ?_
   refine o_end (k15 _ _ ?_)
   refine s_ret (post1 rfl ?_)
   exact ⟨row, rfl, hrow.mono fun k hk => by have := g1.size; omega, g1.step0 g6⟩
end Go.Proofs.NV
namespace Go.Proofs.NV
open Go.RowKit Go.Shelf
attribute [local irreducible] bodyPost bodyPostM wpQuiet
def wordL : Nat → List UInt8
 | 0 => bookW
 | 1 => goodW
 | _ => entryW
theorem wordsV_at (l : Ln) : wordsV[0 + (l.kind : Int).toNat * 1]? = some (strV (wordL l.kind)) := by cases l <;> rfl
theorem wordL_len (k : Nat) : (wordL k).length ≤ 5 := by
 unfold wordL
 split <;> decide
theorem decL_len (n : Int) (h : 0 ≤ n ∧ n < 100) : (decL n).length ≤ 2 := by
 have : ∀ k, k < 100 → (Lib.decDigits k).length ≤ 2 := by decide +kernel
 exact this n.toNat (by omega)
def rowTo (l : Ln) (k : Nat) : List UInt8 := wordL l.kind ++ (l.nums.take k).flatMap fun n => 32 :: decL n
def rowL (l : Ln) : List UInt8 := rowTo l l.nums.length
theorem rowTo_zero (l : Ln) : rowTo l 0 = wordL l.kind := by unfold rowTo; simp
theorem rowTo_succ (l : Ln) (k : Nat) (h : k < l.nums.length) : rowTo l (k + 1) = rowTo l k ++ ([32] ++ decL l.nums[k]) := by
 unfold rowTo
 rw [List.take_succ_eq_append_getElem h, List.flatMap_append]
 simp
theorem nums_len (l : Ln) : l.nums.length ≤ 3 := by cases l <;> simp [Ln.nums]
theorem rowTo_len (l : Ln) (hn : ∀ n ∈ l.nums, 0 ≤ n ∧ n < 100) : ∀ k, k ≤ l.nums.length → (rowTo l k).length ≤ 5 + 3 * k
 | 0, _ => by rw [rowTo_zero]; have := wordL_len l.kind; omega
 | k + 1, h => by
  have ih := rowTo_len l hn k (by omega)
  have hd := decL_len _ (hn _ (List.getElem_mem (show k < l.nums.length by omega)))
  rw [rowTo_succ l k (by omega)]
  simp only [List.length_append, List.length_cons, List.length_nil]
  omega
def sumTo (row : List UInt8) (i : Nat) : Nat → Int
 | 0 => 0
 | k + 1 => sumTo row i k + ((row[k]?.getD 0).toNat : Int) * ((k : Int) + 1) * ((i : Int) + 1)
theorem cell_bound (c : UInt8) (k i : Nat) (hk : k < 20) (hi : i < 1000) : (0 ≤ (c.toNat : Int) * ((k : Int) + 1) ∧ (c.toNat : Int) * ((k : Int) + 1) ≤ 5100) ∧ 0 ≤ (c.toNat : Int) * ((k : Int) + 1) * ((i : Int) + 1) ∧ (c.toNat : Int) * ((k : Int) + 1) * ((i : Int) + 1) ≤ 5100000 := by
 have hc : c.toNat < 256 := c.toNat_lt
 have h1 : 0 ≤ (c.toNat : Int) * ((k : Int) + 1) := Int.mul_nonneg (by omega) (by omega)
 have h2 : (c.toNat : Int) * ((k : Int) + 1) ≤ 255 * 20 := Int.mul_le_mul (by omega) (by omega) (by omega) (by omega)
 have h3 : 0 ≤ (c.toNat : Int) * ((k : Int) + 1) * ((i : Int) + 1) := Int.mul_nonneg h1 (by omega)
 have h4 : (c.toNat : Int) * ((k : Int) + 1) * ((i : Int) + 1) ≤ 5100 * 1000 := Int.mul_le_mul (by omega) (by omega) (by omega) (by omega)
 omega
theorem sumTo_bound (row : List UInt8) (i : Nat) (hi : i < 1000) : ∀ k, k ≤ 20 → 0 ≤ sumTo row i k ∧ sumTo row i k ≤ 5100000 * k
 | 0, _ => by simp [sumTo]
 | k + 1, hk => by
  have ih := sumTo_bound row i hi k (by omega)
  have hb := (cell_bound (row[k]?.getD 0) k i (by omega) hi).2
  rw [sumTo]
  omega
theorem sumTo_succ {row : List UInt8} {i k : Nat} {c : UInt8} (h : row[k]? = some c) : sumTo row i (k + 1) = sumTo row i k + (c.toNat : Int) * ((k : Int) + 1) * ((i : Int) + 1) := by
 rw [sumTo, h, Option.getD_some]
def checkTo (ls : List Ln) : Nat → Int
 | 0 => 0
 | i + 1 => checkTo ls i + (((ls[i]?).map fun l => sumTo (rowL l) i (rowL l).length)).getD 0
def bodyTo (ls : List Ln) (i : Nat) : List UInt8 := (ls.take i).flatMap fun l => rowL l ++ [10]
theorem checkTo_succ {ls : List Ln} {i : Nat} (h : i < ls.length) : checkTo ls (i + 1) = checkTo ls i + sumTo (rowL ls[i]) i (rowL ls[i]).length := by
 rw [checkTo, List.getElem?_eq_getElem h]
 rfl
theorem bodyTo_succ {ls : List Ln} {i : Nat} (h : i < ls.length) : bodyTo ls (i + 1) = bodyTo ls i ++ (rowL ls[i] ++ [10]) := by
 unfold bodyTo
 rw [List.take_succ_eq_append_getElem h, List.flatMap_append]
 simp
def LnsOk (ls : List Ln) : Prop := ls.length ≤ 1000 ∧ ∀ l ∈ ls, ∀ n ∈ l.nums, 0 ≤ n ∧ n < 100
theorem rowL_len {l : Ln} (hn : ∀ n ∈ l.nums, 0 ≤ n ∧ n < 100) : (rowL l).length ≤ 14 := by
 have h1 := rowTo_len l hn _ (Nat.le_refl _)
 have h2 := nums_len l
 unfold rowL
 omega
theorem checkTo_bound {ls : List Ln} (h : LnsOk ls) : ∀ i, i ≤ ls.length → 0 ≤ checkTo ls i ∧ checkTo ls i ≤ 102000000 * i
 | 0, _ => by simp [checkTo]
 | i + 1, hi => by
  have ih := checkTo_bound h i (by omega)
  have hr := rowL_len (h.2 _ (List.getElem_mem (show i < ls.length by omega)))
  have hb := sumTo_bound (rowL ls[i]) i (by have := h.1; omega) (rowL ls[i]).length (by omega)
  rw [checkTo_succ (by omega)]
  omega
theorem bodyTo_len {ls : List Ln} (h : LnsOk ls) : ∀ i, i ≤ ls.length → (bodyTo ls i).length ≤ 15 * i
 | 0, _ => by simp [bodyTo]
 | i + 1, hi => by
  have ih := bodyTo_len h i (by omega)
  have hr := rowL_len (h.2 _ (List.getElem_mem (show i < ls.length by omega)))
  rw [bodyTo_succ (by omega)]
  simp only [List.length_append, List.length_cons, List.length_nil]
  omega
def endL (c : Int) : List UInt8 := [101, 110, 100, 32] ++ decL (c / 100) ++ decL (c / 10 % 10) ++ decL (c % 10) ++ [10]
def textLs (ls : List Ln) : List UInt8 := bodyTo ls ls.length ++ endL (checkTo ls ls.length % 151)
def textL (b : Book) : List UInt8 := textLs (linesL b)
theorem linesL_len (b : Book) : (linesL b).length ≤ 1 + b.goods.length + b.ents.length := linesTo_len b _ _
attribute [local irreducible] sumTo checkTo bodyTo rowTo decL linesL wordL
theorem f116_calls {S : Nat → Prop} (b : Book) (gA : Option Addr) (gc : Nat) (eA : Option Addr) (ec : Nat) (w : World) (hI : BookIn w S b gA gc eA ec) (hg : b.goods.length ≤ 400) (he : b.ents.length ≤ 400) (hok : LnsOk (linesL b)) :
  Calls Tryz.prog 116 #[.agg (b.cells gA gc eA ec).toArray] w fun e w' => e = .returned (strV (textL b)) ∧ w.grownBy w' none := by
 refine s_enter (n := 79) Tryz.func116 rfl rfl rfl ?_
 have G := grown_refl w none
 refine s_rseq fun _ k1 => ?_
 refine o_box (t := 25) rfl ?_; intro w1 B1 g1 z1
 replace G := G.step0 g1
 refine o_v v_assign ?_
 refine o_end (k1 _ _ ?_)
 refine s_rseq fun _ k2 => ?_
 refine o_call rfl rfl ent161 ((f161_calls w1)) ?_; rintro _ w2 ⟨rfl, g2⟩; refine ⟨_, rfl, ?_⟩
 replace G := G.step0 g2; replace B1 := B1.step0 g2
 refine o_allocst (vs := wordsV) ze220 rfl rfl rfl sz220 rfl rfl rfl ?_; intro w3 B3 g3 z3
 replace G := G.step0 g3; replace B1 := B1.step0 g3
 refine o_end (k2 _ _ ?_)
 refine s_rseq fun _ k3 => ?_
 refine o_v v_assign ?_
 refine o_v v_assign ?_
 refine o_end (k3 _ _ ?_)
 refine s_seq fun _ k4 => ?_
 refine s_rseq fun _ k5 => ?_
 refine o_v (v_loadBS rfl ag25 B1 rfl rfl) ?_
 refine o_call rfl rfl ent162 (f162_calls b gA gc eA ec w3 (hI.step0 G) (by omega) (by omega)) ?_; rintro _ w4 ⟨lv, rfl, hrow, g4⟩; refine ⟨_, rfl, ?_⟩
 obtain ⟨ls, hls⟩ : ∃ ls, ls = linesL b := ⟨_, rfl⟩
 rw [← hls] at hrow hok
 obtain ⟨lA, lc, rfl, _, _, hS⟩ := hrow.reads
 clear hrow
 replace G := G.step0 g4; replace B1 := B1.step0 g4; replace B3 := B3.step0 g4
 refine o_v (v_len rfl Tryz.underlying222) ?_
 refine o_v v_move ?_
 refine o_end (k5 _ _ ?_)
 refine s_block ?_
 have hb0 : bodyTo ls 0 = [] := by with_unfolding_all rfl
 have hc0 : checkTo ls 0 = 0 := by with_unfolding_all rfl
 have hS0 := hS
 have B30 := B3
 have G0 := G
 refine s_loop (G := Nat) (fun i => [(4, strV (bodyTo ls i)), (5, I (checkTo ls i)), (16, I i)]) [4, 5, 16] [6, 7, 8, 10, 11, 17, 18, 19, 20, 21, 22, 23, 24, 25, 26, 27, 28, 29, 30, 31, 32, 33, 34, 35, 36, 37, 38, 39, 40, 41, 42, 43, 44, 45, 46, 47, 48, 49, 50, 51, 52, 53, 54, 55, 56, 57, 58, 59, 60] (fun i W => (i ≤ ls.length) ∧ w4.grownBy W none) (fun i => ls.length - i) (fun _ => rfl) 0 ⟨by rw [hb0]; rfl, by rw [hc0]; rfl, rfl, trivial⟩ ⟨Nat.zero_le _, grown_refl _ _⟩ ?_
 rintro i jv w5 ⟨hi, g5⟩
 replace G := G0.step0 g5
 replace B3 := B30.step0 g5
 replace hS := hS0.step0 g5
 have hlen := hok.1
 refine s_rseq fun _ k6 => ?_
 refine o_v (v_lss rfl rfl) ?_
 refine o_end (k6 _ _ ?_)
 refine s_seq fun _ k7 => ?_
 refine s_ifd rfl (fun c7 => ?_) (fun c7 => ?_)
 ·have hlt : i < ls.length := by omega
  obtain ⟨bl, ol, cl, rfl, _, hrepl, hrgl⟩ := hS.get i hlt
  obtain rfl : cl = [ls[i].val] := hrepl
  obtain ⟨l, hl⟩ : ∃ l, l = ls[i] := ⟨_, rfl⟩
  have hnl := hok.2 l (by rw [hl]; exact List.getElem_mem hlt)
  rw [← hl] at hrgl
  replace hrgl := hrgl 0 _ rfl
  have hkl := l.kind_le
  have hnn := nums_len l
  have hcb := checkTo_bound hok i hi
  have hbl := bodyTo_len hok i hi
  have hrl := rowL_len hnl
  have hcst : checkTo ls (i + 1) = checkTo ls i + sumTo (rowL l) i (rowL l).length := by rw [checkTo_succ hlt, ← hl]
  have hbst : bodyTo ls (i + 1) = bodyTo ls i ++ (rowL l ++ [10]) := by rw [bodyTo_succ hlt, ← hl]
  refine s_skip ?_
  refine k7 _ _ ?_
  refine s_seq fun _ k8 => ?_
  refine s_block ?_
  refine s_rseq fun _ k9 => ?_
  refine o_v v_move ?_
  refine o_v (v_index rfl rfl slt222 (by omega)) ?_
  refine o_v (v_loadC rfl sc225 hrgl) ?_
  refine o_v v_assign ?_
  refine o_v v_assign ?_
  refine o_end (k9 _ _ ?_)
  refine s_rseq fun _ k10 => ?_
  refine o_v v_move ?_
  refine o_call rfl rfl ent163 ((f163_calls l w5)) ?_; rintro _ w6 ⟨rfl, g6⟩; refine ⟨_, rfl, ?_⟩
  replace G := G.step0 g6; replace B3 := B3.step0 g6; replace g5 := g5.step0 g6
  refine o_v (v_indexP (sz := 1) rfl rfl Tryz.underlying220 (by kernel_rfl) (by omega)) ?_
  refine o_v (v_loadC rfl sc9 ((B3.cell _).trans (wordsV_at l))) ?_
  refine o_v v_assign ?_
  refine o_end (k10 _ _ ?_)
  refine s_seq fun _ k11 => ?_
  refine s_rseq fun _ k12 => ?_
  refine o_v v_move ?_
  obtain ⟨nf, hmeth, hnum⟩ := l.numbers
  refine o_invoke (v := l.obj) (t := l.ty) (by exact l.val_eq) hmeth (hnum _) ?_; rintro _ wi ⟨nA, rfl, hnS, gi⟩; refine ⟨_, rfl, ?_⟩
  replace G := G.step0 gi; replace B3 := B3.step0 gi; replace g5 := g5.step0 gi
  have hnS0 := hnS
  refine o_v (v_len rfl Tryz.underlying56) ?_
  refine o_v v_move ?_
  refine o_end (k12 _ _ ?_)
  refine s_block ?_
  refine s_loop (G := Nat) (fun k => [(8, strV (rowTo l k)), (28, I k)]) [8, 28] [10, 29, 30, 31, 32, 33, 34, 35, 36, 37] (fun k W => (k ≤ l.nums.length) ∧ wi.grownBy W none) (fun k => l.nums.length - k) (fun _ => rfl) 0 ⟨by rw [rowTo_zero]; rfl, rfl, trivial⟩ ⟨Nat.zero_le _, grown_refl _ _⟩ ?_
  rintro k jv w7 ⟨hk, g7⟩
  replace G := G.step0 g7; replace B3 := B3.step0 g7; replace g5 := g5.step0 g7
  refine s_rseq fun _ k13 => ?_
  refine o_v (v_lss rfl rfl) ?_
  refine o_end (k13 _ _ ?_)
  refine s_seq fun _ k14 => ?_
  refine s_ifd rfl (fun c14 => ?_) (fun c14 => ?_)
  ·have hklt : k < l.nums.length := by omega
   obtain ⟨bn, on, rfl, hcn⟩ := (hnS0.step0 g7).int k hklt
   have hnk := hnl _ (List.getElem_mem hklt)
   have hrk := rowTo_len l hnl k hk
   have hdl := decL_len _ hnk
   refine s_skip ?_
   refine k14 _ _ ?_
   refine s_seq fun _ k15 => ?_
   refine s_block ?_
   refine s_rseq fun _ k16 => ?_
   refine o_v (v_index rfl rfl slt56 (by omega)) ?_
   refine o_v (v_loadC rfl sc3 hcn) ?_
   refine o_v v_assign ?_
   refine o_end (k16 _ _ ?_)
   refine s_region ?_
   refine o_v v_move ?_
   refine o_v v_move ?_
   refine o_call rfl rfl ent164 ((f164_calls l.nums[k] hnk w7)) ?_; rintro _ w8 ⟨rfl, g8⟩; refine ⟨_, rfl, ?_⟩
   replace g7 := g7.step0 g8; replace g5 := g5.step0 g8
   refine o_v (v_addS (a := [32]) rfl rfl (by simp only [List.length_cons, List.length_nil]; omega)) ?_
   refine o_v (v_addS rfl rfl (by simp only [List.length_append, List.length_cons, List.length_nil]; omega)) ?_
   refine o_v v_assign ?_
   refine o_end ?_
   refine k15 _ _ ?_
   refine s_region ?_
   refine o_v (v_add rfl rfl (by omega)) ?_
   refine o_v v_move ?_
   refine o_end ?_
   refine mid (k + 1) ?_ ?_ ?_
   ·repeat (first | exact off_refl | refine off_cons rfl ?_)
   ·exact ⟨congrArg strV (rowTo_succ l k hklt).symm, rfl, trivial⟩
   ·exact ⟨⟨hklt, g7⟩, by omega⟩
  ·obtain hkn : k = l.nums.length := by omega
   subst hkn
   refine s_exit ?_
   refine k11 _ _ ?_
   refine s_seq fun _ k17 => ?_
   refine s_rseq fun _ k18 => ?_
   refine o_v v_move ?_
   refine o_v (v_lenB (a := rowL l) rfl Tryz.underlying9) ?_
   refine o_v v_move ?_
   refine o_end (k18 _ _ ?_)
   refine s_block ?_
   have hs0 : sumTo (rowL l) i 0 = 0 := by with_unfolding_all rfl
   refine s_loop (G := Nat) (fun k => [(5, I (checkTo ls i + sumTo (rowL l) i k)), (40, I k)]) [5, 40] [11, 41, 42, 43, 44, 45, 46, 47, 48, 49, 50, 51, 52, 53, 54, 55] (fun k W => (k ≤ (rowL l).length) ∧ w4.grownBy W none) (fun k => (rowL l).length - k) (fun _ => rfl) 0 ⟨by rw [hs0, Int.add_zero]; rfl, rfl, trivial⟩ ⟨Nat.zero_le _, g5⟩ ?_
   clear g5 g7 G B3 hS
   rintro k jv w9 ⟨hk, g9⟩
   refine s_rseq fun _ k19 => ?_
   refine o_v (v_lss rfl rfl) ?_
   refine o_end (k19 _ _ ?_)
   refine s_seq fun _ k20 => ?_
   refine s_ifd rfl (fun c20 => ?_) (fun c20 => ?_)
   ·have hklt : k < (rowL l).length := by omega
    obtain ⟨c, hc⟩ : ∃ c, (rowL l)[k]? = some c := ⟨_, List.getElem?_eq_getElem hklt⟩
    have hc8 : c.toNat < 256 := c.toNat_lt
    have hcell := cell_bound c k i (by omega) (by omega)
    have hsb := sumTo_bound (rowL l) i (by omega) k (by omega)
    have hst : checkTo ls i + sumTo (rowL l) i (k + 1) = checkTo ls i + sumTo (rowL l) i k + (c.toNat : Int) * ((k : Int) + 1) * ((i : Int) + 1) := by rw [sumTo_succ hc]; omega
    refine s_skip ?_
    refine k20 _ _ ?_
    refine s_seq fun _ k21 => ?_
    refine s_block ?_
    refine s_rseq fun _ k22 => ?_
    refine o_v v_move ?_
    refine o_v v_assign ?_
    refine o_end (k22 _ _ ?_)
    refine s_region ?_
    refine o_v v_move ?_
    refine o_v v_move ?_
    refine o_v v_move ?_
    refine o_v (v_indexS (a := rowL l) (i := k) rfl rfl Tryz.underlying9 hc) ?_
    refine o_v (v_conv64 rfl Tryz.underlying5 Tryz.underlying3 (by omega)) ?_
    refine o_v v_move ?_
    refine o_v (v_add rfl rfl (by omega)) ?_
    refine o_v (v_mul rfl rfl (by omega)) ?_
    refine o_v v_move ?_
    refine o_v (v_add rfl rfl (by omega)) ?_
    refine o_v (v_mul rfl rfl (by omega)) ?_
    refine o_v (v_add rfl rfl (by omega)) ?_
    refine o_v v_assign ?_
    refine o_end ?_
    refine k21 _ _ ?_
    refine s_region ?_
    refine o_v (v_add rfl rfl (by omega)) ?_
    refine o_v v_move ?_
    refine o_end ?_
    refine mid (k + 1) ?_ ?_ ?_
    ·repeat (first | exact off_refl | refine off_cons rfl ?_)
    ·exact ⟨congrArg I hst.symm, rfl, trivial⟩
    ·exact ⟨⟨hklt, g9⟩, by omega⟩
   ·obtain hkn : k = (rowL l).length := by omega
    subst hkn
    refine s_exit ?_
    refine k17 _ _ ?_
    refine s_region ?_
    refine o_v v_move ?_
    refine o_v v_move ?_
    refine o_v (v_addS (a := rowL l) (b := [10]) rfl rfl (by simp only [List.length_cons, List.length_nil]; omega)) ?_
    refine o_v (v_addS rfl rfl (by simp only [List.length_append, List.length_cons, List.length_nil]; omega)) ?_
    refine o_v v_assign ?_
    refine o_end ?_
    refine k8 _ _ ?_
    refine s_region ?_
    refine o_v (v_add rfl rfl (by omega)) ?_
    refine o_v v_move ?_
    refine o_end ?_
    refine mid (i + 1) ?_ ?_ ?_
    ·repeat (first | exact off_refl | refine off_cons rfl ?_)
    ·exact ⟨congrArg strV hbst.symm, congrArg I hcst.symm, rfl, trivial⟩
    ·exact ⟨⟨hlt, g9⟩, by omega⟩
 ·obtain rfl : i = ls.length := by omega
  have hcb := checkTo_bound hok _ (Nat.le_refl _)
  have hbl := bodyTo_len hok _ (Nat.le_refl _)
  obtain ⟨c, hce⟩ : ∃ c, c = checkTo ls ls.length % 151 := ⟨_, rfl⟩
  have hcr : 0 ≤ c ∧ c < 151 := by omega
  have d1 := decL_len (c / 100) (by omega)
  have d2 := decL_len (c / 10 % 10) (by omega)
  have d3 := decL_len (c % 10) (by omega)
  refine s_exit ?_
  refine k4 _ _ ?_
  refine s_rseq fun _ k23 => ?_
  refine o_v v_move ?_
  refine o_v (v_rem rfl rfl (by omega) (by omega)) ?_
  rw [← hce]
  refine o_v v_assign ?_
  refine o_end (k23 _ _ ?_)
  refine s_rseq fun _ k24 => ?_
  refine o_v v_move ?_
  refine o_v (v_addS (b := [101, 110, 100, 32]) rfl rfl (by simp only [List.length_cons, List.length_nil]; omega)) ?_
  refine o_v v_move ?_
  refine o_v (v_quo rfl rfl (by omega) (by omega)) ?_
  refine o_call rfl rfl ent164 ((f164_calls (c / 100) (by omega) w5)) ?_; rintro _ w10 ⟨rfl, g10⟩; refine ⟨_, rfl, ?_⟩
  replace G := G.step0 g10
  refine o_v (v_addS rfl rfl (by simp only [List.length_append, List.length_cons, List.length_nil]; omega)) ?_
  refine o_v v_move ?_
  refine o_v (v_quo rfl rfl (by omega) (by omega)) ?_
  refine o_v (v_rem rfl rfl (by omega) (by omega)) ?_
  refine o_call rfl rfl ent164 ((f164_calls (c / 10 % 10) (by omega) w10)) ?_; rintro _ w11 ⟨rfl, g11⟩; refine ⟨_, rfl, ?_⟩
  replace G := G.step0 g11
  refine o_v (v_addS rfl rfl (by simp only [List.length_append, List.length_cons, List.length_nil]; omega)) ?_
  refine o_v v_move ?_
  refine o_v (v_rem rfl rfl (by omega) (by omega)) ?_
  refine o_call rfl rfl ent164 ((f164_calls (c % 10) (by omega) w11)) ?_; rintro _ w12 ⟨rfl, g12⟩; refine ⟨_, rfl, ?_⟩
  replace G := G.step0 g12
  refine o_v (v_addS rfl rfl (by simp only [List.length_append, List.length_cons, List.length_nil]; omega)) ?_
  refine o_v (v_addS (b := [10]) rfl rfl (by simp only [List.length_append, List.length_cons, List.length_nil]; omega)) ?_
  refine o_v v_assign ?_
  refine o_end (k24 _ _ ?_)
  refine s_ret (post1 rfl ?_)
  refine ⟨?_, G⟩
  have : textL b = bodyTo ls ls.length ++ [101, 110, 100, 32] ++ decL (c / 100) ++ decL (c / 10 % 10) ++ decL (c % 10) ++ [10] := by
   unfold textL textLs endL
   rw [← hls, ← hce]
   simp only [List.append_assoc]
  rw [this]
  rfl
end Go.Proofs.NV
