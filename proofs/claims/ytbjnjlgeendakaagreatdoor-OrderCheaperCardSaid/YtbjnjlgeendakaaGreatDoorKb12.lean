/- Part of the proof: The pages of opened: their lists, their bounds; that a zero open lies apart from them. Means, Numbers, Truths, Ask.. More rules: make, max, min, and; conversions of the sort.. -/
import Derived.Test.YtbjnjlgeendakaaGreatDoorKb11
import Derived.Test.YtbjnjlgeendakaaGreatDoorKb5
import Derived.Laws.OwnMore
import Derived.Lib.RabinKarpLaws
set_option linter.unusedVariables false
set_option maxRecDepth 100000
set_option linter.unusedSimpArgs false
namespace Go.Proofs.NV
open Go.RowKit Go.Shelf
attribute [local irreducible] bodyPost bodyPostM wpQuiet
def rowsM (P : List (List Page)) : List (List (List Int)) := P.map (·.map Page.means)
theorem rowsM_get (P : List (List Page)) (i : Nat) : (rowsM P)[i]?.getD [] = (P[i]?.getD []).map Page.means := by
 unfold rowsM
 rw [List.getElem?_map]
 cases P[i]? <;> rfl
theorem stepL_means (mv : Int) (off E D : Nat) (P : List (List Page)) : rowsM (stepL mv off E D P) = rowsM P := by
 unfold stepL rowsM
 rw [List.map_set]
 by_cases hE : E < P.length
 ·rw [List.getElem?_eq_getElem hE, Option.getD_some, List.map_map]
  have : List.map (Page.means ∘ fun p => updF off (cntL mv off (P[D]?.getD []) p.means) p) P[E] = (P.map (·.map Page.means))[E]'(by simpa using hE) := by
   rw [List.getElem_map]
   exact List.map_congr_left fun p _ => updF_means _ _ _
  rw [this, List.set_getElem_self]
 ·rw [List.set_eq_of_length_le (by rw [List.length_map]; omega)]
theorem fwdL_means (mv : Int) (P : List (List Page)) : ∀ k, rowsM (fwdL mv k P) = rowsM P
 | 0 => rfl
 | k + 1 => by
  unfold fwdL
  split
  ·exact fwdL_means mv P k
  ·rw [stepL_means, fwdL_means mv P k]
theorem bwdL_means (mv : Int) (n : Nat) (P : List (List Page)) : ∀ j, rowsM (bwdL mv n j P) = rowsM P
 | 0 => rfl
 | j + 1 => by unfold bwdL; rw [stepL_means, bwdL_means mv n P j]
theorem pages2_means (b : Book) : rowsM (pages2 b) = (List.range b.ed.toNat).map fun e : Nat => (extL b.goods.length b.goods.length []).filter (suitsB b e) := by
 unfold pages2
 rw [bwdL_means, fwdL_means]
 unfold pages0 rowsM pagesOf
 rw [List.map_map]
 refine List.map_congr_left fun e _ => ?_
 show List.map Page.means (List.map (fun m => ⟨m, 1, 1⟩) _) = _
 rw [List.map_map]
 exact List.map_id' _
theorem pages2_fine {b : Book} (hok : b.ok = true) : Fine b.goods.length bd1 (bd2 b.ed.toNat) (pages2 b) := by
 have hgd := Book.ok_goods hok
 unfold pages2
 exact bwdL_fine (by omega) (fwdL_fine (b := b) (fine0 b (by omega) _) _ (by omega)) _ (by omega)
theorem opened_row (b : Book) (i : Nat) : (openedL b)[i]?.getD [] = ((pages2 b)[i]?.getD []).filter fun p => !p.gone := by
 unfold openedL
 rw [List.getElem?_map]
 cases (pages2 b)[i]? <;> rfl
structure PageOk (b : Book) (i : Nat) (p : Page) : Prop where
 ed : i < b.ed.toNat
 ext : p.means ∈ extL b.goods.length b.goods.length []
 suits : suitsB b i p.means = true
 stays : p.gone = false
 before : 0 ≤ p.before ∧ p.before ≤ 14400
 after : 0 ≤ p.after ∧ p.after ≤ 14400
theorem opened_ok {b : Book} (hok : b.ok = true) {i : Nat} {p : Page} (hp : p ∈ (openedL b)[i]?.getD []) : PageOk b i p := by
 rw [opened_row, List.mem_filter] at hp
 have hf := pages2_fine hok
 have hm : p.means ∈ (rowsM (pages2 b))[i]?.getD [] := by rw [rowsM_get]; exact List.mem_map_of_mem hp.1
 rw [pages2_means, List.getElem?_map] at hm
 have h1 : ∀ i, bd1 i ≤ 14400 := fun i => by unfold bd1; (repeat split) <;> omega
 have h2 : ∀ n i, bd2 n i ≤ 14400 := fun n i => by unfold bd2; (repeat split) <;> omega
 have hb := hf.before i p hp.1
 have ha := hf.after i p hp.1
 cases hi : (List.range b.ed.toNat)[i]? with
 | none => rw [hi] at hm; cases hm
 | some e =>
  obtain ⟨hl, he⟩ := List.getElem?_eq_some_iff.1 hi
  rw [List.getElem_range] at he
  subst he
  rw [hi, Option.map_some, Option.getD_some, List.mem_filter] at hm
  rw [List.length_range] at hl
  exact ⟨hl, hm.1, hm.2, by simpa using hp.2, ⟨hb.1, Int.le_trans hb.2 (h1 i)⟩, ⟨ha.1, Int.le_trans ha.2 (h2 _ i)⟩⟩
theorem opened_few {b : Book} (hok : b.ok = true) (i : Nat) : ((openedL b)[i]?.getD []).length ≤ 120 := by
 rw [opened_row]
 exact Nat.le_trans (List.length_filter_le _ _) ((pages2_fine hok).few i)
namespace PageOk
variable {b : Book} {i : Nat} {p : Page}
theorem len (h : PageOk b i p) : p.means.length = b.goods.length := by have := extL_len _ _ _ _ h.ext; simpa using this
theorem nodup (h : PageOk b i p) : p.means.Nodup := extL_nodup _ _ _ _ (by simp) h.ext
theorem range (h : PageOk b i p) : ∀ x ∈ p.means, 0 ≤ x ∧ x < b.goods.length := extL_range _ _ _ _ (by simp) h.ext
theorem prod (h : PageOk b i p) : 0 ≤ p.before * p.after ∧ p.before * p.after ≤ 207360000 := by
 refine ⟨Int.mul_nonneg h.before.1 h.after.1, ?_⟩
 have h1 := Int.mul_le_mul_of_nonneg_left h.after.2 h.before.1
 have h2 := h.before.2
 omega
end PageOk
theorem asked_ok {b : Book} {fine : Bool} (h : askedE b fine = 0) : b.ok = true ∧ fine = true ∧ (openedL b)[0]?.getD [] ≠ [] := by
 unfold askedE at h
 split at h
 ·rename_i hc
  simp only [Bool.and_eq_true] at hc
  split at h
  ·cases h
  ·rename_i hl
   exact ⟨hc.1, hc.2, fun e => hl (by rw [e]; rfl)⟩
 ·cases h
theorem zero_cell {o : Nat} {v : Value} (h : zeroOpen[o]? = some v) : v = .slice none 0 0 ∨ v = I 0 := by
 rcases o with _ | _ | _ | _ | _ | o <;> simp at h <;> simp [← h]
theorem zero_at {w : World} {k b o j : Nat} {cs : List Value} {v : Value} (hB : Blk w k zeroOpen 130) (hr : w.rangeAt b o cs) (hb : b = k) (hj : cs[j]? = some v) : v = .slice none 0 0 ∨ v = I 0 := by
 have := hr j v hj
 rw [hb, hB.cell] at this
 exact zero_cell this
theorem pages_off {w : World} {S : Nat → Prop} {pA : Option Addr} {P : List (List Page)} {k : Nat} (h : pageT.sl.Sl w S pA P) (hB : Blk w k zeroOpen 130) (h0 : P[0]?.getD [] ≠ []) (hm : ∀ i : Nat, ∀ p : Page, p ∈ P[i]?.getD [] → 2 ≤ p.means.length ∧ p.means.Nodup) :
  pageT.sl.Sl w (fun j => S j ∧ j ≠ k) pA P := by
 have hint : ∀ {mA : Option Addr} {m : List Int}, 2 ≤ m.length → m.Nodup → Ty.int.Sl w S mA m → Ty.int.Sl w (fun j => S j ∧ j ≠ k) mA m := by
  rintro mA m h2 hn (h | ⟨b, o, cs, hA, hb, hr, hR⟩)
  ·exact .inl h
  ·refine .inr ⟨b, o, cs, hA, ⟨hb, fun hk => ?_⟩, hr, hR.imp fun _ _ _ h => h⟩
   have hcs := reps_int_eq hR
   subst hcs
   rcases m with _ | ⟨a, _ | ⟨a', m⟩⟩
   ·simp at h2
   ·simp at h2
   have e0 := zero_at (j := 0) (v := I a) hB hr hk rfl
   have e1 := zero_at (j := 1) (v := I a') hB hr hk rfl
   have e0' : a = 0 := by simpa using e0
   have e1' : a' = 0 := by simpa using e1
   rw [List.nodup_cons, e0', e1'] at hn
   exact hn.1 (by simp)
 have hpage : ∀ {p : Page} {c : List Value}, 2 ≤ p.means.length ∧ p.means.Nodup → pageT.rep w S p c → pageT.rep w (fun j => S j ∧ j ≠ k) p c := by
  intro p c h2 hp
  obtain ⟨mA, mc, rfl, h3, h4, h5⟩ := pageT_iff.1 hp
  exact pageT_iff.2 ⟨mA, mc, rfl, h3, h4, hint h2.1 h2.2 h5⟩
 have hrow : ∀ {ps : List Page} {c : List Value}, (∀ p ∈ ps, 2 ≤ p.means.length ∧ p.means.Nodup) → pageT.sl.rep w S ps c → pageT.sl.rep w (fun j => S j ∧ j ≠ k) ps c := by
  rintro ps c hp ⟨qA, qc, rfl, h1, h2, h3⟩
  refine ⟨qA, qc, rfl, h1, h2, ?_⟩
  rcases h3 with h | ⟨b, o, cs, hA, hb, hr, hR⟩
  ·exact .inl h
  ·cases ps with
   | nil => exact .inl rfl
   | cons p ps =>
    refine .inr ⟨b, o, cs, hA, ⟨hb, fun hk => ?_⟩, hr, hR.imp fun x c hx h => hpage (hp x hx) h⟩
    obtain ⟨c0, r, rfl, hx, _⟩ := hR
    obtain ⟨mA, mc, rfl, h3, h4, h5⟩ := pageT_iff.1 hx
    have := zero_at (j := 0) (v := .slice mA p.means.length mc) hB hr hk rfl
    have h2 := (hp p (by simp)).1
    simp at this
    omega
 rcases h with h | ⟨b, o, cs, hA, hb, hr, hR⟩
 ·exact .inl h
 ·cases P with
  | nil => exact .inl rfl
  | cons ps P =>
   refine .inr ⟨b, o, cs, hA, ⟨hb, fun hk => ?_⟩, hr, hR.imp fun x c hx h => hrow (fun p hp => ?_) h⟩
   ·obtain ⟨c0, r, rfl, ⟨qA, qc, rfl, h1, h2, h3⟩, _⟩ := hR
    have := zero_at (j := 0) (v := .slice qA ps.length qc) hB hr hk rfl
    simp only [List.getElem?_cons_zero, Option.getD_some] at h0
    have := List.length_pos_iff.2 h0
    simp_all
   ·obtain ⟨i, hi, rfl⟩ := List.mem_iff_getElem.1 hx
    exact hm i p (by rw [List.getElem?_eq_getElem hi]; exact hp)
theorem v_subw {n : Nat} {e : Env} {x y : Operand} {t yt d ty : TypeId} {ps : String} {af : Array Edge} {P : Program} {w : World} {k : IntKind} {a b : Int} (hx : ev n e x = .int k a) (hy : ev n e y = .int k b) :
  (execOp (ev n e) ⟨some d, .binOp .sub t x y yt, ty, ps, af, none⟩).run P w = .ok (.value (.int k (k.wrap (a - b)))) w := by rw [run_bin hx hy]; simp [binOp, Op.intArith, Result.andThen]
def Book.isEdW (b : Book) (n : Int) : Bool := inB n 0 (IntKind.i64.wrap (b.ed - 1))
theorem Book.isEdW_ok {b : Book} (h : b.ok = true) (n : Int) : b.isEdW n = b.isEd n := by
 have := Book.ok_goods h
 unfold Book.isEdW Book.isEd
 rw [IntWalk.i64_in _ (by omega)]
theorem askedE_congr {b : Book} {x y : Bool} (h : b.ok = true → x = y) : askedE b x = askedE b y := by
 unfold askedE
 cases hb : b.ok with
 | true => rw [h hb]
 | false => rfl
theorem over_all {cs vs : List Value} (h : cs.length = vs.length) : over cs 0 vs = vs := by
 unfold over
 rw [List.take_zero, List.nil_append, Nat.zero_add, List.drop_eq_nil_of_le (by omega), List.append_nil]
structure AskX (b : Book) (gA : Option Addr) (gc : Nat) (eA : Option Addr) (ec : Nat) (fine : Bool) (lo : Nat) (os : List Value) (W : World) : Prop where
 bad : askedE b fine ≠ 0 → os = zeroOpen
 good : askedE b fine = 0 → ∃ pA c, os = b.cells gA gc eA ec ++ [.slice pA (openedL b).length c] ∧ pageT.sl.Sl W (fun j => lo ≤ j) pA (openedL b) ∧ (openedL b).length ≤ c ∧ c ≤ maxLen
namespace AskX
variable {b : Book} {gA : Option Addr} {gc : Nat} {eA : Option Addr} {ec : Nat} {fine : Bool} {lo : Nat} {os : List Value} {W W' : World}
theorem step0 (h : AskX b gA gc eA ec fine lo os W) (g : W.grownBy W' none) : AskX b gA gc eA ec fine lo os W' :=
 ⟨h.bad, fun he => by obtain ⟨pA, c, h1, h2, h3⟩ := h.good he; exact ⟨pA, c, h1, h2.step0 g, h3⟩⟩
theorem five (h : AskX b gA gc eA ec fine lo os W) : os.length = 5 ∧ os.all (·.oneCell') = true := by
 by_cases he : askedE b fine = 0
 ·obtain ⟨pA, c, rfl, _⟩ := h.good he
  exact ⟨rfl, rfl⟩
 ·rw [h.bad he]; exact ⟨rfl, rfl⟩
theorem off (h : AskX b gA gc eA ec fine lo os W) {k : Nat} (hB : Blk W k zeroOpen 130) (g : W.grownBy W' (some k)) : AskX b gA gc eA ec fine lo os W' :=
 ⟨h.bad, fun he => by
  obtain ⟨pA, c, h1, h2, h3⟩ := h.good he
  obtain ⟨hok, _, h0⟩ := asked_ok he
  have hgd := Book.ok_goods hok
  have := pages_off h2 hB h0 fun i p hp => ⟨by rw [(opened_ok hok hp).len]; omega, (opened_ok hok hp).nodup⟩
  exact ⟨pA, c, h1, (this.step g fun j hj e => hj.2 (by injection e)).mono fun j hj => hj.1, h3⟩⟩
theorem mono (h : AskX b gA gc eA ec fine lo os W) {lo' : Nat} (hl : lo' ≤ lo) : AskX b gA gc eA ec fine lo' os W :=
 ⟨h.bad, fun he => by obtain ⟨pA, c, h1, h2, h3⟩ := h.good he; exact ⟨pA, c, h1, h2.mono fun k hk => Nat.le_trans hl hk, h3⟩⟩
end AskX
theorem f78_ask {S : Nat → Prop} (b : Book) (gA : Option Addr) (gc : Nat) (eA : Option Addr) (ec : Nat) (fine : Bool) (w : World) (hI : BookIn w S b gA gc eA ec) :
  Calls Tryz.prog 78 #[.agg (b.cells gA gc eA ec).toArray, .bool fine] w fun e w' => ∃ os : List Value, e = .returned (.tuple #[.agg os.toArray, I (askedE b fine)]) ∧ w.grownBy w' none ∧ AskX b gA gc eA ec fine w.heap.size os w' :=
 (f78_calls b gA gc eA ec fine w hI).mono fun e w' ⟨os, h1, h2, h3, h4⟩ => ⟨os, h1, h2, h3, h4⟩
theorem f92w_calls (b : Book) (gA : Option Addr) (gc : Nat) (eA : Option Addr) (ec : Nat) (w : World) (n : Int) :
  Calls Tryz.prog 92 #[.agg (b.cells gA gc eA ec).toArray, I n] w fun e w' => e = .returned (.bool (b.isEdW n)) ∧ w.grownBy w' none := by
 refine s_enter (n := 10) Tryz.func92 rfl rfl rfl ?_
 have G := grown_refl w none
 refine s_rseq fun _ k1 => ?_
 refine o_box (t := 25) rfl ?_; intro w1 B2 g1 z1
 replace G := G.step0 g1
 refine o_v v_assign ?_
 refine o_end (k1 _ _ ?_)
 refine s_rseq fun _ k2 => ?_
 refine o_v v_move ?_
 refine o_v (v_field rfl fld25_1) ?_
 refine o_v (v_loadB rfl sc3 B2 rfl) ?_
 refine o_v (v_subw rfl rfl) ?_
 refine o_call rfl rfl ent100 (f100_calls _ _ _ _) ?_; rintro _ w2 ⟨rfl, g2⟩; refine ⟨_, rfl, ?_⟩
 replace G := G.step0 g2; replace B2 := B2.step0 g2
 refine o_v v_assign ?_
 refine o_end (k2 _ _ ?_)
 refine s_ret (post1 rfl ?_)
 exact ⟨rfl, G⟩
def meansQ (b : Book) (ed num : Int) : List Int := if askedE b (b.isEd ed && b.isNum num) = 0 then listedL (((openedL b)[ed.toNat]?.getD []).map fun p => p.means[num.toNat]?.getD 0) else []
def numbersQ (b : Book) (ed num : Int) : List Int := if askedE b (b.isEd ed && b.isNum num) = 0 then listedL (((openedL b)[ed.toNat]?.getD []).map fun p => idxL (fun x => decide (num = x)) p.means) else []
theorem f39_calls {S : Nat → Prop} (b : Book) (gA : Option Addr) (gc : Nat) (eA : Option Addr) (ec : Nat) (ed num : Int) (w : World) (hI : BookIn w S b gA gc eA ec) :
  Calls Tryz.prog 39 #[.agg (b.cells gA gc eA ec).toArray, I ed, I num] w fun e w' => ∃ v, e = .returned (.tuple #[v, I (askedE b (b.isEd ed && b.isNum num))]) ∧ Ty.int.Row 3 w' (fun k => w.heap.size ≤ k) v (meansQ b ed num) ∧ w.grownBy w' none := by
 refine s_enter (n := 50) Tryz.func39 rfl rfl rfl ?_
 have G := grown_refl w none
 refine s_rseq fun _ k1 => ?_
 refine o_box (t := 25) rfl ?_; intro w1 B3 g1 z1
 replace G := G.step0 g1; replace hI := hI.step0 g1
 refine o_v v_assign ?_
 refine o_v v_assign ?_
 refine o_end (k1 _ _ ?_)
 obtain ⟨cc, hcc⟩ : ∃ cc, cc = b.isEdW ed := ⟨_, rfl⟩
 have hgl : b.goods.length ≤ maxLen := Nat.le_trans hI.gl.1 hI.gl.2
 refine s_seq fun _ k2 => ?_
 refine s_anyU 16 [14, 15, 16, 17, 18, 19, 20, 21, 22, 23, 13, 24, 25, 8, 9]
  [[], [], [], [(1, some 15), (2, some 16)], [(3, some 17)], [(4, some 18)], [(4, some 18)], [(4, some 18), (5, some 19), (6, some 20)], [(4, some 18), (7, some 21)], [(0, some 14), (8, some 22)], [(9, some 23)], [(10, some 13)], [(26, some 13)], [], [(13, some 8), (11, some 24)], [(12, some 25)]]
  [(29, some 8), (14, none), (15, some 9)] (fun W => w1.grownBy W none) (fun k W W' => if k = 14 then ∃ b0, w1.heap.size ≤ b0 ∧ W.grownBy W' (some b0) else W.grownBy W' none) [(9, 14), (10, 14), (11, 14), (13, 14)]
  [([], fun _ v _ => v = .agg (b.cells gA gc eA ec).toArray), ([], fun _ v _ => v = .agg (b.cells gA gc eA ec).toArray), ([], fun _ v _ => v = I ed), ([], fun _ v _ => v = .bool cc), ([], fun _ v _ => v = .bool cc), ([], fun _ v _ => cc = true → v = .agg (b.cells gA gc eA ec).toArray), ([], fun _ v _ => cc = true → v = I num), ([], fun _ v _ => cc = true → v = .bool (b.isNum num)), ([], fun _ v _ => v = .bool (cc && b.isNum num)), ([], fun _ v W => ∃ os : List Value, v = .tuple #[.agg os.toArray, I (askedE b (cc && b.isNum num))] ∧ AskX b gA gc eA ec (cc && b.isNum num) w1.heap.size os W), ([], fun _ v W => ∃ os : List Value, v = .tuple #[.agg os.toArray, I (askedE b (cc && b.isNum num))] ∧ AskX b gA gc eA ec (cc && b.isNum num) w1.heap.size os W), ([], fun _ v W => ∃ os : List Value, v = .agg os.toArray ∧ AskX b gA gc eA ec (cc && b.isNum num) w1.heap.size os W), ([], fun _ v _ => v = I (askedE b (cc && b.isNum num))), ([], fun _ v W => ∃ k, v = ptr k ∧ w1.heap.size ≤ k ∧ Blk W k zeroOpen 130), ([8], fun vs _ W => ∃ (k : Nat) (os : List Value), vs = [ptr k] ∧ w1.heap.size ≤ k ∧ Blk W k os 130 ∧ AskX b gA gc eA ec (cc && b.isNum num) w1.heap.size os W), ([], fun _ v _ => v = I (askedE b (cc && b.isNum num))),
   ([], fun _ _ _ => True), ([], fun _ _ _ => True), ([], fun _ _ _ => True), ([], fun _ _ _ => True), ([], fun _ _ _ => True), ([], fun _ _ _ => True), ([], fun _ _ _ => True), ([], fun _ _ _ => True), ([], fun _ _ _ => True), ([], fun _ v _ => ∃ os : List Value, v = .tuple #[.agg os.toArray, I (askedE b (cc && b.isNum num))]), ([], fun _ v _ => ∃ os : List Value, v = .tuple #[.agg os.toArray, I (askedE b (cc && b.isNum num))]), ([], fun _ _ _ => True), ([], fun _ _ _ => True), ([], fun _ v _ => ∃ k, v = ptr k ∧ w1.heap.size ≤ k), ([], fun _ _ _ => True), ([], fun _ _ _ => True)]
  mixed (by kernel_rfl) (by kernel_rfl) (by kernel_rfl) (by kernel_rfl) (by kernel_rfl) g0_drawn ?_ ?_ ?_ ?_
 ·intro k W W' hC hS
  by_cases hk : k = 14
  ·simp only [hk, if_true] at hS
   obtain ⟨b0, h0, g0⟩ := hS
   exact grown_own hC g0 h0
  ·simp only [if_neg hk] at hS
   exact World.grownBy.trans hC hS
 ·intro i k v W W' vs hik hd p hp h hS
  have hst : k ≠ 14 → W.grownBy W' none := fun hk => by simpa only [if_neg hk] using hS
  rcases i with _ | _ | _ | _ | _ | _ | _ | _ | _ | _ | _ | _ | _ | _ | _ | _ | _ | _ | _ | _ | _ | _ | _ | _ | _ | _ | _ | _ | _ | _ | _ | _ | i
  ·cases hp; exact h
  ·cases hp; exact h
  ·cases hp; exact h
  ·cases hp; exact h
  ·cases hp; exact h
  ·cases hp; exact h
  ·cases hp; exact h
  ·cases hp; exact h
  ·cases hp; exact h
  ·cases hp; obtain ⟨os, h1, h2⟩ := h; exact ⟨os, h1, h2.step0 (hst (by rintro rfl; simp at hd))⟩
  ·cases hp; obtain ⟨os, h1, h2⟩ := h; exact ⟨os, h1, h2.step0 (hst (by rintro rfl; simp at hd))⟩
  ·cases hp; obtain ⟨os, h1, h2⟩ := h; exact ⟨os, h1, h2.step0 (hst (by rintro rfl; simp at hd))⟩
  ·cases hp; exact h
  ·cases hp; obtain ⟨b0, h1, h2, h3⟩ := h; exact ⟨b0, h1, h2, h3.step0 (hst (by rintro rfl; simp at hd))⟩
  ·cases hp; obtain ⟨b0, os, h1, h2, h3, h4⟩ := h; have hg := hst (fun e => hik e.symm); exact ⟨b0, os, h1, h2, h3.step0 hg, h4.step0 hg⟩
  ·cases hp; exact h
  ·cases hp; exact h
  ·cases hp; exact h
  ·cases hp; exact h
  ·cases hp; exact h
  ·cases hp; exact h
  ·cases hp; exact h
  ·cases hp; exact h
  ·cases hp; exact h
  ·cases hp; exact h
  ·cases hp; exact h
  ·cases hp; exact h
  ·cases hp; exact h
  ·cases hp; exact h
  ·cases hp; exact h
  ·cases hp; exact h
  ·cases hp; exact h
  ·simp at hp
 ·refine ⟨?_, ?_, ?_, ?_, ?_, ?_, ?_, ?_, ?_, ?_, ?_, ?_, ?_, ?_, ?_, ?_, trivial⟩
  ·intro jv W hC
   exact o_v (v_loadBS rfl ag25 (B3.step0 hC) rfl rfl) (o_end (opD_done (grown_refl _ _) ⟨rfl, trivial⟩))
  ·intro jv W hC
   exact o_v (v_loadBS rfl ag25 (B3.step0 hC) rfl rfl) (o_end (opD_done (grown_refl _ _) ⟨rfl, trivial⟩))
  ·intro jv W hC
   exact o_v v_move (o_end (opD_done (grown_refl _ _) ⟨rfl, trivial⟩))
  ·rintro jv W hC _ rfl _ rfl
   refine o_call rfl rfl ent92 (f92w_calls b gA gc eA ec W ed) ?_
   rintro _ wa ⟨rfl, ga⟩
   exact ⟨_, rfl, o_end (opD_done ga ⟨by rw [hcc]; rfl, trivial⟩)⟩
  ·rintro jv W hC _ rfl
   exact o_v v_move (o_end (opD_done (grown_refl _ _) ⟨rfl, trivial⟩))
  ·rintro jv W hC _ rfl
   rcases Bool.eq_false_or_eq_true cc with hb | hb
   ·exact g_yes rfl rfl rfl hb (o_v (v_loadBS rfl ag25 (B3.step0 hC) rfl rfl) (o_end (opD_done (grown_refl _ _) ⟨fun _ => rfl, trivial⟩)))
   ·exact g_no rfl rfl rfl hb (o_end (opD_done (grown_refl _ _) ⟨(fun h => by rw [hb] at h; cases h), trivial⟩))
  ·rintro jv W hC _ rfl
   rcases Bool.eq_false_or_eq_true cc with hb | hb
   ·exact g_yes rfl rfl rfl hb (o_v v_move (o_end (opD_done (grown_refl _ _) ⟨fun _ => rfl, trivial⟩)))
   ·exact g_no rfl rfl rfl hb (o_end (opD_done (grown_refl _ _) ⟨(fun h => by rw [hb] at h; cases h), trivial⟩))
  ·rintro jv W hC _ rfl v5 h5 v6 h6
   rcases Bool.eq_false_or_eq_true cc with hb | hb
   ·obtain rfl := h5 hb
    obtain rfl := h6 hb
    refine g_yes rfl rfl rfl hb ?_
    refine o_call rfl rfl ent93 (f93_calls b gA gc eA ec W num hgl) ?_
    rintro _ wa ⟨rfl, ga⟩
    exact ⟨_, rfl, o_end (opD_done ga ⟨fun _ => rfl, trivial⟩)⟩
   ·exact g_no rfl rfl rfl hb (o_end (opD_done (grown_refl _ _) ⟨(fun h => by rw [hb] at h; cases h), trivial⟩))
  ·rintro jv W hC _ rfl v7 h7
   rcases Bool.eq_false_or_eq_true cc with hb | hb
   ·obtain rfl := h7 hb
    exact o_v (v_pick_t rfl hb) (o_end (opD_done (grown_refl _ _) ⟨by rw [hb]; rfl, trivial⟩))
   ·exact o_v (v_pick_f rfl hb) (o_end (opD_done (grown_refl _ _) ⟨by rw [hb]; rfl, trivial⟩))
  ·rintro jv W hC _ rfl _ rfl
   refine o_call rfl rfl ent78 (f78_ask b gA gc eA ec (cc && b.isNum num) W (hI.step0 hC)) ?_
   rintro _ wa ⟨os, rfl, ga, hax⟩
   have hax := hax.mono hC.size
   exact ⟨_, rfl, o_end (opD_done ga ⟨⟨os, rfl, hax⟩, ⟨os, rfl⟩⟩)⟩
  ·rintro jv W hC _ ⟨os, rfl, h2⟩
   exact o_v v_move (o_end (opD_done (grown_refl _ _) ⟨⟨os, rfl, h2⟩, ⟨os, rfl⟩⟩))
  ·rintro jv W hC _ ⟨os, rfl, h2⟩
   exact o_v (v_extract rfl rfl) (o_end (opD_done (grown_refl _ _) ⟨⟨os, rfl, h2⟩, trivial⟩))
  ·rintro jv W hC _ ⟨os, rfl⟩
   exact o_v (v_extract rfl rfl) (o_end (opD_done (grown_refl _ _) ⟨rfl, trivial⟩))
  ·rintro jv W hC
   refine o_alloc (t := 130) ze130 rfl ?_; intro wa Ba ga za
   exact o_end (opD_done ga ⟨⟨_, rfl, hC.size, Ba⟩, ⟨_, rfl, hC.size⟩⟩)
  ·rintro jv W hC _ ⟨b0, rfl, hb0, B0⟩ _ ⟨os, rfl, hax⟩
   refine o_storeB (vs := os) rfl rfl sz130 hax.five.1 B0 (by rw [hax.five.1]; rfl) hax.five.2 ?_; intro wa Ba ga za
   rw [over_all (cs := zeroOpen) (vs := os) hax.five.1.symm] at Ba
   exact o_end (opD_none ⟨b0, hb0, ga⟩ ⟨⟨b0, os, rfl, hb0, Ba, hax.off B0 ga⟩, trivial⟩)
  ·rintro jv W hC _ rfl
   exact o_v v_assign (o_end (opD_done (grown_refl _ _) ⟨rfl, trivial⟩))
 ·rintro jv w7 Gw7 _ ⟨b0, rfl, hb0⟩ ⟨b1, os, hb1, hb2, B8, hax⟩ _ rfl
  obtain rfl : b1 = b0 := by simpa [rd] using hb1.symm
  refine o_end (k2 _ _ ?_)
  replace hI := hI.step0 Gw7; replace B3 := B3.step0 Gw7; replace G := G.step0 Gw7
  have hee : askedE b (cc && b.isNum num) = askedE b (b.isEd ed && b.isNum num) := askedE_congr fun h => by rw [hcc, Book.isEdW_ok h]
  refine s_seq fun _ k3 => ?_
  refine s_rseq fun _ k4 => ?_
  refine o_v v_move ?_
  refine o_v (v_neq rfl rfl) ?_
  refine o_end (k4 _ _ ?_)
  refine s_ifd rfl (fun c4 => ?_) (fun c4 => ?_)
  ·refine s_rseq fun _ k5 => ?_
   refine o_v v_move ?_
   refine o_v v_assign ?_
   refine o_v v_assign ?_
   refine o_end (k5 _ _ ?_)
   rw [hee] at c4
   refine s_ret (post2 rfl ?_)
   refine ⟨_, congrArg (fun z => Ending.returned (.tuple #[.slice none 0 0, I z])) hee, ?_, G⟩
   unfold meansQ
   rw [if_neg (by exact c4)]
   exact Ty.Row.nil _ _ _ _
  ·have he0 : askedE b (cc && b.isNum num) = 0 := by
    apply Classical.byContradiction
    exact c4
   obtain ⟨pA, pc, rfl, hsl, hpl, hpm⟩ := hax.good he0
   obtain ⟨hok, hfine, h00⟩ := asked_ok he0
   have hgd := Book.ok_goods hok
   have hnm : 0 ≤ num ∧ num < b.goods.length := by
    rw [Bool.and_eq_true] at hfine
    have := hfine.2
    unfold Book.isNum inB at this
    simp at this
    omega
   have hed : 0 ≤ ed ∧ ed < b.ed := by
    rw [Bool.and_eq_true, hcc, Book.isEdW_ok hok] at hfine
    have := hfine.1
    unfold Book.isEd inB at this
    simp at this
    omega
   have hol := openedL_len b
   obtain ⟨b0, o0, cs0, rfl, _, ⟨qA, qc, rfl, hq1, hq2, hq3⟩, hr0⟩ := hsl.get ed.toNat (by omega)
   have hcell := hr0 0 _ rfl
   simp only [Ty.sl] at hcell
   obtain ⟨ps, hps⟩ : ∃ ps, ps = (openedL b)[ed.toNat]'(by omega) := ⟨_, rfl⟩
   have hrow0 : (openedL b)[ed.toNat]?.getD [] = ps := by rw [List.getElem?_eq_getElem (by omega), hps]; rfl
   rw [← hps] at hcell hq1 hq3
   have hfew := opened_few hok ed.toNat
   rw [hrow0] at hfew
   have hpok : ∀ p ∈ ps, PageOk b ed.toNat p := fun p hp => opened_ok hok (by rw [hrow0]; exact hp)
   refine s_skip ?_
   refine k3 _ _ ?_
   refine s_rseq fun _ k6 => ?_
   refine o_v v_assign ?_
   refine o_end (k6 _ _ ?_)
   refine s_seq fun _ k7 => ?_
   refine s_rseq fun _ k8 => ?_
   refine o_v (v_field rfl fld130_1) ?_
   refine o_v (v_loadB rfl sc128 B8 rfl) ?_
   refine o_v v_move ?_
   refine o_v (v_index rfl rfl slt128 (by omega)) ?_
   refine o_v (v_loadC rfl sc135 (by simpa using hcell)) ?_
   refine o_v (v_len rfl Tryz.underlying135) ?_
   refine o_v v_move ?_
   refine o_end (k8 _ _ ?_)
   refine s_block ?_
   refine s_loop (G := Nat × Value) (fun g => [(10, g.2), (35, I g.1)]) [10, 35] [12, 36, 37, 38, 39, 40, 41, 42, 43, 44, 45, 46, 47] (fun g W => (g.1 ≤ ps.length ∧ Ty.int.Row 3 W (fun k => w7.heap.size ≤ k) g.2 ((ps.take g.1).map (fun p : Page => p.means[num.toNat]?.getD 0))) ∧ w7.grownBy W none) (fun g => ps.length - g.1) (fun _ => rfl) (0, .slice none 0 0) ⟨rfl, rfl, trivial⟩ ⟨⟨Nat.zero_le _, Ty.Row.nil _ _ _ _⟩, grown_refl _ _⟩ ?_
   rintro ⟨g, out⟩ jv w8 ⟨⟨hk, hrow⟩, g8⟩
   simp only at hk hrow ⊢
   replace G := G.step0 g8; replace hI := hI.step0 g8; replace B3 := B3.step0 g8; replace B8 := B8.step0 g8
   refine s_rseq fun _ k9 => ?_
   refine o_v (v_lss rfl rfl) ?_
   refine o_end (k9 _ _ ?_)
   refine s_seq fun _ k10 => ?_
   refine s_ifd rfl (fun c10 => ?_) (fun c10 => ?_)
   ·have hlt : g < ps.length := by omega
    obtain ⟨bp, op, cp, rfl, _, hrepp, hrgp⟩ := (hq3.step0 g8).get g hlt
    obtain ⟨mA, mc, rfl, hml, hmm, hmean⟩ := pageT_iff.1 hrepp
    rw [pageT_sz] at hrgp
    have hp0 := hpok ps[g] (List.getElem_mem hlt)
    have hplen := hp0.len
    refine s_skip ?_
    refine k10 _ _ ?_
    refine s_seq fun _ k11 => ?_
    refine s_block ?_
    refine s_rseq fun _ k12 => ?_
    refine o_v (v_index rfl rfl slt135 (by omega)) ?_
    refine o_v (v_loadR rfl ag137 hrgp rfl) ?_
    refine o_allocst ze137 rfl rfl rfl sz137 rfl rfl rfl ?_; intro w9 B12 g9 z9
    replace G := G.step0 g9; replace g8 := g8.step0 g9; replace hrow := hrow.step0 g9; replace hmean := hmean.step0 g9
    refine o_end (k12 _ _ ?_)
    refine s_region ?_
    refine o_v v_move ?_
    refine o_v (v_field rfl fld137_0) ?_
    refine o_v (v_loadB rfl sc56 B12 rfl) ?_
    obtain ⟨bm, om, rfl, hcm⟩ := hmean.int num.toNat (by omega)
    have hgv : ps[g].means[num.toNat]?.getD 0 = ps[g].means[num.toNat]'(by omega) := by rw [List.getElem?_eq_getElem (by omega)]; rfl
    rw [← hgv] at hcm
    refine o_v v_move ?_
    refine o_v (v_index rfl rfl slt56 (by omega)) ?_
    refine o_v (v_loadC rfl sc3 hcm) ?_
    refine o_bslice rfl (fun W => bls56_1 W) ?_; intro w10 B45 g10 z10
    replace G := G.step0 g10; replace g8 := g8.step0 g10; replace hrow := hrow.step0 g10
    refine o_append1 (t := Ty.int) (p := (fun p : Page => p.means[num.toNat]?.getD 0) ps[g]) rfl rfl hrow B45 Tryz.underlying56 info3 rfl rfl (fun k hk => by have := g8.size; omega) (by simp; omega) (by decide) ?_
    intro out' w11 hrow11 g11 hat
    have hge : ∀ k, out.ownBlock = some k → w7.heap.size ≤ k := fun k hk => hrow.1 k hk
    have G11 : w7.grownBy w11 none := ⟨g11.os.trans g8.os, g11.tape.trans g8.tape, g11.output.trans g8.output, Nat.le_trans g8.size g11.size, fun k hk _ => (g11.block k (Nat.lt_of_lt_of_le hk g8.size) (fun e => by have := hge k e.symm; omega)).trans (g8.block k hk (by simp))⟩
    refine o_v v_assign ?_
    refine o_end ?_
    refine k11 _ _ ?_
    refine s_region ?_
    refine o_v (v_add rfl rfl (by omega)) ?_
    refine o_v v_move ?_
    refine o_end ?_
    refine mid (g + 1, out') ?_ ?_ ?_
    ·repeat (first | exact off_refl | refine off_cons rfl ?_)
    ·exact ⟨rfl, rfl, trivial⟩
    ·refine ⟨⟨⟨hlt, ?_⟩, G11⟩, by simp only; omega⟩
     rw [List.take_succ_eq_append_getElem hlt, List.map_append]
     exact hrow11
   ·obtain rfl : g = ps.length := by omega
    rw [List.take_length] at hrow
    obtain ⟨oA, oc, hov, _, _, hos⟩ := hrow.reads
    rw [List.length_map] at hov
    subst hov
    refine s_exit ?_
    refine k7 _ _ ?_
    refine s_rseq fun _ k13 => ?_
    refine o_v v_move ?_
    have hcall := f91_calls (S := fun k => w.heap.size ≤ k) oA oc (ps.map (fun p : Page => p.means[num.toNat]?.getD 0)) w8 hos (by rw [List.length_map]; omega) (fun k hk => Nat.le_trans G.size hk)
    rw [List.length_map] at hcall
    refine o_call rfl rfl ent91 hcall ?_; rintro _ w12 ⟨v', rfl, hR12, _, g12⟩; refine ⟨_, rfl, ?_⟩
    replace G := G.step0 g12
    refine o_v v_assign ?_
    refine o_v v_assign ?_
    refine o_end (k13 _ _ ?_)
    refine s_ret (post2 rfl ?_)
    refine ⟨v', congrArg (fun z => Ending.returned (.tuple #[v', I z])) (he0.symm.trans hee), ?_, G⟩
    unfold meansQ
    rw [if_pos (hee.symm.trans he0), hrow0]
    exact hR12
theorem f69_calls {S : Nat → Prop} (b : Book) (gA : Option Addr) (gc : Nat) (eA : Option Addr) (ec : Nat) (ed num : Int) (w : World) (hI : BookIn w S b gA gc eA ec) :
  Calls Tryz.prog 69 #[.agg (b.cells gA gc eA ec).toArray, I ed, I num] w fun e w' => ∃ v, e = .returned (.tuple #[v, I (askedE b (b.isEd ed && b.isNum num))]) ∧ Ty.int.Row 3 w' (fun k => w.heap.size ≤ k) v (numbersQ b ed num) ∧ w.grownBy w' none := by
 refine s_enter (n := 49) Tryz.func69 rfl rfl rfl ?_
 have G := grown_refl w none
 refine s_rseq fun _ k1 => ?_
 refine o_box (t := 25) rfl ?_; intro w1 B3 g1 z1
 replace G := G.step0 g1; replace hI := hI.step0 g1
 refine o_v v_assign ?_
 refine o_v v_assign ?_
 refine o_end (k1 _ _ ?_)
 obtain ⟨cc, hcc⟩ : ∃ cc, cc = b.isEdW ed := ⟨_, rfl⟩
 have hgl : b.goods.length ≤ maxLen := Nat.le_trans hI.gl.1 hI.gl.2
 refine s_seq fun _ k2 => ?_
 refine s_anyU 16 [14, 15, 16, 17, 18, 19, 20, 21, 22, 23, 13, 24, 25, 8, 9]
  [[], [], [], [(1, some 15), (2, some 16)], [(3, some 17)], [(4, some 18)], [(4, some 18)], [(4, some 18), (5, some 19), (6, some 20)], [(4, some 18), (7, some 21)], [(0, some 14), (8, some 22)], [(9, some 23)], [(10, some 13)], [(26, some 13)], [], [(13, some 8), (11, some 24)], [(12, some 25)]]
  [(29, some 8), (14, none), (15, some 9)] (fun W => w1.grownBy W none) (fun k W W' => if k = 14 then ∃ b0, w1.heap.size ≤ b0 ∧ W.grownBy W' (some b0) else W.grownBy W' none) [(9, 14), (10, 14), (11, 14), (13, 14)]
  [([], fun _ v _ => v = .agg (b.cells gA gc eA ec).toArray), ([], fun _ v _ => v = .agg (b.cells gA gc eA ec).toArray), ([], fun _ v _ => v = I ed), ([], fun _ v _ => v = .bool cc), ([], fun _ v _ => v = .bool cc), ([], fun _ v _ => cc = true → v = .agg (b.cells gA gc eA ec).toArray), ([], fun _ v _ => cc = true → v = I num), ([], fun _ v _ => cc = true → v = .bool (b.isNum num)), ([], fun _ v _ => v = .bool (cc && b.isNum num)), ([], fun _ v W => ∃ os : List Value, v = .tuple #[.agg os.toArray, I (askedE b (cc && b.isNum num))] ∧ AskX b gA gc eA ec (cc && b.isNum num) w1.heap.size os W), ([], fun _ v W => ∃ os : List Value, v = .tuple #[.agg os.toArray, I (askedE b (cc && b.isNum num))] ∧ AskX b gA gc eA ec (cc && b.isNum num) w1.heap.size os W), ([], fun _ v W => ∃ os : List Value, v = .agg os.toArray ∧ AskX b gA gc eA ec (cc && b.isNum num) w1.heap.size os W), ([], fun _ v _ => v = I (askedE b (cc && b.isNum num))), ([], fun _ v W => ∃ k, v = ptr k ∧ w1.heap.size ≤ k ∧ Blk W k zeroOpen 130), ([8], fun vs _ W => ∃ (k : Nat) (os : List Value), vs = [ptr k] ∧ w1.heap.size ≤ k ∧ Blk W k os 130 ∧ AskX b gA gc eA ec (cc && b.isNum num) w1.heap.size os W), ([], fun _ v _ => v = I (askedE b (cc && b.isNum num))),
   ([], fun _ _ _ => True), ([], fun _ _ _ => True), ([], fun _ _ _ => True), ([], fun _ _ _ => True), ([], fun _ _ _ => True), ([], fun _ _ _ => True), ([], fun _ _ _ => True), ([], fun _ _ _ => True), ([], fun _ _ _ => True), ([], fun _ v _ => ∃ os : List Value, v = .tuple #[.agg os.toArray, I (askedE b (cc && b.isNum num))]), ([], fun _ v _ => ∃ os : List Value, v = .tuple #[.agg os.toArray, I (askedE b (cc && b.isNum num))]), ([], fun _ _ _ => True), ([], fun _ _ _ => True), ([], fun _ v _ => ∃ k, v = ptr k ∧ w1.heap.size ≤ k), ([], fun _ _ _ => True), ([], fun _ _ _ => True)]
  mixed (by kernel_rfl) (by kernel_rfl) (by kernel_rfl) (by kernel_rfl) (by kernel_rfl) g0_drawn ?_ ?_ ?_ ?_
 ·intro k W W' hC hS
  by_cases hk : k = 14
  ·simp only [hk, if_true] at hS
   obtain ⟨b0, h0, g0⟩ := hS
   exact grown_own hC g0 h0
  ·simp only [if_neg hk] at hS
   exact World.grownBy.trans hC hS
 ·intro i k v W W' vs hik hd p hp h hS
  have hst : k ≠ 14 → W.grownBy W' none := fun hk => by simpa only [if_neg hk] using hS
  rcases i with _ | _ | _ | _ | _ | _ | _ | _ | _ | _ | _ | _ | _ | _ | _ | _ | _ | _ | _ | _ | _ | _ | _ | _ | _ | _ | _ | _ | _ | _ | _ | _ | i
  ·cases hp; exact h
  ·cases hp; exact h
  ·cases hp; exact h
  ·cases hp; exact h
  ·cases hp; exact h
  ·cases hp; exact h
  ·cases hp; exact h
  ·cases hp; exact h
  ·cases hp; exact h
  ·cases hp; obtain ⟨os, h1, h2⟩ := h; exact ⟨os, h1, h2.step0 (hst (by rintro rfl; simp at hd))⟩
  ·cases hp; obtain ⟨os, h1, h2⟩ := h; exact ⟨os, h1, h2.step0 (hst (by rintro rfl; simp at hd))⟩
  ·cases hp; obtain ⟨os, h1, h2⟩ := h; exact ⟨os, h1, h2.step0 (hst (by rintro rfl; simp at hd))⟩
  ·cases hp; exact h
  ·cases hp; obtain ⟨b0, h1, h2, h3⟩ := h; exact ⟨b0, h1, h2, h3.step0 (hst (by rintro rfl; simp at hd))⟩
  ·cases hp; obtain ⟨b0, os, h1, h2, h3, h4⟩ := h; have hg := hst (fun e => hik e.symm); exact ⟨b0, os, h1, h2, h3.step0 hg, h4.step0 hg⟩
  ·cases hp; exact h
  ·cases hp; exact h
  ·cases hp; exact h
  ·cases hp; exact h
  ·cases hp; exact h
  ·cases hp; exact h
  ·cases hp; exact h
  ·cases hp; exact h
  ·cases hp; exact h
  ·cases hp; exact h
  ·cases hp; exact h
  ·cases hp; exact h
  ·cases hp; exact h
  ·cases hp; exact h
  ·cases hp; exact h
  ·cases hp; exact h
  ·cases hp; exact h
  ·simp at hp
 ·refine ⟨?_, ?_, ?_, ?_, ?_, ?_, ?_, ?_, ?_, ?_, ?_, ?_, ?_, ?_, ?_, ?_, trivial⟩
  ·intro jv W hC
   exact o_v (v_loadBS rfl ag25 (B3.step0 hC) rfl rfl) (o_end (opD_done (grown_refl _ _) ⟨rfl, trivial⟩))
  ·intro jv W hC
   exact o_v (v_loadBS rfl ag25 (B3.step0 hC) rfl rfl) (o_end (opD_done (grown_refl _ _) ⟨rfl, trivial⟩))
  ·intro jv W hC
   exact o_v v_move (o_end (opD_done (grown_refl _ _) ⟨rfl, trivial⟩))
  ·rintro jv W hC _ rfl _ rfl
   refine o_call rfl rfl ent92 (f92w_calls b gA gc eA ec W ed) ?_
   rintro _ wa ⟨rfl, ga⟩
   exact ⟨_, rfl, o_end (opD_done ga ⟨by rw [hcc]; rfl, trivial⟩)⟩
  ·rintro jv W hC _ rfl
   exact o_v v_move (o_end (opD_done (grown_refl _ _) ⟨rfl, trivial⟩))
  ·rintro jv W hC _ rfl
   rcases Bool.eq_false_or_eq_true cc with hb | hb
   ·exact g_yes rfl rfl rfl hb (o_v (v_loadBS rfl ag25 (B3.step0 hC) rfl rfl) (o_end (opD_done (grown_refl _ _) ⟨fun _ => rfl, trivial⟩)))
   ·exact g_no rfl rfl rfl hb (o_end (opD_done (grown_refl _ _) ⟨(fun h => by rw [hb] at h; cases h), trivial⟩))
  ·rintro jv W hC _ rfl
   rcases Bool.eq_false_or_eq_true cc with hb | hb
   ·exact g_yes rfl rfl rfl hb (o_v v_move (o_end (opD_done (grown_refl _ _) ⟨fun _ => rfl, trivial⟩)))
   ·exact g_no rfl rfl rfl hb (o_end (opD_done (grown_refl _ _) ⟨(fun h => by rw [hb] at h; cases h), trivial⟩))
  ·rintro jv W hC _ rfl v5 h5 v6 h6
   rcases Bool.eq_false_or_eq_true cc with hb | hb
   ·obtain rfl := h5 hb
    obtain rfl := h6 hb
    refine g_yes rfl rfl rfl hb ?_
    refine o_call rfl rfl ent93 (f93_calls b gA gc eA ec W num hgl) ?_
    rintro _ wa ⟨rfl, ga⟩
    exact ⟨_, rfl, o_end (opD_done ga ⟨fun _ => rfl, trivial⟩)⟩
   ·exact g_no rfl rfl rfl hb (o_end (opD_done (grown_refl _ _) ⟨(fun h => by rw [hb] at h; cases h), trivial⟩))
  ·rintro jv W hC _ rfl v7 h7
   rcases Bool.eq_false_or_eq_true cc with hb | hb
   ·obtain rfl := h7 hb
    exact o_v (v_pick_t rfl hb) (o_end (opD_done (grown_refl _ _) ⟨by rw [hb]; rfl, trivial⟩))
   ·exact o_v (v_pick_f rfl hb) (o_end (opD_done (grown_refl _ _) ⟨by rw [hb]; rfl, trivial⟩))
  ·rintro jv W hC _ rfl _ rfl
   refine o_call rfl rfl ent78 (f78_ask b gA gc eA ec (cc && b.isNum num) W (hI.step0 hC)) ?_
   rintro _ wa ⟨os, rfl, ga, hax⟩
   have hax := hax.mono hC.size
   exact ⟨_, rfl, o_end (opD_done ga ⟨⟨os, rfl, hax⟩, ⟨os, rfl⟩⟩)⟩
  ·rintro jv W hC _ ⟨os, rfl, h2⟩
   exact o_v v_move (o_end (opD_done (grown_refl _ _) ⟨⟨os, rfl, h2⟩, ⟨os, rfl⟩⟩))
  ·rintro jv W hC _ ⟨os, rfl, h2⟩
   exact o_v (v_extract rfl rfl) (o_end (opD_done (grown_refl _ _) ⟨⟨os, rfl, h2⟩, trivial⟩))
  ·rintro jv W hC _ ⟨os, rfl⟩
   exact o_v (v_extract rfl rfl) (o_end (opD_done (grown_refl _ _) ⟨rfl, trivial⟩))
  ·rintro jv W hC
   refine o_alloc (t := 130) ze130 rfl ?_; intro wa Ba ga za
   exact o_end (opD_done ga ⟨⟨_, rfl, hC.size, Ba⟩, ⟨_, rfl, hC.size⟩⟩)
  ·rintro jv W hC _ ⟨b0, rfl, hb0, B0⟩ _ ⟨os, rfl, hax⟩
   refine o_storeB (vs := os) rfl rfl sz130 hax.five.1 B0 (by rw [hax.five.1]; rfl) hax.five.2 ?_; intro wa Ba ga za
   rw [over_all (cs := zeroOpen) (vs := os) hax.five.1.symm] at Ba
   exact o_end (opD_none ⟨b0, hb0, ga⟩ ⟨⟨b0, os, rfl, hb0, Ba, hax.off B0 ga⟩, trivial⟩)
  ·rintro jv W hC _ rfl
   exact o_v v_assign (o_end (opD_done (grown_refl _ _) ⟨rfl, trivial⟩))
 ·rintro jv w7 Gw7 _ ⟨b0, rfl, hb0⟩ ⟨b1, os, hb1, hb2, B8, hax⟩ _ rfl
  obtain rfl : b1 = b0 := by simpa [rd] using hb1.symm
  refine o_end (k2 _ _ ?_)
  replace hI := hI.step0 Gw7; replace B3 := B3.step0 Gw7; replace G := G.step0 Gw7
  have hee : askedE b (cc && b.isNum num) = askedE b (b.isEd ed && b.isNum num) := askedE_congr fun h => by rw [hcc, Book.isEdW_ok h]
  refine s_seq fun _ k3 => ?_
  refine s_rseq fun _ k4 => ?_
  refine o_v v_move ?_
  refine o_v (v_neq rfl rfl) ?_
  refine o_end (k4 _ _ ?_)
  refine s_ifd rfl (fun c4 => ?_) (fun c4 => ?_)
  ·refine s_rseq fun _ k5 => ?_
   refine o_v v_move ?_
   refine o_v v_assign ?_
   refine o_v v_assign ?_
   refine o_end (k5 _ _ ?_)
   rw [hee] at c4
   refine s_ret (post2 rfl ?_)
   refine ⟨_, congrArg (fun z => Ending.returned (.tuple #[.slice none 0 0, I z])) hee, ?_, G⟩
   unfold numbersQ
   rw [if_neg (by exact c4)]
   exact Ty.Row.nil _ _ _ _
  ·have he0 : askedE b (cc && b.isNum num) = 0 := by
    apply Classical.byContradiction
    exact c4
   obtain ⟨pA, pc, rfl, hsl, hpl, hpm⟩ := hax.good he0
   obtain ⟨hok, hfine, h00⟩ := asked_ok he0
   have hgd := Book.ok_goods hok
   have hnm : 0 ≤ num ∧ num < b.goods.length := by
    rw [Bool.and_eq_true] at hfine
    have := hfine.2
    unfold Book.isNum inB at this
    simp at this
    omega
   have hed : 0 ≤ ed ∧ ed < b.ed := by
    rw [Bool.and_eq_true, hcc, Book.isEdW_ok hok] at hfine
    have := hfine.1
    unfold Book.isEd inB at this
    simp at this
    omega
   have hol := openedL_len b
   obtain ⟨b0, o0, cs0, rfl, _, ⟨qA, qc, rfl, hq1, hq2, hq3⟩, hr0⟩ := hsl.get ed.toNat (by omega)
   have hcell := hr0 0 _ rfl
   simp only [Ty.sl] at hcell
   obtain ⟨ps, hps⟩ : ∃ ps, ps = (openedL b)[ed.toNat]'(by omega) := ⟨_, rfl⟩
   have hrow0 : (openedL b)[ed.toNat]?.getD [] = ps := by rw [List.getElem?_eq_getElem (by omega), hps]; rfl
   rw [← hps] at hcell hq1 hq3
   have hfew := opened_few hok ed.toNat
   rw [hrow0] at hfew
   have hpok : ∀ p ∈ ps, PageOk b ed.toNat p := fun p hp => opened_ok hok (by rw [hrow0]; exact hp)
   refine s_skip ?_
   refine k3 _ _ ?_
   refine s_rseq fun _ k6 => ?_
   refine o_v v_assign ?_
   refine o_end (k6 _ _ ?_)
   refine s_seq fun _ k7 => ?_
   refine s_rseq fun _ k8 => ?_
   refine o_v (v_field rfl fld130_1) ?_
   refine o_v (v_loadB rfl sc128 B8 rfl) ?_
   refine o_v v_move ?_
   refine o_v (v_index rfl rfl slt128 (by omega)) ?_
   refine o_v (v_loadC rfl sc135 (by simpa using hcell)) ?_
   refine o_v (v_len rfl Tryz.underlying135) ?_
   refine o_v v_move ?_
   refine o_end (k8 _ _ ?_)
   refine s_block ?_
   refine s_loop (G := Nat × Value) (fun g => [(10, g.2), (35, I g.1)]) [10, 35] [12, 36, 37, 38, 39, 40, 41, 42, 43, 44, 45, 46] (fun g W => (g.1 ≤ ps.length ∧ Ty.int.Row 3 W (fun k => w7.heap.size ≤ k) g.2 ((ps.take g.1).map (fun p : Page => idxL (fun x => decide (num = x)) p.means))) ∧ w7.grownBy W none) (fun g => ps.length - g.1) (fun _ => rfl) (0, .slice none 0 0) ⟨rfl, rfl, trivial⟩ ⟨⟨Nat.zero_le _, Ty.Row.nil _ _ _ _⟩, grown_refl _ _⟩ ?_
   rintro ⟨g, out⟩ jv w8 ⟨⟨hk, hrow⟩, g8⟩
   simp only at hk hrow ⊢
   replace G := G.step0 g8; replace hI := hI.step0 g8; replace B3 := B3.step0 g8; replace B8 := B8.step0 g8
   refine s_rseq fun _ k9 => ?_
   refine o_v (v_lss rfl rfl) ?_
   refine o_end (k9 _ _ ?_)
   refine s_seq fun _ k10 => ?_
   refine s_ifd rfl (fun c10 => ?_) (fun c10 => ?_)
   ·have hlt : g < ps.length := by omega
    obtain ⟨bp, op, cp, rfl, _, hrepp, hrgp⟩ := (hq3.step0 g8).get g hlt
    obtain ⟨mA, mc, rfl, hml, hmm, hmean⟩ := pageT_iff.1 hrepp
    rw [pageT_sz] at hrgp
    have hp0 := hpok ps[g] (List.getElem_mem hlt)
    have hplen := hp0.len
    refine s_skip ?_
    refine k10 _ _ ?_
    refine s_seq fun _ k11 => ?_
    refine s_block ?_
    refine s_rseq fun _ k12 => ?_
    refine o_v (v_index rfl rfl slt135 (by omega)) ?_
    refine o_v (v_loadR rfl ag137 hrgp rfl) ?_
    refine o_allocst ze137 rfl rfl rfl sz137 rfl rfl rfl ?_; intro w9 B12 g9 z9
    replace G := G.step0 g9; replace g8 := g8.step0 g9; replace hrow := hrow.step0 g9; replace hmean := hmean.step0 g9
    refine o_end (k12 _ _ ?_)
    refine s_region ?_
    refine o_v v_move ?_
    refine o_v (v_field rfl fld137_0) ?_
    refine o_v (v_loadB rfl sc56 B12 rfl) ?_
    refine o_v v_move ?_
    refine o_call rfl rfl ent130 (f130_calls _ _ _ num _ hmean (by omega)) ?_; rintro _ w10 ⟨rfl, g10⟩; refine ⟨_, rfl, ?_⟩
    replace G := G.step0 g10; replace g8 := g8.step0 g10; replace hrow := hrow.step0 g10
    refine o_bslice rfl (fun W => bls56_1 W) ?_; intro w11 B44 g11 z11
    replace G := G.step0 g11; replace g8 := g8.step0 g11; replace hrow := hrow.step0 g11
    refine o_append1 (t := Ty.int) (p := (fun p : Page => idxL (fun x => decide (num = x)) p.means) ps[g]) rfl rfl hrow B44 Tryz.underlying56 info3 rfl rfl (fun k hk => by have := g8.size; omega) (by simp; omega) (by decide) ?_
    intro out' w12 hrow12 g12 hat
    have hge : ∀ k, out.ownBlock = some k → w7.heap.size ≤ k := fun k hk => hrow.1 k hk
    have G12 : w7.grownBy w12 none := ⟨g12.os.trans g8.os, g12.tape.trans g8.tape, g12.output.trans g8.output, Nat.le_trans g8.size g12.size, fun k hk _ => (g12.block k (Nat.lt_of_lt_of_le hk g8.size) (fun e => by have := hge k e.symm; omega)).trans (g8.block k hk (by simp))⟩
    refine o_v v_assign ?_
    refine o_end ?_
    refine k11 _ _ ?_
    refine s_region ?_
    refine o_v (v_add rfl rfl (by omega)) ?_
    refine o_v v_move ?_
    refine o_end ?_
    refine mid (g + 1, out') ?_ ?_ ?_
    ·repeat (first | exact off_refl | refine off_cons rfl ?_)
    ·exact ⟨rfl, rfl, trivial⟩
    ·refine ⟨⟨⟨hlt, ?_⟩, G12⟩, by simp only; omega⟩
     rw [List.take_succ_eq_append_getElem hlt, List.map_append]
     exact hrow12
   ·obtain rfl : g = ps.length := by omega
    rw [List.take_length] at hrow
    obtain ⟨oA, oc, hov, _, _, hos⟩ := hrow.reads
    rw [List.length_map] at hov
    subst hov
    refine s_exit ?_
    refine k7 _ _ ?_
    refine s_rseq fun _ k13 => ?_
    refine o_v v_move ?_
    have hcall := f91_calls (S := fun k => w.heap.size ≤ k) oA oc (ps.map (fun p : Page => idxL (fun x => decide (num = x)) p.means)) w8 hos (by rw [List.length_map]; omega) (fun k hk => Nat.le_trans G.size hk)
    rw [List.length_map] at hcall
    refine o_call rfl rfl ent91 hcall ?_; rintro _ w13 ⟨v', rfl, hR12, _, g13⟩; refine ⟨_, rfl, ?_⟩
    replace G := G.step0 g13
    refine o_v v_assign ?_
    refine o_v v_assign ?_
    refine o_end (k13 _ _ ?_)
    refine s_ret (post2 rfl ?_)
    refine ⟨v', congrArg (fun z => Ending.returned (.tuple #[v', I z])) (he0.symm.trans hee), ?_, G⟩
    unfold numbersQ
    rw [if_pos (hee.symm.trans he0), hrow0]
    exact hR12
end Go.Proofs.NV
namespace Go.Proofs.NV
open Go.RowKit Go.Shelf
section ops
variable {r : Option Nat} {P : Program} {ops : Array Oper} {Q : Exit → Act → World → Prop} {rest : List Oper} {n : Nat} {e : Env} {ds : List Deferred} {w : World} {d : Nat} {ty : TypeId} {ps : String} {af : Array Edge} {α : Type}
theorem v_max {x y : Operand} {ts : Array TypeId} {k k' : IntKind} {a b : Int} (hx : ev n e x = .int k a) (hy : ev n e y = .int k' b) :
  (execOp (ev n e) ⟨some d, .call { callee := .builtin .max, args := #[x, y], argTypes := ts }, ty, ps, af, none⟩).run P w = .ok (.value (.int k (if b > a then b else a))) w := by
 have h : (#[x, y] : Array Operand).map (ev n e) = #[.int k a, .int k' b] := by simp [hx, hy]
 simp [execOp, resolve, invoke, builtin, h, hx, hy, run_max_int2]
theorem v_min {x y : Operand} {ts : Array TypeId} {k k' : IntKind} {a b : Int} (hx : ev n e x = .int k a) (hy : ev n e y = .int k' b) :
  (execOp (ev n e) ⟨some d, .call { callee := .builtin .min, args := #[x, y], argTypes := ts }, ty, ps, af, none⟩).run P w = .ok (.value (.int k (if b < a then b else a))) w := by
 have h : (#[x, y] : Array Operand).map (ev n e) = #[.int k a, .int k' b] := by simp [hx, hy]
 simp [execOp, resolve, invoke, builtin, h, hx, hy, run_min_int2]
theorem v_and1 {t yt : TypeId} {x y : Operand} {a : Int} (hx : ev n e x = .int .i64 a) (hy : ev n e y = .int .i64 1) (hb : 0 ≤ a ∧ a ≤ 9223372036854775807) :
  (execOp (ev n e) ⟨some d, .binOp .and t x y yt, ty, ps, af, none⟩).run P w = .ok (.value (.int .i64 (a % 2))) w := by
 rw [run_bin hx hy]
 have h := Go.Proofs.and_one a.toNat (by omega)
 rw [show ((a.toNat : Nat) : Int) = a by omega, show ((a.toNat % 2 : Nat) : Int) = a % 2 by omega] at h
 rw [show binOp .and t (.int .i64 a) (.int .i64 1) = Op.intBits .and .i64 a 1 by simp [binOp], show Op.intBits .and .i64 a 1 = pure (.int .i64 (bits .and .i64 a 1)) from rfl, h]
 rfl
theorem o_make {t : Ty α} {tt et : TypeId} {z : Value} {bytes m : Nat} {S : Nat → Prop} {x y : Operand} {xs : List α} {cs : List Value} (hx : ev n e x = .int .i64 m) (hy : ev n e y = .int .i64 m) (htt : P.underlying tt = some (.slice et))
  (hinfo : (P.info? et).map (fun i => (i.zero, i.size, i.bytes)) = some (some z, t.sz, bytes)) (hcs : (madeCells z.cells (m * t.sz)).toList = cs) (hreps : ∀ w S, Reps (t.rep w S) xs cs) (hn : xs.length = m) (hb : bytes * m ≤ 281474976710656) (hm : m ≤ 1000000) (hS : ∀ k, w.heap.size ≤ k → S k)
  (h : ∀ w', t.Row et w' S (.slice (some ⟨w.heap.size, 0, none⟩) m m) xs → w.grownBy w' none → w'.heap.size = w.heap.size + 1 → wl r P ops Q rest (act n ((d, .slice (some ⟨w.heap.size, 0, none⟩) m m) :: e) ds) w') :
  wl r P ops Q (⟨some d, .makeSlice tt x y, ty, ps, af, none⟩ :: rest) (act n e ds) w := by
 obtain ⟨i, hi, hzz⟩ := Option.map_eq_some_iff.1 hinfo
 simp only [Prod.mk.injEq] at hzz
 obtain ⟨hz0, hz1, hz2⟩ := hzz
 have hb' : (i.bytes : Int) * (m : Int) ≤ 281474976710656 := by
  have h : ((i.bytes * m : Nat) : Int) ≤ 281474976710656 := by rw [hz2]; omega
  rwa [Int.natCast_mul] at h
 have hr := run_make (P := P) w tt et i z htt hi hz0 .i64 .i64 m m (by omega) (Int.le_refl _) hb' (by omega)
 simp only [Int.toNat_natCast] at hr
 rw [hz1, show madeCells z.cells (m * t.sz) = cs.toArray by rw [← hcs]] at hr
 refine o_val (fun _ => by simp) (w' := w.alloc (.cells cs.toArray et)) (v := .slice (some ⟨w.heap.size, 0, none⟩) m m) ?_ (h _ ?_ (World.grownBy_alloc w _ _) (World.size_alloc _ _))
 ·simp [execOp, hx, hy, hr]
 ·have hl := (hreps w S).len (fun _ _ h => t.hlen h)
  have := Ty.Row.close (t := t) (S := S) (ys := xs) (g := w.heap.size) (cap := m) (hS _ (Nat.le_refl _)) (World.alloc_heap_new w (.cells cs.toArray et)) (by rw [hl, hn]) (by omega) (by unfold maxLen; omega) (by
   have h2 := hreps (w.alloc (.cells cs.toArray et)) (fun k => S k ∧ k ≠ w.heap.size)
   rw [List.take_of_length_le (by rw [hl]; exact Nat.le_refl _)]
   exact h2)
  rwa [hn] at this
end ops
theorem madeCells_all {cs : Array Value} {u : Value} (h : ∀ (i : Nat) (hi : i < cs.size), cs[i] = u) (h0 : 0 < cs.size) (m : Nat) : (madeCells cs m).toList = List.replicate m u := by
 apply List.ext_getElem
 ·simp [madeCells]
 ·intro j h1 h2
  have hj : j % cs.size < cs.size := Nat.mod_lt _ h0
  simp [madeCells, getElem!_pos, hj, h]
theorem reps_zeros {w : World} {S : Nat → Prop} (m : Nat) : Reps (Ty.int.rep w S) (List.replicate m (0 : Int)) (List.replicate m (.int .i64 0)) := by
 induction m with
 | zero => rfl
 | succ m ih => exact ⟨[.int .i64 0], _, rfl, rfl, ih⟩
end Go.Proofs.NV
