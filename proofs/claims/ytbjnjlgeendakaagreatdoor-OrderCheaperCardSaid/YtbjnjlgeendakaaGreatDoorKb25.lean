/- Part of the proof: What the chapter's examples give: closed.. The data of the chapter's examples.. known: the chapter's examples.. Glue: from an argument's reading to how its data lie; the law's row.. -/
import Derived.Test.YtbjnjlgeendakaaGreatDoorKb24
import Derived.Test.YtbjnjlgeendakaaGreatDoorKb16
import Derived.Test.YtbjnjlgeendakaaGreatDoorKb20
import Derived.KernelRfl
import Derived.Test.YtbjnjlgeendakaaGreatDoorKb21
import Derived.Test.YtbjnjlgeendakaaGreatDoorKb5
import Derived.Test.YtbjnjlgeendakaaGreatDoorRows
import Derived.OpenShut
import Derived.LaidMore
import Derived.Lay
import Derived.SevenTiedAt
import Derived.Stop.Joined
import Derived.Carry
set_option linter.unusedVariables false
set_option maxRecDepth 100000
set_option maxHeartbeats 8000000
set_option linter.unusedSimpArgs false
namespace Go.Proofs.NV
def kB : Book := ⟨[20, 24, 24, 30], 2, 2, [⟨0, 0, 1⟩, ⟨0, 3, 3⟩, ⟨1, 0, 0⟩]⟩
def kL : List Letter := [⟨1, 24, 24, 5⟩, ⟨2, 20, 20, 7⟩, ⟨0, 30, 30, 1⟩]
def kZ (n : Nat) : Buyer := ⟨3, kL.take n⟩
def kP : List Pack := [⟨144, 100⟩, ⟨12, 10⟩, ⟨1, 1⟩]
def kS : List Seller := [⟨20, [10, 5], [3, 4]⟩, ⟨5, [10, 2], [4, 5]⟩]
theorem k_ok : kB.ok = true := by kernel_rfl
theorem k_ask : askedE kB true = 0 := by kernel_rfl
theorem k_asks : askedE kB (kB.isEd 0 && kB.isNum 1) = 0 ∧ askedE kB (kB.isEd 1 && kB.isNum 1) = 0 := ⟨by kernel_rfl, by kernel_rfl⟩
theorem k_buy : askedE kB (kB.isBuy (kZ 1)) = 0 ∧ askedE kB (kB.isBuy (kZ 2)) = 0 ∧ askedE kB (kB.isBuy (kZ 3)) = 0 := ⟨by kernel_rfl, by kernel_rfl, by kernel_rfl⟩
theorem k_let : lettersE kB (kZ 1) = 0 ∧ lettersE kB (kZ 2) = 0 := ⟨by kernel_rfl, by kernel_rfl⟩
theorem k_truths : truthsL (openedL kB) = 2 := by kernel_rfl
theorem k_askQ : askQ kB = (⟨0, 1, 1⟩, 0) := by kernel_rfl
theorem k_wants : wantsQ kB (kZ 1) = [⟨0, 0⟩, ⟨0, 5⟩, ⟨0, 5⟩, ⟨0, 0⟩] := by kernel_rfl
theorem k_odd : oddQ kB (kZ 3) = [2] := by kernel_rfl
theorem k_sell : sellersB kS [10, 5] = true := by kernel_rfl
theorem k_pk : Packs.ok kP 155 = true := by kernel_rfl
theorem k_tab : (refTab kP 155)[155]? = some ⟨[1, 1, 0], 2, 110⟩ := by kernel_rfl
theorem k_pack : packL kP 155 = ⟨[1, 1, 0], 110⟩ := by
 have h := refTab_eq (Packs.ok_of k_pk).1 155 155 (Nat.le_refl _)
 rw [k_tab] at h
 have e : ((155 : Nat) : Int) = 155 := rfl
 rw [e] at h
 generalize packL kP 155 = q at h
 injection h with h
 unfold toT at h
 injection h with h1 h2 h3
 cases q with
 | mk a b => simp only at h1 h3; rw [← h1, ← h3]
theorem listedL_of {xs zs ys : List Int} (h : xs = zs) (hp : ys.Pairwise (· < ·)) (hm : ∀ x, x ∈ zs ↔ x ∈ ys) : listedL xs = ys :=
 strict_ext _ _ (listedL_spec xs).1 hp fun x => by rw [(listedL_spec xs).2, h]; exact hm x
theorem k_means : meansQ kB 0 1 = [0, 2] := by
 unfold meansQ
 rw [if_pos k_asks.1]
 exact listedL_of (zs := [0, 2]) (by kernel_rfl) (by decide) (fun x => Iff.rfl)
theorem k_numbers : numbersQ kB 1 1 = [1, 2] := by
 unfold numbersQ
 rw [if_pos k_asks.2]
 exact listedL_of (zs := [1, 2]) (by kernel_rfl) (by decide) (fun x => Iff.rfl)
theorem k_which : whichQ kB (kZ 1) = [0, 1] := by
 unfold whichQ
 rw [if_pos k_let.1]
 exact listedL_of (zs := [0, 1, 1]) (by kernel_rfl) (by decide) (fun x => by simp)
theorem k_reads : readsQ kB (kZ 2) = [[2], [0]] := by
 unfold readsQ
 rw [if_pos k_let.2]
 show [listedL _, listedL _] = _
 rw [listedL_of (ys := [2]) (zs := [2]) (by kernel_rfl) (by decide) (fun x => Iff.rfl), listedL_of (ys := [0]) (zs := [0]) (by kernel_rfl) (by decide) (fun x => Iff.rfl)]
theorem byPrice_nil (l : List Seller) (g : Int) (k : Nat) : byPrice l g k [] = [] := by
 unfold byPrice Go.Sort.insertionSort
 rw [Go.Sort.insOuter]
 rfl
theorem byPrice_one (l : List Seller) (g : Int) (k : Nat) (x : Fin (k + 1)) : byPrice l g k [x] = [x] := by
 unfold byPrice Go.Sort.insertionSort
 rw [Go.Sort.insOuter]
 rfl
theorem byPrice_two (l : List Seller) (g : Int) (k : Nat) (x y : Fin (k + 1)) (h : priceAt l y.val g - priceAt l x.val g < 0) : byPrice l g k [x, y] = [y, x] := by
 unfold byPrice Go.Sort.insertionSort
 rw [Go.Sort.insOuter, if_pos (by simp), Go.Sort.insOuter, if_neg (by simp)]
 show (Go.Sort.insInner _ 0 (0 + 1) _).toList = _
 rw [Go.Sort.insInner, if_pos]
 ·rfl
 ·have : ltOf (fun x y : Fin (k + 1) => priceAt l x.val g - priceAt l y.val g) y x = true := decide_eq_true h
  exact this
theorem k_ord0 (g : Nat) : orderOf kS g 1 0 = [] := by
 unfold orderOf
 rw [show (ordTo 1 0 (1 + 1)).reverse = [] by kernel_rfl]
 exact byPrice_nil _ _ _
theorem k_ord1 (g : Nat) : orderOf kS g 1 1 = [0] := by
 unfold orderOf
 rw [show (ordTo 1 1 (1 + 1)).reverse = [0] by kernel_rfl]
 exact byPrice_one _ _ _ _
theorem k_ord2 (g : Nat) : orderOf kS g 1 2 = [1] := by
 unfold orderOf
 rw [show (ordTo 1 2 (1 + 1)).reverse = [1] by kernel_rfl]
 exact byPrice_one _ _ _ _
theorem k_ord3 (g : Nat) (h : priceAt kS 0 g - priceAt kS 1 g < 0) : orderOf kS g 1 3 = [0, 1] := by
 unfold orderOf
 rw [show (ordTo 1 3 (1 + 1)).reverse = [1, 0] by kernel_rfl]
 exact byPrice_two _ _ _ _ _ h
theorem k_from0 : fromL kS [10, 5] 0 = none := by
 have h : fromTo kS [10, 5] 1 0 1 = none := fromTo_no (fromTo_zero kS [10, 5] 1 0) rfl (by rw [k_ord0]; decide)
 exact fromTo_none h 1
theorem k_from1 : fromL kS [10, 5] 1 = some [[10, 5], [0, 0]] := by
 have h : fromTo kS [10, 5] 1 1 1 = some [[10, 0], [0, 0]] := by rw [fromTo_yes (fromTo_zero kS [10, 5] 1 1) rfl (by rw [k_ord1]; decide), k_ord1]; rfl
 have h2 : fromTo kS [10, 5] 1 1 2 = some [[10, 5], [0, 0]] := by rw [fromTo_yes h rfl (by rw [k_ord1]; decide), k_ord1]; rfl
 exact h2
theorem k_from2 : fromL kS [10, 5] 2 = none := by
 have h : fromTo kS [10, 5] 1 2 1 = some [[0, 0], [10, 0]] := by rw [fromTo_yes (fromTo_zero kS [10, 5] 1 2) rfl (by rw [k_ord2]; decide), k_ord2]; rfl
 have h2 : fromTo kS [10, 5] 1 2 2 = none := fromTo_no h rfl (by rw [k_ord2]; decide)
 exact h2
theorem k_from3 : fromL kS [10, 5] 3 = some [[10, 5], [0, 0]] := by
 have h : fromTo kS [10, 5] 1 3 1 = some [[10, 0], [0, 0]] := by rw [fromTo_yes (fromTo_zero kS [10, 5] 1 3) rfl (by rw [k_ord3 _ (by decide)]; decide), k_ord3 _ (by decide)]; rfl
 have h2 : fromTo kS [10, 5] 1 3 2 = some [[10, 5], [0, 0]] := by rw [fromTo_yes h rfl (by rw [k_ord3 _ (by decide)]; decide), k_ord3 _ (by decide)]; rfl
 exact h2
theorem k_cost : costsL kS [10, 5] [[10, 5], [0, 0]] = some 70 := by kernel_rfl
theorem k_buyQ : bestL betterB (candTo kS [10, 5] 4) = some ⟨[[10, 5], [0, 0]], 70, 1⟩ := by
 have h0 : candTo kS [10, 5] 1 = [] := candTo_no k_from0
 have h1 : candTo kS [10, 5] 2 = [⟨[[10, 5], [0, 0]], 70, 1⟩] := by rw [candTo_yes (n := 1) k_from1 k_cost, h0]; rfl
 have h2 : candTo kS [10, 5] 3 = [⟨[[10, 5], [0, 0]], 70, 1⟩] := by rw [candTo_no (n := 2) k_from2, h1]
 have h3 : candTo kS [10, 5] 4 = [⟨[[10, 5], [0, 0]], 70, 1⟩, ⟨[[10, 5], [0, 0]], 70, 1⟩] := by rw [candTo_yes (n := 3) k_from3 k_cost, h2]; rfl
 rw [h3]
 rfl
def kText : List UInt8 := [98,111,111,107,32,49,32,48,10,103,111,111,100,32,49,48,10,103,111,111,100,32,49,48,10,101,110,100,32,48,53,56,10]
def kY : Book := ⟨[10, 10], 1, 0, []⟩
theorem k_parsed : parsedL kText = some kY := by kernel_rfl
theorem k_textY : textL kY = kText := by kernel_rfl
theorem k_readE : readE kText = 0 := by
 unfold readE
 rw [if_neg (by decide), k_parsed]
 rfl
theorem k_readB : readB kText = kY := by
 unfold readB
 rw [if_pos k_readE, k_parsed]
 rfl
theorem k_smY : BookSm kY 900 := ⟨by decide, by decide, by decide, fun x hx => by cases hx⟩
end Go.Proofs.NV
namespace Go.Proofs.NV
open Go.RowKit Go.Shelf
attribute [local irreducible] bodyPost bodyPostM wpQuiet
theorem reps_enc {α : Type} {enc : α → List Value} {R : α → List Value → Prop} (h : ∀ x, R x (enc x)) : ∀ xs : List α, Reps R xs (xs.flatMap enc)
 | [] => rfl
 | x :: xs => ⟨enc x, xs.flatMap enc, rfl, h x, reps_enc h xs⟩
theorem sl_blk {α : Type} {t : Ty α} {w : World} {S : Nat → Prop} {b bt : Nat} {cs : List Value} {xs : List α} (h : Blk w b cs bt) (hS : S b) (hr : Reps (t.rep w S) xs cs) : t.Sl w S (some ⟨b, 0, none⟩) xs := by
 refine .inr ⟨b, 0, cs, rfl, hS, ?_, hr⟩
 have := h.range 0 cs.length
 rwa [List.drop_zero, List.take_of_length_le (Nat.le_refl _)] at this
theorem ints_blk {w : World} {S : Nat → Prop} {b bt : Nat} {xs : List Int} (h : Blk w b (xs.map I) bt) (hS : S b) : Ty.int.Sl w S (some ⟨b, 0, none⟩) xs := sl_blk h hS (reps_int xs)
theorem maxLen_ge (n : Nat) (h : n ≤ 1000000) : n ≤ maxLen := by rw [maxLen_val]; omega
theorem f73_calls (w : World) :
  Calls Tryz.prog 73 #[] w fun e w' => ∃ gA eA, e = .returned (.agg (kB.cells gA 4 eA 3).toArray) ∧ BookIn w' (fun k => w.heap.size ≤ k) kB gA 4 eA 3 ∧ w.grownBy w' none := by
 refine s_enter (n := 11) Tryz.func73 rfl rfl rfl ?_
 have G := grown_refl w none
 refine s_rseq fun _ k1 => ?_
 refine o_alloc (t := 25) ze25 rfl ?_; intro w1 B0 g1 z1
 replace G := G.step0 g1
 refine o_end (k1 _ _ ?_)
 refine s_rseq fun _ k2 => ?_
 refine o_v (v_build rfl (fun W => bld148_0 W)) ?_
 refine o_v (v_build rfl (fun W => bld148_0 W)) ?_
 refine o_v (v_build rfl (fun W => bld148_0 W)) ?_
 refine o_v (v_build rfl (fun W => bld148_0 W)) ?_
 refine o_bslice rfl (fun W => bls22_4 W) ?_; intro w2 B5 g2 z2
 replace G := G.step0 g2; replace B0 := B0.step0 g2
 refine o_v (v_build rfl (fun W => bld99_012 W)) ?_
 refine o_v (v_build rfl (fun W => bld99_012 W)) ?_
 refine o_v (v_build rfl (fun W => bld99_012 W)) ?_
 refine o_bslice rfl (fun W => bls23_3 W) ?_; intro w3 B9 g3 z3
 replace G := G.step0 g3; replace B0 := B0.step0 g3; replace B5 := B5.step0 g3
 refine o_v (v_build rfl (fun W => bld25_0123 W)) ?_
 refine o_storeB (vs := kB.cells (some ⟨w1.heap.size, 0, none⟩) 4 (some ⟨w2.heap.size, 0, none⟩) 3) rfl rfl sz25 rfl B0 rfl rfl ?_; intro w4 B0 g4 z4
 have h1 := g1.size
 have h2 := g2.size
 have h01 : w.heap.size < w1.heap.size := by omega
 refine o_end (k2 _ _ ?_)
 refine s_ret (postR (v := .agg (kB.cells (some ⟨w1.heap.size, 0, none⟩) 4 (some ⟨w2.heap.size, 0, none⟩) 3).toArray) (res_c rfl rfl (run_loadVar_ag ag25 B0 rfl)) ?_)
 refine ⟨_, _, rfl, ⟨?_, ⟨Nat.le_refl _, maxLen_ge _ (by decide)⟩, ?_, ⟨Nat.le_refl _, maxLen_ge _ (by decide)⟩⟩, grown_own G g4 (Nat.le_refl _)⟩
 ·exact (ints_blk (S := fun k => w1.heap.size ≤ k) (xs := [20, 24, 24, 30]) B5 (Nat.le_refl _)).step g4 (fun k hk e => by injection e with e; omega) |>.mono fun k hk => by omega
 ·exact (sl_blk (t := entT) (S := fun k => w1.heap.size ≤ k) (xs := kB.ents) B9 h2 (reps_enc (R := entT.rep _ _) (enc := fun x : Entry => [I x.ed, I x.num, I x.good]) (fun _ => rfl) kB.ents)).step g4 (fun k hk e => by injection e with e; omega) |>.mono fun k hk => by omega
theorem f132_calls (l : Letter) (w : World) :
  Calls Tryz.prog 132 #[I l.num, I l.lo, I l.hi, I l.many] w fun e w' => e = .returned (.agg l.cells.toArray) ∧ w.grownBy w' none := by
 refine s_enter (n := 15) Tryz.func132 rfl rfl rfl ?_
 have G := grown_refl w none
 refine s_rseq fun _ k1 => ?_
 refine o_alloc (t := 67) ze67 rfl ?_; intro w1 B8 g1 z1
 replace G := G.step0 g1
 refine o_end (k1 _ _ ?_)
 refine s_rseq fun _ k2 => ?_
 refine o_v v_move ?_
 refine o_v v_move ?_
 refine o_v v_move ?_
 refine o_v (v_build rfl (fun W => bld65_01 W)) ?_
 refine o_v v_move ?_
 refine o_v (v_build rfl (fun W => bld67_012 W)) ?_
 refine o_storeB (vs := l.cells) rfl rfl sz67 rfl B8 rfl rfl ?_; intro w2 B8 g2 z2
 refine o_end (k2 _ _ ?_)
 refine s_ret (postR (v := .agg l.cells.toArray) (res_c rfl rfl (run_loadVar_ag ag67 B8 rfl)) ?_)
 exact ⟨rfl, grown_own G g2 (Nat.le_refl _)⟩
theorem f74_calls (n : Nat) (hn : n ≤ 3) (w : World) :
  Calls Tryz.prog 74 #[I n] w fun e w' => ∃ lA, e = .returned (.agg #[I 3, .slice lA n 3]) ∧ BuyIn w' (fun k => w.heap.size ≤ k) (kZ n) lA 3 ∧ w.grownBy w' none := by
 refine s_enter (n := 12) Tryz.func74 rfl rfl rfl ?_
 have G := grown_refl w none
 refine s_rseq fun _ k1 => ?_
 refine o_alloc (t := 47) ze47 rfl ?_; intro w1 B2 g1 z1
 replace G := G.step0 g1
 refine o_end (k1 _ _ ?_)
 refine s_rseq fun _ k2 => ?_
 refine o_call rfl rfl ent132 ((f132_calls ⟨1, 24, 24, 5⟩ w1)) ?_; rintro _ w2 ⟨rfl, g2⟩; refine ⟨_, rfl, ?_⟩
 replace G := G.step0 g2; replace B2 := B2.step0 g2
 refine o_call rfl rfl ent132 ((f132_calls ⟨2, 20, 20, 7⟩ w2)) ?_; rintro _ w3 ⟨rfl, g3⟩; refine ⟨_, rfl, ?_⟩
 replace G := G.step0 g3; replace B2 := B2.step0 g3
 refine o_call rfl rfl ent132 ((f132_calls ⟨0, 30, 30, 1⟩ w3)) ?_; rintro _ w4 ⟨rfl, g4⟩; refine ⟨_, rfl, ?_⟩
 replace G := G.step0 g4; replace B2 := B2.step0 g4
 refine o_bslice rfl (fun W => bls45_3 W) ?_; intro w5 B7 g5 z5
 replace G := G.step0 g5; replace B2 := B2.step0 g5
 refine o_v v_assign ?_
 refine o_end (k2 _ _ ?_)
 refine s_rseq fun _ k3 => ?_
 refine o_v v_move ?_
 refine o_v v_move ?_
 refine o_v (v_sliceH rfl rfl slt45 (by omega)) ?_
 refine o_v (v_build rfl (fun W => bld47_01 W)) ?_
 refine o_storeB (vs := [I 3, .slice (some ⟨w4.heap.size, 0, none⟩) n 3]) rfl rfl sz47 rfl B2 rfl rfl ?_; intro w6 B2 g6 z6
 have h1 := g1.size
 have h14 := (g2.step0 g3).step0 g4 |>.size
 have hsl := (sl_blk (t := letT) (S := fun k => w1.heap.size ≤ k) (xs := kL) B7 (by omega) (reps_enc (R := letT.rep _ _) (enc := Letter.cells) (fun _ => rfl) kL)).take n
 refine o_end (k3 _ _ ?_)
 refine s_ret (postR (v := .agg #[I 3, .slice (some ⟨w4.heap.size, 0, none⟩) n 3]) (res_c rfl rfl (run_loadVar_ag ag47 B2 rfl)) ?_)
 refine ⟨_, rfl, ⟨?_, ?_, maxLen_ge _ (by decide)⟩, grown_own G g6 (Nat.le_refl _)⟩
 ·exact hsl.step g6 (fun k hk e => by injection e with e; omega) |>.mono fun k hk => by omega
 ·unfold kZ; rw [List.length_take]; exact Nat.le_trans (Nat.min_le_right _ _) (by decide)
theorem f75_calls (w : World) :
  Calls Tryz.prog 75 #[] w fun e w' => ∃ A, e = .returned (.slice A 3 3) ∧ packT.Sl w' (fun k => w.heap.size ≤ k) A kP ∧ w.grownBy w' none := by
 refine s_enter (n := 5) Tryz.func75 rfl rfl rfl ?_
 have G := grown_refl w none
 refine s_rseq fun _ k1 => ?_
 refine o_v v_assign ?_
 refine o_end (k1 _ _ ?_)
 refine s_rseq fun _ k2 => ?_
 refine o_v (v_build rfl (fun W => bld164_01 W)) ?_
 refine o_v (v_build rfl (fun W => bld164_01 W)) ?_
 refine o_v (v_build rfl (fun W => bld164_01 W)) ?_
 refine o_bslice rfl (fun W => bls74_3 W) ?_; intro w1 B4 g1 z1
 replace G := G.step0 g1
 refine o_v v_assign ?_
 refine o_end (k2 _ _ ?_)
 refine s_ret (post1 rfl ?_)
 exact ⟨_, rfl, sl_blk (t := packT) (xs := kP) B4 (Nat.le_refl _) (reps_enc (R := packT.rep _ _) (enc := Pack.cells) (fun _ => rfl) kP), G⟩
theorem f76_calls (w : World) :
  Calls Tryz.prog 76 #[] w fun e w' => ∃ A, e = .returned (.slice A 2 2) ∧ sellT.Sl w' (fun k => w.heap.size ≤ k) A kS ∧ w.grownBy w' none := by
 refine s_enter (n := 8) Tryz.func76 rfl rfl rfl ?_
 have G := grown_refl w none
 refine s_rseq fun _ k1 => ?_
 refine o_v v_assign ?_
 refine o_end (k1 _ _ ?_)
 refine s_rseq fun _ k2 => ?_
 refine o_bslice rfl (fun W => bls56_2 W) ?_; intro w1 B1 g1 z1
 replace G := G.step0 g1
 refine o_bslice rfl (fun W => bls56_2 W) ?_; intro w2 B2 g2 z2
 replace G := G.step0 g2; replace B1 := B1.step0 g2
 refine o_v (v_build rfl (fun W => bld103_012 W)) ?_
 refine o_bslice rfl (fun W => bls56_2 W) ?_; intro w3 B4 g3 z3
 replace G := G.step0 g3; replace B1 := B1.step0 g3; replace B2 := B2.step0 g3
 refine o_bslice rfl (fun W => bls56_2 W) ?_; intro w4 B5 g4 z4
 replace G := G.step0 g4; replace B1 := B1.step0 g4; replace B2 := B2.step0 g4; replace B4 := B4.step0 g4
 refine o_v (v_build rfl (fun W => bld103_012 W)) ?_
 refine o_bslice rfl (fun W => bls87_2 W) ?_; intro w5 B7 g5 z5
 replace G := G.step0 g5; replace B1 := B1.step0 g5; replace B2 := B2.step0 g5; replace B4 := B4.step0 g5; replace B5 := B5.step0 g5
 refine o_v v_assign ?_
 refine o_end (k2 _ _ ?_)
 refine s_ret (post1 rfl ?_)
 have h1 := g1.size
 have h2 := g2.size
 have h3 := g3.size
 have h4 := g4.size
 have hm : ∀ n : Nat, n ≤ 1000000 → n ≤ maxLen := maxLen_ge
 refine ⟨_, rfl, sl_blk (t := sellT) (xs := kS) B7 (by omega) ⟨_, _, rfl, sellT_iff.2 ⟨some ⟨w.heap.size, 0, none⟩, 2, some ⟨w1.heap.size, 0, none⟩, 2, rfl, ?_⟩, _, _, rfl, sellT_iff.2 ⟨some ⟨w2.heap.size, 0, none⟩, 2, some ⟨w3.heap.size, 0, none⟩, 2, rfl, ?_⟩, rfl⟩, G⟩
 ·exact ⟨⟨Nat.le_refl _, hm _ (by decide), ints_blk (xs := [10, 5]) B1 (by omega)⟩, Nat.le_refl _, hm _ (by decide), ints_blk (xs := [3, 4]) B2 (by omega)⟩
 ·exact ⟨⟨Nat.le_refl _, hm _ (by decide), ints_blk (xs := [10, 2]) B4 (by omega)⟩, Nat.le_refl _, hm _ (by decide), ints_blk (xs := [4, 5]) B5 (by omega)⟩
end Go.Proofs.NV
namespace Go.Proofs.NV
open Go.RowKit Go.Shelf
attribute [local irreducible] bodyPost bodyPostM wpQuiet
theorem c39 (gA eA : Option Addr) (w : World) {S : Nat → Prop} (hI : BookIn w S kB gA 4 eA 3) : Calls Tryz.prog 39 #[.agg (kB.cells gA 4 eA 3).toArray, I 0, I 1] w fun e w' => (∃ A c, e = .returned (.tuple #[.slice A 2 c, I 0]) ∧ Ty.int.Sl w' (fun k => w.heap.size ≤ k) A [0, 2]) ∧ w.grownBy w' none :=
 (f39_calls kB gA 4 eA 3 0 1 w hI).mono fun e w' ⟨v, he, hr, hg⟩ => by
  rw [k_means] at hr
  rw [k_asks.1] at he
  obtain ⟨A, c, rfl, _, _, hS⟩ := hr.reads
  exact ⟨⟨A, c, he, hS⟩, hg⟩
theorem c69 (gA eA : Option Addr) (w : World) {S : Nat → Prop} (hI : BookIn w S kB gA 4 eA 3) : Calls Tryz.prog 69 #[.agg (kB.cells gA 4 eA 3).toArray, I 1, I 1] w fun e w' => (∃ A c, e = .returned (.tuple #[.slice A 2 c, I 0]) ∧ Ty.int.Sl w' (fun k => w.heap.size ≤ k) A [1, 2]) ∧ w.grownBy w' none :=
 (f69_calls kB gA 4 eA 3 1 1 w hI).mono fun e w' ⟨v, he, hr, hg⟩ => by
  rw [k_numbers] at hr
  rw [k_asks.2] at he
  obtain ⟨A, c, rfl, _, _, hS⟩ := hr.reads
  exact ⟨⟨A, c, he, hS⟩, hg⟩
theorem c21 (gA eA : Option Addr) (w : World) {S : Nat → Prop} (hI : BookIn w S kB gA 4 eA 3) : Calls Tryz.prog 21 #[.agg (kB.cells gA 4 eA 3).toArray] w fun e w' => e = .returned (.tuple #[I 2, I 0]) ∧ w.grownBy w' none :=
 (f21_calls kB gA 4 eA 3 w hI).mono fun e w' ⟨he, hg⟩ => by
  rw [k_ask, if_pos rfl, k_truths] at he
  exact ⟨he, hg⟩
theorem c22 (gA eA : Option Addr) (w : World) {S : Nat → Prop} (hI : BookIn w S kB gA 4 eA 3) : Calls Tryz.prog 22 #[.agg (kB.cells gA 4 eA 3).toArray] w fun e w' => e = .returned (.tuple #[I 0, I 1, I 1, I 0]) ∧ w.grownBy w' none :=
 (f22_calls kB gA 4 eA 3 w hI).mono fun e w' ⟨he, hg⟩ => by
  rw [k_askQ] at he
  exact ⟨he, hg⟩
theorem c35 (gA eA : Option Addr) (w : World) {S : Nat → Prop} (hI : BookIn w S kB gA 4 eA 3){T : Nat → Prop} (lA : Option Addr) (hX : BuyIn w T (kZ 2) lA 3) : Calls Tryz.prog 35 #[.agg (kB.cells gA 4 eA 3).toArray, .agg #[I 3, .slice lA 2 3]] w fun e w' => (∃ A c, e = .returned (.tuple #[.slice A 2 c, I 0]) ∧ Ty.int.sl.Sl w' (fun k => w.heap.size ≤ k) A [[2], [0]]) ∧ w.grownBy w' none :=
 (f35_calls kB gA 4 eA 3 (kZ 2) lA 3 w hI hX).mono fun e w' ⟨v, he, hr, hg⟩ => by
  rw [k_reads] at hr
  rw [k_let.2] at he
  obtain ⟨A, c, rfl, _, _, hS⟩ := hr.reads
  exact ⟨⟨A, c, he, hS⟩, hg⟩
theorem c36 (gA eA : Option Addr) (w : World) {S : Nat → Prop} (hI : BookIn w S kB gA 4 eA 3){T : Nat → Prop} (lA : Option Addr) (hX : BuyIn w T (kZ 1) lA 3) : Calls Tryz.prog 36 #[.agg (kB.cells gA 4 eA 3).toArray, .agg #[I 3, .slice lA 1 3]] w fun e w' => (∃ A c, e = .returned (.tuple #[.slice A 2 c, I 0]) ∧ Ty.int.Sl w' (fun k => w.heap.size ≤ k) A [0, 1]) ∧ w.grownBy w' none :=
 (f36_calls kB gA 4 eA 3 (kZ 1) lA 3 w hI hX).mono fun e w' ⟨v, he, hr, hg⟩ => by
  rw [k_which] at hr
  rw [k_let.1] at he
  obtain ⟨A, c, rfl, _, _, hS⟩ := hr.reads
  exact ⟨⟨A, c, he, hS⟩, hg⟩
theorem c42 (gA eA : Option Addr) (w : World) {S : Nat → Prop} (hI : BookIn w S kB gA 4 eA 3){T : Nat → Prop} (lA : Option Addr) (hX : BuyIn w T (kZ 3) lA 3) : Calls Tryz.prog 42 #[.agg (kB.cells gA 4 eA 3).toArray, .agg #[I 3, .slice lA 3 3]] w fun e w' => (∃ A c, e = .returned (.tuple #[.slice A 1 c, I 0]) ∧ Ty.int.Sl w' (fun k => w.heap.size ≤ k) A [2]) ∧ w.grownBy w' none :=
 (f42_calls kB gA 4 eA 3 (kZ 3) lA 3 w hI hX).mono fun e w' ⟨v, he, hr, hg⟩ => by
  rw [k_odd] at hr
  rw [k_buy.2.2] at he
  obtain ⟨A, c, hv, _, _, hS⟩ := hr
  obtain rfl : v = .slice A 1 c := by injection hv
  exact ⟨⟨A, c, he, hS⟩, hg⟩
theorem c37 (gA eA : Option Addr) (w : World) {S : Nat → Prop} (hI : BookIn w S kB gA 4 eA 3){T : Nat → Prop} (lA : Option Addr) (hX : BuyIn w T (kZ 1) lA 3) : Calls Tryz.prog 37 #[.agg (kB.cells gA 4 eA 3).toArray, .agg #[I 3, .slice lA 1 3]] w fun e w' => (∃ A c, e = .returned (.tuple #[.slice A 4 c, I 0]) ∧ spanT.Sl w' (fun k => w.heap.size ≤ k) A [⟨0, 0⟩, ⟨0, 5⟩, ⟨0, 5⟩, ⟨0, 0⟩]) ∧ w.grownBy w' none :=
 (f37_calls kB gA 4 eA 3 (kZ 1) lA 3 w hI hX).mono fun e w' ⟨v, he, hr, hg⟩ => by
  rw [k_wants] at hr
  rw [k_let.1] at he
  obtain ⟨A, c, rfl, _, _, hS⟩ := hr.reads
  exact ⟨⟨A, c, he, hS⟩, hg⟩
theorem k_packQ : packsQ kP 155 = ⟨[1, 1, 0], 110⟩ := by unfold packsQ; rw [if_pos k_pk, k_pack]
theorem c45 (A : Option Addr) (w : World) {S : Nat → Prop} (hl : packT.Sl w S A kP) : Calls Tryz.prog 45 #[.slice A 3 3, I 155] w fun e w' => (∃ A c, e = .returned (.tuple #[.slice A 3 c, I 110, I 0]) ∧ Ty.int.Sl w' (fun k => w.heap.size ≤ k) A [1, 1, 0]) ∧ w.grownBy w' none :=
 (f45_calls A 3 kP 155 w hl ⟨Nat.le_refl _, maxLen_ge _ (by decide)⟩).mono fun e w' ⟨v, he, hr, hg⟩ => by
  rw [k_packQ] at hr
  rw [k_packQ, k_pk] at he
  obtain ⟨A, c, rfl, _, _, hS⟩ := hr.reads
  exact ⟨⟨A, c, he, hS⟩, hg⟩
theorem c53 (A B : Option Addr) (w : World) {S T : Nat → Prop} (hl : sellT.Sl w S A kS) (hw : Ty.int.Sl w T B [10, 5]) : Calls Tryz.prog 53 #[.slice A 2 2, .slice B 2 2] w fun e w' => (∃ A c, e = .returned (.tuple #[.slice A 2 c, I 70, I 0]) ∧ Ty.int.sl.Sl w' (fun k => w.heap.size ≤ k) A [[10, 5], [0, 0]]) ∧ w.grownBy w' none :=
 (f53_calls A 2 kS B 2 [10, 5] w hl ⟨Nat.le_refl _, maxLen_ge _ (by decide)⟩ hw ⟨Nat.le_refl _, maxLen_ge _ (by decide)⟩ (fun h set plan hs hp => no_panic h set plan hs hp)).mono fun e w' ⟨hr, hg⟩ => by
  rcases hr with ⟨h, _⟩ | ⟨_, h, _⟩ | ⟨b, v, _, hb, he, hS⟩
  ·rw [k_sell] at h; cases h
  ·rw [show (2 ^ kS.length : Nat) = 4 from rfl, k_buyQ] at h; cases h
  ·rw [show (2 ^ kS.length : Nat) = 4 from rfl, k_buyQ] at hb
   injection hb with hb
   subst hb
   obtain ⟨A, c, hv, _, _, hS⟩ := hS
   obtain rfl : v = .slice A 2 c := by injection hv
   exact ⟨⟨A, c, he, hS⟩, hg⟩
theorem c61 (w : World) : Calls Tryz.prog 61 #[.string (bs kText)] w fun e w' => (∃ gA gc eA ec, e = .returned (.tuple #[.agg (kY.cells gA gc eA ec).toArray, I 0]) ∧ BookIn w' (fun k => w.heap.size ≤ k) kY gA gc eA ec) ∧ w.grownBy w' none :=
 (f61_calls kText w (by decide)).mono fun e w' ⟨hr, hg⟩ => by
  obtain ⟨gA, gc, eA, ec, he, hI⟩ := hr
  rw [k_readB, k_readE] at he
  rw [k_readB] at hI
  exact ⟨⟨gA, gc, eA, ec, he, hI⟩, hg⟩
attribute [local irreducible] textL
theorem f20_calls (w : World) :
  Calls Tryz.prog 20 #[] w fun e w' => e = .returned (.bool true) ∧ w.grownBy w' none := by
 refine s_enter (n := 210) Tryz.func20 rfl rfl rfl ?_
 have G := grown_refl w none
 refine s_rseq fun _ k0 => ?_
 refine o_v v_assign ?_
 refine o_end (k0 _ _ ?_)
 refine s_rseq fun _ k1 => ?_
 refine o_call rfl rfl ent73 (f73_calls w) ?_; rintro _ w1 ⟨gA, eA, rfl, hI, g1⟩; refine ⟨_, rfl, ?_⟩
 replace G := G.step0 g1
 refine o_call rfl rfl ent39 (c39 gA eA w1 hI) ?_; rintro _ w2 ⟨⟨A1, c1, rfl, h1⟩, g2⟩; refine ⟨_, rfl, ?_⟩
 replace G := G.step0 g2; replace hI := hI.step0 g2
 refine o_v v_move ?_
 refine o_v (v_extract rfl rfl) ?_
 refine o_v (v_extract rfl rfl) ?_
 refine o_v v_assign ?_
 refine o_v v_assign ?_
 refine o_end (k1 _ _ ?_)
 refine s_rseq fun _ k2 => ?_
 refine o_call rfl rfl ent73 (f73_calls w2) ?_; rintro _ w3 ⟨gA, eA, rfl, hI, g3⟩; refine ⟨_, rfl, ?_⟩
 replace G := G.step0 g3; replace h1 := h1.step0 g3
 refine o_call rfl rfl ent69 (c69 gA eA w3 hI) ?_; rintro _ w4 ⟨⟨A2, c2, rfl, h2⟩, g4⟩; refine ⟨_, rfl, ?_⟩
 replace G := G.step0 g4; replace h1 := h1.step0 g4; replace hI := hI.step0 g4
 refine o_v v_move ?_
 refine o_v (v_extract rfl rfl) ?_
 refine o_v (v_extract rfl rfl) ?_
 refine o_v v_assign ?_
 refine o_v v_assign ?_
 refine o_end (k2 _ _ ?_)
 refine s_rseq fun _ k3 => ?_
 refine o_call rfl rfl ent73 (f73_calls w4) ?_; rintro _ w5 ⟨gA, eA, rfl, hI, g5⟩; refine ⟨_, rfl, ?_⟩
 replace G := G.step0 g5; replace h1 := h1.step0 g5; replace h2 := h2.step0 g5
 refine o_call rfl rfl ent21 (c21 gA eA w5 hI) ?_; rintro _ w6 ⟨rfl, g6⟩; refine ⟨_, rfl, ?_⟩
 replace G := G.step0 g6; replace h1 := h1.step0 g6; replace h2 := h2.step0 g6; replace hI := hI.step0 g6
 refine o_v v_move ?_
 refine o_v (v_extract rfl rfl) ?_
 refine o_v (v_extract rfl rfl) ?_
 refine o_v v_assign ?_
 refine o_v v_assign ?_
 refine o_end (k3 _ _ ?_)
 refine s_rseq fun _ k4 => ?_
 refine o_call rfl rfl ent73 (f73_calls w6) ?_; rintro _ w7 ⟨gA, eA, rfl, hI, g7⟩; refine ⟨_, rfl, ?_⟩
 replace G := G.step0 g7; replace h1 := h1.step0 g7; replace h2 := h2.step0 g7
 refine o_call rfl rfl ent22 (c22 gA eA w7 hI) ?_; rintro _ w8 ⟨rfl, g8⟩; refine ⟨_, rfl, ?_⟩
 replace G := G.step0 g8; replace h1 := h1.step0 g8; replace h2 := h2.step0 g8; replace hI := hI.step0 g8
 refine o_v v_move ?_
 refine o_v (v_extract rfl rfl) ?_
 refine o_v (v_extract rfl rfl) ?_
 refine o_v (v_extract rfl rfl) ?_
 refine o_v (v_extract rfl rfl) ?_
 refine o_v v_assign ?_
 refine o_v v_assign ?_
 refine o_v v_assign ?_
 refine o_v v_assign ?_
 refine o_end (k4 _ _ ?_)
 refine s_rseq fun _ k5 => ?_
 refine o_call rfl rfl ent73 (f73_calls w8) ?_; rintro _ w9 ⟨gA, eA, rfl, hI, g9⟩; refine ⟨_, rfl, ?_⟩
 replace G := G.step0 g9; replace h1 := h1.step0 g9; replace h2 := h2.step0 g9
 refine o_call rfl rfl ent74 (f74_calls 2 (by decide) w9) ?_; rintro _ w10 ⟨lA, rfl, hX, g10⟩; refine ⟨_, rfl, ?_⟩
 replace G := G.step0 g10; replace h1 := h1.step0 g10; replace h2 := h2.step0 g10; replace hI := hI.step0 g10
 refine o_call rfl rfl ent35 (c35 gA eA w10 hI lA hX) ?_; rintro _ w11 ⟨⟨A3, c3, rfl, h3⟩, g11⟩; refine ⟨_, rfl, ?_⟩
 replace G := G.step0 g11; replace h1 := h1.step0 g11; replace h2 := h2.step0 g11; replace hI := hI.step0 g11; replace hX := hX.step0 g11
 refine o_v v_move ?_
 refine o_v (v_extract rfl rfl) ?_
 refine o_v (v_extract rfl rfl) ?_
 refine o_v v_assign ?_
 refine o_v v_assign ?_
 refine o_end (k5 _ _ ?_)
 refine s_rseq fun _ k6 => ?_
 refine o_call rfl rfl ent73 (f73_calls w11) ?_; rintro _ w12 ⟨gA, eA, rfl, hI, g12⟩; refine ⟨_, rfl, ?_⟩
 replace G := G.step0 g12; replace h1 := h1.step0 g12; replace h2 := h2.step0 g12; replace h3 := h3.step0 g12
 refine o_call rfl rfl ent74 (f74_calls 1 (by decide) w12) ?_; rintro _ w13 ⟨lA, rfl, hX, g13⟩; refine ⟨_, rfl, ?_⟩
 replace G := G.step0 g13; replace h1 := h1.step0 g13; replace h2 := h2.step0 g13; replace h3 := h3.step0 g13; replace hI := hI.step0 g13
 refine o_call rfl rfl ent36 (c36 gA eA w13 hI lA hX) ?_; rintro _ w14 ⟨⟨A4, c4, rfl, h4⟩, g14⟩; refine ⟨_, rfl, ?_⟩
 replace G := G.step0 g14; replace h1 := h1.step0 g14; replace h2 := h2.step0 g14; replace h3 := h3.step0 g14; replace hI := hI.step0 g14; replace hX := hX.step0 g14
 refine o_v v_move ?_
 refine o_v (v_extract rfl rfl) ?_
 refine o_v (v_extract rfl rfl) ?_
 refine o_v v_assign ?_
 refine o_v v_assign ?_
 refine o_end (k6 _ _ ?_)
 refine s_rseq fun _ k7 => ?_
 refine o_call rfl rfl ent73 (f73_calls w14) ?_; rintro _ w15 ⟨gA, eA, rfl, hI, g15⟩; refine ⟨_, rfl, ?_⟩
 replace G := G.step0 g15; replace h1 := h1.step0 g15; replace h2 := h2.step0 g15; replace h3 := h3.step0 g15; replace h4 := h4.step0 g15
 refine o_call rfl rfl ent74 (f74_calls 3 (by decide) w15) ?_; rintro _ w16 ⟨lA, rfl, hX, g16⟩; refine ⟨_, rfl, ?_⟩
 replace G := G.step0 g16; replace h1 := h1.step0 g16; replace h2 := h2.step0 g16; replace h3 := h3.step0 g16; replace h4 := h4.step0 g16; replace hI := hI.step0 g16
 refine o_call rfl rfl ent42 (c42 gA eA w16 hI lA hX) ?_; rintro _ w17 ⟨⟨A5, c5, rfl, h5⟩, g17⟩; refine ⟨_, rfl, ?_⟩
 replace G := G.step0 g17; replace h1 := h1.step0 g17; replace h2 := h2.step0 g17; replace h3 := h3.step0 g17; replace h4 := h4.step0 g17; replace hI := hI.step0 g17; replace hX := hX.step0 g17
 refine o_v v_move ?_
 refine o_v (v_extract rfl rfl) ?_
 refine o_v (v_extract rfl rfl) ?_
 refine o_v v_assign ?_
 refine o_v v_assign ?_
 refine o_end (k7 _ _ ?_)
 refine s_rseq fun _ k8 => ?_
 refine o_call rfl rfl ent73 (f73_calls w17) ?_; rintro _ w18 ⟨gA, eA, rfl, hI, g18⟩; refine ⟨_, rfl, ?_⟩
 replace G := G.step0 g18; replace h1 := h1.step0 g18; replace h2 := h2.step0 g18; replace h3 := h3.step0 g18; replace h4 := h4.step0 g18; replace h5 := h5.step0 g18
 refine o_call rfl rfl ent74 (f74_calls 1 (by decide) w18) ?_; rintro _ w19 ⟨lA, rfl, hX, g19⟩; refine ⟨_, rfl, ?_⟩
 replace G := G.step0 g19; replace h1 := h1.step0 g19; replace h2 := h2.step0 g19; replace h3 := h3.step0 g19; replace h4 := h4.step0 g19; replace h5 := h5.step0 g19; replace hI := hI.step0 g19
 refine o_call rfl rfl ent37 (c37 gA eA w19 hI lA hX) ?_; rintro _ w20 ⟨⟨A6, c6, rfl, h6⟩, g20⟩; refine ⟨_, rfl, ?_⟩
 replace G := G.step0 g20; replace h1 := h1.step0 g20; replace h2 := h2.step0 g20; replace h3 := h3.step0 g20; replace h4 := h4.step0 g20; replace h5 := h5.step0 g20; replace hI := hI.step0 g20; replace hX := hX.step0 g20
 refine o_v v_move ?_
 refine o_v (v_extract rfl rfl) ?_
 refine o_v (v_extract rfl rfl) ?_
 refine o_v v_assign ?_
 refine o_v v_assign ?_
 refine o_end (k8 _ _ ?_)
 refine s_rseq fun _ k9 => ?_
 refine o_call rfl rfl ent75 (f75_calls w20) ?_; rintro _ w21 ⟨pA, rfl, hp, g21⟩; refine ⟨_, rfl, ?_⟩
 replace G := G.step0 g21; replace h1 := h1.step0 g21; replace h2 := h2.step0 g21; replace h3 := h3.step0 g21; replace h4 := h4.step0 g21; replace h5 := h5.step0 g21; replace h6 := h6.step0 g21
 refine o_call rfl rfl ent45 (c45 pA w21 hp) ?_; rintro _ w22 ⟨⟨A7, c7, rfl, h7⟩, g22⟩; refine ⟨_, rfl, ?_⟩
 replace G := G.step0 g22; replace h1 := h1.step0 g22; replace h2 := h2.step0 g22; replace h3 := h3.step0 g22; replace h4 := h4.step0 g22; replace h5 := h5.step0 g22; replace h6 := h6.step0 g22; replace hp := hp.step0 g22
 refine o_v v_move ?_
 refine o_v (v_extract rfl rfl) ?_
 refine o_v (v_extract rfl rfl) ?_
 refine o_v (v_extract rfl rfl) ?_
 refine o_v v_assign ?_
 refine o_v v_assign ?_
 refine o_v v_assign ?_
 refine o_end (k9 _ _ ?_)
 refine s_rseq fun _ k10 => ?_
 refine o_call rfl rfl ent76 (f76_calls w22) ?_; rintro _ w23 ⟨sA, rfl, hs, g23⟩; refine ⟨_, rfl, ?_⟩
 replace G := G.step0 g23; replace h1 := h1.step0 g23; replace h2 := h2.step0 g23; replace h3 := h3.step0 g23; replace h4 := h4.step0 g23; replace h5 := h5.step0 g23; replace h6 := h6.step0 g23; replace h7 := h7.step0 g23
 refine o_bslice rfl (fun W => bls56_2 W) ?_; intro w24 Bw g24 z24
 replace G := G.step0 g24; replace h1 := h1.step0 g24; replace h2 := h2.step0 g24; replace h3 := h3.step0 g24; replace h4 := h4.step0 g24; replace h5 := h5.step0 g24; replace h6 := h6.step0 g24; replace h7 := h7.step0 g24; replace hs := hs.step0 g24
 have hw := ints_blk (S := fun _ => True) (xs := [10, 5]) Bw trivial
 refine o_call rfl rfl ent53 (c53 sA _ w24 hs hw) ?_; rintro _ w25 ⟨⟨A8, c8, rfl, h8⟩, g25⟩; refine ⟨_, rfl, ?_⟩
 replace G := G.step0 g25; replace h1 := h1.step0 g25; replace h2 := h2.step0 g25; replace h3 := h3.step0 g25; replace h4 := h4.step0 g25; replace h5 := h5.step0 g25; replace h6 := h6.step0 g25; replace h7 := h7.step0 g25; replace hs := hs.step0 g25; replace hw := hw.step0 g25
 refine o_v v_move ?_
 refine o_v (v_extract rfl rfl) ?_
 refine o_v (v_extract rfl rfl) ?_
 refine o_v (v_extract rfl rfl) ?_
 refine o_v v_assign ?_
 refine o_v v_assign ?_
 refine o_v v_assign ?_
 refine o_end (k10 _ _ ?_)
 refine s_rseq fun _ k11 => ?_
 refine o_call rfl rfl ent61 (c61 w25) ?_; rintro _ w26 ⟨⟨yA, yc, zA, zc, rfl, hY⟩, g26⟩; refine ⟨_, rfl, ?_⟩
 replace G := G.step0 g26; replace h1 := h1.step0 g26; replace h2 := h2.step0 g26; replace h3 := h3.step0 g26; replace h4 := h4.step0 g26; replace h5 := h5.step0 g26; replace h6 := h6.step0 g26; replace h7 := h7.step0 g26; replace h8 := h8.step0 g26
 refine o_v v_move ?_
 refine o_v (v_extract rfl rfl) ?_
 refine o_v (v_extract rfl rfl) ?_
 refine o_allocst (vs := kY.cells yA yc zA zc) ze25 rfl rfl rfl sz25 rfl rfl rfl ?_; intro w27 B25 g27 z27
 replace G := G.step0 g27; replace h1 := h1.step0 g27; replace h2 := h2.step0 g27; replace h3 := h3.step0 g27; replace h4 := h4.step0 g27; replace h5 := h5.step0 g27; replace h6 := h6.step0 g27; replace h7 := h7.step0 g27; replace h8 := h8.step0 g27; replace hY := hY.step0 g27
 refine o_v v_assign ?_
 refine o_end (k11 _ _ ?_)
 refine s_seq fun _ k12 => ?_
 refine s_rseq fun _ k13 => ?_
 refine o_v v_move ?_
 refine o_v (v_neq rfl rfl) ?_
 refine o_v v_move ?_
 refine g_yes rfl rfl rfl (by decide) ?_
 refine o_v v_move ?_
 refine g_yes rfl rfl rfl (by decide) ?_
 refine o_v (v_neq rfl rfl) ?_
 refine o_v (v_pick_f rfl (by decide)) ?_
 refine o_v v_move ?_
 refine g_yes rfl rfl rfl (by decide) ?_
 refine o_v v_move ?_
 refine g_yes rfl rfl rfl (by decide) ?_
 refine o_v (v_neq rfl rfl) ?_
 refine o_v (v_pick_f rfl (by decide)) ?_
 refine o_v v_move ?_
 refine g_yes rfl rfl rfl (by decide) ?_
 refine o_v v_move ?_
 refine g_yes rfl rfl rfl (by decide) ?_
 refine o_v (v_neq rfl rfl) ?_
 refine o_v (v_pick_f rfl (by decide)) ?_
 refine o_v v_move ?_
 refine g_yes rfl rfl rfl (by decide) ?_
 refine o_v v_move ?_
 refine g_yes rfl rfl rfl (by decide) ?_
 refine o_v (v_neq rfl rfl) ?_
 refine o_v (v_pick_f rfl (by decide)) ?_
 refine o_v v_move ?_
 refine g_yes rfl rfl rfl (by decide) ?_
 refine o_v v_move ?_
 refine g_yes rfl rfl rfl (by decide) ?_
 refine o_v (v_neq rfl rfl) ?_
 refine o_v (v_pick_f rfl (by decide)) ?_
 refine o_v v_move ?_
 refine g_yes rfl rfl rfl (by decide) ?_
 refine o_v v_move ?_
 refine g_yes rfl rfl rfl (by decide) ?_
 refine o_v (v_neq rfl rfl) ?_
 refine o_v (v_pick_f rfl (by decide)) ?_
 refine o_v v_move ?_
 refine g_yes rfl rfl rfl (by decide) ?_
 refine o_v v_move ?_
 refine g_yes rfl rfl rfl (by decide) ?_
 refine o_v (v_neq rfl rfl) ?_
 refine o_v (v_pick_f rfl (by decide)) ?_
 refine o_v v_move ?_
 refine g_yes rfl rfl rfl (by decide) ?_
 refine o_v v_move ?_
 refine g_yes rfl rfl rfl (by decide) ?_
 refine o_v (v_neq rfl rfl) ?_
 refine o_v (v_pick_f rfl (by decide)) ?_
 refine o_v v_move ?_
 refine g_yes rfl rfl rfl (by decide) ?_
 refine o_v v_move ?_
 refine g_yes rfl rfl rfl (by decide) ?_
 refine o_v (v_neq rfl rfl) ?_
 refine o_v (v_pick_f rfl (by decide)) ?_
 refine o_v v_move ?_
 refine g_yes rfl rfl rfl (by decide) ?_
 refine o_v v_move ?_
 refine g_yes rfl rfl rfl (by decide) ?_
 refine o_v (v_neq rfl rfl) ?_
 refine o_v (v_pick_f rfl (by decide)) ?_
 refine o_end (k13 _ _ ?_)
 refine s_if rfl (fun h => absurd h (by decide)) (fun _ => ?_)
 refine s_skip ?_
 refine k12 _ _ ?_
 refine s_seq fun _ k14 => ?_
 refine s_rseq fun _ k15 => ?_
 refine o_v v_move ?_
 refine o_bslice rfl (fun W => bls56_2 W) ?_; intro w28 Ba g28 z28
 replace G := G.step0 g28; replace h1 := h1.step0 g28; replace h2 := h2.step0 g28; replace h3 := h3.step0 g28; replace h4 := h4.step0 g28; replace h5 := h5.step0 g28; replace h6 := h6.step0 g28; replace h7 := h7.step0 g28; replace h8 := h8.step0 g28; replace hY := hY.step0 g28; replace B25 := B25.step0 g28
 have ha := ints_blk (S := fun _ => True) (xs := [0, 2]) Ba trivial
 refine o_call rfl rfl ent49 (f49_calls A1 _ _ _ [0, 2] [0, 2] w28 h1 ha (maxLen_ge _ (by decide))) ?_; rintro _ w29 ⟨rfl, g29⟩; refine ⟨_, rfl, ?_⟩
 replace G := G.step0 g29; replace h1 := h1.step0 g29; replace h2 := h2.step0 g29; replace h3 := h3.step0 g29; replace h4 := h4.step0 g29; replace h5 := h5.step0 g29; replace h6 := h6.step0 g29; replace h7 := h7.step0 g29; replace h8 := h8.step0 g29; replace hY := hY.step0 g29; replace B25 := B25.step0 g29; replace ha := ha.step0 g29
 refine o_v (v_not rfl) ?_
 refine o_v v_move ?_
 refine g_yes rfl rfl rfl (by decide) ?_
 refine o_v v_move ?_
 refine g_yes rfl rfl rfl (by decide) ?_
 refine o_bslice rfl (fun W => bls56_2 W) ?_; intro w30 Bb g30 z30
 replace G := G.step0 g30; replace h2 := h2.step0 g30; replace h3 := h3.step0 g30; replace h4 := h4.step0 g30; replace h5 := h5.step0 g30; replace h6 := h6.step0 g30; replace h7 := h7.step0 g30; replace h8 := h8.step0 g30; replace hY := hY.step0 g30; replace B25 := B25.step0 g30
 have hb := ints_blk (S := fun _ => True) (xs := [1, 2]) Bb trivial
 refine g_yes rfl rfl rfl (by decide) ?_
 refine o_call rfl rfl ent49 (f49_calls A2 _ _ _ [1, 2] [1, 2] w30 h2 hb (maxLen_ge _ (by decide))) ?_; rintro _ w31 ⟨rfl, g31⟩; refine ⟨_, rfl, ?_⟩
 replace G := G.step0 g31; replace h2 := h2.step0 g31; replace h3 := h3.step0 g31; replace h4 := h4.step0 g31; replace h5 := h5.step0 g31; replace h6 := h6.step0 g31; replace h7 := h7.step0 g31; replace h8 := h8.step0 g31; replace hY := hY.step0 g31; replace B25 := B25.step0 g31; replace hb := hb.step0 g31
 refine g_yes rfl rfl rfl (by decide) ?_
 refine o_v (v_not rfl) ?_
 refine o_v (v_pick_f rfl (by decide)) ?_
 refine o_v v_move ?_
 refine g_yes rfl rfl rfl (by decide) ?_
 refine o_v v_move ?_
 refine g_yes rfl rfl rfl (by decide) ?_
 refine o_v (v_neq rfl rfl) ?_
 refine o_v (v_pick_f rfl (by decide)) ?_
 refine o_v v_move ?_
 refine g_yes rfl rfl rfl (by decide) ?_
 refine o_v v_move ?_
 refine g_yes rfl rfl rfl (by decide) ?_
 refine o_v (v_neq rfl rfl) ?_
 refine o_v (v_pick_f rfl (by decide)) ?_
 refine o_v v_move ?_
 refine g_yes rfl rfl rfl (by decide) ?_
 refine o_v v_move ?_
 refine g_yes rfl rfl rfl (by decide) ?_
 refine o_v (v_neq rfl rfl) ?_
 refine o_v (v_pick_f rfl (by decide)) ?_
 refine o_v v_move ?_
 refine g_yes rfl rfl rfl (by decide) ?_
 refine o_v v_move ?_
 refine g_yes rfl rfl rfl (by decide) ?_
 refine o_v (v_neq rfl rfl) ?_
 refine o_v (v_pick_f rfl (by decide)) ?_
 refine o_v v_move ?_
 refine g_yes rfl rfl rfl (by decide) ?_
 refine o_v v_move ?_
 refine g_yes rfl rfl rfl (by decide) ?_
 refine o_bslice rfl (fun W => bls56_1 W) ?_; intro w32 Bc g32 z32
 replace G := G.step0 g32; replace h3 := h3.step0 g32; replace h4 := h4.step0 g32; replace h5 := h5.step0 g32; replace h6 := h6.step0 g32; replace h7 := h7.step0 g32; replace h8 := h8.step0 g32; replace hY := hY.step0 g32; replace B25 := B25.step0 g32
 have hc := ints_blk (S := fun _ => True) (xs := [2]) Bc trivial
 refine g_yes rfl rfl rfl (by decide) ?_
 refine o_bslice rfl (fun W => bls56_1 W) ?_; intro w33 Bd g33 z33
 replace G := G.step0 g33; replace h3 := h3.step0 g33; replace h4 := h4.step0 g33; replace h5 := h5.step0 g33; replace h6 := h6.step0 g33; replace h7 := h7.step0 g33; replace h8 := h8.step0 g33; replace hY := hY.step0 g33; replace B25 := B25.step0 g33; replace hc := hc.step0 g33
 have hd := ints_blk (S := fun _ => True) (xs := [0]) Bd trivial
 refine g_yes rfl rfl rfl (by decide) ?_
 refine o_bslice rfl (fun W => bls33_2 W) ?_; intro w34 Bq g34 z34
 replace G := G.step0 g34; replace h3 := h3.step0 g34; replace h4 := h4.step0 g34; replace h5 := h5.step0 g34; replace h6 := h6.step0 g34; replace h7 := h7.step0 g34; replace h8 := h8.step0 g34; replace hY := hY.step0 g34; replace B25 := B25.step0 g34; replace hc := hc.step0 g34; replace hd := hd.step0 g34
 have he : Ty.int.sl.Sl w34 (fun _ => True) _ [[2], [0]] := sl_blk Bq trivial ⟨_, _, rfl, ⟨_, 1, rfl, Nat.le_refl _, maxLen_ge _ (by decide), hc⟩, _, _, rfl, ⟨_, 1, rfl, Nat.le_refl _, maxLen_ge _ (by decide), hd⟩, rfl⟩
 refine g_yes rfl rfl rfl (by decide) ?_
 refine o_call rfl rfl ent57 (f57_calls A3 _ _ _ [[2], [0]] [[2], [0]] w34 h3 he (maxLen_ge _ (by decide))) ?_; rintro _ w35 ⟨rfl, g35⟩; refine ⟨_, rfl, ?_⟩
 replace G := G.step0 g35; replace h3 := h3.step0 g35; replace h4 := h4.step0 g35; replace h5 := h5.step0 g35; replace h6 := h6.step0 g35; replace h7 := h7.step0 g35; replace h8 := h8.step0 g35; replace hY := hY.step0 g35; replace B25 := B25.step0 g35; replace he := he.step0 g35
 refine g_yes rfl rfl rfl (by decide) ?_
 refine o_v (v_not rfl) ?_
 refine o_v (v_pick_f rfl (by decide)) ?_
 refine o_v v_move ?_
 refine g_yes rfl rfl rfl (by decide) ?_
 refine o_v v_move ?_
 refine g_yes rfl rfl rfl (by decide) ?_
 refine o_bslice rfl (fun W => bls56_2 W) ?_; intro w36 Be g36 z36
 replace G := G.step0 g36; replace h4 := h4.step0 g36; replace h5 := h5.step0 g36; replace h6 := h6.step0 g36; replace h7 := h7.step0 g36; replace h8 := h8.step0 g36; replace hY := hY.step0 g36; replace B25 := B25.step0 g36
 have hb := ints_blk (S := fun _ => True) (xs := [0, 1]) Be trivial
 refine g_yes rfl rfl rfl (by decide) ?_
 refine o_call rfl rfl ent49 (f49_calls A4 _ _ _ [0, 1] [0, 1] w36 h4 hb (maxLen_ge _ (by decide))) ?_; rintro _ w37 ⟨rfl, g37⟩; refine ⟨_, rfl, ?_⟩
 replace G := G.step0 g37; replace h4 := h4.step0 g37; replace h5 := h5.step0 g37; replace h6 := h6.step0 g37; replace h7 := h7.step0 g37; replace h8 := h8.step0 g37; replace hY := hY.step0 g37; replace B25 := B25.step0 g37; replace hb := hb.step0 g37
 refine g_yes rfl rfl rfl (by decide) ?_
 refine o_v (v_not rfl) ?_
 refine o_v (v_pick_f rfl (by decide)) ?_
 refine o_v v_move ?_
 refine g_yes rfl rfl rfl (by decide) ?_
 refine o_v v_move ?_
 refine g_yes rfl rfl rfl (by decide) ?_
 refine o_bslice rfl (fun W => bls56_1 W) ?_; intro w38 Bf g38 z38
 replace G := G.step0 g38; replace h5 := h5.step0 g38; replace h6 := h6.step0 g38; replace h7 := h7.step0 g38; replace h8 := h8.step0 g38; replace hY := hY.step0 g38; replace B25 := B25.step0 g38
 have hb := ints_blk (S := fun _ => True) (xs := [2]) Bf trivial
 refine g_yes rfl rfl rfl (by decide) ?_
 refine o_call rfl rfl ent49 (f49_calls A5 _ _ _ [2] [2] w38 h5 hb (maxLen_ge _ (by decide))) ?_; rintro _ w39 ⟨rfl, g39⟩; refine ⟨_, rfl, ?_⟩
 replace G := G.step0 g39; replace h5 := h5.step0 g39; replace h6 := h6.step0 g39; replace h7 := h7.step0 g39; replace h8 := h8.step0 g39; replace hY := hY.step0 g39; replace B25 := B25.step0 g39; replace hb := hb.step0 g39
 refine g_yes rfl rfl rfl (by decide) ?_
 refine o_v (v_not rfl) ?_
 refine o_v (v_pick_f rfl (by decide)) ?_
 refine o_end (k15 _ _ ?_)
 refine s_if rfl (fun h => absurd h (by decide)) (fun _ => ?_)
 refine s_skip ?_
 refine k14 _ _ ?_
 refine s_rseq fun _ k16 => ?_
 refine o_v v_move ?_
 refine o_v (v_build rfl (fun W => bld65_ W)) ?_
 refine o_v (v_build rfl (fun W => bld65_1 W)) ?_
 refine o_v (v_build rfl (fun W => bld65_1 W)) ?_
 refine o_v (v_build rfl (fun W => bld65_ W)) ?_
 refine o_bslice rfl (fun W => bls59_4 W) ?_; intro w40 Bs g40 z40
 replace G := G.step0 g40; replace h6 := h6.step0 g40; replace h7 := h7.step0 g40; replace h8 := h8.step0 g40; replace hY := hY.step0 g40; replace B25 := B25.step0 g40
 have hsp : spanT.Sl w40 (fun _ => True) _ [⟨0, 0⟩, ⟨0, 5⟩, ⟨0, 5⟩, ⟨0, 0⟩] := sl_blk Bs trivial (reps_enc (R := spanT.rep _ _) (enc := Span.cells) (fun _ => rfl) [⟨0, 0⟩, ⟨0, 5⟩, ⟨0, 5⟩, ⟨0, 0⟩])
 refine o_call rfl rfl ent77 (f77_calls A6 _ _ _ [⟨0, 0⟩, ⟨0, 5⟩, ⟨0, 5⟩, ⟨0, 0⟩] [⟨0, 0⟩, ⟨0, 5⟩, ⟨0, 5⟩, ⟨0, 0⟩] w40 h6 hsp (maxLen_ge _ (by decide))) ?_; rintro _ w41 ⟨rfl, g41⟩; refine ⟨_, rfl, ?_⟩
 replace G := G.step0 g41; replace h6 := h6.step0 g41; replace h7 := h7.step0 g41; replace h8 := h8.step0 g41; replace hY := hY.step0 g41; replace B25 := B25.step0 g41; replace hsp := hsp.step0 g41
 refine o_v v_move ?_
 refine g_yes rfl rfl rfl (by decide) ?_
 refine o_v v_move ?_
 refine g_yes rfl rfl rfl (by decide) ?_
 refine o_bslice rfl (fun W => bls56_3 W) ?_; intro w42 Bg g42 z42
 replace G := G.step0 g42; replace h7 := h7.step0 g42; replace h8 := h8.step0 g42; replace hY := hY.step0 g42; replace B25 := B25.step0 g42
 have hb := ints_blk (S := fun _ => True) (xs := [1, 1, 0]) Bg trivial
 refine g_yes rfl rfl rfl (by decide) ?_
 refine o_call rfl rfl ent49 (f49_calls A7 _ _ _ [1, 1, 0] [1, 1, 0] w42 h7 hb (maxLen_ge _ (by decide))) ?_; rintro _ w43 ⟨rfl, g43⟩; refine ⟨_, rfl, ?_⟩
 replace G := G.step0 g43; replace h7 := h7.step0 g43; replace h8 := h8.step0 g43; replace hY := hY.step0 g43; replace B25 := B25.step0 g43; replace hb := hb.step0 g43
 refine o_v (v_pick_t rfl (by decide)) ?_
 refine o_v v_move ?_
 refine g_yes rfl rfl rfl (by decide) ?_
 refine o_v v_move ?_
 refine g_yes rfl rfl rfl (by decide) ?_
 refine o_v (v_eql rfl rfl) ?_
 refine o_v (v_pick_t rfl (by decide)) ?_
 refine o_v v_move ?_
 refine g_yes rfl rfl rfl (by decide) ?_
 refine o_v v_move ?_
 refine g_yes rfl rfl rfl (by decide) ?_
 refine o_bslice rfl (fun W => bls56_2 W) ?_; intro w44 Bh g44 z44
 replace G := G.step0 g44; replace h8 := h8.step0 g44; replace hY := hY.step0 g44; replace B25 := B25.step0 g44
 have hc := ints_blk (S := fun _ => True) (xs := [10, 5]) Bh trivial
 refine g_yes rfl rfl rfl (by decide) ?_
 refine o_bslice rfl (fun W => bls56_2 W) ?_; intro w45 Bi g45 z45
 replace G := G.step0 g45; replace h8 := h8.step0 g45; replace hY := hY.step0 g45; replace B25 := B25.step0 g45; replace hc := hc.step0 g45
 have hd := ints_blk (S := fun _ => True) (xs := [0, 0]) Bi trivial
 refine g_yes rfl rfl rfl (by decide) ?_
 refine o_bslice rfl (fun W => bls33_2 W) ?_; intro w46 Bq g46 z46
 replace G := G.step0 g46; replace h8 := h8.step0 g46; replace hY := hY.step0 g46; replace B25 := B25.step0 g46; replace hc := hc.step0 g46; replace hd := hd.step0 g46
 have he : Ty.int.sl.Sl w46 (fun _ => True) _ [[10, 5], [0, 0]] := sl_blk Bq trivial ⟨_, _, rfl, ⟨_, 2, rfl, Nat.le_refl _, maxLen_ge _ (by decide), hc⟩, _, _, rfl, ⟨_, 2, rfl, Nat.le_refl _, maxLen_ge _ (by decide), hd⟩, rfl⟩
 refine g_yes rfl rfl rfl (by decide) ?_
 refine o_call rfl rfl ent57 (f57_calls A8 _ _ _ [[10, 5], [0, 0]] [[10, 5], [0, 0]] w46 h8 he (maxLen_ge _ (by decide))) ?_; rintro _ w47 ⟨rfl, g47⟩; refine ⟨_, rfl, ?_⟩
 replace G := G.step0 g47; replace h8 := h8.step0 g47; replace hY := hY.step0 g47; replace B25 := B25.step0 g47; replace he := he.step0 g47
 refine o_v (v_pick_t rfl (by decide)) ?_
 refine o_v v_move ?_
 refine g_yes rfl rfl rfl (by decide) ?_
 refine o_v v_move ?_
 refine g_yes rfl rfl rfl (by decide) ?_
 refine o_v (v_eql rfl rfl) ?_
 refine o_v (v_pick_t rfl (by decide)) ?_
 refine o_v v_move ?_
 refine g_yes rfl rfl rfl (by decide) ?_
 refine o_v (v_loadBS (vs := kY.cells yA yc zA zc) rfl ag25 B25 rfl rfl) ?_
 refine g_yes rfl rfl rfl (by decide) ?_
 refine o_call rfl rfl ent62 (f62_calls kY yA yc zA zc w47 hY k_smY) ?_; rintro _ w48 ⟨rfl, g48⟩; refine ⟨_, rfl, ?_⟩
 replace G := G.step0 g48; replace hY := hY.step0 g48; replace B25 := B25.step0 g48
 refine g_yes rfl rfl rfl (by decide) ?_
 refine o_v (v_eqlS (a := textL kY) (b := kText) rfl rfl) ?_
 refine o_v (v_pick_t rfl (by decide)) ?_
 refine o_v v_assign ?_
 refine o_end (k16 _ _ ?_)
 refine s_ret (post1 rfl ?_)
 exact ⟨congrArg (fun b => Ending.returned (.bool b)) (decide_eq_true k_textY), G⟩
end Go.Proofs.NV
namespace Go.Proofs.NV
open Go.RowKit Go.ChangeShapes Go.WideShapes
section opens
variable {P : Program} {α β : Type} {τ e : TypeId}
def Opens (P : Program) (t : Ty α) (τ : TypeId) : Prop := ∀ (H : Type) (enc : TypeId × Value → H) (w : World) (n : Nat) (cs : List Value) (x : DataW H × List MemPlace), DataW.trod enc P w 0 (fun _ => true) true n τ cs = some x → ∃ a, t.rep w (fun _ => True) a cs
theorem opens_int (hu : P.underlying τ = some (.int .i64)) : Opens P Ty.int τ := fun H enc w n cs x h => by
 obtain ⟨z, rfl, _, _⟩ := DataW.trod_int hu h
 exact ⟨z, rfl⟩
theorem cells_at {w : World} {a : Addr} {n : Nat} {c : List Value} (h : w.cells? 0 a n = some c) : c.length = n ∧ ∀ j v, c[j]? = some v → w.cell? (a.add j) = some v := by
 unfold World.cells? at h
 rw [if_pos (Nat.zero_le _)] at h
 have hl := mapM_some_length h
 rw [List.length_range] at hl
 refine ⟨hl, fun j v hv => ?_⟩
 have hj : j < n := by have := (List.getElem?_eq_some_iff.1 hv).1; omega
 rw [mapM_some_get h j j (by simp [hj]), hv]
theorem spot_none {w : World} {a : Addr} {v : Value} (h : w.cell? a = some v) : a.spot = none := by
 unfold World.cell? at h
 split at h
 ·cases hs : a.spot with
  | none => rfl
  | some s => rw [hs] at h; simp at h
 ·cases h
theorem elems_rep {t : Ty α} {w : World} {b o : Nat} (f : Nat → Option (List Value)) (hf : ∀ i c, f i = some c → w.rangeAt b (o + i * t.sz) c ∧ ∃ a, t.rep w (fun _ => True) a c) :
  ∀ m, (∀ i, i < m → ∃ c, f i = some c) → ∃ (xs : List α) (cs : List Value), xs.length = m ∧ w.rangeAt b o cs ∧ Reps (t.rep w (fun _ => True)) xs cs
 | 0, _ => ⟨[], [], rfl, fun j v hv => by simp at hv, rfl⟩
 | m + 1, h => by
  obtain ⟨xs, cs, h1, h2, h3⟩ := elems_rep f hf m fun i hi => h i (by omega)
  obtain ⟨c, hc⟩ := h m (by omega)
  obtain ⟨hr, a, ha⟩ := hf m c hc
  have hl := Reps.len (fun _ _ h => t.hlen h) h3
  refine ⟨xs ++ [a], cs ++ c, by simp [h1], fun j v hv => ?_, h3.append (Reps.one ha)⟩
  rw [List.getElem?_append] at hv
  split at hv
  ·exact h2 j v hv
  ·have := hr _ _ hv
   rw [hl, h1] at this
   rw [hl, h1] at *
   have e : o + m * t.sz + (j - m * t.sz) = o + j := by omega
   rwa [e] at this
theorem opens_sl {t : Ty α} (hu : P.underlying τ = some (.slice e)) (hz : P.cellsOf e = t.sz) (he : Opens P t e) : Opens P t.sl τ := fun H enc w n cs x h => by
 rcases DataW.trod_slice hu h with ⟨rfl, _⟩ | ⟨a, len, cap, ys, _, m, _, rfl, _, _, hlc, hcm, hylen, hel, _⟩
 ·exact ⟨[], none, 0, rfl, Nat.le_refl _, Nat.zero_le _, .inl rfl⟩
 ·rw [hz] at hel
  have hget : ∀ i, i < len → ∃ c, w.cells? 0 (a.add (i * t.sz)) t.sz = some c ∧ ∃ y, DataW.trod enc P w 0 (fun _ => true) true m e c = some y := fun i hi => by
   have h1 := hel i hi
   rw [List.getElem?_eq_getElem (by omega)] at h1
   obtain ⟨c, hc, hy⟩ := Option.bind_eq_some_iff.1 h1
   exact ⟨c, hc, _, hy⟩
  have hpos := t.hpos
  rcases Nat.eq_zero_or_pos len with h0 | h0
  ·exact ⟨[], some a, cap, by rw [h0]; rfl, Nat.zero_le _, hcm, .inl rfl⟩
  ·obtain ⟨c0, hc0, _⟩ := hget 0 h0
   rw [Nat.zero_mul] at hc0
   obtain ⟨hl0, hat0⟩ := cells_at hc0
   have hsp : a.spot = none := by
    have h1 := hat0 0 _ (List.getElem?_eq_getElem (by omega))
    exact spot_none h1
   obtain ⟨b, o, sp⟩ := a
   simp only at hsp
   subst hsp
   obtain ⟨xs, cs, h1, h2, h3⟩ := elems_rep (t := t) (w := w) (b := b) (o := o) (fun i => if i < len then w.cells? 0 (Addr.add ⟨b, o, none⟩ (i * t.sz)) t.sz else none) (fun i c hc => by
    by_cases hi : i < len
    ·simp only [hi, if_true] at hc
     obtain ⟨hl, hat⟩ := cells_at hc
     obtain ⟨c', hc', y, hy⟩ := hget i hi
     rw [hc'] at hc
     injection hc with hc
     subst hc
     refine ⟨fun j v hv => ?_, he H enc w m _ y hy⟩
     have := hat j v hv
     rwa [Addr.add_mid, Addr.add_mid] at this
    ·simp [hi] at hc) len (fun i hi => by
     obtain ⟨c, hc, _⟩ := hget i hi
     exact ⟨c, by simp only [hi, if_true]; exact hc⟩)
   exact ⟨xs, some ⟨b, o, none⟩, cap, by rw [h1], by omega, hcm, .inr ⟨b, o, cs, rfl, trivial, h2, h3⟩⟩
def offsL (P : Program) (τs : List TypeId) (i : Nat) : Nat := ((τs.take i).map P.cellsOf).sum
def OpensL (P : Program) (t : Ty α) (τs : List TypeId) : Prop := ∀ (H : Type) (enc : TypeId × Value → H) (w : World) (n : Nat) (cs : List Value), cs.length = t.sz →
 (∀ i τ, τs[i]? = some τ → ∃ x, DataW.trod enc P w 0 (fun _ => true) true n τ ((cs.drop (offsL P τs i)).take (P.cellsOf τ)) = some x) → ∃ a, t.rep w (fun _ => True) a cs
theorem opensL_one {t : Ty α} (hz : P.cellsOf τ = t.sz) (h : Opens P t τ) : OpensL P t [τ] := fun H enc w n cs hl hx => by
 obtain ⟨x, hx⟩ := hx 0 τ rfl
 rw [show offsL P [τ] 0 = 0 from rfl, List.drop_zero, hz, List.take_of_length_le (by omega)] at hx
 exact h H enc w n cs x hx
theorem opensL_cons {t : Ty α} {u : Ty β} {τs : List TypeId} (hz : P.cellsOf τ = t.sz) (h : Opens P t τ) (hs : OpensL P u τs) : OpensL P (t.pair u) (τ :: τs) := fun H enc w n cs hl hx => by
 have hl' : cs.length = t.sz + u.sz := hl
 obtain ⟨x, h0⟩ := hx 0 τ rfl
 rw [show offsL P (τ :: τs) 0 = 0 from rfl, List.drop_zero, hz] at h0
 obtain ⟨a, ha⟩ := h H enc w n _ x h0
 obtain ⟨b, hb⟩ := hs H enc w n (cs.drop t.sz) (by rw [List.length_drop]; omega) fun i σ hi => by
  obtain ⟨y, hy⟩ := hx (i + 1) σ hi
  have e : offsL P (τ :: τs) (i + 1) = t.sz + offsL P τs i := by unfold offsL; rw [List.take_succ_cons, List.map_cons, List.sum_cons, hz]
  rw [e] at hy
  exact ⟨y, by rw [List.drop_drop]; exact hy⟩
 exact ⟨(a, b), _, _, (List.take_append_drop t.sz cs).symm, ha, hb⟩
theorem opens_struct {t : Ty α} {fs : Array Field} {τs : List TypeId} (hu : P.underlying τ = some (.struct fs)) (hz : P.cellsOf τ = t.sz) (hty : fs.toList.map (·.type) = τs) (hof : fs.toList.map (·.offset) = (List.range τs.length).map (offsL P τs)) (h : OpensL P t τs) : Opens P t τ := fun H enc w n cs x hx => by
 obtain ⟨xs, m, _, _, hl, hlen, hf⟩ := DataW.trod_struct hu hx
 refine h H enc w m cs (by omega) fun i σ hi => ?_
 have hlt := (List.getElem?_eq_some_iff.1 hi).1
 have hsz : τs.length = fs.size := by rw [← hty]; simp
 have h1 : fs[i]? = some (fs[i]'(by omega)) := Array.getElem?_eq_getElem (by omega)
 have h2 := hf i _ h1
 have e1 : (fs[i]'(by omega)).type = σ := by
  rw [← hty, List.getElem?_map, Array.getElem?_toList, h1] at hi
  simpa using hi
 have e2 : (fs[i]'(by omega)).offset = offsL P τs i := by
  have h3 : (fs.toList.map (·.offset))[i]? = ((List.range τs.length).map (offsL P τs))[i]? := by rw [hof]
  rw [List.getElem?_map, List.getElem?_map, Array.getElem?_toList, h1, List.getElem?_range hlt] at h3
  simpa using h3
 rw [e1, e2, List.getElem?_eq_getElem (by omega)] at h2
 exact ⟨_, h2⟩
theorem opens_of {t : Ty α} {u : Ty β} (h : Opens P t τ) (hx : ∀ w S y cs, t.rep w S y cs → ∃ x, u.rep w S x cs) : Opens P u τ := fun H enc w n cs x h1 => by
 obtain ⟨a, ha⟩ := h H enc w n cs x h1
 exact hx _ _ _ _ ha
theorem opens_iso {t : Ty α} {f : β → α} (g : α → β) (hg : ∀ y, f (g y) = y) (h : Opens P t τ) : Opens P (t.iso f) τ := opens_of h fun w S y cs hy => ⟨g y, by
 show t.rep w S (f (g y)) cs
 rw [hg]
 exact hy⟩
end opens
section row
variable {H : Type} {enc : TypeId × Value → H}
theorem trodAll_stays {P : Program} (hl : laidOutB P = true) {W W' : World} (hb : Below W.heap.size W W') : ∀ {ts : List TypeId} {vs : List Value} {ds : List (DataW H)} {ps : List MemPlace},
  (ts.all fun t => P.readableRec t && decide (t < P.types.size)) = true → DataW.TrodAll enc P W 0 (fun _ => true) true ts vs ds ps → DataW.TrodAll enc P W' 0 (fun b => decide (b < W.heap.size)) true ts vs ds ps
 | [], vs, ds, ps, _, h => by obtain ⟨rfl, rfl, rfl⟩ := trodAll_nil h; exact trodAll_mk0
 | t :: ts, vs, ds, ps, ht, h => by
  simp only [List.all_cons, Bool.and_eq_true, decide_eq_true_eq] at ht
  obtain ⟨v, vs', d, ds', p, q, rfl, rfl, rfl, h1, h2⟩ := trodAll_cons h
  have hlt : ∀ x ∈ p, x.block < W.heap.size := by obtain ⟨m, hm⟩ := h1; exact DataW.trod_lt m _ _ _ hm
  exact trodAll_cons_mk (Below.trod hl ht.1.1 ht.1.2 h1 hb hlt) (trodAll_stays hl hb (by simpa using ht.2) h2)
theorem trodAll_length {P : Program} {W : World} {b : Nat} {sp : Nat → Bool} {hd : Bool} : ∀ {ts : List TypeId} {vs : List Value} {ds : List (DataW H)} {ps : List MemPlace}, DataW.TrodAll enc P W b sp hd ts vs ds ps → ds.length = ts.length
 | [], vs, ds, ps, h => by obtain ⟨rfl, rfl, rfl⟩ := trodAll_nil h; rfl
 | t :: ts, vs, ds, ps, h => by
  obtain ⟨v, vs', d, ds', p, q, rfl, rfl, rfl, h1, h2⟩ := trodAll_cons h
  simp [trodAll_length h2]
theorem laidOut : laidOutB Tryz.prog = true := by kernel_rfl
theorem ownK : ownKnob Tryz.prog.godebug = none := by kernel_rfl
theorem law_lifted {os : Os} (started : os.Started) {f : FuncId} {fn : Func} {s : ChangeSpec} {laid : List (String × DataW Unit)} (args0 : Array Value)
  (hfn : Tryz.prog.funcs[f]? = some fn) (hno : Tryz.prog.inits.idxOf? f = none) (hv : s.vars = []) (hr : fn.resultTypes = #[4]) (hre : (fn.params.toList.all fun t => Tryz.prog.readableRec t && decide (t < Tryz.prog.types.size)) = true)
  (hs : ∀ ds : List (DataW H), ds.length = fn.params.toList.length → s.fn H ds = { results := [.lit (.bool true)], args := ds, vars := [] })
  (wit : ∃ (w : World) (tape : Tape) (i : Input), w.os = os ∧ (w.forCall tape i).Shaped Tryz.checked.prog ∧ i.vars = [] ∧ Input.okWide Tryz.checked.prog (w.forCall tape i) .any w.heap.size f i ∧
   ((s.pre enc Tryz.checked.prog fn [] false (w.forCall tape i).memory i.args ∧ laidMetH Tryz.prog laid (w.forCall tape i).memory) ∧ sizedMet enc Tryz.checked.prog fn (OpenSpec.ofChange s) false (w.forCall tape i).memory i.args) ∧ ({} : Assume).holds Tryz.checked.prog (lone (Frame.enter Tryz.checked.prog f i.args .normal) [] (w.forCall tape i)))
  (call : ∀ (W : World) (args : Array Value) (ds : List (DataW H)) (p : List MemPlace), (∃ base, ∀ (j : Nat) t v, fn.params[j]? = some t → args[j]? = some v → Value.okWide Tryz.prog W .any base t v) →
   DataW.TrodAll enc Tryz.prog W 0 (fun _ => true) true fn.params.toList args.toList ds p → Calls Tryz.prog f args W fun e W' => e = .returned (.bool true) ∧ W.grownBy W' none) :
  ReturnsInHanded {} Tryz.checked os f .any (fun w args => (s.pre enc Tryz.prog fn [] false w args ∧ laidMetH Tryz.prog laid w) ∧ sizedMet enc Tryz.prog fn (OpenSpec.ofChange s) false w args)
   (s.post enc Tryz.prog fn false true false false) := by
 refine returnsInHanded_of_change_and (C := Tryz.checked) (X := fun w _ => laidMetH Tryz.prog laid w) (fun _ _ _ hh h => h.of_heap hh) ownK started hno hfn wit ?_
 intro W base args ds gs before hval0 hW _ _ _ _
 have hW' := hW
 obtain ⟨p, q, hA, hV, hb, _, _⟩ := hW
 rw [hv] at hV
 obtain ⟨rfl, rfl⟩ := trodVars_none hV
 rw [List.append_nil] at hb
 subst hb
 refine (call W args ds before ⟨base, hval0⟩ hA).mono fun e W' ⟨he, hg⟩ => ?_
 have bel : Below W.heap.size W W' := ⟨hg.os, hg.tape, hg.output, hg.size, fun k hk => hg.block k hk (by simp)⟩
 have e1 : s.fn H (ds ++ []) = { results := [.lit (.bool true)], args := ds, vars := [] } := by rw [List.append_nil]; exact hs ds (trodAll_length hA)
 refine ⟨_, he, ds, [], before, [], before, [], hW', ?_, ?_, ?_, bel.frame _, fun h => by cases h⟩
 ·rw [e1, hr]
  exact trodAll_mk1 (shut_bool Tryz.underlying4 true)
 ·rw [e1]
  exact trodAll_stays laidOut bel hre hA
 ·rw [e1, hv]
  rfl
end row
end Go.Proofs.NV
