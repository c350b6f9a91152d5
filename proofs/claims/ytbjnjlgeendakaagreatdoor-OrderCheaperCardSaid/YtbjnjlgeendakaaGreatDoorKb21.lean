/- Part of the proof: The reference: Print.. areSellers.. Reverse; SortStableFunc of few, by the shelf.. -/
import Derived.Test.YtbjnjlgeendakaaGreatDoorKb20
import Derived.Test.YtbjnjlgeendakaaGreatDoorKb17
import Derived.Test.YtbjnjlgeendakaaGreatDoorKb1
import Derived.Shelf.SlSortCmp.Insertion
import Derived.Shelf.Slices.In.Reverse
set_option linter.unusedVariables false
set_option maxRecDepth 100000
set_option maxHeartbeats 8000000
set_option linter.unusedSimpArgs false
namespace Go.Proofs.NV
open Go.RowKit Go.Shelf
attribute [local irreducible] bodyPost bodyPostM wpQuiet
def rowsOf (b : Book) (i j : Nat) : List (List UInt8) := (linesTo b i j).map rowL
theorem rowL_eq (l : Ln) : rowL l = wordL l.kind ++ wordsTo l.nums l.nums.length := rfl
theorem rowsOf_zero (b : Book) : rowsOf b 0 0 = [bookW ++ wordsTo [b.ed, b.mv] 2] := by
 unfold rowsOf
 rw [linesTo_zero]
 rfl
theorem rowsOf_good (b : Book) (i : Nat) (h : i < b.goods.length) : rowsOf b (i + 1) 0 = rowsOf b i 0 ++ [goodW ++ wordsTo [b.goods[i]] 1] := by
 unfold rowsOf
 rw [linesTo_good b i h, List.map_append]
 rfl
theorem rowsOf_ent (b : Book) (i j : Nat) (h : j < b.ents.length) : rowsOf b i (j + 1) = rowsOf b i j ++ [entryW ++ wordsTo [b.ents[j].ed, b.ents[j].num, b.ents[j].good] 3] := by
 unfold rowsOf
 rw [linesTo_ent b i j h, List.map_append]
 rfl
theorem rowsOf_len (b : Book) (i j : Nat) : (rowsOf b i j).length ≤ 1 + i + j := by unfold rowsOf; rw [List.length_map]; exact linesTo_len b i j
theorem words_small {l : List Int} (hn : ∀ n ∈ l, 0 ≤ n ∧ n < 100) (hl : l.length ≤ 3) : (wordsTo l l.length).length ≤ 9 := by have := wordsTo_len l hn _ (Nat.le_refl _); omega
theorem entryW_len : entryW.length = 5 ∧ goodW.length = 4 ∧ bookW.length = 4 := by decide
theorem mem3 {a b c : Int} {P : Int → Prop} (ha : P a) (hb : P b) (hc : P c) : ∀ n ∈ [a, b, c], P n := by simp [ha, hb, hc]
theorem mem2 {a b : Int} {P : Int → Prop} (ha : P a) (hb : P b) : ∀ n ∈ [a, b], P n := by simp [ha, hb]
theorem mem1 {a : Int} {P : Int → Prop} (ha : P a) : ∀ n ∈ [a], P n := by simp [ha]
attribute [local irreducible] rowsOf wordsTo sumTo checkTo bodyTo rowTo decL linesL wordL rowL
theorem f62_calls {S : Nat → Prop} (b : Book) (gA : Option Addr) (gc : Nat) (eA : Option Addr) (ec : Nat) (w : World) (hI : BookIn w S b gA gc eA ec) (hsm : BookSm b 900) :
  Calls Tryz.prog 62 #[.agg (b.cells gA gc eA ec).toArray] w fun e w' => e = .returned (strV (textL b)) ∧ w.grownBy w' none := by
 refine s_enter (n := 117) Tryz.func62 rfl rfl rfl ?_
 have G := grown_refl w none
 refine s_rseq fun _ k1 => ?_
 refine o_box (t := 25) rfl ?_; intro w1 B1 g1 z1
 replace hI := hI.step0 g1
 have hfew := hsm.few
 obtain ⟨lE, lG, lB⟩ := entryW_len
 refine o_v v_assign ?_
 refine o_end (k1 _ _ ?_)
 refine s_rseq fun _ k2 => ?_
 refine o_v (v_field rfl fld25_1) ?_
 refine o_v (v_loadB rfl sc3 B1 rfl) ?_
 refine o_v (v_field rfl fld25_2) ?_
 refine o_v (v_loadB rfl sc3 B1 rfl) ?_
 refine o_bslice rfl (fun W => bls56_2 W) ?_; intro w2 B15 g2 z2
 have h2 := mem2 (P := fun n => 0 ≤ n ∧ n < 100) hsm.hd.1 hsm.hd.2
 have hs2 := words_small h2 (by decide : 2 ≤ 3)
 refine o_call rfl rfl ent120 (f120_calls (S := fun _ => True) _ 2 [b.ed, b.mv] w2 (.inr ⟨w1.heap.size, 0, _, rfl, trivial, B15.range 0 2, reps_int [b.ed, b.mv]⟩) (by decide : 2 ≤ 1000) h2) ?_; rintro _ w3 ⟨rfl, g3⟩; refine ⟨_, rfl, ?_⟩
 clear B15
 refine o_v (v_addS (a := bookW) (b := wordsTo [b.ed, b.mv] 2) rfl rfl (by have : (wordsTo [b.ed, b.mv] 2).length ≤ 9 := hs2; omega)) ?_
 refine o_bslice rfl (fun W => bls186_1 W) ?_; intro w4 B18 g4 z4
 have hrow0 : strT.Row 9 w4 (fun k => w1.heap.size ≤ k) (.slice (some ⟨w3.heap.size, 0, none⟩) 1 1) (rowsOf b 0 0) := by
  rw [rowsOf_zero]
  exact Ty.Row.close (ys := [bookW ++ wordsTo [b.ed, b.mv] 2]) (by have := g2.size; have := g3.size; omega) B18 rfl (Nat.le_refl _) (by decide) (Reps.one rfl)
 have G4 : w1.grownBy w4 none := (g2.step0 g3).step0 g4
 clear B18
 refine o_v v_assign ?_
 refine o_end (k2 _ _ ?_)
 refine s_seq fun _ k3 => ?_
 refine s_rseq fun _ k4 => ?_
 refine o_v v_assign ?_
 refine o_end (k4 _ _ ?_)
 refine s_block ?_
 refine s_loop (G := Nat × Value) (fun g => [(3, g.2), (4, I g.1)]) [3, 4] [19, 20, 21, 22, 23, 24, 25, 26, 27, 28, 29, 30, 31, 32, 33, 34, 35, 36, 37] (fun g W => (g.1 ≤ b.goods.length ∧ strT.Row 9 W (fun k => w1.heap.size ≤ k) g.2 (rowsOf b g.1 0)) ∧ w1.grownBy W none) (fun g => b.goods.length - g.1) (fun _ => rfl) (0, .slice (some ⟨w3.heap.size, 0, none⟩) 1 1) ⟨rfl, rfl, trivial⟩ ⟨⟨Nat.zero_le _, hrow0⟩, G4⟩ ?_
 clear hrow0 G4
 rintro ⟨i, row⟩ jv w5 ⟨⟨hi, hrow⟩, g5⟩
 simp only at hi hrow ⊢
 have B1x := B1.step0 g5
 have hIx := hI.step0 g5
 refine s_seq fun _ k5 => ?_
 refine s_rseq fun _ k6 => ?_
 refine o_v v_move ?_
 refine o_v (v_field rfl fld25_0) ?_
 refine o_v (v_loadB rfl sc22 B1x rfl) ?_
 refine o_v (v_len rfl Tryz.underlying22) ?_
 refine o_v (v_lss rfl rfl) ?_
 refine o_end (k6 _ _ ?_)
 refine s_ifd rfl (fun c6 => ?_) (fun c6 => ?_)
 ·have hlt : i < b.goods.length := by omega
  obtain ⟨bl, ol, rfl, hcl⟩ := hIx.goods.int i hlt
  have hgi := mem1 (P := fun n => 0 ≤ n ∧ n < 100) (hsm.gs _ (List.getElem_mem hlt))
  have hll := rowsOf_len b i 0
  have hs1 : (wordsTo [b.goods[i]] 1).length ≤ 9 := words_small hgi (by decide : 1 ≤ 3)
  have hlow := g5.size
  refine s_skip ?_
  refine k5 _ _ ?_
  refine s_seq fun _ k7 => ?_
  refine s_block ?_
  refine s_region ?_
  refine o_v v_move ?_
  refine o_v (v_field rfl fld25_0) ?_
  refine o_v (v_loadB rfl sc22 B1x rfl) ?_
  refine o_v v_move ?_
  refine o_v (v_index rfl rfl slt22 (by omega)) ?_
  refine o_v (v_field rfl fld148_0) ?_
  refine o_v (v_loadC rfl sc3 hcl) ?_
  refine o_bslice rfl (fun W => bls56_1 W) ?_; intro w6 B33 g6 z6
  replace g5 := g5.step0 g6; replace hrow := hrow.step0 g6
  refine o_call rfl rfl ent120 (f120_calls (S := fun _ => True) _ 1 [b.goods[i]] w6 (.inr ⟨w5.heap.size, 0, _, rfl, trivial, B33.range 0 1, reps_int [b.goods[i]]⟩) (by decide : 1 ≤ 1000) hgi) ?_; rintro _ w7 ⟨rfl, g7⟩; refine ⟨_, rfl, ?_⟩
  replace g5 := g5.step0 g7; replace hrow := hrow.step0 g7; clear B33
  refine o_v (v_addS (a := goodW) (b := wordsTo [b.goods[i]] 1) rfl rfl (by omega)) ?_
  refine o_bslice rfl (fun W => bls186_1 W) ?_; intro w8 B36 g8 z8
  replace g5 := g5.step0 g8; replace hrow := hrow.step0 g8
  refine o_append1 (t := strT) (p := goodW ++ wordsTo [b.goods[i]] 1) rfl rfl hrow B36 Tryz.underlying186 info9 rfl rfl (fun k hk => by have := g5.size; omega) (by omega) (by decide) ?_
  intro row' wa hrowa ga hat
  have Ga : w1.grownBy wa none := grown_ownO g5 ga (fun b hb => hrow.1 b hb)
  refine o_v v_assign ?_
  refine o_end ?_
  refine k7 _ _ ?_
  refine s_region ?_
  refine o_v v_move ?_
  refine o_v (v_add rfl rfl (by omega)) ?_
  refine o_v v_assign ?_
  refine o_end ?_
  refine mid (i + 1, row') ?_ ?_ ?_
  ·repeat (first | exact off_refl | refine off_cons rfl ?_)
  ·exact ⟨rfl, rfl, trivial⟩
  ·refine ⟨⟨⟨hlt, ?_⟩, Ga⟩, by simp only; omega⟩
   simp only
   rw [rowsOf_good b i hlt]
   exact hrowa
 ·obtain rfl : i = b.goods.length := by omega
  clear hi c6 B1x hIx
  refine s_exit ?_
  refine k3 _ _ ?_
  refine s_seq fun _ k8 => ?_
  refine s_rseq fun _ k9 => ?_
  refine o_v v_assign ?_
  refine o_end (k9 _ _ ?_)
  refine s_block ?_
  refine s_loop (G := Nat × Value) (fun g => [(3, g.2), (5, I g.1)]) [3, 5] [6, 38, 39, 40, 41, 42, 43, 44, 45, 46, 47, 48, 49, 50, 51, 52, 53, 54, 55, 56, 57, 58, 59, 60, 61] (fun g W => (g.1 ≤ b.ents.length ∧ strT.Row 9 W (fun k => w1.heap.size ≤ k) g.2 (rowsOf b b.goods.length g.1)) ∧ w1.grownBy W none) (fun g => b.ents.length - g.1) (fun _ => rfl) (0, row) ⟨rfl, rfl, trivial⟩ ⟨⟨Nat.zero_le _, hrow⟩, g5⟩ ?_
  clear hrow g5
  rintro ⟨j, row⟩ jv w9 ⟨⟨hj, hrow⟩, g9⟩
  simp only at hj hrow ⊢
  have B1x := B1.step0 g9
  have hIx := hI.step0 g9
  refine s_seq fun _ k10 => ?_
  refine s_rseq fun _ k11 => ?_
  refine o_v v_move ?_
  refine o_v (v_field rfl fld25_3) ?_
  refine o_v (v_loadB rfl sc23 B1x rfl) ?_
  refine o_v (v_len rfl Tryz.underlying23) ?_
  refine o_v (v_lss rfl rfl) ?_
  refine o_end (k11 _ _ ?_)
  refine s_ifd rfl (fun c11 => ?_) (fun c11 => ?_)
  ·have hlt : j < b.ents.length := by omega
   obtain ⟨bl, ol, cl, rfl, _, hrepl, hrgl⟩ := hIx.ents.get j hlt
   obtain rfl : cl = [I b.ents[j].ed, I b.ents[j].num, I b.ents[j].good] := hrepl
   have hej := hsm.es _ (List.getElem_mem hlt)
   have hgi := mem3 (P := fun n => 0 ≤ n ∧ n < 100) hej.1 hej.2.1 hej.2.2
   have hll := rowsOf_len b b.goods.length j
   have hs1 : (wordsTo [b.ents[j].ed, b.ents[j].num, b.ents[j].good] 3).length ≤ 9 := words_small hgi (by decide : 3 ≤ 3)
   have hlow := g9.size
   refine s_skip ?_
   refine k10 _ _ ?_
   refine s_seq fun _ k12 => ?_
   refine s_block ?_
   refine s_rseq fun _ k13 => ?_
   refine o_v (v_field rfl fld25_3) ?_
   refine o_v (v_loadB rfl sc23 B1x rfl) ?_
   refine o_v v_move ?_
   refine o_v (v_index rfl rfl slt23 (by omega)) ?_
   refine o_v (v_loadR rfl ag99 hrgl rfl) ?_
   refine o_allocst ze99 rfl rfl rfl sz99 rfl rfl rfl ?_; intro w10 B6 g10 z10
   replace g9 := g9.step0 g10; replace hrow := hrow.step0 g10
   refine o_end (k13 _ _ ?_)
   refine s_region ?_
   refine o_v v_move ?_
   refine o_v (v_field rfl fld99_0) ?_
   refine o_v (v_loadB rfl sc3 B6 rfl) ?_
   refine o_v (v_field rfl fld99_1) ?_
   refine o_v (v_loadB rfl sc3 B6 rfl) ?_
   refine o_v (v_field rfl fld99_2) ?_
   refine o_v (v_loadB rfl sc3 B6 rfl) ?_
   refine o_bslice rfl (fun W => bls56_3 W) ?_; intro w11 B57 g11 z11
   replace g9 := g9.step0 g11; replace hrow := hrow.step0 g11
   refine o_call rfl rfl ent120 (f120_calls (S := fun _ => True) _ 3 [b.ents[j].ed, b.ents[j].num, b.ents[j].good] w11 (.inr ⟨w10.heap.size, 0, _, rfl, trivial, B57.range 0 3, reps_int [b.ents[j].ed, b.ents[j].num, b.ents[j].good]⟩) (by decide : 3 ≤ 1000) hgi) ?_; rintro _ w12 ⟨rfl, g12⟩; refine ⟨_, rfl, ?_⟩
   replace g9 := g9.step0 g12; replace hrow := hrow.step0 g12; clear B57
   refine o_v (v_addS (a := entryW) (b := wordsTo [b.ents[j].ed, b.ents[j].num, b.ents[j].good] 3) rfl rfl (by omega)) ?_
   refine o_bslice rfl (fun W => bls186_1 W) ?_; intro w13 B60 g13 z13
   replace g9 := g9.step0 g13; replace hrow := hrow.step0 g13
   refine o_append1 (t := strT) (p := entryW ++ wordsTo [b.ents[j].ed, b.ents[j].num, b.ents[j].good] 3) rfl rfl hrow B60 Tryz.underlying186 info9 rfl rfl (fun k hk => by have := g9.size; omega) (by omega) (by decide) ?_
   intro row' wa hrowa ga hat
   have Ga : w1.grownBy wa none := grown_ownO g9 ga (fun b hb => hrow.1 b hb)
   refine o_v v_assign ?_
   refine o_end ?_
   refine k12 _ _ ?_
   refine s_region ?_
   refine o_v v_move ?_
   refine o_v (v_add rfl rfl (by omega)) ?_
   refine o_v v_assign ?_
   refine o_end ?_
   refine mid (j + 1, row') ?_ ?_ ?_
   ·repeat (first | exact off_refl | refine off_cons rfl ?_)
   ·exact ⟨rfl, rfl, trivial⟩
   ·refine ⟨⟨⟨hlt, ?_⟩, Ga⟩, by simp only; omega⟩
    simp only
    rw [rowsOf_ent b _ j hlt]
    exact hrowa
  ·obtain rfl : j = b.ents.length := by omega
   clear hj c11 B1x hIx B1
   obtain ⟨ls, hls⟩ : ∃ ls, ls = linesL b := ⟨_, rfl⟩
   have hok : LnsOk ls := by rw [hls]; exact hsm.lns (by decide)
   have hre : rowsOf b b.goods.length b.ents.length = ls.map rowL := by rw [hls]; with_unfolding_all rfl
   have htx : textL b = textLs ls := by rw [hls]; rfl
   rw [hre] at hrow
   obtain ⟨rA, rc, hrv, _, _, hrS⟩ := hrow.reads
   rw [List.length_map] at hrv
   subst hrv
   clear hrow hre
   have hlen := hok.1
   have hb0 : bodyTo ls 0 = [] := by with_unfolding_all rfl
   have hc0 : checkTo ls 0 = 0 := by with_unfolding_all rfl
   have GG := g1.step0 g9
   refine s_exit ?_
   refine k8 _ _ ?_
   refine s_rseq fun _ k14 => ?_
   refine o_v v_assign ?_
   refine o_v v_assign ?_
   refine o_end (k14 _ _ ?_)
   refine s_seq fun _ k15 => ?_
   refine s_rseq fun _ k16 => ?_
   refine o_v v_assign ?_
   refine o_end (k16 _ _ ?_)
   refine s_block ?_
   refine s_loop (G := Nat) (fun i => [(7, strV (bodyTo ls i)), (8, I (checkTo ls i)), (9, I i)]) [7, 8, 9] [10, 62, 63, 64, 65, 66, 67, 68, 69, 70, 71, 72, 73, 74, 75, 76, 77, 78, 79, 80, 81, 82, 83, 84, 85, 86, 87, 88, 89, 90, 91, 92, 93, 94, 95, 96, 97, 98] (fun i W => (i ≤ ls.length) ∧ w9.grownBy W none) (fun i => ls.length - i) (fun _ => rfl) 0 ⟨by rw [hb0]; rfl, by rw [hc0]; rfl, rfl, trivial⟩ ⟨Nat.zero_le _, grown_refl _ _⟩ ?_
   rintro i jv w14 ⟨hi, g14⟩
   refine s_seq fun _ k17 => ?_
   refine s_rseq fun _ k18 => ?_
   refine o_v v_move ?_
   refine o_v v_move ?_
   refine o_v (v_len rfl Tryz.underlying186) ?_
   refine o_v (v_lss rfl rfl) ?_
   refine o_end (k18 _ _ ?_)
   refine s_ifd rfl (fun c18 => ?_) (fun c18 => ?_)
   ·have hlt : i < ls.length := by omega
    obtain ⟨l, hl⟩ : ∃ l, l = ls[i] := ⟨_, rfl⟩
    have hnl := hok.2 l (by rw [hl]; exact List.getElem_mem hlt)
    have hcb := checkTo_bound hok i hi
    have hbl := bodyTo_len hok i hi
    have hrl := rowL_len hnl
    have hcst : checkTo ls (i + 1) = checkTo ls i + sumTo (rowL l) i (rowL l).length := by rw [checkTo_succ hlt, ← hl]
    have hbst : bodyTo ls (i + 1) = bodyTo ls i ++ rowL l ++ [10] := by rw [bodyTo_succ hlt, ← hl]; simp only [List.append_assoc]
    obtain ⟨bl, ol, rfl, hcl⟩ := hrS.str i (by rw [List.length_map]; exact hlt)
    rw [List.getElem_map, ← hl] at hcl
    have hs0 : sumTo (rowL l) i 0 = 0 := by with_unfolding_all rfl
    refine s_skip ?_
    refine k17 _ _ ?_
    refine s_seq fun _ k19 => ?_
    refine s_block ?_
    refine s_seq fun _ k20 => ?_
    refine s_rseq fun _ k21 => ?_
    refine o_v v_assign ?_
    refine o_end (k21 _ _ ?_)
    refine s_block ?_
    refine s_loop (G := Nat) (fun k => [(8, I (checkTo ls i + sumTo (rowL l) i k)), (10, I k)]) [8, 10] [68, 69, 70, 71, 72, 73, 74, 75, 76, 77, 78, 79, 80, 81, 82, 83, 84, 85, 86, 87, 88, 89, 90, 91] (fun k W => (k ≤ (rowL l).length) ∧ w9.grownBy W none) (fun k => (rowL l).length - k) (fun _ => rfl) 0 ⟨by rw [hs0, Int.add_zero]; rfl, rfl, trivial⟩ ⟨Nat.zero_le _, g14⟩ ?_
    clear g14
    rintro k jv w15 ⟨hk, g15⟩
    have hcl15 := cell0 g15 hcl
    refine s_seq fun _ k22 => ?_
    refine s_rseq fun _ k23 => ?_
    refine o_v v_move ?_
    refine o_v v_move ?_
    refine o_v v_move ?_
    refine o_v (v_index rfl rfl slt186 (by omega)) ?_
    refine o_v (v_loadC rfl sc9 hcl15) ?_
    refine o_v (v_lenB (a := rowL l) rfl Tryz.underlying9) ?_
    refine o_v (v_lss rfl rfl) ?_
    refine o_end (k23 _ _ ?_)
    refine s_ifd rfl (fun c23 => ?_) (fun c23 => ?_)
    ·have hklt : k < (rowL l).length := by omega
     obtain ⟨c, hc⟩ : ∃ c, (rowL l)[k]? = some c := ⟨_, List.getElem?_eq_getElem hklt⟩
     have hc8 : c.toNat < 256 := c.toNat_lt
     have hcell := cell_bound c k i (by omega) (by omega)
     have hsb := sumTo_bound (rowL l) i (by omega) k (by omega)
     have hst : checkTo ls i + sumTo (rowL l) i (k + 1) = checkTo ls i + sumTo (rowL l) i k + (c.toNat : Int) * ((k : Int) + 1) * ((i : Int) + 1) := by rw [sumTo_succ hc]; omega
     refine s_skip ?_
     refine k22 _ _ ?_
     refine s_seq fun _ k24 => ?_
     refine s_block ?_
     refine s_region ?_
     refine o_v v_move ?_
     refine o_v v_move ?_
     refine o_v v_move ?_
     refine o_v (v_index rfl rfl slt186 (by omega)) ?_
     refine o_v (v_loadC rfl sc9 hcl15) ?_
     refine o_v v_move ?_
     refine o_v (v_indexS (a := rowL l) (i := k) rfl rfl Tryz.underlying9 hc) ?_
     refine o_v (v_conv64 rfl Tryz.underlying5 Tryz.underlying3 (by omega)) ?_
     refine o_v v_move ?_
     refine o_v (v_add rfl rfl (by omega)) ?_
     refine o_v (v_mul rfl rfl (by omega)) ?_
     refine o_v v_move ?_
     refine o_v (v_add rfl rfl (by omega)) ?_
     refine o_v (v_mul rfl rfl (by omega)) ?_
     refine o_v (v_add rfl rfl (by omega)) ?_
     refine o_v v_assign ?_
     refine o_end ?_
     refine k24 _ _ ?_
     refine s_region ?_
     refine o_v v_move ?_
     refine o_v (v_add rfl rfl (by omega)) ?_
     refine o_v v_assign ?_
     refine o_end ?_
     refine mid (k + 1) ?_ ?_ ?_
     ·repeat (first | exact off_refl | refine off_cons rfl ?_)
     ·exact ⟨congrArg I hst.symm, rfl, trivial⟩
     ·exact ⟨⟨hklt, g15⟩, by omega⟩
    ·obtain hkn : k = (rowL l).length := by omega
     subst hkn
     refine s_exit ?_
     refine k20 _ _ ?_
     refine s_region ?_
     refine o_v v_move ?_
     refine o_v v_move ?_
     refine o_v v_move ?_
     refine o_v (v_index rfl rfl slt186 (by omega)) ?_
     refine o_v (v_loadC rfl sc9 hcl15) ?_
     refine o_v (v_addS (a := bodyTo ls i) (b := rowL l) rfl rfl (by omega)) ?_
     refine o_v (v_addS (b := [10]) rfl rfl (by simp only [List.length_append, List.length_cons, List.length_nil]; omega)) ?_
     refine o_v v_assign ?_
     refine o_end ?_
     refine k19 _ _ ?_
     refine s_region ?_
     refine o_v v_move ?_
     refine o_v (v_add rfl rfl (by omega)) ?_
     refine o_v v_assign ?_
     refine o_end ?_
     refine mid (i + 1) ?_ ?_ ?_
     ·repeat (first | exact off_refl | refine off_cons rfl ?_)
     ·exact ⟨congrArg strV hbst.symm, congrArg I hcst.symm, rfl, trivial⟩
     ·exact ⟨⟨hlt, g15⟩, by omega⟩
   ·obtain rfl : i = ls.length := by omega
    have hcb := checkTo_bound hok _ (Nat.le_refl _)
    have hbl := bodyTo_len hok _ (Nat.le_refl _)
    obtain ⟨c, hce⟩ : ∃ c, c = checkTo ls ls.length % 151 := ⟨_, rfl⟩
    have hcr : 0 ≤ c ∧ c < 151 := by omega
    have d1 := decL_len (c / 100) (by omega)
    have d2 := decL_len (c / 10 % 10) (by omega)
    have d3 := decL_len (c % 10) (by omega)
    replace GG := GG.step0 g14
    refine s_exit ?_
    refine k15 _ _ ?_
    refine s_rseq fun _ k25 => ?_
    refine o_v v_move ?_
    refine o_v (v_rem rfl rfl (by omega) (by omega)) ?_
    rw [← hce]
    refine o_v v_assign ?_
    refine o_end (k25 _ _ ?_)
    refine s_rseq fun _ k26 => ?_
    refine o_v v_move ?_
    refine o_v (v_addS (b := [101, 110, 100, 32]) rfl rfl (by simp only [List.length_cons, List.length_nil]; omega)) ?_
    refine o_v v_move ?_
    refine o_v (v_quo rfl rfl (by omega) (by omega)) ?_
    refine o_call rfl rfl ent121 ((f121_calls (c / 100) (by omega) w14)) ?_; rintro _ w16 ⟨rfl, g16⟩; refine ⟨_, rfl, ?_⟩
    replace GG := GG.step0 g16
    refine o_v (v_addS rfl rfl (by simp only [List.length_append, List.length_cons, List.length_nil]; omega)) ?_
    refine o_v v_move ?_
    refine o_v (v_quo rfl rfl (by omega) (by omega)) ?_
    refine o_v (v_rem rfl rfl (by omega) (by omega)) ?_
    refine o_call rfl rfl ent121 ((f121_calls (c / 10 % 10) (by omega) w16)) ?_; rintro _ w17 ⟨rfl, g17⟩; refine ⟨_, rfl, ?_⟩
    replace GG := GG.step0 g17
    refine o_v (v_addS rfl rfl (by simp only [List.length_append, List.length_cons, List.length_nil]; omega)) ?_
    refine o_v v_move ?_
    refine o_v (v_rem rfl rfl (by omega) (by omega)) ?_
    refine o_call rfl rfl ent121 ((f121_calls (c % 10) (by omega) w17)) ?_; rintro _ w18 ⟨rfl, g18⟩; refine ⟨_, rfl, ?_⟩
    replace GG := GG.step0 g18
    refine o_v (v_addS rfl rfl (by simp only [List.length_append, List.length_cons, List.length_nil]; omega)) ?_
    refine o_v (v_addS (b := [10]) rfl rfl (by simp only [List.length_append, List.length_cons, List.length_nil]; omega)) ?_
    refine o_v v_assign ?_
    refine o_end (k26 _ _ ?_)
    refine s_ret (post1 rfl ?_)
    refine ⟨?_, GG⟩
    have : textL b = bodyTo ls ls.length ++ [101, 110, 100, 32] ++ decL (c / 100) ++ decL (c / 10 % 10) ++ decL (c % 10) ++ [10] := by
     rw [htx]
     unfold textLs endL
     rw [← hce]
     simp only [List.append_assoc]
    rw [this]
    rfl
end Go.Proofs.NV
namespace Go.Proofs.NV
open Go.RowKit Go.Shelf
attribute [local irreducible] bodyPost bodyPostM wpQuiet
structure Seller where
 parcel : Int
 stock : List Int
 price : List Int
def sellT : Ty Seller := (Ty.int.pair (Ty.int.sl.pair Ty.int.sl)).iso fun s => (s.parcel, s.stock, s.price)
theorem sellT_sz : sellT.sz = 3 := rfl
theorem sellT_iff {w : World} {S : Nat → Prop} {s : Seller} {cs : List Value} : sellT.rep w S s cs ↔ ∃ sA sc pA pc, cs = [I s.parcel, .slice sA s.stock.length sc, .slice pA s.price.length pc] ∧ (s.stock.length ≤ sc ∧ sc ≤ maxLen ∧ Ty.int.Sl w S sA s.stock) ∧ (s.price.length ≤ pc ∧ pc ≤ maxLen ∧ Ty.int.Sl w S pA s.price) := by
 constructor
 ·rintro ⟨c0, c1, rfl, h0, c2, c3, rfl, ⟨sA, sc, rfl, h1⟩, ⟨pA, pc, rfl, h2⟩⟩
  obtain rfl : c0 = [I s.parcel] := h0
  exact ⟨sA, sc, pA, pc, rfl, h1, h2⟩
 ·rintro ⟨sA, sc, pA, pc, rfl, h1, h2⟩
  exact ⟨_, _, rfl, rfl, _, _, rfl, ⟨sA, sc, rfl, h1⟩, ⟨pA, pc, rfl, h2⟩⟩
def badPr (n : Nat) (most : Int) (x : List Int) : Bool := decide (¬ (x.length : Int) = n) || x.any fun v => !inB v 0 most
def badSell (n : Nat) (s : Seller) : Bool := ((!inB s.parcel 0 1000) || badPr n 100 s.stock) || badPr n 1000 s.price
def sellersB (l : List Seller) (wants : List Int) : Bool := ((inB l.length 1 4 && inB wants.length 1 5) && (!badPr wants.length 400 wants)) && (!l.any (badSell wants.length))
theorem f151_calls (v most : Int) (k : Nat) (w : World) (hk : Blk w k [I most] 3) :
  Calls Tryz.prog 151 #[I v, ptr k] w fun e w' => e = .returned (.bool (!inB v 0 most)) ∧ w.grownBy w' none := by
 refine s_enter (n := 8) Tryz.func151 rfl rfl rfl ?_
 have G := grown_refl w none
 refine s_rseq fun _ k1 => ?_
 refine o_v v_assign ?_
 refine o_end (k1 _ _ ?_)
 refine s_rseq fun _ k2 => ?_
 refine o_v v_move ?_
 refine o_v (v_loadB rfl sc3 hk rfl) ?_
 refine o_call rfl rfl ent100 (f100_calls _ _ _ _) ?_; rintro _ w1 ⟨rfl, g1⟩; refine ⟨_, rfl, ?_⟩
 replace G := G.step0 g1; replace hk := hk.step0 g1
 refine o_v (v_not rfl) ?_
 refine o_v v_assign ?_
 refine o_end (k2 _ _ ?_)
 refine s_ret (post1 rfl ?_)
 exact ⟨rfl, G⟩
theorem f149_calls {S : Nat → Prop} (xA : Option Addr) (xc : Nat) (x : List Int) (most : Int) (k : Nat) (wA : Option Addr) (n wc : Nat) (w : World) (hx : Ty.int.Sl w S xA x) (hm : x.length ≤ maxLen) (hk : Blk w k [.slice wA n wc] 56) :
  Calls Tryz.prog 149 #[.slice xA x.length xc, I most, ptr k] w fun e w' => e = .returned (.bool (badPr n most x)) ∧ w.grownBy w' none := by
 refine s_enter (n := 16) Tryz.func149 rfl rfl rfl ?_
 have G := grown_refl w none
 refine s_rseq fun _ k1 => ?_
 refine o_box (t := 3) rfl ?_; intro w1 B4 g1 z1
 replace G := G.step0 g1; replace hx := hx.step0 g1; replace hk := hk.step0 g1
 refine o_v v_assign ?_
 refine o_end (k1 _ _ ?_)
 refine s_rseq fun _ k2 => ?_
 refine o_v v_move ?_
 refine o_v (v_len rfl Tryz.underlying56) ?_
 refine o_v (v_loadB rfl sc56 hk rfl) ?_
 refine o_v (v_len rfl Tryz.underlying56) ?_
 refine o_v (v_neq rfl rfl) ?_
 refine o_v v_move ?_
 refine o_mid (G := Unit) 4 (fun _ => [(15, .bool (decide (¬ (x.length : Int) = n) || (x.any fun v => !inB v 0 most)))]) [15] [12, 13, 14] (fun _ w' => w1.grownBy w' none) (fun _ => rfl) ?_ ?_
 ·have H1 := grown_refl w1 none
  rcases Bool.eq_false_or_eq_true (decide (¬ (x.length : Int) = n)) with hX1 | hX1
  ·refine g_no rfl rfl rfl hX1 ?_
   refine g_no rfl rfl rfl hX1 ?_
   refine g_no rfl rfl rfl hX1 ?_
   refine o_v (v_pick_t rfl hX1) ?_
   refine o_end (mid () ?_ ?_ ?_)
   ·repeat (first | exact off_refl | refine off_cons rfl ?_)
   ·exact ⟨by rw [hX1]; rfl, trivial⟩
   ·exact H1
  ·refine g_yes rfl rfl rfl hX1 ?_
   refine o_v v_move ?_
   refine g_yes rfl rfl rfl hX1 ?_
   refine o_v v_func ?_
   refine g_yes rfl rfl rfl hX1 ?_
   refine o_call rfl rfl ent150 (f150_calls Ty.int rfl (fun v => !inB v 0 most) xA xc x 151 [ptr w.heap.size] _ hx (by rw [maxLen_val] at hm; omega) ent151 (fun y cs W hy hg hrep => by obtain rfl : cs = I y := (by have h2 : [cs] = [I y] := hrep; injection h2); have := f151_calls y most w.heap.size W (B4.step0 hg); exact this)) ?_; rintro _ w2 ⟨rfl, g2⟩; refine ⟨_, rfl, ?_⟩
   replace G := G.step0 g2; replace hx := hx.step0 g2; replace hk := hk.step0 g2; replace B4 := B4.step0 g2; replace H1 := H1.step0 g2
   refine o_v (v_pick_f rfl hX1) ?_
   refine o_end (mid () ?_ ?_ ?_)
   ·repeat (first | exact off_refl | refine off_cons rfl ?_)
   ·exact ⟨by rw [hX1]; rfl, trivial⟩
   ·exact H1
 ·rintro _ jv w3 g3
  replace G := G.step0 g3; replace hx := hx.step0 g3; replace hk := hk.step0 g3; replace B4 := B4.step0 g3
  refine o_v v_assign ?_
  refine o_end (k2 _ _ ?_)
  refine s_ret (post1 rfl ?_)
  exact ⟨rfl, G⟩
theorem f153_calls {S : Nat → Prop} (s : Seller) (cs : List Value) (kf k : Nat) (wA : Option Addr) (n wc : Nat) (w : World) (hs : sellT.rep w S s cs) (hf : Blk w kf [.func (.func 149) #[] #[ptr k]] 68) (hk : Blk w k [.slice wA n wc] 56) :
  Calls Tryz.prog 153 #[.agg cs.toArray, ptr kf] w fun e w' => e = .returned (.bool (badSell n s)) ∧ w.grownBy w' none := by
 obtain ⟨sA, sc, pA, pc, rfl, ⟨h11, h12, h1⟩, ⟨h21, h22, h2⟩⟩ := sellT_iff.1 hs
 refine s_enter (n := 20) Tryz.func153 rfl rfl rfl ?_
 have G := grown_refl w none
 refine s_rseq fun _ k1 => ?_
 refine o_box (t := 103) rfl ?_; intro w1 B2 g1 z1
 replace G := G.step0 g1; replace hf := hf.step0 g1; replace hk := hk.step0 g1
 refine o_v v_assign ?_
 refine o_end (k1 _ _ ?_)
 refine s_rseq fun _ k2 => ?_
 refine o_v (v_field rfl fld103_0) ?_
 refine o_v (v_loadB rfl sc3 B2 rfl) ?_
 refine o_call rfl rfl ent100 (f100_calls _ _ _ _) ?_; rintro _ w2 ⟨rfl, g2⟩; refine ⟨_, rfl, ?_⟩
 replace G := G.step0 g2; replace hf := hf.step0 g2; replace hk := hk.step0 g2; replace B2 := B2.step0 g2
 refine o_v (v_not rfl) ?_
 refine o_v v_move ?_
 refine o_mid (G := Unit) 5 (fun _ => [(13, .bool ((!inB s.parcel 0 1000) || badPr n 100 s.stock))]) [13] [9, 10, 11, 12] (fun _ w' => w2.grownBy w' none) (fun _ => rfl) ?_ ?_
 ·have H1 := grown_refl w2 none
  rcases Bool.eq_false_or_eq_true ((!inB s.parcel 0 1000)) with hX1 | hX1
  ·refine g_no rfl rfl rfl hX1 ?_
   refine g_no rfl rfl rfl hX1 ?_
   refine g_no rfl rfl rfl hX1 ?_
   refine g_no rfl rfl rfl hX1 ?_
   refine o_v (v_pick_t rfl hX1) ?_
   refine o_end (mid () ?_ ?_ ?_)
   ·repeat (first | exact off_refl | refine off_cons rfl ?_)
   ·exact ⟨by rw [hX1]; rfl, trivial⟩
   ·exact H1
  ·refine g_yes rfl rfl rfl hX1 ?_
   refine o_v (v_loadB rfl sc68 hf rfl) ?_
   refine g_yes rfl rfl rfl hX1 ?_
   refine o_v (v_field rfl fld103_1) ?_
   refine g_yes rfl rfl rfl hX1 ?_
   refine o_v (v_loadB rfl sc56 B2 rfl) ?_
   refine g_yes rfl rfl rfl hX1 ?_
   refine o_call (cap := [ptr k]) rfl rfl ent149 (f149_calls sA sc s.stock 100 k wA n wc _ (h1.step0 G) (Nat.le_trans h11 h12) hk) ?_; rintro _ w3 ⟨rfl, g3⟩; refine ⟨_, rfl, ?_⟩
   replace G := G.step0 g3; replace hf := hf.step0 g3; replace hk := hk.step0 g3; replace B2 := B2.step0 g3; replace H1 := H1.step0 g3
   refine o_v (v_pick_f rfl hX1) ?_
   refine o_end (mid () ?_ ?_ ?_)
   ·repeat (first | exact off_refl | refine off_cons rfl ?_)
   ·exact ⟨by rw [hX1]; rfl, trivial⟩
   ·exact H1
 ·rintro _ jv w4 g4
  replace G := G.step0 g4; replace hf := hf.step0 g4; replace hk := hk.step0 g4; replace B2 := B2.step0 g4
  refine o_v v_move ?_
  refine o_mid (G := Unit) 5 (fun _ => [(19, .bool (((!inB s.parcel 0 1000) || badPr n 100 s.stock) || badPr n 1000 s.price))]) [19] [15, 16, 17, 18] (fun _ w' => w4.grownBy w' none) (fun _ => rfl) ?_ ?_
  ·have H2 := grown_refl w4 none
   rcases Bool.eq_false_or_eq_true (((!inB s.parcel 0 1000) || badPr n 100 s.stock)) with hX2 | hX2
   ·refine g_no rfl rfl rfl hX2 ?_
    refine g_no rfl rfl rfl hX2 ?_
    refine g_no rfl rfl rfl hX2 ?_
    refine g_no rfl rfl rfl hX2 ?_
    refine o_v (v_pick_t rfl hX2) ?_
    refine o_end (mid () ?_ ?_ ?_)
    ·repeat (first | exact off_refl | refine off_cons rfl ?_)
    ·exact ⟨by rw [hX2]; rfl, trivial⟩
    ·exact H2
   ·refine g_yes rfl rfl rfl hX2 ?_
    refine o_v (v_loadB rfl sc68 hf rfl) ?_
    refine g_yes rfl rfl rfl hX2 ?_
    refine o_v (v_field rfl fld103_2) ?_
    refine g_yes rfl rfl rfl hX2 ?_
    refine o_v (v_loadB rfl sc56 B2 rfl) ?_
    refine g_yes rfl rfl rfl hX2 ?_
    refine o_call (cap := [ptr k]) rfl rfl ent149 (f149_calls pA pc s.price 1000 k wA n wc _ (h2.step0 G) (Nat.le_trans h21 h22) hk) ?_; rintro _ w5 ⟨rfl, g5⟩; refine ⟨_, rfl, ?_⟩
    replace G := G.step0 g5; replace hf := hf.step0 g5; replace hk := hk.step0 g5; replace B2 := B2.step0 g5; replace H2 := H2.step0 g5
    refine o_v (v_pick_f rfl hX2) ?_
    refine o_end (mid () ?_ ?_ ?_)
    ·repeat (first | exact off_refl | refine off_cons rfl ?_)
    ·exact ⟨by rw [hX2]; rfl, trivial⟩
    ·exact H2
  ·rintro _ jv w6 g6
   replace G := G.step0 g6; replace hf := hf.step0 g6; replace hk := hk.step0 g6; replace B2 := B2.step0 g6
   refine o_v v_assign ?_
   refine o_end (k2 _ _ ?_)
   refine s_ret (post1 rfl ?_)
   exact ⟨rfl, G⟩
theorem f105_calls {S T : Nat → Prop} (lA : Option Addr) (lc : Nat) (l : List Seller) (wA : Option Addr) (wc : Nat) (wants : List Int) (w : World) (hl : sellT.Sl w S lA l) (hm : l.length ≤ lc ∧ lc ≤ maxLen) (hw : Ty.int.Sl w T wA wants) (hm2 : wants.length ≤ wc ∧ wc ≤ maxLen) :
  Calls Tryz.prog 105 #[.slice lA l.length lc, .slice wA wants.length wc] w fun e w' => e = .returned (.bool (sellersB l wants)) ∧ w.grownBy w' none := by
 refine s_enter (n := 27) Tryz.func105 rfl rfl rfl ?_
 have G := grown_refl w none
 refine s_rseq fun _ k1 => ?_
 refine o_box (t := 56) rfl ?_; intro w1 B3 g1 z1
 replace G := G.step0 g1; replace hl := hl.step0 g1; replace hw := hw.step0 g1
 refine o_v v_assign ?_
 refine o_end (k1 _ _ ?_)
 refine s_rseq fun _ k2 => ?_
 refine o_v v_func ?_
 refine o_allocst ze68 rfl rfl rfl sz68 rfl rfl rfl ?_; intro w2 B5 g2 z2
 replace G := G.step0 g2; replace hl := hl.step0 g2; replace hw := hw.step0 g2; replace B3 := B3.step0 g2
 refine o_end (k2 _ _ ?_)
 refine s_rseq fun _ k3 => ?_
 refine o_v v_move ?_
 refine o_v (v_len rfl Tryz.underlying87) ?_
 refine o_call rfl rfl ent100 (f100_calls _ _ _ _) ?_; rintro _ w3 ⟨rfl, g3⟩; refine ⟨_, rfl, ?_⟩
 replace G := G.step0 g3; replace hl := hl.step0 g3; replace hw := hw.step0 g3; replace B3 := B3.step0 g3; replace B5 := B5.step0 g3
 refine o_v v_move ?_
 refine o_mid (G := Unit) 4 (fun _ => [(14, .bool (inB l.length 1 4 && inB wants.length 1 5))]) [14] [11, 12, 13] (fun _ w' => w3.grownBy w' none) (fun _ => rfl) ?_ ?_
 ·have H1 := grown_refl w3 none
  rcases Bool.eq_false_or_eq_true (inB l.length 1 4) with hX1 | hX1
  ·refine g_yes rfl rfl rfl hX1 ?_
   refine o_v (v_loadB rfl sc56 B3 rfl) ?_
   refine g_yes rfl rfl rfl hX1 ?_
   refine o_v (v_len rfl Tryz.underlying56) ?_
   refine g_yes rfl rfl rfl hX1 ?_
   refine o_call rfl rfl ent100 (f100_calls _ _ _ _) ?_; rintro _ w4 ⟨rfl, g4⟩; refine ⟨_, rfl, ?_⟩
   replace G := G.step0 g4; replace hl := hl.step0 g4; replace hw := hw.step0 g4; replace B3 := B3.step0 g4; replace B5 := B5.step0 g4; replace H1 := H1.step0 g4
   refine o_v (v_pick_t rfl hX1) ?_
   refine o_end (mid () ?_ ?_ ?_)
   ·repeat (first | exact off_refl | refine off_cons rfl ?_)
   ·exact ⟨by rw [hX1]; rfl, trivial⟩
   ·exact H1
  ·refine g_no rfl rfl rfl hX1 ?_
   refine g_no rfl rfl rfl hX1 ?_
   refine g_no rfl rfl rfl hX1 ?_
   refine o_v (v_pick_f rfl hX1) ?_
   refine o_end (mid () ?_ ?_ ?_)
   ·repeat (first | exact off_refl | refine off_cons rfl ?_)
   ·exact ⟨by rw [hX1]; rfl, trivial⟩
   ·exact H1
 ·rintro _ jv w5 g5
  replace G := G.step0 g5; replace hl := hl.step0 g5; replace hw := hw.step0 g5; replace B3 := B3.step0 g5; replace B5 := B5.step0 g5
  refine o_v v_move ?_
  refine o_mid (G := Unit) 5 (fun _ => [(20, .bool ((inB l.length 1 4 && inB wants.length 1 5) && (!badPr wants.length 400 wants)))]) [20] [16, 17, 18, 19] (fun _ w' => w5.grownBy w' none) (fun _ => rfl) ?_ ?_
  ·have H2 := grown_refl w5 none
   rcases Bool.eq_false_or_eq_true ((inB l.length 1 4 && inB wants.length 1 5)) with hX2 | hX2
   ·refine g_yes rfl rfl rfl hX2 ?_
    refine o_v (v_loadB rfl sc68 B5 rfl) ?_
    refine g_yes rfl rfl rfl hX2 ?_
    refine o_v (v_loadB rfl sc56 B3 rfl) ?_
    refine g_yes rfl rfl rfl hX2 ?_
    refine o_call (cap := [ptr w.heap.size]) rfl rfl ent149 (f149_calls wA wc wants 400 w.heap.size wA wants.length wc _ hw (Nat.le_trans hm2.1 hm2.2) B3) ?_; rintro _ w6 ⟨rfl, g6⟩; refine ⟨_, rfl, ?_⟩
    replace G := G.step0 g6; replace hl := hl.step0 g6; replace hw := hw.step0 g6; replace B3 := B3.step0 g6; replace B5 := B5.step0 g6; replace H2 := H2.step0 g6
    refine g_yes rfl rfl rfl hX2 ?_
    refine o_v (v_not rfl) ?_
    refine o_v (v_pick_t rfl hX2) ?_
    refine o_end (mid () ?_ ?_ ?_)
    ·repeat (first | exact off_refl | refine off_cons rfl ?_)
    ·exact ⟨by rw [hX2]; rfl, trivial⟩
    ·exact H2
   ·refine g_no rfl rfl rfl hX2 ?_
    refine g_no rfl rfl rfl hX2 ?_
    refine g_no rfl rfl rfl hX2 ?_
    refine g_no rfl rfl rfl hX2 ?_
    refine o_v (v_pick_f rfl hX2) ?_
    refine o_end (mid () ?_ ?_ ?_)
    ·repeat (first | exact off_refl | refine off_cons rfl ?_)
    ·exact ⟨by rw [hX2]; rfl, trivial⟩
    ·exact H2
  ·rintro _ jv w7 g7
   replace G := G.step0 g7; replace hl := hl.step0 g7; replace hw := hw.step0 g7; replace B3 := B3.step0 g7; replace B5 := B5.step0 g7
   refine o_v v_move ?_
   refine o_mid (G := Unit) 5 (fun _ => [(26, .bool (((inB l.length 1 4 && inB wants.length 1 5) && (!badPr wants.length 400 wants)) && (!l.any (badSell wants.length))))]) [26] [22, 23, 24, 25] (fun _ w' => w7.grownBy w' none) (fun _ => rfl) ?_ ?_
   ·have H3 := grown_refl w7 none
    rcases Bool.eq_false_or_eq_true (((inB l.length 1 4 && inB wants.length 1 5) && (!badPr wants.length 400 wants))) with hX3 | hX3
    ·refine g_yes rfl rfl rfl hX3 ?_
     refine o_v v_move ?_
     refine g_yes rfl rfl rfl hX3 ?_
     refine o_v v_func ?_
     refine g_yes rfl rfl rfl hX3 ?_
     refine o_call rfl rfl ent152 (f152_calls sellT rfl (badSell wants.length) lA lc l 153 [ptr w1.heap.size] _ hl (by have := hm; rw [maxLen_val] at this; omega) ent153 (fun y cs W hy hg hrep => f153_calls y cs w1.heap.size w.heap.size wA wants.length wc W hrep (B5.step0 hg) (B3.step0 hg))) ?_; rintro _ w8 ⟨rfl, g8⟩; refine ⟨_, rfl, ?_⟩
     replace G := G.step0 g8; replace hl := hl.step0 g8; replace hw := hw.step0 g8; replace B3 := B3.step0 g8; replace B5 := B5.step0 g8; replace H3 := H3.step0 g8
     refine g_yes rfl rfl rfl hX3 ?_
     refine o_v (v_not rfl) ?_
     refine o_v (v_pick_t rfl hX3) ?_
     refine o_end (mid () ?_ ?_ ?_)
     ·repeat (first | exact off_refl | refine off_cons rfl ?_)
     ·exact ⟨by rw [hX3]; rfl, trivial⟩
     ·exact H3
    ·refine g_no rfl rfl rfl hX3 ?_
     refine g_no rfl rfl rfl hX3 ?_
     refine g_no rfl rfl rfl hX3 ?_
     refine g_no rfl rfl rfl hX3 ?_
     refine o_v (v_pick_f rfl hX3) ?_
     refine o_end (mid () ?_ ?_ ?_)
     ·repeat (first | exact off_refl | refine off_cons rfl ?_)
     ·exact ⟨by rw [hX3]; rfl, trivial⟩
     ·exact H3
   ·rintro _ jv w9 g9
    replace G := G.step0 g9; replace hl := hl.step0 g9; replace hw := hw.step0 g9; replace B3 := B3.step0 g9; replace B5 := B5.step0 g9
    refine o_v v_assign ?_
    refine o_end (k3 _ _ ?_)
    refine s_ret (post1 rfl ?_)
    exact ⟨rfl, G⟩
end Go.Proofs.NV
namespace Go.Proofs.NV
open Go.RowKit Go.Shelf
attribute [local irreducible] bodyPost bodyPostM wpQuiet
def Dr (w : World) : World → Prop := fun w' => ∃ q, w' = w.drewN q
theorem Dr.grown {w w' : World} (h : Dr w w') : w.grownBy w' none := by obtain ⟨q, rfl⟩ := h; exact grown_drewN w q none
section
variable {P : Program} {ops : Array Oper} {Qa : Act → Prop} {rest : List Oper} {n : Nat} {e : Env} {w : World} {d : Nat} {ty : TypeId} {ps : String} {af : Array Edge}
theorem s_quietD {Q : Exit → Act → World → Prop} {id : Nat} {l : List Oper} (hm : P.follows .mixedOrders = true) (hB : Region.lexB .any l.toArray = true)
  (h : wpQuiet P l.toArray (Dr w) (fun a' => ∀ w', Dr w w' → Q .normal a' w') l (act n e [])) : (Code.region id l.toArray true).wpIn (Fw none) 0 P Q (act n e []) w :=
 wpIn_wide.2 (wp_region_quiet (C := Dr w) hm hB ⟨1, rfl⟩ h)
end
end Go.Proofs.NV
namespace Go.Proofs.NV
section
variable {P : Program} {ops : Array Oper} {Qa : Act → Prop} {rest : List Oper} {n : Nat} {e : Env} {w : World} {d : Nat} {ty : TypeId} {ps : String} {af : Array Edge}
theorem qd_v {op : Op} {v : Value} (hrun : ∀ w', w.grownBy w' none → (execOp (ev n e) ⟨some d, op, ty, ps, af, none⟩).run P w' = .ok (.value v) w') (h : wpQuiet P ops (Dr w) Qa rest (act n ((d, v) :: e) [])) :
  wpQuiet P ops (Dr w) Qa (⟨some d, op, ty, ps, af, none⟩ :: rest) (act n e []) := by
 simp only [wpQuiet]
 rw [if_pos (by rfl)]
 refine ⟨v, ?_, by rw [act_put]; exact h⟩
 intro w' hg
 unfold Oper.quietAt
 rw [act_eval, hrun w' hg.grown]
 exact ⟨rfl, rfl⟩
theorem qd_end (h : Qa (act n e [])) : wpQuiet P ops (Dr w) Qa [] (act n e []) := h
end
attribute [local irreducible] bodyPost bodyPostM wpQuiet
def priceAt (l : List Seller) (x : Nat) (g : Int) : Int := ((l[x]?.map (·.price)).getD [])[g.toNat]?.getD 0
theorem f156_calls {S : Nat → Prop} (l : List Seller) (lA : Option Addr) (lc k3 k10 : Nat) (g : Int) (x y : Nat) (w : World) (B3 : Blk w k3 [.slice lA l.length lc] 87) (B10 : Blk w k10 [I g] 3) (hl : sellT.Sl w S lA l) (hx : x < l.length) (hy : y < l.length)
  (hg : ∀ s ∈ l, 0 ≤ g ∧ g < s.price.length) (hb : ∀ s ∈ l, ∀ p ∈ s.price, 0 ≤ p ∧ p ≤ 1000000) :
  Calls Tryz.prog 156 #[I x, I y, ptr k3, ptr k10] w fun e w' => e = .returned (I (priceAt l x g - priceAt l y g)) ∧ Dr w w' := by
 refine s_enter (n := 24) Tryz.func156 rfl rfl rfl ?_
 have G := grown_refl w none
 refine s_rseq fun _ k1 => ?_
 refine o_v v_assign ?_
 refine o_end (k1 _ _ ?_)
 refine s_seq fun _ k2 => ?_; refine s_quietD mixed (by kernel_rfl) ?_
 obtain ⟨bx, ox, cx, hA, _, hrepx, hrx⟩ := hl.get x hx
 obtain ⟨by_, oy, cy, hA2, _, hrepy, hry⟩ := hl.get y hy
 rw [hA] at hA2
 obtain ⟨rfl, rfl⟩ : bx = by_ ∧ ox = oy := by simpa using hA2
 subst hA
 obtain ⟨sA1, sc1, pA1, pc1, rfl, _, hx1, hx2, hx3⟩ := sellT_iff.1 hrepx
 obtain ⟨sA2, sc2, pA2, pc2, rfl, _, hy1, hy2, hy3⟩ := sellT_iff.1 hrepy
 rw [sellT_sz] at hrx hry
 have hp1 := hrx 2 _ rfl
 have hp2 := hry 2 _ rfl
 have hgx := hg _ (List.getElem_mem hx)
 have hgy := hg _ (List.getElem_mem hy)
 obtain ⟨b1, o1, rfl, hc1⟩ := hx3.int g.toNat (by omega)
 obtain ⟨b2, o2, rfl, hc2⟩ := hy3.int g.toNat (by omega)
 have hbx := hb _ (List.getElem_mem hx) _ (List.getElem_mem (show g.toNat < l[x].price.length by omega))
 have hby := hb _ (List.getElem_mem hy) _ (List.getElem_mem (show g.toNat < l[y].price.length by omega))
 refine qd_v (fun _ gq => v_loadB rfl sc87 (B3.step0 gq) rfl) ?_
 refine qd_v (fun _ gq => v_move) ?_
 refine qd_v (fun _ gq => v_index rfl rfl slt87 (by omega)) ?_
 refine qd_v (fun _ gq => v_field rfl fld103_2) ?_
 refine qd_v (fun _ gq => v_loadC rfl sc56 (cell0 gq (by simpa using hp1))) ?_
 refine qd_v (fun _ gq => v_loadB rfl sc3 (B10.step0 gq) rfl) ?_
 refine qd_v (fun _ gq => v_index rfl rfl slt56 (by omega)) ?_
 refine qd_v (fun _ gq => v_loadC rfl sc3 (cell0 gq hc1)) ?_
 refine qd_v (fun _ gq => v_loadB rfl sc87 (B3.step0 gq) rfl) ?_
 refine qd_v (fun _ gq => v_move) ?_
 refine qd_v (fun _ gq => v_index rfl rfl slt87 (by omega)) ?_
 refine qd_v (fun _ gq => v_field rfl fld103_2) ?_
 refine qd_v (fun _ gq => v_loadC rfl sc56 (cell0 gq (by simpa using hp2))) ?_
 refine qd_v (fun _ gq => v_loadB rfl sc3 (B10.step0 gq) rfl) ?_
 refine qd_v (fun _ gq => v_index rfl rfl slt56 (by omega)) ?_
 refine qd_v (fun _ gq => v_loadC rfl sc3 (cell0 gq hc2)) ?_
 refine qd_v (fun _ gq => v_sub rfl rfl (by omega)) ?_
 refine qd_v (fun _ gq => v_assign) ?_
 refine qd_end (fun w1 g1 => k2 _ _ ?_)
 refine s_ret (post1 rfl ?_)
 refine ⟨ret_int ?_, g1⟩
 unfold priceAt
 rw [List.getElem?_eq_getElem hx, List.getElem?_eq_getElem hy, Option.map_some, Option.map_some, Option.getD_some, Option.getD_some, List.getElem?_eq_getElem (show g.toNat < l[x].price.length by omega), List.getElem?_eq_getElem (show g.toNat < l[y].price.length by omega)]
 rfl
theorem Dr.of {w : World} {q : Nat} : Dr w (w.drewN q) := ⟨q, rfl⟩
theorem holdsE {α : Type} [Inhabited α] {enc : α → Value} {w : World} {b : Nat} {ys : List α} {cs : List Value} (hb : Blk w b cs 3) (hc : cs.take ys.length = ys.map enc) : Go.Sort.Holds enc w b 0 ys.toArray := fun j hj => by
 have hj' : j < ys.length := by simpa using hj
 refine ⟨?_, ?_⟩
 ·rw [hb.cell, Nat.zero_add, ← List.getElem?_take_of_lt hj', hc, List.getElem?_map, List.getElem?_eq_getElem hj']
  simp [hj']
 ·simp only [World.frozen?]; rw [show w.heap[(⟨b, 0 + j, none⟩ : Addr).block]? = _ from hb]; simp
theorem put_grownE {α : Type} [Inhabited α] {enc : α → Value} {w : World} {b q : Nat} {xs ys : List α} {cs : List Value} {os : Array Obj} (hb : Blk w b cs 3) (hc : cs.take xs.length = xs.map enc) (hl : ys.length = xs.length) (hxl : xs.length ≤ cs.length) :
  Blk (sortWorld enc w b 0 q ys.toArray os) b (over cs 0 (ys.map enc)) 3 ∧ w.grownBy (sortWorld enc w b 0 q ys.toArray os) (some b) := by
 unfold sortWorld
 rw [Lib.sorted_world enc w b 0 q xs.toArray ys os (holdsE hb hc) (by simpa using hl)]
 have hb2 : Blk (w.drewN q) b cs 3 := hb
 have h1 := setCells_blk (ys.map enc) 0 hb2 (by simp; omega)
 have h2 := (setCells_grown b (ys.map enc) 0 (w.drewN q)).1
 have h3 := grown_grow ((w.drewN q).setCells b 0 (ys.map enc)) os
 exact ⟨h1.step0 h3, World.grownBy.trans (World.grownBy.trans (grown_drewN w q (some b)) h2) (grown_weak h3)⟩
theorem f154_own {S : Nat → Prop} (v : Value) (xs : List Int) (w : World) (hR : Ty.int.Row 3 w S v xs) (hm : xs.length ≤ 1000000) (h0 : 0 < xs.length) :
  Calls Tryz.prog 154 #[v] w fun e w' => (∃ u, e = .returned u) ∧ Ty.int.Row 3 w' S v xs.reverse ∧ w.grownBy w' v.ownBlock := by
 obtain ⟨g, cap, cs, hv, hS, hB, hl, hc, hm2, hreps⟩ := hR.open_ h0
 have hcs := reps_int_eq hreps
 rw [show xs.length * Ty.int.sz = xs.length from Nat.mul_one _] at hcs
 have hl' : cs.length = cap := by simpa [Ty.int, Ty.scalar] using hl
 refine Calls.mono (calls_every (args := #[v]) (f := 154) (n := 0) fun D => by
  have := AnyS.slices_Reverse_int_in Tryz.laysRev D g 0 cap xs w (holds_blk hB hcs) (by omega)
  rw [hv]; exact this) ?_
 rintro e w' ⟨rfl, q, rfl⟩
 obtain ⟨hB', hg'⟩ := put_grown (ys := xs.reverse) (q := q) (os := #[]) hB hcs (by simp) (by omega)
 rw [Go.Sort.grow_empty] at hB' hg'
 refine ⟨⟨_, rfl⟩, ?_, by rw [hv]; exact hg'⟩
 have hov : (over cs 0 (xs.reverse.map I)).take xs.reverse.length = xs.reverse.map I := by
  unfold over
  rw [List.take_zero, List.nil_append]
  exact List.take_left' (by simp)
 have := Ty.Row.close (t := Ty.int) (S := S) (ys := xs.reverse) hS hB' (by rw [over_length (by simp; omega)]; exact hl) (by rw [List.length_reverse]; exact hc) hm2 (by rw [show xs.reverse.length * Ty.int.sz = xs.reverse.length from Nat.mul_one _, hov]; exact reps_int _)
 rw [List.length_reverse] at this
 rw [hv]
 exact this
theorem f154_empty (A : Option Addr) (c : Nat) (w : World) : Calls Tryz.prog 154 #[.slice A 0 c] w fun e w' => (∃ u, e = .returned u) ∧ w.grownBy w' none := by
 refine Calls.mono (calls_every (args := #[.slice A 0 c]) (f := 154) (n := 0) fun D => AnyS.slices_Reverse_int_empty_in Tryz.laysRev D A c w) ?_
 rintro e w' ⟨rfl, rfl⟩
 exact ⟨⟨_, rfl⟩, grown_refl _ _⟩
def encX (k : Nat) (x : Fin (k + 1)) : Value := I (x.val : Int)
def ixs {k : Nat} (ys : List (Fin (k + 1))) : List Int := ys.map fun y => (y.val : Int)
theorem ixs_map {k : Nat} (ys : List (Fin (k + 1))) : (ixs ys).map I = ys.map (encX k) := by unfold ixs encX; rw [List.map_map]; rfl
def byPrice (l : List Seller) (g : Int) (k : Nat) (ys : List (Fin (k + 1))) : List (Fin (k + 1)) := (Go.Sort.insertionSort (ltOf fun x y : Fin (k + 1) => priceAt l x.val g - priceAt l y.val g) ys.toArray 0 ys.length).toList
theorem insInner_size {α : Type} [Inhabited α] (lt : α → α → Bool) (a : Nat) : ∀ (j : Nat) (d : Array α), (Go.Sort.insInner lt a j d).size = d.size
 | 0, d => rfl
 | j + 1, d => by
  unfold Go.Sort.insInner
  split
  ·rw [insInner_size lt a j]; exact Go.Sort.size_swp _ _ _
  ·rfl
theorem insOuter_size {α : Type} [Inhabited α] (lt : α → α → Bool) (a b : Nat) : ∀ (m i : Nat) (d : Array α), b - i ≤ m → (Go.Sort.insOuter lt a b i d).size = d.size := by
 intro m
 induction m with
 | zero => intro i d h; rw [Go.Sort.insOuter, if_neg (by omega)]
 | succ m ih =>
  intro i d h
  rw [Go.Sort.insOuter]
  split
  ·rw [ih _ _ (by omega), insInner_size]
  ·rfl
theorem byPrice_len (l : List Seller) (g : Int) (k : Nat) (ys : List (Fin (k + 1))) : (byPrice l g k ys).length = ys.length := by
 unfold byPrice Go.Sort.insertionSort
 rw [Array.length_toList, insOuter_size _ _ _ _ _ _ (Nat.le_refl _)]
 simp
theorem f210_empty (v fv : Value) (w : World) :
  Calls Tryz.prog 210 #[v, I 0, I 0, fv] w fun e w' => (∃ u, e = .returned u) ∧ w.grownBy w' none := by
 refine s_enter (n := 53) Tryz.func210 rfl rfl rfl ?_
 have G := grown_refl w none
 refine s_rseq fun _ k1 => ?_
 refine o_v v_move ?_
 refine o_v (v_add rfl rfl (by omega)) ?_
 refine o_v v_assign ?_
 refine o_end (k1 _ _ ?_)
 refine s_block ?_
 refine s_loop (G := Unit) (fun g => [(8, I 1)]) [8] [9, 12, 13, 14, 15, 16, 17, 18, 19, 20, 21, 22, 23, 24, 25, 26, 27, 28, 29, 30, 31, 32, 33, 34, 35, 36, 37, 38, 39, 40, 41, 42, 43, 44, 45, 46, 47, 48, 49, 50, 51, 52] (fun g W => w.grownBy W none) (fun g => 0) (fun _ => rfl) () ⟨rfl, trivial⟩ (grown_refl _ _) ?_
 rintro g jv w1 g1
 replace G := G.step0 g1
 refine s_seq fun _ k2 => ?_
 refine s_rseq fun _ k3 => ?_
 refine o_v v_move ?_
 refine o_v v_move ?_
 refine o_v (v_lss rfl rfl) ?_
 refine o_end (k3 _ _ ?_)
 refine s_ifd rfl (fun c3 => ?_) (fun c3 => ?_)
 ·exact absurd c3 (by decide)
 ·refine s_exit ?_
  exact post0n rfl ⟨⟨_, rfl⟩, G⟩
theorem f210_own {S T : Nat → Prop} (l : List Seller) (k : Nat) (hl1 : l.length = k + 1) (lA : Option Addr) (lc k3 k10 : Nat) (g : Int) (v : Value) (ys : List (Fin (k + 1))) (w : World) (hR : Ty.int.Row 3 w S v (ixs ys)) (hm : ys.length ≤ 1000000) (h0 : 0 < ys.length)
  (B3 : Blk w k3 [.slice lA l.length lc] 87) (B10 : Blk w k10 [I g] 3) (hl : sellT.Sl w T lA l) (hne : ∀ b, v.ownBlock = some b → b ≠ k3 ∧ b ≠ k10 ∧ ∀ j, T j → j ≠ b) (hg : ∀ s ∈ l, 0 ≤ g ∧ g < s.price.length) (hb : ∀ s ∈ l, ∀ p ∈ s.price, 0 ≤ p ∧ p ≤ 1000000) :
  Calls Tryz.prog 210 #[v, I 0, I ys.length, .func (.func 156) #[] #[ptr k3, ptr k10]] w fun e w' => (∃ u, e = .returned u) ∧ Ty.int.Row 3 w' S v (ixs (byPrice l g k ys)) ∧ w.grownBy w' v.ownBlock := by
 have hxl : (ixs ys).length = ys.length := by unfold ixs; simp
 obtain ⟨b, cap, cs, hv, hS, hB, hlc, hc, hm2, hreps⟩ := hR.open_ (by omega)
 have hcs := reps_int_eq hreps
 rw [show (ixs ys).length * Ty.int.sz = (ixs ys).length from Nat.mul_one _, ixs_map, hxl] at hcs
 have hl' : cs.length = cap := by simpa [Ty.int, Ty.scalar] using hlc
 rw [hxl] at hv hc
 have hown : v.ownBlock = some b := by rw [hv]; rfl
 obtain ⟨n3, n10, nT⟩ := hne b hown
 have hO : OneCell (encX k) := fun x => rfl
 have hcmp : CmpReads Tryz.prog 156 #[ptr k3, ptr k10] (encX k) (fun x y : Fin (k + 1) => priceAt l x.val g - priceAt l y.val g) b 0 ys.toArray.size w := by
  intro m os dk hdk x y
  have hpg := put_grownE (enc := encX k) (xs := ys) (ys := dk.toList) (q := m) (os := os) hB hcs (by simpa using hdk) (by omega)
  rw [Array.toArray_toList] at hpg
  have := f156_calls l lA lc k3 k10 g x.val y.val (sortWorld (encX k) w b 0 m dk os) (B3.step hpg.2 (by simp; omega)) (B10.step hpg.2 (by simp; omega)) (hl.step hpg.2 (fun j hj e => nT j hj (by injection e))) (by have := x.isLt; omega) (by have := y.isLt; omega) hg hb
  exact this
 have hcall := Any.insertionSortCmpFunc_one Tryz.laysIns (encX k) hO (fun x y : Fin (k + 1) => priceAt l x.val g - priceAt l y.val g) 156 #[ptr k3, ptr k10] b 0 cap 0 ys.length ys.toArray w ent156 hcmp (holdsE hB hcs) (Nat.zero_le _) (by simp) (by simp; omega)
 rw [List.size_toArray] at hcall
 rw [hv]
 refine Calls.mono hcall ?_
 rintro e w' ⟨rfl, q, rfl⟩
 have hbl : (byPrice l g k ys).length = ys.length := byPrice_len l g k ys
 have hpg := put_grownE (enc := encX k) (xs := ys) (ys := byPrice l g k ys) (q := q) (os := #[]) hB hcs hbl (by omega)
 have hw : sortWorld (encX k) w b 0 q (byPrice l g k ys).toArray #[] = (Go.Sort.putRow (encX k) w b 0 (Go.Sort.insertionSort (ltOf fun x y : Fin (k + 1) => priceAt l x.val g - priceAt l y.val g) ys.toArray 0 ys.length)).drewN q := by
  rw [sortWorld_none]
  unfold byPrice
  rw [Array.toArray_toList]
 rw [hw] at hpg
 refine ⟨⟨_, rfl⟩, ?_, by rw [← hv, hown]; exact hpg.2⟩
 have hov : (over cs 0 ((byPrice l g k ys).map (encX k))).take (byPrice l g k ys).length = (byPrice l g k ys).map (encX k) := by
  unfold over
  rw [List.take_zero, List.nil_append]
  exact List.take_left' (by simp)
 have hxl2 : (ixs (byPrice l g k ys)).length = ys.length := by unfold ixs; rw [List.length_map, hbl]
 have := Ty.Row.close (t := Ty.int) (S := S) (ys := ixs (byPrice l g k ys)) hS hpg.1 (by rw [over_length (by rw [List.length_map, hbl]; omega)]; exact hlc) (by rw [hxl2]; exact hc) hm2 (by rw [show (ixs (byPrice l g k ys)).length * Ty.int.sz = (ixs (byPrice l g k ys)).length from Nat.mul_one _, hxl2, ← hbl, hov, ← ixs_map]; exact reps_int _)
 rw [hxl2] at this
 exact this
theorem f189_few (Post : World → Prop) (v fv : Value) (n : Nat) (hn : n ≤ 19) (w : World) (hc : Calls Tryz.prog 210 #[v, I 0, I n, fv] w fun e w' => (∃ u, e = .returned u) ∧ Post w') :
  Calls Tryz.prog 189 #[v, I n, fv] w fun e w' => (∃ u, e = .returned u) ∧ Post w' := by
 refine s_enter (n := 63) Tryz.func189 rfl rfl rfl ?_
 have G := grown_refl w none
 refine s_rseq fun _ k1 => ?_
 refine o_v v_assign ?_
 refine o_end (k1 _ _ ?_)
 refine s_rseq fun _ k2 => ?_
 refine o_v v_move ?_
 refine o_v v_assign ?_
 refine o_v v_assign ?_
 refine o_end (k2 _ _ ?_)
 refine s_seq fun _ k3 => ?_
 refine s_block ?_
 refine s_loop (G := Unit) (fun g => [(7, I 0), (8, I 20)]) [7, 8] [11, 12, 13, 14, 15, 16, 17, 18, 19, 20, 21, 22] (fun g W => W = w) (fun g => 0) (fun _ => rfl) () ⟨rfl, rfl, trivial⟩ rfl ?_
 rintro g jv w1 rfl
 refine s_seq fun _ k4 => ?_
 refine s_rseq fun _ k5 => ?_
 refine o_v v_move ?_
 refine o_v v_move ?_
 refine o_v (v_leq rfl rfl) ?_
 refine o_end (k5 _ _ ?_)
 refine s_ifd rfl (fun c5 => ?_) (fun c5 => ?_)
 ·exact absurd c5 (by omega)
 ·refine s_exit ?_
  refine k3 _ _ ?_
  refine s_rseq fun _ k8 => ?_
  refine o_v v_move ?_
  refine o_v v_move ?_
  refine o_v v_move ?_
  refine o_v v_move ?_
  refine o_call rfl rfl ent210 hc ?_; rintro _ w3 ⟨⟨u, rfl⟩, hpost⟩; refine ⟨_, rfl, ?_⟩
  refine o_end (k8 _ _ ?_)
  refine s_block ?_
  refine s_loop (G := Unit) (fun g => [(6, I 20)]) [6] [7, 8, 9, 28, 29, 30, 31, 32, 33, 34, 35, 36, 37, 38, 39, 40, 41, 42, 43, 44, 45, 46, 47, 48, 49, 50, 51, 52, 53, 54, 55, 56, 57, 58, 59, 60, 61, 62] (fun g W => W = w3) (fun g => 0) (fun _ => rfl) () ⟨rfl, trivial⟩ rfl ?_
  rintro g jv w4 rfl
  refine s_seq fun _ k9 => ?_
  refine s_rseq fun _ k10 => ?_
  refine o_v v_move ?_
  refine o_v v_move ?_
  refine o_v (v_lss rfl rfl) ?_
  refine o_end (k10 _ _ ?_)
  refine s_ifd rfl (fun c10 => ?_) (fun c10 => ?_)
  ·exact absurd c10 (by omega)
  ·refine s_exit ?_
   exact post0n rfl ⟨⟨_, rfl⟩, hpost⟩
theorem f155_few (Post : World → Prop) (A : Option Addr) (c : Nat) (fv : Value) (n : Nat) (hn : n ≤ 19) (w : World) (hc : Calls Tryz.prog 210 #[.slice A n c, I 0, I n, fv] w fun e w' => (∃ u, e = .returned u) ∧ Post w') :
  Calls Tryz.prog 155 #[.slice A n c, fv] w fun e w' => (∃ u, e = .returned u) ∧ Post w' := by
 refine s_enter (n := 9) Tryz.func155 rfl rfl rfl ?_
 have G := grown_refl w none
 refine s_region ?_
 refine o_v v_move ?_
 refine o_v v_move ?_
 refine o_v (v_len rfl Tryz.underlying56) ?_
 refine o_v v_move ?_
 refine o_call rfl rfl ent189 (f189_few Post _ _ n hn w hc) ?_; rintro _ w1 ⟨⟨u, rfl⟩, hp⟩; refine ⟨_, rfl, ?_⟩
 refine o_end ?_
 exact post0n rfl ⟨⟨_, rfl⟩, hp⟩
end Go.Proofs.NV
