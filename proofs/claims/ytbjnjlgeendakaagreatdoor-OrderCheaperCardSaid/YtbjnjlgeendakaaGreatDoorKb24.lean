/- Part of the proof: Buy.. The plain law of a purchase: which lists 'costs' takes as one, and what they cost; whatever 'from' finds is one. No program in sight.. The plain laws of packs: the reference's table holds what the program finds; and what the program finds is the best of all. No program in sight.. The plain law of 'listed': strictly rising, and the same members. No program in sight.. -/
import Derived.Test.YtbjnjlgeendakaaGreatDoorKb23
import Derived.Sort.LotA
import Derived.Test.YtbjnjlgeendakaaGreatDoorKb17
import Derived.Test.YtbjnjlgeendakaaGreatDoorKb11
set_option linter.unusedVariables false
set_option maxRecDepth 100000
set_option maxHeartbeats 8000000
set_option linter.unusedSimpArgs false
namespace Go.Proofs.NV
open Go.RowKit Go.Shelf
attribute [local irreducible] bodyPost bodyPostM wpQuiet
theorem paysTo_rows {l : List Seller} {wants : List Int} (h : SellOk l wants) (buy : List (List Int)) : ∀ (i : Nat) (q : List Int × Int), paysTo l wants buy i = some q → ∀ j, j < i → (buy[j]?.getD []).length = wants.length ∧ ∀ x ∈ buy[j]?.getD [], 0 ≤ x ∧ x ≤ 100
 | 0, q, hq => fun j hj => by omega
 | i + 1, q, hq => by
  unfold paysTo at hq
  cases h0 : paysTo l wants buy i with
  | none => rw [h0] at hq; cases hq
  | some q0 =>
   rw [h0, Option.bind_some] at hq
   have ih := paysTo_rows h buy i q0 h0
   have hok0 := paysTo_ok h buy i q0 h0
   cases hs : l[i]? with
   | none => rw [hs] at hq; cases hq
   | some s =>
    rw [hs, Option.bind_some] at hq
    have hm := List.mem_of_getElem? hs
    split at hq
    ·cases hq
    ·rename_i hlen
     cases hp : payTo s (buy[i]?.getD []) q0 wants.length with
     | none => rw [hp] at hq; cases hq
     | some q1 =>
      intro j hj
      by_cases hji : j = i
      ·subst hji
       have hl : (buy[j]?.getD []).length = wants.length := by omega
       refine ⟨hl, fun x hx => ?_⟩
       obtain ⟨c, hc, rfl⟩ := List.getElem_of_mem hx
       have := (payTo_ok (by omega) hok0 (h.stock s hm).2 (h.price s hm).2 _ _ hp).2 c (by omega)
       rw [List.getElem?_eq_getElem hc, Option.getD_some] at this
       exact this
      ·exact ih j (by omega)
theorem costsL_rows {l : List Seller} {wants : List Int} (h : SellOk l wants) {buy : List (List Int)} {c : Int} (hc : costsL l wants buy = some c) : buy.length = l.length ∧ ∀ r ∈ buy, r.length = wants.length ∧ ∀ x ∈ r, 0 ≤ x ∧ x ≤ 100 := by
 unfold costsL at hc
 split at hc
 ·cases hc
 ·rename_i hl
  have hl : buy.length = l.length := by omega
  cases hp : paysTo l wants buy l.length with
  | none => rw [hp] at hc; cases hc
  | some q =>
   refine ⟨hl, fun r hr => ?_⟩
   obtain ⟨j, hj, rfl⟩ := List.getElem_of_mem hr
   have := paysTo_rows h buy _ _ hp j (by omega)
   rw [List.getElem?_eq_getElem hj, Option.getD_some] at this
   exact this
def parcelsTo (plan : List (List Int)) (j : Nat) : Nat := ((plan.take j).filter fun r => decide (sumL r > 0)).length
theorem parcelsTo_zero (plan : List (List Int)) : parcelsTo plan 0 = 0 := rfl
theorem parcelsTo_succ (plan : List (List Int)) (j : Nat) (h : j < plan.length) : parcelsTo plan (j + 1) = parcelsTo plan j + if sumL plan[j] > 0 then 1 else 0 := by
 unfold parcelsTo
 rw [filter_take _ _ _ h, List.length_append]
 by_cases hs : sumL plan[j] > 0
 ·simp [hs]
 ·simp [hs]
theorem parcelsTo_le (plan : List (List Int)) (j : Nat) : parcelsTo plan j ≤ plan.length := by
 unfold parcelsTo
 refine Nat.le_trans (List.length_filter_le _ _) ?_
 rw [List.length_take]
 omega
def candTo (l : List Seller) (wants : List Int) (n : Nat) : List Bought := (List.range n).filterMap fun set => (fromL l wants (set : Nat)).bind fun plan => (costsL l wants plan).map fun c => ⟨plan, c, (parcelsTo plan plan.length : Nat)⟩
theorem candTo_zero (l : List Seller) (wants : List Int) : candTo l wants 0 = [] := rfl
theorem candTo_no {l : List Seller} {wants : List Int} {n : Nat} (h : fromL l wants (n : Nat) = none) : candTo l wants (n + 1) = candTo l wants n := by
 unfold candTo
 rw [List.range_succ, List.filterMap_append]
 simp [h]
theorem candTo_yes {l : List Seller} {wants : List Int} {n : Nat} {plan : List (List Int)} {c : Int} (h : fromL l wants (n : Nat) = some plan) (hc : costsL l wants plan = some c) : candTo l wants (n + 1) = candTo l wants n ++ [⟨plan, c, (parcelsTo plan plan.length : Nat)⟩] := by
 unfold candTo
 rw [List.range_succ, List.filterMap_append]
 simp [h, hc]
theorem candTo_len (l : List Seller) (wants : List Int) (n : Nat) : (candTo l wants n).length ≤ n := by
 unfold candTo
 refine Nat.le_trans (List.length_filterMap_le _ _) ?_
 rw [List.length_range]
 exact Nat.le_refl _
theorem candTo_fine {l : List Seller} {wants : List Int} (h : SellOk l wants) (n : Nat) : ∀ x ∈ candTo l wants n, x.fine := by
 intro x hx
 unfold candTo at hx
 obtain ⟨set, _, hx⟩ := List.mem_filterMap.1 hx
 cases hf : fromL l wants (set : Nat) with
 | none => rw [hf] at hx; cases hx
 | some plan =>
  rw [hf, Option.bind_some] at hx
  cases hc : costsL l wants plan with
  | none => rw [hc] at hx; cases hx
  | some c =>
   rw [hc, Option.map_some] at hx
   injection hx with hx
   subst hx
   obtain ⟨h1, h2⟩ := costsL_rows h hc
   have hg := h.goods
   have hf := h.few
   exact ⟨by simp only; omega, fun r hr => by have := (h2 r hr).1; omega⟩
theorem shl_four (n : Nat) (h : 1 ≤ n ∧ n ≤ 4) : IntKind.i64.wrap (1 * 2 ^ min (n : Int).toNat IntKind.i64.bits) = ((2 ^ n : Nat) : Int) ∧ 2 ^ n ≤ 16 := by
 have : n = 1 ∨ n = 2 ∨ n = 3 ∨ n = 4 := by omega
 rcases this with rfl | rfl | rfl | rfl <;> decide
structure IsN (a b : Nat) : Prop where e : a = b
def BuyR (l : List Seller) (wants : List Int) (w w' : World) (e : Ending) : Prop :=
 (sellersB l wants = false ∧ e = .returned (.tuple #[.slice none 0 0, I 0, I 2])) ∨
 (sellersB l wants = true ∧ bestL betterB (candTo l wants (2 ^ l.length)) = none ∧ e = .returned (.tuple #[.slice none 0 0, I 0, I 5])) ∨
 ∃ b v, sellersB l wants = true ∧ bestL betterB (candTo l wants (2 ^ l.length)) = some b ∧ e = .returned (.tuple #[v, I b.cost, I 0]) ∧ Ty.int.sl.sl.rep w' (fun k => w.heap.size ≤ k) b.buy [v]
theorem info177 : (Tryz.prog.info? 177).map (fun i => (i.zero, i.size, i.bytes)) = some (some (.agg #[.slice none 0 0, .int .i64 0, .int .i64 0]), 3, 40) := by kernel_rfl
attribute [local irreducible] fromL costsL candTo parcelsTo sumL bestL
theorem f53_calls {S T : Nat → Prop} (lA : Option Addr) (lc : Nat) (l : List Seller) (wA : Option Addr) (wc : Nat) (wants : List Int) (w : World) (hl : sellT.Sl w S lA l) (hm : l.length ≤ lc ∧ lc ≤ maxLen) (hw : Ty.int.Sl w T wA wants) (hm2 : wants.length ≤ wc ∧ wc ≤ maxLen)
  (hnp : sellersB l wants = true → ∀ (set : Nat) plan, set < 2 ^ l.length → fromL l wants (set : Nat) = some plan → costsL l wants plan ≠ none) :
  Calls Tryz.prog 53 #[.slice lA l.length lc, .slice wA wants.length wc] w fun e w' => BuyR l wants w w' e ∧ w.grownBy w' none := by
 refine s_enter (n := 71) Tryz.func53 rfl rfl rfl ?_
 have G := grown_refl w none
 refine s_rseq fun _ k1 => ?_
 refine o_v v_assign ?_
 refine o_v v_assign ?_
 refine o_v v_assign ?_
 refine o_end (k1 _ _ ?_)
 refine s_scope ?_
 refine s_seq fun _ k2 => ?_
 refine s_rseq fun _ k3 => ?_
 refine o_v v_move ?_
 refine o_v v_move ?_
 refine o_call rfl rfl ent105 (f105_calls lA lc l wA wc wants w hl hm hw hm2) ?_; rintro _ w1 ⟨rfl, g1⟩; refine ⟨_, rfl, ?_⟩
 replace G := G.step0 g1
 refine o_v (v_not rfl) ?_
 refine o_end (k3 _ _ ?_)
 refine s_if rfl (fun c3 => ?_) (fun c3 => ?_)
 ·refine s_rseq fun _ k4 => ?_
  refine o_v v_assign ?_
  refine o_v v_assign ?_
  refine o_v v_assign ?_
  refine o_end (k4 _ _ ?_)
  refine s_ret (post3 rfl ?_)
  exact ⟨.inl ⟨by simpa using c3, rfl⟩, G⟩
 ·have hsb : sellersB l wants = true := by simpa using c3
  have hok := sell_ok hsb
  replace hnp := hnp hsb
  have hfew := hok.few
  have hgoods := hok.goods
  obtain ⟨hshl, hN16⟩ := shl_four l.length hfew
  obtain ⟨N, hN⟩ : ∃ N, N = 2 ^ l.length := ⟨_, rfl⟩
  rw [← hN] at hshl hN16 hnp
  replace hN := IsN.mk hN
  replace hl := hl.step0 g1; replace hw := hw.step0 g1
  refine s_skip ?_
  refine k2 _ _ ?_
  refine s_rseq fun _ k5 => ?_
  refine o_v v_assign ?_
  refine o_end (k5 _ _ ?_)
  refine s_seq fun _ k6 => ?_
  refine s_label ?_
  refine k6 _ _ ?_
  refine s_seq fun _ k7 => ?_
  refine s_rseq fun _ k8 => ?_
  refine o_v v_move ?_
  refine o_v (v_len rfl Tryz.underlying87) ?_
  refine o_v (v_shl rfl rfl (by omega)) ?_
  rw [hshl]
  clear hshl
  refine o_v v_move ?_
  refine o_end (k8 _ _ ?_)
  refine s_block ?_
  refine s_loop (G := Nat × Value) (fun g => [(7, g.2), (23, I g.1)]) [7, 23] [8, 9, 10, 11, 13, 24, 25, 26, 27, 28, 29, 30, 31, 32, 33, 34, 35, 36, 37, 38, 39, 40, 41, 42, 43, 44, 45, 46, 47, 48, 49, 50, 51, 52, 53, 54, 55, 56, 57, 58, 59] (fun g W => (g.1 ≤ N ∧ boughtT.Row 177 W (fun k => w1.heap.size ≤ k) g.2 (candTo l wants g.1)) ∧ w1.grownBy W none) (fun g => N - g.1) (fun _ => rfl) (0, .slice none 0 0) ⟨rfl, rfl, trivial⟩ ⟨⟨Nat.zero_le _, by rw [candTo_zero]; exact Ty.Row.nil _ _ _ _⟩, grown_refl _ _⟩ ?_
  rintro ⟨i, all⟩ jv w2 ⟨⟨hi, hrow⟩, g2⟩
  simp only at hi hrow
  have h12 : w1.heap.size ≤ w2.heap.size := g2.size
  replace G := G.step0 g2
  refine s_rseq fun _ k9 => ?_
  refine o_v (v_lss rfl rfl) ?_
  refine o_end (k9 _ _ ?_)
  refine s_seq fun _ k10 => ?_
  refine s_ifd rfl (fun c10 => ?_) (fun c10 => ?_)
  ·have hiN : i < N := by omega
   have hrb := hrow.bound
   refine s_skip ?_
   refine k10 _ _ ?_
   refine s_seq fun _ k11 => ?_
   refine s_block ?_
   refine s_rseq fun _ k12 => ?_
   refine o_v v_move ?_
   refine o_v v_assign ?_
   refine o_end (k12 _ _ ?_)
   refine s_rseq fun _ k13 => ?_
   refine o_v v_move ?_
   refine o_v v_move ?_
   refine o_v v_move ?_
   refine o_call rfl rfl ent106 (f106_calls lA lc l wA wc wants (i : Int) w2 (hl.step0 g2) (hw.step0 g2) hok (by omega)) ?_; rintro _ w3 ⟨pv, rfl, hplan, hnil, g3⟩; refine ⟨_, rfl, ?_⟩
   replace G := G.step0 g3; replace g2 := g2.step0 g3
   replace hrb := hrb.step0 g3; replace hrow := hrow.step0 g3
   refine o_v v_move ?_
   refine o_v (v_extract rfl rfl) ?_
   refine o_v (v_extract rfl rfl) ?_
   refine o_v v_assign ?_
   refine o_v v_assign ?_
   refine o_end (k13 _ _ ?_)
   refine s_seq fun _ k14 => ?_
   refine s_rseq fun _ k15 => ?_
   refine o_v v_move ?_
   refine o_v (v_not rfl) ?_
   refine o_end (k15 _ _ ?_)
   refine s_if rfl (fun c15 => ?_) (fun c15 => ?_)
   ·refine s_exit ?_
    refine k11 _ _ ?_
    refine s_region ?_
    refine o_v (v_add rfl rfl (by omega)) ?_
    refine o_v v_move ?_
    refine o_end ?_
    refine mid (i + 1, all) ?_ ?_ ?_
    ·repeat (first | exact off_refl | refine off_cons rfl ?_)
    ·exact ⟨rfl, rfl, trivial⟩
    ·refine ⟨⟨⟨hiN, ?_⟩, g2⟩, by simp only; omega⟩
     simp only
     rw [candTo_no (by simpa using c15)]
     exact hrow
   ·obtain ⟨plan, hpl⟩ : ∃ plan, fromL l wants (i : Nat) = some plan := Option.isSome_iff_exists.1 (by simpa using c15)
    obtain ⟨pA, pc, hpv, hpl1, hpl2, hpS⟩ := hplan plan hpl
    clear hplan hnil
    have hpv' : pv = .slice pA plan.length pc := by simpa using hpv
    clear hpv
    obtain ⟨c, hcost⟩ : ∃ c, costsL l wants plan = some c := Option.ne_none_iff_exists'.1 (hnp i plan hiN hpl)
    obtain ⟨hplen, hprow⟩ := costsL_rows hok hcost
    replace hpS := hpS.bound
    obtain ⟨pb, po, hpA⟩ := hpS.addr (by omega)
    subst hpA
    subst hpv'
    have hcl := f107_calls lA lc l wA wc wants (some ⟨pb, po, none⟩) pc plan w3 ((hl.step0 g2)) (hw.step0 g2) hpS (by omega) hok
    refine s_skip ?_
    refine k14 _ _ ?_
    refine s_rseq fun _ k16 => ?_
    refine o_v v_move ?_
    refine o_v v_move ?_
    refine o_v v_move ?_
    refine o_v v_move ?_
    refine o_call rfl rfl ent107 hcl ?_; rintro e4 w4 ⟨hR, g4⟩
    obtain rfl : e4 = Ending.returned (I c) := by
     rcases hR with ⟨c', hc', he⟩ | ⟨hc', _⟩
     ·rw [hcost] at hc'; injection hc' with hc'; rw [he, hc']
     ·rw [hcost] at hc'; cases hc'
    refine ⟨_, rfl, ?_⟩
    have h34 := g4.size
    replace hpS := hpS.step0 g4; replace hrb := hrb.step0 g4; replace hrow := hrow.step0 g4
    replace G := G.step0 g4; replace g2 := g2.step0 g4
    refine o_v (v_build rfl (fun W => bld177_012 W)) ?_
    refine o_allocst (vs := [(.slice (some ⟨pb, po, none⟩) plan.length pc), I c, I 0]) ze177 rfl rfl rfl sz177 rfl rfl rfl ?_; intro w5 B11 g5 z5
    refine o_end (k16 _ _ ?_)
    refine s_seq fun _ k17 => ?_
    refine s_rseq fun _ k18 => ?_
    refine o_v v_move ?_
    refine o_v (v_len rfl Tryz.underlying33) ?_
    refine o_v v_move ?_
    refine o_end (k18 _ _ ?_)
    refine s_block ?_
    refine s_loop (G := Nat) (fun j => [(43, I j)]) [43] [13, 44, 45, 46, 47, 48, 49, 50, 51, 52, 53, 54] (fun j W => (j ≤ plan.length ∧ Blk W w4.heap.size [(.slice (some ⟨pb, po, none⟩) plan.length pc), I c, I (parcelsTo plan j : Nat)] 177) ∧ w4.grownBy W none) (fun j => plan.length - j) (fun _ => rfl) 0 ⟨rfl, trivial⟩ ⟨⟨Nat.zero_le _, by rw [parcelsTo_zero]; exact B11⟩, g5⟩ ?_
    rintro j jv w6 ⟨⟨hj, B11⟩, g6⟩
    have hple := parcelsTo_le plan j
    refine s_rseq fun _ k19 => ?_
    refine o_v (v_lss rfl rfl) ?_
    refine o_end (k19 _ _ ?_)
    refine s_seq fun _ k20 => ?_
    refine s_ifd rfl (fun c20 => ?_) (fun c20 => ?_)
    ·have hjlt : j < plan.length := by omega
     obtain ⟨br, orr, cr, hA, _, ⟨rA, rc, rfl, _, _, hrS⟩, hrr⟩ := (hpS.step0 g6).get j hjlt
     have hA1 : pb = br ∧ po = orr := by injection hA with hA; injection hA with h1 h2; exact ⟨h1, h2⟩
     have hcr := hrr 0 _ rfl
     rw [← hA1.1, ← hA1.2] at hcr
     have hprj := hprow _ (List.getElem_mem hjlt)
     have hnx := parcelsTo_succ plan j hjlt
     refine s_skip ?_
     refine k20 _ _ ?_
     refine s_seq fun _ k21 => ?_
     refine s_block ?_
     refine s_rseq fun _ k22 => ?_
     refine o_v (v_index rfl rfl slt33 (by omega)) ?_
     refine o_v (v_loadC rfl sc56 hcr) ?_
     refine o_v v_assign ?_
     refine o_end (k22 _ _ ?_)
     refine s_rseq fun _ k23 => ?_
     refine o_v v_move ?_
     refine o_call rfl rfl ent108 ((f108_calls rA rc plan[j] w6 hrS (by omega) (fun x hx => by have := hprj.2 x hx; omega))) ?_; rintro _ w7 ⟨rfl, g7⟩; refine ⟨_, rfl, ?_⟩
     replace B11 := B11.step0 g7; replace g6 := g6.step0 g7
     refine o_v (v_gtr rfl rfl) ?_
     refine o_end (k23 _ _ ?_)
     refine s_ifd rfl (fun c23 => ?_) (fun c23 => ?_)
     ·refine s_region ?_
      refine o_v (v_field rfl fld177_2) ?_
      refine o_v (v_loadB rfl sc3 B11 rfl) ?_
      refine o_v (v_add rfl rfl (by omega)) ?_
      refine o_v (v_field rfl fld177_2) ?_
      refine o_storeB (vs := [I ((parcelsTo plan j : Nat) + 1)]) rfl rfl sz3 rfl B11 rfl rfl ?_; intro w8 B11 g8 z8
      refine o_end ?_
      refine k21 _ _ ?_
      refine s_region ?_
      refine o_v (v_add rfl rfl (by omega)) ?_
      refine o_v v_move ?_
      refine o_end ?_
      refine mid (j + 1) ?_ ?_ ?_
      ·repeat (first | exact off_refl | refine off_cons rfl ?_)
      ·exact ⟨rfl, trivial⟩
      ·refine ⟨⟨⟨hjlt, ?_⟩, grown_own g6 g8 (Nat.le_refl _)⟩, by omega⟩
       rw [hnx, if_pos (by exact c23)]
       exact B11
     ·refine s_skip ?_
      refine k21 _ _ ?_
      refine s_region ?_
      refine o_v (v_add rfl rfl (by omega)) ?_
      refine o_v v_move ?_
      refine o_end ?_
      refine mid (j + 1) ?_ ?_ ?_
      ·repeat (first | exact off_refl | refine off_cons rfl ?_)
      ·exact ⟨rfl, trivial⟩
      ·refine ⟨⟨⟨hjlt, ?_⟩, g6⟩, by omega⟩
       rw [hnx, if_neg (by exact c23)]
       exact B11
    ·have c20' := Int.not_lt.1 c20
     have hjp : j = plan.length := Nat.le_antisymm hj (Int.ofNat_le.1 c20')
     clear c20 c20'
     rw [hjp] at B11
     replace hpS := hpS.step0 g6; replace hrb := hrb.step0 g6; replace hrow := hrow.step0 g6
     refine s_exit ?_
     refine k17 _ _ ?_
     refine s_region ?_
     refine o_v v_move ?_
     refine o_v (v_loadBS (vs := [(.slice (some ⟨pb, po, none⟩) plan.length pc), I c, I (parcelsTo plan plan.length : Nat)]) rfl ag177 B11 rfl rfl) ?_
     refine o_bslice rfl (fun W => bls173_1 W) ?_; intro w9 B57 g9 z9
     replace g6 := g6.step0 g9; replace hpS := hpS.step0 g9; replace hrb := hrb.step0 g9; replace hrow := hrow.step0 g9
     have hcl := candTo_len l wants i
     refine o_append1 (t := boughtT) (p := ⟨plan, c, (parcelsTo plan plan.length : Nat)⟩) rfl rfl hrow B57 Tryz.underlying173 info177 rfl (boughtT_iff.2 ⟨some ⟨pb, po, none⟩, pc, rfl, hpl1, hpl2, hpS.mono fun k hk => ⟨by have : w2.heap.size ≤ k := hk.1; omega, fun e => by have h1 := (hrb.1 k e.symm).2.lt; have : w2.heap.size ≤ k := hk.1; omega⟩⟩) (fun k hk => by have := g2.size; have := g6.size; omega) (by omega) (by decide) ?_
     intro all' w10 hrow10 g10 hat
     have G10 : w1.grownBy w10 none := grown_ownO (g2.step0 g6) g10 (fun b hb => hrow.1 b hb)
     refine o_v v_assign ?_
     refine o_end ?_
     refine k11 _ _ ?_
     refine s_region ?_
     refine o_v (v_add rfl rfl (by omega)) ?_
     refine o_v v_move ?_
     refine o_end ?_
     refine mid (i + 1, all') ?_ ?_ ?_
     ·repeat (first | exact off_refl | refine off_cons rfl ?_)
     ·exact ⟨rfl, rfl, trivial⟩
     ·refine ⟨⟨⟨hiN, ?_⟩, G10⟩, by simp only; omega⟩
      simp only
      rw [candTo_yes hpl hcost]
      exact hrow10
  ·obtain rfl : i = N := by omega
   have hcl := candTo_len l wants i
   obtain ⟨aA, ac, hav, ha1, ha2, haS⟩ := hrow.reads
   subst hav
   have hbest := f109_calls (S := fun k => w1.heap.size ≤ k) betterB Bought.fine 110 ent110 (w := w2) (fun x y cx cy W hx hy fx fy => f110_calls x y cx cy W hx hy fx fy) aA ac (candTo l wants i) haS (by omega) (candTo_fine hok i)
   refine s_exit ?_
   refine k7 _ _ ?_
   refine s_rseq fun _ k24 => ?_
   refine o_v v_move ?_
   refine o_call rfl rfl ent109 hbest ?_; rintro _ w10 ⟨cs, rfl, hbc, g10⟩; refine ⟨_, rfl, ?_⟩
   have hcb := hbc.three
   replace G := G.step0 g10; replace g2 := g2.step0 g10
   refine o_v v_move ?_
   refine o_v (v_extract rfl rfl) ?_
   refine o_v (v_extract rfl rfl) ?_
   refine o_allocst (vs := cs) ze177 rfl rfl rfl sz177 hcb.1 rfl hcb.2 ?_; intro w11 B14 g11 z11
   replace G := G.step0 g11; replace g2 := g2.step0 g11
   refine o_v v_assign ?_
   refine o_end (k24 _ _ ?_)
   refine s_seq fun _ k25 => ?_
   refine s_rseq fun _ k26 => ?_
   refine o_v v_move ?_
   refine o_v (v_not rfl) ?_
   refine o_end (k26 _ _ ?_)
   refine s_if rfl (fun c26 => ?_) (fun c26 => ?_)
   ·refine s_rseq fun _ k27 => ?_
    refine o_v v_assign ?_
    refine o_v v_assign ?_
    refine o_v v_assign ?_
    refine o_end (k27 _ _ ?_)
    refine s_ret (post3 rfl ?_)
    refine ⟨.inr (.inl ⟨hsb, ?_, rfl⟩), G⟩
    have h0 : (candTo l wants i).length = 0 := by simp only [Bool.not_eq_true', decide_eq_false_iff_not] at c26; omega
    rw [← hN.e, List.eq_nil_of_length_eq_zero h0]
    with_unfolding_all rfl
   ·have h0 : 0 < (candTo l wants i).length := by simp only [Bool.not_eq_false', decide_eq_true_eq] at c26; omega
    obtain ⟨q, hq⟩ := bestL_some betterB (l := candTo l wants i) (fun e => by rw [e] at h0; exact absurd h0 (Nat.lt_irrefl 0))
    replace hbc := hbc.step0 g11
    have hrq : boughtT.rep w11 (fun k => w1.heap.size ≤ k ∧ IsC w2 k) q cs := by
     rcases hbc with ⟨h, _⟩ | ⟨q', h, hr⟩
     ·rw [hq] at h; cases h
     ·rw [hq] at h; injection h with h; rw [h]; exact hr
    obtain ⟨qA, qc, rfl, hq1, hq2, hqS⟩ := boughtT_iff.1 hrq
    refine s_skip ?_
    refine k25 _ _ ?_
    refine s_seq fun _ k28 => ?_; refine s_quiet mixed (by kernel_rfl) ?_
    refine q_v (fun _ gq => v_field rfl fld177_0) ?_
    refine q_v (fun _ gq => v_loadB rfl sc33 (B14.step0 gq) rfl) ?_
    refine q_v (fun _ gq => v_field rfl fld177_1) ?_
    refine q_v (fun _ gq => v_loadB rfl sc3 (B14.step0 gq) rfl) ?_
    refine q_v (fun _ gq => v_assign) ?_
    refine q_v (fun _ gq => v_assign) ?_
    refine q_v (fun _ gq => v_assign) ?_
    refine q_end (fun w12 g12 => k28 _ _ ?_)
    replace G := G.step0 g12; replace g2 := g2.step0 g12; replace B14 := B14.step0 g12
    refine s_ret (post3 rfl ?_)
    refine ⟨.inr (.inr ⟨q, _, hsb, by rw [← hN.e]; exact hq, rfl, qA, qc, rfl, hq1, hq2, ?_⟩), G⟩
    exact (hqS.step0 g12).mono fun k hk => by have h1 : w1.heap.size ≤ k := hk.1; have := g1.size; omega
end Go.Proofs.NV
namespace Go.Proofs.NV
open Go.RowKit Go.Shelf
def cellAt (q : List (List Int)) (i c : Nat) : Int := (q[i]?.getD [])[c]?.getD 0
def colS (q : List (List Int)) (c : Nat) : Int := sumL (q.map fun r => r[c]?.getD 0)
theorem sumL_set : ∀ (l : List Int) (i : Nat) (x : Int), i < l.length → sumL (l.set i x) = sumL l - l[i]?.getD 0 + x
 | [], i, x, h => by simp at h
 | a :: l, 0, x, h => by simp [sumL]; omega
 | a :: l, i + 1, x, h => by
  have := sumL_set l i x (by simpa using h)
  simp only [List.set_cons_succ, sumL, List.getElem?_cons_succ, this]
  omega
theorem colS_set (q : List (List Int)) (i c : Nat) (r : List Int) (h : i < q.length) : colS (q.set i r) c = colS q c - cellAt q i c + r[c]?.getD 0 := by
 unfold colS cellAt
 rw [List.map_set, sumL_set _ _ _ (by simpa using h), List.getElem?_map, List.getElem?_eq_getElem h]
 simp
theorem cellAt_set {q : List (List Int)} {i g : Nat} {n : Int} (hi : i < q.length) (hg : g < (q[i]?.getD []).length) (i' c : Nat) : cellAt (q.set i ((q[i]?.getD []).set g n)) i' c = if i' = i ∧ c = g then n else cellAt q i' c := by
 unfold cellAt
 by_cases h : i' = i
 ·subst h
  rw [List.getElem?_set_self hi]
  simp only [Option.getD_some, true_and]
  by_cases hc : c = g
  ·subst hc; rw [if_pos rfl, List.getElem?_set_self hg]; rfl
  ·rw [if_neg hc, List.getElem?_set_ne (Ne.symm hc)]
 ·rw [List.getElem?_set_ne (Ne.symm h), if_neg (fun h' => h h'.1)]
structure Took (l : List Seller) (g k n : Nat) (so : List (Fin (k + 1))) (st r : List (List Int) × Int) : Prop where
 len : r.1.length = k + 1
 rows : ∀ row ∈ r.1, row.length = n
 left : 0 ≤ r.2
 other : ∀ i c, c ≠ g → cellAt r.1 i c = cellAt st.1 i c
 skip : ∀ i, (∀ x ∈ so, x.val ≠ i) → cellAt r.1 i g = cellAt st.1 i g
 took : ∀ x ∈ so, 0 ≤ cellAt r.1 x.val g ∧ cellAt r.1 x.val g ≤ stockAt l x.val g
 sum : colS r.1 g + r.2 = colS st.1 g + st.2
 cols : ∀ c, c ≠ g → colS r.1 c = colS st.1 c
theorem takeL_law {l : List Seller} {g k n : Nat} (hst : ∀ i, 0 ≤ stockAt l i g) (hg : g < n) : ∀ (so : List (Fin (k + 1))), so.Nodup → ∀ (st : List (List Int) × Int), st.1.length = k + 1 → (∀ r ∈ st.1, r.length = n) → 0 ≤ st.2 → (∀ x ∈ so, cellAt st.1 x.val g = 0) → Took l g k n so st (takeL l g k so st)
 | [], _, st, h1, h2, h3, _ => ⟨h1, h2, h3, fun _ _ _ => rfl, fun _ _ => rfl, fun x hx => (by cases hx), rfl, fun _ _ => rfl⟩
 | x :: so, hnd, st, h1, h2, h3, h4 => by
  obtain ⟨hx, hnd⟩ := List.nodup_cons.1 hnd
  have hi : x.val < st.1.length := by rw [h1]; exact x.isLt
  have hrow : st.1[x.val]?.getD [] = st.1[x.val] := by rw [List.getElem?_eq_getElem hi]; rfl
  have hrl : (st.1[x.val]?.getD []).length = n := by rw [hrow]; exact h2 _ (List.getElem_mem hi)
  have hs := hst x.val
  have h0 := h4 x (List.mem_cons_self ..)
  obtain ⟨m, hm⟩ : ∃ m, m = if stockAt l x.val g < st.2 then stockAt l x.val g else st.2 := ⟨_, rfl⟩
  have hmb : 0 ≤ m ∧ m ≤ stockAt l x.val g ∧ m ≤ st.2 := by rw [hm]; split <;> omega
  obtain ⟨st1, he⟩ : ∃ st1, st1 = takeStep l g st x.val := ⟨_, rfl⟩
  have e1 : st1.1 = st.1.set x.val ((st.1[x.val]?.getD []).set g m) := by rw [he, hm]; rfl
  have e2 : st1.2 = st.2 - m := by rw [he, hm]; rfl
  have hcell := fun i c => cellAt_set (n := m) hi (by rw [hrl]; exact hg) i c
  have hcol := fun c => colS_set st.1 x.val c ((st.1[x.val]?.getD []).set g m) hi
  rw [← e1] at hcell
  simp only [← e1] at hcell hcol
  have hlaw := takeL_law hst hg so hnd st1 (by rw [e1, List.length_set]; exact h1) (fun r hr => by
   rw [e1] at hr
   rcases List.mem_or_eq_of_mem_set hr with hr | rfl
   ·exact h2 r hr
   ·rw [List.length_set]; exact hrl) (by omega) (fun y hy => by
   rw [hcell, if_neg (fun h => hx (by rw [← Fin.ext h.1]; exact hy))]
   exact h4 y (List.mem_cons_of_mem _ hy))
  have hfold : takeL l g k (x :: so) st = takeL l g k so st1 := by rw [he]; rfl
  rw [hfold]
  refine ⟨hlaw.len, hlaw.rows, hlaw.left, fun i c hc => ?_, fun i hi' => ?_, fun y hy => ?_, ?_, fun c hc => ?_⟩
  ·rw [hlaw.other i c hc, hcell, if_neg (fun h => hc h.2)]
  ·rw [hlaw.skip i (fun y hy => hi' y (List.mem_cons_of_mem _ hy)), hcell, if_neg (fun h => hi' x (List.mem_cons_self ..) h.1.symm)]
  ·rcases List.mem_cons.1 hy with rfl | hy
   ·rw [hlaw.skip y.val (fun z hz he => hx (by rw [← Fin.ext he]; exact hz)), hcell, if_pos ⟨rfl, rfl⟩]
    exact ⟨hmb.1, hmb.2.1⟩
   ·exact hlaw.took y hy
  ·rw [hlaw.sum, hcol, h0, e2, List.getElem?_set_self (by rw [hrl]; exact hg), Option.getD_some]
   omega
  ·rw [hlaw.cols c hc, hcol]
   rw [List.getElem?_set_ne (Ne.symm hc)]
   unfold cellAt
   omega
theorem swo_price {α : Type} (f : α → Int) : Go.Sort.SWO (ltOf fun x y : α => f x - f y) where
 irrefl := fun x => by unfold ltOf; simp
 trans := fun x y z => by unfold ltOf; simp only [decide_eq_true_eq]; omega
 ntrans := fun x y z => by unfold ltOf; simp only [decide_eq_false_iff_not]; omega
theorem byPrice_perm (l : List Seller) (g : Int) (k : Nat) (ys : List (Fin (k + 1))) : (byPrice l g k ys).Perm ys := by
 have h := (Go.Sort.insertionSort_holds (swo_price fun x : Fin (k + 1) => priceAt l x.val g) ys.toArray 0 ys.length (Nat.zero_le _) (by simp)).1
 obtain ⟨h1, _, h2⟩ := h
 have e1 : ∀ (d : Array (Fin (k + 1))), d.size = ys.length → (d.extract 0 ys.length).toList = d.toList := fun d hd => by
  rw [← hd]; simp
 rw [e1 _ (by rw [h1]; simp), e1 _ (by simp)] at h2
 exact h2
theorem fins_nodup (k : Nat) : (fins k).Nodup := by
 rw [List.nodup_iff_pairwise_ne, List.pairwise_iff_getElem]
 intro i j hi hj hij
 rw [fins_get, fins_get]
 intro h
 injection h with h
 omega
theorem orderOf_perm (l : List Seller) (g k : Nat) (set : Int) : (orderOf l g k set).Perm ((fins k).filter fun x => hasB set x.val) := by
 unfold orderOf ordTo
 rw [List.take_of_length_le (by rw [fins_len]; exact Nat.le_refl _)]
 exact (byPrice_perm _ _ _ _).trans (List.reverse_perm _)
theorem orderOf_nodup (l : List Seller) (g k : Nat) (set : Int) : (orderOf l g k set).Nodup := (orderOf_perm l g k set).nodup_iff.2 ((fins_nodup k).filter _)
theorem stockAt_nonneg {l : List Seller} {wants : List Int} (h : SellOk l wants) (i g : Nat) : 0 ≤ stockAt l i g ∧ stockAt l i g ≤ 100 := by
 unfold stockAt
 cases hi : l[i]? with
 | none => simp
 | some s =>
  have := (h.stock s (List.mem_of_getElem? hi)).2
  rw [Option.map_some, Option.getD_some]
  exact getD_mem (P := fun x => 0 ≤ x ∧ x ≤ 100) this (by omega) g
structure PlanTo (l : List Seller) (wants : List Int) (k g : Nat) (plan : List (List Int)) : Prop where
 len : plan.length = k + 1
 rows : ∀ row ∈ plan, row.length = wants.length
 zero : ∀ i c, g ≤ c → cellAt plan i c = 0
 cells : ∀ i c, c < g → 0 ≤ cellAt plan i c ∧ cellAt plan i c ≤ stockAt l i c
 cols : ∀ c, c < g → colS plan c = wants[c]?.getD 0
 none : ∀ c, g ≤ c → colS plan c = 0
theorem sumL_allz : ∀ (l : List Int), (∀ x ∈ l, x = 0) → sumL l = 0
 | [], _ => rfl
 | a :: l, h => by rw [sumL, h a (List.mem_cons_self ..), sumL_allz l fun x hx => h x (List.mem_cons_of_mem _ hx)]; rfl
theorem fromTo_plan {l : List Seller} {wants : List Int} (h : SellOk l wants) (k : Nat) (set : Int) : ∀ (g : Nat) (plan : List (List Int)), g ≤ wants.length → fromTo l wants k set g = some plan → PlanTo l wants k g plan
 | 0, plan, _, hp => by
  rw [fromTo_zero] at hp
  injection hp with hp
  subst hp
  have hz : ∀ i c, cellAt (List.replicate (k + 1) (List.replicate wants.length (0 : Int))) i c = 0 := fun i c => by
   unfold cellAt
   rw [List.getElem?_replicate]
   split
   ·rw [Option.getD_some, List.getElem?_replicate]
    split <;> rfl
   ·rfl
  refine ⟨by simp, fun row hr => by rw [List.eq_of_mem_replicate hr]; simp, fun i c _ => hz i c, fun i c hc => by omega, fun c hc => by omega, fun c _ => ?_⟩
  unfold colS
  apply sumL_allz
  intro x hx
  obtain ⟨r, hr, rfl⟩ := List.mem_map.1 hx
  rw [List.eq_of_mem_replicate hr, List.getElem?_replicate]
  split <;> rfl
 | g + 1, plan, hg, hp => by
  rw [fromTo] at hp
  cases h0 : fromTo l wants k set g with
  | none => rw [h0] at hp; cases hp
  | some p0 =>
   rw [h0, Option.bind_some] at hp
   have ih := fromTo_plan h k set g p0 (by omega) h0
   obtain ⟨wg, hwg⟩ : ∃ x, x = wants[g]?.getD 0 := ⟨_, rfl⟩
   have hw0 : 0 ≤ wg := by rw [hwg]; exact (getD_mem (P := fun x => 0 ≤ x ∧ x ≤ 400) h.want (by omega) g).1
   rw [← hwg] at hp
   have T := takeL_law (l := l) (g := g) (k := k) (n := wants.length) (fun i => (stockAt_nonneg h i g).1) (by omega) (orderOf l g k set) (orderOf_nodup l g k set) (p0, wg) ih.len ih.rows hw0 (fun x _ => ih.zero _ _ (Nat.le_refl _))
   simp only at hp
   split at hp
   ·cases hp
   ·rename_i hn
    injection hp with hp
    have hl := T.left
    subst hp
    refine ⟨T.len, T.rows, fun i c hc => ?_, fun i c hc => ?_, fun c hc => ?_, fun c hc => ?_⟩
    ·rw [T.other i c (by omega)]; exact ih.zero i c (by omega)
    ·by_cases hcg : c = g
     ·subst hcg
      by_cases hi : ∀ x ∈ orderOf l c k set, x.val ≠ i
      ·rw [T.skip i hi, show cellAt (p0, wg).1 i c = 0 from ih.zero i c (Nat.le_refl _)]
       exact ⟨Int.le_refl _, (stockAt_nonneg h i c).1⟩
      ·simp only [ne_eq, Classical.not_forall, Classical.not_not] at hi
       obtain ⟨x, hx, rfl⟩ := hi
       exact T.took x hx
     ·rw [T.other i c hcg]; exact ih.cells i c (by omega)
    ·by_cases hcg : c = g
     ·subst hcg
      have := T.sum
      rw [show colS (p0, wg).1 c = 0 from ih.none c (Nat.le_refl _)] at this
      rw [← hwg]
      simp only at this
      omega
     ·rw [T.cols c hcg]; exact ih.cols c (by omega)
    ·rw [T.cols c (by omega)]; exact ih.none c (by omega)
structure IsBuy (l : List Seller) (wants : List Int) (buy : List (List Int)) : Prop where
 len : buy.length = l.length
 rows : ∀ i, i < l.length → (buy[i]?.getD []).length = wants.length
 cells : ∀ i c, i < l.length → c < wants.length → 0 ≤ cellAt buy i c ∧ cellAt buy i c ≤ stockAt l i c
 cols : ∀ c, c < wants.length → colS buy c = wants[c]?.getD 0
def rowCost (s : Seller) (r : List Int) : Nat → Int
 | 0 => 0
 | j + 1 => rowCost s r j + r[j]?.getD 0 * s.price[j]?.getD 0
def costTo (l : List Seller) (n : Nat) (buy : List (List Int)) : Nat → Int
 | 0 => 0
 | i + 1 => costTo l n buy i + (rowCost (l[i]?.getD ⟨0, [], []⟩) (buy[i]?.getD []) n + if sumL (buy[i]?.getD []) > 0 then (l[i]?.getD ⟨0, [], []⟩).parcel else 0)
theorem payTo_inv {s : Seller} {r : List Int} {st : List Int × Int} : ∀ (j : Nat) (q : List Int × Int), j ≤ st.1.length → payTo s r st j = some q → (∀ c, c < j → 0 ≤ r[c]?.getD 0 ∧ r[c]?.getD 0 ≤ s.stock[c]?.getD 0) ∧ q.1.length = st.1.length ∧ (∀ c, q.1[c]?.getD 0 = st.1[c]?.getD 0 - if c < j then r[c]?.getD 0 else 0) ∧ q.2 = st.2 + rowCost s r j
 | 0, q, _, h => by
  injection h with h
  subst h
  exact ⟨fun c hc => by omega, rfl, fun c => by rw [if_neg (by omega)]; omega, by simp [rowCost]⟩
 | j + 1, q, hj, h => by
  rw [payTo] at h
  cases h0 : payTo s r st j with
  | none => rw [h0] at h; cases h
  | some q0 =>
   rw [h0, Option.bind_some] at h
   obtain ⟨i1, i2, i3, i4⟩ := payTo_inv j q0 (by omega) h0
   split at h
   ·rename_i hb
    unfold inB at hb
    simp only [decide_eq_true_eq] at hb
    injection h with h
    subst h
    refine ⟨fun c hc => ?_, by simp only [List.length_set]; exact i2, fun c => ?_, by simp only [rowCost, i4]; omega⟩
    ·by_cases hcj : c = j
     ·subst hcj; exact hb
     ·exact i1 c (by omega)
    ·by_cases hcj : c = j
     ·subst hcj
      simp only
      rw [List.getElem?_set_self (by omega), Option.getD_some, i3 c, if_neg (by omega), if_pos (by omega)]
      omega
     ·simp only
      rw [List.getElem?_set_ne (Ne.symm hcj), i3 c]
      by_cases hc : c < j
      ·rw [if_pos hc, if_pos (by omega)]
      ·rw [if_neg hc, if_neg (by omega)]
   ·cases h
theorem payTo_of {s : Seller} {r : List Int} {st : List Int × Int} : ∀ (j : Nat), (∀ c, c < j → 0 ≤ r[c]?.getD 0 ∧ r[c]?.getD 0 ≤ s.stock[c]?.getD 0) → ∃ q, payTo s r st j = some q
 | 0, _ => ⟨st, rfl⟩
 | j + 1, h => by
  obtain ⟨q, hq⟩ := payTo_of (st := st) j fun c hc => h c (by omega)
  exact ⟨_, payTo_yes hq (by unfold inB; exact decide_eq_true (h j (by omega)))⟩
theorem colS_take {buy : List (List Int)} {i : Nat} (h : i < buy.length) (c : Nat) : colS (buy.take (i + 1)) c = colS (buy.take i) c + cellAt buy i c := by
 unfold colS cellAt
 rw [List.take_succ_eq_append_getElem h, List.map_append, sumL_append, List.getElem?_eq_getElem h]
 simp [sumL]
theorem paysTo_inv {l : List Seller} {wants : List Int} {buy : List (List Int)} (hb : buy.length = l.length) : ∀ (i : Nat) (q : List Int × Int), i ≤ l.length → paysTo l wants buy i = some q → (∀ j, j < i → (buy[j]?.getD []).length = wants.length ∧ ∀ c, c < wants.length → 0 ≤ cellAt buy j c ∧ cellAt buy j c ≤ stockAt l j c) ∧ q.1.length = wants.length ∧ (∀ c, c < wants.length → q.1[c]?.getD 0 = wants[c]?.getD 0 - colS (buy.take i) c) ∧ q.2 = costTo l wants.length buy i
 | 0, q, _, h => by
  injection h with h
  subst h
  exact ⟨fun j hj => by omega, rfl, fun c _ => by simp [colS, sumL], rfl⟩
 | i + 1, q, hi, h => by
  rw [paysTo] at h
  cases h0 : paysTo l wants buy i with
  | none => rw [h0] at h; cases h
  | some q0 =>
   rw [h0, Option.bind_some] at h
   obtain ⟨i1, i2, i3, i4⟩ := paysTo_inv hb i q0 (by omega) h0
   have hs : l[i]? = some l[i] := List.getElem?_eq_getElem (by omega)
   rw [hs, Option.bind_some] at h
   split at h
   ·cases h
   ·rename_i hlen
    cases hp : payTo l[i] (buy[i]?.getD []) q0 wants.length with
    | none => rw [hp] at h; cases h
    | some q1 =>
     rw [hp, Option.map_some] at h
     injection h with h
     obtain ⟨p1, p2, p3, p4⟩ := payTo_inv wants.length q1 (by omega) hp
     subst h
     refine ⟨fun j hj => ?_, by simp only; omega, fun c hc => ?_, ?_⟩
     ·by_cases hji : j = i
      ·subst hji
       refine ⟨by omega, fun c hc => ?_⟩
       have := p1 c hc
       unfold cellAt stockAt
       rw [hs]
       exact this
      ·exact i1 j (by omega)
     ·simp only
      rw [p3 c, i3 c hc, if_pos hc, colS_take (by omega) c]
      unfold cellAt
      omega
     ·simp only
      rw [costTo, hs, Option.getD_some, ← i4]
      split <;> omega
theorem paysTo_of {l : List Seller} {wants : List Int} {buy : List (List Int)} : ∀ (i : Nat), i ≤ l.length → (∀ j, j < i → (buy[j]?.getD []).length = wants.length ∧ ∀ c, c < wants.length → 0 ≤ cellAt buy j c ∧ cellAt buy j c ≤ stockAt l j c) → ∃ q, paysTo l wants buy i = some q
 | 0, _, _ => ⟨_, rfl⟩
 | i + 1, hi, h => by
  obtain ⟨q, hq⟩ := paysTo_of i (by omega) fun j hj => h j (by omega)
  have hs : l[i]? = some l[i] := List.getElem?_eq_getElem (by omega)
  obtain ⟨h1, h2⟩ := h i (by omega)
  obtain ⟨q1, hq1⟩ := payTo_of (s := l[i]) (r := buy[i]?.getD []) (st := q) wants.length (fun c hc => by
   have := h2 c hc
   unfold cellAt stockAt at this
   rw [hs] at this
   exact this)
  exact ⟨_, by rw [paysTo, hq, Option.bind_some, hs, Option.bind_some, if_neg (by omega), hq1, Option.map_some]⟩
theorem costsL_buy {l : List Seller} {wants : List Int} {buy : List (List Int)} (h : IsBuy l wants buy) : costsL l wants buy = some (costTo l wants.length buy l.length) := by
 obtain ⟨q, hq⟩ := paysTo_of (l := l) (wants := wants) (buy := buy) l.length (Nat.le_refl _) fun j hj => ⟨h.rows j hj, fun c hc => h.cells j c hj hc⟩
 obtain ⟨_, i2, i3, i4⟩ := paysTo_inv h.len l.length q (Nat.le_refl _) hq
 rw [← i4]
 refine costsL_some h.len hq fun x hx => ?_
 obtain ⟨c, hc, rfl⟩ := List.getElem_of_mem hx
 have := i3 c (by omega)
 rw [List.getElem?_eq_getElem hc, Option.getD_some] at this
 rw [this, List.take_of_length_le (by rw [h.len]; exact Nat.le_refl _), h.cols c (by omega)]
 omega
theorem costsL_inv {l : List Seller} {wants : List Int} {buy : List (List Int)} {x : Int} (h : costsL l wants buy = some x) : IsBuy l wants buy := by
 unfold costsL at h
 split at h
 ·cases h
 ·rename_i hl
  have hb : buy.length = l.length := by omega
  cases hp : paysTo l wants buy l.length with
  | none => rw [hp] at h; cases h
  | some q =>
   rw [hp, Option.bind_some] at h
   split at h
   ·cases h
   ·rename_i hz
    obtain ⟨i1, i2, i3, i4⟩ := paysTo_inv hb l.length q (Nat.le_refl _) hp
    refine ⟨hb, fun i hi => (i1 i hi).1, fun i c hi hc => (i1 i hi).2 c hc, fun c hc => ?_⟩
    have := i3 c hc
    rw [List.take_of_length_le (by omega), List.getElem?_eq_getElem (by omega), Option.getD_some] at this
    have h0 : q.1[c]'(by omega) = 0 := by
     apply Classical.byContradiction
     intro hne
     exact hz (List.any_eq_true.2 ⟨_, List.getElem_mem (show c < q.1.length by omega), by simpa using hne⟩)
    omega
theorem fromL_buy {l : List Seller} {wants : List Int} (h : SellOk l wants) {set : Int} {plan : List (List Int)} (hp : fromL l wants set = some plan) : IsBuy l wants plan := by
 have hf := h.few
 have P := fromTo_plan h (l.length - 1) set wants.length plan (Nat.le_refl _) hp
 have hl : plan.length = l.length := by have := P.len; omega
 refine ⟨hl, fun i hi => ?_, fun i c _ hc => P.cells i c hc, fun c hc => P.cols c hc⟩
 rw [List.getElem?_eq_getElem (by omega), Option.getD_some]
 exact P.rows _ (List.getElem_mem _)
theorem no_panic {l : List Seller} {wants : List Int} (h : sellersB l wants = true) (set : Nat) (plan : List (List Int)) (hs : set < 2 ^ l.length) (hp : fromL l wants (set : Nat) = some plan) : costsL l wants plan ≠ none := by
 rw [costsL_buy (fromL_buy (sell_ok h) hp)]
 exact fun h => by cases h
end Go.Proofs.NV
namespace Go.Proofs.NV
open Go.RowKit Go.Shelf
structure Taken where
 counts : List Int
 many : Int
 price : Int
def beforeL : List Int → List Int → Bool
 | a :: l, b :: m => if a ≠ b then decide (a < b) else beforeL l m
 | [], _ :: _ => true
 | _, [] => false
def betterT (a b : Taken) : Bool := if a.price ≠ b.price then decide (a.price < b.price) else if a.many ≠ b.many then decide (a.many < b.many) else beforeL a.counts b.counts
theorem cmpL_before : ∀ (a b : List Int), decide (cmpL a b < 0) = beforeL a b
 | [], [] => rfl
 | [], _ :: _ => rfl
 | _ :: _, [] => rfl
 | a :: l, b :: m => by
  have ih := cmpL_before l m
  unfold cmpL beforeL cmpI
  by_cases h1 : a < b
  ·rw [if_pos h1, if_pos (by decide), if_pos (by omega)]
   simp [h1]
  ·by_cases h2 : b < a
   ·rw [if_neg h1, if_pos h2, if_pos (by decide), if_pos (by omega)]
    simp [h1]
   ·rw [if_neg h1, if_neg h2, if_neg (by decide), if_neg (by omega)]
    exact ih
def toT (q : Packed) : Taken := ⟨q.list, sumL q.list, q.price⟩
theorem betterT_toT (a b : Packed) : betterT (toT a) (toT b) = betterP a b := by
 unfold betterT betterP toT
 simp only [cmpL_before]
theorem beforeL_irrefl : ∀ a : List Int, beforeL a a = false
 | [] => rfl
 | a :: l => by rw [beforeL, if_neg (by simp)]; exact beforeL_irrefl l
theorem beforeL_ntrans : ∀ (a b c : List Int), beforeL a b = false → beforeL b c = false → beforeL a c = false
 | _, _, [], _, _ => by unfold beforeL; split <;> simp_all
 | a, [], c :: n, _, h2 => by simp [beforeL] at h2
 | [], b :: m, c :: n, h1, _ => by simp [beforeL] at h1
 | a :: l, b :: m, c :: n, h1, h2 => by
  unfold beforeL at h1 h2 ⊢
  split at h1
  ·have h1' : ¬ a < b := by simpa using h1
   split at h2
   ·have h2' : ¬ b < c := by simpa using h2
    rw [if_pos (by omega)]
    exact decide_eq_false (by omega)
   ·rw [if_pos (by omega)]
    exact decide_eq_false (by omega)
  ·split at h2
   ·have h2' : ¬ b < c := by simpa using h2
    rw [if_pos (by omega)]
    exact decide_eq_false (by omega)
   ·rw [if_neg (by omega)]
    exact beforeL_ntrans l m n h1 h2
theorem betterT_key (a b : Taken) : betterT a b = beforeL (a.price :: a.many :: a.counts) (b.price :: b.many :: b.counts) := by
 unfold betterT
 rw [beforeL, beforeL]
theorem betterT_irrefl (a : Taken) : betterT a a = false := by rw [betterT_key]; exact beforeL_irrefl _
theorem betterT_ntrans {a b c : Taken} (h1 : betterT a b = false) (h2 : betterT b c = false) : betterT a c = false := by
 rw [betterT_key] at *
 exact beforeL_ntrans _ _ _ h1 h2
theorem bestF_least {α : Type} {bt : α → α → Bool} (hi : ∀ x, bt x x = false) (ht : ∀ x y z, bt x y = false → bt y z = false → bt x z = false) (ha : ∀ x y, bt x y = true → bt y x = false) : ∀ (l : List α) (o : α), bt o (bestF bt o l) = false ∧ ∀ x ∈ l, bt x (bestF bt o l) = false
 | [], o => ⟨hi o, fun x hx => by cases hx⟩
 | y :: l, o => by
  rw [bestF]
  obtain ⟨h1, h2⟩ := bestF_least hi ht ha l (if bt y o = true then y else o)
  by_cases h : bt y o = true
  ·rw [if_pos h] at h1 h2 ⊢
   refine ⟨ht _ _ _ (ha _ _ h) h1, fun x hx => ?_⟩
   rcases List.mem_cons.1 hx with rfl | hx
   ·exact h1
   ·exact h2 x hx
  ·rw [if_neg h] at h1 h2 ⊢
   refine ⟨h1, fun x hx => ?_⟩
   rcases List.mem_cons.1 hx with rfl | hx
   ·exact ht _ _ _ (by simpa using h) h1
   ·exact h2 x hx
theorem bestL_least {α : Type} {bt : α → α → Bool} (hi : ∀ x, bt x x = false) (ht : ∀ x y z, bt x y = false → bt y z = false → bt x z = false) (ha : ∀ x y, bt x y = true → bt y x = false) {l : List α} {o : α} (h : bestL bt l = some o) : ∀ x ∈ l, bt x o = false := by
 cases l with
 | nil => cases h
 | cons y l =>
  rw [bestL, Option.some.injEq] at h
  subst h
  obtain ⟨h1, h2⟩ := bestF_least hi ht ha l y
  intro x hx
  rcases List.mem_cons.1 hx with rfl | hx
  ·exact h1
  ·exact h2 x hx
theorem beforeL_asymm : ∀ (a b : List Int), beforeL a b = true → beforeL b a = false
 | [], [], h => by cases h
 | [], _ :: _, _ => rfl
 | _ :: _, [], h => by cases h
 | a :: l, b :: m, h => by
  unfold beforeL at h ⊢
  split at h
  ·have := of_decide_eq_true h
   rw [if_pos (by omega)]
   exact decide_eq_false (by omega)
  ·rw [if_neg (by omega)]
   exact beforeL_asymm l m h
theorem betterP_key (a b : Packed) : betterP a b = beforeL (a.price :: sumL a.list :: a.list) (b.price :: sumL b.list :: b.list) := by
 rw [← betterT_toT, betterT_key]
 rfl
theorem betterP_least {l : List Packed} {o : Packed} (h : bestL betterP l = some o) : ∀ x ∈ l, betterP x o = false :=
 bestL_least (fun x => by rw [betterP_key]; exact beforeL_irrefl _) (fun x y z h1 h2 => by rw [betterP_key] at *; exact beforeL_ntrans _ _ _ h1 h2) (fun x y h => by rw [betterP_key] at *; exact beforeL_asymm _ _ h) h
def refTake (ks : List Pack) (tab : List Taken) (n i : Nat) : Taken :=
 let x := (tab[(n : Int).toNat - (holdsAt ks i).toNat]?).getD ⟨[], 0, 0⟩
 ⟨x.counts.set i (x.counts[i]?.getD 0 + 1), x.many + 1, x.price + ((ks[i]?).map (·.price)).getD 0⟩
def refNow (ks : List Pack) (tab : List Taken) (n : Nat) : Nat → Taken
 | 0 => ⟨[], 0, 0⟩
 | i + 1 => if i = 0 ∨ betterT (refTake ks tab n i) (refNow ks tab n i) = true then refTake ks tab n i else refNow ks tab n i
def refTab (ks : List Pack) : Nat → List Taken
 | 0 => [⟨List.replicate ks.length 0, 0, 0⟩]
 | n + 1 => refTab ks n ++ [refNow ks (refTab ks n) (n + 1) ks.length]
theorem sumL_add1 : ∀ (l : List Int) (i : Nat), i < l.length → sumL (l.set i (l[i]?.getD 0 + 1)) = sumL l + 1
 | [], i, h => by simp at h
 | a :: l, 0, h => by simp [sumL]; omega
 | a :: l, i + 1, h => by
  have := sumL_add1 l i (by simpa using h)
  simp only [List.set_cons_succ, sumL, List.getElem?_cons_succ, this]
  omega
theorem packL_len {ks : List Pack} (hk : PacksOk ks) (p : Int) : (packL ks p).list.length = ks.length := (packF_fine hk p.toNat p).len
theorem toT_bump {ks : List Pack} {q : Packed} {i : Nat} (h : i < q.list.length) : toT (bumpP ks i q) = ⟨q.list.set i (q.list[i]?.getD 0 + 1), sumL q.list + 1, q.price + ((ks[i]?).map (·.price)).getD 0⟩ := by
 unfold toT bumpP
 simp only [sumL_add1 _ _ h]
theorem sumL_zeros (n : Nat) : sumL (List.replicate n 0) = 0 := by
 induction n with
 | zero => rfl
 | succ n ih => rw [List.replicate_succ, sumL, ih]; rfl
theorem packL_cut {ks : List Pack} (p : Int) : packL ks p = packL ks (p.toNat : Int) := by
 rcases Int.lt_or_le p 0 with h | h
 ·rw [packL_zero (by omega), packL_zero (by omega)]
 ·rw [Int.toNat_of_nonneg h]
theorem refTake_eq {ks : List Pack} (hk : PacksOk ks) {tab : List Taken} {n i : Nat} (hi : i < ks.length) (hn : 0 < n) (ht : ∀ j : Nat, j < n → tab[j]? = some (toT (packL ks (j : Nat)))) : refTake ks tab n i = toT (bumpP ks i (packL ks ((n : Int) - holdsAt ks i))) := by
 have hh := (hk.at hi).1
 rw [toT_bump (by rw [packL_len hk]; exact hi), packL_cut ((n : Int) - holdsAt ks i)]
 unfold refTake
 have hj : ((n : Int) - holdsAt ks i).toNat = (n : Int).toNat - (holdsAt ks i).toNat := by omega
 rw [ht _ (by omega), Option.getD_some, hj]
 rfl
theorem refNow_eq {ks : List Pack} (hk : PacksOk ks) {tab : List Taken} {n : Nat} (hn : 0 < n) (ht : ∀ j : Nat, j < n → tab[j]? = some (toT (packL ks (j : Nat)))) : ∀ i, i < ks.length → ∃ q, bestL betterP ((List.range (i + 1)).map fun i => bumpP ks i (packL ks ((n : Int) - holdsAt ks i))) = some q ∧ refNow ks tab n (i + 1) = toT q
 | 0, hi => ⟨_, rfl, by rw [refNow, if_pos (.inl rfl), refTake_eq hk hi hn ht]; rfl⟩
 | i + 1, hi => by
  obtain ⟨q, h1, h2⟩ := refNow_eq hk hn ht i (by omega)
  refine ⟨_, by rw [List.range_succ, List.map_append, List.map_singleton]; exact bestL_snoc h1, ?_⟩
  rw [refNow, h2, refTake_eq hk hi hn ht, betterT_toT]
  by_cases hb : betterP (bumpP ks (i + 1) (packL ks ((n : Int) - holdsAt ks (i + 1)))) q = true
  ·rw [if_pos (.inr hb), if_pos hb]
  ·rw [if_neg (fun h => hb (h.resolve_left (by omega))), if_neg hb]
theorem refTab_len (ks : List Pack) : ∀ n, (refTab ks n).length = n + 1
 | 0 => rfl
 | n + 1 => by rw [refTab, List.length_append, refTab_len ks n]; rfl
theorem refTab_eq {ks : List Pack} (hk : PacksOk ks) : ∀ (n j : Nat), j ≤ n → (refTab ks n)[j]? = some (toT (packL ks (j : Nat)))
 | 0, j, hj => by
  obtain rfl : j = 0 := by omega
  rw [packL_zero (by omega)]
  unfold toT
  simp only [sumL_zeros]
  rfl
 | n + 1, j, hj => by
  have hl := refTab_len ks n
  rw [refTab]
  by_cases h : j ≤ n
  ·rw [List.getElem?_append_left (by omega)]
   exact refTab_eq hk n j h
  ·obtain rfl : j = n + 1 := by omega
   rw [List.getElem?_append_right (by omega), hl, Nat.sub_self, List.getElem?_cons_zero]
   obtain ⟨m, hm⟩ : ∃ m, ks.length = m + 1 := ⟨ks.length - 1, by have := hk.len; omega⟩
   obtain ⟨q, h1, h2⟩ := refNow_eq hk (tab := refTab ks n) (n := n + 1) (by omega) (fun j hj => refTab_eq hk n j (by omega)) m (by omega)
   rw [packL_pos hk (by omega), hm, h1, Option.getD_some, h2]
def holdsL : List Pack → List Int → Int
 | k :: ks, c :: cs => c * k.holds + holdsL ks cs
 | _, _ => 0
def pricesL : List Pack → List Int → Int
 | k :: ks, c :: cs => c * k.price + pricesL ks cs
 | _, _ => 0
theorem holdsL_bump : ∀ (ks : List Pack) (l : List Int) (i : Nat) (d : Int), l.length = ks.length → i < ks.length → holdsL ks (l.set i (l[i]?.getD 0 + d)) = holdsL ks l + d * holdsAt ks i
 | [], l, i, d, _, hi => by simp at hi
 | k :: ks, [], i, d, h, hi => by simp at h
 | k :: ks, c :: cs, 0, d, h, hi => by simp [holdsL, holdsAt]; rw [Int.add_mul]; omega
 | k :: ks, c :: cs, i + 1, d, h, hi => by
  have := holdsL_bump ks cs i d (by simpa using h) (by simpa using hi)
  simp only [List.set_cons_succ, holdsL, List.getElem?_cons_succ, this]
  have : holdsAt (k :: ks) (i + 1) = holdsAt ks i := by unfold holdsAt; rw [List.getElem?_cons_succ]
  rw [this]
  omega
theorem pricesL_bump : ∀ (ks : List Pack) (l : List Int) (i : Nat) (d : Int), l.length = ks.length → i < ks.length → pricesL ks (l.set i (l[i]?.getD 0 + d)) = pricesL ks l + d * ((ks[i]?).map (·.price)).getD 0
 | [], l, i, d, _, hi => by simp at hi
 | k :: ks, [], i, d, h, hi => by simp at h
 | k :: ks, c :: cs, 0, d, h, hi => by simp [pricesL]; rw [Int.add_mul]; omega
 | k :: ks, c :: cs, i + 1, d, h, hi => by
  have := pricesL_bump ks cs i d (by simpa using h) (by simpa using hi)
  simp only [List.set_cons_succ, pricesL, List.getElem?_cons_succ, this]
  omega
theorem zeros_hold : ∀ (ks : List Pack) (m : Nat), holdsL ks (List.replicate m 0) = 0 ∧ pricesL ks (List.replicate m 0) = 0
 | [], m => by simp [holdsL, pricesL]
 | k :: ks, 0 => by simp [holdsL, pricesL]
 | k :: ks, m + 1 => by
  obtain ⟨h1, h2⟩ := zeros_hold ks m
  simp [List.replicate_succ, holdsL, pricesL, h1, h2]
theorem packF_holds {ks : List Pack} (hk : PacksOk ks) : ∀ (f : Nat) (p : Int), p.toNat ≤ f → p ≤ holdsL ks (packF ks f p).list ∧ (packF ks f p).price = pricesL ks (packF ks f p).list
 | 0, p, hp => by
  have := zeros_hold ks ks.length
  rw [packF]
  simp only [this]
  exact ⟨by omega, trivial⟩
 | f + 1, p, hp => by
  have hz := zeros_hold ks ks.length
  rw [packF]
  split
  ·simp only [hz]
   exact ⟨by omega, trivial⟩
  ·obtain ⟨o, hb⟩ := bestL_some betterP (l := (List.range ks.length).map fun i => bumpP ks i (packF ks f (p - holdsAt ks i))) (fun e => by
    have := congrArg List.length e
    simp at this
    have := hk.len
    rw [‹ks = []›] at this
    simp at this)
   rw [hb, Option.getD_some]
   obtain ⟨i, hi, rfl⟩ := List.mem_map.1 (bestL_mem hb)
   rw [List.mem_range] at hi
   have hh := (hk.at hi).1
   obtain ⟨h1, h2⟩ := packF_holds hk f (p - holdsAt ks i) (by omega)
   have hl := (packF_fine hk f (p - holdsAt ks i)).len
   unfold bumpP
   simp only [holdsL_bump ks _ i 1 hl hi, pricesL_bump ks _ i 1 hl hi, h2]
   omega
theorem packL_holds {ks : List Pack} (hk : PacksOk ks) (p : Int) : p ≤ holdsL ks (packL ks p).list ∧ (packL ks p).price = pricesL ks (packL ks p).list := packF_holds hk _ p (Nat.le_refl _)
theorem beforeL_bump : ∀ (a b : List Int) (i : Nat), a.length = b.length → beforeL (a.set i (a[i]?.getD 0 + 1)) (b.set i (b[i]?.getD 0 + 1)) = beforeL a b
 | [], [], _, _ => by simp
 | a :: l, b :: m, 0, h => by
  simp only [List.set_cons_zero, List.getElem?_cons_zero, Option.getD_some, beforeL]
  by_cases hab : a = b
  ·rw [if_neg (by omega), if_neg (by omega)]
  ·rw [if_pos (by omega), if_pos hab]
   exact decide_eq_decide.2 (by omega)
 | a :: l, b :: m, i + 1, h => by
  simp only [List.set_cons_succ, List.getElem?_cons_succ, beforeL, beforeL_bump l m i (by simpa using h)]
theorem betterP_bump {ks : List Pack} {a b : Packed} {i : Nat} (hl : a.list.length = b.list.length) (hi : i < a.list.length) : betterP (bumpP ks i a) (bumpP ks i b) = betterP a b := by
 unfold betterP bumpP
 have e1 : ∀ p : Int, (a.price + p = b.price + p) = (a.price = b.price) := fun p => propext ⟨by omega, by omega⟩
 have e2 : (sumL a.list + 1 = sumL b.list + 1) = (sumL a.list = sumL b.list) := propext ⟨by omega, by omega⟩
 have e3 : ∀ p : Int, (a.price + p < b.price + p) = (a.price < b.price) := fun p => propext ⟨by omega, by omega⟩
 have e4 : (sumL a.list + 1 < sumL b.list + 1) = (sumL a.list < sumL b.list) := propext ⟨by omega, by omega⟩
 simp only [sumL_add1 _ _ hi, sumL_add1 _ _ (hl ▸ hi), cmpL_before, beforeL_bump _ _ _ hl, ne_eq, e1, e2, e3, e4]
theorem holds_some : ∀ (ks : List Pack) (c : List Int), 0 < holdsL ks c → (∀ k ∈ ks, 1 ≤ k.holds) → (∀ x ∈ c, 0 ≤ x) → ∃ i, i < ks.length ∧ i < c.length ∧ 0 < c[i]?.getD 0
 | [], c, h, _, _ => by simp [holdsL] at h
 | k :: ks, [], h, _, _ => by simp [holdsL] at h
 | k :: ks, c :: cs, h, hk, hc => by
  by_cases h0 : 0 < c
  ·exact ⟨0, by simp, by simp, by simpa using h0⟩
  ·have : c = 0 := by have := hc c (List.mem_cons_self ..); omega
   subst this
   obtain ⟨i, h1, h2, h3⟩ := holds_some ks cs (by simpa [holdsL] using h) (fun k hk' => hk k (List.mem_cons_of_mem _ hk')) (fun x hx => hc x (List.mem_cons_of_mem _ hx))
   exact ⟨i + 1, by simpa using h1, by simpa using h2, by simpa using h3⟩
theorem prices_nonneg : ∀ (ks : List Pack) (c : List Int), (∀ k ∈ ks, 0 ≤ k.price) → (∀ x ∈ c, 0 ≤ x) → 0 ≤ pricesL ks c
 | [], c, _, _ => by simp [pricesL]
 | k :: ks, [], _, _ => by simp [pricesL]
 | k :: ks, c :: cs, hk, hc => by
  have h1 := prices_nonneg ks cs (fun k hk' => hk k (List.mem_cons_of_mem _ hk')) (fun x hx => hc x (List.mem_cons_of_mem _ hx))
  have h2 := Int.mul_nonneg (hc c (List.mem_cons_self ..)) (hk k (List.mem_cons_self ..))
  rw [pricesL]
  omega
theorem before_zeros : ∀ (c : List Int) (n : Nat), (∀ x ∈ c, 0 ≤ x) → c.length = n → beforeL c (List.replicate n 0) = false
 | [], 0, _, _ => rfl
 | a :: l, n + 1, hc, hn => by
  rw [List.replicate_succ, beforeL]
  have := hc a (List.mem_cons_self ..)
  split
  ·exact decide_eq_false (by omega)
  ·exact before_zeros l n (fun x hx => hc x (List.mem_cons_of_mem _ hx)) (by simpa using hn)
theorem packL_best {ks : List Pack} (hk : PacksOk ks) : ∀ (f : Nat) (p : Int), p.toNat ≤ f → ∀ c : List Int, c.length = ks.length → (∀ x ∈ c, 0 ≤ x) → p ≤ holdsL ks c → betterP ⟨c, pricesL ks c⟩ (packL ks p) = false := by
 have hp0 : ∀ k ∈ ks, 0 ≤ k.price := fun k h => ((hk.each k h).2).1
 have hh1 : ∀ k ∈ ks, 1 ≤ k.holds := fun k h => ((hk.each k h).1).1
 have base : ∀ p : Int, p ≤ 0 → ∀ c : List Int, c.length = ks.length → (∀ x ∈ c, 0 ≤ x) → betterP ⟨c, pricesL ks c⟩ (packL ks p) = false := fun p hp c hl hc => by
  have h1 := prices_nonneg ks c hp0 hc
  have h2 := sumL_nonneg c hc
  rw [packL_zero hp]
  unfold betterP
  simp only [sumL_zeros, cmpL_before]
  split
  ·exact decide_eq_false (by omega)
  ·split
   ·exact decide_eq_false (by omega)
   ·exact before_zeros c _ hc hl
 intro f
 induction f with
 | zero => exact fun p hp c hl hc _ => base p (by omega) c hl hc
 | succ f ih =>
  intro p hp c hl hc hh
  by_cases h0 : p ≤ 0
  ·exact base p h0 c hl hc
  ·obtain ⟨i, hi, hic, hpos⟩ := holds_some ks c (by omega) hh1 hc
   have hhi := (hk.at hi).1
   have hci : c[i]?.getD 0 = c[i] := by rw [List.getElem?_eq_getElem hic]; rfl
   have hcl : (c.set i (c[i]?.getD 0 + -1)).length = ks.length := by rw [List.length_set]; exact hl
   have ih' := ih (p - holdsAt ks i) (by omega) (c.set i (c[i]?.getD 0 + -1)) hcl (fun x hx => by
    rcases List.mem_or_eq_of_mem_set hx with hx | rfl
    ·exact hc x hx
    ·omega) (by rw [holdsL_bump ks c i (-1) hl hi]; omega)
   have hb : (⟨c, pricesL ks c⟩ : Packed) = bumpP ks i ⟨c.set i (c[i]?.getD 0 + -1), pricesL ks (c.set i (c[i]?.getD 0 + -1))⟩ := by
    unfold bumpP
    simp only [pricesL_bump ks c i (-1) hl hi]
    rw [List.getElem?_set_self hic, Option.getD_some, List.set_set]
    have e1 : c.set i (c[i]?.getD 0 + -1 + 1) = c := by
     rw [show c[i]?.getD 0 + -1 + 1 = c[i] by omega]
     exact List.set_getElem_self hic
    rw [e1]
    congr 1
    omega
   have hlen := packL_len hk (p - holdsAt ks i)
   have h1 : betterP ⟨c, pricesL ks c⟩ (bumpP ks i (packL ks (p - holdsAt ks i))) = false := by
    rw [hb, betterP_bump (by rw [hlen]; exact hcl) (by rw [hcl]; exact hi)]
    exact ih'
   obtain ⟨o, ho⟩ := bestL_some betterP (l := (List.range ks.length).map fun i => bumpP ks i (packL ks (p - holdsAt ks i))) (fun e => by
    have := congrArg List.length e
    simp at this
    rw [this] at hi
    simp at hi)
   have h2 := betterP_least ho _ (List.mem_map.2 ⟨i, List.mem_range.2 hi, rfl⟩)
   rw [packL_pos hk (by omega), ho, Option.getD_some]
   rw [betterP_key] at *
   exact beforeL_ntrans _ _ _ h1 h2
theorem packL_dearer {ks : List Pack} (hk : PacksOk ks) (p : Int) : (packL ks p).price ≤ (packL ks (p + 1)).price := by
 obtain ⟨h1, h2⟩ := packL_holds hk (p + 1)
 have h := packL_best hk p.toNat p (Nat.le_refl _) (packL ks (p + 1)).list (packL_len hk _) (fun x hx => ((packF_fine hk _ _).each x hx).1) (by omega)
 rw [← h2] at h
 unfold betterP at h
 simp only at h
 split at h
 ·have := of_decide_eq_false h; omega
 ·omega
end Go.Proofs.NV
namespace Go.Proofs.NV
open Go.Lib
theorem upto_sorted (d : Array Int) (hs : ∀ i j, i ≤ j → j < d.size → d[i]! ≤ d[j]!) : ∀ m, m ≤ d.size → (compactUpTo d m).Pairwise (· < ·) ∧ ∀ x, x ∈ compactUpTo d m ↔ ∃ j, j < m ∧ d[j]! = x
 | 0, _ => by
  refine ⟨by simp [compactUpTo], fun x => ?_⟩
  simp [compactUpTo]
 | m + 1, hm => by
  obtain ⟨h1, h2⟩ := upto_sorted d hs m (by omega)
  rw [compactUpTo_succ]
  by_cases hk : keeps d m = true
  ·rw [if_pos hk]
   refine ⟨?_, fun x => ?_⟩
   ·rw [List.pairwise_append]
    refine ⟨h1, by simp, fun a ha c hc => ?_⟩
    rw [List.mem_singleton.1 hc]
    obtain ⟨j, hj, rfl⟩ := (h2 a).1 ha
    have hne : d[m]! ≠ d[m - 1]! := by
     rcases (of_decide_eq_true hk : m = 0 ∨ d[m]! ≠ d[m - 1]!) with h | h
     ·omega
     ·exact h
    have ha := hs j (m - 1) (by omega) (by omega)
    have hb := hs (m - 1) m (by omega) (by omega)
    omega
   ·rw [List.mem_append, h2, List.mem_singleton]
    constructor
    ·rintro (⟨j, hj, h⟩ | h)
     ·exact ⟨j, by omega, h⟩
     ·exact ⟨m, by omega, h.symm⟩
    ·rintro ⟨j, hj, h⟩
     rcases Nat.lt_or_ge j m with h' | h'
     ·exact .inl ⟨j, h', h⟩
     ·obtain rfl : j = m := by omega
      exact .inr h.symm
  ·have hk' : ¬ (m = 0 ∨ d[m]! ≠ d[m - 1]!) := fun h => hk (decide_eq_true h)
   rw [if_neg hk, List.append_nil]
   refine ⟨h1, fun x => ?_⟩
   rw [h2]
   constructor
   ·rintro ⟨j, hj, h⟩
    exact ⟨j, by omega, h⟩
   ·rintro ⟨j, hj, h⟩
    rcases Nat.lt_or_ge j m with h' | h'
    ·exact ⟨j, h', h⟩
    ·obtain rfl : j = m := by omega
     have : d[j]! = d[j - 1]! := by
      apply Classical.byContradiction
      exact fun h => hk' (.inr h)
     exact ⟨j - 1, by omega, by rw [← this]; exact h⟩
theorem compact_sorted (zs : List Int) (hs : zs.Pairwise (· ≤ ·)) : (Lib.compact zs).Pairwise (· < ·) ∧ ∀ x, x ∈ Lib.compact zs ↔ x ∈ zs := by
 have h := upto_sorted zs.toArray (fun i j hij hj => by
  have hj' : j < zs.length := by simpa using hj
  rw [getElem!_pos zs.toArray i (by simp; omega), getElem!_pos zs.toArray j hj]
  simp only [List.getElem_toArray]
  rcases Nat.lt_or_ge i j with h | h
  ·exact List.pairwise_iff_getElem.1 hs i j (by omega) hj' h
  ·obtain rfl : i = j := by omega
   exact Int.le_refl _) zs.length (by simp)
 refine ⟨h.1, fun x => ?_⟩
 unfold Lib.compact
 rw [h.2, List.mem_iff_getElem]
 constructor
 ·rintro ⟨j, hj, h⟩
  rw [getElem!_pos zs.toArray j (by simpa using hj)] at h
  exact ⟨j, hj, by simpa using h⟩
 ·rintro ⟨j, hj, h⟩
  refine ⟨j, hj, ?_⟩
  rw [getElem!_pos zs.toArray j (by simpa using hj)]
  simpa using h
theorem listedL_spec (xs : List Int) : (listedL xs).Pairwise (· < ·) ∧ ∀ x, x ∈ listedL xs ↔ x ∈ xs := by
 have hs : (sortL xs).Pairwise (· ≤ ·) := by
  have := List.pairwise_mergeSort (le := fun x y : Int => decide (x ≤ y)) (fun a b c h1 h2 => by simp at *; omega) (fun a b => by simp; omega) xs
  exact this.imp fun h => by simpa using h
 obtain ⟨h1, h2⟩ := compact_sorted _ hs
 exact ⟨h1, fun x => (h2 x).trans (List.mem_mergeSort ..)⟩
theorem strict_ext : ∀ (a c : List Int), a.Pairwise (· < ·) → c.Pairwise (· < ·) → (∀ x, x ∈ a ↔ x ∈ c) → a = c
 | [], [], _, _, _ => rfl
 | [], y :: c, _, _, h => absurd ((h y).2 (by simp)) (by simp)
 | x :: a, [], _, _, h => absurd ((h x).1 (by simp)) (by simp)
 | x :: a, y :: c, ha, hc, h => by
  rw [List.pairwise_cons] at ha hc
  have hxy : x = y := by
   have h1 := (h x).1 (by simp)
   have h2 := (h y).2 (by simp)
   rcases List.mem_cons.1 h1 with h1 | h1
   ·exact h1
   ·rcases List.mem_cons.1 h2 with h2 | h2
    ·exact h2.symm
    ·have := hc.1 x h1
     have := ha.1 y h2
     omega
  subst hxy
  rw [strict_ext a c ha.2 hc.2 fun z => ?_]
  constructor
  ·intro hz
   rcases List.mem_cons.1 ((h z).1 (by simp [hz])) with h1 | h1
   ·have := ha.1 z hz; omega
   ·exact h1
  ·intro hz
   rcases List.mem_cons.1 ((h z).2 (by simp [hz])) with h1 | h1
   ·have := hc.1 z hz; omega
   ·exact h1
def below (n : Nat) (p : Int → Bool) : List Int := ((List.range n).map fun k : Nat => (k : Int)).filter p
theorem below_strict (n : Nat) (p : Int → Bool) : (below n p).Pairwise (· < ·) := by
 unfold below
 refine List.Pairwise.filter _ ?_
 rw [List.pairwise_map]
 exact (List.pairwise_lt_range (n := n)).imp fun h => by omega
theorem mem_below {n : Nat} {p : Int → Bool} {x : Int} : x ∈ below n p ↔ (0 ≤ x ∧ x < n) ∧ p x = true := by
 unfold below
 rw [List.mem_filter, List.mem_map]
 constructor
 ·rintro ⟨⟨k, hk, rfl⟩, h⟩
  rw [List.mem_range] at hk
  exact ⟨⟨by omega, by omega⟩, h⟩
 ·rintro ⟨⟨h1, h2⟩, h⟩
  exact ⟨⟨x.toNat, by rw [List.mem_range]; omega, by omega⟩, h⟩
theorem listedL_below (xs : List Int) (n : Nat) (p : Int → Bool) (h : ∀ x, x ∈ xs ↔ (0 ≤ x ∧ x < n) ∧ p x = true) : listedL xs = below n p :=
 strict_ext _ _ (listedL_spec xs).1 (below_strict n p) fun x => by rw [(listedL_spec xs).2, mem_below, h]
end Go.Proofs.NV
