/- The law OrderCheaper of chapter 9 holds: for every input the call returns true and its arguments read afterwards as before; the listed library tables stand as the program's text lays them. No condition beyond the row's own. -/
import Derived.Test.YtbjnjlgeendakaaGreatDoorCh1
import Derived.Test.YtbjnjlgeendakaaGreatDoorKb26
import Derived.Test.YtbjnjlgeendakaaGreatDoorTie
set_option linter.unusedVariables false
set_option maxRecDepth 100000
set_option maxHeartbeats 8000000
set_option linter.unusedSimpArgs false
namespace Go.Proofs.NV
open Go.RowKit Go.Shelf
attribute [local irreducible] bodyPost bodyPostM wpQuiet
theorem packL_takenOk {ks : List Pack} {p : Int} (hk : PacksOk ks) (hp : p ≤ 600) : takenOk ks (packL ks p).list = true :=
 takenOk_good (by rw [packL_len hk]; exact Nat.le_refl _) (fun x hx => (packL_fine hk p hp).each x hx)
theorem c45q {T : Nat → Prop} (kA : Option Addr) (kc : Nat) (ks : List Pack) (p : Int) (w : World) (hx : packT.Sl w T kA ks) (hm : ks.length ≤ kc ∧ kc ≤ maxLen) (hok : Packs.ok ks p = true) :
  Calls Tryz.prog 45 #[.slice kA ks.length kc, I p] w fun e w' => ∃ A c xs q er, e = .returned (.tuple #[.slice A (List.length xs) c, I q, I er]) ∧ (xs = (packL ks p).list ∧ q = (packL ks p).price ∧ er = 0) ∧ (xs.length ≤ 4 ∧ xs.length ≤ c ∧ c ≤ maxLen) ∧ Ty.int.Sl w' (fun k => w.heap.size ≤ k) A xs ∧ w.grownBy w' none :=
 (f45_calls kA kc ks p w hx hm).mono fun e w' ⟨v, he, hr, hg⟩ => by
  have hq : packsQ ks p = packL ks p := by unfold packsQ; rw [hok]; rfl
  obtain ⟨hk, _⟩ := Packs.ok_of hok
  rw [hq] at he hr
  rw [hok] at he
  obtain ⟨A, c, rfl, h1, h2, hS⟩ := hr.reads
  exact ⟨A, c, _, _, _, he, ⟨rfl, rfl, rfl⟩, ⟨by rw [packL_len hk]; exact hk.len.2, h1, h2⟩, hS, hg⟩
theorem c50 {S T : Nat → Prop} (kA : Option Addr) (kc : Nat) (ks : List Pack) (A : Option Addr) (c : Nat) (xs : List Int) (p : Int) (w : World) (hk : PacksOk ks) (hp : p ≤ 600) (he : xs = (packL ks p).list) (hx : packT.Sl w S kA ks) (hc : Ty.int.Sl w T A xs) (hm : xs.length ≤ 4) :
  Calls Tryz.prog 50 #[.slice kA ks.length kc, .slice A xs.length c] w fun e w' => e = .returned (.tuple #[.agg #[.slice A xs.length c, I (sumL xs), I (pricesL ks xs)], I (holdsL ks xs), .bool true]) ∧ w.grownBy w' none :=
 (f50_calls kA kc ks A c xs w hk hx hc (by omega)).mono fun e w' ⟨h, hg⟩ => by
  refine ⟨?_, hg⟩
  rcases h with ⟨h, _⟩ | ⟨_, h⟩
  ·rw [he, packL_takenOk hk hp] at h; cases h
  ·rw [h]
   have : decide ((xs.length : Int) = ks.length) = true := decide_eq_true (by rw [he, packL_len hk])
   rw [this]
theorem c50s {S T : Nat → Prop} (kA : Option Addr) (kc : Nat) (ks : List Pack) (cA : Option Addr) (cc : Nat) (cs : List Int) (w : World) (hk : PacksOk ks) (hx0 : packT.Sl w S kA ks) (hc0 : Ty.int.Sl w T cA cs) (hm : cs.length ≤ 1000) :
  Calls Tryz.prog 50 #[.slice kA ks.length kc, .slice cA cs.length cc] w fun e w' => (∃ A c n s q h b, e = .returned (.tuple #[.agg #[.slice A n c, I s, I q], I h, .bool b]) ∧ (b = true → takenOk ks cs = true ∧ cs.length = ks.length ∧ A = cA ∧ c = cc ∧ n = cs.length ∧ s = sumL cs ∧ q = pricesL ks cs ∧ h = holdsL ks cs)) ∧ w.grownBy w' none :=
 (f50_calls kA kc ks cA cc cs w hk hx0 hc0 hm).mono fun e w' ⟨h, hg⟩ => by
  refine ⟨?_, hg⟩
  rcases h with ⟨_, h⟩ | ⟨hok, h⟩
  ·exact ⟨_, _, _, _, _, _, _, h, fun hb => by cases hb⟩
  ·exact ⟨_, _, _, _, _, _, _, h, fun hb => ⟨hok, by have := of_decide_eq_true hb; omega, rfl, rfl, rfl, rfl, rfl, rfl⟩⟩
theorem c51 {S T : Nat → Prop} (x y : Taken) (cx cy : List Value) (w : World) (hx : takenT.rep w S x cx) (hy : takenT.rep w T y cy) (h : betterT x y = false) :
  Calls Tryz.prog 51 #[.agg cx.toArray, .agg cy.toArray] w fun e w' => e = .returned (.bool false) ∧ w.grownBy w' none := by
 have := f51_calls x y cx cy w hx hy
 rw [h] at this
 exact this
theorem not_better {ks : List Pack} {p : Int} {cs : List Int} (hk : PacksOk ks) (hok : takenOk ks cs = true) (hl : cs.length = ks.length) (hp : p ≤ holdsL ks cs) : betterT ⟨cs, sumL cs, pricesL ks cs⟩ (toT (packL ks p)) = false := by
 have h := packL_best hk p.toNat p (Nat.le_refl _) cs hl (fun x hx => ((takenOk_of hok).2 x hx).1) hp
 rw [← betterT_toT] at h
 exact h
theorem f8_calls {S T : Nat → Prop} (kA : Option Addr) (kc : Nat) (ks : List Pack) (p : Int) (cA : Option Addr) (cc : Nat) (cs : List Int) (w : World) (hx : packT.Sl w S kA ks) (hm : ks.length ≤ kc ∧ kc ≤ maxLen) (hc : Ty.int.Sl w T cA cs) (hm2 : cs.length ≤ cc ∧ cc ≤ maxLen) :
  Calls Tryz.prog 8 #[.slice kA ks.length kc, I p, .slice cA cs.length cc] w fun e w' => e = .returned (.bool true) ∧ w.grownBy w' none := by
 refine s_enter (n := 108) Tryz.func8 rfl rfl rfl ?_
 have G := grown_refl w none
 refine s_rseq fun _ k1 => ?_
 refine o_v v_assign ?_
 refine o_end (k1 _ _ ?_)
 refine s_seq fun _ k2 => ?_
 refine s_rseq fun _ k3 => ?_
 refine o_v v_move ?_
 refine o_v (v_len rfl Tryz.underlying74) ?_
 refine o_v (v_gtr rfl rfl) ?_
 refine o_v v_move ?_
 refine o_mid (G := Unit) 4 (fun _ => [(26, .bool (decide ((ks.length : Int) > 6) || decide ((cs.length : Int) > 6)))]) [26] [23, 24, 25] (fun _ w' => w.grownBy w' none) (fun _ => rfl) ?_ ?_
 ·have H1 := grown_refl w none
  rcases Bool.eq_false_or_eq_true (decide ((ks.length : Int) > 6)) with hX1 | hX1
  ·refine g_no rfl rfl rfl hX1 ?_
   refine g_no rfl rfl rfl hX1 ?_
   refine g_no rfl rfl rfl hX1 ?_
   refine o_v (v_pick_t rfl hX1) ?_
   refine o_end (mid () ?_ ?_ ?_)
   ·repeat (first | exact off_refl | refine off_cons rfl ?_)
   ·exact ⟨by rw [hX1]; rfl, trivial⟩
   ·exact H1
  ·refine g_yes rfl rfl rfl hX1 ?_
   refine o_v v_move ?_
   refine g_yes rfl rfl rfl hX1 ?_
   refine o_v (v_len rfl Tryz.underlying56) ?_
   refine g_yes rfl rfl rfl hX1 ?_
   refine o_v (v_gtr rfl rfl) ?_
   refine o_v (v_pick_f rfl hX1) ?_
   refine o_end (mid () ?_ ?_ ?_)
   ·repeat (first | exact off_refl | refine off_cons rfl ?_)
   ·exact ⟨by rw [hX1]; rfl, trivial⟩
   ·exact H1
 ·rintro _ jv w1 g1
  replace G := G.step0 g1; replace hx := hx.step0 g1; replace hc := hc.step0 g1
  refine o_v v_move ?_
  refine o_mid (G := Unit) 4 (fun _ => [(31, .bool ((decide ((ks.length : Int) > 6) || decide ((cs.length : Int) > 6)) || !isPacksB ks))]) [31] [28, 29, 30] (fun _ w' => w1.grownBy w' none) (fun _ => rfl) ?_ ?_
  ·have H2 := grown_refl w1 none
   rcases Bool.eq_false_or_eq_true ((decide ((ks.length : Int) > 6) || decide ((cs.length : Int) > 6))) with hX2 | hX2
   ·refine g_no rfl rfl rfl hX2 ?_
    refine g_no rfl rfl rfl hX2 ?_
    refine g_no rfl rfl rfl hX2 ?_
    refine o_v (v_pick_t rfl hX2) ?_
    refine o_end (mid () ?_ ?_ ?_)
    ·repeat (first | exact off_refl | refine off_cons rfl ?_)
    ·exact ⟨by rw [hX2]; rfl, trivial⟩
    ·exact H2
   ·refine g_yes rfl rfl rfl hX2 ?_
    refine o_v v_move ?_
    refine g_yes rfl rfl rfl hX2 ?_
    refine o_call rfl rfl ent46 ((f46_calls kA kc ks w1 hx (by omega))) ?_; rintro _ w2 ⟨rfl, g2⟩; refine ⟨_, rfl, ?_⟩
    replace G := G.step0 g2; replace hx := hx.step0 g2; replace hc := hc.step0 g2; replace H2 := H2.step0 g2
    refine g_yes rfl rfl rfl hX2 ?_
    refine o_v (v_not rfl) ?_
    refine o_v (v_pick_f rfl hX2) ?_
    refine o_end (mid () ?_ ?_ ?_)
    ·repeat (first | exact off_refl | refine off_cons rfl ?_)
    ·exact ⟨by rw [hX2]; rfl, trivial⟩
    ·exact H2
  ·rintro _ jv w3 g3
   replace G := G.step0 g3; replace hx := hx.step0 g3; replace hc := hc.step0 g3
   refine o_v v_move ?_
   refine o_mid (G := Unit) 4 (fun _ => [(36, .bool (((decide ((ks.length : Int) > 6) || decide ((cs.length : Int) > 6)) || !isPacksB ks) || !inB p 0 600))]) [36] [33, 34, 35] (fun _ w' => w3.grownBy w' none) (fun _ => rfl) ?_ ?_
   ·have H3 := grown_refl w3 none
    rcases Bool.eq_false_or_eq_true (((decide ((ks.length : Int) > 6) || decide ((cs.length : Int) > 6)) || !isPacksB ks)) with hX3 | hX3
    ·refine g_no rfl rfl rfl hX3 ?_
     refine g_no rfl rfl rfl hX3 ?_
     refine g_no rfl rfl rfl hX3 ?_
     refine o_v (v_pick_t rfl hX3) ?_
     refine o_end (mid () ?_ ?_ ?_)
     ·repeat (first | exact off_refl | refine off_cons rfl ?_)
     ·exact ⟨by rw [hX3]; rfl, trivial⟩
     ·exact H3
    ·refine g_yes rfl rfl rfl hX3 ?_
     refine o_v v_move ?_
     refine g_yes rfl rfl rfl hX3 ?_
     refine o_call rfl rfl ent47 ((f47_calls p w3)) ?_; rintro _ w4 ⟨rfl, g4⟩; refine ⟨_, rfl, ?_⟩
     replace G := G.step0 g4; replace hx := hx.step0 g4; replace hc := hc.step0 g4; replace H3 := H3.step0 g4
     refine g_yes rfl rfl rfl hX3 ?_
     refine o_v (v_not rfl) ?_
     refine o_v (v_pick_f rfl hX3) ?_
     refine o_end (mid () ?_ ?_ ?_)
     ·repeat (first | exact off_refl | refine off_cons rfl ?_)
     ·exact ⟨by rw [hX3]; rfl, trivial⟩
     ·exact H3
   ·rintro _ jv w5 g5
    replace G := G.step0 g5; replace hx := hx.step0 g5; replace hc := hc.step0 g5
    refine o_end (k3 _ _ ?_)
    refine s_if rfl (fun c3 => ?_) (fun c3 => ?_)
    ·refine s_rseq fun _ k4 => ?_
     refine o_call rfl rfl ent20 ((f20_calls w5)) ?_; rintro _ w6 ⟨rfl, g6⟩; refine ⟨_, rfl, ?_⟩
     replace G := G.step0 g6; replace hx := hx.step0 g6; replace hc := hc.step0 g6
     refine o_v v_assign ?_
     refine o_end (k4 _ _ ?_)
     refine s_ret (post1 rfl ?_)
     exact ⟨rfl, G⟩
    ·have c3' : isPacksB ks = true ∧ inB p 0 600 = true ∧ cs.length ≤ 6 := by
      simp only [Bool.or_eq_false_iff, decide_eq_false_iff_not] at c3
      exact ⟨not_f c3.1.2, not_f c3.2, by omega⟩
     have hok : Packs.ok ks p = true := by rw [ok_packs, c3'.1, c3'.2.1]; rfl
     obtain ⟨hpk, hp0, hp6⟩ := Packs.ok_of hok
     have hcl := c3'.2.2
     refine s_skip ?_
     refine k2 _ _ ?_
     refine s_rseq fun _ k5 => ?_
     refine o_v v_move ?_
     refine o_v v_move ?_
     refine o_call rfl rfl ent45 (c45q kA kc ks p w5 hx hm hok) ?_; rintro _ w7 ⟨rA, rc, xs, q, er, rfl, ⟨h1, h2, h3⟩, ⟨hxl, hrc⟩, hr, g7⟩; refine ⟨_, rfl, ?_⟩
     replace G := G.step0 g7; replace hx := hx.step0 g7; replace hc := hc.step0 g7
     refine o_v v_move ?_
     refine o_v (v_extract rfl rfl) ?_
     refine o_v (v_extract rfl rfl) ?_
     refine o_v (v_extract rfl rfl) ?_
     refine o_v v_assign ?_
     refine o_v v_assign ?_
     refine o_v v_assign ?_
     refine o_end (k5 _ _ ?_)
     refine s_rseq fun _ k6 => ?_
     refine o_v v_move ?_
     refine o_v v_move ?_
     refine o_call rfl rfl ent50 (c50 kA kc ks rA rc xs p w7 hpk hp6 h1 hx hr hxl) ?_; rintro _ w8 ⟨rfl, g8⟩; refine ⟨_, rfl, ?_⟩
     replace hr := hr.step0 g8
     replace G := G.step0 g8; replace hx := hx.step0 g8; replace hc := hc.step0 g8
     refine o_v v_move ?_
     refine o_v (v_extract rfl rfl) ?_
     refine o_v (v_extract rfl rfl) ?_
     refine o_v (v_extract rfl rfl) ?_
     refine o_allocst (vs := [.slice rA xs.length rc, I (sumL xs), I (pricesL ks xs)]) ze80 rfl rfl rfl sz80 rfl rfl rfl ?_; intro w9 B10 g9 z9
     replace hr := hr.step0 g9
     replace G := G.step0 g9; replace hx := hx.step0 g9; replace hc := hc.step0 g9
     refine o_v v_assign ?_
     refine o_v v_assign ?_
     refine o_end (k6 _ _ ?_)
     refine s_seq fun _ k7 => ?_
     refine s_rseq fun _ k8 => ?_
     refine o_v v_move ?_
     refine o_v (v_neq rfl rfl) ?_
     refine o_v v_move ?_
     refine g_yes rfl rfl rfl (by rw [h3]; rfl) ?_
     refine o_v v_move ?_
     refine g_yes rfl rfl rfl (by rw [h3]; rfl) ?_
     refine o_v (v_not rfl) ?_
     refine o_v (v_pick_f rfl (by rw [h3]; rfl)) ?_
     refine o_v v_move ?_
     refine g_yes rfl rfl rfl rfl ?_
     refine o_v v_move ?_
     refine g_yes rfl rfl rfl rfl ?_
     refine o_v v_move ?_
     refine g_yes rfl rfl rfl rfl ?_
     refine o_v (v_lss rfl rfl) ?_
     refine o_v (v_pick_f rfl rfl) ?_
     refine o_v v_move ?_
     refine g_yes rfl rfl rfl (decide_eq_false (by rw [h1]; exact Int.not_lt.2 (packL_holds hpk p).1)) ?_
     refine o_v (v_field rfl fld80_2) ?_
     refine g_yes rfl rfl rfl (decide_eq_false (by rw [h1]; exact Int.not_lt.2 (packL_holds hpk p).1)) ?_
     refine o_v (v_loadB rfl sc3 B10 rfl) ?_
     refine g_yes rfl rfl rfl (decide_eq_false (by rw [h1]; exact Int.not_lt.2 (packL_holds hpk p).1)) ?_
     refine o_v v_move ?_
     refine g_yes rfl rfl rfl (decide_eq_false (by rw [h1]; exact Int.not_lt.2 (packL_holds hpk p).1)) ?_
     refine o_v (v_neq rfl rfl) ?_
     refine o_v (v_pick_f rfl (decide_eq_false (by rw [h1]; exact Int.not_lt.2 (packL_holds hpk p).1))) ?_
     refine o_end (k8 _ _ ?_)
     have hprice : pricesL ks xs = q := by rw [h2, h1]; exact (packL_holds hpk p).2.symm
     refine s_if (b := decide (pricesL ks xs ≠ q)) rfl (fun c8 => absurd hprice (of_decide_eq_true c8)) (fun c8 => ?_)
     ·refine s_skip ?_
      refine k7 _ _ ?_
      refine s_rseq fun _ k10 => ?_
      refine o_v v_move ?_
      refine o_v v_move ?_
      refine o_call rfl rfl ent50 (c50s kA kc ks cA cc cs w9 hpk hx hc (by omega)) ?_; rintro _ w13 ⟨⟨oA, oc, on, os, oq, oh, ob, rfl, hob⟩, g13⟩; refine ⟨_, rfl, ?_⟩
      replace hr := hr.step0 g13
      replace G := G.step0 g13; replace hx := hx.step0 g13; replace hc := hc.step0 g13; replace B10 := B10.step0 g13
      refine o_v v_move ?_
      refine o_v (v_extract rfl rfl) ?_
      refine o_v (v_extract rfl rfl) ?_
      refine o_v (v_extract rfl rfl) ?_
      refine o_allocst (vs := [.slice oA on oc, I os, I oq]) ze80 rfl rfl rfl sz80 rfl rfl rfl ?_; intro w14 B13 g14 z14
      replace hr := hr.step0 g14
      have hrB : takenT.rep w14 (fun k => w5.heap.size ≤ k) (toT (packL ks p)) [.slice rA xs.length rc, I (sumL xs), I (pricesL ks xs)] := takenT_iff.2 ⟨rA, rc, by rw [h1, ← (packL_holds hpk p).2]; rfl, by show (packL ks p).list.length ≤ rc; rw [← h1]; exact hrc.1, hrc.2, by show Ty.int.Sl _ _ _ (packL ks p).list; rw [← h1]; exact hr⟩
      replace G := G.step0 g14; replace hx := hx.step0 g14; replace hc := hc.step0 g14; replace B10 := B10.step0 g14
      refine o_v v_assign ?_
      refine o_v v_assign ?_
      refine o_end (k10 _ _ ?_)
      refine s_seq fun _ k11 => ?_
      refine s_rseq fun _ k12 => ?_
      refine o_v v_move ?_
      refine o_mid (G := Unit) 10 (fun _ => [(86, .bool false)]) [86] [77, 78, 79, 80, 81, 82, 83, 84, 85] (fun _ w' => w14.grownBy w' none) (fun _ => rfl) ?_ ?_
      ·refine Or.elim (Bool.eq_false_or_eq_true ob) (fun hb => ?_) (fun hb => ?_)
       ·have t1 := (hob hb).1
        have t2 := (hob hb).2.1
        have t3 := (hob hb).2.2
        refine Or.elim (Bool.eq_false_or_eq_true (decide (oh ≥ p))) (fun hh => ?_) (fun hh => ?_)
        ·have t8 : p ≤ holdsL ks cs := t3.2.2.2.2.2 ▸ of_decide_eq_true hh
         have hrO : takenT.rep w14 T ⟨cs, sumL cs, pricesL ks cs⟩ [.slice oA on oc, I os, I oq] := by rw [t3.1, t3.2.1, t3.2.2.1, t3.2.2.2.1, t3.2.2.2.2.1]; exact takenT_iff.2 ⟨_, _, rfl, hm2.1, hm2.2, hc⟩
         refine o_v v_move ?_
         refine g_yes rfl rfl rfl hb ?_
         refine o_v v_move ?_
         refine g_yes rfl rfl rfl hb ?_
         refine o_v v_move ?_
         refine g_yes rfl rfl rfl hb ?_
         refine o_v (v_geq rfl rfl) ?_
         refine o_v (v_pick_t rfl hb) ?_
         refine o_v v_move ?_
         refine g_yes rfl rfl rfl hh ?_
         refine o_v (v_loadBS (vs := [.slice oA on oc, I os, I oq]) rfl ag80 B13 rfl rfl) ?_
         refine g_yes rfl rfl rfl hh ?_
         refine o_v (v_loadBS (vs := [.slice rA xs.length rc, I (sumL xs), I (pricesL ks xs)]) rfl ag80 B10 rfl rfl) ?_
         refine g_yes rfl rfl rfl hh ?_
         refine o_call rfl rfl ent51 (c51 ⟨cs, sumL cs, pricesL ks cs⟩ (toT (packL ks p)) _ _ w14 hrO hrB (not_better hpk t1 t2 t8)) ?_; rintro _ w16 ⟨rfl, g16⟩; refine ⟨_, rfl, ?_⟩
         refine o_v (v_pick_t rfl hh) ?_
         refine o_end (mid () ?_ ?_ ?_)
         ·repeat (first | exact off_refl | refine off_cons rfl ?_)
         ·exact ⟨rfl, trivial⟩
         ·exact g16
        ·refine o_v v_move ?_
         refine g_yes rfl rfl rfl hb ?_
         refine o_v v_move ?_
         refine g_yes rfl rfl rfl hb ?_
         refine o_v v_move ?_
         refine g_yes rfl rfl rfl hb ?_
         refine o_v (v_geq rfl rfl) ?_
         refine o_v (v_pick_t rfl hb) ?_
         refine o_v v_move ?_
         refine g_no rfl rfl rfl hh ?_
         refine g_no rfl rfl rfl hh ?_
         refine g_no rfl rfl rfl hh ?_
         refine o_v (v_pick_f rfl hh) ?_
         refine o_end (mid () ?_ ?_ ?_)
         ·repeat (first | exact off_refl | refine off_cons rfl ?_)
         ·exact ⟨rfl, trivial⟩
         ·exact grown_refl _ _
       ·refine o_v v_move ?_
        refine g_no rfl rfl rfl hb ?_
        refine g_no rfl rfl rfl hb ?_
        refine g_no rfl rfl rfl hb ?_
        refine o_v (v_pick_f rfl hb) ?_
        refine o_v v_move ?_
        refine g_no rfl rfl rfl rfl ?_
        refine g_no rfl rfl rfl rfl ?_
        refine g_no rfl rfl rfl rfl ?_
        refine o_v (v_pick_f rfl rfl) ?_
        refine o_end (mid () ?_ ?_ ?_)
        ·repeat (first | exact off_refl | refine off_cons rfl ?_)
        ·exact ⟨rfl, trivial⟩
        ·exact grown_refl _ _
      rintro _ jv w17 g17
      replace G := G.step0 g17; replace hx := hx.step0 g17; replace hc := hc.step0 g17; replace B10 := B10.step0 g17; replace B13 := B13.step0 g17
      refine o_end (k12 _ _ ?_)
      refine s_if (b := false) rfl (fun c12 => by cases c12) (fun c12 => ?_)
      ·refine s_skip ?_
       refine k11 _ _ ?_
       refine s_seq fun _ k14 => ?_
       refine s_rseq fun _ k15 => ?_
       refine o_v v_move ?_
       refine o_v (v_eql rfl rfl) ?_
       refine o_end (k15 _ _ ?_)
       refine s_ifd rfl (fun c15 => ?_) (fun c15 => ?_)
       ·refine s_rseq fun _ k16 => ?_
        refine o_call rfl rfl ent20 ((f20_calls w17)) ?_; rintro _ w18 ⟨rfl, g18⟩; refine ⟨_, rfl, ?_⟩
        replace G := G.step0 g18; replace hx := hx.step0 g18; replace hc := hc.step0 g18; replace B10 := B10.step0 g18; replace B13 := B13.step0 g18
        refine o_v v_assign ?_
        refine o_end (k16 _ _ ?_)
        refine s_ret (post1 rfl ?_)
        exact ⟨rfl, G⟩
       ·have hp5 : p ≤ 599 := by omega
        have hokp : Packs.ok ks (p + 1) = true := by
         rw [ok_packs, c3'.1]
         unfold inB
         rw [decide_eq_true (by omega)]
         rfl
        refine s_skip ?_
        refine k14 _ _ ?_
        refine s_rseq fun _ k17 => ?_
        refine o_v v_move ?_
        refine o_v v_move ?_
        refine o_v (v_add rfl rfl (by omega)) ?_
        refine o_call rfl rfl ent45 (c45q kA kc ks (p + 1) w17 hx hm hokp) ?_; rintro _ w19 ⟨rA2, rc2, xs2, q2, er2, rfl, ⟨h1p, h2p, h3p⟩, _, _, g19⟩; refine ⟨_, rfl, ?_⟩
        replace G := G.step0 g19; replace hx := hx.step0 g19; replace hc := hc.step0 g19; replace B10 := B10.step0 g19; replace B13 := B13.step0 g19
        refine o_v v_move ?_
        refine o_v (v_extract rfl rfl) ?_
        refine o_v (v_extract rfl rfl) ?_
        refine o_v (v_extract rfl rfl) ?_
        refine o_v v_assign ?_
        refine o_v v_assign ?_
        refine o_v v_assign ?_
        refine o_end (k17 _ _ ?_)
        refine s_rseq fun _ k18 => ?_
        refine o_v v_move ?_
        refine o_v (v_eql rfl rfl) ?_
        refine o_v v_move ?_
        refine g_yes rfl rfl rfl (by rw [h3p]; rfl) ?_
        refine o_v v_move ?_
        refine g_yes rfl rfl rfl (by rw [h3p]; rfl) ?_
        refine o_v v_move ?_
        refine g_yes rfl rfl rfl (by rw [h3p]; rfl) ?_
        refine o_v (v_geq rfl rfl) ?_
        refine o_v (v_pick_t rfl (by rw [h3p]; rfl)) ?_
        refine o_v v_move ?_
        refine g_yes rfl rfl rfl (decide_eq_true (by rw [h2p, h2]; exact packL_dearer hpk p)) ?_
        refine o_call rfl rfl ent20 (f20_calls w19) ?_; rintro _ w21 ⟨rfl, g21⟩; refine ⟨_, rfl, ?_⟩
        replace G := G.step0 g21
        refine o_v (v_pick_t rfl (decide_eq_true (by rw [h2p, h2]; exact packL_dearer hpk p))) ?_
        refine o_v v_assign ?_
        refine o_end (k18 _ _ ?_)
        refine s_ret (post1 rfl ?_)
        exact ⟨rfl, G⟩
end Go.Proofs.NV
namespace Go.Proofs.NV
open Go.RowKit Go.ChangeShapes Go.WideShapes
theorem opens_i3 : Opens Tryz.prog Ty.int 3 := opens_int Tryz.underlying3
theorem cells3 : Tryz.prog.cellsOf 3 = Ty.int.sz := by kernel_rfl
theorem opens_pack : Opens Tryz.prog packT 164 := opens_of (t := Ty.int.pair Ty.int) (opens_struct Tryz.underlying164 (by kernel_rfl) rfl (by kernel_rfl) (opensL_cons cells3 opens_i3 (opensL_one cells3 opens_i3))) fun w S y cs hy => by
 obtain ⟨c0, c1, rfl, h0, h1⟩ := hy
 exact ⟨⟨y.1, y.2⟩, by rw [show c0 = [I y.1] from h0, show c1 = [I y.2] from h1]; rfl⟩
theorem opens_packs : Opens Tryz.prog packT.sl 74 := opens_sl Tryz.underlying74 (by kernel_rfl) opens_pack
theorem opens_ints : Opens Tryz.prog Ty.int.sl 56 := opens_sl Tryz.underlying56 cells3 opens_i3
end Go.Proofs.NV
namespace Go.Proofs.YtbjnjlgeendakaaGreatDoor
open Go.RowKit Go.ChangeShapes Go.WideShapes NV
theorem orderCheaper_lifted (os : Os) (started : os.Started) (H : Type) (enc : TypeId × Value → H) :
  ReturnsInHanded {} Tryz.checked os 8 .any (fun w args => (Rows.orderCheaperSpec.pre enc Tryz.prog Tryz.f8 [] false w args ∧ laidMetH Tryz.prog Rows.orderCheaperRow.laid w) ∧ sizedMet enc Tryz.prog Tryz.f8 (OpenSpec.ofChange Rows.orderCheaperSpec) false w args)
   (Rows.orderCheaperSpec.post enc Tryz.prog Tryz.f8 false true false false) := by
 refine law_lifted started #[.slice none 0 0, .int .i64 0, .slice none 0 0] Tryz.func8 (by kernel_rfl) rfl rfl (by kernel_rfl) (fun ds h => ?_)
  (ChangeSpec.witness_shaped (enc := enc) (C := Tryz.checked) (os := os) (X := fun w _ => laidMetH Tryz.prog Rows.orderCheaperRow.laid w) false (World.laidAll Tryz.prog os Rows.orderCheaperRow.laid) #[.slice none 0 0, .int .i64 0, .slice none 0 0] 8 (World.laidAll_os _ _ _)
   (World.shaped_of_ZipB (by kernel_rfl) (by kernel_rfl)) (by kernel_rfl) (by kernel_rfl) (by kernel_rfl)
   (by rw [MakeChecks.laidMetH_plain _ _ _ (by kernel_rfl)]; exact laidMet_laidAll _ (by kernel_rfl) (by kernel_rfl))) (fun W args ds p hval hA => ?_)
 ·match ds, h with
  | [d1, d2, d3], _ => rfl
 ·obtain ⟨base, hval⟩ := hval
  rw [Tryz.params8] at hA hval
  obtain ⟨v0, vs0, d0, ds0, p0, q0, hargs, rfl, rfl, h0, r0⟩ := trodAll_cons hA
  obtain ⟨v1, vs1, d1, ds1, p1, q1, rfl, rfl, rfl, h1, r1⟩ := trodAll_cons r0
  obtain ⟨v2, vs2, d2, ds2, p2, q2, rfl, rfl, rfl, h2, r2⟩ := trodAll_cons r1
  obtain ⟨rfl, rfl, rfl⟩ := trodAll_nil r2
  obtain rfl : args = #[v0, v1, v2] := by cases args; simp_all
  obtain ⟨A, len0, c, rfl⟩ := okWide_slice Tryz.underlying74 (hval 0 74 _ rfl rfl)
  obtain ⟨m0, hm0⟩ := h0
  obtain ⟨ks, A', c', he, hc0, hd0, hS0⟩ := opens_packs H enc W m0 _ _ hm0
  injection he with he
  injection he with e1 e2 e3
  subst e1 e2 e3
  obtain ⟨x, rfl, _⟩ := open_int Tryz.underlying3 (hval 1 3 _ rfl rfl) h1
  obtain ⟨B, len2, d, rfl⟩ := okWide_slice Tryz.underlying56 (hval 2 56 _ rfl rfl)
  obtain ⟨m2, hm2⟩ := h2
  obtain ⟨cs, A', c', he, hc2, hd2, hS2⟩ := opens_ints H enc W m2 _ _ hm2
  injection he with he
  injection he with e1 e2 e3
  subst e1 e2 e3
  exact f8_calls A c ks x B d cs W hS0 ⟨hc0, hd0⟩ hS2 ⟨hc2, hd2⟩
theorem orderCheaper_l1 : Rows.orderCheaperRow.wf (OpenSpec.ofChange Rows.orderCheaperSpec) = true := by kernel_rfl
theorem orderCheaper_l2 : laidOutB Tryz.pinned.checked.prog = true := pf2
theorem orderCheaper_l3 : mapsRowed Tryz.pinned.checked.prog = true := pf3
theorem orderCheaper_l4 : Tryz.f8.params.all (Tryz.pinned.checked.prog.readableRec ·) = true := by kernel_rfl
theorem orderCheaper_l5 : namedTie Tryz.pinned.checked.prog Rows.orderCheaperRow.named Rows.orderCheaperSpec.vars = true := by kernel_rfl
theorem orderCheaper_l6 : (Rows.orderCheaperRow.stops == []) = true := by kernel_rfl
theorem orderCheaper_l7 : (Tryz.pinned.checked.prog.stops == []) = true := pf7
theorem orderCheaper_l8 : (Rows.orderCheaperRow.knobs == []) = true := by kernel_rfl
theorem orderCheaper_l9 : (Tryz.pinned.checked.prog.stopKnobs == []) = true := pf9
theorem orderCheaper_l10 : (Rows.orderCheaperRow.inPlace == Tryz.pinned.checked.prog.inPlace 8) = true := by kernel_rfl
theorem orderCheaper_l11 : (Rows.orderCheaperRow.unfollowed == Tryz.pinned.checked.prog.unfollowed 8) = true := by kernel_rfl
theorem orderCheaper_l12 : (Rows.orderCheaperRow.recurses == Tryz.pinned.checked.prog.recurses 8) = true := by kernel_rfl
theorem orderCheaper_l13 : (Rows.orderCheaperRow.named == Tryz.pinned.checked.prog.varsNamed 8) = true := by kernel_rfl
theorem orderCheaper_l14 : (Rows.orderCheaperRow.maps == (Tryz.f8.params.toList ++ Rows.orderCheaperSpec.plain.varTypes Tryz.pinned.checked.prog).any (Tryz.pinned.checked.prog.mapsRec ·)) = true := by kernel_rfl
theorem orderCheaper_l15 : (Rows.orderCheaperRow.ifaces == (Tryz.f8.params.toList ++ Rows.orderCheaperSpec.plain.varTypes Tryz.pinned.checked.prog).any (Tryz.pinned.checked.prog.ifacesRec ·)) = true := by kernel_rfl
theorem orderCheaper_l16 : (Rows.orderCheaperRow.mapsOut == Tryz.pinned.checked.prog.mapsAmong Tryz.f8.resultTypes.toList) = true := by kernel_rfl
theorem orderCheaper_l17 : (Rows.orderCheaperRow.loops == (Tryz.f8.params.toList ++ Rows.orderCheaperSpec.plain.varTypes Tryz.pinned.checked.prog).any (Tryz.pinned.checked.prog.loopsFrom ·)) = true := by kernel_rfl
theorem orderCheaper_l18 : (Rows.orderCheaperRow.wideKeys == (Tryz.f8.params.toList ++ Rows.orderCheaperSpec.plain.varTypes Tryz.pinned.checked.prog ++ Tryz.f8.resultTypes.toList).any (Tryz.pinned.checked.prog.wideKeysFrom ·)) = true := by kernel_rfl
theorem orderCheaper_l19 : Rows.orderCheaperSpec.vars.all (Tryz.pinned.checked.prog.varReadable ·) = true := by kernel_rfl
theorem orderCheaper_l20 : Tryz.f8.resultTypes.all (fun t => Tryz.pinned.checked.prog.readableRec t && decide (t < Tryz.pinned.checked.prog.types.size)) = true := by kernel_rfl
theorem orderCheaper_l21 : (Rows.orderCheaperRow.ifacesOut == Tryz.f8.resultTypes.toList.any (Tryz.pinned.checked.prog.ifacesRec ·)) = true := by kernel_rfl
theorem orderCheaper_l22 : (Rows.orderCheaperRow.loopsOut == Tryz.f8.resultTypes.toList.any (Tryz.pinned.checked.prog.loopsFrom ·)) = true := by kernel_rfl
theorem orderCheaper_l23 : (Rows.orderCheaperRow.plainKeys == Tryz.pinned.checked.prog.plainKeys) = true := pf23
theorem orderCheaper_l24 : Rows.orderCheaperRow.shortTexts.isNone = true := by kernel_rfl
theorem orderCheaper_l25 : Tryz.pinned.checked.prog.stopsHeard = true := pf25
theorem orderCheaper_l26 : Tryz.pinned.checked.prog.mayEnter = true := pf26
theorem orderCheaper_l27 : (Rows.orderCheaperRow.lifted == Tryz.pinned.checked.prog.liftsFinal) = true := pf27
theorem orderCheaper_l28 : (Tryz.pinned.checked.prog.make == some Rows.orderCheaperRow.make) = true := pf28
theorem orderCheaper_l29 : (Rows.orderCheaperRow.kinds == (if Rows.orderCheaperRow.domain.isEmpty then [] else Tryz.f8.params.toList.map fun t => match Tryz.pinned.checked.prog.underlying t with | some (.int k) => some k | _ => none)) = true := by kernel_rfl
theorem orderCheaper_l30 : (Rows.orderCheaperRow.pinned == Rows.orderCheaperRow.pinnedBy) = true := by kernel_rfl
theorem orderCheaper_l31 : (Rows.orderCheaperRow.veiled == (Tryz.f8.params.toList ++ Rows.orderCheaperSpec.plain.varTypes Tryz.pinned.checked.prog ++ Tryz.f8.resultTypes.toList).any (Tryz.pinned.checked.prog.veiledRec ·)) = true := by kernel_rfl
theorem orderCheaper_l32 : Rows.orderCheaperRow.veiledFits Tryz.pinned.checked.prog Tryz.f8.params.toList (Tryz.f8.params.toList ++ Rows.orderCheaperSpec.plain.varTypes Tryz.pinned.checked.prog ++ Tryz.f8.resultTypes.toList) = true := by kernel_rfl
theorem orderCheaper_named : Tryz.pinned.checked.prog.funcNamed Rows.orderCheaperRow.func = some 8 := by kernel_rfl
theorem orderCheaper_inst : Tryz.f8.isInstance Tryz.pinned.checked.prog Rows.orderCheaperRow.origin Rows.orderCheaperRow.targs := of_decide_eq_true (by kernel_rfl)
theorem orderCheaper_wrap : Tryz.f8.isWrapper Tryz.pinned.checked.prog Rows.orderCheaperRow.wrapper Rows.orderCheaperRow.mainSum := by unfold Func.isWrapper; first | (rw [if_pos (by decide +kernel)]; kernel_rfl) | (rw [if_neg (by decide +kernel)]; exact ⟨rfl, rfl⟩)
theorem orderCheaper_joined : joinedFacts Tryz.pinned.checked.prog 8 Tryz.f8 Rows.orderCheaperSpec Rows.orderCheaperRow = true := joined_of orderCheaper_l1 orderCheaper_l2 orderCheaper_l3 orderCheaper_l4 orderCheaper_l5 orderCheaper_l6 orderCheaper_l7 orderCheaper_l8 orderCheaper_l9 orderCheaper_l10 orderCheaper_l11 orderCheaper_l12 orderCheaper_l13 orderCheaper_l14 orderCheaper_l15 orderCheaper_l16 orderCheaper_l17 orderCheaper_l18 orderCheaper_l19 orderCheaper_l20 orderCheaper_l21 orderCheaper_l22 orderCheaper_l23 orderCheaper_l24 orderCheaper_l25 orderCheaper_l26 orderCheaper_l27 orderCheaper_l28 orderCheaper_l29 orderCheaper_l30 orderCheaper_l31 orderCheaper_l32
theorem orderCheaper_row : Rows.OrderCheaperSaid :=
 OpenClaim.holds_of_wide 8 Tryz.f8 rfl rfl rfl rfl rfl rfl rfl ⟨rfl, rfl, rfl, rfl, rfl⟩ rfl rfl rfl rfl rfl orderCheaper_named Tryz.func8 orderCheaper_joined orderCheaper_inst orderCheaper_wrap
  (fun os started H enc _ => by
   rw [pre_of (c := Rows.orderCheaperRow) rfl rfl rfl]
   exact orderCheaper_lifted os started H enc)
theorem orderCheaper_wft : Rows.orderCheaperRow.wfByText (OpenSpec.ofChange Rows.orderCheaperSpec) = true := by kernel_rfl
theorem orderCheaper_goes : false = Rows.orderCheaperRow.goesBy Tryz.pinned.checked.prog := by kernel_rfl
theorem orderCheaper_stand : ([74, 3, 56].all fun u => !Tryz.pinned.checked.prog.wantsStandIn u) = true := by kernel_rfl
theorem orderCheaper_card : Rows.OrderCheaperCardSaid :=
 Claim7.holds_tied_plain_at .later [] [.data, .data, .data, .data, .pinned] true (true, "d6c97e3a80c745e0c48b70760acf35e029e7681ab7e400eb7bc6d9e8aaad5c17") true orderCheaper_row (fun _ h => by cases h) orderCheaper_wft (fun _ h => by cases h) orderCheaper_row_tie rfl ⟨rfl, rfl⟩ pf_main rfl
  (fun f fn hf hfn => by
   obtain rfl : f = 8 := Option.some.inj (orderCheaper_named.symm.trans hf) |>.symm
   obtain rfl : fn = Tryz.f8 := (Option.some.inj (Tryz.func8.symm.trans hfn)).symm
   exact ⟨pf_looks, fun j t ht => by
    rw [Tryz.params8] at ht
    have hm : t ∈ [74, 3, 56] := by simpa using Array.mem_of_getElem? ht
    simpa using List.all_eq_true.1 orderCheaper_stand t hm⟩)
  orderCheaper_goes
#print axioms orderCheaper_card
end Go.Proofs.YtbjnjlgeendakaaGreatDoor
