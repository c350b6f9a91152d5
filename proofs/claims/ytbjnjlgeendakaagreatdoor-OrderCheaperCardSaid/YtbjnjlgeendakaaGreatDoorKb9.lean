/- Part of the proof: Walks: open.count.. Walks: DeleteFunc at pages.. Walks: Clone; orders.. Walks: orders.. opened: what it computes, and its bounds; the rows of pages.. -/
import Derived.Test.YtbjnjlgeendakaaGreatDoorKb8
set_option linter.unusedVariables false
set_option maxRecDepth 100000
set_option linter.unusedSimpArgs false
namespace Go.Proofs.NV
open Go.RowKit Go.Shelf
attribute [local irreducible] bodyPost bodyPostM wpQuiet
structure Pgs (w : World) (L : Nat → Prop) (vs : List Value) (pss : List (List Page)) : Prop where
 len : vs.length = pss.length
 row : ∀ i (hi : i < vs.length), pageT.Row 137 w (fun k => ¬ L k ∧ ∀ j (hj : j < vs.length), j ≠ i → vs[j].ownBlock ≠ some k) vs[i] (pss[i]?.getD [])
def getF (off : Nat) (p : Page) : Int := if off = 1 then p.before else p.after
def updF (off : Nat) (x : Int) (p : Page) : Page := if off = 1 then { p with before := x } else { p with after := x }
theorem updF_means (off : Nat) (x : Int) (p : Page) : (updF off x p).means = p.means := by unfold updF; split <;> rfl
def cntL (mv : Int) (off : Nat) (qs : List Page) (m : List Int) : Int := sumL ((qs.filter fun x => decide ((movesL m x.means : Int) ≤ mv)).map (getF off))
theorem cntL_take (mv : Int) (off : Nat) (qs : List Page) (m : List Int) (k : Nat) (h : k < qs.length) : cntL mv off (qs.take (k + 1)) m = cntL mv off (qs.take k) m + if (movesL m qs[k].means : Int) ≤ mv then getF off qs[k] else 0 := by
 rw [cntL, List.take_succ_eq_append_getElem h, List.filter_append, List.map_append, sumL_append]
 unfold cntL
 by_cases hd : (movesL m qs[k].means : Int) ≤ mv
 ·simp [hd, sumL]
 ·simp [hd, sumL]
theorem cntL_bound (mv : Int) (off : Nat) (qs : List Page) (m : List Int) (B : Int) (hB : 0 ≤ B) (h : ∀ q ∈ qs, 0 ≤ getF off q ∧ getF off q ≤ B) : 0 ≤ cntL mv off qs m ∧ cntL mv off qs m ≤ B * qs.length := by
 induction qs with
 | nil => simp [cntL, sumL]
 | cons q qs ih =>
  have h1 := ih fun y hy => h y (by simp [hy])
  have h2 := h q (by simp)
  have e : B * ((qs.length + 1 : Nat) : Int) = B * qs.length + B := by rw [Int.natCast_add, Int.mul_add]; simp
  rw [List.length_cons, e]
  unfold cntL at h1 ⊢
  rw [List.filter_cons]
  split
  ·simp only [List.map_cons, sumL]; omega
  ·omega
def doneL (f : Page → Page) (g : Nat) (l : List Page) : List Page := (l.take g).map f ++ l.drop g
theorem doneL_len (f : Page → Page) (g : Nat) (l : List Page) : (doneL f g l).length = l.length := by simp [doneL]; omega
theorem doneL_get (f : Page → Page) (g : Nat) (l : List Page) (h : g < l.length) : (doneL f g l)[g]'(by rw [doneL_len]; exact h) = l[g] := by
 unfold doneL
 have hm : min g l.length = g := Nat.min_eq_left (Nat.le_of_lt h)
 rw [List.getElem_append_right (by simp [hm])]
 simp [hm]
theorem doneL_succ (f : Page → Page) (g : Nat) (l : List Page) (h : g < l.length) : doneL f (g + 1) l = (doneL f g l).set g (f l[g]) := by
 unfold doneL
 have hm : min g l.length = g := Nat.min_eq_left (Nat.le_of_lt h)
 rw [List.take_succ_eq_append_getElem h, List.map_append, List.set_append_right _ _ (by simp [hm])]
 rw [List.length_map, List.length_take, hm, Nat.sub_self, List.drop_eq_getElem_cons h, List.set_cons_zero]
 simp
theorem doneL_zero (f : Page → Page) (l : List Page) : doneL f 0 l = l := by simp [doneL]
theorem doneL_all (f : Page → Page) (l : List Page) : doneL f l.length l = l.map f := by simp [doneL]
theorem Pgs.fr {w w' : World} {L M : Nat → Prop} {vs : List Value} {pss : List (List Page)} (h : Pgs w L vs pss) (g : Fr M w w') (hM : ∀ k, M k → L k) : Pgs w' L vs pss := ⟨h.len, fun i hi => (h.row i hi).fr g fun k hk hm => hk.1 (hM k hm)⟩
theorem Pgs.step0 {w w' : World} {L : Nat → Prop} {vs : List Value} {pss : List (List Page)} (h : Pgs w L vs pss) (g : w.grownBy w' none) : Pgs w' L vs pss := ⟨h.len, fun i hi => (h.row i hi).step0 g⟩
theorem Pgs.fz {w w' : World} {L : Nat → Prop} {B : Nat} {vs : List Value} {pss : List (List Page)} (h : Pgs w L vs pss) (g : Fz B w w') : Pgs w' L vs pss := ⟨h.len, fun i hi => (h.row i hi).fz g⟩
theorem Pgs.set {w w' : World} {L : Nat → Prop} {vs : List Value} {pss : List (List Page)} (h : Pgs w L vs pss) (E : Nat) (hE : E < vs.length) {ps : List Page} (g : w.grownBy w' vs[E].ownBlock)
  (hr : pageT.Row 137 w' (fun k => ¬ L k ∧ ∀ j (hj : j < vs.length), j ≠ E → vs[j].ownBlock ≠ some k) vs[E] ps) : Pgs w' L vs (pss.set E ps) := ⟨by rw [List.length_set]; exact h.len, fun i hi => by
 by_cases hiE : E = i
 ·subst hiE
  rw [List.getElem?_set_self (by rw [← h.len]; exact hE)]
  exact hr
 ·rw [List.getElem?_set_ne hiE]
  exact (h.row i hi).step g fun k hk => (hk.2 E hE hiE).symm⟩
theorem grown_weak {w w' : World} {row : Option Nat} (h : w.grownBy w' none) : w.grownBy w' row := ⟨h.os, h.tape, h.output, h.size, fun i hi _ => h.block i hi (by simp)⟩
abbrev openCells (g0 a1 a2 a3 pv : Value) : List Value := [g0, a1, a2, a3, pv]
theorem f176_calls (off : Nat) (fs fg : Nat) (hoff : off = 1 ∨ off = 2) (hes : Ent Tryz.prog fs) (heg : Ent Tryz.prog fg)
  (hs : ∀ (k o : Nat) (x : Int) (cs : List Value) (w : World), Blk w k cs 137 → o + off < cs.length → Calls Tryz.prog fs #[.pointer (some ⟨k, o, none⟩), I x] w fun e w' => (∃ v, e = .returned v) ∧ Blk w' k (over cs (o + off) [I x]) 137 ∧ w.grownBy w' (some k))
  (hg : ∀ (p : Page) (A : Option Addr) (c : Nat) (w : World), Calls Tryz.prog fg #[.agg #[.slice A p.means.length c, I p.before, I p.after]] w fun e w' => e = .returned (I (getF off p)) ∧ w.grownBy w' none)
  (L : Nat → Prop) (vs : List Value) (pss : List (List Page)) (N bO capO : Nat) (csO : List Value) (u0 u1 u3 : Value) (mv : Int) (E D : Nat) (w : World) (hP : Pgs w L vs pss) (hO : Blk w bO csO 135) (hOv : csO.take vs.length = vs) (hLO : L bO) (hL : ∀ k, w.heap.size ≤ k → ∀ j (hj : j < vs.length), vs[j].ownBlock ≠ some k)
  (hn : vs.length ≤ 10) (hE : E < vs.length) (hD : D < vs.length) (hED : E ≠ D)
  (hlen : ∀ i : Nat, ∀ p ∈ (pss[i]?.getD []), p.means.length = N) (hsz : ∀ i : Nat, (pss[i]?.getD []).length ≤ 1000) (hB : ∀ q ∈ (pss[D]?.getD []), 0 ≤ getF off q ∧ getF off q ≤ 1000000) :
  Calls Tryz.prog 176 #[.agg #[u0, u1, I mv, u3, .slice (some ⟨bO, 0, none⟩) vs.length capO], I E, I D, .func (.func fs) #[] #[], .func (.func fg) #[] #[]] w
   fun e w' => (∃ v, e = .returned v) ∧ Pgs w' L vs (pss.set E ((pss[E]?.getD []).map fun p => updF off (cntL mv off (pss[D]?.getD []) p.means) p)) ∧ Fr (fun k => vs[E].ownBlock = some k) w w' := by
 obtain ⟨F, hF⟩ : ∃ F : Page → Page, F = fun p => updF off (cntL mv off (pss[D]?.getD []) p.means) p := ⟨_, rfl⟩
 obtain ⟨M, hM⟩ : ∃ M : Nat → Prop, M = fun k => vs[E].ownBlock = some k := ⟨_, rfl⟩
 rw [← hF, ← hM]
 obtain ⟨pE, hpE⟩ : ∃ pE, pE = pss[E]?.getD [] := ⟨_, rfl⟩
 obtain ⟨pD, hpD⟩ : ∃ pD, pD = pss[D]?.getD [] := ⟨_, rfl⟩
 have hlE := hlen E
 have hlD := hlen D
 have hszE := hsz E
 have hszD := hsz D
 have hR := hP.row E hE
 rw [← hpE] at hlE hszE hR ⊢
 rw [← hpD] at hlD hszD hB hF
 have hset : pss.set E pE = pss := by
  rw [hpE, List.getElem?_eq_getElem (by rw [← hP.len]; exact hE), Option.getD_some, List.set_getElem_self]
 have hcell : ∀ (W : World) (i : Nat) (hi : i < vs.length), Blk W bO csO 135 → W.cell? ⟨bO, 0 + i * 1, none⟩ = some vs[i] := fun W i hi hb => by
  rw [hb.cell, Nat.zero_add, Nat.mul_one, ← List.getElem?_take_of_lt hi, hOv, List.getElem?_eq_getElem hi]
 have hMO : ¬ M bO := by
  rw [hM]
  intro h
  exact (hR.1 bO h).1 hLO
 have hMB : ¬ M w.heap.size := by rw [hM]; exact hL _ (Nat.le_refl _) E hE
 obtain ⟨EA, Ec, hEv, hEc, hEm, hEs⟩ := hR.reads
 refine s_enter (n := 63) Tryz.func176 rfl rfl rfl ?_
 refine s_rseq fun _ k1 => ?_
 refine o_box (t := 130) rfl ?_; intro w1 B5 g1 z1
 replace hP := hP.step0 g1; replace hO := hO.step0 g1
 refine o_end (k1 _ _ ?_)
 refine s_rseq fun _ k2 => ?_
 refine o_v (v_field rfl fld130_1) ?_
 refine o_v (v_loadB rfl sc128 B5 rfl) ?_
 refine o_v v_move ?_
 refine o_v (v_index rfl rfl slt128 (by omega)) ?_
 refine o_v (v_loadC rfl sc135 (by have := hcell _ E hE hO; rwa [hEv] at this)) ?_
 refine o_v (v_len rfl Tryz.underlying135) ?_
 refine o_v v_move ?_
 refine o_end (k2 _ _ ?_)
 refine s_block ?_
 refine s_loop (G := Nat) (fun i => [(21, I i)]) [21] [10, 11, 12, 14, 22, 23, 24, 25, 26, 27, 28, 29, 30, 31, 32, 33, 34, 35, 36, 37, 38, 39, 40, 41, 42, 43, 44, 45, 46, 47, 48, 49, 50, 51, 52, 53, 54, 55, 56, 57, 58, 59, 60, 61, 62]
  (fun i W => (i ≤ pE.length ∧ Pgs W L vs (pss.set E (doneL F i pE))) ∧ Fr M w1 W) (fun i => pE.length - i) (fun _ => rfl) 0 ⟨rfl, trivial⟩ ⟨⟨Nat.zero_le _, by rw [doneL_zero, hset]; exact hP⟩, Fr.refl _ _⟩ ?_
 rintro i jv w2 ⟨⟨hi, hP2⟩, F2⟩
 have hO2 := hO.fr F2 hMO
 have B5 := B5.fr F2 hMB
 refine s_rseq fun _ k3 => ?_
 refine o_v (v_lss rfl rfl) ?_
 refine o_end (k3 _ _ ?_)
 refine s_seq fun _ k4 => ?_
 refine s_ifd rfl (fun c4 => ?_) (fun c4 => ?_)
 ·have hlt : i < pE.length := by omega
  have hR2 := hP2.row E hE
  rw [List.getElem?_set_self (by rw [← hP.len]; exact hE), Option.getD_some] at hR2
  obtain ⟨gE, capE, csE, hvE, hSE, hBE, hleE, _, _, hrepE, hput⟩ := hR2.put i (by rw [doneL_len]; exact hlt)
  rw [doneL_len] at hvE hleE
  rw [doneL_get _ _ _ hlt] at hrepE
  rw [pageT_sz] at hrepE hput hleE
  obtain ⟨mA, mc, hcsE, hm1, hm2, hmS⟩ := pageT_iff.1 hrepE
  have hQ2 := hP2.row D hD
  rw [List.getElem?_set_ne hED, ← hpD] at hQ2
  obtain ⟨DA, Dc, hDv, hDc, hDm, hDs⟩ := hQ2.reads
  have hlEi := hlE pE[i] (List.getElem_mem hlt)
  have hmeans : csE[i * 3]? = some (.slice mA pE[i].means.length mc) := by
   have := congrArg (·[0]?) hcsE
   simpa using this
  refine s_skip ?_
  refine k4 _ _ ?_
  refine s_seq fun _ k5 => ?_
  refine s_block ?_
  refine s_rseq fun _ k6 => ?_
  refine o_v v_move ?_
  refine o_v v_assign ?_
  refine o_end (k6 _ _ ?_)
  refine s_rseq fun _ k7 => ?_
  refine o_v (v_field rfl fld130_1) ?_
  refine o_v (v_loadB rfl sc128 B5 rfl) ?_
  refine o_v v_move ?_
  refine o_v (v_index rfl rfl slt128 (by omega)) ?_
  refine o_v (v_loadC rfl sc135 (by have := hcell _ E hE hO2; rwa [hvE] at this)) ?_
  refine o_v v_move ?_
  refine o_v (v_index rfl rfl slt135 (by omega)) ?_
  refine o_v v_assign ?_
  refine o_end (k7 _ _ ?_)
  refine s_rseq fun _ k8 => ?_
  refine o_v v_assign ?_
  refine o_end (k8 _ _ ?_)
  refine s_seq fun _ k9 => ?_
  refine s_rseq fun _ k10 => ?_
  refine o_v (v_field rfl fld130_1) ?_
  refine o_v (v_loadB rfl sc128 B5 rfl) ?_
  refine o_v v_move ?_
  refine o_v (v_index rfl rfl slt128 (by omega)) ?_
  refine o_v (v_loadC rfl sc135 (by have := hcell _ D hD hO2; rwa [hDv] at this)) ?_
  refine o_v (v_len rfl Tryz.underlying135) ?_
  refine o_v v_move ?_
  refine o_end (k10 _ _ ?_)
  refine s_block ?_
  refine s_loop (G := Nat) (fun k => [(12, I (cntL mv off (pD.take k) pE[i].means)), (37, I k)]) [12, 37] [14, 38, 39, 40, 41, 42, 43, 44, 45, 46, 47, 48, 49, 50, 51, 52, 53, 54, 55, 56, 57]
   (fun k W => (k ≤ pD.length) ∧ w2.grownBy W none) (fun k => pD.length - k) (fun _ => rfl) 0 ⟨rfl, rfl, trivial⟩ ⟨Nat.zero_le _, grown_refl _ _⟩ ?_
  rintro k jv w3 ⟨hk, g3⟩
  have B5 := B5.step0 g3; replace hBE := hBE.step0 g3; replace hDs := hDs.step0 g3; replace hmS := hmS.step0 g3
  refine s_rseq fun _ k11 => ?_
  refine o_v (v_lss rfl rfl) ?_
  refine o_end (k11 _ _ ?_)
  refine s_seq fun _ k12 => ?_
  refine s_ifd rfl (fun c12 => ?_) (fun c12 => ?_)
  ·have hklt : k < pD.length := by omega
   obtain ⟨bD, oD, cD, rfl, _, hrepD, hrgD⟩ := hDs.get k hklt
   obtain ⟨nA, nc, rfl, hn1, hn2, hnS⟩ := pageT_iff.1 hrepD
   rw [pageT_sz] at hrgD
   have hct := cntL_take mv off pD pE[i].means k hklt
   have hcb := cntL_bound mv off (pD.take k) pE[i].means 1000000 (by omega) (fun q hq => hB q (List.mem_of_mem_take hq))
   rw [List.length_take] at hcb
   have hgk := hB pD[k] (List.getElem_mem hklt)
   refine s_skip ?_
   refine k12 _ _ ?_
   refine s_seq fun _ k13 => ?_
   refine s_block ?_
   refine s_rseq fun _ k14 => ?_
   refine o_v (v_index rfl rfl slt135 (by omega)) ?_
   refine o_v (v_loadR rfl ag137 hrgD rfl) ?_
   refine o_allocst ze137 rfl rfl rfl sz137 rfl rfl rfl ?_; intro w4 B14 g4 z4
   replace B5 := B5.step0 g4; replace hBE := hBE.step0 g4; replace hmS := hmS.step0 g4; replace hnS := hnS.step0 g4; replace g3 := g3.step0 g4
   refine o_end (k14 _ _ ?_)
   refine s_seq fun _ k15 => ?_; refine s_quiet mixed (by kernel_rfl) ?_
   refine q_v (fun _ gq => v_move) ?_
   refine q_v (fun _ gq => v_nilP rfl) ?_
   refine q_v (fun _ gq => v_field rfl fld137_0) ?_
   refine q_v (fun _ gq => v_loadC rfl sc56 (by rw [(hBE.step0 gq).cell]; simpa using hmeans)) ?_
   refine q_v (fun _ gq => v_field rfl fld137_0) ?_
   refine q_v (fun _ gq => v_loadB rfl sc56 (B14.step0 gq) rfl) ?_
   refine q_call rfl rfl ent129 (fun _ gq => by have := f129_calls mA nA mc nc pE[i].means pD[k].means _ (hmS.step0 gq) (hnS.step0 gq) (by rw [hlEi, hlD _ (List.getElem_mem hklt)]) (Nat.le_trans hm1 hm2); exact this) ?_
   refine q_v (fun _ gq => v_field rfl fld130_0) ?_
   refine q_v (fun _ gq => v_field rfl fld25_2) ?_
   refine q_v (fun _ gq => v_loadB rfl sc3 (B5.step0 gq) rfl) ?_
   refine q_v (fun _ gq => v_leq rfl rfl) ?_
   refine q_end (fun w7 g7 => k15 _ _ ?_)
   replace B14 := B14.step0 g7; replace g3 := g3.step0 g7
   refine s_ifd rfl (fun c15 => ?_) (fun c15 => ?_)
   ·refine s_region ?_
    refine o_v v_move ?_
    refine o_v v_move ?_
    refine o_v (v_loadBS rfl ag137 B14 rfl rfl) ?_
    refine o_call rfl rfl heg (hg pD[k] nA nc _) ?_; rintro _ w8 ⟨rfl, g8⟩; refine ⟨_, rfl, ?_⟩
    replace g3 := g3.step0 g8
    refine o_v (v_add rfl rfl (by omega)) ?_
    refine o_v v_assign ?_
    refine o_end ?_
    refine k13 _ _ ?_
    refine s_region ?_
    refine o_v (v_add rfl rfl (by omega)) ?_
    refine o_v v_move ?_
    refine o_end ?_
    rw [if_pos c15] at hct
    refine mid (k + 1) ?_ ?_ ?_
    ·repeat (first | exact off_refl | refine off_cons rfl ?_)
    ·exact ⟨by rw [hct]; rfl, rfl, trivial⟩
    ·exact ⟨⟨hklt, g3⟩, by omega⟩
   ·refine s_skip ?_
    refine k13 _ _ ?_
    refine s_region ?_
    refine o_v (v_add rfl rfl (by omega)) ?_
    refine o_v v_move ?_
    refine o_end ?_
    rw [if_neg c15, Int.add_zero] at hct
    refine mid (k + 1) ?_ ?_ ?_
    ·repeat (first | exact off_refl | refine off_cons rfl ?_)
    ·exact ⟨by rw [hct]; rfl, rfl, trivial⟩
    ·exact ⟨⟨hklt, g3⟩, by omega⟩
  ·obtain rfl : k = pD.length := by omega
   have hFi : F pE[i] = updF off (cntL mv off (pD.take pD.length) pE[i].means) pE[i] := by rw [hF, List.take_length]
   have hbig : i * 3 + off < csE.length := by omega
   refine s_exit ?_
   refine k9 _ _ ?_
   refine s_region ?_
   refine o_v v_move ?_
   refine o_v v_move ?_
   refine o_v v_move ?_
   refine o_call rfl rfl hes (hs gE (0 + i * 3) _ csE _ hBE (by omega)) ?_; rintro _ w9 ⟨⟨vr, rfl⟩, B9, g9⟩; refine ⟨_, rfl, ?_⟩
   have hg29 : w2.grownBy w9 (some gE) := World.grownBy.trans (grown_weak g3) g9
   rw [Nat.zero_add] at B9
   have hrow9 := hput off (I (cntL mv off (pD.take pD.length) pE[i].means)) w9 (F pE[i]) (by omega) (by
    rw [hFi]
    have h2 := pageT_iff.1 hrepE
    obtain ⟨A, c, h3, h4, h5, h6⟩ := h2
    rw [hcsE] at h3 ⊢
    obtain ⟨rfl, rfl⟩ : mA = A ∧ mc = c := by simpa using h3
    refine pageT_iff.2 ⟨mA, mc, ?_, by rw [updF_means]; exact h4, h5, by rw [updF_means]; exact h6⟩
    rcases hoff with rfl | rfl <;> rfl) rfl B9 hg29
   rw [← doneL_succ _ _ _ hlt] at hrow9
   have hP9 := hP2.set E hE (w' := w9) (by rw [hvE]; exact hg29) hrow9
   rw [List.set_set] at hP9
   have F9 : Fr M w1 w9 := F2.trans (Fr.of_grown (M := M) hg29 fun k hk => by injection hk with hk; subst hk; rw [hM]; show vs[E].ownBlock = some gE; rw [hvE]; rfl) fun _ _ h => h
   refine o_end ?_
   refine k5 _ _ ?_
   refine s_region ?_
   refine o_v (v_add rfl rfl (by omega)) ?_
   refine o_v v_move ?_
   refine o_end ?_
   refine mid (i + 1) ?_ ?_ ?_
   ·repeat (first | exact off_refl | refine off_cons rfl ?_)
   ·exact ⟨rfl, trivial⟩
   ·exact ⟨⟨⟨hlt, hP9⟩, F9⟩, by omega⟩
 ·obtain rfl : i = pE.length := by omega
  rw [doneL_all] at hP2
  refine s_exit ?_
  exact post0n rfl ⟨⟨_, rfl⟩, hP2, (Fr.grown g1).trans F2 fun _ _ h => h⟩
end Go.Proofs.NV
namespace Go.Proofs.NV
open Go.RowKit Go.Shelf
attribute [local irreducible] bodyPost bodyPostM wpQuiet
def Page.gone (p : Page) : Bool := decide (p.before * p.after = 0)
theorem idxL_spec {α : Type} (p : α → Bool) (xs : List α) : (idxL p xs = -1 ∧ ∀ x ∈ xs, p x = false) ∨ ∃ k : Nat, k < xs.length ∧ idxL p xs = k ∧ (∀ x ∈ xs.take k, p x = false) ∧ ∃ h : k < xs.length, p xs[k] = true := by
 by_cases h : ∃ k, ∃ h : k < xs.length, p xs[k] = true
 ·obtain ⟨k, ⟨hk, hp⟩, hmin⟩ := least h
  have hno : ∀ x ∈ xs.take k, p x = false := by
   intro x hx
   obtain ⟨j, hj, rfl⟩ := List.mem_take_iff_getElem.1 hx
   cases hb : p xs[j] with
   | false => rfl
   | true => have := hmin j ⟨by omega, hb⟩; omega
  exact .inr ⟨k, hk, idxL_some p xs k hk hno hp, hno, hk, hp⟩
 ·have hno : ∀ x ∈ xs, p x = false := by
   intro x hx
   obtain ⟨j, hj, rfl⟩ := List.mem_iff_getElem.1 hx
   cases hb : p xs[j] with
   | false => rfl
   | true => exact absurd ⟨j, hj, hb⟩ h
  exact .inl ⟨idxL_none p xs hno, hno⟩
theorem keep_none {ps : List Page} (h : ∀ p ∈ ps, p.gone = false) : ps.filter (fun p => !p.gone) = ps := List.filter_eq_self.2 fun p hp => by rw [h p hp]; rfl
theorem keep_snoc (ps : List Page) (j : Nat) (h : j < ps.length) : (ps.take (j + 1)).filter (fun p => !p.gone) = (ps.take j).filter (fun p => !p.gone) ++ if ps[j].gone then [] else [ps[j]] := by
 rw [List.take_succ_eq_append_getElem h, List.filter_append]
 cases hg : ps[j].gone <;> simp [hg]
theorem f182_page (p : Page) (hb : -1000000000000 ≤ p.before * p.after ∧ p.before * p.after ≤ 1000000000000) (A : Option Addr) (c : Nat) (w : World) : Calls Tryz.prog 182 #[.agg #[.slice A p.means.length c, I p.before, I p.after]] w fun e w' => e = .returned (.bool p.gone) ∧ w.grownBy w' none :=
 f182_calls _ _ _ _ (by omega)
theorem f181_calls {S : Nat → Prop} (v : Value) (ps : List Page) (w : World) (hR : pageT.Row 137 w S v ps) (hb : ∀ p ∈ ps, -1000000000000 ≤ p.before * p.after ∧ p.before * p.after ≤ 1000000000000) (hn : ps.length ≤ 1000000) (hS : ∀ k, w.heap.size ≤ k → S k) :
  Calls Tryz.prog 181 #[v, .func (.func 182) #[] #[]] w fun e w' => ∃ v', e = .returned v' ∧ pageT.Row 137 w' S v' (ps.filter fun p => !p.gone) ∧ w.grownBy w' v.ownBlock ∧ v'.ownBlock = v.ownBlock := by
 obtain ⟨A, c, hv, hlc, hcm, hsl⟩ := hR.reads
 have hm : ps.length ≤ 9223372036854775807 := by omega
 rw [hv]
 refine s_enter (n := 42) Tryz.func181 rfl rfl rfl ?_
 refine s_rseq fun _ k1 => ?_
 refine o_v v_assign ?_
 refine o_end (k1 _ _ ?_)
 refine s_rseq fun _ k2 => ?_
 refine o_v v_move ?_
 refine o_v v_move ?_
 refine o_call rfl rfl ent198 (f198_calls pageT rfl Page.gone A c ps 182 [] w hsl hm ent182 (fun p cs W hp _ hr => by obtain ⟨mA, mc, rfl, _⟩ := pageT_iff.1 hr; exact f182_page p (hb p hp) mA mc W)) ?_; rintro _ w1 ⟨rfl, g1⟩; refine ⟨_, rfl, ?_⟩
 replace hR := hR.step0 g1
 refine o_v v_assign ?_
 refine o_end (k2 _ _ ?_)
 refine s_seq fun _ k3 => ?_
 refine s_rseq fun _ k4 => ?_
 refine o_v v_move ?_
 refine o_v (v_eql rfl rfl) ?_
 refine o_end (k4 _ _ ?_)
 refine s_ifd rfl (fun c4 => ?_) (fun c4 => ?_)
 ·have hno : ∀ p ∈ ps, p.gone = false := by
   rcases idxL_spec Page.gone ps with ⟨_, h⟩ | ⟨k, hk, he, _⟩
   ·exact h
   ·omega
  refine s_rseq fun _ k5 => ?_
  refine o_v v_move ?_
  refine o_v v_assign ?_
  refine o_end (k5 _ _ ?_)
  refine s_ret (post1 rfl ?_)
  exact ⟨_, rfl, by rw [keep_none hno, ← hv]; exact hR, grown_weak g1, rfl⟩
 ·obtain ⟨i, hik, hidx, hno, hi, hgone⟩ : ∃ k : Nat, k < ps.length ∧ idxL Page.gone ps = k ∧ (∀ x ∈ ps.take k, x.gone = false) ∧ ∃ h : k < ps.length, ps[k].gone = true := by
   rcases idxL_spec Page.gone ps with ⟨h, _⟩ | h
   ·exact absurd h c4
   ·exact h
  obtain ⟨b, cap, hvb⟩ : ∃ b cap, v = .slice (some ⟨b, 0, none⟩) ps.length cap := by
   obtain ⟨g, cap, cs, h, _⟩ := hR.open_ (by omega)
   exact ⟨g, cap, h⟩
  obtain ⟨rfl, rfl⟩ : A = some ⟨b, 0, none⟩ ∧ c = cap := by rw [hv] at hvb; simpa using hvb
  have hrow : ∀ W xs, pageT.Row 137 W S v xs → xs.length = ps.length → ∃ cs, S b ∧ Blk W b cs 137 ∧ cs.length = c * 3 ∧ Reps (pageT.rep W (fun k => S k ∧ k ≠ b)) xs (cs.take (xs.length * 3)) := fun W xs h hl => by
   obtain ⟨g, cap, cs, h1, h2, h3, h4, _, _, h5⟩ := h.open_ (by omega)
   rw [hvb] at h1
   obtain ⟨rfl, _, rfl⟩ : b = g ∧ _ ∧ c = cap := by simpa using h1
   exact ⟨cs, h2, h3, h4, h5⟩
  have hob : v.ownBlock = some b := by rw [hvb]; rfl
  rw [hidx]
  refine s_skip ?_
  refine k3 _ _ ?_
  refine s_seq fun _ k6 => ?_
  refine s_rseq fun _ k7 => ?_
  refine o_v v_move ?_
  refine o_v (v_add rfl rfl (by omega)) ?_
  refine o_v v_assign ?_
  refine o_end (k7 _ _ ?_)
  refine s_block ?_
  refine s_loop (G := Nat) (fun j => [(5, I ((ps.take j).filter fun p => !p.gone).length), (6, I j)]) [5, 6] [7, 16, 17, 18, 19, 20, 21, 22, 23, 24, 25, 26, 27, 28, 29, 30, 31, 32, 33, 34, 35]
   (fun j W => (j ≤ ps.length ∧ ∃ m ms, ((ps.take j).filter fun p => !p.gone).length + (m :: ms).length = j ∧ pageT.Row 137 W S v ((ps.take j).filter (fun p => !p.gone) ++ m :: ms ++ ps.drop j)) ∧ w.grownBy W (some b)) (fun j => ps.length - j) (fun _ => rfl) (i + 1)
   (by
    rw [List.take_succ_eq_append_getElem hik, List.filter_append, keep_none hno]
    simp only [List.filter_cons, hgone, Bool.not_true, Bool.false_eq_true, if_false, List.filter_nil, List.append_nil, List.length_take, Nat.min_eq_left (Nat.le_of_lt hik)]
    exact ⟨rfl, rfl, trivial⟩)
   ⟨⟨by omega, ps[i], [], by
    rw [List.take_succ_eq_append_getElem hik, List.filter_append, keep_none hno]
    simp [hgone]; omega, by
    rw [List.take_succ_eq_append_getElem hik, List.filter_append, keep_none hno]
    simp only [List.filter_cons, hgone, Bool.not_true, Bool.false_eq_true, if_false, List.filter_nil, List.append_nil]
    rw [List.append_assoc, List.singleton_append, ← List.drop_eq_getElem_cons hik, List.take_append_drop]
    exact hR⟩, grown_weak g1⟩ ?_
  rintro j jv w2 ⟨⟨hj, m, ms, hlen, hR2⟩, g2⟩
  have hall : ((ps.take j).filter (fun p => !p.gone) ++ m :: ms ++ ps.drop j).length = ps.length := by
   simp only [List.length_append, List.length_drop]; omega
  refine s_seq fun _ k8 => ?_
  refine s_rseq fun _ k9 => ?_
  refine o_v v_move ?_
  refine o_v v_move ?_
  refine o_v (v_len rfl Tryz.underlying135) ?_
  refine o_v (v_lss rfl rfl) ?_
  refine o_end (k9 _ _ ?_)
  refine s_ifd rfl (fun c9 => ?_) (fun c9 => ?_)
  ·have hlt : j < ps.length := by omega
   obtain ⟨cs, hSb, hB, hcl, hreps⟩ := hrow w2 _ hR2 hall
   rw [hall] at hreps
   obtain ⟨K, hK⟩ : ∃ K, K = (ps.take j).filter fun p => !p.gone := ⟨_, rfl⟩
   rw [← hK] at hlen hR2 hall hreps
   have hjget : (K ++ m :: ms ++ ps.drop j)[j]'(by omega) = ps[j] := by
    rw [List.getElem_append_right (by simp only [List.length_append]; omega)]
    simp only [List.length_append, hlen, Nat.sub_self, List.getElem_drop, Nat.add_zero]
   have hget := hreps.get (fun _ _ h => pageT.hlen h) j (by omega)
   rw [hjget, pageT_sz] at hget
   have hsub : ((cs.take (ps.length * 3)).drop (j * 3)).take 3 = (cs.drop (j * 3)).take 3 := by
    rw [List.drop_take, List.take_take, Nat.min_eq_left (by omega)]
   rw [hsub] at hget
   obtain ⟨mA, mc, hmcs, hm1, hm2, hmS⟩ := pageT_iff.1 hget
   refine s_skip ?_
   refine k8 _ _ ?_
   refine s_seq fun _ k10 => ?_
   refine s_block ?_
   refine s_rseq fun _ k11 => ?_
   refine o_v v_move ?_
   refine o_v v_move ?_
   refine o_v (v_index rfl rfl slt135 (by omega)) ?_
   refine o_v (v_loadBS (vs := [.slice mA ps[j].means.length mc, I ps[j].before, I ps[j].after]) rfl ag137 hB (by rw [Nat.zero_add]; exact hmcs) rfl) ?_
   refine o_allocst ze137 rfl rfl rfl sz137 rfl rfl rfl ?_; intro w3 B7 g3 z3
   replace hR2 := hR2.step0 g3; replace hB := hB.step0 g3
   refine o_end (k11 _ _ ?_)
   refine s_rseq fun _ k12 => ?_
   refine o_v v_move ?_
   refine o_v (v_loadBS rfl ag137 B7 rfl rfl) ?_
   refine o_call rfl rfl ent182 (f182_page ps[j] (hb _ (List.getElem_mem hlt)) mA mc _) ?_; rintro _ w4 ⟨rfl, g4⟩; refine ⟨_, rfl, ?_⟩
   replace hR2 := hR2.step0 g4; replace hB := hB.step0 g4; replace B7 := B7.step0 g4
   have g24 : w.grownBy w4 (some b) := World.grownBy.trans g2 (grown_weak (World.grownBy.trans g3 g4))
   refine o_v (v_not rfl) ?_
   refine o_end (k12 _ _ ?_)
   have hfil : (ps.take (j + 1)).filter (fun p => !p.gone) = K ++ if ps[j].gone then [] else [ps[j]] := by
    rw [keep_snoc ps j hlt, hK]
   refine s_if rfl (fun c12 => ?_) (fun c12 => ?_)
   ·have hng : ps[j].gone = false := by simpa using c12
    rw [hng, if_neg (by simp)] at hfil
    have hI : ((((ps.take j).filter fun p => !p.gone).length : Int) + 1) = (((ps.take (j + 1)).filter fun p => !p.gone).length : Int) := by rw [hfil, hK]; simp
    refine s_rseq fun _ k13 => ?_
    refine o_v v_move ?_
    refine o_v v_move ?_
    refine o_v (v_loadBS rfl ag137 B7 rfl rfl) ?_
    refine o_v (v_index rfl rfl slt135 (by rw [← hK]; omega)) ?_
    refine o_storeB (vs := [.slice mA ps[j].means.length mc, I ps[j].before, I ps[j].after]) rfl rfl sz137 rfl hB (by rw [Nat.ble_eq, ← hK]; simp; omega) rfl ?_; intro w5 hB5 g5 z5
    rw [← hK, Int.toNat_natCast, Nat.zero_add] at hB5
    obtain ⟨cs4, hSb4, hB4, hcl4, hreps4⟩ := hrow w4 _ hR2 hall
    obtain rfl : cs4 = cs := by have := hB4.symm.trans hB; simpa using this
    rw [hall] at hreps4
    have hrp : pageT.rep w4 (fun k => S k ∧ k ≠ b) ps[j] [.slice mA ps[j].means.length mc, I ps[j].before, I ps[j].after] := pageT.step0 (pageT.step0 (by rw [hmcs] at hget; exact hget) g3) g4
    have hput := Reps.put (R := pageT.rep w4 (fun k => S k ∧ k ≠ b)) (fun _ _ h => pageT.hlen h) hrp K.length hreps4 (by simp only [List.length_append, List.length_cons]; omega)
    rw [pageT_sz, ← over_take2 (by simp; omega) (by rw [hcl4]; omega)] at hput
    have hset : (K ++ m :: ms ++ ps.drop j).set K.length ps[j] = K ++ [ps[j]] ++ (ms ++ [ps[j]]) ++ ps.drop (j + 1) := by
     rw [List.append_assoc, List.set_append_right _ _ (Nat.le_refl _), Nat.sub_self, List.cons_append, List.set_cons_zero, List.drop_eq_getElem_cons hlt]
     simp
    rw [hset] at hput
    have hl2 : (K ++ [ps[j]] ++ (ms ++ [ps[j]]) ++ ps.drop (j + 1)).length = ps.length := by rw [← hset, List.length_set]; exact hall
    have hclose := Ty.Row.close (t := pageT) (w := w5) (e := 137) (S := S) (g := b) (cap := c) (cs := over cs4 (K.length * 3) [.slice mA ps[j].means.length mc, I ps[j].before, I ps[j].after]) hSb hB5 (by rw [over_length (by simp; omega), hcl4, pageT_sz]) (by rw [hl2]; exact hlc) hcm
     (by rw [hl2, pageT_sz]; exact hput.imp fun x cs _ h => pageT.step h g5 (fun k hk => by intro e; injection e with e; exact hk.2 e))
    rw [hl2, ← hvb] at hclose
    refine o_end (k13 _ _ ?_)
    refine s_region ?_
    refine o_v v_move ?_
    refine o_v (v_add rfl rfl (by rw [← hK]; omega)) ?_
    refine o_v v_assign ?_
    refine o_end ?_
    refine k10 _ _ ?_
    refine s_region ?_
    refine o_v v_move ?_
    refine o_v (v_add rfl rfl (by omega)) ?_
    refine o_v v_assign ?_
    refine o_end ?_
    refine mid (j + 1) ?_ ?_ ?_
    ·repeat (first | exact off_refl | refine off_cons rfl ?_)
    ·exact ⟨congrArg I hI, rfl, trivial⟩
    ·refine ⟨⟨⟨hlt, ?_⟩, World.grownBy.trans g24 g5⟩, by omega⟩
     rw [hfil]
     cases ms with
     | nil => exact ⟨ps[j], [], by simp at hlen ⊢; omega, by simpa using hclose⟩
     | cons m2 ms => exact ⟨m2, ms ++ [ps[j]], by simp at hlen ⊢; omega, by simpa using hclose⟩
   ·have hng : ps[j].gone = true := by simpa using c12
    rw [hng, if_pos rfl, List.append_nil] at hfil
    refine s_skip ?_
    refine k10 _ _ ?_
    refine s_region ?_
    refine o_v v_move ?_
    refine o_v (v_add rfl rfl (by omega)) ?_
    refine o_v v_assign ?_
    refine o_end ?_
    refine mid (j + 1) ?_ ?_ ?_
    ·repeat (first | exact off_refl | refine off_cons rfl ?_)
    ·exact ⟨by rw [hfil, hK]; rfl, rfl, trivial⟩
    ·refine ⟨⟨⟨hlt, m, ms ++ [ps[j]], ?_, ?_⟩, g24⟩, by omega⟩
     ·rw [hfil]; simp at hlen ⊢; omega
     ·rw [hfil]
      have : K ++ m :: (ms ++ [ps[j]]) ++ ps.drop (j + 1) = K ++ m :: ms ++ ps.drop j := by rw [List.drop_eq_getElem_cons hlt]; simp
      rw [this]; exact hR2
  ·obtain rfl : j = ps.length := by omega
   rw [List.take_length] at *
   obtain ⟨cs, hSb, hB, hcl, hreps⟩ := hrow w2 _ hR2 hall
   rw [hall] at hreps
   obtain ⟨K, hK⟩ : ∃ K, K = ps.filter fun p => !p.gone := ⟨_, rfl⟩
   rw [← hK] at hlen hR2 hall hreps ⊢
   refine s_exit ?_
   refine k6 _ _ ?_
   refine s_rseq fun _ k14 => ?_
   refine o_v v_move ?_
   refine o_v v_move ?_
   refine o_v (v_sliceL rfl rfl slt135 (by simp at hlen; omega)) ?_
   refine o_clear (b := b) (o := K.length * 3) (zs0 := [.slice none 0 0, .int .i64 0, .int .i64 0]) rfl (by
    by_cases h : c = K.length
    ·exact .inl (by simp; omega)
    ·right; simp only [Int.toNat_natCast, if_neg h, Option.map_some, Addr.add_mid, Nat.zero_add]) Tryz.underlying135 ze137 rfl rfl (by simp) hB (by right; simp at hlen ⊢; omega) ?_
   intro w3 zs hzl hB3 g3 z3
   have hKl : K.length + (m :: ms).length = ps.length := hlen
   have hRK := hreps.take (fun _ _ h => pageT.hlen h) K.length
   rw [List.append_assoc, List.take_left, pageT_sz, List.take_take, Nat.min_eq_left (by omega)] at hRK
   simp only [List.length_cons, List.length_nil, Int.toNat_natCast] at hzl
   have hclose := Ty.Row.close (t := pageT) (w := w3) (e := 137) (S := S) (g := b) (cap := c) (ys := K) (cs := over cs (K.length * 3) zs) hSb hB3 (by rw [over_length (by rw [hzl, hcl]; omega), hcl, pageT_sz]) (by omega) hcm
    (by rw [pageT_sz, over_take (Nat.le_refl _) (by rw [hcl]; omega)]; exact hRK.imp fun x cs _ h => pageT.step h g3 (fun k hk => by intro e; injection e with e; exact hk.2 e))
   refine o_end (k14 _ _ ?_)
   refine s_rseq fun _ k15 => ?_
   refine o_v v_move ?_
   refine o_v v_move ?_
   refine o_v (v_sliceH rfl rfl slt135 (by omega)) ?_
   refine o_v v_assign ?_
   refine o_end (k15 _ _ ?_)
   refine s_ret (post1 rfl ?_)
   refine ⟨.slice (some ⟨b, 0, none⟩) K.length c, rfl, by rw [← hK]; exact hclose, ?_, rfl⟩
   exact World.grownBy.trans g2 g3
end Go.Proofs.NV
namespace Go.Proofs.NV
open Go.RowKit Go.Shelf
attribute [local irreducible] bodyPost bodyPostM wpQuiet
theorem info3 : (Tryz.prog.info? 3).map (fun i => (i.zero, i.size, i.bytes)) = some (some (.int .i64 0), 1, 8) := by kernel_rfl
theorem reps_int {w : World} {S : Nat → Prop} (xs : List Int) : Reps (Ty.int.rep w S) xs (xs.map I) := by
 induction xs with
 | nil => rfl
 | cons x xs ih => exact ⟨[I x], xs.map I, rfl, rfl, ih⟩
theorem reps_int_eq {w : World} {S : Nat → Prop} {xs : List Int} {cs : List Value} (h : Reps (Ty.int.rep w S) xs cs) : cs = xs.map I := by
 induction xs generalizing cs with
 | nil => exact h
 | cons x xs ih =>
  obtain ⟨c, r, rfl, h1, h2⟩ := h
  obtain rfl : c = [I x] := h1
  rw [ih h2]; rfl
theorem f104_calls {T S : Nat → Prop} (A : Option Addr) (c : Nat) (xs : List Int) (w : World) (hx : Ty.int.Sl w T A xs) (hm : xs.length ≤ 1000000) (hS : ∀ k, w.heap.size ≤ k → S k) :
  Calls Tryz.prog 104 #[.slice A xs.length c] w fun e w' => ∃ v', e = .returned v' ∧ Ty.int.Row 3 w' S v' xs ∧ (∀ k, v'.ownBlock = some k → w.heap.size ≤ k) ∧ w.grownBy w' none := by
 refine s_enter (n := 8) Tryz.func104 rfl rfl rfl ?_
 have G := grown_refl w none
 refine s_rseq fun _ k1 => ?_
 refine o_v v_assign ?_
 refine o_end (k1 _ _ ?_)
 refine s_seq fun _ k2 => ?_
 refine s_rseq fun _ k3 => ?_
 refine o_v v_move ?_
 refine o_v (v_nilS rfl rfl Tryz.underlying56) ?_
 refine o_end (k3 _ _ ?_)
 refine s_if rfl (fun c3 => ?_) (fun c3 => ?_)
 ·refine s_rseq fun _ k4 => ?_
  refine o_v v_assign ?_
  refine o_end (k4 _ _ ?_)
  refine s_ret (post1 rfl ?_)
  have hnil : xs = [] := by
   rcases hx with h | ⟨b, o, cs, h, _⟩
   ·exact h
   ·subst h; cases c3
  subst hnil
  exact ⟨.slice none 0 0, rfl, Ty.Row.nil _ _ _ _, fun k hk => by simp [Value.ownBlock] at hk, G⟩
 ·refine s_skip ?_
  refine k2 _ _ ?_
  refine s_rseq fun _ k5 => ?_
  refine o_bslice rfl (fun W => bls56_0 W) ?_; intro w1 B5 g1 z1
  replace G := G.step0 g1
  refine o_v v_move ?_
  obtain ⟨a0, rfl⟩ : ∃ a0, A = some a0 := by
   cases A with
   | none => cases c3
   | some a => exact ⟨a, rfl⟩
  have hR0 : Ty.int.Row 3 w1 S (.slice (some ⟨w.heap.size, 0, none⟩) ([] : List Int).length 0) [] := Ty.Row.close (hS _ (Nat.le_refl _)) B5 rfl (Nat.zero_le _) (by decide) rfl
  have hcell : ∀ j u, (xs.map I)[j]? = some u → w1.cell? (a0.add j) = some u := by
   intro j u hu
   have hj : j < xs.length := by
    have := (List.getElem?_eq_some_iff.1 hu).1
    simpa using this
   obtain ⟨b, o, hA, hc⟩ := (hx.step0 g1).int j hj
   injection hA with hA
   rw [hA, Addr.add_mid]
   rw [List.getElem?_map, List.getElem?_eq_getElem hj] at hu
   injection hu with hu
   rw [← hu]
   simpa using hc
  obtain ⟨v', w2, hrun, hR2, g2, hat⟩ := hR0.append (P := Tryz.prog) (tt := 56) (ty := 56) (ys := xs) (a := a0) (c := c) (m := xs.length) (news := xs.map I) Tryz.underlying56 info3 rfl (reps_int xs) rfl hcell (fun k hk => hS k (by have := g1.size; omega)) (by simp; omega) (by decide)
  refine o_val (fun _ => by simp) (run_append_exec rfl rfl hrun) ?_
  have G2 : w.grownBy w2 none := ⟨g2.os.trans g1.os, g2.tape.trans g1.tape, g2.output.trans g1.output, Nat.le_trans g1.size g2.size, fun k hk _ => (g2.block k (by have := g1.size; omega) (by simp [Value.ownBlock]; omega)).trans (g1.block k hk (by simp))⟩
  refine o_v v_assign ?_
  refine o_end (k5 _ _ ?_)
  refine s_ret (post1 rfl ?_)
  refine ⟨v', rfl, hR2, fun k hk => ?_, G2⟩
  rcases hat with h | h
  ·rw [h] at hk; simp [Value.ownBlock] at hk; omega
  ·rw [h] at hk; injection hk with hk; have := g1.size; omega
end Go.Proofs.NV
namespace Go.Proofs.NV
open Go.RowKit Go.Shelf
attribute [local irreducible] bodyPost bodyPostM wpQuiet
def extL (n : Nat) : Nat → List Int → List (List Int)
 | 0, now => [now]
 | f + 1, now => (List.range n).flatMap fun (g : Nat) => if (g : Int) ∈ now then [] else extL n f (now ++ [(g : Int)])
def extK (n f : Nat) (now : List Int) (k : Nat) : List (List Int) := (List.range k).flatMap fun (g : Nat) => if (g : Int) ∈ now then [] else extL n f (now ++ [(g : Int)])
theorem extK_succ (n f : Nat) (now : List Int) (k : Nat) : extK n f now (k + 1) = extK n f now k ++ if (k : Int) ∈ now then [] else extL n f (now ++ [(k : Int)]) := by
 unfold extK
 rw [List.range_succ, List.flatMap_append]
 simp
theorem extK_prefix (n f : Nat) (now : List Int) {k m : Nat} (h : k ≤ m) : ∃ rest, extK n f now m = extK n f now k ++ rest := by
 induction m with
 | zero => obtain rfl : k = 0 := by omega
           exact ⟨[], by simp⟩
 | succ m ih =>
  rcases Nat.lt_or_ge m k with h' | h'
  ·obtain rfl : k = m + 1 := by omega
   exact ⟨[], by simp⟩
  ·obtain ⟨rest, hr⟩ := ih h'
   exact ⟨rest ++ _, by rw [extK_succ, hr, List.append_assoc]⟩
theorem Ty.Row.turn {α : Type} {t : Ty α} {e : TypeId} {M M' : Nat → Prop} {w w' : World} {v : Value} {xs : List α} (h : t.Row e w (fun k => ¬ M k) v xs) (g : Turn M M' w w') : t.Row e w' (fun k => ¬ M' k) v xs :=
 (h.bound.fr g.fr fun k hk => hk.1).mono fun k hk hm => by
  rcases (g.new k hm).2 with h1 | h1
  ·exact hk.1 h1
  ·have := hk.2.lt; omega
theorem Turn.out {M M' : Nat → Prop} {w w' : World} (g : Turn M M' w w') {k : Nat} (hk : k < w.heap.size) (h : ¬ M k) : ¬ M' k := fun hm => by
 rcases (g.new k hm).2 with h1 | h1
 ·exact h h1
 ·omega
def OrdEl (all : List (List Int)) (i : Nat) (v : Value) (M : Nat → Prop) (W : World) : Prop := ∃ A c m, all[i]? = some m ∧ v = .slice A m.length c ∧ m.length ≤ c ∧ c ≤ maxLen ∧ Ty.int.Sl W (fun k => ¬ M k) A m
abbrev searchV (b1 b2 b3 : Nat) : Value := .func (.func 197) #[] #[ptr b1, ptr b2, ptr b3]
abbrev yieldV (l : Nat) : Value := .func (.yield l) #[] #[]
theorem f197_calls (n : Nat) (hn : n ≤ 100) (all : List (List Int)) (l : Nat) (J : Nat → (Nat → Prop) → World → Prop) (hJ : ∀ i M W W', J i M W → W.grownBy W' none → J i M W')
  (hY : ∀ i v M W1, i < all.length → J i M W1 → (∀ k, M k → IsC W1 k) → OrdEl all i v M W1 → YieldAt (Fw none) 0 Tryz.prog l #[v] W1 fun e W' => e = .returned (.bool true) ∧ ∃ M', J (i + 1) M' W' ∧ Turn M M' W1 W')
  (b1 b2 b3 : Nat) : ∀ (f : Nat) (now : List Int) (pre post : List (List Int)) (v : Value) (M : Nat → Prop) (w : World), now.length + f = n → all = pre ++ extL n f now ++ post →
  Ty.int.Row 3 w (fun k => ¬ M k) v now → Blk w b1 [I n] 3 → Blk w b2 [yieldV l] 91 → Blk w b3 [searchV b1 b2 b3] 91 → ¬ M b1 → ¬ M b2 → ¬ M b3 → (∀ k, M k → IsC w k) → J pre.length M w →
  Calls Tryz.prog 197 #[v, ptr b1, ptr b2, ptr b3] w fun e w' => e = .returned (.bool true) ∧ ∃ M', J (pre.length + (extL n f now).length) M' w' ∧ Turn M M' w w' := by
 intro f
 induction f with
 | zero =>
  intro now pre post v M w hf hall hR B1 B2 B3 hM1 hM2 hM3 hMc hj
  obtain ⟨A, c, hv, hc1, hc2, hsl⟩ := hR.reads
  subst hv
  refine s_enter (n := 33) Tryz.func197 rfl rfl rfl ?_
  refine s_rseq fun _ k1 => ?_
  refine o_v v_assign ?_
  refine o_end (k1 _ _ ?_)
  refine s_seq fun _ k2 => ?_
  refine s_rseq fun _ k3 => ?_
  refine o_v v_move ?_
  refine o_v (v_len rfl Tryz.underlying56) ?_
  refine o_v (v_loadB rfl sc3 B1 rfl) ?_
  refine o_v (v_eql rfl rfl) ?_
  refine o_end (k3 _ _ ?_)
  refine s_ifd rfl (fun c3 => ?_) (fun c3 => ?_)
  ·refine s_rseq fun _ k4 => ?_
   refine o_v (v_loadB rfl sc91 B2 rfl) ?_
   refine o_v v_move ?_
   refine o_yield rfl rfl (hY pre.length _ M w (by rw [hall]; simp [extL]) hj hMc ⟨A, c, now, by rw [hall]; simp [extL], rfl, hc1, hc2, hsl⟩) ?_
   rintro w1 ⟨M1, hj1, hT1⟩
   refine o_v v_assign ?_
   refine o_end (k4 _ _ ?_)
   refine s_ret (post1 rfl ?_)
   exact ⟨rfl, M1, by simpa [extL] using hj1, hT1⟩
  ·omega
 | succ f ih =>
  intro now pre post v M w hf hall hR B1 B2 B3 hM1 hM2 hM3 hMc hj
  obtain ⟨A, c, hv, hc1, hc2, hsl⟩ := hR.reads
  have hall' : extL n (f + 1) now = extK n f now n := rfl
  rw [hall'] at hall ⊢
  refine s_enter (n := 33) (vs := [v, ptr b1, ptr b2, ptr b3]) Tryz.func197 rfl rfl rfl ?_
  rw [hv]
  refine s_rseq fun _ k1 => ?_
  refine o_v v_assign ?_
  refine o_end (k1 _ _ ?_)
  refine s_seq fun _ k2 => ?_
  refine s_rseq fun _ k3 => ?_
  refine o_v v_move ?_
  refine o_v (v_len rfl Tryz.underlying56) ?_
  refine o_v (v_loadB rfl sc3 B1 rfl) ?_
  refine o_v (v_eql rfl rfl) ?_
  refine o_end (k3 _ _ ?_)
  refine s_ifd rfl (fun c3 => ?_) (fun c3 => ?_)
  ·omega
  ·refine s_skip ?_
   refine k2 _ _ ?_
   refine s_seq fun _ k5 => ?_
   refine s_rseq fun _ k6 => ?_
   refine o_v (v_loadB rfl sc3 B1 rfl) ?_
   refine o_v v_move ?_
   refine o_end (k6 _ _ ?_)
   refine s_block ?_
   refine s_loop (G := Nat) (fun g => [(15, I g)]) [15] [5, 6, 16, 17, 18, 19, 20, 21, 22, 23, 24, 25, 26, 27, 28, 29, 30, 31, 32] (fun g W => g ≤ n ∧ ∃ M', J (pre.length + (extK n f now g).length) M' W ∧ Turn M M' w W) (fun g => n - g) (fun _ => rfl) 0 ⟨rfl, trivial⟩ ⟨Nat.zero_le _, M, by simpa [extK] using hj, Turn.refl hMc⟩ ?_
   rintro g jv w2 ⟨hg, M2, hj2, hT2⟩
   have hM21 := hT2.out B1.lt hM1
   have hM22 := hT2.out B2.lt hM2
   have hM23 := hT2.out B3.lt hM3
   have C1 := B1.fr hT2.fr hM1
   have C2 := B2.fr hT2.fr hM2
   have C3 := B3.fr hT2.fr hM3
   have hR2 := hR.turn hT2
   have hMc2 : ∀ k, M2 k → IsC w2 k := fun k hk => (hT2.new k hk).1
   have hsl2 : Ty.int.Sl w2 (fun k => ¬ M2 k) A now := by
    obtain ⟨A', c', hv', _, _, h⟩ := hR2.reads
    rw [hv] at hv'
    obtain ⟨rfl, _⟩ : A = A' ∧ _ := by simpa using hv'
    exact h
   refine s_rseq fun _ k7 => ?_
   refine o_v (v_lss rfl rfl) ?_
   refine o_end (k7 _ _ ?_)
   refine s_seq fun _ k8 => ?_
   refine s_ifd rfl (fun c8 => ?_) (fun c8 => ?_)
   ·have hgn : g < n := by omega
    obtain ⟨cc, hcc⟩ : ∃ cc, cc = decide ((g : Int) ∈ now) := ⟨_, rfl⟩
    refine s_skip ?_
    refine k8 _ _ ?_
    refine s_seq fun _ k9 => ?_
    refine s_block ?_
    refine s_rseq fun _ k10 => ?_
    refine o_v v_move ?_
    refine o_v v_assign ?_
    refine o_end (k10 _ _ ?_)
    refine s_seq fun _ k11 => ?_
    refine s_anyD 11 [18, 19, 20, 21, 22, 23, 24, 25, 26, 27, 28]
     [[], [], [(0, some 18), (1, some 19)], [(2, some 20)], [(3, some 21)], [(4, some 22)], [(4, some 22)], [(4, some 22), (6, some 24)], [(4, some 22)], [(4, some 22), (8, some 26)], [(4, some 22), (7, some 25), (9, some 27)]]
     [(4, some 22), (5, some 23), (10, some 28)] (fun W => w2.grownBy W none) (fun k => if k = 10 then Fr (fun b => w2.heap.size ≤ b) else G0) [(7, 10), (9, 10)]
     [([], fun _ v _ => v = .slice A now.length c), ([], fun _ v _ => v = I g), ([], fun _ v _ => v = .bool cc), ([], fun _ v _ => v = .bool (!cc)), ([], fun _ v _ => v = .bool (!cc)),
      ([], fun _ v _ => (!cc) = true → v = searchV b1 b2 b3), ([], fun _ v _ => (!cc) = true → v = .slice A now.length c), ([], fun _ v W => (!cc) = true → Ty.int.Row 3 W (fun k => w2.heap.size ≤ k) v now),
      ([], fun _ v _ => (!cc) = true → v = I g), ([], fun _ v W => (!cc) = true → ∃ b, v = .slice (some ⟨b, 0, none⟩) 1 1 ∧ Blk W b [I g] 3 ∧ w2.heap.size ≤ b), ([], fun _ v W => (!cc) = true → Ty.int.Row 3 W (fun k => w2.heap.size ≤ k) v (now ++ [(g : Int)]))]
     mixed (by kernel_rfl) (by kernel_rfl) (by kernel_rfl) (by kernel_rfl) (by kernel_rfl) g0_drawn ?_ ?_ ?_ ?_
    ·intro k W W' hC hS
     by_cases hk : k = 10
     ·simp only [hk, if_true] at hS
      exact ⟨hS.os.trans hC.os, hS.tape.trans hC.tape, hS.output.trans hC.output, Nat.le_trans hC.size hS.size, fun i hi _ => (hS.same i (Nat.lt_of_lt_of_le hi hC.size) (by omega)).trans (hC.block i hi (by simp))⟩
     ·simp only [if_neg hk] at hS
      exact World.grownBy.trans hC hS
    ·intro i k v W W' vs hik hd p hp h hS
     have hst : (i = 7 ∨ i = 9) → W.grownBy W' none := fun hi => by
      have hk : k ≠ 10 := by rintro rfl; rcases hi with rfl | rfl <;> simp at hd
      simpa only [if_neg hk] using hS
     rcases i with _ | _ | _ | _ | _ | _ | _ | _ | _ | _ | _ | i
     ·cases hp; exact h
     ·cases hp; exact h
     ·cases hp; exact h
     ·cases hp; exact h
     ·cases hp; exact h
     ·cases hp; exact h
     ·cases hp; exact h
     ·cases hp; exact fun hc => (h hc).step0 (hst (.inl rfl))
     ·cases hp; exact h
     ·cases hp
      intro hc
      obtain ⟨b, h1, h2, h3⟩ := h hc
      exact ⟨b, h1, h2.step0 (hst (.inr rfl)), h3⟩
     ·cases hp
      have hk : k ≠ 10 := fun h => hik h.symm
      simp only [if_neg hk] at hS
      exact fun hc => (h hc).step0 hS
     ·simp at hp
    ·refine ⟨?_, ?_, ?_, ?_, ?_, ?_, ?_, ?_, ?_, ?_, ?_, trivial⟩
     ·intro jv W hC
      exact o_v v_move (o_end (opD_done (grown_refl _ _) rfl))
     ·intro jv W hC
      exact o_v v_move (o_end (opD_done (grown_refl _ _) rfl))
     ·rintro jv W hC _ rfl _ rfl
      refine o_call rfl rfl ent173 (f173_calls A c now g W (hsl2.step0 hC) (by rw [maxLen_val]; omega)) ?_
      rintro _ w4 ⟨rfl, g4⟩
      exact ⟨_, rfl, o_end (opD_done g4 (by rw [hcc]; rfl))⟩
     ·rintro jv W hC _ rfl
      exact o_v (v_not rfl) (o_end (opD_done (grown_refl _ _) rfl))
     ·rintro jv W hC _ rfl
      exact o_v v_move (o_end (opD_done (grown_refl _ _) rfl))
     ·rintro jv W hC _ rfl
      cases hb : (!cc) with
      | true => exact g_yes rfl rfl rfl rfl (o_v (v_loadB rfl sc91 (C3.step0 hC) rfl) (o_end (opD_done (grown_refl _ _) fun _ => rfl)))
      | false => exact g_no rfl rfl rfl rfl (o_end (opD_done (grown_refl _ _) fun h => by cases h))
     ·rintro jv W hC _ rfl
      cases hb : (!cc) with
      | true => exact g_yes rfl rfl rfl rfl (o_v v_move (o_end (opD_done (grown_refl _ _) fun _ => rfl)))
      | false => exact g_no rfl rfl rfl rfl (o_end (opD_done (grown_refl _ _) fun h => by cases h))
     ·rintro jv W hC _ rfl v6 h6
      cases hb : (!cc) with
      | true =>
       obtain rfl := h6 hb
       refine g_yes rfl rfl rfl rfl ?_
       refine o_call rfl rfl ent104 (f104_calls (S := fun k => w2.heap.size ≤ k) A c now W (hsl2.step0 hC) (by omega) (fun k hk => Nat.le_trans hC.size hk)) ?_
       rintro _ w4 ⟨v', rfl, hRc, _, g4⟩
       exact ⟨_, rfl, o_end (opD_done g4 fun _ => hRc)⟩
      | false => exact g_no rfl rfl rfl rfl (o_end (opD_done (grown_refl _ _) fun h => by cases h))
     ·rintro jv W hC _ rfl
      cases hb : (!cc) with
      | true => exact g_yes rfl rfl rfl rfl (o_v v_move (o_end (opD_done (grown_refl _ _) fun _ => rfl)))
      | false => exact g_no rfl rfl rfl rfl (o_end (opD_done (grown_refl _ _) fun h => by cases h))
     ·rintro jv W hC _ rfl v8 h8
      cases hb : (!cc) with
      | true =>
       obtain rfl := h8 hb
       refine g_yes rfl rfl rfl rfl ?_
       refine o_bslice rfl (fun W => bls56_1 W) ?_; intro w4 B27 g4 z4
       exact o_end (opD_done g4 fun _ => ⟨_, rfl, B27, hC.size⟩)
      | false => exact g_no rfl rfl rfl rfl (o_end (opD_done (grown_refl _ _) fun h => by cases h))
     ·rintro jv W hC _ rfl v7 h7 v9 h9
      cases hb : (!cc) with
      | true =>
       obtain ⟨b9, rfl, B9, hb9⟩ := h9 hb
       refine g_yes rfl rfl rfl rfl ?_
       refine o_append1 (t := Ty.int) (p := (g : Int)) rfl rfl (h7 hb) B9 Tryz.underlying56 info3 rfl rfl (fun k hk => Nat.le_trans hC.size hk) (by omega) (by decide) ?_
       intro v' w4 hR4 g4 hat
       refine o_end (opD_done ?_ fun _ => hR4)
       show Fr _ W w4
       refine Fr.of_grown g4 fun k hk => ?_
       exact (h7 hb).1 k hk
      | false => exact g_no rfl rfl rfl rfl (o_end (opD_done (Fr.refl _ _) fun h => by cases h))
    ·rintro jv W hC _ rfl v5 h5 v10 h10
     have hT2W : Turn M M2 w W := hT2.trans (Turn.grown hMc2 hC)
     have hMcW : ∀ k, M2 k → IsC W k := fun k hk => (hT2W.new k hk).1
     have hend : ∀ W' M3, J (pre.length + (extK n f now (g + 1)).length) M3 W' → Turn M M3 w W' → wl none Tryz.prog #[] (Exit.then (fun _ _ => True) (fun _ _ _ => True)) [] (act 33 [] []) W' := fun _ _ _ _ => by rw [wl_nil]; trivial
     clear hend
     cases hb : (!cc) with
     | true =>
      have hnin : (g : Int) ∉ now := by
       rw [hcc] at hb
       simpa using hb
      obtain rfl := h5 hb
      obtain ⟨rest, hrest⟩ := extK_prefix n f now (show g + 1 ≤ n from hgn)
      rw [extK_succ, if_neg hnin] at hrest
      have hallg : all = (pre ++ extK n f now g) ++ extL n f (now ++ [(g : Int)]) ++ (rest ++ post) := by rw [hall, hrest]; simp
      refine g_yes rfl rfl rfl rfl ?_
      refine o_call rfl rfl ent197 (ih (now ++ [(g : Int)]) (pre ++ extK n f now g) (rest ++ post) v10 M2 W (by simp; omega) hallg ((h10 hb).mono fun k hk hm => by have := (hMc2 k hm).lt; omega) (C1.step0 hC) (C2.step0 hC) (C3.step0 hC) hM21 hM22 hM23 hMcW (by rw [List.length_append]; exact hJ _ _ _ _ hj2 hC)) ?_
      rintro _ w4 ⟨rfl, M4, hj4, hT4⟩
      refine ⟨_, rfl, ?_⟩
      refine g_yes rfl rfl rfl rfl ?_
      refine o_v (v_not rfl) ?_
      refine o_v (v_pick_t rfl rfl) ?_
      refine o_end (k11 _ _ ?_)
      refine s_if rfl (fun c11 => by cases c11) (fun c11 => ?_)
      refine s_skip ?_
      refine k9 _ _ ?_
      refine s_region ?_
      refine o_v (v_add rfl rfl (by omega)) ?_
      refine o_v v_move ?_
      refine o_end ?_
      refine mid (g + 1) ?_ ?_ ?_
      ·repeat (first | exact off_refl | refine off_cons rfl ?_)
      ·exact ⟨rfl, trivial⟩
      ·refine ⟨⟨hgn, M4, ?_, hT2W.trans hT4⟩, by omega⟩
       rw [extK_succ, if_neg hnin, List.length_append, ← Nat.add_assoc, ← List.length_append]
       exact hj4
     | false =>
      have hin : (g : Int) ∈ now := by
       rw [hcc] at hb
       simpa using hb
      refine g_no rfl rfl rfl rfl ?_
      refine g_no rfl rfl rfl rfl ?_
      refine o_v (v_pick_f rfl rfl) ?_
      refine o_end (k11 _ _ ?_)
      refine s_if rfl (fun c11 => by cases c11) (fun c11 => ?_)
      refine s_skip ?_
      refine k9 _ _ ?_
      refine s_region ?_
      refine o_v (v_add rfl rfl (by omega)) ?_
      refine o_v v_move ?_
      refine o_end ?_
      refine mid (g + 1) ?_ ?_ ?_
      ·repeat (first | exact off_refl | refine off_cons rfl ?_)
      ·exact ⟨rfl, trivial⟩
      ·refine ⟨⟨hgn, M2, ?_, hT2W⟩, by omega⟩
       rw [extK_succ, if_pos hin, List.append_nil]
       exact hJ _ _ _ _ hj2 hC
   ·obtain rfl : g = n := by omega
    refine s_exit ?_
    refine k5 _ _ ?_
    refine s_rseq fun _ k13 => ?_
    refine o_v v_assign ?_
    refine o_end (k13 _ _ ?_)
    refine s_ret (post1 rfl ?_)
    exact ⟨rfl, M2, hj2, hT2⟩
theorem gives_orders (n : Nat) (hn : n ≤ 100) (b1 : Nat) (w : World) (B1 : Blk w b1 [I n] 3) : Gives Tryz.prog 196 [ptr b1] (extL n n []).length (OrdEl (extL n n [])) (fun k => k = b1) w := by
 intro l J M W hwW hM hJ hY h0
 have B1 := B1.step0 hwW
 have hMc : ∀ k, M k → IsC W k := fun k hk => (hM k hk).1
 refine s_enter (n := 7) (vs := [yieldV l, ptr b1]) Tryz.func196 rfl rfl rfl ?_
 refine s_rseq fun _ k1 => ?_
 refine o_box (t := 91) rfl ?_; intro w1 B2 g1 z1
 refine o_end (k1 _ _ ?_)
 refine s_rseq fun _ k2 => ?_
 refine o_alloc (t := 91) ze91 rfl ?_; intro w2 B3 g2 z2
 replace B2 := B2.step0 g2
 refine o_end (k2 _ _ ?_)
 refine s_rseq fun _ k3 => ?_
 refine o_v v_func ?_
 refine o_storeB (vs := [searchV b1 W.heap.size w1.heap.size]) rfl rfl sz91 rfl B3 rfl rfl ?_; intro w3 B3 g3 z3
 replace B2 := B2.step g3 (by simp; omega)
 have G3 : W.grownBy w3 none := ⟨g3.os.trans (g2.os.trans g1.os), g3.tape.trans (g2.tape.trans g1.tape), g3.output.trans (g2.output.trans g1.output), by omega, fun k hk _ => (g3.block k (by omega) (by simp; omega)).trans ((g2.block k (by omega) (by simp)).trans (g1.block k hk (by simp)))⟩
 refine o_end (k3 _ _ ?_)
 refine s_region ?_
 refine o_v (v_loadB rfl sc91 B3 rfl) ?_
 have hT3 := Turn.grown hMc G3
 refine o_call rfl rfl ent197 (f197_calls n hn (extL n n []) l J hJ hY b1 W.heap.size w1.heap.size n [] [] [] (.slice none 0 0) M w3 (by simp) (by simp) (Ty.Row.nil _ _ _ _) (B1.step0 G3) B2 B3 (fun h => (hM _ h).2 rfl) (fun h => by have := (hMc _ h).lt; omega) (fun h => by have := (hMc _ h).lt; omega) (fun k hk => (hT3.new k hk).1) (hJ _ _ _ _ h0 G3)) ?_
 rintro _ w4 ⟨rfl, M4, hj4, hT4⟩
 refine ⟨_, rfl, ?_⟩
 refine o_end ?_
 exact post0n rfl ⟨⟨_, rfl⟩, M4, by simpa using hj4, hT3.trans hT4⟩
theorem f175_calls (n : Int) (w : World) :
  Calls Tryz.prog 175 #[I n] w fun e w' => e = .returned (.func (.func 196) #[] #[ptr w.heap.size]) ∧ Blk w' w.heap.size [I n] 3 ∧ w.grownBy w' none := by
 refine s_enter (n := 4) Tryz.func175 rfl rfl rfl ?_
 have G := grown_refl w none
 refine s_rseq fun _ k1 => ?_
 refine o_box (t := 3) rfl ?_; intro w1 B1 g1 z1
 replace G := G.step0 g1
 refine o_v v_assign ?_
 refine o_end (k1 _ _ ?_)
 refine s_rseq fun _ k2 => ?_
 refine o_v v_func ?_
 refine o_v v_assign ?_
 refine o_end (k2 _ _ ?_)
 refine s_ret (post1 rfl ?_)
 exact ⟨rfl, B1, G⟩
end Go.Proofs.NV
namespace Go.Proofs.NV
open Go.RowKit Go.Shelf
attribute [local irreducible] bodyPost bodyPostM wpQuiet
def pagesOf (b : Book) (e : Nat) : List Page := ((extL b.goods.length b.goods.length []).filter (suitsB b e)).map fun m => ⟨m, 1, 1⟩
def stepL (mv : Int) (off E D : Nat) (P : List (List Page)) : List (List Page) := P.set E ((P[E]?.getD []).map fun p => updF off (cntL mv off (P[D]?.getD []) p.means) p)
def fwdL (mv : Int) : Nat → List (List Page) → List (List Page)
 | 0, P => P
 | k + 1, P => if k = 0 then fwdL mv k P else stepL mv 1 k (k - 1) (fwdL mv k P)
def bwdL (mv : Int) (n : Nat) : Nat → List (List Page) → List (List Page)
 | 0, P => P
 | j + 1, P => stepL mv 2 (n - 2 - j) (n - 1 - j) (bwdL mv n j P)
def pages0 (b : Book) : List (List Page) := (List.range b.ed.toNat).map (pagesOf b)
def pages2 (b : Book) : List (List Page) := bwdL b.mv b.ed.toNat (b.ed.toNat - 1) (fwdL b.mv b.ed.toNat (pages0 b))
def openedL (b : Book) : List (List Page) := (pages2 b).map (·.filter fun p => !p.gone)
theorem extL_len (n f : Nat) : ∀ (now m : List Int), m ∈ extL n f now → m.length = now.length + f := by
 induction f with
 | zero => intro now m h; rw [extL, List.mem_singleton] at h; rw [h]; rfl
 | succ f ih =>
  intro now m h
  rw [extL, List.mem_flatMap] at h
  obtain ⟨g, _, h⟩ := h
  split at h
  ·cases h
  ·have := ih _ _ h
   simp at this; omega
theorem extL_nodup (n f : Nat) : ∀ (now m : List Int), now.Nodup → m ∈ extL n f now → m.Nodup := by
 induction f with
 | zero => intro now m hn h; rw [extL, List.mem_singleton] at h; rw [h]; exact hn
 | succ f ih =>
  intro now m hn h
  rw [extL, List.mem_flatMap] at h
  obtain ⟨g, _, h⟩ := h
  split at h
  ·cases h
  ·rename_i hg
   refine ih _ _ ?_ h
   rw [List.nodup_append]
   refine ⟨hn, by simp, fun a ha b hb => ?_⟩
   rw [List.mem_singleton.1 hb]
   rintro rfl
   exact hg ha
theorem extL_range (n f : Nat) : ∀ (now m : List Int), (∀ x ∈ now, 0 ≤ x ∧ x < n) → m ∈ extL n f now → ∀ x ∈ m, 0 ≤ x ∧ x < n := by
 induction f with
 | zero => intro now m hn h; rw [extL, List.mem_singleton] at h; rw [h]; exact hn
 | succ f ih =>
  intro now m hn h
  rw [extL, List.mem_flatMap] at h
  obtain ⟨g, hg, h⟩ := h
  split at h
  ·cases h
  ·refine ih _ _ (fun x hx => ?_) h
   rw [List.mem_range] at hg
   rcases List.mem_append.1 hx with h1 | h1
   ·exact hn x h1
   ·rw [List.mem_singleton.1 h1]; omega
theorem orders_len (n : Nat) (h : n ≤ 5) : (extL n n []).length ≤ 120 := by
 have : n = 0 ∨ n = 1 ∨ n = 2 ∨ n = 3 ∨ n = 4 ∨ n = 5 := by omega
 rcases this with rfl | rfl | rfl | rfl | rfl | rfl <;> decide
structure Fine (N : Nat) (B1 B2 : Nat → Int) (P : List (List Page)) : Prop where
 few : ∀ i : Nat, (P[i]?.getD []).length ≤ 120
 len : ∀ i : Nat, ∀ p ∈ (P[i]?.getD []), p.means.length = N
 before : ∀ i : Nat, ∀ p ∈ (P[i]?.getD []), 0 ≤ p.before ∧ p.before ≤ B1 i
 after : ∀ i : Nat, ∀ p ∈ (P[i]?.getD []), 0 ≤ p.after ∧ p.after ≤ B2 i
theorem getD_set (P : List (List Page)) (E i : Nat) (x : List Page) : (P.set E x)[i]?.getD [] = if E = i ∧ i < P.length then x else P[i]?.getD [] := by
 by_cases h : E = i
 ·subst h
  by_cases h2 : E < P.length
  ·rw [List.getElem?_set_self h2, if_pos ⟨rfl, h2⟩]; rfl
  ·rw [List.set_eq_of_length_le (by omega), if_neg (by omega)]
 ·rw [List.getElem?_set_ne h, if_neg (fun hh => h hh.1)]
theorem Fine.step1 {N : Nat} {B1 B2 : Nat → Int} {P : List (List Page)} {mv : Int} {E D : Nat} (h : Fine N B1 B2 P) (hB : 0 ≤ B1 D) (hE : B1 D * 120 ≤ B1 E) : Fine N B1 B2 (stepL mv 1 E D P) := by
 have hc : ∀ m, 0 ≤ cntL mv 1 (P[D]?.getD []) m ∧ cntL mv 1 (P[D]?.getD []) m ≤ B1 E := by
  intro m
  have h1 := cntL_bound mv 1 (P[D]?.getD []) m (B1 D) hB (fun q hq => h.before D q hq)
  have h2 := h.few D
  refine ⟨h1.1, Int.le_trans h1.2 (Int.le_trans (Int.mul_le_mul_of_nonneg_left (by omega) hB) hE)⟩
 unfold stepL
 refine ⟨fun i => ?_, fun i p hp => ?_, fun i p hp => ?_, fun i p hp => ?_⟩
 ·rw [getD_set]; split
  ·rw [List.length_map]; exact h.few E
  ·exact h.few i
 ·rw [getD_set] at hp; split at hp
  ·obtain ⟨q, hq, rfl⟩ := List.mem_map.1 hp; rw [updF_means]; exact h.len E q hq
  ·exact h.len i p hp
 ·rw [getD_set] at hp; split at hp
  ·rename_i he; obtain ⟨q, hq, rfl⟩ := List.mem_map.1 hp; rw [← he.1]; exact hc q.means
  ·exact h.before i p hp
 ·rw [getD_set] at hp; split at hp
  ·rename_i he; obtain ⟨q, hq, rfl⟩ := List.mem_map.1 hp; rw [← he.1]; exact h.after E q hq
  ·exact h.after i p hp
theorem Fine.step2 {N : Nat} {B1 B2 : Nat → Int} {P : List (List Page)} {mv : Int} {E D : Nat} (h : Fine N B1 B2 P) (hB : 0 ≤ B2 D) (hE : B2 D * 120 ≤ B2 E) : Fine N B1 B2 (stepL mv 2 E D P) := by
 have hc : ∀ m, 0 ≤ cntL mv 2 (P[D]?.getD []) m ∧ cntL mv 2 (P[D]?.getD []) m ≤ B2 E := by
  intro m
  have h1 := cntL_bound mv 2 (P[D]?.getD []) m (B2 D) hB (fun q hq => h.after D q hq)
  have h2 := h.few D
  refine ⟨h1.1, Int.le_trans h1.2 (Int.le_trans (Int.mul_le_mul_of_nonneg_left (by omega) hB) hE)⟩
 unfold stepL
 refine ⟨fun i => ?_, fun i p hp => ?_, fun i p hp => ?_, fun i p hp => ?_⟩
 ·rw [getD_set]; split
  ·rw [List.length_map]; exact h.few E
  ·exact h.few i
 ·rw [getD_set] at hp; split at hp
  ·obtain ⟨q, hq, rfl⟩ := List.mem_map.1 hp; rw [updF_means]; exact h.len E q hq
  ·exact h.len i p hp
 ·rw [getD_set] at hp; split at hp
  ·rename_i he; obtain ⟨q, hq, rfl⟩ := List.mem_map.1 hp; rw [← he.1]; exact h.before E q hq
  ·exact h.before i p hp
 ·rw [getD_set] at hp; split at hp
  ·rename_i he; obtain ⟨q, hq, rfl⟩ := List.mem_map.1 hp; rw [← he.1]; exact hc q.means
  ·exact h.after i p hp
def bd1 (i : Nat) : Int := if i = 0 then 1 else if i = 1 then 120 else 14400
def bd2 (n i : Nat) : Int := if i + 1 = n then 1 else if i + 2 = n then 120 else 14400
theorem fine0 (b : Book) (hg : b.goods.length ≤ 5) (n : Nat) : Fine b.goods.length bd1 (bd2 n) (pages0 b) := by
 have hin : ∀ (i : Nat) (p : Page), p ∈ ((pages0 b)[i]?.getD []) → p.before = 1 ∧ p.after = 1 ∧ p.means.length = b.goods.length := by
  intro i p hp
  unfold pages0 at hp
  rw [List.getElem?_map] at hp
  cases h : (List.range b.ed.toNat)[i]? with
  | none => rw [h] at hp; cases hp
  | some e =>
   rw [h, Option.map_some, Option.getD_some] at hp
   unfold pagesOf at hp
   obtain ⟨m, hm, rfl⟩ := List.mem_map.1 hp
   have := extL_len _ _ _ _ (List.mem_filter.1 hm).1
   exact ⟨rfl, rfl, by simpa using this⟩
 have hb1 : ∀ i, 1 ≤ bd1 i := fun i => by unfold bd1; (repeat split) <;> omega
 have hb2 : ∀ i, 1 ≤ bd2 n i := fun i => by unfold bd2; (repeat split) <;> omega
 refine ⟨fun i => ?_, fun i p hp => (hin i p hp).2.2, fun i p hp => by rw [(hin i p hp).1]; have := hb1 i; omega, fun i p hp => by rw [(hin i p hp).2.1]; have := hb2 i; omega⟩
 unfold pages0
 rw [List.getElem?_map]
 cases h : (List.range b.ed.toNat)[i]? with
 | none => simp
 | some e =>
  rw [Option.map_some, Option.getD_some]
  unfold pagesOf
  rw [List.length_map]
  exact Nat.le_trans (List.length_filter_le _ _) (orders_len _ hg)
theorem fwdL_fine {b : Book} {N n : Nat} {mv : Int} {P : List (List Page)} (h : Fine N bd1 (bd2 n) P) : ∀ k, k ≤ 3 → Fine N bd1 (bd2 n) (fwdL mv k P)
 | 0, _ => h
 | k + 1, hk => by
  unfold fwdL
  split
  ·exact fwdL_fine (b := b) h k (by omega)
  ·have : k = 1 ∨ k = 2 := by omega
   refine Fine.step1 (fwdL_fine (b := b) h k (by omega)) ?_ ?_
   ·rcases this with rfl | rfl <;> decide
   ·rcases this with rfl | rfl <;> decide
theorem bwdL_fine {N n : Nat} {mv : Int} {P : List (List Page)} (hn : n ≤ 3) (h : Fine N bd1 (bd2 n) P) : ∀ j, j + 1 ≤ n → Fine N bd1 (bd2 n) (bwdL mv n j P)
 | 0, _ => h
 | j + 1, hj => by
  unfold bwdL
  refine Fine.step2 (bwdL_fine hn h j (by omega)) ?_ ?_
  ·have : (n = 2 ∧ j = 0) ∨ (n = 3 ∧ j = 0) ∨ (n = 3 ∧ j = 1) := by omega
   rcases this with ⟨rfl, rfl⟩ | ⟨rfl, rfl⟩ | ⟨rfl, rfl⟩ <;> decide
  ·have : (n = 2 ∧ j = 0) ∨ (n = 3 ∧ j = 0) ∨ (n = 3 ∧ j = 1) := by omega
   rcases this with ⟨rfl, rfl⟩ | ⟨rfl, rfl⟩ | ⟨rfl, rfl⟩ <;> decide
theorem stepL_len (mv : Int) (off E D : Nat) (P : List (List Page)) : (stepL mv off E D P).length = P.length := by unfold stepL; rw [List.length_set]
theorem fwdL_len (mv : Int) (P : List (List Page)) : ∀ k, (fwdL mv k P).length = P.length
 | 0 => rfl
 | k + 1 => by
  unfold fwdL
  split
  ·exact fwdL_len mv P k
  ·rw [stepL_len, fwdL_len mv P k]
theorem bwdL_len (mv : Int) (n : Nat) (P : List (List Page)) : ∀ j, (bwdL mv n j P).length = P.length
 | 0 => rfl
 | j + 1 => by unfold bwdL; rw [stepL_len, bwdL_len mv n P j]
def valT : Ty Value where
 sz := 1
 rep := fun _ _ x cs => cs = [x] ∧ x.oneCell' = true
 hpos := Nat.one_pos
 hlen := fun h => by rw [h.1]; rfl
 hone := fun h u hu => by rw [h.1] at hu; rw [List.mem_singleton.1 hu]; exact h.2
 hmono := fun _ h => h
 hbound := fun h => h
 hmove := fun _ h => h
end Go.Proofs.NV
