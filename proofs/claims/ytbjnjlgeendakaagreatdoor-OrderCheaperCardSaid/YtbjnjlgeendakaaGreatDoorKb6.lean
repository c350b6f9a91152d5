/- Part of the proof: Walks: Index, Contains; suits, isMeans, Fits.. -/
import Derived.Test.YtbjnjlgeendakaaGreatDoorKb5
set_option linter.unusedVariables false
set_option maxRecDepth 100000
set_option linter.unusedSimpArgs false
namespace Go.Proofs.NV
open Go.RowKit Go.Shelf
attribute [local irreducible] bodyPost wpQuiet
theorem idxL_mem (v : Int) (xs : List Int) : decide (0 ≤ idxL (fun x => decide (v = x)) xs) = decide (v ∈ xs) := by
 rw [idxL_any]
 induction xs with
 | nil => simp
 | cons x xs ih => simp only [List.any_cons, ih, List.mem_cons]; by_cases h : v = x <;> simp [h]
theorem f130_calls {S : Nat → Prop} (A : Option Addr) (c : Nat) (xs : List Int) (v : Int) (w : World) (hx : Ty.int.Sl w S A xs) (hm : xs.length ≤ maxLen) :
  Calls Tryz.prog 130 #[.slice A xs.length c, I v] w fun e w' => e = .returned (I (idxL (fun x => decide (v = x)) xs)) ∧ w.grownBy w' none := by
 rw [maxLen_val] at hm
 refine s_enter (n := 19) Tryz.func130 rfl rfl rfl ?_
 have G := grown_refl w none
 refine s_rseq fun _ k1 => ?_
 refine o_v v_assign ?_
 refine o_end (k1 _ _ ?_)
 refine s_seq fun _ k2 => ?_
 refine s_rseq fun _ k3 => ?_
 refine o_v v_move ?_
 refine o_v (v_len rfl Tryz.underlying56) ?_
 refine o_v v_move ?_
 refine o_end (k3 _ _ ?_)
 refine s_block ?_
 refine s_loop (G := Nat) (fun g => [(8, I g)]) [8] [4, 5, 9, 10, 11, 12, 13, 14, 15, 16, 17, 18] (fun g W => (g ≤ xs.length ∧ ∀ x ∈ xs.take g, decide (v = x) = false) ∧ w.grownBy W none) (fun g => xs.length - g) (fun _ => rfl) 0 ⟨rfl, trivial⟩ ⟨⟨Nat.zero_le _, by simp⟩, grown_refl _ _⟩ ?_
 rintro g jv w1 ⟨⟨hk, hno⟩, g1⟩
 replace G := G.step0 g1; replace hx := hx.step0 g1
 refine s_rseq fun _ k4 => ?_
 refine o_v (v_lss rfl rfl) ?_
 refine o_end (k4 _ _ ?_)
 refine s_seq fun _ k5 => ?_
 refine s_ifd rfl (fun c5 => ?_) (fun c5 => ?_)
 ·have hlt : g < xs.length := by omega
  obtain ⟨b, o, rfl, hc⟩ := hx.int g hlt
  refine s_skip ?_
  refine k5 _ _ ?_
  refine s_seq fun _ k6 => ?_
  refine s_block ?_
  refine s_rseq fun _ k7 => ?_
  refine o_v v_move ?_
  refine o_v v_assign ?_
  refine o_end (k7 _ _ ?_)
  refine s_rseq fun _ k8 => ?_
  refine o_v v_move ?_
  refine o_v v_move ?_
  refine o_v v_move ?_
  refine o_v (v_index rfl rfl slt56 (by omega)) ?_
  refine o_v (v_loadC rfl sc3 hc) ?_
  refine o_v (v_eql rfl rfl) ?_
  refine o_end (k8 _ _ ?_)
  refine s_ifd rfl (fun c8 => ?_) (fun c8 => ?_)
  ·refine s_rseq fun _ k9 => ?_
   refine o_v v_move ?_
   refine o_v v_assign ?_
   refine o_end (k9 _ _ ?_)
   refine s_ret (post1 rfl ?_)
   exact ⟨ret_int (idxL_some _ xs g hlt hno (by simpa using c8)).symm, G⟩
  ·refine s_skip ?_
   refine k6 _ _ ?_
   refine s_region ?_
   refine o_v (v_add rfl rfl (by omega)) ?_
   refine o_v v_move ?_
   refine o_end ?_
   refine mid (g + 1) ?_ ?_ ?_
   ·repeat (first | exact off_refl | refine off_cons rfl ?_)
   ·exact ⟨rfl, trivial⟩
   ·exact ⟨⟨⟨hlt, fun x hx' => by
   rw [List.take_succ_eq_append_getElem hlt] at hx'
   rcases List.mem_append.1 hx' with h | h
   ·exact hno x h
   ·rw [List.mem_singleton.1 h]; simpa using c8⟩, g1⟩, by omega⟩
 ·refine s_exit ?_
  refine k2 _ _ ?_
  refine s_rseq fun _ k10 => ?_
  refine o_v v_assign ?_
  refine o_end (k10 _ _ ?_)
  refine s_ret (post1 rfl ?_)
  have hk' : g = xs.length := by omega
  exact ⟨ret_int (idxL_none _ xs (fun x hx' => hno x (by rw [hk', List.take_length]; exact hx'))).symm, G⟩
theorem f173_calls {S : Nat → Prop} (A : Option Addr) (c : Nat) (xs : List Int) (v : Int) (w : World) (hx : Ty.int.Sl w S A xs) (hm : xs.length ≤ maxLen) :
  Calls Tryz.prog 173 #[.slice A xs.length c, I v] w fun e w' => e = .returned (.bool (decide (v ∈ xs))) ∧ w.grownBy w' none := by
 refine s_enter (n := 9) Tryz.func173 rfl rfl rfl ?_
 have G := grown_refl w none
 refine s_rseq fun _ k1 => ?_
 refine o_v v_assign ?_
 refine o_end (k1 _ _ ?_)
 refine s_rseq fun _ k2 => ?_
 refine o_v v_move ?_
 refine o_v v_move ?_
 refine o_call rfl rfl ent130 (f130_calls A c xs v _ hx hm) ?_; rintro _ w1 ⟨rfl, g1⟩; refine ⟨_, rfl, ?_⟩
 replace G := G.step0 g1; replace hx := hx.step0 g1
 refine o_v (v_geq rfl rfl) ?_
 refine o_v v_assign ?_
 refine o_end (k2 _ _ ?_)
 refine s_ret (post1 rfl ?_)
 exact ⟨ret_bool (idxL_mem v xs), G⟩
def suitBad (e : Int) (l : List Int) (x : Entry) : Bool := decide (x.ed = e) && decide (¬ l[x.num.toNat]?.getD 0 = x.good)
def suitsB (b : Book) (e : Int) (l : List Int) : Bool := decide l.Nodup && !(b.ents.any (suitBad e l))
theorem nodup_take (l : List Int) : l.Nodup ↔ ∀ i (h : i < l.length), l[i] ∉ l.take i := by
 unfold List.Nodup
 rw [List.pairwise_iff_getElem]
 constructor
 ·intro h i hi hm
  obtain ⟨j, hj, e⟩ := List.mem_take_iff_getElem.1 hm
  exact h j i (by omega) hi (by omega) e
 ·intro h i j hi hj hij e
  exact h j hj (List.mem_take_iff_getElem.2 ⟨i, by omega, e⟩)
theorem f174_calls {S : Nat → Prop} (x : Entry) (ke km : Nat) (e : Int) (A : Option Addr) (c : Nat) (l : List Int) (w : World) (hl : Ty.int.Sl w S A l) (he : Blk w ke [I e] 3) (hm : Blk w km [.slice A l.length c] 56) (hx : 0 ≤ x.num ∧ x.num < l.length) :
  Calls Tryz.prog 174 #[.agg #[I x.ed, I x.num, I x.good], ptr ke, ptr km] w fun en w' => en = .returned (.bool (suitBad e l x)) ∧ w.grownBy w' none := by
 refine s_enter (n := 19) Tryz.func174 rfl rfl rfl ?_
 have G := grown_refl w none
 refine s_rseq fun _ k1 => ?_
 refine o_box (t := 99) rfl ?_; intro w1 B3 g1 z1
 replace G := G.step0 g1; replace hl := hl.step0 g1; replace he := he.step0 g1; replace hm := hm.step0 g1
 refine o_v v_assign ?_
 refine o_end (k1 _ _ ?_)
 obtain ⟨b, o, rfl, hc⟩ := hl.int x.num.toNat (by omega)
 refine s_seq fun _ k2 => ?_; refine s_quiet mixed (by kernel_rfl) ?_
 refine q_v (fun _ gq => v_field rfl fld99_0) ?_
 refine q_v (fun _ gq => v_loadB rfl sc3 (B3.step0 gq) rfl) ?_
 refine q_v (fun _ gq => v_loadB rfl sc3 (he.step0 gq) rfl) ?_
 refine q_v (fun _ gq => v_eql rfl rfl) ?_
 refine q_v (fun _ gq => v_move) ?_
 refine q_mid (G := Unit) 9 (fun _ => [(18, .bool ((decide (x.ed = e)) && (decide (¬ l[x.num.toNat] = x.good))))]) [18] [10, 11, 12, 13, 14, 15, 16, 17] (fun _ => rfl) ?_ ?_
 ·rcases Bool.eq_false_or_eq_true ((decide (x.ed = e))) with hX1 | hX1
  ·refine q_yes rfl rfl rfl hX1 ?_
   refine q_v (fun _ gq => v_loadB rfl sc56 (hm.step0 gq) rfl) ?_
   refine q_yes rfl rfl rfl hX1 ?_
   refine q_v (fun _ gq => v_field rfl fld99_1) ?_
   refine q_yes rfl rfl rfl hX1 ?_
   refine q_v (fun _ gq => v_loadB rfl sc3 (B3.step0 gq) rfl) ?_
   refine q_yes rfl rfl rfl hX1 ?_
   refine q_v (fun _ gq => v_index rfl rfl slt56 (by omega)) ?_
   refine q_yes rfl rfl rfl hX1 ?_
   refine q_v (fun _ gq => v_loadC rfl sc3 (cell0 gq hc)) ?_
   refine q_yes rfl rfl rfl hX1 ?_
   refine q_v (fun _ gq => v_field rfl fld99_2) ?_
   refine q_yes rfl rfl rfl hX1 ?_
   refine q_v (fun _ gq => v_loadB rfl sc3 (B3.step0 gq) rfl) ?_
   refine q_yes rfl rfl rfl hX1 ?_
   refine q_v (fun _ gq => v_neq rfl rfl) ?_
   refine q_v (fun _ gq => v_pick_t rfl hX1) ?_
   refine q_end (midq () ?_ ?_)
   ·repeat (first | exact off_refl | refine off_cons rfl ?_)
   ·exact ⟨by rw [hX1]; rfl, trivial⟩
  ·refine q_no rfl rfl rfl hX1 ?_
   refine q_no rfl rfl rfl hX1 ?_
   refine q_no rfl rfl rfl hX1 ?_
   refine q_no rfl rfl rfl hX1 ?_
   refine q_no rfl rfl rfl hX1 ?_
   refine q_no rfl rfl rfl hX1 ?_
   refine q_no rfl rfl rfl hX1 ?_
   refine q_no rfl rfl rfl hX1 ?_
   refine q_v (fun _ gq => v_pick_f rfl hX1) ?_
   refine q_end (midq () ?_ ?_)
   ·repeat (first | exact off_refl | refine off_cons rfl ?_)
   ·exact ⟨by rw [hX1]; rfl, trivial⟩
 ·rintro _ jv
  refine q_v (fun _ gq => v_assign) ?_
  refine q_end (fun w2 g2 => k2 _ _ ?_)
  replace G := G.step0 g2; replace hl := hl.step0 g2; replace he := he.step0 g2; replace hm := hm.step0 g2; replace B3 := B3.step0 g2
  refine s_ret (post1 rfl ?_)
  exact ⟨ret_bool (by simp only [suitBad]; rw [List.getElem?_eq_getElem (show x.num.toNat < l.length by omega)]; rfl), G⟩
theorem f128_calls {S T : Nat → Prop} (b : Book) (gA : Option Addr) (gc : Nat) (eA : Option Addr) (ec : Nat) (e : Int) (A : Option Addr) (c : Nat) (l : List Int) (w : World) (hI : BookIn w S b gA gc eA ec) (hl : Ty.int.Sl w T A l) (hc : l.length ≤ c ∧ c ≤ maxLen) (hn : ∀ x ∈ b.ents, 0 ≤ x.num ∧ x.num < l.length) :
  Calls Tryz.prog 128 #[.agg (b.cells gA gc eA ec).toArray, I e, .slice A l.length c] w fun en w' => en = .returned (.bool (suitsB b e l)) ∧ w.grownBy w' none := by
 rw [maxLen_val] at hc
 refine s_enter (n := 27) Tryz.func128 rfl rfl rfl ?_
 have G := grown_refl w none
 refine s_rseq fun _ k1 => ?_
 refine o_box (t := 25) rfl ?_; intro w1 B3 g1 z1
 replace G := G.step0 g1; replace hI := hI.step0 g1; replace hl := hl.step0 g1
 refine o_box (t := 3) rfl ?_; intro w2 B4 g2 z2
 replace G := G.step0 g2; replace hI := hI.step0 g2; replace hl := hl.step0 g2; replace B3 := B3.step0 g2
 refine o_box (t := 56) rfl ?_; intro w3 B5 g3 z3
 replace G := G.step0 g3; replace hI := hI.step0 g3; replace hl := hl.step0 g3; replace B3 := B3.step0 g3; replace B4 := B4.step0 g3
 refine o_v v_assign ?_
 refine o_end (k1 _ _ ?_)
 refine s_seq fun _ k2 => ?_
 refine s_rseq fun _ k3 => ?_
 refine o_v (v_loadB rfl sc56 B5 rfl) ?_
 refine o_v (v_len rfl Tryz.underlying56) ?_
 refine o_v v_move ?_
 refine o_end (k3 _ _ ?_)
 refine s_block ?_
 refine s_loop (G := Nat) (fun g => [(11, I g)]) [11] [6, 7, 8, 12, 13, 14, 15, 16, 17, 18, 19, 20, 21] (fun g W => (g ≤ l.length ∧ ∀ i (h : i < l.length), i < g → l[i] ∉ l.take i) ∧ w3.grownBy W none) (fun g => l.length - g) (fun _ => rfl) 0 ⟨rfl, trivial⟩ ⟨⟨Nat.zero_le _, fun i _ h => by omega⟩, grown_refl _ _⟩ ?_
 rintro g jv w4 ⟨⟨hk, hno⟩, g4⟩
 replace G := G.step0 g4; replace hI := hI.step0 g4; replace hl := hl.step0 g4; replace B3 := B3.step0 g4; replace B4 := B4.step0 g4; replace B5 := B5.step0 g4
 refine s_rseq fun _ k4 => ?_
 refine o_v (v_lss rfl rfl) ?_
 refine o_end (k4 _ _ ?_)
 refine s_seq fun _ k5 => ?_
 refine s_ifd rfl (fun c5 => ?_) (fun c5 => ?_)
 ·have hlt : g < l.length := by omega
  obtain ⟨b0, o0, rfl, hc0⟩ := hl.int g hlt
  refine s_skip ?_
  refine k5 _ _ ?_
  refine s_seq fun _ k6 => ?_
  refine s_block ?_
  refine s_rseq fun _ k7 => ?_
  refine o_v v_move ?_
  refine o_v (v_index rfl rfl slt56 (by omega)) ?_
  refine o_v (v_loadC rfl sc3 hc0) ?_
  refine o_v v_assign ?_
  refine o_v v_assign ?_
  refine o_end (k7 _ _ ?_)
  refine s_rseq fun _ k8 => ?_
  refine o_v (v_loadB rfl sc56 B5 rfl) ?_
  refine o_v v_move ?_
  refine o_v (v_sliceH rfl rfl slt56 (by omega)) ?_
  refine o_v v_move ?_
  refine o_call rfl rfl ent173 (by have := f173_calls (some ⟨b0, o0, none⟩) c (l.take g) l[g] w4 (hl.take g) (by rw [List.length_take, maxLen_val]; omega); rwa [show (l.take g).length = ((g : Int)).toNat by rw [List.length_take]; omega] at this) ?_; rintro _ w5 ⟨rfl, g5⟩; refine ⟨_, rfl, ?_⟩
  replace G := G.step0 g5; replace hI := hI.step0 g5; replace hl := hl.step0 g5; replace B3 := B3.step0 g5; replace B4 := B4.step0 g5; replace B5 := B5.step0 g5; replace g4 := g4.step0 g5
  refine o_end (k8 _ _ ?_)
  refine s_ifd rfl (fun c8 => ?_) (fun c8 => ?_)
  ·refine s_rseq fun _ k9 => ?_
   refine o_v v_assign ?_
   refine o_end (k9 _ _ ?_)
   refine s_ret (post1 rfl ?_)
   refine ⟨ret_bool ?_, G⟩
   have hnd : ¬ l.Nodup := fun h => (nodup_take l).1 h g hlt c8
   simp [suitsB, hnd]
  ·refine s_skip ?_
   refine k6 _ _ ?_
   refine s_region ?_
   refine o_v (v_add rfl rfl (by omega)) ?_
   refine o_v v_move ?_
   refine o_end ?_
   refine mid (g + 1) ?_ ?_ ?_
   ·repeat (first | exact off_refl | refine off_cons rfl ?_)
   ·exact ⟨rfl, trivial⟩
   ·exact ⟨⟨⟨hlt, fun i hi h => by
   rcases Nat.lt_or_ge i g with h' | h'
   ·exact hno i hi h'
   ·obtain rfl : i = g := by omega
    exact c8⟩, g4⟩, by omega⟩
 ·refine s_exit ?_
  refine k2 _ _ ?_
  refine s_rseq fun _ k10 => ?_
  refine o_v (v_field rfl fld25_3) ?_
  refine o_v (v_loadB rfl sc23 B3 rfl) ?_
  refine o_v v_func ?_
  refine o_call rfl rfl ent159 (f159_calls entT rfl (suitBad e l) eA ec b.ents 174 [ptr w1.heap.size, ptr w2.heap.size] _ hI.ents (Nat.le_trans hI.el.1 hI.el.2) ent174 (fun x cs W hx hg hr => by obtain rfl : cs = [I x.ed, I x.num, I x.good] := hr; exact f174_calls x _ _ e A c l W (hl.step0 hg) (B4.step0 hg) (B5.step0 hg) (hn x hx))) ?_; rintro _ w6 ⟨rfl, g6⟩; refine ⟨_, rfl, ?_⟩
  replace G := G.step0 g6; replace hI := hI.step0 g6; replace hl := hl.step0 g6; replace B3 := B3.step0 g6; replace B4 := B4.step0 g6; replace B5 := B5.step0 g6; replace g4 := g4.step0 g6
  refine o_v (v_not rfl) ?_
  refine o_v v_assign ?_
  refine o_end (k10 _ _ ?_)
  refine s_ret (post1 rfl ?_)
  refine ⟨ret_bool ?_, G⟩
  have hnd : l.Nodup := (nodup_take l).2 fun i hi => hno i hi (by omega)
  simp [suitsB, hnd]
theorem f172_calls (n : Int) (k : Nat) (b : Book) (gA : Option Addr) (gc : Nat) (eA : Option Addr) (ec : Nat) (w : World) (hl : b.goods.length ≤ maxLen) (hk : Blk w k (b.cells gA gc eA ec) 25) :
  Calls Tryz.prog 172 #[I n, ptr k] w fun e w' => e = .returned (.bool (!b.isNum n)) ∧ w.grownBy w' none := by
 refine s_enter (n := 8) Tryz.func172 rfl rfl rfl ?_
 have G := grown_refl w none
 refine s_rseq fun _ k1 => ?_
 refine o_v v_assign ?_
 refine o_end (k1 _ _ ?_)
 refine s_rseq fun _ k2 => ?_
 refine o_v (v_loadBS rfl ag25 hk rfl rfl) ?_
 refine o_v v_move ?_
 refine o_call rfl rfl ent93 (f93_calls _ _ _ _ _ _ _ hl) ?_; rintro _ w1 ⟨rfl, g1⟩; refine ⟨_, rfl, ?_⟩
 replace G := G.step0 g1
 refine o_v (v_not rfl) ?_
 refine o_v v_assign ?_
 refine o_end (k2 _ _ ?_)
 refine s_ret (post1 rfl ?_)
 exact ⟨rfl, G⟩
def rowBad (b : Book) (x : List Int) : Bool := decide (¬ (x.length : Int) = b.goods.length) || x.any fun n => !b.isNum n
def meansB (b : Book) (l : List (List Int)) : Bool := decide ((l.length : Int) = b.ed) && !(l.any (rowBad b))
theorem f171_calls {T : Nat → Prop} (A : Option Addr) (c : Nat) (x : List Int) (k : Nat) (b : Book) (gA : Option Addr) (gc : Nat) (eA : Option Addr) (ec : Nat) (w : World) (hx : Ty.int.Sl w T A x) (hc : x.length ≤ maxLen) (hl : b.goods.length ≤ maxLen) (hk : Blk w k (b.cells gA gc eA ec) 25) :
  Calls Tryz.prog 171 #[.slice A x.length c, ptr k] w fun e w' => e = .returned (.bool (rowBad b x)) ∧ w.grownBy w' none := by
 refine s_enter (n := 15) Tryz.func171 rfl rfl rfl ?_
 have G := grown_refl w none
 refine s_rseq fun _ k1 => ?_
 refine o_v v_assign ?_
 refine o_end (k1 _ _ ?_)
 refine s_rseq fun _ k2 => ?_
 refine o_v v_move ?_
 refine o_v (v_len rfl Tryz.underlying56) ?_
 refine o_v (v_field (b := k) (o := 0) rfl fld25_0) ?_
 refine o_v (v_loadB rfl sc22 hk rfl) ?_
 refine o_v (v_len rfl Tryz.underlying22) ?_
 refine o_v (v_neq rfl rfl) ?_
 refine o_v v_move ?_
 refine o_mid (G := Unit) 4 (fun _ => [(14, .bool ((decide (¬ (x.length : Int) = b.goods.length)) || (x.any fun n => !b.isNum n)))]) [14] [11, 12, 13] (fun _ w' => w.grownBy w' none) (fun _ => rfl) ?_ ?_
 ·have H1 := grown_refl w none
  rcases Bool.eq_false_or_eq_true ((decide (¬ (x.length : Int) = b.goods.length))) with hX1 | hX1
  ·refine g_no rfl rfl rfl hX1 ?_
   refine g_no rfl rfl rfl hX1 ?_
   refine g_no rfl rfl rfl hX1 ?_
   refine o_v (v_pick_t rfl hX1) ?_
   refine o_end (mid () ?_ ?_ ?_)
   ·repeat (first | exact off_refl | refine off_cons rfl ?_)
   ·exact ⟨by rw [hX1]; rfl, trivial⟩
   ·exact H1
  ·refine g_yes rfl rfl rfl hX1 ?_
   refine o_v v_move ?_
   refine g_yes rfl rfl rfl hX1 ?_
   refine o_v v_func ?_
   refine g_yes rfl rfl rfl hX1 ?_
   refine o_call rfl rfl ent150 (f150_calls Ty.int rfl (fun n => !b.isNum n) A c x 172 [ptr k] _ hx hc ent172 (fun n v W _ hg hr => by obtain rfl : v = I n := List.cons.inj hr |>.1; exact f172_calls n k b gA gc eA ec W hl (hk.step0 hg))) ?_; rintro _ w1 ⟨rfl, g1⟩; refine ⟨_, rfl, ?_⟩
   replace G := G.step0 g1; replace hx := hx.step0 g1; replace hk := hk.step0 g1; replace H1 := H1.step0 g1
   refine o_v (v_pick_f rfl hX1) ?_
   refine o_end (mid () ?_ ?_ ?_)
   ·repeat (first | exact off_refl | refine off_cons rfl ?_)
   ·exact ⟨by rw [hX1]; rfl, trivial⟩
   ·exact H1
 ·rintro _ jv w2 g2
  replace G := G.step0 g2; replace hx := hx.step0 g2; replace hk := hk.step0 g2
  refine o_v v_assign ?_
  refine o_end (k2 _ _ ?_)
  refine s_ret (post1 rfl ?_)
  exact ⟨rfl, G⟩
theorem f127_calls {S T : Nat → Prop} (A : Option Addr) (c : Nat) (l : List (List Int)) (b : Book) (gA : Option Addr) (gc : Nat) (eA : Option Addr) (ec : Nat) (w : World) (hx : Ty.int.sl.Sl w T A l) (hc : l.length ≤ maxLen) (hl : b.goods.length ≤ maxLen) :
  Calls Tryz.prog 127 #[.agg (b.cells gA gc eA ec).toArray, .slice A l.length c] w fun e w' => e = .returned (.bool (meansB b l)) ∧ w.grownBy w' none := by
 refine s_enter (n := 16) Tryz.func127 rfl rfl rfl ?_
 have G := grown_refl w none
 refine s_rseq fun _ k1 => ?_
 refine o_box (t := 25) rfl ?_; intro w1 B2 g1 z1
 replace G := G.step0 g1; replace hx := hx.step0 g1
 refine o_v v_assign ?_
 refine o_end (k1 _ _ ?_)
 refine s_rseq fun _ k2 => ?_
 refine o_v v_move ?_
 refine o_v (v_len rfl Tryz.underlying33) ?_
 refine o_v (v_field rfl fld25_1) ?_
 refine o_v (v_loadB rfl sc3 B2 rfl) ?_
 refine o_v (v_eql rfl rfl) ?_
 refine o_v v_move ?_
 refine o_mid (G := Unit) 5 (fun _ => [(15, .bool ((decide ((l.length : Int) = b.ed)) && (!(l.any (rowBad b)))))]) [15] [11, 12, 13, 14] (fun _ w' => w1.grownBy w' none) (fun _ => rfl) ?_ ?_
 ·have H1 := grown_refl w1 none
  rcases Bool.eq_false_or_eq_true ((decide ((l.length : Int) = b.ed))) with hX1 | hX1
  ·refine g_yes rfl rfl rfl hX1 ?_
   refine o_v v_move ?_
   refine g_yes rfl rfl rfl hX1 ?_
   refine o_v v_func ?_
   refine g_yes rfl rfl rfl hX1 ?_
   refine o_call rfl rfl ent170 (f170_calls Ty.int.sl rfl (rowBad b) A c l 171 [ptr w.heap.size] _ hx hc ent171 (fun x v W _ hg hr => by obtain ⟨xA, xc, hv, h1, h2, h3⟩ := hr; obtain rfl : v = .slice xA x.length xc := List.cons.inj hv |>.1; exact f171_calls xA xc x _ b gA gc eA ec W h3 (Nat.le_trans h1 h2) hl (B2.step0 hg))) ?_; rintro _ w2 ⟨rfl, g2⟩; refine ⟨_, rfl, ?_⟩
   replace G := G.step0 g2; replace hx := hx.step0 g2; replace B2 := B2.step0 g2; replace H1 := H1.step0 g2
   refine g_yes rfl rfl rfl hX1 ?_
   refine o_v (v_not rfl) ?_
   refine o_v (v_pick_t rfl hX1) ?_
   refine o_end (mid () ?_ ?_ ?_)
   ·repeat (first | exact off_refl | refine off_cons rfl ?_)
   ·exact ⟨by rw [hX1]; rfl, trivial⟩
   ·exact H1
  ·refine g_no rfl rfl rfl hX1 ?_
   refine g_no rfl rfl rfl hX1 ?_
   refine g_no rfl rfl rfl hX1 ?_
   refine g_no rfl rfl rfl hX1 ?_
   refine o_v (v_pick_f rfl hX1) ?_
   refine o_end (mid () ?_ ?_ ?_)
   ·repeat (first | exact off_refl | refine off_cons rfl ?_)
   ·exact ⟨by rw [hX1]; rfl, trivial⟩
   ·exact H1
 ·rintro _ jv w3 g3
  replace G := G.step0 g3; replace hx := hx.step0 g3; replace B2 := B2.step0 g3
  refine o_v v_assign ?_
  refine o_end (k2 _ _ ?_)
  refine s_ret (post1 rfl ?_)
  exact ⟨rfl, G⟩
def fitsAt (b : Book) (ts : List (List Int)) (k : Nat) : Bool := suitsB b k (ts[k]?.getD []) && (decide (k = 0) || decide ((movesL (ts[k - 1]?.getD []) (ts[k]?.getD []) : Int) ≤ b.mv))
def fitsB (b : Book) (ts : List (List Int)) : Bool := (List.range ts.length).all (fitsAt b ts)
theorem Book.ok_goods {b : Book} (h : b.ok = true) : 2 ≤ b.goods.length ∧ b.goods.length ≤ 5 ∧ 1 ≤ b.ed ∧ b.ed ≤ 3 ∧ 0 ≤ b.mv ∧ b.mv ≤ 5 ∧ b.ents.length ≤ 8 ∧ (∀ x ∈ b.goods, 1 ≤ x ∧ x ≤ 99) ∧ ∀ x ∈ b.ents, (0 ≤ x.ed ∧ x.ed < b.ed) ∧ (0 ≤ x.num ∧ x.num < b.goods.length) ∧ 0 ≤ x.good ∧ x.good < b.goods.length := by
 simp only [Book.ok, Bool.and_eq_true, inB, decide_eq_true_eq, Bool.not_eq_true', List.any_eq_false, Bool.not_eq_true, Bool.not_eq_false] at h
 obtain ⟨⟨⟨⟨⟨h1, h2⟩, h3⟩, h4⟩, h5⟩, h6⟩ := h
 refine ⟨by omega, by omega, h2.1, h2.2, h3.1, h3.2, by omega, fun x hx => ?_, fun x hx => ?_⟩
 ·simpa using h5 x hx
 ·have := h6 x hx
  simp only [Book.badEnt, Book.isEd, Book.isNum, inB, Bool.or_eq_false_iff, Bool.not_eq_false', decide_eq_true_eq] at this
  omega
theorem meansB_rows {b : Book} {l : List (List Int)} (h : meansB b l = true) : (l.length : Int) = b.ed ∧ ∀ x ∈ l, x.length = b.goods.length ∧ ∀ n ∈ x, 0 ≤ n ∧ n < b.goods.length := by
 simp only [meansB, Bool.and_eq_true, decide_eq_true_eq, Bool.not_eq_true', List.any_eq_false, rowBad] at h
 refine ⟨h.1, fun x hx => ?_⟩
 have := h.2 x hx
 simp only [Bool.or_eq_true, decide_eq_true_eq, not_or, Decidable.not_not, List.any_eq_true, not_exists, not_and] at this
 refine ⟨by omega, fun n hn => ?_⟩
 have h2 := this.2 n hn
 simp only [Book.isNum, inB, Bool.not_eq_true', Bool.not_eq_false, decide_eq_false_iff_not, Decidable.not_not] at h2
 omega
theorem f68_calls {S T : Nat → Prop} (b : Book) (gA : Option Addr) (gc : Nat) (eA : Option Addr) (ec : Nat) (A : Option Addr) (c : Nat) (l : List (List Int)) (w : World) (hI : BookIn w S b gA gc eA ec) (hx : Ty.int.sl.Sl w T A l) (hc : l.length ≤ maxLen) :
  Calls Tryz.prog 68 #[.agg (b.cells gA gc eA ec).toArray, .agg #[.slice A l.length c]] w fun e w' => e = .returned (if b.ok && meansB b l then .tuple #[.bool (fitsB b l), I 0] else .tuple #[.bool false, I 2]) ∧ w.grownBy w' none := by
 rw [maxLen_val] at hc
 refine s_enter (n := 49) Tryz.func68 rfl rfl rfl ?_
 have G := grown_refl w none
 refine s_rseq fun _ k1 => ?_
 refine o_box (t := 25) rfl ?_; intro w1 B2 g1 z1
 replace G := G.step0 g1; replace hI := hI.step0 g1; replace hx := hx.step0 g1
 refine o_box (t := 49) rfl ?_; intro w2 B3 g2 z2
 replace G := G.step0 g2; replace hI := hI.step0 g2; replace hx := hx.step0 g2; replace B2 := B2.step0 g2
 refine o_v v_assign ?_
 refine o_v v_assign ?_
 refine o_end (k1 _ _ ?_)
 refine s_seq fun _ k2 => ?_
 refine s_rseq fun _ k3 => ?_
 refine o_v (v_loadBS rfl ag25 B2 rfl rfl) ?_
 refine o_call rfl rfl ent115 (f115_calls b gA gc eA ec _ hI) ?_; rintro _ w3 ⟨rfl, g3⟩; refine ⟨_, rfl, ?_⟩
 replace G := G.step0 g3; replace hI := hI.step0 g3; replace hx := hx.step0 g3; replace B2 := B2.step0 g3; replace B3 := B3.step0 g3
 refine o_v (v_not rfl) ?_
 refine o_v v_move ?_
 refine o_mid (G := Unit) 6 (fun _ => [(17, .bool ((!b.ok) || (!meansB b l)))]) [17] [12, 13, 14, 15, 16] (fun _ w' => w3.grownBy w' none) (fun _ => rfl) ?_ ?_
 ·have H1 := grown_refl w3 none
  rcases Bool.eq_false_or_eq_true ((!b.ok)) with hX1 | hX1
  ·refine g_no rfl rfl rfl hX1 ?_
   refine g_no rfl rfl rfl hX1 ?_
   refine g_no rfl rfl rfl hX1 ?_
   refine g_no rfl rfl rfl hX1 ?_
   refine g_no rfl rfl rfl hX1 ?_
   refine o_v (v_pick_t rfl hX1) ?_
   refine o_end (mid () ?_ ?_ ?_)
   ·repeat (first | exact off_refl | refine off_cons rfl ?_)
   ·exact ⟨by rw [hX1]; rfl, trivial⟩
   ·exact H1
  ·refine g_yes rfl rfl rfl hX1 ?_
   refine o_v (v_loadBS rfl ag25 B2 rfl rfl) ?_
   refine g_yes rfl rfl rfl hX1 ?_
   refine o_v (v_field rfl fld49_0) ?_
   refine g_yes rfl rfl rfl hX1 ?_
   refine o_v (v_loadB rfl sc33 B3 rfl) ?_
   refine g_yes rfl rfl rfl hX1 ?_
   refine o_call rfl rfl ent127 (f127_calls (S := S) A c l b gA gc eA ec _ hx hc (Nat.le_trans hI.gl.1 hI.gl.2)) ?_; rintro _ w4 ⟨rfl, g4⟩; refine ⟨_, rfl, ?_⟩
   replace G := G.step0 g4; replace hI := hI.step0 g4; replace hx := hx.step0 g4; replace B2 := B2.step0 g4; replace B3 := B3.step0 g4; replace H1 := H1.step0 g4
   refine g_yes rfl rfl rfl hX1 ?_
   refine o_v (v_not rfl) ?_
   refine o_v (v_pick_f rfl hX1) ?_
   refine o_end (mid () ?_ ?_ ?_)
   ·repeat (first | exact off_refl | refine off_cons rfl ?_)
   ·exact ⟨by rw [hX1]; rfl, trivial⟩
   ·exact H1
 ·rintro _ jv w5 g5
  replace G := G.step0 g5; replace hI := hI.step0 g5; replace hx := hx.step0 g5; replace B2 := B2.step0 g5; replace B3 := B3.step0 g5
  refine o_end (k3 _ _ ?_)
  refine s_if rfl (fun c3 => ?_) (fun c3 => ?_)
  ·refine s_rseq fun _ k4 => ?_
   refine o_v v_assign ?_
   refine o_v v_assign ?_
   refine o_end (k4 _ _ ?_)
   refine s_ret (post2 rfl ?_)
   have hbad : (b.ok && meansB b l) = false := by simp only [Bool.or_eq_true, Bool.not_eq_true'] at c3; rcases c3 with h | h <;> simp [h]
   exact ⟨by rw [hbad]; rfl, G⟩
  ·obtain ⟨hok, hme⟩ : b.ok = true ∧ meansB b l = true := by simp only [Bool.or_eq_false_iff, Bool.not_eq_false'] at c3; exact c3
   have hgd := Book.ok_goods hok
   obtain ⟨hml, hrow⟩ := meansB_rows hme
   have hgood : (b.ok && meansB b l) = true := by rw [hok, hme]; rfl
   refine s_skip ?_
   refine k2 _ _ ?_
   refine s_seq fun _ k5 => ?_
   refine s_rseq fun _ k6 => ?_
   refine o_v (v_field rfl fld49_0) ?_
   refine o_v (v_loadB rfl sc33 B3 rfl) ?_
   refine o_v (v_len rfl Tryz.underlying33) ?_
   refine o_v v_move ?_
   refine o_end (k6 _ _ ?_)
   refine s_block ?_
   refine s_loop (G := Nat) (fun g => [(21, I g)]) [21] [4, 5, 6, 7, 22, 23, 24, 25, 26, 27, 28, 29, 30, 31, 32, 33, 34, 35, 36, 37, 38, 39, 40, 41, 42, 43, 44, 45, 46, 47, 48] (fun g W => (g ≤ l.length ∧ ∀ i, i < g → fitsAt b l i = true) ∧ w5.grownBy W none) (fun g => l.length - g) (fun _ => rfl) 0 ⟨rfl, trivial⟩ ⟨⟨Nat.zero_le _, fun i h => by omega⟩, grown_refl _ _⟩ ?_
   rintro g jv w6 ⟨⟨hk, hno⟩, g6⟩
   replace G := G.step0 g6; replace hI := hI.step0 g6; replace hx := hx.step0 g6; replace B2 := B2.step0 g6; replace B3 := B3.step0 g6
   refine s_rseq fun _ k7 => ?_
   refine o_v (v_lss rfl rfl) ?_
   refine o_end (k7 _ _ ?_)
   refine s_seq fun _ k8 => ?_
   refine s_ifd rfl (fun c8 => ?_) (fun c8 => ?_)
   ·have hlt : g < l.length := by omega
    obtain ⟨b0, o0, cs0, rfl, hS0, ⟨xA, xc, rfl, hx1, hx2, hx3⟩, hr0⟩ := hx.get g hlt
    have hcell := hr0 0 _ rfl
    have hgx := hrow l[g] (List.getElem_mem hlt)
    refine s_skip ?_
    refine k8 _ _ ?_
    refine s_seq fun _ k9 => ?_
    refine s_block ?_
    refine s_rseq fun _ k10 => ?_
    refine o_v v_move ?_
    refine o_v (v_index rfl rfl slt33 (by omega)) ?_
    simp only [Ty.sl] at hcell
    refine o_v (v_loadC rfl sc56 hcell) ?_
    refine o_v v_assign ?_
    refine o_v v_assign ?_
    refine o_end (k10 _ _ ?_)
    refine s_seq fun _ k11 => ?_; refine s_quiet mixed (by kernel_rfl) ?_
    refine q_v (fun _ gq => v_loadBS rfl ag25 (B2.step0 gq) rfl rfl) ?_
    refine q_v (fun _ gq => v_move) ?_
    refine q_v (fun _ gq => v_move) ?_
    refine q_call rfl rfl ent128 (fun _ gq => by have := f128_calls b gA gc eA ec g xA xc l[g] _ (hI.step0 gq) (hx3.step0 gq) ⟨hx1, hx2⟩ (fun x hx => by have := (hgd.2.2.2.2.2.2.2.2 x hx).2.1; omega); exact this) ?_
    refine q_v (fun _ gq => v_not rfl) ?_
    refine q_v (fun _ gq => v_move) ?_
    refine q_mid (G := Unit) 16 (fun _ => [(47, .bool ((!suitsB b g l[g]) || ((decide ((0 : Int) < g)) && (decide (b.mv < (movesL l[g - 1] l[g] : Int))))))]) [47] [32, 33, 34, 35, 36, 37, 38, 39, 40, 41, 42, 43, 44, 45, 46] (fun _ => rfl) ?_ ?_
    ·rcases Bool.eq_false_or_eq_true ((!suitsB b g l[g])) with hX2 | hX2
     ·refine q_no rfl rfl rfl hX2 ?_
      refine q_no rfl rfl rfl hX2 ?_
      refine q_no rfl rfl rfl hX2 ?_
      refine q_un rfl rfl rfl ?_
      refine q_un rfl rfl rfl ?_
      refine q_un rfl rfl rfl ?_
      refine q_un rfl rfl rfl ?_
      refine q_un rfl rfl rfl ?_
      refine q_un rfl rfl rfl ?_
      refine q_un rfl rfl rfl ?_
      refine q_un rfl rfl rfl ?_
      refine q_un rfl rfl rfl ?_
      refine q_un rfl rfl rfl ?_
      refine q_un rfl rfl rfl ?_
      refine q_no rfl rfl rfl hX2 ?_
      refine q_v (fun _ gq => v_pick_t rfl hX2) ?_
      refine q_end (midq () ?_ ?_)
      ·repeat (first | exact off_refl | refine off_cons rfl ?_)
      ·exact ⟨by rw [hX2]; rfl, trivial⟩
     ·refine q_yes rfl rfl rfl hX2 ?_
      refine q_v (fun _ gq => v_move) ?_
      refine q_yes rfl rfl rfl hX2 ?_
      refine q_v (fun _ gq => v_gtr rfl rfl) ?_
      refine q_yes rfl rfl rfl hX2 ?_
      refine q_v (fun _ gq => v_move) ?_
      refine q_mid (G := Unit) 12 (fun _ => [(46, .bool ((decide ((0 : Int) < g)) && (decide (b.mv < (movesL l[g - 1] l[g] : Int)))))]) [46] [35, 36, 37, 38, 39, 40, 41, 42, 43, 44, 45] (fun _ => rfl) ?_ ?_
      ·rcases Bool.eq_false_or_eq_true ((decide ((0 : Int) < g))) with hX3 | hX3
       ·refine q_yes rfl rfl rfl hX3 ?_
        refine q_v (fun _ gq => v_field rfl fld49_0) ?_
        refine q_yes rfl rfl rfl hX3 ?_
        refine q_v (fun _ gq => v_loadB rfl sc33 (B3.step0 gq) rfl) ?_
        refine q_yes rfl rfl rfl hX3 ?_
        refine q_v (fun _ gq => v_move) ?_
        refine q_yes rfl rfl rfl hX3 ?_
        have hg0 : 0 < g := by simpa using hX3
        obtain ⟨b1, o1, cs1, hA1, hS1, ⟨yA, yc, rfl, hy1, hy2, hy3⟩, hr1⟩ := hx.get (g - 1) (by omega)
        injection hA1 with hA1; injection hA1 with hb1 ho1 _; subst hb1; subst ho1
        have hcell1 := hr1 0 _ rfl
        simp only [Ty.sl] at hcell1
        have hgx1 := hrow l[g - 1] (List.getElem_mem (by omega))
        have hidx : ((g : Int) - 1).toNat = g - 1 := by omega
        refine q_v (fun _ gq => v_sub rfl rfl (by omega)) ?_
        refine q_yes rfl rfl rfl hX3 ?_
        refine q_v (fun _ gq => v_index rfl rfl slt33 (by omega)) ?_
        refine q_yes rfl rfl rfl hX3 ?_
        refine q_v (fun _ gq => v_loadC rfl sc56 (by rw [hidx]; exact cell0 gq hcell1)) ?_
        refine q_yes rfl rfl rfl hX3 ?_
        refine q_v (fun _ gq => v_move) ?_
        refine q_yes rfl rfl rfl hX3 ?_
        refine q_call rfl rfl ent129 (fun _ gq => by have := f129_calls yA xA yc xc l[g - 1] l[g] _ (hy3.step0 gq) (hx3.step0 gq) (by rw [hgx.1, hgx1.1]) (Nat.le_trans hy1 hy2); exact this) ?_
        refine q_yes rfl rfl rfl hX3 ?_
        refine q_v (fun _ gq => v_field rfl fld25_2) ?_
        refine q_yes rfl rfl rfl hX3 ?_
        refine q_v (fun _ gq => v_loadB rfl sc3 (B2.step0 gq) rfl) ?_
        refine q_yes rfl rfl rfl hX3 ?_
        refine q_v (fun _ gq => v_gtr rfl rfl) ?_
        refine q_yes rfl rfl rfl hX2 ?_
        refine q_v (fun _ gq => v_pick_t rfl hX3) ?_
        refine q_end (midq () ?_ ?_)
        ·repeat (first | exact off_refl | refine off_cons rfl ?_)
        ·exact ⟨by rw [hX3]; rfl, trivial⟩
       ·refine q_no rfl rfl rfl hX3 ?_
        refine q_no rfl rfl rfl hX3 ?_
        refine q_no rfl rfl rfl hX3 ?_
        refine q_no rfl rfl rfl hX3 ?_
        refine q_no rfl rfl rfl hX3 ?_
        refine q_no rfl rfl rfl hX3 ?_
        refine q_no rfl rfl rfl hX3 ?_
        refine q_no rfl rfl rfl hX3 ?_
        refine q_no rfl rfl rfl hX3 ?_
        refine q_no rfl rfl rfl hX3 ?_
        refine q_no rfl rfl rfl hX3 ?_
        refine q_yes rfl rfl rfl hX2 ?_
        refine q_v (fun _ gq => v_pick_f rfl hX3) ?_
        refine q_end (midq () ?_ ?_)
        ·repeat (first | exact off_refl | refine off_cons rfl ?_)
        ·exact ⟨by rw [hX3]; rfl, trivial⟩
      ·rintro _ jv
       refine q_v (fun _ gq => v_pick_f rfl hX2) ?_
       refine q_end (midq () ?_ ?_)
       ·repeat (first | exact off_refl | refine off_cons rfl ?_)
       ·exact ⟨by rw [hX2]; rfl, trivial⟩
    ·rintro _ jv
     refine q_end (fun w9 g9 => k11 _ _ ?_)
     replace G := G.step0 g9; replace hI := hI.step0 g9; replace hx := hx.step0 g9; replace B2 := B2.step0 g9; replace B3 := B3.step0 g9; replace g6 := g6.step0 g9
     refine s_if rfl (fun c11 => ?_) (fun c11 => ?_)
     ·refine s_rseq fun _ k12 => ?_
      refine o_v v_assign ?_
      refine o_v v_assign ?_
      refine o_end (k12 _ _ ?_)
      refine s_ret (post2 rfl ?_)
      refine ⟨?_, G⟩
      have hf : fitsB b l = false := by
       rw [fitsB, List.all_eq_false]
       refine ⟨g, by simpa using hlt, ?_⟩
       simp only [fitsAt, List.getElem?_eq_getElem hlt, List.getElem?_eq_getElem (show g - 1 < l.length by omega), Option.getD_some, Bool.and_eq_true, Bool.or_eq_true, decide_eq_true_eq, not_and, not_or]
       simp only [Bool.or_eq_true, Bool.not_eq_true', Bool.and_eq_true, decide_eq_true_eq] at c11
       intro hs
       rw [hs] at c11
       simp at c11
       omega
      rw [hgood, hf]; rfl
     ·refine s_skip ?_
      refine k9 _ _ ?_
      refine s_region ?_
      refine o_v (v_add rfl rfl (by omega)) ?_
      refine o_v v_move ?_
      refine o_end ?_
      refine mid (g + 1) ?_ ?_ ?_
      ·repeat (first | exact off_refl | refine off_cons rfl ?_)
      ·exact ⟨rfl, trivial⟩
      ·exact ⟨⟨⟨hlt, fun i h => by
   rcases Nat.lt_or_ge i g with h' | h'
   ·exact hno i h'
   ·obtain rfl : i = g := by omega
    simp only [fitsAt, List.getElem?_eq_getElem hlt, List.getElem?_eq_getElem (show i - 1 < l.length by omega), Option.getD_some, Bool.and_eq_true, Bool.or_eq_true, decide_eq_true_eq]
    simp only [Bool.or_eq_false_iff, Bool.not_eq_false', Bool.and_eq_false_iff, decide_eq_false_iff_not] at c11
    refine ⟨c11.1, ?_⟩
    rcases c11.2 with h | h
    ·exact .inl (by omega)
    ·exact .inr (by omega)⟩, g6⟩, by omega⟩
   ·refine s_exit ?_
    refine k5 _ _ ?_
    refine s_rseq fun _ k13 => ?_
    refine o_v v_assign ?_
    refine o_v v_assign ?_
    refine o_end (k13 _ _ ?_)
    refine s_ret (post2 rfl ?_)
    refine ⟨?_, G⟩
    have hf : fitsB b l = true := by
     rw [fitsB, List.all_eq_true]
     intro i hi
     exact hno i (by rw [List.mem_range] at hi; omega)
    rw [hgood, hf]; rfl
end Go.Proofs.NV
