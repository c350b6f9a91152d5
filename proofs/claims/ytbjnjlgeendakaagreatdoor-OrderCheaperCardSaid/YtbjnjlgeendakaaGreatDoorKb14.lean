/- Part of the proof: has; isBuyer; wrong; reads.. A range over an iterator whose variable lies in a new cell each round.. letters.. -/
import Derived.Test.YtbjnjlgeendakaaGreatDoorKb13
import Derived.Test.YtbjnjlgeendakaaGreatDoorKb8
set_option linter.unusedVariables false
set_option maxRecDepth 100000
set_option maxHeartbeats 8000000
set_option linter.unusedSimpArgs false
namespace Go.Proofs.NV
open Go.RowKit Go.Shelf
attribute [local irreducible] bodyPost bodyPostM wpQuiet
structure Letter where
 num : Int
 lo : Int
 hi : Int
 many : Int
abbrev Letter.cells (l : Letter) : List Value := [I l.num, I l.lo, I l.hi, I l.many]
def letT : Ty Letter := Ty.flat 4 (by decide) Letter.cells (fun _ => rfl) (fun x u hu => by simp only [List.mem_cons, List.not_mem_nil, or_false] at hu; rcases hu with rfl | rfl | rfl | rfl <;> rfl)
structure Buyer where
 eds : Int
 lets : List Letter
abbrev Buyer.cells (x : Buyer) (lA : Option Addr) (lc : Nat) : List Value := [I x.eds, .slice lA x.lets.length lc]
structure BuyIn (w : World) (S : Nat → Prop) (x : Buyer) (lA : Option Addr) (lc : Nat) : Prop where
 lets : letT.Sl w S lA x.lets
 ll : x.lets.length ≤ lc ∧ lc ≤ maxLen
theorem BuyIn.step0 {w w' : World} {S : Nat → Prop} {x : Buyer} {lA : Option Addr} {lc : Nat} (h : BuyIn w S x lA lc) (hg : w.grownBy w' none) : BuyIn w' S x lA lc := ⟨h.lets.step0 hg, h.ll⟩
def hasB (set n : Int) : Bool := decide (set / 2 ^ n.toNat % 2 = 1)
theorem shr_div (a : Int) (n : Nat) (h : 0 ≤ a) : a.fdiv (2 ^ n) = a / 2 ^ n := Int.fdiv_eq_ediv_of_nonneg _ (by exact Int.le_of_lt (Int.pow_pos (by decide)))
theorem div_pow_le (a : Int) (n : Nat) (h : 0 ≤ a) : 0 ≤ a / 2 ^ n ∧ a / 2 ^ n ≤ a := ⟨Int.ediv_nonneg h (Int.le_of_lt (Int.pow_pos (by decide))), Int.ediv_le_self _ h⟩
theorem f143_calls (set n : Int) (w : World) (hs : 0 ≤ set ∧ set ≤ 9223372036854775807) (hn : 0 ≤ n ∧ n ≤ 60) :
  Calls Tryz.prog 143 #[I set, I n] w fun e w' => e = .returned (.bool (hasB set n)) ∧ w.grownBy w' none := by
 refine s_enter (n := 10) Tryz.func143 rfl rfl rfl ?_
 have G := grown_refl w none
 refine s_rseq fun _ k1 => ?_
 refine o_v v_assign ?_
 refine o_end (k1 _ _ ?_)
 refine s_rseq fun _ k2 => ?_
 refine o_v v_move ?_
 refine o_v v_move ?_
 refine o_v (v_shr rfl rfl (by omega)) ?_
 have hmin : min n.toNat IntKind.i64.bits = n.toNat := Nat.min_eq_left (by have : IntKind.i64.bits = 64 := rfl; omega)
 rw [hmin, shr_div _ _ hs.1]
 have hdv := div_pow_le set n.toNat hs.1
 refine o_v (v_and1 rfl rfl (by omega)) ?_
 refine o_v (v_eql rfl rfl) ?_
 refine o_v v_assign ?_
 refine o_end (k2 _ _ ?_)
 refine s_ret (post1 rfl ?_)
 exact ⟨rfl, G⟩
def Book.badLet (b : Book) (l : Letter) : Bool := ((((!b.isNum l.num) || decide (l.lo < 1)) || decide (l.hi < l.lo)) || decide (99 < l.hi)) || (!inB l.many 0 1000)
def Book.isBuy (b : Book) (x : Buyer) : Bool := ((b.ok && inB x.eds 1 (2 ^ b.ed.toNat - 1)) && inB x.lets.length 1 4) && (!x.lets.any b.badLet)
theorem shl_one (n : Int) (h : 1 ≤ n ∧ n ≤ 3) : IntKind.i64.wrap (1 * 2 ^ min n.toNat IntKind.i64.bits) = 2 ^ n.toNat ∧ (2 : Int) ^ n.toNat ≤ 8 ∧ 2 ≤ (2 : Int) ^ n.toNat := by
 have : n = 1 ∨ n = 2 ∨ n = 3 := by omega
 rcases this with rfl | rfl | rfl <;> decide
theorem f141_calls (l : Letter) (k : Nat) (b : Book) (gA : Option Addr) (gc : Nat) (eA : Option Addr) (ec : Nat) (w : World) (hl : b.goods.length ≤ maxLen) (hk : Blk w k (b.cells gA gc eA ec) 25) :
  Calls Tryz.prog 141 #[.agg l.cells.toArray, ptr k] w fun e w' => e = .returned (.bool (b.badLet l)) ∧ w.grownBy w' none := by
 refine s_enter (n := 36) Tryz.func141 rfl rfl rfl ?_
 have G := grown_refl w none
 refine s_rseq fun _ k1 => ?_
 refine o_box (t := 67) rfl ?_; intro w1 B2 g1 z1
 replace G := G.step0 g1; replace hk := hk.step0 g1
 refine o_v v_assign ?_
 refine o_end (k1 _ _ ?_)
 refine s_rseq fun _ k2 => ?_
 refine o_v (v_loadBS rfl ag25 hk rfl rfl) ?_
 refine o_v (v_field rfl fld67_0) ?_
 refine o_v (v_loadB rfl sc3 B2 rfl) ?_
 refine o_call rfl rfl ent93 (f93_calls b gA gc eA ec _ _ hl) ?_; rintro _ w2 ⟨rfl, g2⟩; refine ⟨_, rfl, ?_⟩
 replace G := G.step0 g2; replace hk := hk.step0 g2; replace B2 := B2.step0 g2
 refine o_v (v_not rfl) ?_
 refine o_v v_move ?_
 refine o_mid (G := Unit) 5 (fun _ => [(14, .bool ((!b.isNum l.num) || decide (l.lo < 1)))]) [14] [10, 11, 12, 13] (fun _ w' => w2.grownBy w' none) (fun _ => rfl) ?_ ?_
 ·have H1 := grown_refl w2 none
  rcases Bool.eq_false_or_eq_true ((!b.isNum l.num)) with hX1 | hX1
  ·refine g_no rfl rfl rfl hX1 ?_
   refine g_no rfl rfl rfl hX1 ?_
   refine g_no rfl rfl rfl hX1 ?_
   refine g_no rfl rfl rfl hX1 ?_
   refine o_v (v_pick_t rfl hX1) ?_
   refine o_end (mid () ?_ ?_ ?_)
   ·repeat (first | exact off_refl | refine off_cons rfl ?_)
   ·exact ⟨by rw [hX1]; rfl, trivial⟩
   ·exact H1
  ·refine g_yes rfl rfl rfl hX1 ?_
   refine o_v (v_field rfl fld67_1) ?_
   refine g_yes rfl rfl rfl hX1 ?_
   refine o_v (v_field rfl fld65_0) ?_
   refine g_yes rfl rfl rfl hX1 ?_
   refine o_v (v_loadB rfl sc3 B2 rfl) ?_
   refine g_yes rfl rfl rfl hX1 ?_
   refine o_v (v_lss rfl rfl) ?_
   refine o_v (v_pick_f rfl hX1) ?_
   refine o_end (mid () ?_ ?_ ?_)
   ·repeat (first | exact off_refl | refine off_cons rfl ?_)
   ·exact ⟨by rw [hX1]; rfl, trivial⟩
   ·exact H1
 ·rintro _ jv w3 g3
  replace G := G.step0 g3; replace hk := hk.step0 g3; replace B2 := B2.step0 g3
  refine o_v v_move ?_
  refine o_mid (G := Unit) 8 (fun _ => [(23, .bool (((!b.isNum l.num) || decide (l.lo < 1)) || decide (l.hi < l.lo)))]) [23] [16, 17, 18, 19, 20, 21, 22] (fun _ w' => w3.grownBy w' none) (fun _ => rfl) ?_ ?_
  ·have H2 := grown_refl w3 none
   rcases Bool.eq_false_or_eq_true (((!b.isNum l.num) || decide (l.lo < 1))) with hX2 | hX2
   ·refine g_no rfl rfl rfl hX2 ?_
    refine g_no rfl rfl rfl hX2 ?_
    refine g_no rfl rfl rfl hX2 ?_
    refine g_no rfl rfl rfl hX2 ?_
    refine g_no rfl rfl rfl hX2 ?_
    refine g_no rfl rfl rfl hX2 ?_
    refine g_no rfl rfl rfl hX2 ?_
    refine o_v (v_pick_t rfl hX2) ?_
    refine o_end (mid () ?_ ?_ ?_)
    ·repeat (first | exact off_refl | refine off_cons rfl ?_)
    ·exact ⟨by rw [hX2]; rfl, trivial⟩
    ·exact H2
   ·refine g_yes rfl rfl rfl hX2 ?_
    refine o_v (v_field rfl fld67_1) ?_
    refine g_yes rfl rfl rfl hX2 ?_
    refine o_v (v_field rfl fld65_0) ?_
    refine g_yes rfl rfl rfl hX2 ?_
    refine o_v (v_loadB rfl sc3 B2 rfl) ?_
    refine g_yes rfl rfl rfl hX2 ?_
    refine o_v (v_field rfl fld67_1) ?_
    refine g_yes rfl rfl rfl hX2 ?_
    refine o_v (v_field rfl fld65_1) ?_
    refine g_yes rfl rfl rfl hX2 ?_
    refine o_v (v_loadB rfl sc3 B2 rfl) ?_
    refine g_yes rfl rfl rfl hX2 ?_
    refine o_v (v_gtr rfl rfl) ?_
    refine o_v (v_pick_f rfl hX2) ?_
    refine o_end (mid () ?_ ?_ ?_)
    ·repeat (first | exact off_refl | refine off_cons rfl ?_)
    ·exact ⟨by rw [hX2]; rfl, trivial⟩
    ·exact H2
  ·rintro _ jv w4 g4
   replace G := G.step0 g4; replace hk := hk.step0 g4; replace B2 := B2.step0 g4
   refine o_v v_move ?_
   refine o_mid (G := Unit) 5 (fun _ => [(29, .bool ((((!b.isNum l.num) || decide (l.lo < 1)) || decide (l.hi < l.lo)) || decide (99 < l.hi)))]) [29] [25, 26, 27, 28] (fun _ w' => w4.grownBy w' none) (fun _ => rfl) ?_ ?_
   ·have H3 := grown_refl w4 none
    rcases Bool.eq_false_or_eq_true ((((!b.isNum l.num) || decide (l.lo < 1)) || decide (l.hi < l.lo))) with hX3 | hX3
    ·refine g_no rfl rfl rfl hX3 ?_
     refine g_no rfl rfl rfl hX3 ?_
     refine g_no rfl rfl rfl hX3 ?_
     refine g_no rfl rfl rfl hX3 ?_
     refine o_v (v_pick_t rfl hX3) ?_
     refine o_end (mid () ?_ ?_ ?_)
     ·repeat (first | exact off_refl | refine off_cons rfl ?_)
     ·exact ⟨by rw [hX3]; rfl, trivial⟩
     ·exact H3
    ·refine g_yes rfl rfl rfl hX3 ?_
     refine o_v (v_field rfl fld67_1) ?_
     refine g_yes rfl rfl rfl hX3 ?_
     refine o_v (v_field rfl fld65_1) ?_
     refine g_yes rfl rfl rfl hX3 ?_
     refine o_v (v_loadB rfl sc3 B2 rfl) ?_
     refine g_yes rfl rfl rfl hX3 ?_
     refine o_v (v_gtr rfl rfl) ?_
     refine o_v (v_pick_f rfl hX3) ?_
     refine o_end (mid () ?_ ?_ ?_)
     ·repeat (first | exact off_refl | refine off_cons rfl ?_)
     ·exact ⟨by rw [hX3]; rfl, trivial⟩
     ·exact H3
   ·rintro _ jv w5 g5
    replace G := G.step0 g5; replace hk := hk.step0 g5; replace B2 := B2.step0 g5
    refine o_v v_move ?_
    refine o_mid (G := Unit) 5 (fun _ => [(35, .bool (((((!b.isNum l.num) || decide (l.lo < 1)) || decide (l.hi < l.lo)) || decide (99 < l.hi)) || (!inB l.many 0 1000)))]) [35] [31, 32, 33, 34] (fun _ w' => w5.grownBy w' none) (fun _ => rfl) ?_ ?_
    ·have H4 := grown_refl w5 none
     rcases Bool.eq_false_or_eq_true (((((!b.isNum l.num) || decide (l.lo < 1)) || decide (l.hi < l.lo)) || decide (99 < l.hi))) with hX4 | hX4
     ·refine g_no rfl rfl rfl hX4 ?_
      refine g_no rfl rfl rfl hX4 ?_
      refine g_no rfl rfl rfl hX4 ?_
      refine g_no rfl rfl rfl hX4 ?_
      refine o_v (v_pick_t rfl hX4) ?_
      refine o_end (mid () ?_ ?_ ?_)
      ·repeat (first | exact off_refl | refine off_cons rfl ?_)
      ·exact ⟨by rw [hX4]; rfl, trivial⟩
      ·exact H4
     ·refine g_yes rfl rfl rfl hX4 ?_
      refine o_v (v_field rfl fld67_2) ?_
      refine g_yes rfl rfl rfl hX4 ?_
      refine o_v (v_loadB rfl sc3 B2 rfl) ?_
      refine g_yes rfl rfl rfl hX4 ?_
      refine o_call rfl rfl ent100 (f100_calls _ _ _ _) ?_; rintro _ w6 ⟨rfl, g6⟩; refine ⟨_, rfl, ?_⟩
      replace G := G.step0 g6; replace hk := hk.step0 g6; replace B2 := B2.step0 g6; replace H4 := H4.step0 g6
      refine g_yes rfl rfl rfl hX4 ?_
      refine o_v (v_not rfl) ?_
      refine o_v (v_pick_f rfl hX4) ?_
      refine o_end (mid () ?_ ?_ ?_)
      ·repeat (first | exact off_refl | refine off_cons rfl ?_)
      ·exact ⟨by rw [hX4]; rfl, trivial⟩
      ·exact H4
    ·rintro _ jv w7 g7
     replace G := G.step0 g7; replace hk := hk.step0 g7; replace B2 := B2.step0 g7
     refine o_v v_assign ?_
     refine o_end (k2 _ _ ?_)
     refine s_ret (post1 rfl ?_)
     exact ⟨rfl, G⟩
theorem f94_calls {S T : Nat → Prop} (b : Book) (gA : Option Addr) (gc : Nat) (eA : Option Addr) (ec : Nat) (x : Buyer) (lA : Option Addr) (lc : Nat) (w : World) (hI : BookIn w S b gA gc eA ec) (hX : BuyIn w T x lA lc) :
  Calls Tryz.prog 94 #[.agg (b.cells gA gc eA ec).toArray, .agg (x.cells lA lc).toArray] w fun e w' => e = .returned (.bool (b.isBuy x)) ∧ w.grownBy w' none := by
 refine s_enter (n := 29) Tryz.func94 rfl rfl rfl ?_
 have G := grown_refl w none
 refine s_rseq fun _ k1 => ?_
 refine o_box (t := 25) rfl ?_; intro w1 B2 g1 z1
 replace G := G.step0 g1; replace hI := hI.step0 g1; replace hX := hX.step0 g1
 refine o_box (t := 47) rfl ?_; intro w2 B3 g2 z2
 replace G := G.step0 g2; replace hI := hI.step0 g2; replace hX := hX.step0 g2; replace B2 := B2.step0 g2
 refine o_v v_assign ?_
 refine o_end (k1 _ _ ?_)
 refine s_seq fun _ k2 => ?_; refine s_quiet mixed (by kernel_rfl) ?_
 refine q_v (fun _ gq => v_loadBS rfl ag25 (B2.step0 gq) rfl rfl) ?_
 refine q_call rfl rfl ent115 (fun wq gq => by have := f115_calls b gA gc eA ec wq (hI.step0 gq); exact this) ?_
 refine q_v (fun _ gq => v_move) ?_
 refine q_mid (G := Unit) 8 (fun _ => [(15, .bool (b.ok && inB x.eds 1 (2 ^ b.ed.toNat - 1)))]) [15] [8, 9, 10, 11, 12, 13, 14] (fun _ => rfl) ?_ ?_
 ·rcases Bool.eq_false_or_eq_true (b.ok) with hX1 | hX1
  ·have hgd := Book.ok_goods hX1
   have hsh := shl_one b.ed (by omega)
   refine q_yes rfl rfl rfl hX1 ?_
   refine q_v (fun _ gq => v_field rfl fld47_0) ?_
   refine q_yes rfl rfl rfl hX1 ?_
   refine q_v (fun _ gq => v_loadB rfl sc3 (B3.step0 gq) rfl) ?_
   refine q_yes rfl rfl rfl hX1 ?_
   refine q_v (fun _ gq => v_field rfl fld25_1) ?_
   refine q_yes rfl rfl rfl hX1 ?_
   refine q_v (fun _ gq => v_loadB rfl sc3 (B2.step0 gq) rfl) ?_
   refine q_yes rfl rfl rfl hX1 ?_
   refine q_v (fun _ gq => v_shl rfl rfl (by omega)) ?_
   rw [hsh.1]
   refine q_yes rfl rfl rfl hX1 ?_
   refine q_v (fun _ gq => v_sub rfl rfl (by omega)) ?_
   refine q_yes rfl rfl rfl hX1 ?_
   refine q_call rfl rfl ent100 (fun wq gq => by have := f100_calls x.eds 1 (2 ^ b.ed.toNat - 1) wq; exact this) ?_
   refine q_v (fun _ gq => v_pick_t rfl hX1) ?_
   refine q_end (midq () ?_ ?_)
   ·repeat (first | exact off_refl | refine off_cons rfl ?_)
   ·exact ⟨by rw [hX1]; rfl, trivial⟩
  ·refine q_no rfl rfl rfl hX1 ?_
   refine q_no rfl rfl rfl hX1 ?_
   refine q_no rfl rfl rfl hX1 ?_
   refine q_no rfl rfl rfl hX1 ?_
   refine q_no rfl rfl rfl hX1 ?_
   refine q_no rfl rfl rfl hX1 ?_
   refine q_no rfl rfl rfl hX1 ?_
   refine q_v (fun _ gq => v_pick_f rfl hX1) ?_
   refine q_end (midq () ?_ ?_)
   ·repeat (first | exact off_refl | refine off_cons rfl ?_)
   ·exact ⟨by rw [hX1]; rfl, trivial⟩
 ·rintro _ jv
  refine q_v (fun _ gq => v_move) ?_
  refine q_mid (G := Unit) 5 (fun _ => [(21, .bool ((b.ok && inB x.eds 1 (2 ^ b.ed.toNat - 1)) && inB x.lets.length 1 4))]) [21] [17, 18, 19, 20] (fun _ => rfl) ?_ ?_
  ·rcases Bool.eq_false_or_eq_true ((b.ok && inB x.eds 1 (2 ^ b.ed.toNat - 1))) with hX2 | hX2
   ·refine q_yes rfl rfl rfl hX2 ?_
    refine q_v (fun _ gq => v_field rfl fld47_1) ?_
    refine q_yes rfl rfl rfl hX2 ?_
    refine q_v (fun _ gq => v_loadB rfl sc45 (B3.step0 gq) rfl) ?_
    refine q_yes rfl rfl rfl hX2 ?_
    refine q_v (fun _ gq => v_len rfl Tryz.underlying45) ?_
    refine q_yes rfl rfl rfl hX2 ?_
    refine q_call rfl rfl ent100 (fun wq gq => by have := f100_calls x.lets.length 1 4 wq; exact this) ?_
    refine q_v (fun _ gq => v_pick_t rfl hX2) ?_
    refine q_end (midq () ?_ ?_)
    ·repeat (first | exact off_refl | refine off_cons rfl ?_)
    ·exact ⟨by rw [hX2]; rfl, trivial⟩
   ·refine q_no rfl rfl rfl hX2 ?_
    refine q_no rfl rfl rfl hX2 ?_
    refine q_no rfl rfl rfl hX2 ?_
    refine q_no rfl rfl rfl hX2 ?_
    refine q_v (fun _ gq => v_pick_f rfl hX2) ?_
    refine q_end (midq () ?_ ?_)
    ·repeat (first | exact off_refl | refine off_cons rfl ?_)
    ·exact ⟨by rw [hX2]; rfl, trivial⟩
  ·rintro _ jv
   refine q_v (fun _ gq => v_move) ?_
   refine q_mid (G := Unit) 6 (fun _ => [(28, .bool (((b.ok && inB x.eds 1 (2 ^ b.ed.toNat - 1)) && inB x.lets.length 1 4) && (!x.lets.any b.badLet)))]) [28] [23, 24, 25, 26, 27] (fun _ => rfl) ?_ ?_
   ·rcases Bool.eq_false_or_eq_true (((b.ok && inB x.eds 1 (2 ^ b.ed.toNat - 1)) && inB x.lets.length 1 4)) with hX3 | hX3
    ·refine q_yes rfl rfl rfl hX3 ?_
     refine q_v (fun _ gq => v_field rfl fld47_1) ?_
     refine q_yes rfl rfl rfl hX3 ?_
     refine q_v (fun _ gq => v_loadB rfl sc45 (B3.step0 gq) rfl) ?_
     refine q_yes rfl rfl rfl hX3 ?_
     refine q_v (fun _ gq => v_func) ?_
     refine q_yes rfl rfl rfl hX3 ?_
     refine q_call rfl rfl ent140 (fun wq gq => by have := f140_calls letT rfl b.badLet lA lc x.lets 141 [ptr w.heap.size] wq (hX.lets.step0 gq) (by have := hX.ll; rw [maxLen_val] at this; omega) ent141 (fun y cs W hy hg hrep => by obtain rfl : cs = y.cells := hrep; have := f141_calls y w.heap.size b gA gc eA ec W (Nat.le_trans hI.gl.1 hI.gl.2) ((B2.step0 gq).step0 hg); exact this); exact this) ?_
     refine q_yes rfl rfl rfl hX3 ?_
     refine q_v (fun _ gq => v_not rfl) ?_
     refine q_v (fun _ gq => v_pick_t rfl hX3) ?_
     refine q_end (midq () ?_ ?_)
     ·repeat (first | exact off_refl | refine off_cons rfl ?_)
     ·exact ⟨by rw [hX3]; rfl, trivial⟩
    ·refine q_no rfl rfl rfl hX3 ?_
     refine q_no rfl rfl rfl hX3 ?_
     refine q_no rfl rfl rfl hX3 ?_
     refine q_no rfl rfl rfl hX3 ?_
     refine q_no rfl rfl rfl hX3 ?_
     refine q_v (fun _ gq => v_pick_f rfl hX3) ?_
     refine q_end (midq () ?_ ?_)
     ·repeat (first | exact off_refl | refine off_cons rfl ?_)
     ·exact ⟨by rw [hX3]; rfl, trivial⟩
   ·rintro _ jv
    refine q_v (fun _ gq => v_assign) ?_
    refine q_end (fun w7 g7 => k2 _ _ ?_)
    replace G := G.step0 g7; replace hI := hI.step0 g7; replace hX := hX.step0 g7; replace B2 := B2.step0 g7; replace B3 := B3.step0 g7
    refine s_ret (post1 rfl ?_)
    exact ⟨rfl, G⟩
def fitL (b : Book) (m : List Int) (l : Letter) : Bool := inB (b.goods[(m[l.num.toNat]?.getD 0).toNat]?.getD 0) l.lo l.hi
def wrongTo (b : Book) (m : List Int) (ls : List Letter) (k : Nat) : List Int := ((List.range k).filter fun i => !((ls[i]?).map (fitL b m)).getD true).map fun i : Nat => (i : Int)
def wrongL (b : Book) (m : List Int) (ls : List Letter) : List Int := wrongTo b m ls ls.length
theorem wrongTo_succ (b : Book) (m : List Int) (ls : List Letter) (k : Nat) (h : k < ls.length) : wrongTo b m ls (k + 1) = wrongTo b m ls k ++ if fitL b m ls[k] then [] else [(k : Int)] := by
 unfold wrongTo
 rw [List.range_succ, List.filter_append, List.map_append]
 congr 1
 by_cases hf : fitL b m ls[k] = true <;> simp [h, hf]
theorem wrongTo_len (b : Book) (m : List Int) (ls : List Letter) (k : Nat) : (wrongTo b m ls k).length ≤ k := by
 unfold wrongTo
 rw [List.length_map]
 exact Nat.le_trans (List.length_filter_le _ _) (by simp)
theorem f96_calls {S T V : Nat → Prop} (b : Book) (gA : Option Addr) (gc : Nat) (eA : Option Addr) (ec : Nat) (pv : Value) (x : Buyer) (lA : Option Addr) (lc : Nat) (e : Int) (mA : Option Addr) (m : List Int) (mc : Nat) (w : World) (hpv : pv.oneCell' = true)
  (hG : Ty.int.Sl w S gA b.goods) (hX : BuyIn w T x lA lc) (hM : Ty.int.Sl w V mA m) (hn : ∀ l ∈ x.lets, 0 ≤ l.num ∧ l.num < m.length) (hm : ∀ y ∈ m, 0 ≤ y ∧ y < b.goods.length) (hll : x.lets.length ≤ 1000) (hS : b.goods.length ≤ gc) (hSS : m.length ≤ mc) :
  Calls Tryz.prog 96 #[.agg (b.cells gA gc eA ec ++ [pv]).toArray, .agg (x.cells lA lc).toArray, .agg #[I e, .slice mA m.length mc]] w fun e w' => ∃ v, e = .returned v ∧ Ty.int.Row 3 w' (fun k => w.heap.size ≤ k) v (wrongL b m x.lets) ∧ w.grownBy w' none := by
 refine s_enter (n := 40) Tryz.func96 rfl rfl rfl ?_
 have G := grown_refl w none
 refine s_rseq fun _ k1 => ?_
 refine o_box (t := 130) rfl ?_; intro w1 B3 g1 z1
 replace G := G.step0 g1; replace hG := hG.step0 g1; replace hX := hX.step0 g1; replace hM := hM.step0 g1
 refine o_box (t := 47) rfl ?_; intro w2 B4 g2 z2
 replace G := G.step0 g2; replace hG := hG.step0 g2; replace hX := hX.step0 g2; replace hM := hM.step0 g2; replace B3 := B3.step0 g2
 refine o_box (t := 155) rfl ?_; intro w3 B5 g3 z3
 replace G := G.step0 g3; replace hG := hG.step0 g3; replace hX := hX.step0 g3; replace hM := hM.step0 g3; replace B3 := B3.step0 g3; replace B4 := B4.step0 g3
 refine o_v v_assign ?_
 refine o_end (k1 _ _ ?_)
 refine s_rseq fun _ k2 => ?_
 refine o_v v_assign ?_
 refine o_end (k2 _ _ ?_)
 refine s_seq fun _ k3 => ?_
 refine s_rseq fun _ k4 => ?_
 refine o_v (v_field rfl fld47_1) ?_
 refine o_v (v_loadB rfl sc45 B4 rfl) ?_
 refine o_v (v_len rfl Tryz.underlying45) ?_
 refine o_v v_move ?_
 refine o_end (k4 _ _ ?_)
 refine s_block ?_
 refine s_loop (G := Nat × Value) (fun g => [(7, g.2), (13, I g.1)]) [7, 13] [8, 9, 14, 15, 16, 17, 18, 19, 20, 21, 22, 23, 24, 25, 26, 27, 28, 29, 30, 31, 32, 33, 34, 35, 36, 37, 38] (fun g W => (g.1 ≤ x.lets.length ∧ Ty.int.Row 3 W (fun k => w3.heap.size ≤ k) g.2 (wrongTo b m x.lets g.1)) ∧ w3.grownBy W none) (fun g => x.lets.length - g.1) (fun _ => rfl) (0, .slice none 0 0) ⟨rfl, rfl, trivial⟩ ⟨⟨Nat.zero_le _, Ty.Row.nil _ _ _ _⟩, grown_refl _ _⟩ ?_
 rintro ⟨g, out⟩ jv w4 ⟨⟨hk, hrow⟩, g4⟩
 simp only at hk hrow ⊢
 replace G := G.step0 g4; replace hG := hG.step0 g4; replace hX := hX.step0 g4; replace hM := hM.step0 g4; replace B3 := B3.step0 g4; replace B4 := B4.step0 g4; replace B5 := B5.step0 g4
 refine s_rseq fun _ k5 => ?_
 refine o_v (v_lss rfl rfl) ?_
 refine o_end (k5 _ _ ?_)
 refine s_seq fun _ k6 => ?_
 refine s_ifd rfl (fun c6 => ?_) (fun c6 => ?_)
 ·have hlt : g < x.lets.length := by omega
  obtain ⟨bl, ol, cl, rfl, _, hrepl, hrgl⟩ := hX.lets.get g hlt
  obtain rfl : cl = x.lets[g].cells := hrepl
  rw [show letT.sz = 4 from rfl] at hrgl
  have hnum := hn _ (List.getElem_mem hlt)
  obtain ⟨ll, hlle⟩ : ∃ ll, ll = x.lets[g] := ⟨_, rfl⟩
  rw [← hlle] at hrgl hnum
  obtain ⟨bm, om, rfl, hcm⟩ := hM.int ll.num.toNat (by omega)
  have hgr := hm _ (List.getElem_mem (show ll.num.toNat < m.length by omega))
  obtain ⟨mv, hmve⟩ : ∃ mv, mv = m[ll.num.toNat]'(by omega) := ⟨_, rfl⟩
  rw [← hmve] at hcm hgr
  obtain ⟨bg, og, rfl, hcg⟩ := hG.int mv.toNat (by omega)
  obtain ⟨gv, hgve⟩ : ∃ gv, gv = b.goods[mv.toNat]'(by omega) := ⟨_, rfl⟩
  rw [← hgve] at hcg
  have hfit : fitL b m x.lets[g] = inB gv ll.lo ll.hi := by
   unfold fitL
   rw [← hlle, List.getElem?_eq_getElem (show ll.num.toNat < m.length by omega), Option.getD_some, ← hmve, List.getElem?_eq_getElem (show mv.toNat < b.goods.length by omega), Option.getD_some, ← hgve]
  have hwl := wrongTo_len b m x.lets g
  refine s_skip ?_
  refine k6 _ _ ?_
  refine s_seq fun _ k7 => ?_
  refine s_block ?_
  refine s_rseq fun _ k8 => ?_
  refine o_v v_move ?_
  refine o_v (v_index rfl rfl slt45 (by omega)) ?_
  refine o_v (v_loadR rfl ag67 hrgl rfl) ?_
  refine o_allocst1 ze67 rfl rfl rfl sz67 rfl rfl rfl ?_; intro w5 B9 g5 z5
  replace G := G.step0 g5; replace hG := hG.step0 g5; replace hX := hX.step0 g5; replace hM := hM.step0 g5; replace B3 := B3.step0 g5; replace B4 := B4.step0 g5; replace B5 := B5.step0 g5; replace g4 := g4.step0 g5
  replace hcm := cell0 g5 hcm; replace hcg := cell0 g5 hcg; replace hrow := hrow.step0 g5
  refine o_end (k8 _ _ ?_)
  refine s_seq fun _ k9 => ?_; refine s_quiet mixed (by kernel_rfl) ?_
  refine q_v (fun _ gq => v_field rfl fld130_0) ?_
  refine q_v (fun _ gq => v_field rfl fld25_0) ?_
  refine q_v (fun _ gq => v_loadB rfl sc22 (B3.step0 gq) rfl) ?_
  refine q_v (fun _ gq => v_field rfl fld155_1) ?_
  refine q_v (fun _ gq => v_loadB rfl sc56 (B5.step0 gq) rfl) ?_
  refine q_v (fun _ gq => v_field rfl fld67_0) ?_
  refine q_v (fun _ gq => v_loadB rfl sc3 (B9.step0 gq) rfl) ?_
  refine q_v (fun _ gq => v_index rfl rfl slt56 (by omega)) ?_
  refine q_v (fun _ gq => v_loadC rfl sc3 (cell0 gq hcm)) ?_
  refine q_v (fun _ gq => v_index rfl rfl slt22 (by omega)) ?_
  refine q_v (fun _ gq => v_field rfl fld148_0) ?_
  refine q_v (fun _ gq => v_loadC rfl sc3 (cell0 gq hcg)) ?_
  refine q_v (fun _ gq => v_field rfl fld67_1) ?_
  refine q_v (fun _ gq => v_loadBS rfl ag65 (B9.step0 gq) rfl rfl) ?_
  refine q_call rfl rfl ent144 (fun wq gq => by have := f144_calls gv ll.lo ll.hi wq; exact this) ?_
  refine q_v (fun _ gq => v_not rfl) ?_
  refine q_end (fun w7 g7 => k9 _ _ ?_)
  replace G := G.step0 g7; replace hG := hG.step0 g7; replace hX := hX.step0 g7; replace hM := hM.step0 g7; replace B3 := B3.step0 g7; replace B4 := B4.step0 g7; replace B5 := B5.step0 g7; replace g4 := g4.step0 g7; replace B9 := B9.step0 g7
  replace hrow := hrow.step0 g7
  refine s_if rfl (fun c9 => ?_) (fun c9 => ?_)
  ·refine s_region ?_
   refine o_v v_move ?_
   refine o_v v_move ?_
   refine o_bslice rfl (fun W => bls56_1 W) ?_; intro w8 B36 g8 z8
   replace G := G.step0 g8; replace hG := hG.step0 g8; replace hX := hX.step0 g8; replace hM := hM.step0 g8; replace B3 := B3.step0 g8; replace B4 := B4.step0 g8; replace B5 := B5.step0 g8; replace g4 := g4.step0 g8; replace B9 := B9.step0 g8
   replace hrow := hrow.step0 g8
   refine o_append1 (t := Ty.int) (p := (g : Int)) rfl rfl hrow B36 Tryz.underlying56 info3 rfl rfl (fun k hk => by have := g4.size; omega) (by omega) (by decide) ?_
   intro out' w9 hrow9 g9 hat
   have hge : ∀ k, out.ownBlock = some k → w3.heap.size ≤ k := fun k hk => hrow.1 k hk
   have G9 : w3.grownBy w9 none := ⟨g9.os.trans g4.os, g9.tape.trans g4.tape, g9.output.trans g4.output, Nat.le_trans g4.size g9.size, fun k hk _ => (g9.block k (Nat.lt_of_lt_of_le hk g4.size) (fun e => by have := hge k e.symm; omega)).trans (g4.block k hk (by simp))⟩
   refine o_v v_assign ?_
   refine o_end ?_
   refine k7 _ _ ?_
   refine s_region ?_
   refine o_v (v_add rfl rfl (by omega)) ?_
   refine o_v v_move ?_
   refine o_end ?_
   refine mid (g + 1, out') ?_ ?_ ?_
   ·repeat (first | exact off_refl | refine off_cons rfl ?_)
   ·exact ⟨rfl, rfl, trivial⟩
   ·refine ⟨⟨⟨hlt, ?_⟩, G9⟩, by simp only; omega⟩
    rw [wrongTo_succ _ _ _ _ hlt, hfit, if_neg (by simpa using c9)]
    exact hrow9
  ·refine s_skip ?_
   refine k7 _ _ ?_
   refine s_region ?_
   refine o_v (v_add rfl rfl (by omega)) ?_
   refine o_v v_move ?_
   refine o_end ?_
   refine mid (g + 1, out) ?_ ?_ ?_
   ·repeat (first | exact off_refl | refine off_cons rfl ?_)
   ·exact ⟨rfl, rfl, trivial⟩
   ·refine ⟨⟨⟨hlt, ?_⟩, g4⟩, by simp only; omega⟩
    rw [wrongTo_succ _ _ _ _ hlt, hfit, if_pos (by simpa using c9), List.append_nil]
    exact hrow
 ·refine s_exit ?_
  refine k3 _ _ ?_
  refine s_rseq fun _ k10 => ?_
  refine o_v v_move ?_
  refine o_v v_assign ?_
  refine o_end (k10 _ _ ?_)
  refine s_ret (post1 rfl ?_)
  obtain rfl : g = x.lets.length := by omega
  exact ⟨out, rfl, hrow.mono fun k hk => by have := g1.size; omega, G⟩
abbrev readsF (b1 b2 : Nat) : Value := .func (.func 142) #[] #[ptr b1, ptr b2]
theorem f95_calls (cs : List Value) (hcs : cs.length = 5) (h1 : cs.all (·.oneCell') = true) (x : Buyer) (lA : Option Addr) (lc : Nat) (w : World) :
  Calls Tryz.prog 95 #[.agg cs.toArray, .agg (x.cells lA lc).toArray] w fun e w' => ∃ b1 b2, e = .returned (readsF b1 b2) ∧ Blk w' b1 cs 130 ∧ Blk w' b2 (x.cells lA lc) 47 ∧ w.heap.size ≤ b1 ∧ w.heap.size ≤ b2 ∧ w.grownBy w' none := by
 refine s_enter (n := 6) Tryz.func95 rfl rfl rfl ?_
 have G := grown_refl w none
 refine s_rseq fun _ k1 => ?_
 refine o_box (t := 130) rfl ?_; intro w1 B2 g1 z1
 replace G := G.step0 g1
 refine o_box (t := 47) rfl ?_; intro w2 B3 g2 z2
 replace G := G.step0 g2; replace B2 := B2.step0 g2
 refine o_v v_assign ?_
 refine o_end (k1 _ _ ?_)
 refine s_rseq fun _ k2 => ?_
 refine o_v v_func ?_
 refine o_v v_assign ?_
 refine o_end (k2 _ _ ?_)
 refine s_ret (post1 rfl ?_)
 exact ⟨_, _, rfl, B2, B3, by omega, by omega, G⟩
def rowR (P : List (List Page)) (eds : Int) (e : Nat) : List (Int × List Int) := if hasB eds e then (P[e]?.getD []).map fun p => ((e : Int), p.means) else []
def readsTo (P : List (List Page)) (eds : Int) (g : Nat) : List (Int × List Int) := (List.range g).flatMap (rowR P eds)
def readsL (P : List (List Page)) (eds : Int) : List (Int × List Int) := readsTo P eds P.length
theorem readsTo_succ (P : List (List Page)) (eds : Int) (g : Nat) : readsTo P eds (g + 1) = readsTo P eds g ++ rowR P eds g := by
 unfold readsTo
 rw [List.range_succ, List.flatMap_append]
 simp
theorem readsTo_prefix (P : List (List Page)) (eds : Int) {k m : Nat} (h : k ≤ m) : ∃ rest, readsTo P eds m = readsTo P eds k ++ rest := by
 induction m with
 | zero => obtain rfl : k = 0 := by omega
           exact ⟨[], by simp⟩
 | succ m ih =>
  rcases Nat.lt_or_ge m k with h' | h'
  ·obtain rfl : k = m + 1 := by omega
   exact ⟨[], by simp⟩
  ·obtain ⟨rest, hr⟩ := ih h'
   exact ⟨rest ++ _, by rw [readsTo_succ, hr, List.append_assoc]⟩
def ReadEl (S : Nat → Prop) (all : List (Int × List Int)) (i : Nat) (v : Value) (M : Nat → Prop) (W : World) : Prop := ∃ A c r, all[i]? = some r ∧ v = .agg #[I r.1, .slice A r.2.length c] ∧ r.2.length ≤ c ∧ c ≤ maxLen ∧ Ty.int.Sl W (fun k => S k ∧ ¬ M k) A r.2
theorem gives_reads {S : Nat → Prop} (P : List (List Page)) (hP : P.length ≤ 60) (hrows : ∀ i : Nat, (P[i]?.getD []).length ≤ 100000) (eds : Int) (he : 0 ≤ eds ∧ eds ≤ 9223372036854775807) (b1 b2 : Nat) (u0 u1 u2 u3 lv : Value) (pA : Option Addr) (c : Nat) (w : World)
  (B1 : Blk w b1 (opCells u0 u1 u2 u3 pA P.length c) 130) (B2 : Blk w b2 [I eds, lv] 47) (hsl : pageT.sl.Sl w S pA P) :
  Gives Tryz.prog 142 [ptr b1, ptr b2] (readsL P eds).length (ReadEl S (readsL P eds)) (fun k => k = b1 ∨ k = b2 ∨ (S k ∧ IsC w k)) w := by
 intro l J M W hwW hM hJ hY h0
 have hMc : ∀ k, M k → IsC W k := fun k hk => (hM k hk).1
 refine s_enter (n := 36) (vs := [yieldV l, ptr b1, ptr b2]) Tryz.func142 rfl rfl rfl ?_
 have hT0 := Turn.refl hMc
 have hown : ∀ k, M k → k ≠ b1 ∧ k ≠ b2 ∧ ¬ (S k ∧ IsC w k) := fun k hk => ⟨fun h => (hM k hk).2 (.inl h), fun h => (hM k hk).2 (.inr (.inl h)), fun h => (hM k hk).2 (.inr (.inr h))⟩
 have B1 := B1.step0 hwW
 have B2 := B2.step0 hwW
 have hsl := hsl.bound.step0 hwW
 have hSM : ∀ k, S k ∧ IsC w k → ¬ M k := fun k hk hm => (hown k hm).2.2 hk
 have hSlt : ∀ k, S k ∧ IsC w k → k < W.heap.size := fun k hk => by have := hk.2.lt; have := hwW.size; omega
 refine s_rseq fun _ k1 => ?_
 refine o_v (v_field rfl fld130_1) ?_
 refine o_v (v_loadB rfl sc128 B1 rfl) ?_
 refine o_v (v_len rfl Tryz.underlying128) ?_
 refine o_v v_move ?_
 refine o_end (k1 _ _ ?_)
 refine s_block ?_
 refine s_loop (G := Nat) (fun g => [(11, I g)]) [11] [4, 5, 7, 12, 13, 14, 15, 16, 17, 18, 19, 20, 21, 22, 23, 24, 25, 26, 27, 28, 29, 30, 31, 32, 33, 34, 35] (fun g W' => g ≤ P.length ∧ ∃ M', J (readsTo P eds g).length M' W' ∧ Turn M M' W W') (fun g => P.length - g) (fun _ => rfl) 0 ⟨rfl, trivial⟩ ⟨Nat.zero_le _, M, by simpa [readsTo] using h0, hT0⟩ ?_
 rintro g jv w1 ⟨hg, M1, hj1, hT1⟩
 have C2 := B2.fr hT1.fr (fun h => (hown _ h).2.1 rfl)
 have hsl1 := hsl.fr hT1.fr hSM
 have hMc1 : ∀ k, M1 k → IsC w1 k := fun k hk => (hT1.new k hk).1
 refine s_rseq fun _ k2 => ?_
 refine o_v (v_lss rfl rfl) ?_
 refine o_end (k2 _ _ ?_)
 refine s_seq fun _ k3 => ?_
 refine s_ifd rfl (fun c3 => ?_) (fun c3 => ?_)
 ·have hgP : g < P.length := by omega
  obtain ⟨b0, o0, cs0, rfl, _, ⟨qA, qc, rfl, hq1, hq2, hq3⟩, hr0⟩ := hsl1.get g hgP
  have hcell := hr0 0 _ rfl
  simp only [Ty.sl] at hcell
  have hfew := hrows g
  rw [List.getElem?_eq_getElem hgP, Option.getD_some] at hfew
  have hrow0 : rowR P eds g = if hasB eds g then (P[g]).map fun p => ((g : Int), p.means) else [] := by unfold rowR; rw [List.getElem?_eq_getElem hgP, Option.getD_some]
  obtain ⟨ps, hps⟩ : ∃ ps, ps = P[g] := ⟨_, rfl⟩
  rw [← hps] at hcell hq1 hq3 hfew hrow0
  obtain ⟨rest, hrest⟩ := readsTo_prefix P eds (show g + 1 ≤ P.length from hgP)
  rw [readsTo_succ, List.append_assoc] at hrest
  refine s_skip ?_
  refine k3 _ _ ?_
  refine s_seq fun _ k4 => ?_
  refine s_block ?_
  refine s_rseq fun _ k5 => ?_
  refine o_v v_move ?_
  refine o_v (v_index rfl rfl slt128 (by omega)) ?_
  refine o_v (v_loadC rfl sc135 (by simpa using hcell)) ?_
  refine o_v v_assign ?_
  refine o_v v_assign ?_
  refine o_end (k5 _ _ ?_)
  refine s_seq fun _ k6 => ?_
  refine s_rseq fun _ k7 => ?_
  refine o_v (v_field rfl fld47_0) ?_
  refine o_v (v_loadB rfl sc3 C2 rfl) ?_
  refine o_v v_move ?_
  refine o_call rfl rfl ent143 (f143_calls eds g _ he (by omega)) ?_; rintro _ w2 ⟨rfl, g2⟩; refine ⟨_, rfl, ?_⟩
  have hT2 := hT1.trans (Turn.grown hMc1 g2)
  refine o_v (v_not rfl) ?_
  refine o_end (k7 _ _ ?_)
  refine s_if rfl (fun c7 => ?_) (fun c7 => ?_)
  ·refine s_exit ?_
   refine k4 _ _ ?_
   refine s_region ?_
   refine o_v (v_add rfl rfl (by omega)) ?_
   refine o_v v_move ?_
   refine o_end ?_
   refine mid (g + 1) ?_ ?_ ?_
   ·repeat (first | exact off_refl | refine off_cons rfl ?_)
   ·exact ⟨rfl, trivial⟩
   ·refine ⟨⟨hgP, M1, ?_, hT2⟩, by omega⟩
    rw [readsTo_succ, hrow0, if_neg (by simpa using c7), List.append_nil]
    exact hJ _ _ _ _ hj1 g2
  ·have hhas : hasB eds g = true := by simpa using c7
   rw [if_pos hhas] at hrow0
   have hsl2 := hq3.step0 g2
   have hj2 := hJ _ _ _ _ hj1 g2
   have hMc2 : ∀ k, M1 k → IsC w2 k := fun k hk => (hT2.new k hk).1
   refine s_skip ?_
   refine k6 _ _ ?_
   refine s_rseq fun _ k8 => ?_
   refine o_v v_move ?_
   refine o_v (v_len rfl Tryz.underlying135) ?_
   refine o_v v_move ?_
   refine o_end (k8 _ _ ?_)
   refine s_block ?_
   refine s_loop (G := Nat) (fun j => [(23, I j)]) [23] [7, 24, 25, 26, 27, 28, 29, 30, 31, 32, 33, 34] (fun j W' => j ≤ ps.length ∧ ∃ M', J ((readsTo P eds g).length + j) M' W' ∧ Turn M1 M' w2 W') (fun j => ps.length - j) (fun _ => rfl) 0 ⟨rfl, trivial⟩ ⟨Nat.zero_le _, M1, hj2, Turn.refl hMc2⟩ ?_
   rintro j jv w3 ⟨hj, M3, hj3, hT3⟩
   have hMc3 : ∀ k, M3 k → IsC w3 k := fun k hk => (hT3.new k hk).1
   refine s_rseq fun _ k9 => ?_
   refine o_v (v_lss rfl rfl) ?_
   refine o_end (k9 _ _ ?_)
   refine s_seq fun _ k10 => ?_
   refine s_ifd rfl (fun c10 => ?_) (fun c10 => ?_)
   ·have hjlt : j < ps.length := by omega
    have hS3 : ∀ k, S k ∧ IsC w k → ¬ M1 k := fun k hk => hT1.out (hSlt k hk) (hSM k hk)
    have hS4 : ∀ k, S k ∧ IsC w k → ¬ M3 k := fun k hk => hT3.out (by have := hSlt k hk; have := hT2.fr.size; omega) (hS3 k hk)
    obtain ⟨bp, op, cp, rfl, _, hrepp, hrgp⟩ := (hsl2.fr hT3.fr hS3).get j hjlt
    obtain ⟨mA, mc, rfl, hml, hmm, hmean⟩ := pageT_iff.1 hrepp
    rw [pageT_sz] at hrgp
    refine s_skip ?_
    refine k10 _ _ ?_
    refine s_seq fun _ k11 => ?_
    refine s_block ?_
    refine s_rseq fun _ k12 => ?_
    refine o_v (v_index rfl rfl slt135 (by omega)) ?_
    refine o_v (v_loadR rfl ag137 hrgp rfl) ?_
    refine o_allocst ze137 rfl rfl rfl sz137 rfl rfl rfl ?_; intro w4 B7 g4 z4
    have hT4 := hT3.trans (Turn.grown hMc3 g4)
    replace hmean := hmean.step0 g4
    refine o_end (k12 _ _ ?_)
    refine s_rseq fun _ k13 => ?_
    refine o_v v_move ?_
    refine o_v v_move ?_
    refine o_v (v_field rfl fld137_0) ?_
    refine o_v (v_loadB rfl sc56 B7 rfl) ?_
    refine o_v (v_build rfl (fun W => bld155_01 W)) ?_
    have hidx : (readsTo P eds g).length + j < (readsL P eds).length := by
     unfold readsL
     rw [hrest, hrow0]
     simp
     omega
    have hat : (readsL P eds)[(readsTo P eds g).length + j]? = some ((g : Int), ps[j].means) := by
     unfold readsL
     rw [hrest, hrow0, List.getElem?_append_right (by omega), Nat.add_sub_cancel_left, List.getElem?_append_left (by simpa using hjlt), List.getElem?_map, List.getElem?_eq_getElem hjlt]
     rfl
    refine o_yield rfl rfl (hY _ _ M3 w4 hidx (hJ _ _ _ _ hj3 g4) (fun k hk => (hT4.new k hk).1) ⟨mA, mc, _, hat, rfl, hml, hmm, hmean.mono fun k hk => ⟨hk.1, hS4 k hk⟩⟩) ?_
    rintro w5 ⟨M5, hj5, hT5⟩
    have hT6 := hT4.trans hT5
    refine o_v (v_not rfl) ?_
    refine o_end (k13 _ _ ?_)
    refine s_if rfl (fun c13 => by cases c13) (fun c13 => ?_)
    ·refine s_skip ?_
     refine k11 _ _ ?_
     refine s_region ?_
     refine o_v (v_add rfl rfl (by omega)) ?_
     refine o_v v_move ?_
     refine o_end ?_
     refine mid (j + 1) ?_ ?_ ?_
     ·repeat (first | exact off_refl | refine off_cons rfl ?_)
     ·exact ⟨rfl, trivial⟩
     ·exact ⟨⟨hjlt, M5, by rw [← Nat.add_assoc]; exact hj5, hT6⟩, by omega⟩
   ·refine s_exit ?_
    refine k4 _ _ ?_
    refine s_region ?_
    refine o_v (v_add rfl rfl (by omega)) ?_
    refine o_v v_move ?_
    refine o_end ?_
    refine mid (g + 1) ?_ ?_ ?_
    ·repeat (first | exact off_refl | refine off_cons rfl ?_)
    ·exact ⟨rfl, trivial⟩
    ·obtain rfl : j = ps.length := by omega
     refine ⟨⟨hgP, M3, ?_, hT2.trans hT3⟩, by omega⟩
     rw [readsTo_succ, hrow0, List.length_append, List.length_map]
     exact hj3
 ·refine s_exit ?_
  obtain rfl : g = P.length := by omega
  exact post0n rfl ⟨⟨_, rfl⟩, M1, hj1, hT1⟩
end Go.Proofs.NV
namespace Go.Proofs.NV
open Go.RowKit Go.Shelf
section range
variable {P : Program} {Q : Exit → Act → World → Prop} {n : Nat} {e : Env} {ds : List Deferred} {w : World} {d : Nat} {ty : TypeId} {ps : String} {af : Array Edge}
theorem s_rangeFuncS {g : Operand} {p t id : Nat} {aty k : Nat} {z : Value} {ty1 ty2 : TypeId} {ps1 ps2 : String} {af1 af2 : Array Edge} {body : Code} {gf : FuncId} {cap : List Value} {N : Nat} {El : Nat → Value → (Nat → Prop) → World → Prop} {Own : Nat → Prop}
  (hp : Nat.blt p n = true) (ht : Nat.blt t n = true) (htp : Nat.beq t p = false) (hz : Ze P aty z) (hzl : z.cells.toList.length = k) (hsz : (P.info? aty).map (·.size) = some k)
  (hg : ev n e g = .func (.func gf) #[] cap.toArray) (he : Ent P gf) (hit : Gives P gf cap N El Own w)
  (I : Nat → (Nat → Prop) → World → Prop) (M0 : Nat → Prop) (hM0 : ∀ k, M0 k → IsC w k ∧ ¬ Own k)
  (hI : ∀ i M W W', I i M W → Fz w.heap.size W W' → I i M W') (hEl : ∀ i v M W W', El i v M W → Fz w.heap.size W W' → El i v M W')
  (hEk : ∀ i v M W, El i v M W → v.cells.toList.length = k ∧ v.cells.toList.all (·.oneCell') = true) (h0 : I 0 M0 w)
  (hbody : ∀ l i v b9 M W, i < N → I i M W → El i v M W → Blk W b9 v.cells.toList aty → ¬ M b9 → w.heap.size ≤ b9 → Fr M0 w W → (∀ k, M k → IsC W k ∧ (M0 k ∨ w.heap.size ≤ k)) → body.wpIn (Fw (some l)) 0 P (fun ex a' W' => ex = .normal ∧ ∃ M', I (i + 1) M' W' ∧ Turn M M' W W') (act n ((t, .pointer (some ⟨b9, 0, none⟩)) :: (p, v) :: e) []) W)
  (hdone : ∀ D M W, w.heap.size ≤ D → I N M W → Fr M0 w W → W.heap[D]? = some (.deferred (some [])) → Q .normal (act n e ({ target := .collected D, args := #[] } :: ds)) W) :
  (Code.rangeFunc g #[p] (Code.region id [⟨some t, .alloc aty, ty1, ps1, af1, none⟩, ⟨none, .store aty (.tmp t) (.tmp p), ty2, ps2, af2, none⟩].toArray false) body).wpIn (Fw none) 0 P Q (act n e ds) w := by
 refine s_rangeFunc hg he hit I M0 (fun i e1 M W => ∃ v b9, e1 = (t, .pointer (some ⟨b9, 0, none⟩)) :: (p, v) :: e ∧ I i M W ∧ El i v M W ∧ Blk W b9 v.cells.toList aty ∧ ¬ M b9 ∧ w.heap.size ≤ b9) hM0 hI ?_ h0 ?_ ?_ hdone
 ·rintro i e1 M W W' ⟨v, b9, rfl, h1, h2, h3, h4, h5⟩ hF
  exact ⟨v, b9, rfl, hI _ _ _ _ h1 hF, hEl _ _ _ _ _ h2 hF, h3.fz hF, h4, h5⟩
 ·intro l i v M W hi hii hfr hM hel
  obtain ⟨hk, h1⟩ := hEk i v M W hel
  refine s_region (o_allocst (vs := v.cells.toList) hz rfl (by simp [ev, ht, rd]) (by simp [ev, hp, rd, htp]) hsz hk hzl h1 ?_)
  intro wa Ba ga za
  exact o_end ⟨_, M, rfl, Turn.grown (fun k hk => (hM k hk).1) ga, v, _, rfl, hI _ _ _ _ hii (Fz.of_g0 ga), hEl _ _ _ _ _ hel (Fz.of_g0 ga), Ba, fun h => by have := (hM _ h).1.lt; omega, hfr.size⟩
 ·rintro l i e1 M W hi ⟨v, b9, rfl, h1, h2, h3, h4, h5⟩ hfr hM
  exact hbody l i v b9 M W hi h1 h2 h3 h4 h5 hfr hM
end range
end Go.Proofs.NV
namespace Go.Proofs.NV
open Go.RowKit Go.Shelf
attribute [local irreducible] bodyPost bodyPostM wpQuiet
def readT : Ty (Int × List Int) := (Ty.int.pair Ty.int.sl).iso fun r => r
theorem readT_sz : readT.sz = 2 := rfl
theorem readT_iff {w : World} {S : Nat → Prop} {r : Int × List Int} {cs : List Value} : readT.rep w S r cs ↔ ∃ A c, cs = [I r.1, .slice A r.2.length c] ∧ r.2.length ≤ c ∧ c ≤ maxLen ∧ Ty.int.Sl w S A r.2 := by
 constructor
 ·rintro ⟨c0, c1, rfl, h0, A, c, rfl, h1, h2, h3⟩
  obtain rfl : c0 = [I r.1] := h0
  exact ⟨A, c, rfl, h1, h2, h3⟩
 ·rintro ⟨A, c, rfl, h1, h2, h3⟩
  exact ⟨_, _, rfl, rfl, A, c, rfl, h1, h2, h3⟩
theorem info155 : (Tryz.prog.info? 155).map (fun i => (i.zero, i.size, i.bytes)) = some (some (.agg #[.int .i64 0, .slice none 0 0]), 2, 32) := by kernel_rfl
def Kept {α : Type} (t : Ty α) (k8 : Nat) (ty et : TypeId) (S : Nat → Prop) (xs : List α) (M : Nat → Prop) (W : World) : Prop :=
 ∃ ov, (∀ k, M k ↔ k = k8 ∨ ov.ownBlock = some k) ∧ Blk W k8 [ov] ty ∧ t.Row et W (fun k => S k ∧ k ≠ k8) ov xs
namespace Kept
variable {α : Type} {t : Ty α} {k8 : Nat} {ty et : TypeId} {S : Nat → Prop} {xs : List α} {M : Nat → Prop} {W W' : World}
theorem fz {B : Nat} (h : Kept t k8 ty et S xs M W) (F : Fz B W W') : Kept t k8 ty et S xs M W' := by
 obtain ⟨ov, h1, h2, h3⟩ := h
 exact ⟨ov, h1, h2.fz F, h3.fz F⟩
theorem init (hB : Blk W k8 [.slice none 0 0] ty) : Kept t k8 ty et S [] (fun k => k = k8) W := ⟨.slice none 0 0, fun k => by simp [Value.ownBlock], hB, Ty.Row.nil _ _ _ _⟩
theorem step0 (h : Kept t k8 ty et S xs M W) (g : W.grownBy W' none) : Kept t k8 ty et S xs M W' := by
 obtain ⟨ov, h1, h2, h3⟩ := h
 exact ⟨ov, h1, h2.step0 g, h3.step0 g⟩
theorem cells (h : Kept t k8 ty et S xs M W) : ∀ k, M k → IsC W k := by
 obtain ⟨ov, h1, h2, h3⟩ := h
 intro k hk
 rcases (h1 k).1 hk with rfl | hk
 ·exact h2.isC
 ·obtain ⟨_, inner, ho, _⟩ := h3; exact Ty.own_isC ho k hk
theorem add {ov ov' : Value} {xs' : List α} {W1 W2 : World} (h1 : ∀ k, M k ↔ k = k8 ∨ ov.ownBlock = some k) (hrow : t.Row et W1 (fun k => S k ∧ k ≠ k8) ov' xs') (g1 : W.grownBy W1 ov.ownBlock) (hat : ov'.ownBlock = ov.ownBlock ∨ ov'.ownBlock = some W.heap.size)
  (B2 : Blk W2 k8 [ov'] ty) (g2 : W1.grownBy W2 (some k8)) : ∃ M', Kept t k8 ty et S xs' M' W2 ∧ Turn M M' W W2 := by
 have hrow2 := hrow.step g2 (fun k hk e => hk.2 (by injection e))
 refine ⟨fun k => k = k8 ∨ ov'.ownBlock = some k, ⟨ov', fun _ => Iff.rfl, B2, hrow2⟩, ⟨⟨g2.os.trans g1.os, g2.tape.trans g1.tape, g2.output.trans g1.output, Nat.le_trans g1.size g2.size, fun k hk hn => ?_⟩, fun k hk => ?_⟩⟩
 ·rw [h1] at hn
  have hn1 : k ≠ k8 := fun e => hn (.inl e)
  have hn2 : ov.ownBlock ≠ some k := fun e => hn (.inr e)
  exact (g2.block k (Nat.lt_of_lt_of_le hk g1.size) (fun e => hn1 (by injection e))).trans (g1.block k hk (fun e => hn2 e.symm))
 ·rcases hk with rfl | hk
  ·exact ⟨B2.isC, .inl ((h1 _).2 (.inl rfl))⟩
  ·obtain ⟨_, inner, ho, _⟩ := hrow2
   refine ⟨Ty.own_isC ho k hk, ?_⟩
   rcases hat with hat | hat
   ·exact .inl ((h1 k).2 (.inr (hat ▸ hk)))
   ·rw [hat] at hk
    injection hk with hk
    exact .inr (by omega)
end Kept
def goodR (b : Book) (x : Buyer) (r : Int × List Int) : Bool := decide ((wrongL b r.2 x.lets).length = 0)
def lettersL (b : Book) (x : Buyer) : List (Int × List Int) := (readsL (openedL b) x.eds).filter (goodR b x)
def lettersE (b : Book) (x : Buyer) : Int := if askedE b (b.isBuy x) ≠ 0 then askedE b (b.isBuy x) else if (lettersL b x).length = 0 then 7 else 0
def lettersQ (b : Book) (x : Buyer) : List (Int × List Int) := if lettersE b x = 0 then lettersL b x else []
theorem filter_take {α : Type} (p : α → Bool) (l : List α) (i : Nat) (h : i < l.length) : (l.take (i + 1)).filter p = (l.take i).filter p ++ if p l[i] then [l[i]] else [] := by
 rw [List.take_succ_eq_append_getElem h, List.filter_append]
 by_cases hp : p l[i] = true <;> simp [hp]
structure ReadOk (b : Book) (eds : Int) (r : Int × List Int) : Prop where
 page : ∃ (i : Nat) (p : Page), r = ((i : Int), p.means) ∧ PageOk b i p ∧ hasB eds i = true
theorem reads_ok {b : Book} (hok : b.ok = true) {eds : Int} {r : Int × List Int} (h : r ∈ readsL (openedL b) eds) : ReadOk b eds r := by
 unfold readsL readsTo at h
 obtain ⟨i, hi, h⟩ := List.mem_flatMap.1 h
 unfold rowR at h
 split at h
 ·rename_i hh
  obtain ⟨p, hp, rfl⟩ := List.mem_map.1 h
  exact ⟨i, p, rfl, opened_ok hok hp, hh⟩
 ·cases h
theorem ReadOk.len {b : Book} {eds : Int} {r : Int × List Int} (h : ReadOk b eds r) : r.2.length = b.goods.length ∧ ∀ y ∈ r.2, 0 ≤ y ∧ y < b.goods.length := by
 obtain ⟨i, p, rfl, hp, _⟩ := h.page
 exact ⟨hp.len, hp.range⟩
theorem reads_few {b : Book} (hok : b.ok = true) (eds : Int) : (readsL (openedL b) eds).length ≤ 360 := by
 have hgd := Book.ok_goods hok
 have hol := openedL_len b
 have key : ∀ g, (readsTo (openedL b) eds g).length ≤ g * 120 := by
  intro g
  induction g with
  | zero => simp [readsTo]
  | succ g ih =>
   rw [readsTo_succ, List.length_append, Nat.succ_mul]
   have : (rowR (openedL b) eds g).length ≤ 120 := by
    unfold rowR
    split
    ·rw [List.length_map]; exact opened_few hok g
    ·simp
   omega
 have := key (openedL b).length
 unfold readsL
 omega
theorem buy_ok {b : Book} {x : Buyer} (h : b.isBuy x = true) : (1 ≤ x.eds ∧ x.eds ≤ 7) ∧ x.lets.length ≤ 4 ∧ 1 ≤ x.lets.length ∧ ∀ l ∈ x.lets, (0 ≤ l.num ∧ l.num < b.goods.length) ∧ 0 ≤ l.many ∧ l.many ≤ 1000 := by
 unfold Book.isBuy at h
 simp only [Bool.and_eq_true] at h
 obtain ⟨⟨⟨hok, h1⟩, h2⟩, h3⟩ := h
 have hgd := Book.ok_goods hok
 have hsh := shl_one b.ed (by omega)
 unfold inB at h1 h2
 simp only [Bool.and_eq_true, decide_eq_true_eq] at h1 h2
 refine ⟨⟨by omega, by omega⟩, by omega, by omega, fun l hl => ?_⟩
 rw [Bool.not_eq_true', List.any_eq_false] at h3
 have h4 := h3 l hl
 unfold Book.badLet Book.isNum inB at h4
 simp only [Bool.or_eq_true, not_or, Bool.not_eq_true', Bool.not_eq_false, Bool.and_eq_true, decide_eq_true_eq, Bool.not_eq_true, Bool.and_eq_false_imp, decide_eq_false_iff_not] at h4
 simp at h4
 omega
theorem f90_calls {S T : Nat → Prop} (b : Book) (gA : Option Addr) (gc : Nat) (eA : Option Addr) (ec : Nat) (x : Buyer) (lA : Option Addr) (lc : Nat) (w : World) (hI : BookIn w S b gA gc eA ec) (hX : BuyIn w T x lA lc) :
  Calls Tryz.prog 90 #[.agg (b.cells gA gc eA ec).toArray, .agg (x.cells lA lc).toArray] w fun e w' => ∃ v, e = .returned (.tuple #[v, I (lettersE b x)]) ∧ readT.Row 155 w' (fun k => w.heap.size ≤ k) v (lettersQ b x) ∧ w.grownBy w' none := by
 refine s_enterM (n := 39) Tryz.func90 rfl rfl rfl ?_
 have G := grown_refl w none
 have hIb := hI.goods.bound
 have hXb := hX.lets.bound
 refine s_rseq fun _ k1 => ?_
 refine o_box (t := 25) rfl ?_; intro w1 B2 g1 z1
 replace G := G.step0 g1; replace hI := hI.step0 g1; replace hX := hX.step0 g1
 refine o_box (t := 47) rfl ?_; intro w2 B3 g2 z2
 replace G := G.step0 g2; replace hI := hI.step0 g2; replace hX := hX.step0 g2; replace B2 := B2.step0 g2
 refine o_v v_assign ?_
 refine o_v v_assign ?_
 refine o_end (k1 _ _ ?_)
 refine s_seq fun _ k2 => ?_
 refine s_anyU 11 [11, 12, 13, 14, 15, 10, 16, 17, 6, 7]
  [[], [], [], [(1, some 12), (2, some 13)], [(0, some 11), (3, some 14)], [(4, some 15)], [(5, some 10)], [(16, some 10)], [], [(8, some 6), (6, some 16)], [(7, some 17)]]
  [(19, some 6), (9, none), (10, some 7)] (fun W => w2.grownBy W none) (fun k W W' => if k = 9 then ∃ b0, w2.heap.size ≤ b0 ∧ W.grownBy W' (some b0) else W.grownBy W' none) [(4, 9), (5, 9), (6, 9), (8, 9)]
  [([], fun _ v _ => v = .agg (b.cells gA gc eA ec).toArray), ([], fun _ v _ => v = .agg (b.cells gA gc eA ec).toArray), ([], fun _ v _ => v = .agg (x.cells lA lc).toArray), ([], fun _ v _ => v = .bool (b.isBuy x)), ([], fun _ v W => ∃ os : List Value, v = .tuple #[.agg os.toArray, I (askedE b (b.isBuy x))] ∧ AskX b gA gc eA ec (b.isBuy x) w2.heap.size os W), ([], fun _ v W => ∃ os : List Value, v = .tuple #[.agg os.toArray, I (askedE b (b.isBuy x))] ∧ AskX b gA gc eA ec (b.isBuy x) w2.heap.size os W), ([], fun _ v W => ∃ os : List Value, v = .agg os.toArray ∧ AskX b gA gc eA ec (b.isBuy x) w2.heap.size os W), ([], fun _ v _ => v = I (askedE b (b.isBuy x))), ([], fun _ v W => ∃ k, v = ptr k ∧ w2.heap.size ≤ k ∧ Blk W k zeroOpen 130), ([6], fun vs _ W => ∃ (k : Nat) (os : List Value), vs = [ptr k] ∧ w2.heap.size ≤ k ∧ Blk W k os 130 ∧ AskX b gA gc eA ec (b.isBuy x) w2.heap.size os W), ([], fun _ v _ => v = I (askedE b (b.isBuy x))),
   ([], fun _ _ _ => True), ([], fun _ _ _ => True), ([], fun _ _ _ => True), ([], fun _ _ _ => True), ([], fun _ v _ => ∃ os : List Value, v = .tuple #[.agg os.toArray, I (askedE b (b.isBuy x))]), ([], fun _ v _ => ∃ os : List Value, v = .tuple #[.agg os.toArray, I (askedE b (b.isBuy x))]), ([], fun _ _ _ => True), ([], fun _ _ _ => True), ([], fun _ v _ => ∃ k, v = ptr k ∧ w2.heap.size ≤ k), ([], fun _ _ _ => True), ([], fun _ _ _ => True)]
  mixed (by kernel_rfl) (by kernel_rfl) (by kernel_rfl) (by kernel_rfl) (by kernel_rfl) g0_drawn ?_ ?_ ?_ ?_
 ·intro k W W' hC hS
  by_cases hk : k = 9
  ·simp only [hk, if_true] at hS
   obtain ⟨b0, h0, g0⟩ := hS
   exact grown_own hC g0 h0
  ·simp only [if_neg hk] at hS
   exact World.grownBy.trans hC hS
 ·intro i k v W W' vs hik hd p hp h hS
  have hst : k ≠ 9 → W.grownBy W' none := fun hk => by simpa only [if_neg hk] using hS
  rcases i with _ | _ | _ | _ | _ | _ | _ | _ | _ | _ | _ | _ | _ | _ | _ | _ | _ | _ | _ | _ | _ | _ | i
  ·cases hp; exact h
  ·cases hp; exact h
  ·cases hp; exact h
  ·cases hp; exact h
  ·cases hp; obtain ⟨os, h1, h2⟩ := h; exact ⟨os, h1, h2.step0 (hst (by rintro rfl; simp at hd))⟩
  ·cases hp; obtain ⟨os, h1, h2⟩ := h; exact ⟨os, h1, h2.step0 (hst (by rintro rfl; simp at hd))⟩
  ·cases hp; obtain ⟨os, h1, h2⟩ := h; exact ⟨os, h1, h2.step0 (hst (by rintro rfl; simp at hd))⟩
  ·cases hp; exact h
  ·cases hp; obtain ⟨b0, h1, h2, h3⟩ := h; exact ⟨b0, h1, h2, h3.step0 (hst (by rintro rfl; simp at hd))⟩
  ·cases hp; obtain ⟨b0, os, h1, h2, h3, h4⟩ := h; have hg := hst (fun e => hik e.symm); exact ⟨b0, os, h1, h2, h3.step0 hg, h4.step0 hg⟩
  ·cases hp; exact h
  ·cases hp; exact h
  ·cases hp; exact h
  ·cases hp; exact h
  ·cases hp; exact h
  ·cases hp; exact h
  ·cases hp; exact h
  ·cases hp; exact h
  ·cases hp; exact h
  ·cases hp; exact h
  ·cases hp; exact h
  ·cases hp; exact h
  ·simp at hp
 ·refine ⟨?_, ?_, ?_, ?_, ?_, ?_, ?_, ?_, ?_, ?_, ?_, trivial⟩
  ·intro jv W hC
   exact o_v (v_loadBS rfl ag25 (B2.step0 hC) rfl rfl) (o_end (opD_done (grown_refl _ _) ⟨rfl, trivial⟩))
  ·intro jv W hC
   exact o_v (v_loadBS rfl ag25 (B2.step0 hC) rfl rfl) (o_end (opD_done (grown_refl _ _) ⟨rfl, trivial⟩))
  ·intro jv W hC
   exact o_v (v_loadBS rfl ag47 (B3.step0 hC) rfl rfl) (o_end (opD_done (grown_refl _ _) ⟨rfl, trivial⟩))
  ·rintro jv W hC _ rfl _ rfl
   refine o_call rfl rfl ent94 (f94_calls b gA gc eA ec x lA lc W (hI.step0 hC) (hX.step0 hC)) ?_
   rintro _ wa ⟨rfl, ga⟩
   exact ⟨_, rfl, o_end (opD_done ga ⟨rfl, trivial⟩)⟩
  ·rintro jv W hC _ rfl _ rfl
   refine o_call rfl rfl ent78 (f78_ask b gA gc eA ec (b.isBuy x) W (hI.step0 hC)) ?_
   rintro _ wa ⟨os, rfl, ga, hax⟩
   have hax := hax.mono hC.size
   exact ⟨_, rfl, o_end (opD_done ga ⟨⟨os, rfl, hax⟩, ⟨os, rfl⟩⟩)⟩
  ·rintro jv W hC _ ⟨os, rfl, h2⟩
   exact o_v v_move (o_end (opD_done (grown_refl _ _) ⟨⟨os, rfl, h2⟩, ⟨os, rfl⟩⟩))
  ·rintro jv W hC _ ⟨os, rfl, h2⟩
   exact o_v (v_extract rfl rfl) (o_end (opD_done (grown_refl _ _) ⟨⟨os, rfl, h2⟩, trivial⟩))
  ·rintro jv W hC _ ⟨os, rfl⟩
   exact o_v (v_extract rfl rfl) (o_end (opD_done (grown_refl _ _) ⟨rfl, trivial⟩))
  ·rintro jv W hC
   refine o_alloc (t := 130) ze130 rfl ?_; intro wa Ba ga za
   exact o_end (opD_done ga ⟨⟨_, rfl, hC.size, Ba⟩, ⟨_, rfl, hC.size⟩⟩)
  ·rintro jv W hC _ ⟨b0, rfl, hb0, B0⟩ _ ⟨os, rfl, hax⟩
   refine o_storeB (vs := os) rfl rfl sz130 hax.five.1 B0 (by rw [hax.five.1]; rfl) hax.five.2 ?_; intro wa Ba ga za
   rw [over_all (cs := zeroOpen) (vs := os) hax.five.1.symm] at Ba
   exact o_end (opD_none ⟨b0, hb0, ga⟩ ⟨⟨b0, os, rfl, hb0, Ba, hax.off B0 ga⟩, trivial⟩)
  ·rintro jv W hC _ rfl
   exact o_v v_assign (o_end (opD_done (grown_refl _ _) ⟨rfl, trivial⟩))
 ·rintro jv w6 Gw6 _ ⟨b0, rfl, hb0⟩ ⟨b1, os, hb1, hb2, B6, hax⟩ _ rfl
  obtain rfl : b1 = b0 := by simpa [rd] using hb1.symm
  refine o_end (k2 _ _ ?_)
  replace hI := hI.step0 Gw6; replace hX := hX.step0 Gw6; replace B2 := B2.step0 Gw6; replace B3 := B3.step0 Gw6; replace G := G.step0 Gw6
  have h6lt := B6.lt
  refine s_seq fun _ k3 => ?_
  refine s_rseq fun _ k4 => ?_
  refine o_v v_move ?_
  refine o_v (v_neq rfl rfl) ?_
  refine o_end (k4 _ _ ?_)
  refine s_ifd rfl (fun c4 => ?_) (fun c4 => ?_)
  ·refine s_rseq fun _ k5 => ?_
   refine o_v v_move ?_
   refine o_v v_assign ?_
   refine o_v v_assign ?_
   refine o_end (k5 _ _ ?_)
   refine s_ret (postM (Ds := []) List.nodup_nil (fun _ h => by cases h) fun W2 z2 f2 => ⟨_, res_tt rfl, ?_⟩)
   have he : lettersE b x = askedE b (b.isBuy x) := by unfold lettersE; rw [if_pos (by exact c4)]
   refine ⟨_, congrArg (fun z => Ending.returned (.tuple #[.slice none 0 0, I z])) he.symm, ?_, G.step0 (Fr.g0 (f2.mono fun _ _ h => by cases h))⟩
   unfold lettersQ
   rw [he, if_neg (by exact c4)]
   exact Ty.Row.nil _ _ _ _
  ·have he0 : askedE b (b.isBuy x) = 0 := by
    apply Classical.byContradiction
    exact c4
   obtain ⟨pA, pc, rfl, hsl, hpl, hpm⟩ := hax.good he0
   obtain ⟨hok, hbuy, h00⟩ := asked_ok he0
   have hgd := Book.ok_goods hok
   have hbo := buy_ok hbuy
   have hol := openedL_len b
   replace hsl := hsl.bound
   obtain ⟨all, hall⟩ : ∃ all, all = readsL (openedL b) x.eds := ⟨_, rfl⟩
   have hfew := reads_few hok x.eds
   rw [← hall] at hfew
   refine s_skip ?_
   refine k3 _ _ ?_
   refine s_rseq fun _ k6 => ?_
   refine o_alloc (t := 151) ze151 rfl ?_; intro w7 B8 g7 z7
   replace hsl := hsl.step0 g7
   replace G := G.step0 g7; replace hI := hI.step0 g7; replace hX := hX.step0 g7; replace B2 := B2.step0 g7; replace B3 := B3.step0 g7; replace B6 := B6.step0 g7
   refine o_end (k6 _ _ ?_)
   refine s_seq fun _ k7 => ?_
   refine s_rseq fun _ k8 => ?_
   refine o_v (v_loadBS rfl ag130 B6 rfl rfl) ?_
   refine o_v (v_loadBS rfl ag47 B3 rfl rfl) ?_
   refine o_call rfl rfl ent95 (f95_calls (opCells (.slice gA b.goods.length gc) (I b.ed) (I b.mv) (.slice eA b.ents.length ec) pA (openedL b).length pc) rfl rfl x lA lc w7) ?_; rintro _ w8 ⟨b1, b2, rfl, C1, C2, hb1, hb2, g8⟩; refine ⟨_, rfl, ?_⟩
   replace G := G.step0 g8; replace hI := hI.step0 g8; replace hX := hX.step0 g8; replace B2 := B2.step0 g8; replace B3 := B3.step0 g8; replace B6 := B6.step0 g8; replace B8 := B8.step0 g8
   replace hsl := hsl.step0 g8
   refine o_end (k8 _ _ ?_)
   refine s_block ?_
   have hgives := gives_reads (openedL b) (by omega) (fun i => Nat.le_trans (opened_few hok i) (by decide)) x.eds (by omega) b1 b2 _ _ _ _ _ pA pc w8 C1 C2 hsl
   rw [← hall] at hgives
   have hk8 : ∀ k, IsC w6 k → k ≠ w6.heap.size := fun k hk e => by have := hk.lt; omega
   refine s_rangeFuncS (k := 2) (cap := [ptr b1, ptr b2]) rfl rfl rfl ze155 rfl sz155 rfl ent142 hgives (fun i M W => Kept readT w6.heap.size 151 155 (fun k => w.heap.size ≤ k) ((all.take i).filter (goodR b x)) M W) (fun k => k = w6.heap.size) ?_ ?_ ?_ ?_ (Kept.init B8) ?_ ?_
   ·rintro k rfl
    refine ⟨B8.isC, ?_⟩
    rintro (h | h | h)
    ·omega
    ·omega
    ·exact hk8 _ h.1.2 rfl
   ·intro i M W W' h F
    exact h.fz F
   ·rintro i v M W W' ⟨A, c, r, h1, h2, h3, h4, h5⟩ F
    exact ⟨A, c, r, h1, h2, h3, h4, h5.fz F⟩
   ·rintro i v M W ⟨A, c, r, h1, rfl, _⟩
    exact ⟨rfl, rfl⟩
   ·rintro l i v b9 M W hi hK ⟨A, c, r, hri, rfl, hc1, hc2, hsl2⟩ B9 hM9 hb9 hfr hMc
    replace hsl2 : Ty.int.Sl W (fun k => w.heap.size ≤ k ∧ ¬ M k) A r.2 := hsl2.mono fun k hk => ⟨by have := hk.1.1; have := g1.size; have := g2.size; omega, hk.2⟩
    have hri' : all[i] = r := by rw [List.getElem?_eq_getElem hi] at hri; injection hri
    have hro : ReadOk b x.eds r := reads_ok hok (by rw [← hall]; exact List.mem_of_getElem? hri)
    have hrl := hro.len
    have D6 := B6.fr hfr (fun h => by omega)
    have D3 := B3.fr hfr (fun h => by have := z2; have := Gw6.size; omega)
    have hlow := Gw6.size
    have hGW := (hIb.step0 G).fr hfr (fun k hk e => by have := hk.2.lt; omega)
    have hXW : BuyIn W _ x lA lc := ⟨(hXb.step0 G).fr hfr (fun k hk e => by have := hk.2.lt; omega), hX.ll⟩
    have hcall := f96_calls b gA gc eA ec (.slice pA (openedL b).length pc) x lA lc r.1 A r.2 c W rfl hGW hXW hsl2 (fun y hy => by rw [hrl.1]; exact (hbo.2.2.2 y hy).1) hrl.2 (by omega) hI.gl.1 hc1
    rw [show b.cells gA gc eA ec ++ [Value.slice pA (openedL b).length pc] = opCells (.slice gA b.goods.length gc) (I b.ed) (I b.mv) (.slice eA b.ents.length ec) pA (openedL b).length pc from rfl] at hcall
    refine s_block ?_
    refine s_rseq fun _ k9 => ?_
    refine o_v (v_loadBS rfl ag130 D6 rfl rfl) ?_
    refine o_v (v_loadBS rfl ag47 D3 rfl rfl) ?_
    refine o_v (v_loadBS rfl ag155 B9 rfl rfl) ?_
    refine o_call rfl rfl ent96 hcall ?_; rintro _ wa ⟨v, rfl, hvr, ga⟩; refine ⟨_, rfl, ?_⟩
    obtain ⟨vA, vc, rfl, _, _, _⟩ := hvr.reads
    have hMc' : ∀ k, M k → IsC W k := fun k hk => (hMc k hk).1
    have Ta := Turn.grown hMc' ga
    replace hK := hK.step0 ga; replace B9 := B9.step0 ga; replace hsl2 := hsl2.step0 ga
    have hft := filter_take (goodR b x) all i hi
    rw [hri'] at hft
    refine o_v (v_len rfl Tryz.underlying56) ?_
    refine o_v (v_eql rfl rfl) ?_
    refine o_end (k9 _ _ ?_)
    refine s_ifd rfl (fun c9 => ?_) (fun c9 => ?_)
    ·have hgood : goodR b x r = true := by unfold goodR; rw [decide_eq_true_eq]; omega
     rw [hgood, if_pos rfl] at hft
     obtain ⟨ov, hM, KB, hrow⟩ := hK
     refine s_region ?_
     refine o_v (v_loadB rfl sc151 KB rfl) ?_
     refine o_v (v_loadBS rfl ag155 B9 rfl rfl) ?_
     refine o_bslice rfl (fun W => bls151_1 W) ?_; intro wb Bb gb zb
     replace KB := KB.step0 gb; replace hrow := hrow.step0 gb; replace hsl2 := hsl2.step0 gb
     have Tb := Ta.trans (Turn.grown (fun k hk => (Ta.new k hk).1) gb)
     have hlen : ((all.take i).filter (goodR b x)).length ≤ 360 := Nat.le_trans (List.length_filter_le _ _) (by rw [List.length_take]; omega)
     refine o_append1 (t := readT) (p := r) rfl rfl hrow Bb Tryz.underlying151 info155 rfl (readT_iff.2 ⟨A, c, rfl, hc1, hc2, hsl2.mono fun k hk => ⟨⟨hk.1, fun e => hk.2 ((hM k).2 (.inl e))⟩, fun e => hk.2 ((hM k).2 (.inr e.symm))⟩⟩) (fun k hk => by
      have := G.size; have := hfr.size; have := ga.size; have := gb.size; have := g7.size; have := g8.size
      have := B8.lt
      exact ⟨by omega, by omega⟩) (by omega) (by decide) ?_
     intro ov' wc hrow' gcc hat
     obtain ⟨oA, on, oc, hov⟩ := hrow'.one
     have KB' := KB.step gcc (fun e => (hrow.1 _ e.symm).2 rfl)
     refine o_storeB (vs := [ov']) rfl (by rw [hov]; rfl) sz151 rfl KB' rfl (by rw [hov]; rfl) ?_
     intro wd Bd gd zd
     obtain ⟨M', hK', T'⟩ := Kept.add hM hrow' gcc hat Bd gd
     refine o_end ⟨rfl, M', ?_, Tb.trans T'⟩
     rw [hft]
     exact hK'
    ·have hgood : goodR b x r = false := by unfold goodR; rw [decide_eq_false_iff_not]; omega
     rw [hgood, if_neg (by decide), List.append_nil] at hft
     refine s_skip ⟨rfl, M, ?_, Ta⟩
     rw [hft]
     exact hK
   ·intro D M W hD hK hfr hDd
    rw [List.take_of_length_le (by omega)] at hK
    have hflt : all.filter (goodR b x) = lettersL b x := by unfold lettersL; rw [hall]
    rw [hflt] at hK
    obtain ⟨ov, hM, KB, hrow⟩ := hK
    obtain ⟨oA, oc, hov, _, _, _⟩ := hrow.reads
    subst hov
    have hend : ∀ W2, Fz 0 W W2 → Fr (fun k => k ∈ [D]) W W2 → w.grownBy W2 none := fun W2 z2 f2 => by
     have hs8 := G.size
     have hs9 := hfr.size
     refine ⟨f2.os.trans (hfr.os.trans G.os), f2.tape.trans (hfr.tape.trans G.tape), f2.output.trans (hfr.output.trans G.output), by have := f2.size; omega, fun k hk _ => ?_⟩
     have h1 := f2.same k (by omega) (fun h => by rw [List.mem_singleton] at h; omega)
     have h2 := hfr.same k (by omega) (fun h => by have := Gw6.size; omega)
     exact h1.trans (h2.trans (G.block k hk (by simp)))
    refine k7 _ _ ?_
    refine s_seq fun _ k10 => ?_
    refine s_rseq fun _ k11 => ?_
    refine o_v (v_loadB rfl sc151 KB rfl) ?_
    refine o_v (v_len rfl Tryz.underlying151) ?_
    refine o_v (v_eql rfl rfl) ?_
    refine o_end (k11 _ _ ?_)
    refine s_ifd rfl (fun c11 => ?_) (fun c11 => ?_)
    ·refine s_rseq fun _ k12 => ?_
     refine o_v v_assign ?_
     refine o_v v_assign ?_
     refine o_end (k12 _ _ ?_)
     refine s_ret (postM (Ds := [D]) (by simp) (fun D' h => by rw [List.mem_singleton] at h; rw [h]; exact hDd) fun W2 z2 f2 => ⟨_, res_tt rfl, ?_⟩)
     have he : lettersE b x = 7 := by unfold lettersE; rw [if_neg (fun h => h he0), if_pos (by omega)]
     refine ⟨_, congrArg (fun z => Ending.returned (.tuple #[.slice none 0 0, I z])) he.symm, ?_, hend W2 z2 f2⟩
     unfold lettersQ
     rw [he, if_neg (by decide)]
     exact Ty.Row.nil _ _ _ _
    ·refine s_skip ?_
     refine k10 _ _ ?_
     refine s_rseq fun _ k12 => ?_
     refine o_v (v_loadB rfl sc151 KB rfl) ?_
     refine o_v v_assign ?_
     refine o_v v_assign ?_
     refine o_end (k12 _ _ ?_)
     refine s_ret (postM (Ds := [D]) (by simp) (fun D' h => by rw [List.mem_singleton] at h; rw [h]; exact hDd) fun W2 z2 f2 => ⟨_, res_tt rfl, ?_⟩)
     have he : lettersE b x = 0 := by unfold lettersE; rw [if_neg (fun h => h he0), if_neg (by omega)]
     refine ⟨_, congrArg (fun z => Ending.returned (.tuple #[.slice oA (lettersL b x).length oc, I z])) he.symm, ?_, hend W2 z2 f2⟩
     unfold lettersQ
     rw [he, if_pos rfl]
     exact (hrow.fz z2).mono fun k hk => hk.1
end Go.Proofs.NV
