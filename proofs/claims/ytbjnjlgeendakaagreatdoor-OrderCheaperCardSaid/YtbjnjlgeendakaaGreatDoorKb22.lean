/- Part of the proof: from.. -/
import Derived.Test.YtbjnjlgeendakaaGreatDoorKb21
set_option linter.unusedVariables false
set_option maxRecDepth 100000
set_option maxHeartbeats 8000000
set_option linter.unusedSimpArgs false
namespace Go.Proofs.NV
open Go.RowKit Go.Shelf
attribute [local irreducible] bodyPost bodyPostM wpQuiet
structure Grid (W : World) (S : Nat → Prop) (kO : Nat) (vs : List Value) (rows : List (List Int)) : Prop where
 outer : Blk W kO vs 56
 so : S kO
 len : rows.length = vs.length
 row : ∀ i (h : i < vs.length), ∃ r, rows[i]? = some r ∧ Ty.int.Row 3 W (fun k => S k ∧ vs[i].ownBlock = some k) vs[i] r
 off : ∀ i (h : i < vs.length), vs[i].ownBlock ≠ some kO
 apart : ∀ i j (hi : i < vs.length) (hj : j < vs.length) k, i ≠ j → vs[i].ownBlock = some k → vs[j].ownBlock ≠ some k
namespace Grid
variable {W W' : World} {S : Nat → Prop} {kO : Nat} {vs : List Value} {rows : List (List Int)}
theorem step {row : Option Nat} (h : Grid W S kO vs rows) (g : W.grownBy W' row) (hS : ∀ k, S k → some k ≠ row) : Grid W' S kO vs rows where
 outer := h.outer.step g (hS kO h.so)
 so := h.so
 len := h.len
 row i hi := by obtain ⟨r, h1, h2⟩ := h.row i hi; exact ⟨r, h1, h2.step g fun k hk => hS k hk.1⟩
 off := h.off
 apart := h.apart
theorem step0 (h : Grid W S kO vs rows) (g : W.grownBy W' none) : Grid W' S kO vs rows := h.step g (fun _ _ => by simp)
theorem lay (h : Grid W S kO vs rows) {i : Nat} (hi : i < vs.length) {v : Value} {r : List Int} {W1 : World} (hr : Ty.int.Row 3 W1 (fun k => S k ∧ v.ownBlock = some k) v r) (g1 : W.grownBy W1 none) (hn : ∀ k, v.ownBlock = some k → W.heap.size ≤ k)
  (hB : Blk W' kO (over vs (0 + i * 1) [v]) 56) (g2 : W1.grownBy W' (some kO)) : Grid W' S kO (vs.set i v) (rows.set i r) := by
 have ho : over vs (0 + i * 1) [v] = vs.set i v := by rw [over_one (by omega)]; congr 1; omega
 rw [ho] at hB
 have hkO : kO < W.heap.size := h.outer.lt
 have hown : ∀ j (hj : j < vs.length) k, vs[j].ownBlock = some k → k < W.heap.size := fun j hj k hk => by
  obtain ⟨r, _, _, inner, ho, _⟩ := h.row j hj
  exact Ty.own_lt ho k hk
 refine ⟨hB, h.so, by rw [List.length_set, List.length_set]; exact h.len, fun j hj => ?_, fun j hj => ?_, fun a b ha hb k hab h1 => ?_⟩
 ·rw [List.length_set] at hj
  by_cases hij : i = j
  ·subst hij
   refine ⟨r, by rw [List.getElem?_set_self (by rw [h.len]; exact hi)], ?_⟩
   rw [List.getElem_set_self]
   exact hr.step g2 fun k hk e => by injection e with e; have := hn k hk.2; omega
  ·obtain ⟨r', h1, h2⟩ := h.row j hj
   refine ⟨r', by rw [List.getElem?_set_ne hij]; exact h1, ?_⟩
   rw [List.getElem_set_ne hij]
   exact (h2.step0 g1).step g2 fun k hk e => h.off j hj (by rw [hk.2, e])
 ·rw [List.length_set] at hj
  by_cases hij : i = j
  ·subst hij
   rw [List.getElem_set_self]
   intro e
   have := hn kO e
   omega
  ·rw [List.getElem_set_ne hij]; exact h.off j hj
 ·rw [List.length_set] at ha hb
  by_cases h1a : i = a
  ·subst h1a
   rw [List.getElem_set_self] at h1
   rw [List.getElem_set_ne hab]
   intro e
   have := hn k h1
   have := hown b hb k e
   omega
  ·rw [List.getElem_set_ne h1a] at h1
   by_cases h1b : i = b
   ·subst h1b
    rw [List.getElem_set_self]
    intro e
    have := hn k e
    have := hown a ha k h1
    omega
   ·rw [List.getElem_set_ne h1b]
    exact h.apart a b ha hb k hab h1
theorem put (h : Grid W S kO vs rows) {i : Nat} (hi : i < vs.length) {r : List Int} {b : Nat} (hb : vs[i].ownBlock = some b) (g : W.grownBy W' (some b)) (hr : Ty.int.Row 3 W' (fun k => S k ∧ vs[i].ownBlock = some k) vs[i] r) : Grid W' S kO vs (rows.set i r) where
 outer := h.outer.step g (fun e => h.off i hi (by rw [hb, e]))
 so := h.so
 len := by rw [List.length_set]; exact h.len
 row j hj := by
  by_cases hij : i = j
  ·subst hij
   exact ⟨r, by rw [List.getElem?_set_self (by rw [h.len]; exact hi)], hr⟩
  ·obtain ⟨r', h1, h2⟩ := h.row j hj
   exact ⟨r', by rw [List.getElem?_set_ne hij]; exact h1, h2.step g fun k hk e => h.apart i j hi hj b hij hb (by rw [hk.2, e])⟩
 off := h.off
 apart := h.apart
theorem sl (h : Grid W S kO vs rows) : Ty.int.sl.Sl W S (some ⟨kO, 0, none⟩) rows := by
 refine .inr ⟨kO, 0, vs, rfl, h.so, fun j v hv => by rw [h.outer.cell, Nat.zero_add]; exact hv, ?_⟩
 have key : ∀ (vs : List Value) (rows : List (List Int)), rows.length = vs.length → (∀ i (hi : i < vs.length), ∃ r, rows[i]? = some r ∧ Ty.int.sl.rep W S r [vs[i]]) → Reps (Ty.int.sl.rep W S) rows vs := by
  intro vs
  induction vs with
  | nil =>
   intro rows hl _
   have : rows = [] := List.eq_nil_of_length_eq_zero hl
   subst this
   rfl
  | cons v vs ih =>
   intro rows hl hr
   cases rows with
   | nil => cases hl
   | cons r rows =>
    obtain ⟨r0, h1, h2⟩ := hr 0 (by simp)
    simp only [List.getElem?_cons_zero, Option.some.injEq] at h1
    subst h1
    refine ⟨[v], vs, rfl, h2, ih rows (by simpa using hl) fun i hi => ?_⟩
    obtain ⟨r', h3, h4⟩ := hr (i + 1) (by simpa using hi)
    exact ⟨r', by simpa using h3, by simpa using h4⟩
 exact key vs rows h.len fun i hi => by
  obtain ⟨r, h1, h2⟩ := h.row i hi
  exact ⟨r, h1, Ty.hmono _ (fun k hk => hk.1) h2.rep⟩
end Grid
theorem reps_val {w : World} {S : Nat → Prop} : ∀ {xs cs : List Value}, Reps (valT.rep w S) xs cs → cs = xs
 | [], _, h => h
 | x :: xs, _, ⟨c, r, rfl, h1, h2⟩ => by
  obtain ⟨rfl, _⟩ := h1
  rw [reps_val h2]
  rfl
theorem reps_nils {w : World} {S : Nat → Prop} (m : Nat) : Reps (valT.rep w S) (List.replicate m (.slice none 0 0)) (List.replicate m (.slice none 0 0)) := by
 induction m with
 | zero => rfl
 | succ m ih => exact ⟨[.slice none 0 0], _, rfl, ⟨rfl, rfl⟩, ih⟩
structure SellOk (l : List Seller) (wants : List Int) : Prop where
 few : 1 ≤ l.length ∧ l.length ≤ 4
 goods : 1 ≤ wants.length ∧ wants.length ≤ 5
 want : ∀ x ∈ wants, 0 ≤ x ∧ x ≤ 400
 parcel : ∀ s ∈ l, 0 ≤ s.parcel ∧ s.parcel ≤ 1000
 stock : ∀ s ∈ l, s.stock.length = wants.length ∧ ∀ x ∈ s.stock, 0 ≤ x ∧ x ≤ 100
 price : ∀ s ∈ l, s.price.length = wants.length ∧ ∀ x ∈ s.price, 0 ≤ x ∧ x ≤ 1000
theorem badPr_no {n : Nat} {most : Int} {x : List Int} (h : badPr n most x = false) : x.length = n ∧ ∀ v ∈ x, 0 ≤ v ∧ v ≤ most := by
 unfold badPr inB at h
 simp only [Bool.or_eq_false_iff, decide_eq_false_iff_not, Classical.not_not, List.any_eq_false] at h
 refine ⟨by omega, fun v hv => ?_⟩
 have := h.2 v hv
 simp at this
 omega
theorem sell_ok {l : List Seller} {wants : List Int} (h : sellersB l wants = true) : SellOk l wants := by
 unfold sellersB at h
 simp only [Bool.and_eq_true, Bool.not_eq_true', List.any_eq_false, Bool.not_eq_true] at h
 obtain ⟨⟨⟨h1, h2⟩, h3⟩, h4⟩ := h
 unfold inB at h1 h2
 simp only [Bool.and_eq_true, decide_eq_true_eq] at h1 h2
 have hb : ∀ s ∈ l, (inB s.parcel 0 1000 = true ∧ badPr wants.length 100 s.stock = false) ∧ badPr wants.length 1000 s.price = false := fun s hs => by
  have := h4 s hs
  unfold badSell at this
  simpa using this
 refine ⟨by omega, by omega, (badPr_no h3).2, fun s hs => ?_, fun s hs => badPr_no (hb s hs).1.2, fun s hs => badPr_no (hb s hs).2⟩
 have := (hb s hs).1.1
 unfold inB at this
 simp only [Bool.and_eq_true, decide_eq_true_eq] at this
 omega
def stockAt (l : List Seller) (i g : Nat) : Int := ((l[i]?.map (·.stock)).getD [])[g]?.getD 0
def fins (k : Nat) : List (Fin (k + 1)) := List.ofFn fun x => x
theorem fins_len (k : Nat) : (fins k).length = k + 1 := by unfold fins; simp
theorem fins_get (k i : Nat) (h : i < (fins k).length) : (fins k)[i] = ⟨i, by rw [fins_len] at h; exact h⟩ := by simp only [fins, List.getElem_ofFn]
def ordTo (k : Nat) (set : Int) (i : Nat) : List (Fin (k + 1)) := ((fins k).take i).filter fun x => hasB set x.val
theorem ordTo_succ (k : Nat) (set : Int) (i : Nat) (h : i < k + 1) : ordTo k set (i + 1) = ordTo k set i ++ if hasB set i then [⟨i, h⟩] else [] := by
 unfold ordTo
 rw [filter_take _ _ _ (by rw [fins_len]; exact h), fins_get]
theorem ordTo_len (k : Nat) (set : Int) (i : Nat) : (ordTo k set i).length ≤ k + 1 := by
 unfold ordTo
 refine Nat.le_trans (List.length_filter_le _ _) ?_
 rw [List.length_take, fins_len]
 omega
def takeStep (l : List Seller) (g : Nat) (st : List (List Int) × Int) (i : Nat) : List (List Int) × Int :=
 let n := if stockAt l i g < st.2 then stockAt l i g else st.2
 (st.1.set i ((st.1[i]?.getD []).set g n), st.2 - n)
def takeL (l : List Seller) (g k : Nat) (so : List (Fin (k + 1))) (st : List (List Int) × Int) : List (List Int) × Int := so.foldl (fun st x => takeStep l g st x.val) st
def orderOf (l : List Seller) (g k : Nat) (set : Int) : List (Fin (k + 1)) := byPrice l g k (ordTo k set (k + 1)).reverse
def fromTo (l : List Seller) (wants : List Int) (k : Nat) (set : Int) : Nat → Option (List (List Int))
 | 0 => some (List.replicate (k + 1) (List.replicate wants.length 0))
 | g + 1 => (fromTo l wants k set g).bind fun plan => let r := takeL l g k (orderOf l g k set) (plan, wants[g]?.getD 0); if r.2 > 0 then none else some r.1
def fromL (l : List Seller) (wants : List Int) (set : Int) : Option (List (List Int)) := fromTo l wants (l.length - 1) set wants.length
theorem fromTo_none {l : List Seller} {wants : List Int} {k : Nat} {set : Int} {g : Nat} (h : fromTo l wants k set g = none) : ∀ m, fromTo l wants k set (g + m) = none
 | 0 => h
 | m + 1 => by rw [← Nat.add_assoc, fromTo, fromTo_none h m]; rfl
theorem takeL_snoc (l : List Seller) (g k : Nat) (so : List (Fin (k + 1))) (x : Fin (k + 1)) (st : List (List Int) × Int) : takeL l g k (so ++ [x]) st = takeStep l g (takeL l g k so st) x.val := by
 unfold takeL
 rw [List.foldl_append]
 rfl
theorem Grid.mono {W : World} {S S' : Nat → Prop} {kO : Nat} {vs : List Value} {rows : List (List Int)} (h : Grid W S kO vs rows) (hS : ∀ k, S k → S' k) : Grid W S' kO vs rows :=
 ⟨h.outer, hS _ h.so, h.len, fun i hi => by obtain ⟨r, h1, h2⟩ := h.row i hi; exact ⟨r, h1, h2.mono fun k hk => ⟨hS k hk.1, hk.2⟩⟩, h.off, h.apart⟩
theorem Grid.bound {W : World} {S : Nat → Prop} {kO : Nat} {vs : List Value} {rows : List (List Int)} (h : Grid W S kO vs rows) : Grid W (fun k => S k ∧ k < W.heap.size) kO vs rows :=
 ⟨h.outer, ⟨h.so, h.outer.lt⟩, h.len, fun i hi => by obtain ⟨r, h1, h2⟩ := h.row i hi; exact ⟨r, h1, h2.bound.mono fun k hk => ⟨⟨hk.1.1, hk.2.lt⟩, hk.1.2⟩⟩, h.off, h.apart⟩
theorem f154_row {S : Nat → Prop} (v : Value) (xs : List Int) (w : World) (hR : Ty.int.Row 3 w S v xs) (hm : xs.length ≤ 1000000) :
  Calls Tryz.prog 154 #[v] w fun e w' => (∃ u, e = .returned u) ∧ Ty.int.Row 3 w' S v xs.reverse ∧ w.grownBy w' v.ownBlock := by
 by_cases h0 : 0 < xs.length
 ·exact f154_own v xs w hR hm h0
 ·obtain rfl : xs = [] := List.eq_nil_of_length_eq_zero (by omega)
  obtain ⟨A, c, hv, _⟩ := hR.reads
  have hv' : v = .slice A 0 c := hv
  have := f154_empty A c w
  rw [← hv'] at this
  exact this.mono fun e w' ⟨h1, h2⟩ => ⟨h1, hR.step0 h2, grown_weak h2⟩
theorem f155_row {S T : Nat → Prop} (l : List Seller) (k : Nat) (hl1 : l.length = k + 1) (lA : Option Addr) (lc k3 k10 : Nat) (g : Int) (v : Value) (ys : List (Fin (k + 1))) (w : World) (hR : Ty.int.Row 3 w S v (ixs ys)) (hm : ys.length ≤ 19)
  (B3 : Blk w k3 [.slice lA l.length lc] 87) (B10 : Blk w k10 [I g] 3) (hl : sellT.Sl w T lA l) (hne : ∀ b, v.ownBlock = some b → b ≠ k3 ∧ b ≠ k10 ∧ ∀ j, T j → j ≠ b) (hg : ∀ s ∈ l, 0 ≤ g ∧ g < s.price.length) (hb : ∀ s ∈ l, ∀ p ∈ s.price, 0 ≤ p ∧ p ≤ 1000000) :
  Calls Tryz.prog 155 #[v, .func (.func 156) #[] #[ptr k3, ptr k10]] w fun e w' => (∃ u, e = .returned u) ∧ Ty.int.Row 3 w' S v (ixs (byPrice l g k ys)) ∧ w.grownBy w' v.ownBlock := by
 have hxl : (ixs ys).length = ys.length := by unfold ixs; simp
 obtain ⟨A, c, hv, _⟩ := hR.reads
 rw [hxl] at hv
 by_cases h0 : 0 < ys.length
 ·have := f210_own l k hl1 lA lc k3 k10 g v ys w hR (by omega) h0 B3 B10 hl hne hg hb
  rw [hv] at this ⊢
  exact f155_few _ A c _ ys.length hm w this
 ·obtain rfl : ys = [] := List.eq_nil_of_length_eq_zero (by omega)
  have he : byPrice l g k [] = [] := List.eq_nil_of_length_eq_zero (byPrice_len l g k [])
  rw [he]
  have h1 : Calls Tryz.prog 210 #[v, I 0, I 0, .func (.func 156) #[] #[ptr k3, ptr k10]] w fun e w' => (∃ u, e = .returned u) ∧ Ty.int.Row 3 w' S v (ixs ([] : List (Fin (k + 1)))) ∧ w.grownBy w' v.ownBlock := (f210_empty v _ w).mono fun e w' ⟨h1, h2⟩ => ⟨h1, hR.step0 h2, grown_weak h2⟩
  rw [hv] at h1 ⊢
  exact f155_few _ A c _ 0 (by omega) w h1
theorem rep_set {α : Type} (a b : α) (i n : Nat) (h : i < n) : (List.replicate i a ++ List.replicate (n - i) b).set i a = List.replicate (i + 1) a ++ List.replicate (n - (i + 1)) b := by
 rw [List.set_append_right _ _ (by simp)]
 obtain ⟨m, hm⟩ : ∃ m, n - i = m + 1 := ⟨n - i - 1, by omega⟩
 rw [hm, show n - (i + 1) = m by omega, List.length_replicate, Nat.sub_self, List.replicate_succ, List.set_cons_zero, List.replicate_succ', List.append_assoc]
 rfl
theorem takeStep_fine {l : List Seller} {wants : List Int} (h : SellOk l wants) (g : Nat) (st : List (List Int) × Int) (i : Nat) (hst : 0 ≤ st.2 ∧ st.2 ≤ 400) (hl : ∀ r ∈ st.1, r.length = wants.length) : (0 ≤ (takeStep l g st i).2 ∧ (takeStep l g st i).2 ≤ 400) ∧ ∀ r ∈ (takeStep l g st i).1, r.length = wants.length := by
 have hs : 0 ≤ stockAt l i g := by
  unfold stockAt
  cases hi : l[i]? with
  | none => simp
  | some s =>
   have := (h.stock s (List.mem_of_getElem? hi)).2
   rw [Option.map_some, Option.getD_some]
   cases hg : s.stock[g]? with
   | none => simp
   | some x => exact (this x (List.mem_of_getElem? hg)).1
 unfold takeStep
 simp only
 refine ⟨by split <;> omega, fun r hr => ?_⟩
 by_cases hi : i < st.1.length
 ·rcases List.mem_or_eq_of_mem_set hr with hr | rfl
  ·exact hl r hr
  ·rw [List.length_set, List.getElem?_eq_getElem hi, Option.getD_some]
   exact hl _ (List.getElem_mem hi)
 ·rw [List.set_eq_of_length_le (by omega)] at hr
  exact hl r hr
theorem fromTo_zero (l : List Seller) (wants : List Int) (k : Nat) (set : Int) : fromTo l wants k set 0 = some (List.replicate (k + 1) (List.replicate wants.length 0)) := rfl
theorem fromTo_no {l : List Seller} {wants : List Int} {k : Nat} {set : Int} {g : Nat} {plan : List (List Int)} {wg : Int} (h : fromTo l wants k set g = some plan) (hw : wants[g]?.getD 0 = wg) (hp : (takeL l g k (orderOf l g k set) (plan, wg)).2 > 0) : fromTo l wants k set (g + 1) = none := by
 rw [fromTo, h, Option.bind_some]
 simp only
 rw [hw, if_pos hp]
theorem fromTo_yes {l : List Seller} {wants : List Int} {k : Nat} {set : Int} {g : Nat} {plan : List (List Int)} {wg : Int} (h : fromTo l wants k set g = some plan) (hw : wants[g]?.getD 0 = wg) (hp : ¬ (takeL l g k (orderOf l g k set) (plan, wg)).2 > 0) : fromTo l wants k set (g + 1) = some (takeL l g k (orderOf l g k set) (plan, wg)).1 := by
 rw [fromTo, h, Option.bind_some]
 simp only
 rw [hw, if_neg hp]
theorem takeL_zero (l : List Seller) (g k : Nat) (so : List (Fin (k + 1))) (st : List (List Int) × Int) : takeL l g k (so.take 0) st = st := rfl
theorem ordTo_zero (k : Nat) (set : Int) : ordTo k set 0 = [] := rfl
theorem takeL_fine {l : List Seller} {wants : List Int} (h : SellOk l wants) (g k : Nat) (so : List (Fin (k + 1))) : ∀ (st : List (List Int) × Int), 0 ≤ st.2 ∧ st.2 ≤ 400 → (∀ r ∈ st.1, r.length = wants.length) → (0 ≤ (takeL l g k so st).2 ∧ (takeL l g k so st).2 ≤ 400) ∧ ∀ r ∈ (takeL l g k so st).1, r.length = wants.length := by
 unfold takeL
 induction so with
 | nil => exact fun st h1 h2 => ⟨h1, h2⟩
 | cons x so ih =>
  intro st h1 h2
  have := takeStep_fine h g st x.val h1 h2
  exact ih _ this.1 this.2
theorem orderOf_ixs (l : List Seller) (g k : Nat) (set : Int) : ixs (byPrice l g k (ordTo k set (k + 1)).reverse) = ixs (orderOf l g k set) := rfl
theorem orderOf_len (l : List Seller) (g k : Nat) (set : Int) : (orderOf l g k set).length ≤ k + 1 := by
 unfold orderOf
 rw [byPrice_len, List.length_reverse]
 exact ordTo_len k set (k + 1)
theorem ixs_rev {k : Nat} (ys : List (Fin (k + 1))) : (ixs ys).reverse = ixs ys.reverse := by unfold ixs; rw [List.map_reverse]
theorem ixs_len {k : Nat} (ys : List (Fin (k + 1))) : (ixs ys).length = ys.length := by unfold ixs; rw [List.length_map]
theorem ixs_get {k : Nat} (ys : List (Fin (k + 1))) (j : Nat) (h : j < ys.length) : (ixs ys)[j]'(by rw [ixs_len]; exact h) = (ys[j].val : Int) := by unfold ixs; rw [List.getElem_map]
theorem ixs_snoc {k : Nat} (ys : List (Fin (k + 1))) (x : Fin (k + 1)) : ixs (ys ++ [x]) = ixs ys ++ [(x.val : Int)] := by unfold ixs; rw [List.map_append]; rfl
theorem stockAt_get {l : List Seller} {i g : Nat} (hi : i < l.length) (hg : g < l[i].stock.length) : stockAt l i g = l[i].stock[g] := by
 unfold stockAt
 rw [List.getElem?_eq_getElem hi, Option.map_some, Option.getD_some, List.getElem?_eq_getElem hg, Option.getD_some]
theorem takeL_next {l : List Seller} {g k : Nat} {so : List (Fin (k + 1))} {st : List (List Int) × Int} {j : Nat} (hj : j < so.length) {i : Nat} (hi : so[j].val = i) {r : List Int} (hr : (takeL l g k (so.take j) st).1[i]? = some r) {sk : Int} (hs : stockAt l i g = sk) {n : Int}
  (hn : n = if sk < (takeL l g k (so.take j) st).2 then sk else (takeL l g k (so.take j) st).2) : takeL l g k (so.take (j + 1)) st = ((takeL l g k (so.take j) st).1.set i (r.set g n), (takeL l g k (so.take j) st).2 - n) := by
 rw [List.take_succ_eq_append_getElem hj, takeL_snoc, hi]
 unfold takeStep
 rw [hr, hs]
 simp only [← hn, Option.getD_some]
attribute [local irreducible] takeL fromTo orderOf byPrice ordTo
theorem f106_calls {S T : Nat → Prop} (lA : Option Addr) (lc : Nat) (l : List Seller) (wA : Option Addr) (wc : Nat) (wants : List Int) (set : Int) (w : World) (hl : sellT.Sl w S lA l) (hw : Ty.int.Sl w T wA wants) (hok : SellOk l wants) (hset : 0 ≤ set ∧ set ≤ 9223372036854775807) :
  Calls Tryz.prog 106 #[.slice lA l.length lc, .slice wA wants.length wc, I set] w fun e w' => ∃ v, e = .returned (.tuple #[v, .bool (fromL l wants set).isSome]) ∧ (∀ plan, fromL l wants set = some plan → Ty.int.sl.sl.rep w' (fun k => w.heap.size ≤ k) plan [v]) ∧ (fromL l wants set = none → v = .slice none 0 0) ∧ w.grownBy w' none := by
 refine s_enter (n := 88) Tryz.func106 rfl rfl rfl ?_
 have G := grown_refl w none
 obtain ⟨k, hk⟩ : ∃ k, l.length = k + 1 := ⟨l.length - 1, by have := hok.few; omega⟩
 have hfew := hok.few
 have hgoods := hok.goods
 obtain ⟨m, hmw⟩ : ∃ m, m = wants.length := ⟨_, rfl⟩
 have hfrom : fromL l wants set = fromTo l wants k set m := by unfold fromL; rw [hk, Nat.add_sub_cancel, hmw]
 replace hl := hl.bound; replace hw := hw.bound
 refine s_rseq fun _ k1 => ?_
 refine o_box (t := 87) rfl ?_; intro w1 B3 g1 z1
 replace G := G.step0 g1
 refine o_v v_assign ?_
 refine o_v v_assign ?_
 refine o_end (k1 _ _ ?_)
 refine s_rseq fun _ k2 => ?_
 refine o_v (v_loadB rfl sc87 B3 rfl) ?_
 refine o_v (v_len rfl Tryz.underlying87) ?_
 refine o_make (t := valT) (S := fun j => w1.heap.size ≤ j) (xs := List.replicate (k + 1) (.slice none 0 0)) (m := k + 1) (cs := List.replicate (k + 1) (.slice none 0 0)) (by rw [← hk]; rfl) (by rw [← hk]; rfl) Tryz.underlying33 info56 (by rw [show (k + 1) * valT.sz = k + 1 from Nat.mul_one _]; exact toList_madeCells_one _ _) (fun _ _ => reps_nils _) (List.length_replicate) (by omega) (by omega) (fun _ h => h) ?_
 intro wM hout gM zM
 have hG0 : Grid wM (fun j => w1.heap.size ≤ j) w1.heap.size (List.replicate (k + 1) (.slice none 0 0)) (List.replicate 0 (List.replicate m 0) ++ List.replicate (k + 1 - 0) []) := by
  obtain ⟨go, cap, cs, hv, hS, hB, hlc, hc, hm2, hreps⟩ := hout.open_ (by simp)
  have hcs := reps_val hreps
  simp only [List.length_replicate] at hv hc hcs
  obtain ⟨rfl, rfl⟩ : w1.heap.size = go ∧ k + 1 = cap := by simpa using hv
  rw [List.take_of_length_le (by rw [hlc]; exact Nat.le_refl _)] at hcs
  rw [hcs] at hB
  refine ⟨hB, Nat.le_refl _, by simp, fun i hi => ⟨[], ?_, ?_⟩, fun i hi => ?_, fun i j hi hj k' _ h => ?_⟩
  ·rw [List.length_replicate] at hi
   simp [hi]
  ·rw [List.getElem_replicate]; exact Ty.Row.nil _ _ _ _
  ·rw [List.getElem_replicate]; simp [Value.ownBlock]
  ·rw [List.getElem_replicate] at h; simp [Value.ownBlock] at h
 have G1 := G; have B31 := B3
 refine o_v v_assign ?_
 refine o_end (k2 _ _ ?_)
 refine s_seq fun _ k3 => ?_
 refine s_rseq fun _ k4 => ?_
 refine o_v (v_loadB rfl sc87 (B3.step0 gM) rfl) ?_
 refine o_v (v_len rfl Tryz.underlying87) ?_
 refine o_v v_move ?_
 refine o_end (k4 _ _ ?_)
 refine s_block ?_
 refine s_loop (G := Nat) (fun i => [(22, I i)]) [22] [9, 23, 24, 25, 26, 27, 28, 29, 30, 31] (fun i W => (i ≤ k + 1 ∧ ∃ vs : List Value, vs.length = k + 1 ∧ Grid W (fun j => w1.heap.size ≤ j) w1.heap.size vs (List.replicate i (List.replicate m 0) ++ List.replicate (k + 1 - i) [])) ∧ w1.grownBy W none) (fun i => k + 1 - i) (fun _ => rfl) 0 ⟨rfl, trivial⟩ ⟨⟨Nat.zero_le _, _, List.length_replicate, hG0⟩, gM⟩ ?_
 rintro i jv w2 ⟨⟨hi, vs, hvl, hgrid⟩, g2⟩
 replace G := G.step0 g2; replace B3 := B3.step0 g2
 refine s_rseq fun _ k5 => ?_
 refine o_v (v_lss rfl rfl) ?_
 refine o_end (k5 _ _ ?_)
 refine s_seq fun _ k6 => ?_
 refine s_ifd rfl (fun c6 => ?_) (fun c6 => ?_)
 ·have hilt : i < k + 1 := by omega
  refine s_skip ?_
  refine k6 _ _ ?_
  refine s_seq fun _ k7 => ?_
  refine s_block ?_
  refine s_rseq fun _ k8 => ?_
  refine o_v v_move ?_
  refine o_v v_assign ?_
  refine o_end (k8 _ _ ?_)
  refine s_region ?_
  refine o_v v_move ?_
  refine o_v v_move ?_
  refine o_v v_move ?_
  refine o_v (v_len rfl Tryz.underlying56) ?_
  refine o_make (t := Ty.int) (S := fun j => w2.heap.size ≤ j) (xs := List.replicate m 0) (m := m) (cs := List.replicate m (I 0)) (by rw [hmw]; rfl) (by rw [hmw]; rfl) Tryz.underlying56 info3 (by rw [show m * Ty.int.sz = m from Nat.mul_one _]; exact toList_madeCells_one _ _) (fun _ _ => reps_zeros m) (List.length_replicate) (by omega) (by omega) (fun _ h => h) ?_
  intro wR hrow gR zR
  refine o_v (v_index rfl rfl slt33 (by omega)) ?_
  refine o_storeB (vs := [.slice (some ⟨w2.heap.size, 0, none⟩) m m]) rfl rfl sz56 rfl (hgrid.outer.step0 gR) (by rw [Nat.ble_eq]; show 0 + i * 1 + 1 ≤ vs.length; omega) rfl ?_; intro w3 hB3 g3 z3
  have hgrid3 := hgrid.lay (i := i) (by omega) (v := .slice (some ⟨w2.heap.size, 0, none⟩) m m) (r := List.replicate m 0) ((hrow.narrow (fun _ _ _ _ _ h => h)).mono fun j hj => ⟨by have := hrow.1 j hj; have := g2.size; omega, hj⟩) gR (fun j hj => hrow.1 j hj) hB3 g3
  rw [rep_set _ _ _ _ hilt] at hgrid3
  refine o_end ?_
  refine k7 _ _ ?_
  refine s_region ?_
  refine o_v (v_add rfl rfl (by omega)) ?_
  refine o_v v_move ?_
  refine o_end ?_
  refine mid (i + 1) ?_ ?_ ?_
  ·repeat (first | exact off_refl | refine off_cons rfl ?_)
  ·exact ⟨rfl, trivial⟩
  ·exact ⟨⟨⟨hilt, _, by rw [List.length_set]; exact hvl, hgrid3⟩, grown_own (g2.step0 gR) g3 (Nat.le_refl _)⟩, by omega⟩
 ·obtain rfl : i = k + 1 := by omega
  rw [Nat.sub_self, List.replicate_zero, List.append_nil] at hgrid
  refine s_exit ?_
  refine k3 _ _ ?_
  refine s_seq fun _ k9 => ?_
  refine s_rseq fun _ k10 => ?_
  refine o_v v_move ?_
  refine o_v (v_len rfl Tryz.underlying56) ?_
  refine o_v v_move ?_
  refine o_end (k10 _ _ ?_)
  refine s_block ?_
  refine s_loop (G := Nat) (fun g => [(34, I g)]) [34] [10, 11, 12, 13, 15, 16, 35, 36, 37, 38, 39, 40, 41, 42, 43, 44, 45, 46, 47, 48, 49, 50, 51, 52, 53, 54, 55, 56, 57, 58, 59, 60, 61, 62, 63, 64, 65, 66, 67, 68, 69, 70, 71, 72, 73, 74, 75, 76, 77, 78, 79, 80, 81, 82, 83, 84, 85, 86] (fun g W => (g ≤ m ∧ ∃ plan : List (List Int), Grid W (fun j => w1.heap.size ≤ j) w1.heap.size vs plan ∧ fromTo l wants k set g = some plan ∧ ∀ r ∈ plan, r.length = m) ∧ w1.grownBy W none) (fun g => m - g) (fun _ => rfl) 0 ⟨rfl, trivial⟩ ⟨⟨Nat.zero_le _, _, hgrid, by rw [fromTo_zero, hmw], fun r hr => by rw [List.eq_of_mem_replicate hr, List.length_replicate]⟩, g2⟩ ?_
  rintro g jv w4 ⟨⟨hg, plan, hgrid, hfr, hpl⟩, g4⟩
  replace G := G1.step0 g4; replace B3 := B31.step0 g4
  refine s_rseq fun _ k11 => ?_
  refine o_v (v_lss rfl rfl) ?_
  refine o_end (k11 _ _ ?_)
  refine s_seq fun _ k12 => ?_
  refine s_ifd rfl (fun c12 => ?_) (fun c12 => ?_)
  ·have hgm : g < m := by omega
   obtain ⟨bw, ow, rfl, hcw⟩ := (hw.step0 G).int g (by omega)
   obtain ⟨wg, hwg⟩ : ∃ wg, wg = wants[g]'(by omega) := ⟨_, rfl⟩
   have hwgb := hok.want _ (List.getElem_mem (show g < wants.length by omega))
   rw [← hwg] at hcw hwgb
   have hwq : wants[g]?.getD 0 = wg := by rw [List.getElem?_eq_getElem (by omega), hwg]; rfl
   replace hgrid := hgrid.bound
   have hplen : plan.length = k + 1 := by rw [hgrid.len, hvl]
   refine s_skip ?_
   refine k12 _ _ ?_
   refine s_seq fun _ k13 => ?_
   refine s_block ?_
   refine s_rseq fun _ k14 => ?_
   refine o_v v_move ?_
   refine o_v (v_index rfl rfl slt56 (by omega)) ?_
   refine o_v (v_loadC rfl sc3 hcw) ?_
   refine o_allocst ze3 rfl rfl rfl sz3 rfl rfl rfl ?_; intro w5 B10 g5 z5
   replace G := G.step0 g5; replace B3 := B3.step0 g5; replace g4 := g4.step0 g5
   replace hgrid := hgrid.step0 g5
   have G5 := G; have B35 := B3; have B105 := B10; have g45 := g4; have hgrid5 := hgrid
   have hk0 := B3.lt
   have hk1 : w.heap.size < w1.heap.size := B31.lt
   have hk4 : w4.heap.size < w5.heap.size := B10.lt
   have hk14 := g4.size
   refine o_v v_assign ?_
   refine o_end (k14 _ _ ?_)
   refine s_rseq fun _ k15 => ?_
   refine o_v v_assign ?_
   refine o_end (k15 _ _ ?_)
   refine s_seq fun _ k16 => ?_
   refine s_rseq fun _ k17 => ?_
   refine o_v (v_loadB rfl sc87 B3 rfl) ?_
   refine o_v (v_len rfl Tryz.underlying87) ?_
   refine o_v v_move ?_
   refine o_end (k17 _ _ ?_)
   refine s_block ?_
   refine s_loop (G := Nat × Value) (fun g => [(12, g.2), (41, I g.1)]) [12, 41] [13, 42, 43, 44, 45, 46, 47, 48, 49, 50, 51] (fun g W => (g.1 ≤ k + 1 ∧ Ty.int.Row 3 W (fun j => w5.heap.size ≤ j) g.2 (ixs (ordTo k set g.1))) ∧ w5.grownBy W none) (fun g => k + 1 - g.1) (fun _ => rfl) (0, .slice none 0 0) ⟨rfl, rfl, trivial⟩ ⟨⟨Nat.zero_le _, by rw [ordTo_zero]; exact Ty.Row.nil _ _ _ _⟩, grown_refl _ _⟩ ?_
   rintro ⟨i, out⟩ jv w6 ⟨⟨hi, hrow⟩, g6⟩
   simp only at hi hrow
   replace G := G.step0 g6; replace B3 := B3.step0 g6; replace g4 := g4.step0 g6; replace B10 := B10.step0 g6
   refine s_rseq fun _ k18 => ?_
   refine o_v (v_lss rfl rfl) ?_
   refine o_end (k18 _ _ ?_)
   refine s_seq fun _ k19 => ?_
   refine s_ifd rfl (fun c19 => ?_) (fun c19 => ?_)
   ·have hilt : i < k + 1 := by omega
    have hol := ordTo_len k set i
    refine s_skip ?_
    refine k19 _ _ ?_
    refine s_seq fun _ k20 => ?_
    refine s_block ?_
    refine s_rseq fun _ k21 => ?_
    refine o_v v_move ?_
    refine o_v v_assign ?_
    refine o_end (k21 _ _ ?_)
    refine s_rseq fun _ k22 => ?_
    refine o_v v_move ?_
    refine o_v v_move ?_
    refine o_call rfl rfl ent143 ((by have := f143_calls set (i : Int) w6 hset (by omega); exact this)) ?_; rintro _ w7 ⟨rfl, g7⟩; refine ⟨_, rfl, ?_⟩
    replace G := G.step0 g7; replace B3 := B3.step0 g7; replace g4 := g4.step0 g7; replace B10 := B10.step0 g7; replace g6 := g6.step0 g7
    replace hrow := hrow.step0 g7
    refine o_end (k22 _ _ ?_)
    refine s_if rfl (fun c22 => ?_) (fun c22 => ?_)
    ·refine s_region ?_
     refine o_v v_move ?_
     refine o_v v_move ?_
     refine o_bslice rfl (fun W => bls56_1 W) ?_; intro w8 B49 g8 z8
     replace G := G.step0 g8; replace B3 := B3.step0 g8; replace g4 := g4.step0 g8; replace B10 := B10.step0 g8; replace g6 := g6.step0 g8
     replace hrow := hrow.step0 g8
     refine o_append1 (t := Ty.int) (p := (i : Int)) rfl rfl hrow B49 Tryz.underlying56 info3 rfl rfl (fun k hk => by have := g6.size; omega) (by rw [ixs_len]; omega) (by decide) ?_
     intro out' w9 hrow9 g9 hat
     have G9 : w5.grownBy w9 none := grown_ownO g6 g9 (fun b hb => hrow.1 b hb)
     refine o_v v_assign ?_
     refine o_end ?_
     refine k20 _ _ ?_
     refine s_region ?_
     refine o_v (v_add rfl rfl (by omega)) ?_
     refine o_v v_move ?_
     refine o_end ?_
     refine mid (i + 1, out') ?_ ?_ ?_
     ·repeat (first | exact off_refl | refine off_cons rfl ?_)
     ·exact ⟨rfl, rfl, trivial⟩
     ·refine ⟨⟨⟨hilt, ?_⟩, G9⟩, by simp only; omega⟩
      rw [ordTo_succ _ _ _ hilt, if_pos (by simpa using c22), ixs_snoc]
      exact hrow9
    ·refine s_skip ?_
     refine k20 _ _ ?_
     refine s_region ?_
     refine o_v (v_add rfl rfl (by omega)) ?_
     refine o_v v_move ?_
     refine o_end ?_
     refine mid (i + 1, out) ?_ ?_ ?_
     ·repeat (first | exact off_refl | refine off_cons rfl ?_)
     ·exact ⟨rfl, rfl, trivial⟩
     ·refine ⟨⟨⟨hilt, ?_⟩, g6⟩, by simp only; omega⟩
      rw [ordTo_succ _ _ _ hilt, if_neg (by simpa using c22), List.append_nil]
      exact hrow
   ·obtain rfl : i = k + 1 := by omega
    have hol := ordTo_len k set (k + 1)
    refine s_exit ?_
    refine k16 _ _ ?_
    refine s_rseq fun _ k23 => ?_
    refine o_v v_move ?_
    refine o_call rfl rfl ent154 (f154_row out (ixs (ordTo k set (k + 1))) _ hrow (by rw [ixs_len]; omega)) ?_; rintro _ w9 ⟨⟨u9, rfl⟩, hrow9, g9⟩; refine ⟨_, rfl, ?_⟩
    rw [ixs_rev] at hrow9
    have hge : ∀ b, out.ownBlock = some b → w5.heap.size ≤ b := fun b hb => hrow.1 b hb
    replace g6 := grown_ownO g6 g9 hge; replace G := G5.step0 g6; replace B3 := B35.step0 g6; replace B10 := B105.step0 g6
    refine o_end (k23 _ _ ?_)
    refine s_rseq fun _ k24 => ?_
    refine o_v v_move ?_
    refine o_v v_func ?_
    refine o_call rfl rfl ent155 (f155_row l k hk lA lc w.heap.size w4.heap.size g out (ordTo k set (k + 1)).reverse _ hrow9 (by rw [List.length_reverse]; omega) B3 B10 (hl.step0 G) (fun b hb => by have := hge b hb; exact ⟨by omega, by omega, fun j hj => by have := hj.2.lt; omega⟩) (fun s hs => ⟨by omega, by have := (hok.price s hs).1; omega⟩) (fun s hs p hp => by have := (hok.price s hs).2 p hp; omega)) ?_; rintro _ w10 ⟨⟨u10, rfl⟩, hso, g10⟩; refine ⟨_, rfl, ?_⟩
    rw [orderOf_ixs] at hso
    replace g6 := grown_ownO g6 g10 hge; replace G := G5.step0 g6; replace B3 := B35.step0 g6; replace B10 := B105.step0 g6; replace g4 := g45.step0 g6; replace hgrid := hgrid5.step0 g6
    obtain ⟨so, hsoe⟩ : ∃ so, so = orderOf l g k set := ⟨_, rfl⟩
    rw [← hsoe] at hso
    have hsol : so.length ≤ k + 1 := by rw [hsoe]; exact orderOf_len l g k set
    obtain ⟨soA, soc, hsov, hso1, hso2, hsoS⟩ := hso.reads
    rw [ixs_len] at hsov hso1
    subst hsov
    have G10 := G; have B310 := B3; have B1010 := B10; have g410 := g4; have hgrid10 := hgrid
    have hfine := fun j => takeL_fine hok g k (so.take j) (plan, wg) hwgb (by rw [← hmw]; exact hpl)
    refine o_end (k24 _ _ ?_)
    refine s_seq fun _ k25 => ?_
    refine s_rseq fun _ k26 => ?_
    refine o_v v_move ?_
    refine o_v (v_len rfl Tryz.underlying56) ?_
    refine o_v v_move ?_
    refine o_end (k26 _ _ ?_)
    refine s_block ?_
    refine s_loop (G := Nat) (fun j => [(11, I (takeL l g k (so.take j) (plan, wg)).2), (59, I j)]) [11, 59] [15, 16, 60, 61, 62, 63, 64, 65, 66, 67, 68, 69, 70, 71, 72, 73, 74, 75, 76, 77, 78, 79, 80, 81, 82, 83] (fun j W => (j ≤ so.length ∧ Grid W (fun b => w1.heap.size ≤ b ∧ b < w4.heap.size) w1.heap.size vs (takeL l g k (so.take j) (plan, wg)).1) ∧ Fr (fun b => w1.heap.size ≤ b ∧ b < w4.heap.size) w10 W) (fun j => so.length - j) (fun _ => rfl) 0 ⟨by rw [takeL_zero]; rfl, rfl, trivial⟩ ⟨⟨Nat.zero_le _, by rw [takeL_zero]; exact hgrid⟩, Fr.refl _ _⟩ ?_
    rintro j jv w11 ⟨⟨hj, hgrid⟩, f11⟩
    have g4f := fun (W : World) (f : Fr (fun b => w1.heap.size ≤ b ∧ b < w4.heap.size) w10 W) => ((Fr.grown (M := fun _ => False) g410).trans f (fun i hi h => by omega)).g0
    replace g4 := g4f _ f11; replace G := G1.step0 g4; replace B3 := B31.step0 g4; replace B10 := B1010.fr f11 (by omega)
    replace hso := hso.fr f11 (fun b hb h => by omega)
    replace hsoS := hsoS.fr f11 (fun b hb h => by have : w5.heap.size ≤ b := hb; omega)
    refine s_rseq fun _ k27 => ?_
    refine o_v (v_lss rfl rfl) ?_
    refine o_end (k27 _ _ ?_)
    refine s_seq fun _ k28 => ?_
    refine s_ifd rfl (fun c28 => ?_) (fun c28 => ?_)
    ·have hjlt : j < so.length := by omega
     obtain ⟨i, hie⟩ : ∃ i, so[j].val = i := ⟨_, rfl⟩
     have hilt : i < k + 1 := by rw [← hie]; exact so[j].isLt
     obtain ⟨bs, os, rfl, hcs⟩ := hsoS.int j (by rw [ixs_len]; exact hjlt)
     rw [ixs_get _ _ hjlt, hie] at hcs
     obtain ⟨bl, ol, cl, rfl, _, hrepl, hrl⟩ := (hl.step0 G).get i (by omega)
     obtain ⟨sA, sc, pA, pc, rfl, ⟨_, _, hstk⟩, _⟩ := sellT_iff.1 hrepl
     rw [sellT_sz] at hrl
     have hps := hrl 1 _ rfl
     have hsl := (hok.stock _ (List.getElem_mem (show i < l.length by omega))).1
     obtain ⟨bk, ok, rfl, hck⟩ := hstk.int g (by omega)
     have hskb := (hok.stock _ (List.getElem_mem (show i < l.length by omega))).2 _ (List.getElem_mem (show g < l[i].stock.length by omega))
     have hska := stockAt_get (l := l) (i := i) (g := g) (by omega) (by omega)
     obtain ⟨sk, hske⟩ : ∃ sk, sk = l[i].stock[g]'(by omega) := ⟨_, rfl⟩
     rw [← hske] at hck hskb hska
     obtain ⟨r, hr, hrowi⟩ := hgrid.row i (by omega)
     have hrm : r.length = m := by rw [hmw]; exact (hfine j).2 r (List.mem_of_getElem? hr)
     obtain ⟨gb, cap, csr, hvi, hgS, hBr, hcr, hcellr, hput⟩ := hrowi.putI g (by omega)
     rw [hrm] at hvi
     have hcv : w11.cell? ⟨w1.heap.size, 0 + i * 1, none⟩ = some (.slice (some ⟨gb, 0, none⟩) m cap) := by
      rw [hgrid.outer.cell, ← hvi]
      rw [show 0 + i * 1 = i by omega]
      exact List.getElem?_eq_getElem (by omega)
     have hlf := (hfine j).1
     have hgrid0 := hgrid
     refine s_skip ?_
     refine k28 _ _ ?_
     refine s_seq fun _ k29 => ?_
     refine s_block ?_
     refine s_rseq fun _ k30 => ?_
     refine o_v (v_index rfl rfl slt56 (by omega)) ?_
     refine o_v (v_loadC rfl sc3 hcs) ?_
     refine o_v v_assign ?_
     refine o_end (k30 _ _ ?_)
     refine s_seq fun _ k31 => ?_; refine s_quiet mixed (by kernel_rfl) ?_
     refine q_v (fun _ gq => v_move) ?_
     refine q_v (fun _ gq => v_loadB rfl sc87 (B3.step0 gq) rfl) ?_
     refine q_v (fun _ gq => v_move) ?_
     refine q_v (fun _ gq => v_index rfl rfl slt87 (by omega)) ?_
     refine q_v (fun _ gq => v_field rfl fld103_1) ?_
     refine q_v (fun _ gq => v_loadC rfl sc56 (cell0 gq hps)) ?_
     refine q_v (fun _ gq => v_loadB rfl sc3 (B10.step0 gq) rfl) ?_
     refine q_v (fun _ gq => v_index rfl rfl slt56 (by omega)) ?_
     refine q_v (fun _ gq => v_loadC rfl sc3 (cell0 gq hck)) ?_
     refine q_v (fun _ gq => v_min rfl rfl) ?_
     refine q_v (fun _ gq => v_assign) ?_
     refine q_end (fun w12 g12 => k31 _ _ ?_)
     replace G := G.step0 g12; replace B3 := B3.step0 g12; replace g4 := g4.step0 g12; replace B10 := B10.step0 g12
     replace hcv := cell0 g12 hcv; replace hgrid := hgrid.step0 g12; replace hBr := hBr.step0 g12
     refine s_seq fun _ k32 => ?_; refine s_quietT 7 mixed (by kernel_rfl) (by kernel_rfl) ?_
     refine q_v (fun _ gq => v_move) ?_
     refine q_v (fun _ gq => v_move) ?_
     refine q_v (fun _ gq => v_index rfl rfl slt33 (by omega)) ?_
     refine q_v (fun _ gq => v_loadC rfl sc56 (cell0 gq hcv)) ?_
     refine q_v (fun _ gq => v_loadB rfl sc3 (B10.step0 gq) rfl) ?_
     refine q_v (fun _ gq => v_move) ?_
     refine q_v (fun _ gq => v_index rfl rfl slt56 (by omega)) ?_
     refine q_end (fun w13 g13 => ?_)
     replace G := G.step0 g13; replace B3 := B3.step0 g13; replace g4 := g4.step0 g13; replace B10 := B10.step0 g13
     replace hgrid := hgrid.step0 g13; replace hBr := hBr.step0 g13
     refine o_storeB (vs := [I (if sk < (takeL l g k (so.take j) (plan, wg)).2 then sk else (takeL l g k (so.take j) (plan, wg)).2)]) rfl rfl sz3 rfl hBr (by rw [Nat.ble_eq]; simp; omega) rfl ?_; intro w14 hB14 g14 z14
     have hnext := takeL_next (st := (plan, wg)) hjlt hie hr hska rfl
     have g1114 : w11.grownBy w14 (some gb) := World.grownBy.trans (grown_weak (World.grownBy.trans g12 g13)) g14
     have hr14 := hput _ _ hB14 g1114
     have hgrid14 := hgrid0.put (i := i) (by omega) (b := gb) (by rw [hvi]; rfl) g1114 hr14
     have hgbS := hgS.1
     have f14 : Fr (fun b => w1.heap.size ≤ b ∧ b < w4.heap.size) w10 w14 := f11.trans (Fr.of_grown g1114 (fun b hb => by injection hb with hb; subst hb; exact hgbS)) (fun _ _ h => h)
     refine o_end (k32 _ _ ?_)
     refine s_region ?_
     refine o_v v_move ?_
     refine o_v v_move ?_
     refine o_v (v_sub rfl rfl (by split <;> omega)) ?_
     refine o_v v_assign ?_
     refine o_end ?_
     refine k29 _ _ ?_
     refine s_region ?_
     refine o_v (v_add rfl rfl (by omega)) ?_
     refine o_v v_move ?_
     refine o_end ?_
     refine mid (j + 1) ?_ ?_ ?_
     ·repeat (first | exact off_refl | refine off_cons rfl ?_)
     ·have hnx2 := congrArg (fun z : List (List Int) × Int => I z.2) hnext
      exact ⟨hnx2.symm, rfl, trivial⟩
     ·exact ⟨⟨⟨hjlt, by rw [hnext]; exact hgrid14⟩, f14⟩, by omega⟩
    ·obtain rfl : j = so.length := by omega
     have hlf := hfine so.length
     rw [List.take_length] at hgrid hlf
     refine s_exit ?_
     refine k25 _ _ ?_
     refine s_rseq fun _ k33 => ?_
     refine o_v v_move ?_
     refine o_v (v_gtr rfl rfl) ?_
     rw [List.take_length]
     refine o_end (k33 _ _ ?_)
     refine s_ifd rfl (fun c33 => ?_) (fun c33 => ?_)
     ·refine s_rseq fun _ k34 => ?_
      refine o_v v_assign ?_
      refine o_v v_assign ?_
      refine o_end (k34 _ _ ?_)
      refine s_ret (post2 rfl ?_)
      have hnone : fromL l wants set = none := by
       rw [hfrom, show m = (g + 1) + (m - (g + 1)) by omega]
       exact fromTo_none (fromTo_no hfr hwq (by rw [← hsoe]; exact c33)) _
      rw [hnone]
      refine ⟨.slice none 0 0, rfl, ?_⟩
      refine And.intro (fun p hp => nomatch hp) (And.intro (fun _ => rfl) G)
     ·refine s_skip ?_
      refine k13 _ _ ?_
      refine s_region ?_
      refine o_v (v_add rfl rfl (by omega)) ?_
      refine o_v v_move ?_
      refine o_end ?_
      refine mid (g + 1) ?_ ?_ ?_
      ·repeat (first | exact off_refl | refine off_cons rfl ?_)
      ·exact ⟨rfl, trivial⟩
      ·refine ⟨⟨⟨hgm, _, hgrid.mono (fun b hb => hb.1), (by rw [hsoe]; exact fromTo_yes hfr hwq (by rw [← hsoe]; exact c33)), ?_⟩, g4⟩, by omega⟩
       rw [hmw]
       exact hlf.2
  ·refine s_exit ?_
   refine k9 _ _ ?_
   refine s_rseq fun _ k35 => ?_
   refine o_v v_move ?_
   refine o_v v_assign ?_
   refine o_v v_assign ?_
   refine o_end (k35 _ _ ?_)
   refine s_ret (post2 rfl ?_)
   have hgm : g = m := by omega
   rw [hgm] at hfr
   rw [hfrom, hfr]
   have hpl2 : plan.length = k + 1 := by have h1 := hgrid.len; have h2 := hvl; omega
   refine ⟨.slice (some ⟨w1.heap.size, 0, none⟩) (k + 1) (k + 1), rfl, ?_⟩
   refine And.intro (fun p hp => ?_) (And.intro (fun h => nomatch h) G)
   obtain rfl : plan = p := by injection hp
   exact ⟨_, _, by rw [hpl2], by rw [hpl2]; omega, by rw [maxLen_val]; omega, (hgrid.mono (fun b hb => by have := B31.lt; omega)).sl⟩
end Go.Proofs.NV
