/- Part of the proof: More rules: rows of the call's own that grow by append; make; stores into elements; the data of this program.. Walks: isEdition, isNumber, within, has; isBook, Check.. -/
import Derived.Test.YtbjnjlgeendakaaGreatDoorKb2
import Derived.Test.YtbjnjlgeendakaaGreatDoorKb4
set_option linter.unusedVariables false
set_option linter.unusedSimpArgs false
set_option maxRecDepth 100000
namespace Go.Proofs.NV
open Go.RowKit Go.Shelf
namespace Ty
variable {α β : Type}
def flat (k : Nat) (hk : 0 < k) (enc : α → List Value) (hl : ∀ x, (enc x).length = k) (h1 : ∀ x, ∀ u ∈ enc x, u.oneCell' = true) : Ty α where
 sz := k
 rep := fun _ _ x cs => cs = enc x
 hpos := hk
 hlen := fun h => by rw [h]; exact hl _
 hone := fun h u hu => by rw [h] at hu; exact h1 _ u hu
 hmono := fun _ h => h
 hbound := fun h => h
 hmove := fun _ h => h
def Row (t : Ty α) (e : TypeId) (w : World) (S : Nat → Prop) (v : Value) (xs : List α) : Prop :=
 (∀ k, v.ownBlock = some k → S k) ∧ ∃ inner, w.ownsRow 0 e t.sz v xs.length inner ∧ Reps (t.rep w (fun k => S k ∧ some k ≠ v.ownBlock)) xs inner
theorem Row.nil (t : Ty α) (e : TypeId) (w : World) (S : Nat → Prop) : t.Row e w S (.slice none 0 0) [] := ⟨fun k hk => by simp [Value.ownBlock] at hk, [], ⟨by simp, .inl ⟨rfl, rfl⟩⟩, rfl⟩
theorem Row.mono {t : Ty α} {e : TypeId} {w : World} {S S' : Nat → Prop} {v : Value} {xs : List α} (h : t.Row e w S v xs) (hS : ∀ k, S k → S' k) : t.Row e w S' v xs := by
 obtain ⟨h0, inner, ho, hr⟩ := h
 exact ⟨fun k hk => hS k (h0 k hk), inner, ho, hr.imp fun _ _ _ h => t.hmono (fun k hk => ⟨hS k hk.1, hk.2⟩) h⟩
theorem own_isC {w : World} {b : Nat} {e : TypeId} {size n : Nat} {v : Value} {xs : List Value} (h : w.ownsRow b e size v n xs) (k : Nat) (hk : v.ownBlock = some k) : IsC w k := by
 rcases h.2 with ⟨rfl, _⟩ | ⟨g, cap, cur, rfl, hb, hh, _⟩
 ·simp [Value.ownBlock] at hk
 ·have : g = k := by simpa [Value.ownBlock] using hk
  subst this
  exact ⟨_, hh, rfl⟩
theorem own_lt {w : World} {b : Nat} {e : TypeId} {size n : Nat} {v : Value} {xs : List Value} (h : w.ownsRow b e size v n xs) (k : Nat) (hk : v.ownBlock = some k) : k < w.heap.size := (own_isC h k hk).lt
theorem own_move {w w' : World} {b : Nat} {e : TypeId} {size n : Nat} {v : Value} {xs : List Value} (h : w.ownsRow b e size v n xs) (hm : ∀ k, v.ownBlock = some k → w'.heap[k]? = w.heap[k]?) : w'.ownsRow b e size v n xs := by
 obtain ⟨h1, h2⟩ := h
 refine ⟨h1, ?_⟩
 rcases h2 with h2 | ⟨g, cap, cur, rfl, hg, hh, r⟩
 ·exact .inl h2
 ·exact .inr ⟨g, cap, cur, rfl, hg, (hm g (by simp [Value.ownBlock])).trans hh, r⟩
theorem Row.bound {t : Ty α} {e : TypeId} {w : World} {S : Nat → Prop} {v : Value} {xs : List α} (h : t.Row e w S v xs) : t.Row e w (fun k => S k ∧ IsC w k) v xs := by
 obtain ⟨h0, inner, ho, hr⟩ := h
 exact ⟨fun k hk => ⟨h0 k hk, own_isC ho k hk⟩, inner, ho, hr.imp fun _ _ _ h => t.hmono (fun k hk => ⟨⟨hk.1.1, hk.2⟩, hk.1.2⟩) (t.hbound h)⟩
theorem Row.move {t : Ty α} {e : TypeId} {w w' : World} {S : Nat → Prop} {v : Value} {xs : List α} (hm : ∀ k, S k → IsC w k → w'.heap[k]? = w.heap[k]?) (h : t.Row e w S v xs) : t.Row e w' S v xs := by
 obtain ⟨h0, inner, ho, hr⟩ := h
 exact ⟨h0, inner, own_move ho (fun k hk => hm k (h0 k hk) (own_isC ho k hk)), hr.imp fun _ _ _ h => t.hmove (fun k hk hlt => hm k hk.1 hlt) h⟩
theorem Row.step {t : Ty α} {e : TypeId} {w w' : World} {S : Nat → Prop} {v : Value} {xs : List α} {row : Option Nat} (h : t.Row e w S v xs) (hg : w.grownBy w' row) (hS : ∀ k, S k → some k ≠ row) : t.Row e w' S v xs :=
 Row.move (fun k hk hlt => hg.block k hlt.lt (hS k hk)) h
theorem Row.step0 {t : Ty α} {e : TypeId} {w w' : World} {S : Nat → Prop} {v : Value} {xs : List α} (h : t.Row e w S v xs) (hg : w.grownBy w' none) : t.Row e w' S v xs := h.step hg (fun _ _ => by simp)
theorem Row.reads {t : Ty α} {e : TypeId} {w : World} {S : Nat → Prop} {v : Value} {xs : List α} (h : t.Row e w S v xs) : ∃ A c, v = .slice A xs.length c ∧ xs.length ≤ c ∧ c ≤ maxLen ∧ t.Sl w S A xs := by
 obtain ⟨h0, inner, ⟨hl, ho⟩, hr⟩ := h
 rcases ho with ⟨rfl, hn⟩ | ⟨g, cap, cur, rfl, _, hh, hnc, hcm, hcs, htake⟩
 ·exact ⟨none, 0, by rw [hn], by omega, by unfold maxLen; omega, .inl (List.eq_nil_of_length_eq_zero hn)⟩
 ·refine ⟨_, cap, rfl, hnc, hcm, .inr ⟨g, 0, inner, rfl, h0 g (by simp [Value.ownBlock]), fun j u hu => ?_, hr.imp fun _ _ _ h => t.hmono (fun k hk => hk.1) h⟩⟩
  rw [cell_of_row w g (0 + j) cur e (0, 0) hh, Nat.zero_add, ← Array.getElem?_toList]
  rw [← htake, List.getElem?_take] at hu
  split at hu
  ·exact hu
  ·cases hu
theorem Row.rep {t : Ty α} {e : TypeId} {w : World} {S : Nat → Prop} {v : Value} {xs : List α} (h : t.Row e w S v xs) : t.sl.rep w S xs [v] := by
 obtain ⟨A, c, rfl, h1, h2, h3⟩ := h.reads
 exact ⟨A, c, rfl, h1, h2, h3⟩
theorem Row.append {P : Program} {t : Ty α} {tt e ty : TypeId} {z : Value} {bytes : Nat} {w : World} {S : Nat → Prop} {v : Value} {xs ys : List α} {a : Addr} {c m : Nat} {news : List Value}
  (h : t.Row e w S v xs) (htt : P.underlying tt = some (.slice e)) (hinfo : (P.info? e).map (fun i => (i.zero, i.size, i.bytes)) = some (some z, t.sz, bytes)) (hz : z.cells.size = t.sz)
  (hn : Reps (t.rep w (fun k => S k ∧ some k ≠ v.ownBlock)) ys news) (hm : ys.length = m) (hcell : ∀ j u, news[j]? = some u → w.cell? (a.add j) = some u) (hfresh : ∀ k, w.heap.size ≤ k → S k)
  (hb : (xs.length + m) * bytes ≤ 140737488355328) (hb0 : 0 < bytes) :
  ∃ v' w', (Builtin.append_ #[tt, tt] ty #[v, .slice (some a) m c]).run P w = .ok v' w' ∧ t.Row e w' S v' (xs ++ ys) ∧ w.grownBy w' v.ownBlock ∧ (v'.ownBlock = v.ownBlock ∨ v'.ownBlock = some w.heap.size) := by
 obtain ⟨h0, inner, ho, hr⟩ := h
 obtain ⟨i, hi, hzz⟩ := Option.map_eq_some_iff.1 hinfo
 simp only [Prod.mk.injEq] at hzz
 obtain ⟨hz0, hz1, hz2⟩ := hzz
 have hlen : xs.length + m ≤ 140737488355328 := Nat.le_trans (Nat.le_mul_of_pos_right _ hb0) hb
 obtain ⟨v', w', hrun, hown, hg, _, hat⟩ := run_append_own_at (P := P) (w := w) 0 tt ty e i z t.sz bytes htt hi hz0 hz1 hz2 hz t.hpos v xs.length inner ho a m c news
  (by rw [hn.len (fun _ _ h => t.hlen h), hm]) hcell (Reps.mem (fun _ _ h => t.hone h) hn) (by unfold maxLen; omega) hb (Nat.zero_le _)
 have hne : ∀ k, some k ≠ v.ownBlock → k < w.heap.size → some k ≠ v'.ownBlock := by
  intro k hk hlt
  rcases hat with hat | hat
  ·rw [hat]; exact hk
  ·rw [hat]; simp; omega
 have step : ∀ {x : α} {cs : List Value}, t.rep w (fun k => S k ∧ some k ≠ v.ownBlock) x cs → t.rep w' (fun k => S k ∧ some k ≠ v'.ownBlock) x cs := fun hx =>
  t.hmono (fun k hk => ⟨hk.1.1, hne k hk.1.2 hk.2.lt⟩) (t.hmove (fun k hk hlt => hg.block k hlt.lt hk.1.2) (t.hbound hx))
 refine ⟨v', w', hrun, ⟨fun k hk => ?_, inner ++ news, by rw [List.length_append, hm]; exact hown, (hr.imp fun _ _ _ h => step h).append (hn.imp fun _ _ _ h => step h)⟩, hg, hat⟩
 rcases hat with hat | hat
 ·exact h0 k (hat ▸ hk)
 ·rw [hat] at hk
  injection hk with hk
  exact hfresh k (by omega)
end Ty
theorem over_one {cs : List Value} {o : Nat} {u : Value} (h : o < cs.length) : over cs o [u] = cs.set o u := by
 unfold over
 rw [List.set_eq_take_append_cons_drop, if_pos h, List.append_assoc]
 rfl
theorem Reps.set {α : Type} {R : α → List Value → Prop} {sz : Nat} (hl : ∀ x c, R x c → c.length = sz) {x' : α} {off : Nat} {u : Value} (ho : off < sz) : ∀ {xs : List α} {cs : List Value} (i : Nat), Reps R xs cs → i < xs.length → R x' (((cs.drop (i * sz)).take sz).set off u) → Reps R (xs.set i x') (cs.set (i * sz + off) u)
 | [], cs, i, _, hi, _ => by cases hi
 | x :: xs, _, 0, ⟨c, r, rfl, h1, h2⟩, _, hx => by
  have hc := hl _ _ h1
  simp only [Nat.zero_mul, List.drop_zero, Nat.zero_add, List.set_cons_zero] at hx ⊢
  rw [List.take_left' hc] at hx
  exact ⟨c.set off u, r, by rw [List.set_append_left _ _ (by omega)], hx, h2⟩
 | x :: xs, _, i + 1, ⟨c, r, rfl, h1, h2⟩, hi, hx => by
  have hc := hl _ _ h1
  have e : (c ++ r).drop ((i + 1) * sz) = r.drop (i * sz) := by
   rw [show (i + 1) * sz = c.length + i * sz by rw [hc, Nat.succ_mul, Nat.add_comm], ← List.drop_drop, List.drop_left]
  rw [e] at hx
  refine ⟨c, r.set (i * sz + off) u, ?_, h1, Reps.set hl ho i h2 (by simpa using hi) hx⟩
  rw [List.set_append_right _ _ (by rw [hc, Nat.succ_mul]; omega)]
  congr 2
  rw [hc, Nat.succ_mul]
  omega
namespace Ty
theorem Row.put {α : Type} {t : Ty α} {e : TypeId} {w : World} {S : Nat → Prop} {v : Value} {xs : List α} (h : t.Row e w S v xs) (i : Nat) (hi : i < xs.length) :
  ∃ g cap cs, v = .slice (some ⟨g, 0, none⟩) xs.length cap ∧ S g ∧ Blk w g cs e ∧ xs.length * t.sz ≤ cs.length ∧ xs.length ≤ cap ∧ cap ≤ maxLen ∧ t.rep w (fun k => S k ∧ k ≠ g) xs[i] ((cs.drop (i * t.sz)).take t.sz) ∧
   ∀ off u w' x', off < t.sz → t.rep w (fun k => S k ∧ k ≠ g) x' (((cs.drop (i * t.sz)).take t.sz).set off u) → u.oneCell' = true → Blk w' g (over cs (i * t.sz + off) [u]) e → w.grownBy w' (some g) → t.Row e w' S v (xs.set i x') := by
 obtain ⟨h0, inner, ⟨hl, ho⟩, hr⟩ := h
 rcases ho with ⟨rfl, hn⟩ | ⟨g, cap, cur, rfl, hb, hh, hnc, hcm, hcs, htake⟩
 ·omega
 have hS : (fun k => S k ∧ some k ≠ (Value.slice (some ⟨g, 0, none⟩) xs.length cap).ownBlock) = fun k => S k ∧ k ≠ g := by
  funext k
  simp [Value.ownBlock]
 rw [hS] at hr
 have hle : xs.length * t.sz ≤ cur.size := by rw [hcs]; exact Nat.mul_le_mul_right _ hnc
 have hrow : i * t.sz + t.sz ≤ xs.length * t.sz := by rw [← Nat.succ_mul]; exact Nat.mul_le_mul_right _ hi
 have hsub : (inner.drop (i * t.sz)).take t.sz = (cur.toList.drop (i * t.sz)).take t.sz := by
  rw [← htake, List.drop_take, List.take_take, Nat.min_eq_left (by omega)]
 have hget := hr.get (fun _ _ h => t.hlen h) i hi
 refine ⟨g, cap, cur.toList, rfl, h0 g (by simp [Value.ownBlock]), by simpa [Blk] using hh, by simpa using hle, hnc, hcm, by rw [← hsub]; exact hget, fun off u w' x' hoff hx hu hB hg => ?_⟩
 rw [over_one (by simp; omega)] at hB
 have hI : (cur.toList.set (i * t.sz + off) u).take (xs.length * t.sz) = inner.set (i * t.sz + off) u := by
  rw [← htake, List.take_set]
 rw [← hsub] at hx
 have hR := Reps.set (fun _ _ h => t.hlen h) hoff i hr hi hx
 refine ⟨fun k hk => h0 k hk, inner.set (i * t.sz + off) u, ⟨by rw [List.length_set, List.length_set]; exact hl, .inr ⟨g, cap, (cur.toList.set (i * t.sz + off) u).toArray, by rw [List.length_set], hb, hB, by rw [List.length_set]; exact hnc, hcm, by simpa using hcs, by rw [List.length_set]; exact hI⟩⟩, ?_⟩
 exact hR.imp fun x c _ hx => t.hmono (fun k hk => ⟨hk.1, by simp only [Value.ownBlock, ne_eq, Option.some.injEq]; exact hk.2⟩) (t.step hx hg (fun k hk => by intro e; injection e with e; exact hk.2 e))
end Ty
theorem Reps.put {α : Type} {R : α → List Value → Prop} {sz : Nat} (hl : ∀ x c, R x c → c.length = sz) {x' : α} {vs : List Value} (hx : R x' vs) : ∀ {xs : List α} {cs : List Value} (i : Nat), Reps R xs cs → i < xs.length → Reps R (xs.set i x') (over cs (i * sz) vs)
 | [], cs, i, _, hi => by cases hi
 | x :: xs, _, 0, ⟨c, r, rfl, h1, h2⟩, _ => by
  have hc := hl _ _ h1
  have hv := hl _ _ hx
  refine ⟨vs, r, ?_, hx, h2⟩
  unfold over
  rw [Nat.zero_mul, List.take_zero, List.nil_append, Nat.zero_add, List.drop_left' (by rw [hc, hv])]
 | x :: xs, _, i + 1, ⟨c, r, rfl, h1, h2⟩, hi => by
  have hc := hl _ _ h1
  refine ⟨c, over r (i * sz) vs, ?_, h1, Reps.put hl hx i h2 (by simpa using hi)⟩
  unfold over
  rw [show (i + 1) * sz = c.length + i * sz by rw [hc, Nat.succ_mul, Nat.add_comm], List.take_length_add_append, Nat.add_assoc, List.drop_length_add_append]
  simp only [List.append_assoc]
namespace Ty
theorem Row.open_ {α : Type} {t : Ty α} {e : TypeId} {w : World} {S : Nat → Prop} {v : Value} {xs : List α} (h : t.Row e w S v xs) (hi : 0 < xs.length) :
  ∃ g cap cs, v = .slice (some ⟨g, 0, none⟩) xs.length cap ∧ S g ∧ Blk w g cs e ∧ cs.length = cap * t.sz ∧ xs.length ≤ cap ∧ cap ≤ maxLen ∧ Reps (t.rep w (fun k => S k ∧ k ≠ g)) xs (cs.take (xs.length * t.sz)) := by
 obtain ⟨h0, inner, ⟨hl, ho⟩, hr⟩ := h
 rcases ho with ⟨rfl, hn⟩ | ⟨g, cap, cur, rfl, hb, hh, hnc, hcm, hcs, htake⟩
 ·omega
 exact ⟨g, cap, cur.toList, rfl, h0 g (by simp [Value.ownBlock]), by simpa [Blk] using hh, by simpa using hcs, hnc, hcm, by rw [htake]; exact hr.imp fun x c _ h => t.hmono (fun k hk => ⟨hk.1, by have := hk.2; simpa [Value.ownBlock] using this⟩) h⟩
theorem Row.close {α : Type} {t : Ty α} {e : TypeId} {w : World} {S : Nat → Prop} {ys : List α} {g cap : Nat} {cs : List Value} (hS : S g) (hb : Blk w g cs e) (hl : cs.length = cap * t.sz) (hc : ys.length ≤ cap) (hm : cap ≤ maxLen) (hr : Reps (t.rep w (fun k => S k ∧ k ≠ g)) ys (cs.take (ys.length * t.sz))) :
  t.Row e w S (.slice (some ⟨g, 0, none⟩) ys.length cap) ys := by
 refine ⟨fun k hk => by simp only [Value.ownBlock, Option.some.injEq] at hk; rw [← hk]; exact hS, cs.take (ys.length * t.sz), ⟨?_, .inr ⟨g, cap, cs.toArray, rfl, Nat.zero_le _, hb, hc, hm, by simpa using hl, by simp⟩⟩, hr.imp fun x c _ h => t.hmono (fun k hk => ⟨hk.1, by simp only [Value.ownBlock, ne_eq, Option.some.injEq]; exact hk.2⟩) h⟩
 rw [List.length_take, Nat.min_eq_left]
 rw [hl]
 exact Nat.mul_le_mul_right _ hc
end Ty
theorem over_length {cs vs : List Value} {o : Nat} (h : o + vs.length ≤ cs.length) : (over cs o vs).length = cs.length := by unfold over; simp; omega
theorem over_take {cs vs : List Value} {o m : Nat} (h : m ≤ o) (ho : o ≤ cs.length) : (over cs o vs).take m = cs.take m := by
 unfold over
 rw [List.append_assoc, List.take_append_of_le_length (by rw [List.length_take]; omega), List.take_take, Nat.min_eq_left h]
theorem over_take2 {cs vs : List Value} {o m : Nat} (h : o + vs.length ≤ m) (hm : m ≤ cs.length) : (over cs o vs).take m = over (cs.take m) o vs := by
 unfold over
 rw [List.take_append, List.take_of_length_le (by simp; omega), List.take_take, Nat.min_eq_left (by omega), List.drop_take]
 congr 1
 congr 1
 simp
 omega
theorem run_sz' {P : Program} {w : World} {et sz : TypeId} (h : (P.info? et).map (·.size) = some sz) : (sizeOf et).run P w = .ok sz w := by
 obtain ⟨j, hj, hs⟩ := Option.map_eq_some_iff.1 h
 simp [sizeOf, typeInfo, hj, hs]
section ops
variable {r : Option Nat} {P : Program} {ops : Array Oper} {Q : Exit → Act → World → Prop} {rest : List Oper} {n : Nat} {e : Env} {ds : List Deferred} {w : World} {d : Nat} {ty : TypeId} {ps : String} {af : Array Edge} {α : Type}
theorem run_append_exec {tt : TypeId} {x y : Operand} {v u v' : Value} {w' : World} (hx : ev n e x = v) (hy : ev n e y = u) (hrun : (Builtin.append_ #[tt, tt] ty #[v, u]).run P w = .ok v' w') :
  (execOp (ev n e) ⟨some d, .call { callee := .builtin .append, args := #[x, y], argTypes := #[tt, tt] }, ty, ps, af, none⟩).run P w = .ok (.value v') w' := by
 have h : (#[x, y] : Array Operand).map (ev n e) = #[v, u] := by simp [hx, hy]
 simp [execOp, resolve, invoke, builtin, h, hrun, hx, hy]
theorem v_nilS {t et yt : TypeId} {x y : Operand} {A : Option Addr} {k c : Nat} (hx : ev n e x = .slice A k c) (hy : ev n e y = .slice none 0 0) (ht : P.underlying t = some (.slice et)) :
  (execOp (ev n e) ⟨some d, .binOp .eql t x y yt, ty, ps, af, none⟩).run P w = .ok (.value (.bool A.isNone)) w := by
 have h1 : (Op.equal t (.slice A k c) (.slice none 0 0)).run P w = .ok A.isNone w := by
  have h0 : ∀ dd, (Op.equalIn (dd + 1) t (.slice A k c) (.slice none 0 0)).run P w = .ok A.isNone w := by
   intro dd
   unfold Op.equalIn
   rw [Sem.run_bind, run_underlying ht w]
   cases A <;> rfl
  exact h0 9999
 have h2 : (binOp .eql t (.slice A k c) (.slice none 0 0)).run P w = .ok (.bool A.isNone) w := by
  show ((do pure (.bool (← Op.equal t (.slice A k c) (.slice none 0 0))) : Sem Value)).run P w = _
  rw [Sem.run_bind, h1]; rfl
 simp only [execOp, hx, hy, Sem.run_bind, eqGuard]
 simp [h2, Result.andThen]
theorem o_clear {t et : TypeId} {z : Value} {zs0 : List Value} {x : Operand} {A : Option Addr} {b o k c : Nat} {cs : List Value} {bt : TypeId} (hx : ev n e x = .slice A k c) (hA : k = 0 ∨ A = some ⟨b, o, none⟩) (ht : P.underlying t = some (.slice et)) (hz : Ze P et z) (hzs : z.cells.toList = zs0) (hz1 : zs0.all (·.oneCell') = true) (hz0 : 0 < zs0.length)
  (hb : Blk w b cs bt) (hle : k = 0 ∨ o + k * zs0.length ≤ cs.length)
  (h : ∀ w' zs, zs.length = k * zs0.length → Blk w' b (over cs o zs) bt → w.grownBy w' (some b) → w'.heap.size = w.heap.size → wl r P ops Q rest (act n e ds) w') :
  wl r P ops Q (⟨none, .call { callee := .builtin .clear, args := #[x], argTypes := #[t] }, ty, ps, af, none⟩ :: rest) (act n e ds) w := by
 have hrunto : ∀ w', (Builtin.clear_ #[t] ty #[.slice A k c]).run P w = .ok (.tuple #[]) w' → wl r P ops Q rest (act n e ds) w' → wl r P ops Q (⟨none, .call { callee := .builtin .clear, args := #[x], argTypes := #[t] }, ty, ps, af, none⟩ :: rest) (act n e ds) w := by
  intro w' hrun hw
  rw [wl_cons, if_pos (by rfl), Oper.semAt_eq _ _ _ (fun _ => by simp), act_eval]
  have : (execOp (ev n e) ⟨none, .call { callee := .builtin .clear, args := #[x], argTypes := #[t] }, ty, ps, af, none⟩).run P w = .ok (.value (.tuple #[])) w' := by simp [execOp, resolve, invoke, builtin, hx, hrun]
  rw [this]
  exact hw
 by_cases hk : k = 0
 ·subst hk
  refine hrunto w ?_ (h w [] (by simp) (by unfold over; simpa using hb) (grown_refl _ _) rfl)
  cases A <;> simp [Builtin.clear_, run_underlying ht]
 ·obtain rfl : A = some ⟨b, o, none⟩ := hA.resolve_left hk
  have hle' := hle.resolve_left hk
  have hzc : z.cells = zs0.toArray := by rw [← hzs]
  have hlen : (Builtin.zeroCells z.cells k).toList.length = k * zs0.length := by simp [Builtin.zeroCells, hzc]
  have hone : ∀ v ∈ (Builtin.zeroCells z.cells k).toList, v.oneCell' = true := by
   intro v hv
   simp only [Builtin.zeroCells, hzc, Array.toList_map, List.mem_map, Array.mem_toList_iff, Array.mem_range, List.size_toArray] at hv
   obtain ⟨i, _, rfl⟩ := hv
   have hi : i % zs0.length < zs0.length := Nat.mod_lt _ hz0
   simp only [List.getElem!_toArray, getElem!_pos, hi]
   exact (List.all_eq_true.1 hz1) _ (List.getElem_mem hi)
  obtain ⟨zs, hzz⟩ : ∃ zs, zs = (Builtin.zeroCells z.cells k).toList := ⟨_, rfl⟩
  rw [← hzz] at hlen hone
  have hcl : ∀ j, j < zs.length → (w.cell? ⟨b, o + j, none⟩).isSome = true := fun j hj => by rw [hb.cell]; simp; omega
  have hfz : ∀ j, w.frozen? ⟨b, o + j, none⟩ = false := fun j => by simp only [World.frozen?]; rw [show w.heap[(⟨b, o + j, none⟩ : Addr).block]? = _ from hb]; simp
  have hst := run_storeCells_cells (P := P) b o zs 0 w (fun j hj => by simpa using hcl j hj) (fun j hj => by simpa using hfz j) hone
  simp only [Nat.add_zero] at hst
  obtain ⟨i, hi, hzv⟩ := Option.bind_eq_some_iff.1 hz
  refine hrunto (w.setCells b o zs) ?_ (h _ zs hlen (setCells_blk zs o hb (by omega)) (setCells_grown b zs o w).1 (setCells_grown b zs o w).2)
  cases k with
  | zero => exact absurd rfl hk
  | succ k => simp [Builtin.clear_, run_underlying ht, zeroValue, typeInfo, hi, hzv, ← hzz, hst]
theorem o_allocst {t : TypeId} {z : Value} {cs vs : List Value} {x y : Operand} {ty2 : TypeId} {ps2 : String} {af2 : Array Edge} {k : Nat} (hz : Ze P t z) (hc : z.cells.toList = cs) (hx : ev n ((d, .pointer (some ⟨w.heap.size, 0, none⟩)) :: e) x = .pointer (some ⟨w.heap.size, 0, none⟩))
  (hv : (ev n ((d, .pointer (some ⟨w.heap.size, 0, none⟩)) :: e) y).cells.toList = vs) (hsz : (P.info? t).map (·.size) = some k) (hk : vs.length = k) (hl : cs.length = k) (h1 : vs.all (·.oneCell') = true)
  (h : ∀ w', Blk w' w.heap.size vs t → w.grownBy w' none → w'.heap.size = w.heap.size + 1 → wl r P ops Q rest (act n ((d, .pointer (some ⟨w.heap.size, 0, none⟩)) :: e) ds) w') :
  wl r P ops Q (⟨some d, .alloc t, ty, ps, af, none⟩ :: ⟨none, .store t x y, ty2, ps2, af2, none⟩ :: rest) (act n e ds) w := by
 refine o_alloc hz hc ?_
 intro w1 B1 g1 z1
 refine o_storeB hx hv hsz hk B1 (by rw [Nat.ble_eq]; omega) h1 ?_
 intro w2 B2 g2 z2
 refine h w2 ?_ ⟨g2.os.trans g1.os, g2.tape.trans g1.tape, g2.output.trans g1.output, by omega, fun k hk _ => (g2.block k (by omega) (by simp; omega)).trans (g1.block k hk (by simp))⟩ (by omega)
 have : over cs 0 vs = vs := by
  unfold over
  rw [List.take_zero, List.nil_append, Nat.zero_add, List.drop_eq_nil_of_le (by omega), List.append_nil]
 rwa [this] at B2
theorem o_allocst1 {t : TypeId} {z : Value} {cs vs : List Value} {d1 : Nat} {x y y1 : Operand} {ty1 ty2 : TypeId} {ps1 ps2 : String} {af1 af2 : Array Edge} {k : Nat} (hz : Ze P t z) (hc : z.cells.toList = cs) (hx : ev n ((d1, ev n ((d, .pointer (some ⟨w.heap.size, 0, none⟩)) :: e) y1) :: (d, .pointer (some ⟨w.heap.size, 0, none⟩)) :: e) x = .pointer (some ⟨w.heap.size, 0, none⟩))
  (hv : (ev n ((d1, ev n ((d, .pointer (some ⟨w.heap.size, 0, none⟩)) :: e) y1) :: (d, .pointer (some ⟨w.heap.size, 0, none⟩)) :: e) y).cells.toList = vs) (hsz : (P.info? t).map (·.size) = some k) (hk : vs.length = k) (hl : cs.length = k) (h1 : vs.all (·.oneCell') = true)
  (h : ∀ w', Blk w' w.heap.size vs t → w.grownBy w' none → w'.heap.size = w.heap.size + 1 → wl r P ops Q rest (act n ((d1, ev n ((d, .pointer (some ⟨w.heap.size, 0, none⟩)) :: e) y1) :: (d, .pointer (some ⟨w.heap.size, 0, none⟩)) :: e) ds) w') :
  wl r P ops Q (⟨some d, .alloc t, ty, ps, af, none⟩ :: ⟨some d1, .assign y1, ty1, ps1, af1, none⟩ :: ⟨none, .store t x y, ty2, ps2, af2, none⟩ :: rest) (act n e ds) w := by
 refine o_alloc hz hc ?_
 intro w1 B1 g1 z1
 refine o_v v_assign ?_
 refine o_storeB hx hv hsz hk B1 (by rw [Nat.ble_eq]; omega) h1 ?_
 intro w2 B2 g2 z2
 refine h w2 ?_ ⟨g2.os.trans g1.os, g2.tape.trans g1.tape, g2.output.trans g1.output, by omega, fun k hk _ => (g2.block k (by omega) (by simp; omega)).trans (g1.block k hk (by simp))⟩ (by omega)
 have : over cs 0 vs = vs := by
  unfold over
  rw [List.take_zero, List.nil_append, Nat.zero_add, List.drop_eq_nil_of_le (by omega), List.append_nil]
 rwa [this] at B2
theorem v_indexA {t et len : TypeId} {x y : Operand} {k : IntKind} {i : Int} {cs : List Value} {v : Value} (hx : ev n e x = .agg cs.toArray) (hy : ev n e y = .int k i) (ht : P.underlying t = some (.array len et)) (he : Sc P et) (h0 : 0 ≤ i ∧ i < len) (hv : cs[i.toNat]? = some v) :
  (execOp (ev n e) ⟨some d, .index t x y, ty, ps, af, none⟩).run P w = .ok (.value v) w := by
 obtain ⟨⟨dd, hu, hd⟩, hsz⟩ := he
 have hagg : (isAgg et).run P w = .ok false w := by
  unfold isAgg
  rw [Sem.run_bind, run_underlying hu w]
  cases dd <;> simp_all
 simp [execOp, Instr.index, hx, hy, asIntOf, run_underlying ht, h0, run_sz' hsz, part, hagg, hv]
theorem o_append1 {t : Ty α} {tt et : TypeId} {z : Value} {bytes : Nat} {S : Nat → Prop} {x y : Operand} {v : Value} {xs : List α} {p : α} {b : Nat} {cs : List Value}
  (hx : ev n e x = v) (hy : ev n e y = .slice (some ⟨b, 0, none⟩) 1 1) (hR : t.Row et w S v xs) (hB : Blk w b cs et) (htt : P.underlying tt = some (.slice et))
  (hinfo : (P.info? et).map (fun i => (i.zero, i.size, i.bytes)) = some (some z, t.sz, bytes)) (hz : z.cells.size = t.sz) (hp : t.rep w (fun k => S k ∧ some k ≠ v.ownBlock) p cs) (hfresh : ∀ k, w.heap.size ≤ k → S k)
  (hb : (xs.length + 1) * bytes ≤ 140737488355328) (hb0 : 0 < bytes)
  (h : ∀ v' w', t.Row et w' S v' (xs ++ [p]) → w.grownBy w' v.ownBlock → (v'.ownBlock = v.ownBlock ∨ v'.ownBlock = some w.heap.size) → wl r P ops Q rest (act n ((d, v') :: e) ds) w') :
  wl r P ops Q (⟨some d, .call { callee := .builtin .append, args := #[x, y], argTypes := #[tt, tt] }, ty, ps, af, none⟩ :: rest) (act n e ds) w := by
 obtain ⟨v', w', hrun, h1, h2, h3⟩ := hR.append (P := P) (tt := tt) (ty := ty) (a := ⟨b, 0, none⟩) (c := 1) (m := 1) (ys := [p]) (news := cs) htt hinfo hz (Reps.one hp) rfl (fun j u hu => by rw [Addr.add_mid, hB.cell, Nat.zero_add]; exact hu) hfresh hb hb0
 exact o_val (fun _ => by simp) (run_append_exec hx hy hrun) (h v' w' h1 h2 h3)
end ops
end Go.Proofs.NV
namespace Go.Proofs.NV
open Go.RowKit Go.Shelf
attribute [local irreducible] bodyPost
abbrev I (x : Int) : Value := .int .i64 x
abbrev ptr (b : Nat) : Value := .pointer (some ⟨b, 0, none⟩)
structure Entry where
 ed : Int
 num : Int
 good : Int
structure Book where
 goods : List Int
 ed : Int
 mv : Int
 ents : List Entry
def entT : Ty Entry := Ty.flat 3 (by decide) (fun x => [I x.ed, I x.num, I x.good]) (fun _ => rfl) (fun x u hu => by simp only [List.mem_cons, List.not_mem_nil, or_false] at hu; rcases hu with rfl | rfl | rfl <;> rfl)
def bookT : Ty Book := ((Ty.int.sl).pair (Ty.int.pair (Ty.int.pair entT.sl))).iso fun b => (b.goods, b.ed, b.mv, b.ents)
structure BookIn (w : World) (S : Nat → Prop) (b : Book) (gA : Option Addr) (gc : Nat) (eA : Option Addr) (ec : Nat) : Prop where
 goods : Ty.int.Sl w S gA b.goods
 gl : b.goods.length ≤ gc ∧ gc ≤ maxLen
 ents : entT.Sl w S eA b.ents
 el : b.ents.length ≤ ec ∧ ec ≤ maxLen
abbrev Book.cells (b : Book) (gA : Option Addr) (gc : Nat) (eA : Option Addr) (ec : Nat) : List Value := [.slice gA b.goods.length gc, I b.ed, I b.mv, .slice eA b.ents.length ec]
theorem BookIn.step0 {w w' : World} {S : Nat → Prop} {b : Book} {gA : Option Addr} {gc : Nat} {eA : Option Addr} {ec : Nat} (h : BookIn w S b gA gc eA ec) (hg : w.grownBy w' none) : BookIn w' S b gA gc eA ec := ⟨h.goods.step0 hg, h.gl, h.ents.step0 hg, h.el⟩
theorem bookT_iff {w : World} {S : Nat → Prop} {b : Book} {cs : List Value} : bookT.rep w S b cs ↔ ∃ gA gc eA ec, cs = b.cells gA gc eA ec ∧ BookIn w S b gA gc eA ec := by
 constructor
 ·rintro ⟨c0, c1, rfl, ⟨gA, gc, rfl, h1, h2, h3⟩, c2, c3, rfl, h4, c4, c5, rfl, h5, eA, ec, rfl, h6, h7, h8⟩
  obtain rfl : c2 = [I b.ed] := h4
  obtain rfl : c4 = [I b.mv] := h5
  exact ⟨gA, gc, eA, ec, rfl, h3, ⟨h1, h2⟩, h8, ⟨h6, h7⟩⟩
 ·rintro ⟨gA, gc, eA, ec, rfl, h⟩
  exact ⟨_, _, rfl, ⟨gA, gc, rfl, h.gl.1, h.gl.2, h.goods⟩, _, _, rfl, rfl, _, _, rfl, rfl, eA, ec, rfl, h.el.1, h.el.2, h.ents⟩
def Book.isEd (b : Book) (n : Int) : Bool := inB n 0 (b.ed - 1)
def Book.isNum (b : Book) (n : Int) : Bool := inB n 0 (b.goods.length - 1)
def Book.badEnt (b : Book) (x : Entry) : Bool := !b.isEd x.ed || !b.isNum x.num || !b.isNum x.good
def Book.ok (b : Book) : Bool := inB b.goods.length 2 5 && inB b.ed 1 3 && inB b.mv 0 5 && decide ((b.ents.length : Int) ≤ 8) && (!(b.goods.any fun g => !inB g 1 99)) && !(b.ents.any b.badEnt)
theorem maxLen_val : maxLen = 9223372036854775807 := rfl
theorem f92_calls (b : Book) (gA : Option Addr) (gc : Nat) (eA : Option Addr) (ec : Nat) (w : World) (n : Int) (hb : -9000000000000000000 ≤ b.ed) (hb' : b.ed ≤ 9000000000000000000) :
  Calls Tryz.prog 92 #[.agg (b.cells gA gc eA ec).toArray, I n] w fun e w' => e = .returned (.bool (b.isEd n)) ∧ w.grownBy w' none := by
 refine s_enter (n := 10) Tryz.func92 rfl rfl rfl ?_
 have G := grown_refl w none
 refine s_rseq fun _ k1 => ?_
 refine o_box (t := 25) rfl ?_; intro w1 B2 g1 z1
 replace G := G.step0 g1
 refine o_v v_assign ?_
 refine o_end (k1 _ _ ?_)
 refine s_rseq fun _ k2 => ?_
 refine o_v v_move ?_
 refine o_v (v_field rfl fld25_1) ?_
 refine o_v (v_loadB rfl sc3 B2 rfl) ?_
 refine o_v (v_sub rfl rfl (by omega)) ?_
 refine o_call rfl rfl ent100 (f100_calls _ _ _ _) ?_; rintro _ w2 ⟨rfl, g2⟩; refine ⟨_, rfl, ?_⟩
 replace G := G.step0 g2; replace B2 := B2.step0 g2
 refine o_v v_assign ?_
 refine o_end (k2 _ _ ?_)
 refine s_ret (post1 rfl ?_)
 exact ⟨rfl, G⟩
theorem f93_calls (b : Book) (gA : Option Addr) (gc : Nat) (eA : Option Addr) (ec : Nat) (w : World) (n : Int) (hl : b.goods.length ≤ maxLen) :
  Calls Tryz.prog 93 #[.agg (b.cells gA gc eA ec).toArray, I n] w fun e w' => e = .returned (.bool (b.isNum n)) ∧ w.grownBy w' none := by
 rw [maxLen_val] at hl
 refine s_enter (n := 11) Tryz.func93 rfl rfl rfl ?_
 have G := grown_refl w none
 refine s_rseq fun _ k1 => ?_
 refine o_box (t := 25) rfl ?_; intro w1 B2 g1 z1
 replace G := G.step0 g1
 refine o_v v_assign ?_
 refine o_end (k1 _ _ ?_)
 refine s_rseq fun _ k2 => ?_
 refine o_v v_move ?_
 refine o_v (v_field rfl fld25_0) ?_
 refine o_v (v_loadB rfl sc22 B2 rfl) ?_
 refine o_v (v_len rfl Tryz.underlying22) ?_
 refine o_v (v_sub rfl rfl (by omega)) ?_
 refine o_call rfl rfl ent100 (f100_calls _ _ _ _) ?_; rintro _ w2 ⟨rfl, g2⟩; refine ⟨_, rfl, ?_⟩
 replace G := G.step0 g2; replace B2 := B2.step0 g2
 refine o_v v_assign ?_
 refine o_end (k2 _ _ ?_)
 refine s_ret (post1 rfl ?_)
 exact ⟨rfl, G⟩
theorem f144_calls (n lo hi : Int) (w : World) :
  Calls Tryz.prog 144 #[I n, .agg #[I lo, I hi]] w fun e w' => e = .returned (.bool (inB n lo hi)) ∧ w.grownBy w' none := by
 refine s_enter (n := 11) Tryz.func144 rfl rfl rfl ?_
 have G := grown_refl w none
 refine s_rseq fun _ k1 => ?_
 refine o_box (t := 65) rfl ?_; intro w1 B3 g1 z1
 replace G := G.step0 g1
 refine o_v v_assign ?_
 refine o_end (k1 _ _ ?_)
 refine s_rseq fun _ k2 => ?_
 refine o_v v_move ?_
 refine o_v (v_field rfl fld65_0) ?_
 refine o_v (v_loadB rfl sc3 B3 rfl) ?_
 refine o_v (v_field rfl fld65_1) ?_
 refine o_v (v_loadB rfl sc3 B3 rfl) ?_
 refine o_call rfl rfl ent100 (f100_calls _ _ _ _) ?_; rintro _ w2 ⟨rfl, g2⟩; refine ⟨_, rfl, ?_⟩
 replace G := G.step0 g2; replace B3 := B3.step0 g2
 refine o_v v_assign ?_
 refine o_end (k2 _ _ ?_)
 refine s_ret (post1 rfl ?_)
 exact ⟨rfl, G⟩
theorem f158_calls (x : Int) (w : World) :
  Calls Tryz.prog 158 #[.agg #[I x]] w fun e w' => e = .returned (.bool (!inB x 1 99)) ∧ w.grownBy w' none := by
 refine s_enter (n := 7) Tryz.func158 rfl rfl rfl ?_
 have G := grown_refl w none
 refine s_rseq fun _ k1 => ?_
 refine o_box (t := 148) rfl ?_; intro w1 B1 g1 z1
 replace G := G.step0 g1
 refine o_v v_assign ?_
 refine o_end (k1 _ _ ?_)
 refine s_rseq fun _ k2 => ?_
 refine o_v (v_field rfl fld148_0) ?_
 refine o_v (v_loadB rfl sc3 B1 rfl) ?_
 refine o_call rfl rfl ent100 (f100_calls _ _ _ _) ?_; rintro _ w2 ⟨rfl, g2⟩; refine ⟨_, rfl, ?_⟩
 replace G := G.step0 g2; replace B1 := B1.step0 g2
 refine o_v (v_not rfl) ?_
 refine o_v v_assign ?_
 refine o_end (k2 _ _ ?_)
 refine s_ret (post1 rfl ?_)
 exact ⟨rfl, G⟩
theorem f160_calls (x : Entry) (k : Nat) (b : Book) (gA : Option Addr) (gc : Nat) (eA : Option Addr) (ec : Nat) (w : World) (hb : -9000000000000000000 ≤ b.ed) (hb' : b.ed ≤ 9000000000000000000) (hl : b.goods.length ≤ maxLen) (hk : Blk w k (b.cells gA gc eA ec) 25) :
  Calls Tryz.prog 160 #[.agg #[I x.ed, I x.num, I x.good], ptr k] w fun e w' => e = .returned (.bool (b.badEnt x)) ∧ w.grownBy w' none := by
 refine s_enter (n := 23) Tryz.func160 rfl rfl rfl ?_
 have G := grown_refl w none
 refine s_rseq fun _ k1 => ?_
 refine o_box (t := 99) rfl ?_; intro w1 B2 g1 z1
 replace G := G.step0 g1; replace hk := hk.step0 g1
 refine o_v v_assign ?_
 refine o_end (k1 _ _ ?_)
 refine s_rseq fun _ k2 => ?_
 refine o_v (v_loadBS rfl ag25 hk rfl rfl) ?_
 refine o_v (v_field rfl fld99_0) ?_
 refine o_v (v_loadB rfl sc3 B2 rfl) ?_
 refine o_call rfl rfl ent92 (f92_calls _ _ _ _ _ _ _ hb hb') ?_; rintro _ w2 ⟨rfl, g2⟩; refine ⟨_, rfl, ?_⟩
 replace G := G.step0 g2; replace hk := hk.step0 g2; replace B2 := B2.step0 g2
 refine o_v (v_not rfl) ?_
 refine o_v v_move ?_
 refine o_mid (G := Unit) 6 (fun _ => [(15, .bool ((!b.isEd x.ed) || (!b.isNum x.num)))]) [15] [10, 11, 12, 13, 14] (fun _ w' => w2.grownBy w' none) (fun _ => rfl) ?_ ?_
 ·have H1 := grown_refl w2 none
  rcases Bool.eq_false_or_eq_true ((!b.isEd x.ed)) with hX1 | hX1
  ·refine g_no rfl rfl rfl hX1 ?_
   refine g_no rfl rfl rfl hX1 ?_
   refine g_no rfl rfl rfl hX1 ?_
   refine g_no rfl rfl rfl hX1 ?_
   refine g_no rfl rfl rfl hX1 ?_
   refine o_v (v_pick_t rfl hX1) ?_
   refine o_end (mid () ?_ ?_ ?_)
   ·repeat (first | exact off_refl | refine off_cons rfl ?_)
   ·exact ⟨by rw [hX1]; rfl, trivial⟩
   ·exact H1
  ·refine g_yes rfl rfl rfl hX1 ?_
   refine o_v (v_loadBS rfl ag25 hk rfl rfl) ?_
   refine g_yes rfl rfl rfl hX1 ?_
   refine o_v (v_field rfl fld99_1) ?_
   refine g_yes rfl rfl rfl hX1 ?_
   refine o_v (v_loadB rfl sc3 B2 rfl) ?_
   refine g_yes rfl rfl rfl hX1 ?_
   refine o_call rfl rfl ent93 (f93_calls _ _ _ _ _ _ _ hl) ?_; rintro _ w3 ⟨rfl, g3⟩; refine ⟨_, rfl, ?_⟩
   replace G := G.step0 g3; replace hk := hk.step0 g3; replace B2 := B2.step0 g3; replace H1 := H1.step0 g3
   refine g_yes rfl rfl rfl hX1 ?_
   refine o_v (v_not rfl) ?_
   refine o_v (v_pick_f rfl hX1) ?_
   refine o_end (mid () ?_ ?_ ?_)
   ·repeat (first | exact off_refl | refine off_cons rfl ?_)
   ·exact ⟨by rw [hX1]; rfl, trivial⟩
   ·exact H1
 ·rintro _ jv w4 g4
  replace G := G.step0 g4; replace hk := hk.step0 g4; replace B2 := B2.step0 g4
  refine o_v v_move ?_
  refine o_mid (G := Unit) 6 (fun _ => [(22, .bool (((!b.isEd x.ed) || (!b.isNum x.num)) || (!b.isNum x.good)))]) [22] [17, 18, 19, 20, 21] (fun _ w' => w4.grownBy w' none) (fun _ => rfl) ?_ ?_
  ·have H2 := grown_refl w4 none
   rcases Bool.eq_false_or_eq_true (((!b.isEd x.ed) || (!b.isNum x.num))) with hX2 | hX2
   ·refine g_no rfl rfl rfl hX2 ?_
    refine g_no rfl rfl rfl hX2 ?_
    refine g_no rfl rfl rfl hX2 ?_
    refine g_no rfl rfl rfl hX2 ?_
    refine g_no rfl rfl rfl hX2 ?_
    refine o_v (v_pick_t rfl hX2) ?_
    refine o_end (mid () ?_ ?_ ?_)
    ·repeat (first | exact off_refl | refine off_cons rfl ?_)
    ·exact ⟨by rw [hX2]; rfl, trivial⟩
    ·exact H2
   ·refine g_yes rfl rfl rfl hX2 ?_
    refine o_v (v_loadBS rfl ag25 hk rfl rfl) ?_
    refine g_yes rfl rfl rfl hX2 ?_
    refine o_v (v_field rfl fld99_2) ?_
    refine g_yes rfl rfl rfl hX2 ?_
    refine o_v (v_loadB rfl sc3 B2 rfl) ?_
    refine g_yes rfl rfl rfl hX2 ?_
    refine o_call rfl rfl ent93 (f93_calls _ _ _ _ _ _ _ hl) ?_; rintro _ w5 ⟨rfl, g5⟩; refine ⟨_, rfl, ?_⟩
    replace G := G.step0 g5; replace hk := hk.step0 g5; replace B2 := B2.step0 g5; replace H2 := H2.step0 g5
    refine g_yes rfl rfl rfl hX2 ?_
    refine o_v (v_not rfl) ?_
    refine o_v (v_pick_f rfl hX2) ?_
    refine o_end (mid () ?_ ?_ ?_)
    ·repeat (first | exact off_refl | refine off_cons rfl ?_)
    ·exact ⟨by rw [hX2]; rfl, trivial⟩
    ·exact H2
  ·rintro _ jv w6 g6
   replace G := G.step0 g6; replace hk := hk.step0 g6; replace B2 := B2.step0 g6
   refine o_v v_assign ?_
   refine o_end (k2 _ _ ?_)
   refine s_ret (post1 rfl ?_)
   exact ⟨rfl, G⟩
theorem f115_calls (b : Book) (gA : Option Addr) (gc : Nat) (eA : Option Addr) (ec : Nat) (w : World) {S : Nat → Prop} (hI : BookIn w S b gA gc eA ec) :
  Calls Tryz.prog 115 #[.agg (b.cells gA gc eA ec).toArray] w fun e w' => e = .returned (.bool b.ok) ∧ w.grownBy w' none := by
 refine s_enter (n := 36) Tryz.func115 rfl rfl rfl ?_
 have G := grown_refl w none
 refine s_rseq fun _ k1 => ?_
 refine o_box (t := 25) rfl ?_; intro w1 B1 g1 z1
 replace G := G.step0 g1; replace hI := hI.step0 g1
 refine o_v v_assign ?_
 refine o_end (k1 _ _ ?_)
 refine s_rseq fun _ k2 => ?_
 refine o_v (v_field rfl fld25_0) ?_
 refine o_v (v_loadB rfl sc22 B1 rfl) ?_
 refine o_v (v_len rfl Tryz.underlying22) ?_
 refine o_call rfl rfl ent100 (f100_calls _ _ _ _) ?_; rintro _ w2 ⟨rfl, g2⟩; refine ⟨_, rfl, ?_⟩
 replace G := G.step0 g2; replace hI := hI.step0 g2; replace B1 := B1.step0 g2
 refine o_v v_move ?_
 refine o_mid (G := Unit) 4 (fun _ => [(11, .bool ((inB b.goods.length 2 5) && (inB b.ed 1 3)))]) [11] [8, 9, 10] (fun _ w' => w2.grownBy w' none) (fun _ => rfl) ?_ ?_
 ·have H1 := grown_refl w2 none
  rcases Bool.eq_false_or_eq_true ((inB b.goods.length 2 5)) with hX1 | hX1
  ·refine g_yes rfl rfl rfl hX1 ?_
   refine o_v (v_field rfl fld25_1) ?_
   refine g_yes rfl rfl rfl hX1 ?_
   refine o_v (v_loadB rfl sc3 B1 rfl) ?_
   refine g_yes rfl rfl rfl hX1 ?_
   refine o_call rfl rfl ent100 (f100_calls _ _ _ _) ?_; rintro _ w3 ⟨rfl, g3⟩; refine ⟨_, rfl, ?_⟩
   replace G := G.step0 g3; replace hI := hI.step0 g3; replace B1 := B1.step0 g3; replace H1 := H1.step0 g3
   refine o_v (v_pick_t rfl hX1) ?_
   refine o_end (mid () ?_ ?_ ?_)
   ·repeat (first | exact off_refl | refine off_cons rfl ?_)
   ·exact ⟨by rw [hX1]; rfl, trivial⟩
   ·exact H1
  ·refine g_no rfl rfl rfl hX1 ?_
   refine g_no rfl rfl rfl hX1 ?_
   refine g_no rfl rfl rfl hX1 ?_
   refine o_v (v_pick_f rfl hX1) ?_
   refine o_end (mid () ?_ ?_ ?_)
   ·repeat (first | exact off_refl | refine off_cons rfl ?_)
   ·exact ⟨by rw [hX1]; rfl, trivial⟩
   ·exact H1
 ·rintro _ jv w4 g4
  replace G := G.step0 g4; replace hI := hI.step0 g4; replace B1 := B1.step0 g4
  refine o_v v_move ?_
  refine o_mid (G := Unit) 4 (fun _ => [(16, .bool (((inB b.goods.length 2 5) && (inB b.ed 1 3)) && (inB b.mv 0 5)))]) [16] [13, 14, 15] (fun _ w' => w4.grownBy w' none) (fun _ => rfl) ?_ ?_
  ·have H2 := grown_refl w4 none
   rcases Bool.eq_false_or_eq_true (((inB b.goods.length 2 5) && (inB b.ed 1 3))) with hX2 | hX2
   ·refine g_yes rfl rfl rfl hX2 ?_
    refine o_v (v_field rfl fld25_2) ?_
    refine g_yes rfl rfl rfl hX2 ?_
    refine o_v (v_loadB rfl sc3 B1 rfl) ?_
    refine g_yes rfl rfl rfl hX2 ?_
    refine o_call rfl rfl ent100 (f100_calls _ _ _ _) ?_; rintro _ w5 ⟨rfl, g5⟩; refine ⟨_, rfl, ?_⟩
    replace G := G.step0 g5; replace hI := hI.step0 g5; replace B1 := B1.step0 g5; replace H2 := H2.step0 g5
    refine o_v (v_pick_t rfl hX2) ?_
    refine o_end (mid () ?_ ?_ ?_)
    ·repeat (first | exact off_refl | refine off_cons rfl ?_)
    ·exact ⟨by rw [hX2]; rfl, trivial⟩
    ·exact H2
   ·refine g_no rfl rfl rfl hX2 ?_
    refine g_no rfl rfl rfl hX2 ?_
    refine g_no rfl rfl rfl hX2 ?_
    refine o_v (v_pick_f rfl hX2) ?_
    refine o_end (mid () ?_ ?_ ?_)
    ·repeat (first | exact off_refl | refine off_cons rfl ?_)
    ·exact ⟨by rw [hX2]; rfl, trivial⟩
    ·exact H2
  ·rintro _ jv w6 g6
   replace G := G.step0 g6; replace hI := hI.step0 g6; replace B1 := B1.step0 g6
   refine o_v v_move ?_
   refine o_mid (G := Unit) 5 (fun _ => [(22, .bool ((((inB b.goods.length 2 5) && (inB b.ed 1 3)) && (inB b.mv 0 5)) && (decide ((b.ents.length : Int) ≤ 8))))]) [22] [18, 19, 20, 21] (fun _ w' => w6.grownBy w' none) (fun _ => rfl) ?_ ?_
   ·have H3 := grown_refl w6 none
    rcases Bool.eq_false_or_eq_true ((((inB b.goods.length 2 5) && (inB b.ed 1 3)) && (inB b.mv 0 5))) with hX3 | hX3
    ·refine g_yes rfl rfl rfl hX3 ?_
     refine o_v (v_field rfl fld25_3) ?_
     refine g_yes rfl rfl rfl hX3 ?_
     refine o_v (v_loadB rfl sc23 B1 rfl) ?_
     refine g_yes rfl rfl rfl hX3 ?_
     refine o_v (v_len rfl Tryz.underlying23) ?_
     refine g_yes rfl rfl rfl hX3 ?_
     refine o_v (v_leq rfl rfl) ?_
     refine o_v (v_pick_t rfl hX3) ?_
     refine o_end (mid () ?_ ?_ ?_)
     ·repeat (first | exact off_refl | refine off_cons rfl ?_)
     ·exact ⟨by rw [hX3]; rfl, trivial⟩
     ·exact H3
    ·refine g_no rfl rfl rfl hX3 ?_
     refine g_no rfl rfl rfl hX3 ?_
     refine g_no rfl rfl rfl hX3 ?_
     refine g_no rfl rfl rfl hX3 ?_
     refine o_v (v_pick_f rfl hX3) ?_
     refine o_end (mid () ?_ ?_ ?_)
     ·repeat (first | exact off_refl | refine off_cons rfl ?_)
     ·exact ⟨by rw [hX3]; rfl, trivial⟩
     ·exact H3
   ·rintro _ jv w7 g7
    replace G := G.step0 g7; replace hI := hI.step0 g7; replace B1 := B1.step0 g7
    refine o_v v_move ?_
    refine o_mid (G := Unit) 5 (fun _ => [(28, .bool (((((inB b.goods.length 2 5) && (inB b.ed 1 3)) && (inB b.mv 0 5)) && (decide ((b.ents.length : Int) ≤ 8))) && (!(b.goods.any fun g => !inB g 1 99))))]) [28] [24, 25, 26, 27] (fun _ w' => w7.grownBy w' none) (fun _ => rfl) ?_ ?_
    ·have H4 := grown_refl w7 none
     rcases Bool.eq_false_or_eq_true (((((inB b.goods.length 2 5) && (inB b.ed 1 3)) && (inB b.mv 0 5)) && (decide ((b.ents.length : Int) ≤ 8)))) with hX4 | hX4
     ·refine g_yes rfl rfl rfl hX4 ?_
      refine o_v (v_field rfl fld25_0) ?_
      refine g_yes rfl rfl rfl hX4 ?_
      refine o_v (v_loadB rfl sc22 B1 rfl) ?_
      refine g_yes rfl rfl rfl hX4 ?_
      refine o_call rfl rfl ent157 (f157_calls Ty.int rfl (fun g => !inB g 1 99) gA gc b.goods 158 [] _ hI.goods (Nat.le_trans hI.gl.1 hI.gl.2) ent158 (fun x cs W _ _ hr => by obtain rfl : cs = [I x] := hr; exact f158_calls x W)) ?_; rintro _ w8 ⟨rfl, g8⟩; refine ⟨_, rfl, ?_⟩
      replace G := G.step0 g8; replace hI := hI.step0 g8; replace B1 := B1.step0 g8; replace H4 := H4.step0 g8
      refine g_yes rfl rfl rfl hX4 ?_
      refine o_v (v_not rfl) ?_
      refine o_v (v_pick_t rfl hX4) ?_
      refine o_end (mid () ?_ ?_ ?_)
      ·repeat (first | exact off_refl | refine off_cons rfl ?_)
      ·exact ⟨by rw [hX4]; rfl, trivial⟩
      ·exact H4
     ·refine g_no rfl rfl rfl hX4 ?_
      refine g_no rfl rfl rfl hX4 ?_
      refine g_no rfl rfl rfl hX4 ?_
      refine g_no rfl rfl rfl hX4 ?_
      refine o_v (v_pick_f rfl hX4) ?_
      refine o_end (mid () ?_ ?_ ?_)
      ·repeat (first | exact off_refl | refine off_cons rfl ?_)
      ·exact ⟨by rw [hX4]; rfl, trivial⟩
      ·exact H4
    ·rintro _ jv w9 g9
     replace G := G.step0 g9; replace hI := hI.step0 g9; replace B1 := B1.step0 g9
     refine o_v v_move ?_
     refine o_mid (G := Unit) 6 (fun _ => [(35, .bool ((((((inB b.goods.length 2 5) && (inB b.ed 1 3)) && (inB b.mv 0 5)) && (decide ((b.ents.length : Int) ≤ 8))) && (!(b.goods.any fun g => !inB g 1 99))) && (!(b.ents.any b.badEnt))))]) [35] [30, 31, 32, 33, 34] (fun _ w' => w9.grownBy w' none) (fun _ => rfl) ?_ ?_
     ·have H5 := grown_refl w9 none
      rcases Bool.eq_false_or_eq_true ((((((inB b.goods.length 2 5) && (inB b.ed 1 3)) && (inB b.mv 0 5)) && (decide ((b.ents.length : Int) ≤ 8))) && (!(b.goods.any fun g => !inB g 1 99)))) with hX5 | hX5
      ·refine g_yes rfl rfl rfl hX5 ?_
       refine o_v (v_field rfl fld25_3) ?_
       refine g_yes rfl rfl rfl hX5 ?_
       refine o_v (v_loadB rfl sc23 B1 rfl) ?_
       refine g_yes rfl rfl rfl hX5 ?_
       refine o_v v_func ?_
       refine g_yes rfl rfl rfl hX5 ?_
       have hok : -9000000000000000000 ≤ b.ed ∧ b.ed ≤ 9000000000000000000 := by simp only [Bool.and_eq_true, inB, decide_eq_true_eq] at hX5; omega
       refine o_call rfl rfl ent159 (f159_calls entT rfl b.badEnt eA ec b.ents 160 [ptr w.heap.size] _ hI.ents (Nat.le_trans hI.el.1 hI.el.2) ent160 (fun x cs W _ hg hr => by obtain rfl : cs = [I x.ed, I x.num, I x.good] := hr; exact f160_calls x _ b gA gc eA ec W hok.1 hok.2 (Nat.le_trans hI.gl.1 hI.gl.2) (B1.step0 hg))) ?_; rintro _ w10 ⟨rfl, g10⟩; refine ⟨_, rfl, ?_⟩
       replace G := G.step0 g10; replace hI := hI.step0 g10; replace B1 := B1.step0 g10; replace H5 := H5.step0 g10
       refine g_yes rfl rfl rfl hX5 ?_
       refine o_v (v_not rfl) ?_
       refine o_v (v_pick_t rfl hX5) ?_
       refine o_end (mid () ?_ ?_ ?_)
       ·repeat (first | exact off_refl | refine off_cons rfl ?_)
       ·exact ⟨by rw [hX5]; rfl, trivial⟩
       ·exact H5
      ·refine g_no rfl rfl rfl hX5 ?_
       refine g_no rfl rfl rfl hX5 ?_
       refine g_no rfl rfl rfl hX5 ?_
       refine g_no rfl rfl rfl hX5 ?_
       refine g_no rfl rfl rfl hX5 ?_
       refine o_v (v_pick_f rfl hX5) ?_
       refine o_end (mid () ?_ ?_ ?_)
       ·repeat (first | exact off_refl | refine off_cons rfl ?_)
       ·exact ⟨by rw [hX5]; rfl, trivial⟩
       ·exact H5
     ·rintro _ jv w11 g11
      replace G := G.step0 g11; replace hI := hI.step0 g11; replace B1 := B1.step0 g11
      refine o_v v_assign ?_
      refine o_end (k2 _ _ ?_)
      refine s_ret (post1 rfl ?_)
      exact ⟨rfl, G⟩
theorem f70_calls (b : Book) (gA : Option Addr) (gc : Nat) (eA : Option Addr) (ec : Nat) (w : World) {S : Nat → Prop} (hI : BookIn w S b gA gc eA ec) :
  Calls Tryz.prog 70 #[.agg (b.cells gA gc eA ec).toArray] w fun e w' => e = .returned (I (if b.ok then 0 else 2)) ∧ w.grownBy w' none := by
 refine s_enter (n := 6) Tryz.func70 rfl rfl rfl ?_
 have G := grown_refl w none
 refine s_rseq fun _ k1 => ?_
 refine o_box (t := 25) rfl ?_; intro w1 B1 g1 z1
 replace G := G.step0 g1; replace hI := hI.step0 g1
 refine o_v v_assign ?_
 refine o_end (k1 _ _ ?_)
 refine s_seq fun _ k2 => ?_
 refine s_rseq fun _ k3 => ?_
 refine o_v (v_loadBS rfl ag25 B1 rfl rfl) ?_
 refine o_call rfl rfl ent115 (f115_calls _ _ _ _ _ _ hI) ?_; rintro _ w2 ⟨rfl, g2⟩; refine ⟨_, rfl, ?_⟩
 replace G := G.step0 g2; replace hI := hI.step0 g2; replace B1 := B1.step0 g2
 refine o_v (v_not rfl) ?_
 refine o_end (k3 _ _ ?_)
 refine s_if rfl (fun c3 => ?_) (fun c3 => ?_)
 ·refine s_rseq fun _ k4 => ?_
  refine o_v v_assign ?_
  refine o_end (k4 _ _ ?_)
  refine s_ret (post1 rfl ?_)
  exact ⟨ret_int (by simp at c3; simp [c3]), G⟩
 ·refine s_skip ?_
  refine k2 _ _ ?_
  refine s_rseq fun _ k5 => ?_
  refine o_v v_assign ?_
  refine o_end (k5 _ _ ?_)
  refine s_ret (post1 rfl ?_)
  exact ⟨ret_int (by simp at c3; simp [c3]), G⟩
end Go.Proofs.NV
