/- The law OrderPacks of chapter 9 holds: for every input the call returns true and its arguments read afterwards as before; the listed library tables stand as the program's text lays them. No condition beyond the row's own. -/
import Derived.Test.YtbjnjlgeendakaaGreatDoorKb26
import Derived.Test.YtbjnjlgeendakaaGreatDoorTie
import Derived.Test.YtbjnjlgeendakaaGreatDoorPk1
set_option linter.unusedVariables false
set_option maxRecDepth 100000
set_option linter.unusedSimpArgs false
namespace Go.Proofs.NV
open Go.RowKit Go.ChangeShapes Go.WideShapes
theorem opens_i3 : Opens Tryz.prog Ty.int 3 := opens_int Tryz.underlying3
theorem cells3 : Tryz.prog.cellsOf 3 = Ty.int.sz := by kernel_rfl
theorem opens_pack : Opens Tryz.prog packT 164 := opens_of (t := Ty.int.pair Ty.int) (opens_struct Tryz.underlying164 (by kernel_rfl) rfl (by kernel_rfl) (opensL_cons cells3 opens_i3 (opensL_one cells3 opens_i3))) fun w S y cs hy => by
 obtain ⟨c0, c1, rfl, h0, h1⟩ := hy
 exact ⟨⟨y.1, y.2⟩, by rw [show c0 = [I y.1] from h0, show c1 = [I y.2] from h1]; rfl⟩
theorem opens_packs : Opens Tryz.prog packT.sl 74 := opens_sl Tryz.underlying74 (by kernel_rfl) opens_pack
end Go.Proofs.NV
namespace Go.Proofs.YtbjnjlgeendakaaGreatDoor
open Go.RowKit Go.ChangeShapes Go.WideShapes NV
theorem orderPacks_lifted (os : Os) (started : os.Started) (H : Type) (enc : TypeId × Value → H) :
  ReturnsInHanded {} Tryz.checked os 7 .any (fun w args => (Rows.orderPacksSpec.pre enc Tryz.prog Tryz.f7 [] false w args ∧ laidMetH Tryz.prog Rows.orderPacksRow.laid w) ∧ sizedMet enc Tryz.prog Tryz.f7 (OpenSpec.ofChange Rows.orderPacksSpec) false w args)
   (Rows.orderPacksSpec.post enc Tryz.prog Tryz.f7 false true false false) := by
 refine law_lifted started #[.slice none 0 0, .int .i64 0] Tryz.func7 (by kernel_rfl) rfl rfl (by kernel_rfl) (fun ds h => ?_)
  (ChangeSpec.witness_shaped (enc := enc) (C := Tryz.checked) (os := os) (X := fun w _ => laidMetH Tryz.prog Rows.orderPacksRow.laid w) false (World.laidAll Tryz.prog os Rows.orderPacksRow.laid) #[.slice none 0 0, .int .i64 0] 8 (World.laidAll_os _ _ _)
   (World.shaped_of_ZipB (by kernel_rfl) (by kernel_rfl)) (by kernel_rfl) (by kernel_rfl) (by kernel_rfl)
   (by rw [MakeChecks.laidMetH_plain _ _ _ (by kernel_rfl)]; exact laidMet_laidAll _ (by kernel_rfl) (by kernel_rfl))) (fun W args ds p hval hA => ?_)
 ·match ds, h with
  | [d1, d2], _ => rfl
 ·obtain ⟨base, hval⟩ := hval
  rw [Tryz.params7] at hA hval
  obtain ⟨v0, vs0, d0, ds0, p0, q0, hargs, rfl, rfl, h0, r0⟩ := trodAll_cons hA
  obtain ⟨v1, vs1, d1, ds1, p1, q1, rfl, rfl, rfl, h1, r1⟩ := trodAll_cons r0
  obtain ⟨rfl, rfl, rfl⟩ := trodAll_nil r1
  obtain rfl : args = #[v0, v1] := by cases args; simp_all
  obtain ⟨A, len0, c, rfl⟩ := okWide_slice Tryz.underlying74 (hval 0 74 _ rfl rfl)
  obtain ⟨m0, hm0⟩ := h0
  obtain ⟨ks, A', c', he, hc0, hd0, hS0⟩ := opens_packs H enc W m0 _ _ hm0
  injection he with he
  injection he with e1 e2 e3
  subst e1 e2 e3
  obtain ⟨x, rfl, _⟩ := open_int Tryz.underlying3 (hval 1 3 _ rfl rfl) h1
  exact f7_calls A c ks x W hS0 ⟨hc0, hd0⟩
theorem orderPacks_l1 : Rows.orderPacksRow.wf (OpenSpec.ofChange Rows.orderPacksSpec) = true := by kernel_rfl
theorem orderPacks_l2 : laidOutB Tryz.pinned.checked.prog = true := pf2
theorem orderPacks_l3 : mapsRowed Tryz.pinned.checked.prog = true := pf3
theorem orderPacks_l4 : Tryz.f7.params.all (Tryz.pinned.checked.prog.readableRec ·) = true := by kernel_rfl
theorem orderPacks_l5 : namedTie Tryz.pinned.checked.prog Rows.orderPacksRow.named Rows.orderPacksSpec.vars = true := by kernel_rfl
theorem orderPacks_l6 : (Rows.orderPacksRow.stops == []) = true := by kernel_rfl
theorem orderPacks_l7 : (Tryz.pinned.checked.prog.stops == []) = true := pf7
theorem orderPacks_l8 : (Rows.orderPacksRow.knobs == []) = true := by kernel_rfl
theorem orderPacks_l9 : (Tryz.pinned.checked.prog.stopKnobs == []) = true := pf9
theorem orderPacks_l10 : (Rows.orderPacksRow.inPlace == Tryz.pinned.checked.prog.inPlace 7) = true := by kernel_rfl
theorem orderPacks_l11 : (Rows.orderPacksRow.unfollowed == Tryz.pinned.checked.prog.unfollowed 7) = true := by kernel_rfl
theorem orderPacks_l12 : (Rows.orderPacksRow.recurses == Tryz.pinned.checked.prog.recurses 7) = true := by kernel_rfl
theorem orderPacks_l13 : (Rows.orderPacksRow.named == Tryz.pinned.checked.prog.varsNamed 7) = true := by kernel_rfl
theorem orderPacks_l14 : (Rows.orderPacksRow.maps == (Tryz.f7.params.toList ++ Rows.orderPacksSpec.plain.varTypes Tryz.pinned.checked.prog).any (Tryz.pinned.checked.prog.mapsRec ·)) = true := by kernel_rfl
theorem orderPacks_l15 : (Rows.orderPacksRow.ifaces == (Tryz.f7.params.toList ++ Rows.orderPacksSpec.plain.varTypes Tryz.pinned.checked.prog).any (Tryz.pinned.checked.prog.ifacesRec ·)) = true := by kernel_rfl
theorem orderPacks_l16 : (Rows.orderPacksRow.mapsOut == Tryz.pinned.checked.prog.mapsAmong Tryz.f7.resultTypes.toList) = true := by kernel_rfl
theorem orderPacks_l17 : (Rows.orderPacksRow.loops == (Tryz.f7.params.toList ++ Rows.orderPacksSpec.plain.varTypes Tryz.pinned.checked.prog).any (Tryz.pinned.checked.prog.loopsFrom ·)) = true := by kernel_rfl
theorem orderPacks_l18 : (Rows.orderPacksRow.wideKeys == (Tryz.f7.params.toList ++ Rows.orderPacksSpec.plain.varTypes Tryz.pinned.checked.prog ++ Tryz.f7.resultTypes.toList).any (Tryz.pinned.checked.prog.wideKeysFrom ·)) = true := by kernel_rfl
theorem orderPacks_l19 : Rows.orderPacksSpec.vars.all (Tryz.pinned.checked.prog.varReadable ·) = true := by kernel_rfl
theorem orderPacks_l20 : Tryz.f7.resultTypes.all (fun t => Tryz.pinned.checked.prog.readableRec t && decide (t < Tryz.pinned.checked.prog.types.size)) = true := by kernel_rfl
theorem orderPacks_l21 : (Rows.orderPacksRow.ifacesOut == Tryz.f7.resultTypes.toList.any (Tryz.pinned.checked.prog.ifacesRec ·)) = true := by kernel_rfl
theorem orderPacks_l22 : (Rows.orderPacksRow.loopsOut == Tryz.f7.resultTypes.toList.any (Tryz.pinned.checked.prog.loopsFrom ·)) = true := by kernel_rfl
theorem orderPacks_l23 : (Rows.orderPacksRow.plainKeys == Tryz.pinned.checked.prog.plainKeys) = true := pf23
theorem orderPacks_l24 : Rows.orderPacksRow.shortTexts.isNone = true := by kernel_rfl
theorem orderPacks_l25 : Tryz.pinned.checked.prog.stopsHeard = true := pf25
theorem orderPacks_l26 : Tryz.pinned.checked.prog.mayEnter = true := pf26
theorem orderPacks_l27 : (Rows.orderPacksRow.lifted == Tryz.pinned.checked.prog.liftsFinal) = true := pf27
theorem orderPacks_l28 : (Tryz.pinned.checked.prog.make == some Rows.orderPacksRow.make) = true := pf28
theorem orderPacks_l29 : (Rows.orderPacksRow.kinds == (if Rows.orderPacksRow.domain.isEmpty then [] else Tryz.f7.params.toList.map fun t => match Tryz.pinned.checked.prog.underlying t with | some (.int k) => some k | _ => none)) = true := by kernel_rfl
theorem orderPacks_l30 : (Rows.orderPacksRow.pinned == Rows.orderPacksRow.pinnedBy) = true := by kernel_rfl
theorem orderPacks_l31 : (Rows.orderPacksRow.veiled == (Tryz.f7.params.toList ++ Rows.orderPacksSpec.plain.varTypes Tryz.pinned.checked.prog ++ Tryz.f7.resultTypes.toList).any (Tryz.pinned.checked.prog.veiledRec ·)) = true := by kernel_rfl
theorem orderPacks_l32 : Rows.orderPacksRow.veiledFits Tryz.pinned.checked.prog Tryz.f7.params.toList (Tryz.f7.params.toList ++ Rows.orderPacksSpec.plain.varTypes Tryz.pinned.checked.prog ++ Tryz.f7.resultTypes.toList) = true := by kernel_rfl
theorem orderPacks_named : Tryz.pinned.checked.prog.funcNamed Rows.orderPacksRow.func = some 7 := by kernel_rfl
theorem orderPacks_inst : Tryz.f7.isInstance Tryz.pinned.checked.prog Rows.orderPacksRow.origin Rows.orderPacksRow.targs := of_decide_eq_true (by kernel_rfl)
theorem orderPacks_wrap : Tryz.f7.isWrapper Tryz.pinned.checked.prog Rows.orderPacksRow.wrapper Rows.orderPacksRow.mainSum := by unfold Func.isWrapper; first | (rw [if_pos (by decide +kernel)]; kernel_rfl) | (rw [if_neg (by decide +kernel)]; exact ⟨rfl, rfl⟩)
theorem orderPacks_joined : joinedFacts Tryz.pinned.checked.prog 7 Tryz.f7 Rows.orderPacksSpec Rows.orderPacksRow = true := joined_of orderPacks_l1 orderPacks_l2 orderPacks_l3 orderPacks_l4 orderPacks_l5 orderPacks_l6 orderPacks_l7 orderPacks_l8 orderPacks_l9 orderPacks_l10 orderPacks_l11 orderPacks_l12 orderPacks_l13 orderPacks_l14 orderPacks_l15 orderPacks_l16 orderPacks_l17 orderPacks_l18 orderPacks_l19 orderPacks_l20 orderPacks_l21 orderPacks_l22 orderPacks_l23 orderPacks_l24 orderPacks_l25 orderPacks_l26 orderPacks_l27 orderPacks_l28 orderPacks_l29 orderPacks_l30 orderPacks_l31 orderPacks_l32
theorem orderPacks_row : Rows.OrderPacksSaid :=
 OpenClaim.holds_of_wide 7 Tryz.f7 rfl rfl rfl rfl rfl rfl rfl ⟨rfl, rfl, rfl, rfl, rfl⟩ rfl rfl rfl rfl rfl orderPacks_named Tryz.func7 orderPacks_joined orderPacks_inst orderPacks_wrap
  (fun os started H enc _ => by
   rw [pre_of (c := Rows.orderPacksRow) rfl rfl rfl]
   exact orderPacks_lifted os started H enc)
theorem orderPacks_wft : Rows.orderPacksRow.wfByText (OpenSpec.ofChange Rows.orderPacksSpec) = true := by kernel_rfl
theorem orderPacks_goes : false = Rows.orderPacksRow.goesBy Tryz.pinned.checked.prog := by kernel_rfl
theorem orderPacks_stand : ([74, 3].all fun u => !Tryz.pinned.checked.prog.wantsStandIn u) = true := by kernel_rfl
theorem orderPacks_card : Rows.OrderPacksCardSaid :=
 Claim7.holds_tied_plain_at .later [] [.data, .data, .data, .data, .pinned] true (true, "d6c97e3a80c745e0c48b70760acf35e029e7681ab7e400eb7bc6d9e8aaad5c17") true orderPacks_row (fun _ h => by cases h) orderPacks_wft (fun _ h => by cases h) orderPacks_row_tie rfl ⟨rfl, rfl⟩ pf_main rfl
  (fun f fn hf hfn => by
   obtain rfl : f = 7 := Option.some.inj (orderPacks_named.symm.trans hf) |>.symm
   obtain rfl : fn = Tryz.f7 := (Option.some.inj (Tryz.func7.symm.trans hfn)).symm
   exact ⟨pf_looks, fun j t ht => by
    rw [Tryz.params7] at ht
    have hm : t ∈ [74, 3] := by simpa using Array.mem_of_getElem? ht
    simpa using List.all_eq_true.1 orderPacks_stand t hm⟩)
  orderPacks_goes
#print axioms orderPacks_card
end Go.Proofs.YtbjnjlgeendakaaGreatDoor
