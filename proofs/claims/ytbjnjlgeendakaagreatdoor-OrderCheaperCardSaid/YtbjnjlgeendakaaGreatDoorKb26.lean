/- Part of the proof: The closed facts of the program, each by itself.. -/
import Derived.Test.YtbjnjlgeendakaaGreatDoorKb25
import Derived.Test.YtbjnjlgeendakaaGreatDoorCards
set_option linter.unusedVariables false
set_option linter.unusedSimpArgs false
namespace Go.Proofs.YtbjnjlgeendakaaGreatDoor
theorem joined_of {P : Program} {f : FuncId} {fn : Func} {s : ChangeSpec} {c : OpenClaim}
  (l1 : c.wf (OpenSpec.ofChange s) = true)
  (l2 : laidOutB P = true)
  (l3 : mapsRowed P = true)
  (l4 : fn.params.all (P.readableRec ·) = true)
  (l5 : namedTie P c.named s.vars = true)
  (l6 : (c.stops == []) = true)
  (l7 : (P.stops == []) = true)
  (l8 : (c.knobs == []) = true)
  (l9 : (P.stopKnobs == []) = true)
  (l10 : (c.inPlace == P.inPlace f) = true)
  (l11 : (c.unfollowed == P.unfollowed f) = true)
  (l12 : (c.recurses == P.recurses f) = true)
  (l13 : (c.named == P.varsNamed f) = true)
  (l14 : (c.maps == (fn.params.toList ++ s.plain.varTypes P).any (P.mapsRec ·)) = true)
  (l15 : (c.ifaces == (fn.params.toList ++ s.plain.varTypes P).any (P.ifacesRec ·)) = true)
  (l16 : (c.mapsOut == P.mapsAmong fn.resultTypes.toList) = true)
  (l17 : (c.loops == (fn.params.toList ++ s.plain.varTypes P).any (P.loopsFrom ·)) = true)
  (l18 : (c.wideKeys == (fn.params.toList ++ s.plain.varTypes P ++ fn.resultTypes.toList).any (P.wideKeysFrom ·)) = true)
  (l19 : s.vars.all (P.varReadable ·) = true)
  (l20 : fn.resultTypes.all (fun t => P.readableRec t && decide (t < P.types.size)) = true)
  (l21 : (c.ifacesOut == fn.resultTypes.toList.any (P.ifacesRec ·)) = true)
  (l22 : (c.loopsOut == fn.resultTypes.toList.any (P.loopsFrom ·)) = true)
  (l23 : (c.plainKeys == P.plainKeys) = true)
  (l24 : c.shortTexts.isNone = true)
  (l25 : P.stopsHeard = true)
  (l26 : P.mayEnter = true)
  (l27 : (c.lifted == P.liftsFinal) = true)
  (l28 : (P.make == some c.make) = true)
  (l29 : (c.kinds == (if c.domain.isEmpty then [] else fn.params.toList.map fun t => match P.underlying t with | some (.int k) => some k | _ => none)) = true)
  (l30 : (c.pinned == c.pinnedBy) = true)
  (l31 : (c.veiled == (fn.params.toList ++ s.plain.varTypes P ++ fn.resultTypes.toList).any (P.veiledRec ·)) = true)
  (l32 : c.veiledFits P fn.params.toList (fn.params.toList ++ s.plain.varTypes P ++ fn.resultTypes.toList) = true) : joinedFacts P f fn s c = true := by
 unfold joinedFacts
 simp only [l1, l2, l3, l4, l5, l6, l7, l8, l9, l10, l11, l12, l13, l14, l15, l16, l17, l18, l19, l20, l21, l22, l23, l24, l25, l26, l27, l28, l30, l31, l32, Bool.and_self, Bool.and_true, Bool.true_and]
 exact l29
theorem pf2 : laidOutB Tryz.pinned.checked.prog = true := by kernel_rfl
theorem pf3 : mapsRowed Tryz.pinned.checked.prog = true := by kernel_rfl
theorem pf7 : (Tryz.pinned.checked.prog.stops == []) = true := by kernel_rfl
theorem pf9 : (Tryz.pinned.checked.prog.stopKnobs == []) = true := by kernel_rfl
theorem pf23 : (Rows.orderPacksRow.plainKeys == Tryz.pinned.checked.prog.plainKeys) = true := by kernel_rfl
theorem pf25 : Tryz.pinned.checked.prog.stopsHeard = true := by kernel_rfl
theorem pf26 : Tryz.pinned.checked.prog.mayEnter = true := by kernel_rfl
theorem pf27 : (Rows.orderPacksRow.lifted == Tryz.pinned.checked.prog.liftsFinal) = true := by kernel_rfl
theorem pf28 : (Tryz.pinned.checked.prog.make == some Rows.orderPacksRow.make) = true := by kernel_rfl
theorem pf_main : Tryz.pinned.checked.prog.mainIs = some (true, "d6c97e3a80c745e0c48b70760acf35e029e7681ab7e400eb7bc6d9e8aaad5c17".toList) := by kernel_rfl
theorem pf_looks : true = Tryz.pinned.checked.prog.looks [] := by kernel_rfl
theorem pre_of {H : Type} {enc : TypeId × Value → H} {P : Program} {fn : Func} {c : OpenClaim} {s : ChangeSpec} {x : String × DataW Unit} {r : List (String × DataW Unit)} (h1 : c.laid = x :: r) (h2 : c.domain = []) (h3 : c.apart = false) :
  c.pre enc P fn (OpenSpec.ofChange s) = fun w args => (s.pre enc P fn [] false w args ∧ laidMetH P (x :: r) w) ∧ sizedMet enc P fn (OpenSpec.ofChange s) false w args := by
 unfold OpenClaim.pre OpenClaim.preLaid
 rw [h1, h2, h3]
 rfl
end Go.Proofs.YtbjnjlgeendakaaGreatDoor
