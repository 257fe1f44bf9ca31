import Derived.Test.YtnbinppdjnlhpaaGreatDoorX29
/- A part of the proofs of the laws of one chapter (no law is stated here). Made by program out of texts by AI agents. -/
section
namespace Go.Proofs.YtnbinppdjnlhpaaGreatDoor
open Go Go.RowKit Go.ChangeShapes Go.WideShapes Go.ChangeAt Go.Det Go.Pe
open Go.Proofs.Tryz (prog)
namespace EventCuts
theorem inPlace : (Rows.eventCutsRow.inPlace == prog.inPlace 13) = true := by kernel_rfl
theorem unfollowed : (Rows.eventCutsRow.unfollowed == prog.unfollowed 13) = true := by kernel_rfl
theorem recurses : (Rows.eventCutsRow.recurses == prog.recurses 13) = true := by kernel_rfl
theorem named : (Rows.eventCutsRow.named == prog.varsNamed 13) = true := by kernel_rfl
theorem goes : false = Rows.eventCutsRow.goesBy prog := by kernel_rfl
theorem wfText : Rows.eventCutsRow.wfByText (OpenSpec.ofChange Rows.eventCutsSpec) = true := by kernel_rfl
theorem funcNamed : prog.funcNamed Rows.eventCutsRow.func = some 13 := by kernel_rfl
theorem noInit : prog.inits.idxOf? 13 = none := by kernel_rfl
theorem standIn : ([62, 112].all fun u => !prog.wantsStandIn u) = true := by kernel_rfl
theorem instanceOf : Tryz.f13.isInstance Tryz.pinned.checked.prog Rows.eventCutsRow.origin Rows.eventCutsRow.targs := of_decide_eq_true (by kernel_rfl)
theorem wrapperOf : Tryz.f13.isWrapper Tryz.pinned.checked.prog Rows.eventCutsRow.wrapper Rows.eventCutsRow.mainSum := by unfold Func.isWrapper; first | (rw [if_pos (by decide +kernel)]; kernel_rfl) | (rw [if_neg (by decide +kernel)]; exact ⟨rfl, rfl⟩)
theorem closed : joinedFacts prog 13 Tryz.f13 (OpenSpec.ofChange Rows.eventCutsSpec).bare Rows.eventCutsRow = true := by
  unfold joinedFacts
  refine and_tt (and_tt (and_tt (and_tt (and_tt (and_tt (and_tt (and_tt (and_tt (and_tt (and_tt (and_tt (and_tt (and_tt (and_tt (and_tt (and_tt (and_tt (and_tt (and_tt (and_tt (and_tt (and_tt (and_tt (and_tt (and_tt (and_tt (and_tt (and_tt (and_tt (and_tt
    (by kernel_rfl) R7.laidOut) R7.mapsRow) (by kernel_rfl)) (by kernel_rfl)) (by kernel_rfl)) (by kernel_rfl)) (by kernel_rfl)) (by kernel_rfl)) inPlace) unfollowed) recurses) named) (by kernel_rfl)) (by kernel_rfl)) (by kernel_rfl)) (by kernel_rfl)) (by kernel_rfl)) (by kernel_rfl)) (by kernel_rfl)) (by kernel_rfl)) (by kernel_rfl)) (by kernel_rfl)) (by kernel_rfl)) R7.heard) R7.enter) R7.lifts) R7.makeIs) (by kernel_rfl)) (by kernel_rfl)) (by kernel_rfl)) (by kernel_rfl)
end EventCuts
end Go.Proofs.YtnbinppdjnlhpaaGreatDoor
end
