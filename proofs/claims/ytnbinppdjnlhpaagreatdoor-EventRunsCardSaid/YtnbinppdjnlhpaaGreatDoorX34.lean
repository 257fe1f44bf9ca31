import Derived.Test.YtnbinppdjnlhpaaGreatDoorX26
/- A part of the proofs of the laws of one chapter (no law is stated here). Made by program out of texts by AI agents. -/
section
/- EventRuns: what the row asks of the function. -/
namespace Go.Proofs.YtnbinppdjnlhpaaGreatDoor
open Go Go.RowKit Go.ChangeShapes Go.WideShapes Go.ChangeAt Go.Det Go.Pe
open Go.Proofs.Tryz (prog)
namespace EventRuns
theorem inPlace : (Rows.eventRunsRow.inPlace == prog.inPlace 12) = true := by kernel_rfl
theorem unfollowed : (Rows.eventRunsRow.unfollowed == prog.unfollowed 12) = true := by kernel_rfl
theorem recurses : (Rows.eventRunsRow.recurses == prog.recurses 12) = true := by kernel_rfl
theorem named : (Rows.eventRunsRow.named == prog.varsNamed 12) = true := by kernel_rfl
theorem goes : false = Rows.eventRunsRow.goesBy prog := by kernel_rfl
theorem wfText : Rows.eventRunsRow.wfByText (OpenSpec.ofChange Rows.eventRunsSpec) = true := by kernel_rfl
theorem funcNamed : prog.funcNamed Rows.eventRunsRow.func = some 12 := by kernel_rfl
theorem noInit : prog.inits.idxOf? 12 = none := by kernel_rfl
theorem standIn : ([51, 105].all fun u => !prog.wantsStandIn u) = true := by kernel_rfl
theorem instanceOf : Tryz.f12.isInstance Tryz.pinned.checked.prog Rows.eventRunsRow.origin Rows.eventRunsRow.targs := of_decide_eq_true (by kernel_rfl)
theorem wrapperOf : Tryz.f12.isWrapper Tryz.pinned.checked.prog Rows.eventRunsRow.wrapper Rows.eventRunsRow.mainSum := by unfold Func.isWrapper; first | (rw [if_pos (by decide +kernel)]; kernel_rfl) | (rw [if_neg (by decide +kernel)]; exact ⟨rfl, rfl⟩)
theorem closed : joinedFacts prog 12 Tryz.f12 (OpenSpec.ofChange Rows.eventRunsSpec).bare Rows.eventRunsRow = true := by
  unfold joinedFacts
  refine and_tt (and_tt (and_tt (and_tt (and_tt (and_tt (and_tt (and_tt (and_tt (and_tt (and_tt (and_tt (and_tt (and_tt (and_tt (and_tt (and_tt (and_tt (and_tt (and_tt (and_tt (and_tt (and_tt (and_tt (and_tt (and_tt (and_tt (and_tt (and_tt (and_tt (and_tt
    (by kernel_rfl) R7.laidOut) R7.mapsRow) (by kernel_rfl)) (by kernel_rfl)) (by kernel_rfl)) (by kernel_rfl)) (by kernel_rfl)) (by kernel_rfl)) inPlace) unfollowed) recurses) named) (by kernel_rfl)) (by kernel_rfl)) (by kernel_rfl)) (by kernel_rfl)) (by kernel_rfl)) (by kernel_rfl)) (by kernel_rfl)) (by kernel_rfl)) (by kernel_rfl)) (by kernel_rfl)) (by kernel_rfl)) R7.heard) R7.enter) R7.lifts) R7.makeIs) (by kernel_rfl)) (by kernel_rfl)) (by kernel_rfl)) (by kernel_rfl)
end EventRuns
end Go.Proofs.YtnbinppdjnlhpaaGreatDoor
end
