import Derived.Test.YtnbinppdjnlhpaaGreatDoorX28
/- A part of the proofs of the laws of one chapter (no law is stated here). Made by program out of texts by AI agents. -/
section
/- EventBallots: what the row asks of the function. -/
namespace Go.Proofs.YtnbinppdjnlhpaaGreatDoor
open Go Go.RowKit Go.ChangeShapes Go.WideShapes Go.ChangeAt Go.Det Go.Pe
open Go.Proofs.Tryz (prog)
namespace EventBallots
theorem inPlace : (Rows.eventBallotsRow.inPlace == prog.inPlace 3) = true := by kernel_rfl
theorem unfollowed : (Rows.eventBallotsRow.unfollowed == prog.unfollowed 3) = true := by kernel_rfl
theorem recurses : (Rows.eventBallotsRow.recurses == prog.recurses 3) = true := by kernel_rfl
theorem named : (Rows.eventBallotsRow.named == prog.varsNamed 3) = true := by kernel_rfl
theorem goes : false = Rows.eventBallotsRow.goesBy prog := by kernel_rfl
theorem wfText : Rows.eventBallotsRow.wfByText (OpenSpec.ofChange Rows.eventBallotsSpec) = true := by kernel_rfl
theorem funcNamed : prog.funcNamed Rows.eventBallotsRow.func = some 3 := by kernel_rfl
theorem noInit : prog.inits.idxOf? 3 = none := by kernel_rfl
theorem standIn : ([3, 3, 22].all fun u => !prog.wantsStandIn u) = true := by kernel_rfl
theorem instanceOf : Tryz.f3.isInstance Tryz.pinned.checked.prog Rows.eventBallotsRow.origin Rows.eventBallotsRow.targs := of_decide_eq_true (by kernel_rfl)
theorem wrapperOf : Tryz.f3.isWrapper Tryz.pinned.checked.prog Rows.eventBallotsRow.wrapper Rows.eventBallotsRow.mainSum := by unfold Func.isWrapper; first | (rw [if_pos (by decide +kernel)]; kernel_rfl) | (rw [if_neg (by decide +kernel)]; exact ⟨rfl, rfl⟩)
theorem closed : joinedFacts prog 3 Tryz.f3 (OpenSpec.ofChange Rows.eventBallotsSpec).bare Rows.eventBallotsRow = true := by
  unfold joinedFacts
  refine and_tt (and_tt (and_tt (and_tt (and_tt (and_tt (and_tt (and_tt (and_tt (and_tt (and_tt (and_tt (and_tt (and_tt (and_tt (and_tt (and_tt (and_tt (and_tt (and_tt (and_tt (and_tt (and_tt (and_tt (and_tt (and_tt (and_tt (and_tt (and_tt (and_tt (and_tt
    (by kernel_rfl) R7.laidOut) R7.mapsRow) (by kernel_rfl)) (by kernel_rfl)) (by kernel_rfl)) (by kernel_rfl)) (by kernel_rfl)) (by kernel_rfl)) inPlace) unfollowed) recurses) named) (by kernel_rfl)) (by kernel_rfl)) (by kernel_rfl)) (by kernel_rfl)) (by kernel_rfl)) (by kernel_rfl)) (by kernel_rfl)) (by kernel_rfl)) (by kernel_rfl)) (by kernel_rfl)) (by kernel_rfl)) R7.heard) R7.enter) R7.lifts) R7.makeIs) (by kernel_rfl)) (by kernel_rfl)) (by kernel_rfl)) (by kernel_rfl)
end EventBallots
end Go.Proofs.YtnbinppdjnlhpaaGreatDoor
end
