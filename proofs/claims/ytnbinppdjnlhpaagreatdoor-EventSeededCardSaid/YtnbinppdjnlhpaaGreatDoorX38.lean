import Derived.Test.YtnbinppdjnlhpaaGreatDoorX28
/- A part of the proofs of the laws of one chapter (no law is stated here). Made by program out of texts by AI agents. -/
section
/- EventSeeded: what the row asks of the function. -/
namespace Go.Proofs.YtnbinppdjnlhpaaGreatDoor
open Go Go.RowKit Go.ChangeShapes Go.WideShapes Go.ChangeAt Go.Det Go.Pe
open Go.Proofs.Tryz (prog)
namespace EventSeeded
theorem inPlace : (Rows.eventSeededRow.inPlace == prog.inPlace 9) = true := by kernel_rfl
theorem unfollowed : (Rows.eventSeededRow.unfollowed == prog.unfollowed 9) = true := by kernel_rfl
theorem recurses : (Rows.eventSeededRow.recurses == prog.recurses 9) = true := by kernel_rfl
theorem named : (Rows.eventSeededRow.named == prog.varsNamed 9) = true := by kernel_rfl
theorem goes : false = Rows.eventSeededRow.goesBy prog := by kernel_rfl
theorem wfText : Rows.eventSeededRow.wfByText (OpenSpec.ofChange Rows.eventSeededSpec) = true := by kernel_rfl
theorem funcNamed : prog.funcNamed Rows.eventSeededRow.func = some 9 := by kernel_rfl
theorem noInit : prog.inits.idxOf? 9 = none := by kernel_rfl
theorem standIn : ([3, 5, 5].all fun u => !prog.wantsStandIn u) = true := by kernel_rfl
theorem instanceOf : Tryz.f9.isInstance Tryz.pinned.checked.prog Rows.eventSeededRow.origin Rows.eventSeededRow.targs := of_decide_eq_true (by kernel_rfl)
theorem wrapperOf : Tryz.f9.isWrapper Tryz.pinned.checked.prog Rows.eventSeededRow.wrapper Rows.eventSeededRow.mainSum := by unfold Func.isWrapper; first | (rw [if_pos (by decide +kernel)]; kernel_rfl) | (rw [if_neg (by decide +kernel)]; exact ⟨rfl, rfl⟩)
theorem closed : joinedFacts prog 9 Tryz.f9 (OpenSpec.ofChange Rows.eventSeededSpec).bare Rows.eventSeededRow = true := by
  unfold joinedFacts
  refine and_tt (and_tt (and_tt (and_tt (and_tt (and_tt (and_tt (and_tt (and_tt (and_tt (and_tt (and_tt (and_tt (and_tt (and_tt (and_tt (and_tt (and_tt (and_tt (and_tt (and_tt (and_tt (and_tt (and_tt (and_tt (and_tt (and_tt (and_tt (and_tt (and_tt (and_tt
    (by kernel_rfl) R7.laidOut) R7.mapsRow) (by kernel_rfl)) (by kernel_rfl)) (by kernel_rfl)) (by kernel_rfl)) (by kernel_rfl)) (by kernel_rfl)) inPlace) unfollowed) recurses) named) (by kernel_rfl)) (by kernel_rfl)) (by kernel_rfl)) (by kernel_rfl)) (by kernel_rfl)) (by kernel_rfl)) (by kernel_rfl)) (by kernel_rfl)) (by kernel_rfl)) (by kernel_rfl)) (by kernel_rfl)) R7.heard) R7.enter) R7.lifts) R7.makeIs) (by kernel_rfl)) (by kernel_rfl)) (by kernel_rfl)) (by kernel_rfl)
end EventSeeded
end Go.Proofs.YtnbinppdjnlhpaaGreatDoor
end
