import Derived.Test.YtnbinppdjnlhpaaGreatDoorX26
/- A part of the proofs of the laws of one chapter (no law is stated here). Made by program out of texts by AI agents. -/
section
/- EventSubstitutes: what the row asks of the function. -/
namespace Go.Proofs.YtnbinppdjnlhpaaGreatDoor
open Go Go.RowKit Go.ChangeShapes Go.WideShapes Go.ChangeAt Go.Det Go.Pe
open Go.Proofs.Tryz (prog)
namespace EventSubstitutes
theorem inPlace : (Rows.eventSubstitutesRow.inPlace == prog.inPlace 4) = true := by kernel_rfl
theorem unfollowed : (Rows.eventSubstitutesRow.unfollowed == prog.unfollowed 4) = true := by kernel_rfl
theorem recurses : (Rows.eventSubstitutesRow.recurses == prog.recurses 4) = true := by kernel_rfl
theorem named : (Rows.eventSubstitutesRow.named == prog.varsNamed 4) = true := by kernel_rfl
theorem goes : false = Rows.eventSubstitutesRow.goesBy prog := by kernel_rfl
theorem wfText : Rows.eventSubstitutesRow.wfByText (OpenSpec.ofChange Rows.eventSubstitutesSpec) = true := by kernel_rfl
theorem funcNamed : prog.funcNamed Rows.eventSubstitutesRow.func = some 4 := by kernel_rfl
theorem noInit : prog.inits.idxOf? 4 = none := by kernel_rfl
theorem standIn : ([24, 24, 24].all fun u => !prog.wantsStandIn u) = true := by kernel_rfl
theorem instanceOf : Tryz.f4.isInstance Tryz.pinned.checked.prog Rows.eventSubstitutesRow.origin Rows.eventSubstitutesRow.targs := of_decide_eq_true (by kernel_rfl)
theorem wrapperOf : Tryz.f4.isWrapper Tryz.pinned.checked.prog Rows.eventSubstitutesRow.wrapper Rows.eventSubstitutesRow.mainSum := by unfold Func.isWrapper; first | (rw [if_pos (by decide +kernel)]; kernel_rfl) | (rw [if_neg (by decide +kernel)]; exact ⟨rfl, rfl⟩)
theorem closed : joinedFacts prog 4 Tryz.f4 (OpenSpec.ofChange Rows.eventSubstitutesSpec).bare Rows.eventSubstitutesRow = true := by
  unfold joinedFacts
  refine and_tt (and_tt (and_tt (and_tt (and_tt (and_tt (and_tt (and_tt (and_tt (and_tt (and_tt (and_tt (and_tt (and_tt (and_tt (and_tt (and_tt (and_tt (and_tt (and_tt (and_tt (and_tt (and_tt (and_tt (and_tt (and_tt (and_tt (and_tt (and_tt (and_tt (and_tt
    (by kernel_rfl) R7.laidOut) R7.mapsRow) (by kernel_rfl)) (by kernel_rfl)) (by kernel_rfl)) (by kernel_rfl)) (by kernel_rfl)) (by kernel_rfl)) inPlace) unfollowed) recurses) named) (by kernel_rfl)) (by kernel_rfl)) (by kernel_rfl)) (by kernel_rfl)) (by kernel_rfl)) (by kernel_rfl)) (by kernel_rfl)) (by kernel_rfl)) (by kernel_rfl)) (by kernel_rfl)) (by kernel_rfl)) R7.heard) R7.enter) R7.lifts) R7.makeIs) (by kernel_rfl)) (by kernel_rfl)) (by kernel_rfl)) (by kernel_rfl)
end EventSubstitutes
end Go.Proofs.YtnbinppdjnlhpaaGreatDoor
end
