import Derived.Test.YtnbinppdjnlhpaaGreatDoorX26
/- A part of the proofs of the laws of one chapter (no law is stated here). Made by program out of texts by AI agents. -/
section
/- EventDraws: what the row asks of the function. -/
namespace Go.Proofs.YtnbinppdjnlhpaaGreatDoor
open Go Go.RowKit Go.ChangeShapes Go.WideShapes Go.ChangeAt Go.Det Go.Pe
open Go.Proofs.Tryz (prog)
namespace EventDraws
theorem inPlace : (Rows.eventDrawsRow.inPlace == prog.inPlace 6) = true := by kernel_rfl
theorem unfollowed : (Rows.eventDrawsRow.unfollowed == prog.unfollowed 6) = true := by kernel_rfl
theorem recurses : (Rows.eventDrawsRow.recurses == prog.recurses 6) = true := by kernel_rfl
theorem named : (Rows.eventDrawsRow.named == prog.varsNamed 6) = true := by kernel_rfl
theorem goes : false = Rows.eventDrawsRow.goesBy prog := by kernel_rfl
theorem wfText : Rows.eventDrawsRow.wfByText (OpenSpec.ofChange Rows.eventDrawsSpec) = true := by kernel_rfl
theorem funcNamed : prog.funcNamed Rows.eventDrawsRow.func = some 6 := by kernel_rfl
theorem noInit : prog.inits.idxOf? 6 = none := by kernel_rfl
theorem standIn : ([51, 51, 51].all fun u => !prog.wantsStandIn u) = true := by kernel_rfl
theorem instanceOf : Tryz.f6.isInstance Tryz.pinned.checked.prog Rows.eventDrawsRow.origin Rows.eventDrawsRow.targs := of_decide_eq_true (by kernel_rfl)
theorem wrapperOf : Tryz.f6.isWrapper Tryz.pinned.checked.prog Rows.eventDrawsRow.wrapper Rows.eventDrawsRow.mainSum := by unfold Func.isWrapper; first | (rw [if_pos (by decide +kernel)]; kernel_rfl) | (rw [if_neg (by decide +kernel)]; exact ⟨rfl, rfl⟩)
theorem closed : joinedFacts prog 6 Tryz.f6 (OpenSpec.ofChange Rows.eventDrawsSpec).bare Rows.eventDrawsRow = true := by
  unfold joinedFacts
  refine and_tt (and_tt (and_tt (and_tt (and_tt (and_tt (and_tt (and_tt (and_tt (and_tt (and_tt (and_tt (and_tt (and_tt (and_tt (and_tt (and_tt (and_tt (and_tt (and_tt (and_tt (and_tt (and_tt (and_tt (and_tt (and_tt (and_tt (and_tt (and_tt (and_tt (and_tt
    (by kernel_rfl) R7.laidOut) R7.mapsRow) (by kernel_rfl)) (by kernel_rfl)) (by kernel_rfl)) (by kernel_rfl)) (by kernel_rfl)) (by kernel_rfl)) inPlace) unfollowed) recurses) named) (by kernel_rfl)) (by kernel_rfl)) (by kernel_rfl)) (by kernel_rfl)) (by kernel_rfl)) (by kernel_rfl)) (by kernel_rfl)) (by kernel_rfl)) (by kernel_rfl)) (by kernel_rfl)) (by kernel_rfl)) R7.heard) R7.enter) R7.lifts) R7.makeIs) (by kernel_rfl)) (by kernel_rfl)) (by kernel_rfl)) (by kernel_rfl)
end EventDraws
end Go.Proofs.YtnbinppdjnlhpaaGreatDoor
end
