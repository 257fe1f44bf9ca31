import Derived.Test.YtnbinppdjnlhpaaGreatDoorX25
/- A part of the proofs of the laws of one chapter (no law is stated here). Made by program out of texts by AI agents. -/
section
namespace Go.Proofs.YtnbinppdjnlhpaaGreatDoor
open Go Go.RowKit Go.ChangeShapes Go.WideShapes Go.ChangeAt Go.Det Go.Pe
open Go.Proofs.Tryz (prog)
namespace EventPlaces
theorem inPlace : (Rows.eventPlacesRow.inPlace == prog.inPlace 7) = true := by kernel_rfl
theorem unfollowed : (Rows.eventPlacesRow.unfollowed == prog.unfollowed 7) = true := by kernel_rfl
theorem recurses : (Rows.eventPlacesRow.recurses == prog.recurses 7) = true := by kernel_rfl
theorem named : (Rows.eventPlacesRow.named == prog.varsNamed 7) = true := by kernel_rfl
theorem goes : false = Rows.eventPlacesRow.goesBy prog := by kernel_rfl
theorem wfText : Rows.eventPlacesRow.wfByText (OpenSpec.ofChange Rows.eventPlacesSpec) = true := by kernel_rfl
theorem funcNamed : prog.funcNamed Rows.eventPlacesRow.func = some 7 := by kernel_rfl
theorem noInit : prog.inits.idxOf? 7 = none := by kernel_rfl
theorem standIn : ([62].all fun u => !prog.wantsStandIn u) = true := by kernel_rfl
theorem instanceOf : Tryz.f7.isInstance Tryz.pinned.checked.prog Rows.eventPlacesRow.origin Rows.eventPlacesRow.targs := of_decide_eq_true (by kernel_rfl)
theorem wrapperOf : Tryz.f7.isWrapper Tryz.pinned.checked.prog Rows.eventPlacesRow.wrapper Rows.eventPlacesRow.mainSum := by unfold Func.isWrapper; first | (rw [if_pos (by decide +kernel)]; kernel_rfl) | (rw [if_neg (by decide +kernel)]; exact ⟨rfl, rfl⟩)
theorem closed : joinedFacts prog 7 Tryz.f7 (OpenSpec.ofChange Rows.eventPlacesSpec).bare Rows.eventPlacesRow = true := by
  unfold joinedFacts
  refine and_tt (and_tt (and_tt (and_tt (and_tt (and_tt (and_tt (and_tt (and_tt (and_tt (and_tt (and_tt (and_tt (and_tt (and_tt (and_tt (and_tt (and_tt (and_tt (and_tt (and_tt (and_tt (and_tt (and_tt (and_tt (and_tt (and_tt (and_tt (and_tt (and_tt (and_tt
    (by kernel_rfl) R7.laidOut) R7.mapsRow) (by kernel_rfl)) (by kernel_rfl)) (by kernel_rfl)) (by kernel_rfl)) (by kernel_rfl)) (by kernel_rfl)) inPlace) unfollowed) recurses) named) (by kernel_rfl)) (by kernel_rfl)) (by kernel_rfl)) (by kernel_rfl)) (by kernel_rfl)) (by kernel_rfl)) (by kernel_rfl)) (by kernel_rfl)) (by kernel_rfl)) (by kernel_rfl)) (by kernel_rfl)) R7.heard) R7.enter) R7.lifts) R7.makeIs) (by kernel_rfl)) (by kernel_rfl)) (by kernel_rfl)) (by kernel_rfl)
end EventPlaces
end Go.Proofs.YtnbinppdjnlhpaaGreatDoor
end
