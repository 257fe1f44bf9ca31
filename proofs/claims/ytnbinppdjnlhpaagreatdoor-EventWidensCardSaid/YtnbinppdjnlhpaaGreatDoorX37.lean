import Derived.Test.YtnbinppdjnlhpaaGreatDoorX29
/- A part of the proofs of the laws of one chapter (no law is stated here). Made by program out of texts by AI agents. -/
section
namespace Go.Proofs.YtnbinppdjnlhpaaGreatDoor
open Go Go.RowKit Go.ChangeShapes Go.WideShapes Go.ChangeAt Go.Det Go.Pe
open Go.Proofs.Tryz (prog)
namespace EventWidens
theorem inPlace : (Rows.eventWidensRow.inPlace == prog.inPlace 14) = true := by kernel_rfl
theorem unfollowed : (Rows.eventWidensRow.unfollowed == prog.unfollowed 14) = true := by kernel_rfl
theorem recurses : (Rows.eventWidensRow.recurses == prog.recurses 14) = true := by kernel_rfl
theorem named : (Rows.eventWidensRow.named == prog.varsNamed 14) = true := by kernel_rfl
theorem goes : false = Rows.eventWidensRow.goesBy prog := by kernel_rfl
theorem wfText : Rows.eventWidensRow.wfByText (OpenSpec.ofChange Rows.eventWidensSpec) = true := by kernel_rfl
theorem funcNamed : prog.funcNamed Rows.eventWidensRow.func = some 14 := by kernel_rfl
theorem noInit : prog.inits.idxOf? 14 = none := by kernel_rfl
theorem standIn : ([62, 112].all fun u => !prog.wantsStandIn u) = true := by kernel_rfl
theorem instanceOf : Tryz.f14.isInstance Tryz.pinned.checked.prog Rows.eventWidensRow.origin Rows.eventWidensRow.targs := of_decide_eq_true (by kernel_rfl)
theorem wrapperOf : Tryz.f14.isWrapper Tryz.pinned.checked.prog Rows.eventWidensRow.wrapper Rows.eventWidensRow.mainSum := by unfold Func.isWrapper; first | (rw [if_pos (by decide +kernel)]; kernel_rfl) | (rw [if_neg (by decide +kernel)]; exact ⟨rfl, rfl⟩)
theorem closed : joinedFacts prog 14 Tryz.f14 (OpenSpec.ofChange Rows.eventWidensSpec).bare Rows.eventWidensRow = true := by
  unfold joinedFacts
  refine and_tt (and_tt (and_tt (and_tt (and_tt (and_tt (and_tt (and_tt (and_tt (and_tt (and_tt (and_tt (and_tt (and_tt (and_tt (and_tt (and_tt (and_tt (and_tt (and_tt (and_tt (and_tt (and_tt (and_tt (and_tt (and_tt (and_tt (and_tt (and_tt (and_tt (and_tt
    (by kernel_rfl) R7.laidOut) R7.mapsRow) (by kernel_rfl)) (by kernel_rfl)) (by kernel_rfl)) (by kernel_rfl)) (by kernel_rfl)) (by kernel_rfl)) inPlace) unfollowed) recurses) named) (by kernel_rfl)) (by kernel_rfl)) (by kernel_rfl)) (by kernel_rfl)) (by kernel_rfl)) (by kernel_rfl)) (by kernel_rfl)) (by kernel_rfl)) (by kernel_rfl)) (by kernel_rfl)) (by kernel_rfl)) R7.heard) R7.enter) R7.lifts) R7.makeIs) (by kernel_rfl)) (by kernel_rfl)) (by kernel_rfl)) (by kernel_rfl)
end EventWidens
end Go.Proofs.YtnbinppdjnlhpaaGreatDoor
end
