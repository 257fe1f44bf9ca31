import Derived.Test.YtnbinppdjnlhpaaGreatDoorX27
/- A part of the proofs of the laws of one chapter (no law is stated here). Made by program out of texts by AI agents. -/
section
/- EventBallots: an input that fits. -/
namespace Go.Proofs.YtnbinppdjnlhpaaGreatDoor
open Go Go.RowKit Go.ChangeShapes Go.WideShapes Go.ChangeAt Go.Det Go.Pe
open Go.Proofs.Tryz (prog)
namespace EventBallots
noncomputable abbrev args0 : Array Value := #[.int .i64 0, .int .i64 0, .agg #[.int .i64 0, .int .i64 0]]
theorem reads (os : Os) {H : Type} (enc : TypeId × Value → H) : ∃ places, DataW.whole enc prog ((W7 os).forCall (fun _ _ => 0) ⟨#[], args0, []⟩).memory Tryz.f3.params.toList Rows.eventBallotsSpec.vars false args0.toList 8 =
    some ([.lit (.int .i64 0), .lit (.int .i64 0), .agg [.lit (.int .i64 0), .lit (.int .i64 0)]], [], places) :=
  ⟨[], by kernel_rfl⟩
theorem a1 (os : Os) : ((W7 os).forCall (fun _ _ => 0) ⟨#[], args0, []⟩).variablesZipB prog = true := by kernel_rfl
theorem a2 (os : Os) : (((W7 os).forCall (fun _ _ => 0) ⟨#[], args0, []⟩).heap.toList.drop prog.globals.size).take ((begin prog (fun _ _ => 0) default).world.heap.size - prog.globals.size) =
      (begin prog (fun _ _ => 0) default).world.heap.toList.drop prog.globals.size := by kernel_rfl
theorem a3 (os : Os) : Input.okWideB prog ((W7 os).forCall (fun _ _ => 0) ⟨#[], args0, []⟩) 3 ⟨#[], args0, []⟩ = true := by kernel_rfl
theorem a4 (os : Os) {H : Type} (enc : TypeId × Value → H) : (OpenSpec.ofChange Rows.eventBallotsSpec).bare.sizedB enc prog Tryz.f3 false ((W7 os).forCall (fun _ _ => 0) ⟨#[], args0, []⟩).memory args0 8 = true := by kernel_rfl
end EventBallots
end Go.Proofs.YtnbinppdjnlhpaaGreatDoor
end
