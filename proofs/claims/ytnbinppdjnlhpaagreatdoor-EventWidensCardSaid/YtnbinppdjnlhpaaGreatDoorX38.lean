import Derived.Test.YtnbinppdjnlhpaaGreatDoorX28
/- A part of the proofs of the laws of one chapter (no law is stated here). Made by program out of texts by AI agents. -/
section
namespace Go.Proofs.YtnbinppdjnlhpaaGreatDoor
open Go Go.RowKit Go.ChangeShapes Go.WideShapes Go.ChangeAt Go.Det Go.Pe
open Go.Proofs.Tryz (prog)
namespace EventWidens
noncomputable abbrev args0 : Array Value := #[.slice none 0 0, .agg #[.int .i64 0, .int .i64 0, .int .i64 0]]
theorem reads (os : Os) {H : Type} (enc : TypeId × Value → H) : ∃ places, DataW.whole enc prog ((W7 os).forCall (fun _ _ => 0) ⟨#[], args0, []⟩).memory Tryz.f14.params.toList Rows.eventWidensSpec.vars false args0.toList 8 =
    some ([.nil, .agg [.lit (.int .i64 0), .lit (.int .i64 0), .lit (.int .i64 0)]], [], places) :=
  ⟨[], by kernel_rfl⟩
theorem a1 (os : Os) : ((W7 os).forCall (fun _ _ => 0) ⟨#[], args0, []⟩).variablesZipB prog = true := by kernel_rfl
theorem a2 (os : Os) : (((W7 os).forCall (fun _ _ => 0) ⟨#[], args0, []⟩).heap.toList.drop prog.globals.size).take ((begin prog (fun _ _ => 0) default).world.heap.size - prog.globals.size) =
      (begin prog (fun _ _ => 0) default).world.heap.toList.drop prog.globals.size := by kernel_rfl
theorem a3 (os : Os) : Input.okWideB prog ((W7 os).forCall (fun _ _ => 0) ⟨#[], args0, []⟩) 14 ⟨#[], args0, []⟩ = true := by kernel_rfl
theorem a4 (os : Os) {H : Type} (enc : TypeId × Value → H) : (OpenSpec.ofChange Rows.eventWidensSpec).bare.sizedB enc prog Tryz.f14 false ((W7 os).forCall (fun _ _ => 0) ⟨#[], args0, []⟩).memory args0 8 = true := by kernel_rfl
end EventWidens
end Go.Proofs.YtnbinppdjnlhpaaGreatDoor
end
