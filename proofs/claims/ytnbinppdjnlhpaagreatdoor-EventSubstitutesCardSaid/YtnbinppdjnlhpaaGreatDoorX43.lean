import Derived.Test.YtnbinppdjnlhpaaGreatDoorX25
/- A part of the proofs of the laws of one chapter (no law is stated here). Made by program out of texts by AI agents. -/
section
/- EventSubstitutes: an input that fits. -/
namespace Go.Proofs.YtnbinppdjnlhpaaGreatDoor
open Go Go.RowKit Go.ChangeShapes Go.WideShapes Go.ChangeAt Go.Det Go.Pe
open Go.Proofs.Tryz (prog)
namespace EventSubstitutes
noncomputable abbrev args0 : Array Value := #[.slice none 0 0, .slice none 0 0, .slice none 0 0]
theorem reads (os : Os) {H : Type} (enc : TypeId × Value → H) : ∃ places, DataW.whole enc prog ((W7 os).forCall (fun _ _ => 0) ⟨#[], args0, []⟩).memory Tryz.f4.params.toList Rows.eventSubstitutesSpec.vars false args0.toList 8 =
    some ([.nil, .nil, .nil], [], places) :=
  ⟨[], by kernel_rfl⟩
theorem a1 (os : Os) : ((W7 os).forCall (fun _ _ => 0) ⟨#[], args0, []⟩).variablesZipB prog = true := by kernel_rfl
theorem a2 (os : Os) : (((W7 os).forCall (fun _ _ => 0) ⟨#[], args0, []⟩).heap.toList.drop prog.globals.size).take ((begin prog (fun _ _ => 0) default).world.heap.size - prog.globals.size) =
      (begin prog (fun _ _ => 0) default).world.heap.toList.drop prog.globals.size := by kernel_rfl
theorem a3 (os : Os) : Input.okWideB prog ((W7 os).forCall (fun _ _ => 0) ⟨#[], args0, []⟩) 4 ⟨#[], args0, []⟩ = true := by kernel_rfl
theorem a4 (os : Os) {H : Type} (enc : TypeId × Value → H) : (OpenSpec.ofChange Rows.eventSubstitutesSpec).bare.sizedB enc prog Tryz.f4 false ((W7 os).forCall (fun _ _ => 0) ⟨#[], args0, []⟩).memory args0 8 = true := by kernel_rfl
end EventSubstitutes
end Go.Proofs.YtnbinppdjnlhpaaGreatDoor
end
