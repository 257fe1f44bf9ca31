import Derived.Test.YtnbinppdjnlhpaaGreatDoorX23
import Derived.Test.YtnbinppdjnlhpaaGreatDoorX25
import Derived.Test.YtnbinppdjnlhpaaGreatDoorX26
/- A part of the proofs of the laws of one chapter (no law is stated here). Made by program out of texts by AI agents. -/
section
namespace Go.Proofs.YtnbinppdjnlhpaaGreatDoor
open Go Go.RowKit Go.ChangeShapes Go.WideShapes Go.ChangeAt Go.Det Go.Pe
open Go.Proofs.Tryz (prog)
namespace EventPlaces
theorem shapes : argShs prog 9 [62] = some cEventPlaces.ins := by kernel_rfl
set_option maxRecDepth 100000 in
theorem contract (H : Type) (enc : TypeId × Value → H) (W : World) (base : Nat) (args : Array Value) (ds gs : List (DataW H)) (before : List MemPlace)
    (hval : ∀ (j : Nat) t v, Tryz.f7.params[j]? = some t → args[j]? = some v → Value.okWide prog W .any base t v)
    (hW : DataW.Whole enc prog Tryz.f7.params.toList Rows.eventPlacesSpec.vars false W args.toList ds gs before) :
    Calls prog 7 args W fun e W' => ∃ v, e = .returned v ∧ Rows.eventPlacesSpec.post enc prog Tryz.f7 false true false false W args v W' := by
  have hW' := hW
  obtain ⟨p, q, hA0, hV, rfl, hfz, hnd⟩ := hW
  have hA : DataW.TrodAll enc prog W 0 (fun _ => true) true Tryz.f7.params.toList args.toList ds p := hA0
  rw [Tryz.params7] at hA hval
  obtain ⟨x, h1, h2, h3⟩ := args_any shapes (fun j t v ht hv => hval j t v (by simpa using ht) (by simpa using hv)) hA
  obtain ⟨d1, rfl⟩ := list1 (trodAll_len hA)
  exact (calls_of_specW T7.ok x rfl h1 h3 (fun F' v h => res_true h)).mono fun e W' ⟨he, hb⟩ => ⟨_, he, post_true (L := [62, 97, 9, 4, 24, 3]) hW' rfl (by kernel_rfl) Tryz.underlying4 rfl hb (by kernel_rfl) (by kernel_rfl)⟩
end EventPlaces
end Go.Proofs.YtnbinppdjnlhpaaGreatDoor
end
