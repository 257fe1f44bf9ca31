import Derived.Test.YtnbinppdjnlhpaaGreatDoorX35
import Derived.Test.YtnbinppdjnlhpaaGreatDoorX29
import Derived.Test.YtnbinppdjnlhpaaGreatDoorX30
/- A part of the proofs of the laws of one chapter (no law is stated here). Made by program out of texts by AI agents. -/
section
namespace Go.Proofs.YtnbinppdjnlhpaaGreatDoor
open Go Go.RowKit Go.ChangeShapes Go.WideShapes Go.ChangeAt Go.Det Go.Pe
open Go.Proofs.Tryz (prog)
namespace EventWidens
theorem shapes : argShs prog 9 [62, 112] = some cEventWidens.ins := by kernel_rfl
set_option maxRecDepth 100000 in
theorem contract (H : Type) (enc : TypeId × Value → H) (W : World) (base : Nat) (args : Array Value) (ds gs : List (DataW H)) (before : List MemPlace)
    (hval : ∀ (j : Nat) t v, Tryz.f14.params[j]? = some t → args[j]? = some v → Value.okWide prog W .any base t v)
    (hW : DataW.Whole enc prog Tryz.f14.params.toList Rows.eventWidensSpec.vars false W args.toList ds gs before) :
    Calls prog 14 args W fun e W' => ∃ v, e = .returned v ∧ Rows.eventWidensSpec.post enc prog Tryz.f14 false true false false W args v W' := by
  have hW' := hW
  obtain ⟨p, q, hA0, hV, rfl, hfz, hnd⟩ := hW
  have hA : DataW.TrodAll enc prog W 0 (fun _ => true) true Tryz.f14.params.toList args.toList ds p := hA0
  rw [Tryz.params14] at hA hval
  obtain ⟨x, h1, h2, h3⟩ := args_any shapes (fun j t v ht hv => hval j t v (by simpa using ht) (by simpa using hv)) hA
  obtain ⟨d1, d2, rfl⟩ := list2 (trodAll_len hA)
  exact (calls_of_specW T14.ok x rfl h1 h3 (fun F' v h => res_true h)).mono fun e W' ⟨he, hb⟩ => ⟨_, he, post_true (L := [62, 97, 9, 4, 24, 3, 112]) hW' rfl (by kernel_rfl) Tryz.underlying4 rfl hb (by kernel_rfl) (by kernel_rfl)⟩
end EventWidens
end Go.Proofs.YtnbinppdjnlhpaaGreatDoor
end
