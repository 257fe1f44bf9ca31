import Derived.Test.YtnbinppdjnlhpaaGreatDoorX36
import Derived.Test.YtnbinppdjnlhpaaGreatDoorX37
import Derived.Test.YtnbinppdjnlhpaaGreatDoorX38
/- EventWidens returns true for every input, and each argument reads afterwards as it read before; the listed tables of the library are laid. Made by program out of texts by AI agents. -/
section
/- EventWidens: the row, the card. -/
namespace Go.Proofs.YtnbinppdjnlhpaaGreatDoor
open Go Go.RowKit Go.ChangeShapes Go.WideShapes Go.ChangeAt Go.Det Go.Pe
open Go.Proofs.Tryz (prog)
namespace EventWidens
set_option maxRecDepth 100000 in
theorem lifted (os : Os) (started : os.Started) (H : Type) (enc : TypeId × Value → H) (F : Stop.Interp) :
    ReturnsInHanded {} Tryz.checked os 14 .any ((OpenSpec.ofChange Rows.eventWidensSpec).preRow enc prog Tryz.f14 Rows.eventWidensRow.domain false Rows.eventWidensRow.laid) (((OpenSpec.ofChange Rows.eventWidensSpec).at F).post enc prog Tryz.f14 false true false false) := by
  obtain ⟨places, hx⟩ := reads os enc
  refine returnsInHanded_of_row (C := Tryz.checked) (s := OpenSpec.ofChange Rows.eventWidensSpec) own7 started noInit Tryz.func14
    (witness_lay (enc := enc) (C := Tryz.checked) (W7 os) args0 (World.laidAll_os _ _ _) (World.shaped_of_ZipB (a1 os) (a2 os)) (a3 os)
      (OpenSpec.preRow_of_cond 8 hx (by kernel_rfl) (fun k hk => by cases hk) (a4 os enc) (laid_ok7 os _))) ?_
  intro W base args ds gs before hval hW _ _ _ _ _ _
  exact contract H enc W base args ds gs before hval hW
theorem said : Rows.EventWidensSaid :=
  OpenClaim.holds_of_cond 14 Tryz.f14 rfl rfl rfl rfl rfl rfl rfl ⟨rfl, rfl, rfl, rfl, rfl⟩ rfl rfl rfl rfl rfl funcNamed Tryz.func14 closed instanceOf wrapperOf
    (fun os started H enc _ F => by rw [OpenClaim.pre_eq_preRow]; exact lifted os started H enc F)
theorem plain (f : FuncId) (fn : Func) (hf : Tryz.pinned.checked.prog.funcNamed Rows.eventWidensRow.func = some f) (hfn : Tryz.pinned.checked.prog.funcs[f]? = some fn) :
    true = Tryz.pinned.checked.prog.looks [] ∧ ∀ (j : Nat) t, fn.params[j]? = some t → Tryz.pinned.checked.prog.wantsStandIn t = false := by
  obtain rfl : f = 14 := Option.some.inj (funcNamed.symm.trans hf) |>.symm
  obtain rfl : fn = Tryz.f14 := (Option.some.inj (Tryz.func14.symm.trans hfn)).symm
  refine ⟨R7.looks, fun j t ht => ?_⟩
  rw [Tryz.params14] at ht
  have hm : t ∈ [62, 112] := by simpa using Array.mem_of_getElem? ht
  exact (show prog.wantsStandIn t = false by simpa using List.all_eq_true.1 standIn t hm)
theorem card : Rows.EventWidensCardSaid :=
  Claim7.holds_tied_plain_at .later [] _ _ _ _ said (fun _ h => by cases h) wfText (fun _ h => by cases h) eventWidens_row_tie rfl ⟨rfl, rfl⟩ R7.mainIs rfl plain goes
end EventWidens
theorem eventWidens_holds : Rows.EventWidensCardSaid := EventWidens.card
#print axioms eventWidens_holds
end Go.Proofs.YtnbinppdjnlhpaaGreatDoor
end
