import Derived.Test.YtnbinppdjnlhpaaGreatDoorX08
import Derived.Test.YtnbinppdjnlhpaaGreatDoorProg
/- A part of the proofs of the laws of one chapter (no law is stated here). Made by program out of texts by AI agents. -/
section
namespace Go.Det
noncomputable section
open Go.Proofs.Tryz (prog)
noncomputable def L7 : List (FuncId × PK) := [(330, .indexByte), (294, .add64), (326, .sub64)]
noncomputable def C7 : Ctx := mkC prog 350 L7
theorem cert7a : certR prog 100 0 = true := by kernel_rfl
theorem cert7b : certR prog 100 100 = true := by kernel_rfl
theorem cert7c : certR prog 100 200 = true := by kernel_rfl
theorem cert7d : certR prog 50 300 = true := by kernel_rfl
theorem C7_certs : Certs C7 := mkC_certs fun f i hlt hi => by
  by_cases h1 : f < 100
  · exact certR_ok hi cert7a (by omega) (by omega)
  · by_cases h2 : f < 200
    · exact certR_ok hi cert7b (by omega) (by omega)
    · by_cases h3 : f < 300
      · exact certR_ok hi cert7c (by omega) (by omega)
      · exact certR_ok hi cert7d (by omega) (by omega)
theorem p7a : PrimOk prog (330, .indexByte) := ⟨⟨Go.Proofs.Tryz.f330, by kernel_rfl, by kernel_rfl, by kernel_rfl, by kernel_rfl, by kernel_rfl⟩⟩
theorem p7b : PrimOk prog (294, .add64) := ⟨⟨Go.Proofs.Tryz.f294, by kernel_rfl, by kernel_rfl, by kernel_rfl, by kernel_rfl, by kernel_rfl⟩⟩
theorem p7c : PrimOk prog (326, .sub64) := ⟨⟨Go.Proofs.Tryz.f326, by kernel_rfl, by kernel_rfl, by kernel_rfl, by kernel_rfl, by kernel_rfl⟩⟩
theorem L7_ok : ∀ x ∈ L7, PrimOk prog x := fun x hx => by
  cases hx with
  | head => exact p7a
  | tail _ hx => cases hx with
    | head => exact p7b
    | tail _ hx => cases hx with
      | head => exact p7c
      | tail _ hx => cases hx
theorem C7_ok : C7.Ok prog := mkC_ok L7_ok
theorem mixed7 : prog.follows .mixedOrders = true := by kernel_rfl
end
end Go.Det
end
