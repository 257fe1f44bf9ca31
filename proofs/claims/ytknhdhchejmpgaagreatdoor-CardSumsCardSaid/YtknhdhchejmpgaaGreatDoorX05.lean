import Derived.Test.YtknhdhchejmpgaaGreatDoorX04
import Derived.Test.YtknhdhchejmpgaaGreatDoorProg
/- A part of a proof (no law is stated here). Made by program out of texts by AI agents. -/
noncomputable section
namespace Go.Det
section
open Go.Proofs.Tryz (prog)
def L7:List (FuncId×PK):=[(316,.indexByte),(268,.add64),(270,.sub64),(309,.count),(283,.noEsc)]
def C7:Ctx:=mkC prog 350 L7
theorem vN:NY prog 100 0=true:=by kernel_rfl
theorem uN:NY prog 100 100=true:=by kernel_rfl
theorem uL:NY prog 100 200=true:=by kernel_rfl
theorem vL:NY prog 50 300=true:=by kernel_rfl
theorem Kr:F8 C7:=Zl fun f i hlt hi=>by
 by_cases h1:f<100
 ·exact Ig hi vN (by omega) (by omega)
 ·by_cases h2:f<200
  ·exact Ig hi uN (by omega) (by omega)
  ·by_cases h3:f<300
   ·exact Ig hi uL (by omega) (by omega)
   ·exact Ig hi vL (by omega) (by omega)
theorem p7a:HY prog (316,.indexByte):=⟨⟨Go.Proofs.Tryz.f316,by kernel_rfl,by kernel_rfl,by kernel_rfl,by kernel_rfl,by kernel_rfl⟩⟩
theorem p7b:HY prog (268,.add64):=⟨⟨Go.Proofs.Tryz.f268,by kernel_rfl,by kernel_rfl,by kernel_rfl,by kernel_rfl,by kernel_rfl⟩⟩
theorem p7c:HY prog (270,.sub64):=⟨⟨Go.Proofs.Tryz.f270,by kernel_rfl,by kernel_rfl,by kernel_rfl,by kernel_rfl,by kernel_rfl⟩⟩
theorem p7d:HY prog (309,.count):=⟨⟨Go.Proofs.Tryz.f309,by kernel_rfl,by kernel_rfl,by kernel_rfl,by kernel_rfl,by kernel_rfl⟩⟩
theorem p7e:HY prog (283,.noEsc):=⟨⟨Go.Proofs.Tryz.f283,by kernel_rfl,by kernel_rfl,by kernel_rfl,by kernel_rfl,by kernel_rfl⟩⟩
theorem yK:∀x∈L7,HY prog x:=fun x hx=>by
 cases hx with
 |head=>exact p7a
 |tail _ hx=>cases hx with
  |head=>exact p7b
  |tail _ hx=>cases hx with
   |head=>exact p7c
   |tail _ hx=>cases hx with
    |head=>exact p7d
    |tail _ hx=>cases hx with
     |head=>exact p7e
     |tail _ hx=>cases hx
theorem YN:C7.Ok prog:=uK yK
theorem S5:prog.follows .mixedOrders=true:=by kernel_rfl
end
end Go.Det
