import Derived.Test.YtjbmodoofdpgcaaGreatDoorX03
import Derived.Test.YtjbmodoofdpgcaaGreatDoorProg
/- A part of a proof; no law is stated here. -/
noncomputable section
namespace Go.Det
section
open Go.Proofs.Tryz (prog)
def L7:List (FuncId×PK):=[(300,.indexByte),(228,.add64),(230,.sub64),(284,.noEsc)]
def C7:Ctx:=zK prog 375 L7
theorem iZ:NG prog 100 0=true:=by kernel_rfl
theorem lJ:NG prog 100 100=true:=by kernel_rfl
theorem gK:NG prog 100 200=true:=by kernel_rfl
theorem jO:NG prog 75 300=true:=by kernel_rfl
theorem E2:Df C7:=Xk fun f i b a=>by
 by_cases h0:f<100
 ·exact Il a iZ ae ae
 ·by_cases d:f<200
  ·exact Il a lJ ae ae
  ·by_cases c:f<300
   ·exact Il a gK ae ae
   ·exact Il a jO ae ae
theorem zM:Ju prog (300,.indexByte):=⟨⟨Go.Proofs.Tryz.f300,by kernel_rfl,by kernel_rfl,by kernel_rfl,by kernel_rfl,by kernel_rfl⟩⟩
theorem zJ:Ju prog (228,.add64):=⟨⟨Go.Proofs.Tryz.f228,by kernel_rfl,by kernel_rfl,by kernel_rfl,by kernel_rfl,by kernel_rfl⟩⟩
theorem AaC:Ju prog (230,.sub64):=⟨⟨Go.Proofs.Tryz.f230,by kernel_rfl,by kernel_rfl,by kernel_rfl,by kernel_rfl,by kernel_rfl⟩⟩
theorem Aat:Ju prog (284,.noEsc):=⟨⟨Go.Proofs.Tryz.f284,by kernel_rfl,by kernel_rfl,by kernel_rfl,by kernel_rfl,by kernel_rfl⟩⟩
theorem vH:∀x∈L7,Ju prog x:=fun x a=>by
 cases a with
 |head=>exact zM
 |tail _ a=>
  cases a with
  |head=>exact zJ
  |tail _ a=>
   cases a with
   |head=>exact AaC
   |tail _ a=>
    cases a with
    |head=>exact Aat
    |tail _ a=>
     cases a
theorem Ow:C7.Ok prog:=rT vH
theorem F4:prog.follows .mixedOrders=true:=by kernel_rfl
end
end Go.Det
