import Derived.Test.YtjbmodoofdpgcaaGreatDoorX03
import Derived.Test.YtjbmodoofdpgcaaGreatDoorProg
/- A part of a proof; no law is stated here. -/
noncomputable section
namespace Go.Det
section
open Go.Proofs.Tryz (prog)
def L7:List (FuncId×PK):=[(300,.indexByte),(228,.add64),(230,.sub64),(284,.noEsc)]
def C7:Ctx:=mkC prog 375 L7
theorem qJ:OX prog 100 0=true:=by kernel_rfl
theorem rE:OX prog 100 100=true:=by kernel_rfl
theorem oS:OX prog 100 200=true:=by kernel_rfl
theorem nV:OX prog 75 300=true:=by kernel_rfl
theorem FB:DB C7:=ZA fun f i b a=>by
 by_cases h0:f<100
 ·exact H9 a qJ ae ae
 ·by_cases d:f<200
  ·exact H9 a rE ae ae
  ·by_cases c:f<300
   ·exact H9 a oS ae ae
   ·exact H9 a nV ae ae
theorem Acn:J5 prog (300,.indexByte):=⟨⟨Go.Proofs.Tryz.f300,by kernel_rfl,by kernel_rfl,by kernel_rfl,by kernel_rfl,by kernel_rfl⟩⟩
theorem AcL:J5 prog (228,.add64):=⟨⟨Go.Proofs.Tryz.f228,by kernel_rfl,by kernel_rfl,by kernel_rfl,by kernel_rfl,by kernel_rfl⟩⟩
theorem Acx:J5 prog (230,.sub64):=⟨⟨Go.Proofs.Tryz.f230,by kernel_rfl,by kernel_rfl,by kernel_rfl,by kernel_rfl,by kernel_rfl⟩⟩
theorem AcK:J5 prog (284,.noEsc):=⟨⟨Go.Proofs.Tryz.f284,by kernel_rfl,by kernel_rfl,by kernel_rfl,by kernel_rfl,by kernel_rfl⟩⟩
theorem Abr:∀x∈L7,J5 prog x:=fun x a=>by
 cases a with
 |head=>exact Acn
 |tail _ a=>
  cases a with
  |head=>exact AcL
  |tail _ a=>
   cases a with
   |head=>exact Acx
   |tail _ a=>
    cases a with
    |head=>exact AcK
    |tail _ a=>
     cases a
theorem Of:C7.Ok prog:=xJ Abr
theorem Gw:prog.follows .mixedOrders=true:=by kernel_rfl
end
end Go.Det
