import Derived.Test.YtipkapecgjpnlaaGreatDoorX03
import Derived.Test.YtipkapecgjpnlaaGreatDoorProg
/- A part of a proof; no law is stated here. -/
noncomputable section
namespace Go.Det
section
open Go.Proofs.Tryz (prog)
def L7:List (FuncId×PK):=[(314,.indexByte),(255,.add64),(256,.sub64),(282,.noEsc)]
def C7:Ctx:=mkC prog 380 L7
theorem oG:Ou prog 100 0=true:=by kernel_rfl
theorem pX:Ou prog 100 100=true:=by kernel_rfl
theorem pP:Ou prog 100 200=true:=by kernel_rfl
theorem qC:Ou prog 80 300=true:=by kernel_rfl
theorem FI:Du C7:=Zy fun f i b a=>by
 by_cases h0:f<100
 ·exact IK a oG ae ae
 ·by_cases c:f<200
  ·exact IK a pX ae ae
  ·by_cases d:f<300
   ·exact IK a pP ae ae
   ·exact IK a qC ae ae
theorem AcV:J6 prog (314,.indexByte):=⟨⟨Go.Proofs.Tryz.f314,by kernel_rfl,by kernel_rfl,by kernel_rfl,by kernel_rfl,by kernel_rfl⟩⟩
theorem AcL:J6 prog (255,.add64):=⟨⟨Go.Proofs.Tryz.f255,by kernel_rfl,by kernel_rfl,by kernel_rfl,by kernel_rfl,by kernel_rfl⟩⟩
theorem AcG:J6 prog (256,.sub64):=⟨⟨Go.Proofs.Tryz.f256,by kernel_rfl,by kernel_rfl,by kernel_rfl,by kernel_rfl,by kernel_rfl⟩⟩
theorem AcE:J6 prog (282,.noEsc):=⟨⟨Go.Proofs.Tryz.f282,by kernel_rfl,by kernel_rfl,by kernel_rfl,by kernel_rfl,by kernel_rfl⟩⟩
theorem AbD:∀x∈L7,J6 prog x:=fun x a=>by
 cases a with
 |head=>exact AcV
 |tail _ a=>
  cases a with
  |head=>exact AcL
  |tail _ a=>
   cases a with
   |head=>exact AcG
   |tail _ a=>
    cases a with
    |head=>exact AcE
    |tail _ a=>
     cases a
theorem PA:C7.Ok prog:=wK AbD
theorem GD:prog.follows .mixedOrders=true:=by kernel_rfl
end
end Go.Det
