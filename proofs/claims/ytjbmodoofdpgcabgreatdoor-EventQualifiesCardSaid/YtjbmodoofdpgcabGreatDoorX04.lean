import Derived.Test.YtjbmodoofdpgcabGreatDoorX03
import Derived.Test.YtjbmodoofdpgcabGreatDoorProg
/- A part of a proof; no law is stated here. -/
noncomputable section
namespace Go.Det
section
open Go.Proofs.Tryz (prog)
def L7:List (FuncId×PK):=[(195,.indexByte),(171,.add64),(193,.sub64)]
def C7:Ctx:=UK prog 272 L7
theorem RD:Il prog 100 0=true:=by kernel_rfl
theorem RO:Il prog 100 100=true:=by kernel_rfl
theorem RK:Il prog 72 200=true:=by kernel_rfl
theorem G1:CZ C7:=NN fun f i b a=>by
 by_cases h0:f<100
 ·exact ET a RD a8 a8
 ·by_cases c:f<200
  ·exact ET a RO a8 a8
  ·exact ET a RK a8 a8
theorem UE:FD prog (195,.indexByte):=⟨⟨Go.Proofs.Tryz.f195,by kernel_rfl,by kernel_rfl,by kernel_rfl,by kernel_rfl,by kernel_rfl⟩⟩
theorem UL:FD prog (171,.add64):=⟨⟨Go.Proofs.Tryz.f171,by kernel_rfl,by kernel_rfl,by kernel_rfl,by kernel_rfl,by kernel_rfl⟩⟩
theorem Uv:FD prog (193,.sub64):=⟨⟨Go.Proofs.Tryz.f193,by kernel_rfl,by kernel_rfl,by kernel_rfl,by kernel_rfl,by kernel_rfl⟩⟩
theorem TQ:∀x∈L7,FD prog x:=fun x a=>by
 cases a with
 |head=>exact UE
 |tail _ a=>
  cases a with
  |head=>exact UL
  |tail _ a=>
   cases a with
   |head=>exact Uv
   |tail _ a=>
    cases a
theorem Oj:C7.Ok prog:=SN TQ
theorem Mm:prog.follows .mixedOrders=true:=by kernel_rfl
end
end Go.Det
