import Derived.Test.YtknhdhchejmpgaaGreatDoorX04
import Derived.Test.YtknhdhchejmpgaaGreatDoorProg
/- A part of a proof (no law is stated here). Made by program out of texts by AI agents. -/
namespace Go.Det
noncomputable section
open Go.Proofs.Tryz (prog)
noncomputable def L7:List (FuncId×PK):=[(316,.indexByte),(268,.add64),(270,.sub64),(309,.count),(283,.noEsc)]
noncomputable def C7:Ctx:=xY prog 350 L7
theorem sO:NN prog 100 0=true:=by kernel_rfl
theorem pC:NN prog 100 100=true:=by kernel_rfl
theorem sQ:NN prog 100 200=true:=by kernel_rfl
theorem sV:NN prog 50 300=true:=by kernel_rfl
theorem JT:FM C7:=XP fun f i hlt hi=>by
 by_cases h1:f<100
 ·exact HJ hi sO (by omega) (by omega)
 ·by_cases h2:f<200
  ·exact HJ hi pC (by omega) (by omega)
  ·by_cases h3:f<300
   ·exact HJ hi sQ (by omega) (by omega)
   ·exact HJ hi sV (by omega) (by omega)
theorem zD:HM prog (316,.indexByte):=⟨⟨Go.Proofs.Tryz.f316,by kernel_rfl,by kernel_rfl,by kernel_rfl,by kernel_rfl,by kernel_rfl⟩⟩
theorem zC:HM prog (268,.add64):=⟨⟨Go.Proofs.Tryz.f268,by kernel_rfl,by kernel_rfl,by kernel_rfl,by kernel_rfl,by kernel_rfl⟩⟩
theorem zB:HM prog (270,.sub64):=⟨⟨Go.Proofs.Tryz.f270,by kernel_rfl,by kernel_rfl,by kernel_rfl,by kernel_rfl,by kernel_rfl⟩⟩
theorem zI:HM prog (309,.count):=⟨⟨Go.Proofs.Tryz.f309,by kernel_rfl,by kernel_rfl,by kernel_rfl,by kernel_rfl,by kernel_rfl⟩⟩
theorem yY:HM prog (283,.noEsc):=⟨⟨Go.Proofs.Tryz.f283,by kernel_rfl,by kernel_rfl,by kernel_rfl,by kernel_rfl,by kernel_rfl⟩⟩
theorem uY:∀x∈L7,HM prog x:=fun x hx=>by
 cases hx with
 |head=>exact zD
 |tail _ hx=>cases hx with
  |head=>exact zC
  |tail _ hx=>cases hx with
   |head=>exact zB
   |tail _ hx=>cases hx with
    |head=>exact zI
    |tail _ hx=>cases hx with
     |head=>exact yY
     |tail _ hx=>cases hx
theorem Wi:C7.Ok prog:=qY uY
theorem Rb:prog.follows .mixedOrders=true:=by kernel_rfl
end
end Go.Det
