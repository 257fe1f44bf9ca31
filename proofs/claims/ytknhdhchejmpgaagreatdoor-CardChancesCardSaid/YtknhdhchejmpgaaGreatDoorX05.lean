import Derived.Test.YtknhdhchejmpgaaGreatDoorX04
import Derived.Test.YtknhdhchejmpgaaGreatDoorProg
/- A part of a proof (no law is stated here). Made by program out of texts by AI agents. -/
noncomputable section
namespace Go.Det
section
open Go.Proofs.Tryz (prog)
def L7:List (FuncId×PK):=[(316,.indexByte),(268,.add64),(270,.sub64),(309,.count),(283,.noEsc)]
def C7:Ctx:=yY prog 350 L7
theorem rQ:N9 prog 100 0=true:=by kernel_rfl
theorem sB:N9 prog 100 100=true:=by kernel_rfl
theorem uD:N9 prog 100 200=true:=by kernel_rfl
theorem sO:N9 prog 50 300=true:=by kernel_rfl
theorem K5:Gf C7:=YK fun f i hlt hi=>by
 by_cases h1:f<100
 ·exact H6 hi rQ (by omega) (by omega)
 ·by_cases h2:f<200
  ·exact H6 hi sB (by omega) (by omega)
  ·by_cases h3:f<300
   ·exact H6 hi uD (by omega) (by omega)
   ·exact H6 hi sO (by omega) (by omega)
theorem p7a:Ii prog (316,.indexByte):=⟨⟨Go.Proofs.Tryz.f316,by kernel_rfl,by kernel_rfl,by kernel_rfl,by kernel_rfl,by kernel_rfl⟩⟩
theorem p7b:Ii prog (268,.add64):=⟨⟨Go.Proofs.Tryz.f268,by kernel_rfl,by kernel_rfl,by kernel_rfl,by kernel_rfl,by kernel_rfl⟩⟩
theorem p7c:Ii prog (270,.sub64):=⟨⟨Go.Proofs.Tryz.f270,by kernel_rfl,by kernel_rfl,by kernel_rfl,by kernel_rfl,by kernel_rfl⟩⟩
theorem p7d:Ii prog (309,.count):=⟨⟨Go.Proofs.Tryz.f309,by kernel_rfl,by kernel_rfl,by kernel_rfl,by kernel_rfl,by kernel_rfl⟩⟩
theorem p7e:Ii prog (283,.noEsc):=⟨⟨Go.Proofs.Tryz.f283,by kernel_rfl,by kernel_rfl,by kernel_rfl,by kernel_rfl,by kernel_rfl⟩⟩
theorem xU:∀x∈L7,Ii prog x:=fun x hx=>by
 cases hx with
 |head=>exact p7a
 |tail _ hx=>cases hx with
  |head=>exact p7b
  |tail _ hx=>cases hx with
   |head=>exact p7c
   |tail _ hx=>cases hx with
    |head=>exact p7d
    |tail _ hx=>cases hx with
     |head=>exact p7e
     |tail _ hx=>cases hx
theorem Wx:C7.Ok prog:=sM xU
theorem Sk:prog.follows .mixedOrders=true:=by kernel_rfl
end
end Go.Det
