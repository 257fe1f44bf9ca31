import Derived.Test.YtknhdhchejmpgaaGreatDoorX04
import Derived.Test.YtknhdhchejmpgaaGreatDoorProg
/- A part of a proof (no law is stated here). Made by program out of texts by AI agents. -/
namespace Go.Det
noncomputable section
open Go.Proofs.Tryz (prog)
noncomputable def L7:List (FuncId×PK):=[(316,.indexByte),(268,.add64),(270,.sub64),(309,.count),(283,.noEsc)]
noncomputable def C7:Ctx:=vT prog 350 L7
theorem rD:NZ prog 100 0=true:=by kernel_rfl
theorem qX:NZ prog 100 100=true:=by kernel_rfl
theorem pV:NZ prog 100 200=true:=by kernel_rfl
theorem oJ:NZ prog 50 300=true:=by kernel_rfl
theorem Kt:FC C7:=Xx fun f i hlt hi=>by
 by_cases h1:f<100
 ·exact HR hi rD (by omega) (by omega)
 ·by_cases h2:f<200
  ·exact HR hi qX (by omega) (by omega)
  ·by_cases h3:f<300
   ·exact HR hi pV (by omega) (by omega)
   ·exact HR hi oJ (by omega) (by omega)
theorem xS:HG prog (316,.indexByte):=⟨⟨Go.Proofs.Tryz.f316,by kernel_rfl,by kernel_rfl,by kernel_rfl,by kernel_rfl,by kernel_rfl⟩⟩
theorem xJ:HG prog (268,.add64):=⟨⟨Go.Proofs.Tryz.f268,by kernel_rfl,by kernel_rfl,by kernel_rfl,by kernel_rfl,by kernel_rfl⟩⟩
theorem xM:HG prog (270,.sub64):=⟨⟨Go.Proofs.Tryz.f270,by kernel_rfl,by kernel_rfl,by kernel_rfl,by kernel_rfl,by kernel_rfl⟩⟩
theorem xK:HG prog (309,.count):=⟨⟨Go.Proofs.Tryz.f309,by kernel_rfl,by kernel_rfl,by kernel_rfl,by kernel_rfl,by kernel_rfl⟩⟩
theorem xU:HG prog (283,.noEsc):=⟨⟨Go.Proofs.Tryz.f283,by kernel_rfl,by kernel_rfl,by kernel_rfl,by kernel_rfl,by kernel_rfl⟩⟩
theorem tB:∀x∈L7,HG prog x:=fun x hx=>by
 cases hx with
 |head=>exact xS
 |tail _ hx=>cases hx with
  |head=>exact xJ
  |tail _ hx=>cases hx with
   |head=>exact xM
   |tail _ hx=>cases hx with
    |head=>exact xK
    |tail _ hx=>cases hx with
     |head=>exact xU
     |tail _ hx=>cases hx
theorem Wp:C7.Ok prog:=pD tB
theorem Qo:prog.follows .mixedOrders=true:=by kernel_rfl
end
end Go.Det
