import Derived.Test.YtknhdhchejmpgaaGreatDoorX04
import Derived.Test.YtknhdhchejmpgaaGreatDoorProg
/- A part of a proof (no law is stated here). Made by program out of texts by AI agents. -/
namespace Go.Det
noncomputable section
open Go.Proofs.Tryz (prog)
noncomputable def L7:List (FuncId×PK):=[(316,.indexByte),(268,.add64),(270,.sub64),(309,.count),(283,.noEsc)]
noncomputable def C7:Ctx:=vM prog 350 L7
theorem oV:Na prog 100 0=true:=by kernel_rfl
theorem oY:Na prog 100 100=true:=by kernel_rfl
theorem qN:Na prog 100 200=true:=by kernel_rfl
theorem qX:Na prog 50 300=true:=by kernel_rfl
theorem Kw:FE C7:=XD fun f i hlt hi=>by
 by_cases h1:f<100
 ·exact Hz hi oV (by omega) (by omega)
 ·by_cases h2:f<200
  ·exact Hz hi oY (by omega) (by omega)
  ·by_cases h3:f<300
   ·exact Hz hi qN (by omega) (by omega)
   ·exact Hz hi qX (by omega) (by omega)
theorem xA:HX prog (316,.indexByte):=⟨⟨Go.Proofs.Tryz.f316,by kernel_rfl,by kernel_rfl,by kernel_rfl,by kernel_rfl,by kernel_rfl⟩⟩
theorem xN:HX prog (268,.add64):=⟨⟨Go.Proofs.Tryz.f268,by kernel_rfl,by kernel_rfl,by kernel_rfl,by kernel_rfl,by kernel_rfl⟩⟩
theorem xL:HX prog (270,.sub64):=⟨⟨Go.Proofs.Tryz.f270,by kernel_rfl,by kernel_rfl,by kernel_rfl,by kernel_rfl,by kernel_rfl⟩⟩
theorem xB:HX prog (309,.count):=⟨⟨Go.Proofs.Tryz.f309,by kernel_rfl,by kernel_rfl,by kernel_rfl,by kernel_rfl,by kernel_rfl⟩⟩
theorem xH:HX prog (283,.noEsc):=⟨⟨Go.Proofs.Tryz.f283,by kernel_rfl,by kernel_rfl,by kernel_rfl,by kernel_rfl,by kernel_rfl⟩⟩
theorem uC:∀x∈L7,HX prog x:=fun x hx=>by
 cases hx with
 |head=>exact xA
 |tail _ hx=>cases hx with
  |head=>exact xN
  |tail _ hx=>cases hx with
   |head=>exact xL
   |tail _ hx=>cases hx with
    |head=>exact xB
    |tail _ hx=>cases hx with
     |head=>exact xH
     |tail _ hx=>cases hx
theorem WR:C7.Ok prog:=nQ uC
theorem Q3:prog.follows .mixedOrders=true:=by kernel_rfl
end
end Go.Det
