import Derived.Test.YtnbinppdjnlhpaaGreatDoorX03
import Derived.Test.YtnbinppdjnlhpaaGreatDoorProg
/- A part of a proof (no law is stated here). Made by program out of texts by AI agents. -/
namespace Go.Det
noncomputable section
open Go.Proofs.Tryz (prog)
noncomputable def L7:List (FuncId×PK):=[(330,.indexByte),(294,.add64),(326,.sub64)]
noncomputable def C7:Ctx:=oK prog 350 L7
theorem iB:MY prog 100 0=true:=by kernel_rfl
theorem fL:MY prog 100 100=true:=by kernel_rfl
theorem iS:MY prog 100 200=true:=by kernel_rfl
theorem gO:MY prog 50 300=true:=by kernel_rfl
theorem Mw:GN C7:=Wi fun f i hlt hi=>by
 by_cases h1:f<100
 ·exact HA hi iB (by omega) (by omega)
 ·by_cases h2:f<200
  ·exact HA hi fL (by omega) (by omega)
  ·by_cases h3:f<300
   ·exact HA hi iS (by omega) (by omega)
   ·exact HA hi gO (by omega) (by omega)
theorem pS:JX prog (330,.indexByte):=⟨⟨Go.Proofs.Tryz.f330,by kernel_rfl,by kernel_rfl,by kernel_rfl,by kernel_rfl,by kernel_rfl⟩⟩
theorem qA:JX prog (294,.add64):=⟨⟨Go.Proofs.Tryz.f294,by kernel_rfl,by kernel_rfl,by kernel_rfl,by kernel_rfl,by kernel_rfl⟩⟩
theorem pT:JX prog (326,.sub64):=⟨⟨Go.Proofs.Tryz.f326,by kernel_rfl,by kernel_rfl,by kernel_rfl,by kernel_rfl,by kernel_rfl⟩⟩
theorem lL:∀x∈L7,JX prog x:=fun x hx=>by
 cases hx with
 |head=>exact pS
 |tail _ hx=>cases hx with
  |head=>exact qA
  |tail _ hx=>cases hx with
   |head=>exact pT
   |tail _ hx=>cases hx
theorem dN:C7.Ok prog:=iY lL
theorem SH:prog.follows .mixedOrders=true:=by kernel_rfl
end
end Go.Det
