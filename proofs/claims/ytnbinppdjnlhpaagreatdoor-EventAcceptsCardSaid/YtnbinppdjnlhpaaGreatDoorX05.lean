import Derived.Test.YtnbinppdjnlhpaaGreatDoorX03
import Derived.Test.YtnbinppdjnlhpaaGreatDoorProg
/- A part of a proof (no law is stated here). Made by program out of texts by AI agents. -/
namespace Go.Det
noncomputable section
open Go.Proofs.Tryz (prog)
noncomputable def L7:List (FuncId×PK):=[(330,.indexByte),(294,.add64),(326,.sub64)]
noncomputable def C7:Ctx:=jG prog 350 L7
theorem eI:Mr prog 100 0=true:=by kernel_rfl
theorem dF:Mr prog 100 100=true:=by kernel_rfl
theorem fF:Mr prog 100 200=true:=by kernel_rfl
theorem dN:Mr prog 50 300=true:=by kernel_rfl
theorem LV:GL C7:=UN fun f i hlt hi=>by
 by_cases h1:f<100
 ·exact G3 hi eI (by omega) (by omega)
 ·by_cases h2:f<200
  ·exact G3 hi dF (by omega) (by omega)
  ·by_cases h3:f<300
   ·exact G3 hi fF (by omega) (by omega)
   ·exact G3 hi dN (by omega) (by omega)
theorem kW:JQ prog (330,.indexByte):=⟨⟨Go.Proofs.Tryz.f330,by kernel_rfl,by kernel_rfl,by kernel_rfl,by kernel_rfl,by kernel_rfl⟩⟩
theorem lF:JQ prog (294,.add64):=⟨⟨Go.Proofs.Tryz.f294,by kernel_rfl,by kernel_rfl,by kernel_rfl,by kernel_rfl,by kernel_rfl⟩⟩
theorem kV:JQ prog (326,.sub64):=⟨⟨Go.Proofs.Tryz.f326,by kernel_rfl,by kernel_rfl,by kernel_rfl,by kernel_rfl,by kernel_rfl⟩⟩
theorem iU:∀x∈L7,JQ prog x:=fun x hx=>by
 cases hx with
 |head=>exact kW
 |tail _ hx=>cases hx with
  |head=>exact lF
  |tail _ hx=>cases hx with
   |head=>exact kV
   |tail _ hx=>cases hx
theorem cI:C7.Ok prog:=eG iU
theorem SM:prog.follows .mixedOrders=true:=by kernel_rfl
end
end Go.Det
