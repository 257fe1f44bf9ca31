import Derived.Test.YtlohiljbghionaaGreatDoorX04
import Derived.Test.YtlohiljbghionaaGreatDoorProg
/- A part of a proof (no law is stated here). Made by program out of texts by AI agents. -/
noncomputable section
namespace Go.Det
section
open Go.Proofs.Tryz (prog)
def L7:List (FuncId×PK):=[(265,.indexByte),(208,.add64),(217,.sub64),(277,.noEsc)]
def C7:Ctx:=xA prog 343 L7
theorem kX:OO prog 100 0=true:=by kernel_rfl
theorem jN:OO prog 100 100=true:=by kernel_rfl
theorem jA:OO prog 100 200=true:=by kernel_rfl
theorem iB:OO prog 43 300=true:=by kernel_rfl
theorem JP:FI C7:=WT fun f i b a=>by
 by_cases h0:f<100
 ·exact HL a kX (by omega) (by omega)
 ·by_cases c:f<200
  ·exact HL a jN (by omega) (by omega)
  ·by_cases d:f<300
   ·exact HL a jA (by omega) (by omega)
   ·exact HL a iB (by omega) (by omega)
theorem xF:Jk prog (265,.indexByte):=⟨⟨Go.Proofs.Tryz.f265,by kernel_rfl,by kernel_rfl,by kernel_rfl,by kernel_rfl,by kernel_rfl⟩⟩
theorem xB:Jk prog (208,.add64):=⟨⟨Go.Proofs.Tryz.f208,by kernel_rfl,by kernel_rfl,by kernel_rfl,by kernel_rfl,by kernel_rfl⟩⟩
theorem xH:Jk prog (217,.sub64):=⟨⟨Go.Proofs.Tryz.f217,by kernel_rfl,by kernel_rfl,by kernel_rfl,by kernel_rfl,by kernel_rfl⟩⟩
theorem wQ:Jk prog (277,.noEsc):=⟨⟨Go.Proofs.Tryz.f277,by kernel_rfl,by kernel_rfl,by kernel_rfl,by kernel_rfl,by kernel_rfl⟩⟩
theorem tT:∀x∈L7,Jk prog x:=fun x a=>by
 cases a with
 |head=>exact xF
 |tail _ a=>
  cases a with
  |head=>exact xB
  |tail _ a=>
   cases a with
   |head=>exact xH
   |tail _ a=>
    cases a with
    |head=>exact wQ
    |tail _ a=>
     cases a
theorem WM:C7.Ok prog:=qN tT
theorem Ri:prog.follows .mixedOrders=true:=by kernel_rfl
end
end Go.Det
