import Derived.Test.YtbmofcgiokkikaaGreatDoorX03
import Derived.Test.YtbmofcgiokkikaaGreatDoorProg
/- A part of a proof; no law is stated here. -/
noncomputable section
namespace Go.Det
section
open Go.Proofs.Tryz (prog)
def L7:List (FuncId×PK):=[(280,.indexByte),(216,.add64),(218,.sub64),(278,.noEsc)]
def C7:Ctx:=mkC prog 353 L7
theorem vZ:PY prog 100 0=true:=by kernel_rfl
theorem AaI:PY prog 100 100=true:=by kernel_rfl
theorem Aak:PY prog 100 200=true:=by kernel_rfl
theorem uX:PY prog 53 300=true:=by kernel_rfl
theorem Mn:G5 C7:=cV fun f i b a=>by
 by_cases h0:f<100
 ·exact Jn a vZ ae ae
 ·by_cases c:f<200
  ·exact Jn a AaI ae ae
  ·by_cases d:f<300
   ·exact Jn a Aak ae ae
   ·exact Jn a uX ae ae
theorem Aht:Lc prog (280,.indexByte):=⟨⟨Go.Proofs.Tryz.f280,by kernel_rfl,by kernel_rfl,by kernel_rfl,by kernel_rfl,by kernel_rfl⟩⟩
theorem Ahw:Lc prog (216,.add64):=⟨⟨Go.Proofs.Tryz.f216,by kernel_rfl,by kernel_rfl,by kernel_rfl,by kernel_rfl,by kernel_rfl⟩⟩
theorem Aha:Lc prog (218,.sub64):=⟨⟨Go.Proofs.Tryz.f218,by kernel_rfl,by kernel_rfl,by kernel_rfl,by kernel_rfl,by kernel_rfl⟩⟩
theorem AhC:Lc prog (278,.noEsc):=⟨⟨Go.Proofs.Tryz.f278,by kernel_rfl,by kernel_rfl,by kernel_rfl,by kernel_rfl,by kernel_rfl⟩⟩
theorem Aft:∀x∈L7,Lc prog x:=fun x a=>by
 cases a with
 |head=>exact Aht
 |tail _ a=>
  cases a with
  |head=>exact Ahw
  |tail _ a=>
   cases a with
   |head=>exact Aha
   |tail _ a=>
    cases a with
    |head=>exact AhC
    |tail _ a=>
     cases a
theorem cS:C7.Ok prog:=AcL Aft
theorem Ui:prog.follows .mixedOrders=true:=by kernel_rfl
end
end Go.Det
