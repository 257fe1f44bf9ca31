import Derived.Test.YtbmofcgiokkikaaGreatDoorX03
import Derived.Test.YtbmofcgiokkikaaGreatDoorProg
/- A part of a proof; no law is stated here. -/
noncomputable section
namespace Go.Det
section
open Go.Proofs.Tryz (prog)
def L7:List (FuncId×PK):=[(280,.indexByte),(216,.add64),(218,.sub64),(278,.noEsc)]
def C7:Ctx:=mkC prog 353 L7
theorem Aao:RQ prog 100 0=true:=by kernel_rfl
theorem AbQ:RQ prog 100 100=true:=by kernel_rfl
theorem Abw:RQ prog 100 200=true:=by kernel_rfl
theorem AbT:RQ prog 53 300=true:=by kernel_rfl
theorem Nz:Hn C7:=lY fun f i b a=>by
 by_cases h0:f<100
 ·exact Jv a Aao ae ae
 ·by_cases d:f<200
  ·exact Jv a AbQ ae ae
  ·by_cases c:f<300
   ·exact Jv a Abw ae ae
   ·exact Jv a AbT ae ae
theorem AiO:LV prog (280,.indexByte):=⟨⟨Go.Proofs.Tryz.f280,by kernel_rfl,by kernel_rfl,by kernel_rfl,by kernel_rfl,by kernel_rfl⟩⟩
theorem Ajt:LV prog (216,.add64):=⟨⟨Go.Proofs.Tryz.f216,by kernel_rfl,by kernel_rfl,by kernel_rfl,by kernel_rfl,by kernel_rfl⟩⟩
theorem AjX:LV prog (218,.sub64):=⟨⟨Go.Proofs.Tryz.f218,by kernel_rfl,by kernel_rfl,by kernel_rfl,by kernel_rfl,by kernel_rfl⟩⟩
theorem AjO:LV prog (278,.noEsc):=⟨⟨Go.Proofs.Tryz.f278,by kernel_rfl,by kernel_rfl,by kernel_rfl,by kernel_rfl,by kernel_rfl⟩⟩
theorem Aih:∀x∈L7,LV prog x:=fun x a=>by
 cases a with
 |head=>exact AiO
 |tail _ a=>
  cases a with
  |head=>exact Ajt
  |tail _ a=>
   cases a with
   |head=>exact AjX
   |tail _ a=>
    cases a with
    |head=>exact AjO
    |tail _ a=>
     cases a
theorem iD:C7.Ok prog:=Ae0 Aih
theorem VX:prog.follows .mixedOrders=true:=by kernel_rfl
end
end Go.Det
