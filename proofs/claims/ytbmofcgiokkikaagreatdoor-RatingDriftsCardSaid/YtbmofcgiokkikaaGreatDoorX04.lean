import Derived.Test.YtbmofcgiokkikaaGreatDoorX03
import Derived.Test.YtbmofcgiokkikaaGreatDoorProg
/- A part of a proof; no law is stated here. -/
noncomputable section
namespace Go.Det
section
open Go.Proofs.Tryz (prog)
def L7:List (FuncId×PK):=[(280,.indexByte),(216,.add64),(218,.sub64),(278,.noEsc)]
def C7:Ctx:=mkC prog 353 L7
theorem Aax:Ra prog 100 0=true:=by kernel_rfl
theorem Aay:Ra prog 100 100=true:=by kernel_rfl
theorem AbD:Ra prog 100 200=true:=by kernel_rfl
theorem AbF:Ra prog 53 300=true:=by kernel_rfl
theorem Jl:G7 C7:=gP fun f i b a=>by
 by_cases h0:f<100
 ·exact JK a Aax ae ae
 ·by_cases c:f<200
  ·exact JK a Aay ae ae
  ·by_cases d:f<300
   ·exact JK a AbD ae ae
   ·exact JK a AbF ae ae
theorem Aio:Lu prog (280,.indexByte):=⟨⟨Go.Proofs.Tryz.f280,by kernel_rfl,by kernel_rfl,by kernel_rfl,by kernel_rfl,by kernel_rfl⟩⟩
theorem AiI:Lu prog (216,.add64):=⟨⟨Go.Proofs.Tryz.f216,by kernel_rfl,by kernel_rfl,by kernel_rfl,by kernel_rfl,by kernel_rfl⟩⟩
theorem Ajh:Lu prog (218,.sub64):=⟨⟨Go.Proofs.Tryz.f218,by kernel_rfl,by kernel_rfl,by kernel_rfl,by kernel_rfl,by kernel_rfl⟩⟩
theorem Ait:Lu prog (278,.noEsc):=⟨⟨Go.Proofs.Tryz.f278,by kernel_rfl,by kernel_rfl,by kernel_rfl,by kernel_rfl,by kernel_rfl⟩⟩
theorem Ag7:∀x∈L7,Lu prog x:=fun x a=>by
 cases a with
 |head=>exact Aio
 |tail _ a=>
  cases a with
  |head=>exact AiI
  |tail _ a=>
   cases a with
   |head=>exact Ajh
   |tail _ a=>
    cases a with
    |head=>exact Ait
    |tail _ a=>
     cases a
theorem Xz:C7.Ok prog:=AdN Ag7
theorem Nd:prog.follows .mixedOrders=true:=by kernel_rfl
end
end Go.Det
