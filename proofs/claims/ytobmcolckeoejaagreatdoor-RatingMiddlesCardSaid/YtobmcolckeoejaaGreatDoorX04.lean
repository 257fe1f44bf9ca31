import Derived.Test.YtobmcolckeoejaaGreatDoorX03
import Derived.Test.YtobmcolckeoejaaGreatDoorProg
/- A part of a proof; no law is stated here. -/
noncomputable section
namespace Go.Det
section
open Go.Proofs.Tryz (prog)
def L7:List (FuncId×PK):=[(253,.indexByte),(202,.add64),(204,.sub64),(250,.noEsc)]
def C7:Ctx:=mkC prog 322 L7
theorem zZ:O1 prog 100 0=true:=by kernel_rfl
theorem wY:O1 prog 100 100=true:=by kernel_rfl
theorem zL:O1 prog 100 200=true:=by kernel_rfl
theorem Aa1:O1 prog 22 300=true:=by kernel_rfl
theorem I4:GO C7:=dJ fun f i b a=>by
 by_cases h0:f<100
 ·exact IW a zZ ae ae
 ·by_cases c:f<200
  ·exact IW a wY ae ae
  ·by_cases d:f<300
   ·exact IW a zL ae ae
   ·exact IW a Aa1 ae ae
theorem AhG:KZ prog (253,.indexByte):=⟨⟨Go.Proofs.Tryz.f253,by kernel_rfl,by kernel_rfl,by kernel_rfl,by kernel_rfl,by kernel_rfl⟩⟩
theorem Ahx:KZ prog (202,.add64):=⟨⟨Go.Proofs.Tryz.f202,by kernel_rfl,by kernel_rfl,by kernel_rfl,by kernel_rfl,by kernel_rfl⟩⟩
theorem AgG:KZ prog (204,.sub64):=⟨⟨Go.Proofs.Tryz.f204,by kernel_rfl,by kernel_rfl,by kernel_rfl,by kernel_rfl,by kernel_rfl⟩⟩
theorem AgZ:KZ prog (250,.noEsc):=⟨⟨Go.Proofs.Tryz.f250,by kernel_rfl,by kernel_rfl,by kernel_rfl,by kernel_rfl,by kernel_rfl⟩⟩
theorem AfG:∀x∈L7,KZ prog x:=fun x a=>by
 cases a with
 |head=>exact AhG
 |tail _ a=>
  cases a with
  |head=>exact Ahx
  |tail _ a=>
   cases a with
   |head=>exact AgG
   |tail _ a=>
    cases a with
    |head=>exact AgZ
    |tail _ a=>
     cases a
theorem W9:C7.Ok prog:=Adt AfG
theorem Mr:prog.follows .mixedOrders=true:=by kernel_rfl
end
end Go.Det
