import Derived.Test.YtmcnicakonagdaaGreatDoorX04
import Derived.Test.YtmcnicakonagdaaGreatDoorProg
/- A part of a proof (no law is stated here). Made by program out of texts by AI agents. -/
noncomputable section
namespace Go.Det
section
open Go.Proofs.Tryz (prog)
def L7:List (FuncId×PK):=[(274,.indexByte),(217,.add64),(233,.sub64),(286,.noEsc)]
def C7:Ctx:=mkC prog 352 L7
theorem lC:OW prog 100 0=true:=by kernel_rfl
theorem oX:OW prog 100 100=true:=by kernel_rfl
theorem nB:OW prog 100 200=true:=by kernel_rfl
theorem pG:OW prog 52 300=true:=by kernel_rfl
theorem Kx:Gi C7:=Zp fun f i hlt hi=>by
 by_cases h0:f<100
 ·exact IB hi lC (by omega) (by omega)
 ·by_cases h1:f<200
  ·exact IB hi oX (by omega) (by omega)
  ·by_cases h2:f<300
   ·exact IB hi nB (by omega) (by omega)
   ·exact IB hi pG (by omega) (by omega)
theorem Aav:JK prog (274,.indexByte):=⟨⟨Go.Proofs.Tryz.f274,by kernel_rfl,by kernel_rfl,by kernel_rfl,by kernel_rfl,by kernel_rfl⟩⟩
theorem AaX:JK prog (217,.add64):=⟨⟨Go.Proofs.Tryz.f217,by kernel_rfl,by kernel_rfl,by kernel_rfl,by kernel_rfl,by kernel_rfl⟩⟩
theorem AaU:JK prog (233,.sub64):=⟨⟨Go.Proofs.Tryz.f233,by kernel_rfl,by kernel_rfl,by kernel_rfl,by kernel_rfl,by kernel_rfl⟩⟩
theorem AaN:JK prog (286,.noEsc):=⟨⟨Go.Proofs.Tryz.f286,by kernel_rfl,by kernel_rfl,by kernel_rfl,by kernel_rfl,by kernel_rfl⟩⟩
theorem Aaa:∀x∈L7,JK prog x:=fun x hx=>by
 cases hx with
 |head=>exact Aav
 |tail _ hx=>
  cases hx with
  |head=>exact AaX
  |tail _ hx=>
   cases hx with
   |head=>exact AaU
   |tail _ hx=>
    cases hx with
    |head=>exact AaN
    |tail _ hx=>
     cases hx
theorem WZ:C7.Ok prog:=vW Aaa
theorem RW:prog.follows .mixedOrders=true:=by kernel_rfl
end
end Go.Det
