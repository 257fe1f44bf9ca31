import Derived.Test.YtmcnicakonagdaaGreatDoorX04
import Derived.Test.YtmcnicakonagdaaGreatDoorProg
/- A part of a proof (no law is stated here). Made by program out of texts by AI agents. -/
noncomputable section
namespace Go.Det
section
open Go.Proofs.Tryz (prog)
def L7:List (FuncId×PK):=[(274,.indexByte),(217,.add64),(233,.sub64),(286,.noEsc)]
def C7:Ctx:=mkC prog 352 L7
theorem sA:OS prog 100 0=true:=by kernel_rfl
theorem oD:OS prog 100 100=true:=by kernel_rfl
theorem rY:OS prog 100 200=true:=by kernel_rfl
theorem nR:OS prog 52 300=true:=by kernel_rfl
theorem Lb:Gz C7:=aB fun f i hlt hi=>by
 by_cases h0:f<100
 ·exact Ie hi sA (by omega) (by omega)
 ·by_cases h1:f<200
  ·exact Ie hi oD (by omega) (by omega)
  ·by_cases h2:f<300
   ·exact Ie hi rY (by omega) (by omega)
   ·exact Ie hi nR (by omega) (by omega)
theorem Abw:Ke prog (274,.indexByte):=⟨⟨Go.Proofs.Tryz.f274,by kernel_rfl,by kernel_rfl,by kernel_rfl,by kernel_rfl,by kernel_rfl⟩⟩
theorem AbI:Ke prog (217,.add64):=⟨⟨Go.Proofs.Tryz.f217,by kernel_rfl,by kernel_rfl,by kernel_rfl,by kernel_rfl,by kernel_rfl⟩⟩
theorem Abn:Ke prog (233,.sub64):=⟨⟨Go.Proofs.Tryz.f233,by kernel_rfl,by kernel_rfl,by kernel_rfl,by kernel_rfl,by kernel_rfl⟩⟩
theorem AbH:Ke prog (286,.noEsc):=⟨⟨Go.Proofs.Tryz.f286,by kernel_rfl,by kernel_rfl,by kernel_rfl,by kernel_rfl,by kernel_rfl⟩⟩
theorem Aae:∀x∈L7,Ke prog x:=fun x hx=>by
 cases hx with
 |head=>exact Abw
 |tail _ hx=>
  cases hx with
  |head=>exact AbI
  |tail _ hx=>
   cases hx with
   |head=>exact Abn
   |tail _ hx=>
    cases hx with
    |head=>exact AbH
    |tail _ hx=>
     cases hx
theorem X8:C7.Ok prog:=xC Aae
theorem Td:prog.follows .mixedOrders=true:=by kernel_rfl
end
end Go.Det
