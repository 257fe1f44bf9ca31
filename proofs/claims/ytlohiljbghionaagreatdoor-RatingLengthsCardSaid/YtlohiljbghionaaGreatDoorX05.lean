import Derived.Test.YtlohiljbghionaaGreatDoorX04
import Derived.Test.YtlohiljbghionaaGreatDoorProg
/- A part of a proof (no law is stated here). Made by program out of texts by AI agents. -/
noncomputable section
namespace Go.Det
section
open Go.Proofs.Tryz (prog)
def L7:List (FuncId×PK):=[(265,.indexByte),(208,.add64),(217,.sub64),(277,.noEsc)]
def C7:Ctx:=mkC prog 343 L7
theorem vH:Pa prog 100 0=true:=by kernel_rfl
theorem xA:Pa prog 100 100=true:=by kernel_rfl
theorem xW:Pa prog 100 200=true:=by kernel_rfl
theorem qZ:Pa prog 43 300=true:=by kernel_rfl
theorem LL:G0 C7:=cM fun f i b a=>by
 by_cases h0:f<100
 ·exact IQ a vH (by omega) (by omega)
 ·by_cases c:f<200
  ·exact IQ a xA (by omega) (by omega)
  ·by_cases d:f<300
   ·exact IQ a xW (by omega) (by omega)
   ·exact IQ a qZ (by omega) (by omega)
theorem AeA:KJ prog (265,.indexByte):=⟨⟨Go.Proofs.Tryz.f265,by kernel_rfl,by kernel_rfl,by kernel_rfl,by kernel_rfl,by kernel_rfl⟩⟩
theorem AeM:KJ prog (208,.add64):=⟨⟨Go.Proofs.Tryz.f208,by kernel_rfl,by kernel_rfl,by kernel_rfl,by kernel_rfl,by kernel_rfl⟩⟩
theorem AeL:KJ prog (217,.sub64):=⟨⟨Go.Proofs.Tryz.f217,by kernel_rfl,by kernel_rfl,by kernel_rfl,by kernel_rfl,by kernel_rfl⟩⟩
theorem Ae4:KJ prog (277,.noEsc):=⟨⟨Go.Proofs.Tryz.f277,by kernel_rfl,by kernel_rfl,by kernel_rfl,by kernel_rfl,by kernel_rfl⟩⟩
theorem AdG:∀x∈L7,KJ prog x:=fun x a=>by
 cases a with
 |head=>exact AeA
 |tail _ a=>
  cases a with
  |head=>exact AeM
  |tail _ a=>
   cases a with
   |head=>exact AeL
   |tail _ a=>
    cases a with
    |head=>exact Ae4
    |tail _ a=>
     cases a
theorem ZR:C7.Ok prog:=AaY AdG
theorem Sw:prog.follows .mixedOrders=true:=by kernel_rfl
end
end Go.Det
