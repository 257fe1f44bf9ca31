import Derived.Test.YtlohiljbghionaaGreatDoorX04
import Derived.Test.YtlohiljbghionaaGreatDoorProg
/- A part of a proof; no law is stated here. -/
noncomputable section
namespace Go.Det
section
open Go.Proofs.Tryz (prog)
def L7:List (FuncId×PK):=[(265,.indexByte),(208,.add64),(217,.sub64),(277,.noEsc)]
def C7:Ctx:=mkC prog 343 L7
theorem vK:PD prog 100 0=true:=by kernel_rfl
theorem qY:PD prog 100 100=true:=by kernel_rfl
theorem tD:PD prog 100 200=true:=by kernel_rfl
theorem vU:PD prog 43 300=true:=by kernel_rfl
theorem LF:Gy C7:=Z6 fun f i b a=>by
 by_cases h0:f<100
 ·exact IZ a vK ae ae
 ·by_cases c:f<200
  ·exact IZ a qY ae ae
  ·by_cases d:f<300
   ·exact IZ a tD ae ae
   ·exact IZ a vU ae ae
theorem Aev:Kl prog (265,.indexByte):=⟨⟨Go.Proofs.Tryz.f265,by kernel_rfl,by kernel_rfl,by kernel_rfl,by kernel_rfl,by kernel_rfl⟩⟩
theorem Aes:Kl prog (208,.add64):=⟨⟨Go.Proofs.Tryz.f208,by kernel_rfl,by kernel_rfl,by kernel_rfl,by kernel_rfl,by kernel_rfl⟩⟩
theorem AeU:Kl prog (217,.sub64):=⟨⟨Go.Proofs.Tryz.f217,by kernel_rfl,by kernel_rfl,by kernel_rfl,by kernel_rfl,by kernel_rfl⟩⟩
theorem Aef:Kl prog (277,.noEsc):=⟨⟨Go.Proofs.Tryz.f277,by kernel_rfl,by kernel_rfl,by kernel_rfl,by kernel_rfl,by kernel_rfl⟩⟩
theorem AcO:∀x∈L7,Kl prog x:=fun x a=>by
 cases a with
 |head=>exact Aev
 |tail _ a=>
  cases a with
  |head=>exact Aes
  |tail _ a=>
   cases a with
   |head=>exact AeU
   |tail _ a=>
    cases a with
    |head=>exact Aef
    |tail _ a=>
     cases a
theorem ZK:C7.Ok prog:=Aay AcO
theorem SO:prog.follows .mixedOrders=true:=by kernel_rfl
end
end Go.Det
