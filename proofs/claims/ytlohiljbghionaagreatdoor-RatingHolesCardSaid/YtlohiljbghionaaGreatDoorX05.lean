import Derived.Test.YtlohiljbghionaaGreatDoorX04
import Derived.Test.YtlohiljbghionaaGreatDoorProg
/- A part of a proof; no law is stated here. -/
noncomputable section
namespace Go.Det
section
open Go.Proofs.Tryz (prog)
def L7:List (FuncId×PK):=[(265,.indexByte),(208,.add64),(217,.sub64),(277,.noEsc)]
def C7:Ctx:=mkC prog 343 L7
theorem vT:Pd prog 100 0=true:=by kernel_rfl
theorem tM:Pd prog 100 100=true:=by kernel_rfl
theorem rK:Pd prog 100 200=true:=by kernel_rfl
theorem yD:Pd prog 43 300=true:=by kernel_rfl
theorem ME:G4 C7:=dX fun f i b a=>by
 by_cases h0:f<100
 ·exact Jx a vT ae ae
 ·by_cases d:f<200
  ·exact Jx a tM ae ae
  ·by_cases c:f<300
   ·exact Jx a rK ae ae
   ·exact Jx a yD ae ae
theorem AfJ:Ky prog (265,.indexByte):=⟨⟨Go.Proofs.Tryz.f265,by kernel_rfl,by kernel_rfl,by kernel_rfl,by kernel_rfl,by kernel_rfl⟩⟩
theorem AeK:Ky prog (208,.add64):=⟨⟨Go.Proofs.Tryz.f208,by kernel_rfl,by kernel_rfl,by kernel_rfl,by kernel_rfl,by kernel_rfl⟩⟩
theorem Afa:Ky prog (217,.sub64):=⟨⟨Go.Proofs.Tryz.f217,by kernel_rfl,by kernel_rfl,by kernel_rfl,by kernel_rfl,by kernel_rfl⟩⟩
theorem AeL:Ky prog (277,.noEsc):=⟨⟨Go.Proofs.Tryz.f277,by kernel_rfl,by kernel_rfl,by kernel_rfl,by kernel_rfl,by kernel_rfl⟩⟩
theorem Ad7:∀x∈L7,Ky prog x:=fun x a=>by
 cases a with
 |head=>exact AfJ
 |tail _ a=>
  cases a with
  |head=>exact AeK
  |tail _ a=>
   cases a with
   |head=>exact Afa
   |tail _ a=>
    cases a with
    |head=>exact AeL
    |tail _ a=>
     cases a
theorem aB:C7.Ok prog:=Ab6 Ad7
theorem Tk:prog.follows .mixedOrders=true:=by kernel_rfl
end
end Go.Det
