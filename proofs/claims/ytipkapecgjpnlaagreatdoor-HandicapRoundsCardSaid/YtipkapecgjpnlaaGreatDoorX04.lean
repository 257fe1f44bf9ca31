import Derived.Test.YtipkapecgjpnlaaGreatDoorX03
import Derived.Test.YtipkapecgjpnlaaGreatDoorProg
/- A part of a proof; no law is stated here. -/
noncomputable section
namespace Go.Det
section
open Go.Proofs.Tryz (prog)
def L7:List (FuncId×PK):=[(314,.indexByte),(255,.add64),(256,.sub64),(282,.noEsc)]
def C7:Ctx:=Yd prog 380 L7
theorem Uy:HZ prog 100 0=true:=by kernel_rfl
theorem TG:HZ prog 100 100=true:=by kernel_rfl
theorem Uu:HZ prog 100 200=true:=by kernel_rfl
theorem TH:HZ prog 80 300=true:=by kernel_rfl
theorem C1:BH C7:=PX fun f i b a=>by
 by_cases h0:f<100
 ·exact EE a Uy a8 a8
 ·by_cases c:f<200
  ·exact EE a TG a8 a8
  ·by_cases d:f<300
   ·exact EE a Uu a8 a8
   ·exact EE a TH a8 a8
theorem XR:FD prog (314,.indexByte):=⟨⟨Go.Proofs.Tryz.f314,by kernel_rfl,by kernel_rfl,by kernel_rfl,by kernel_rfl,by kernel_rfl⟩⟩
theorem Yb:FD prog (255,.add64):=⟨⟨Go.Proofs.Tryz.f255,by kernel_rfl,by kernel_rfl,by kernel_rfl,by kernel_rfl,by kernel_rfl⟩⟩
theorem X5:FD prog (256,.sub64):=⟨⟨Go.Proofs.Tryz.f256,by kernel_rfl,by kernel_rfl,by kernel_rfl,by kernel_rfl,by kernel_rfl⟩⟩
theorem Yf:FD prog (282,.noEsc):=⟨⟨Go.Proofs.Tryz.f282,by kernel_rfl,by kernel_rfl,by kernel_rfl,by kernel_rfl,by kernel_rfl⟩⟩
theorem WV:∀x∈L7,FD prog x:=fun x a=>by
 cases a with
 |head=>exact XR
 |tail _ a=>
  cases a with
  |head=>exact Yb
  |tail _ a=>
   cases a with
   |head=>exact X5
   |tail _ a=>
    cases a with
    |head=>exact Yf
    |tail _ a=>
     cases a
theorem Ip:C7.Ok prog:=U9 WV
theorem D0:prog.follows .mixedOrders=true:=by kernel_rfl
end
end Go.Det
