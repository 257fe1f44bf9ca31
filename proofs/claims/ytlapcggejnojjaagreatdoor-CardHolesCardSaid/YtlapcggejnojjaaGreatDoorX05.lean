import Derived.Test.YtlapcggejnojjaaGreatDoorX03
import Derived.Test.YtlapcggejnojjaaGreatDoorProg
/- A part of a proof (no law is stated here). Made by program out of texts by AI agents. -/
namespace Go.Det
noncomputable section
open Go.Proofs.Tryz (prog)
noncomputable def L7:List (FuncId×PK):=[(227,.indexByte),(206,.add64),(207,.sub64),(239,.count)]
noncomputable def C7:Ctx:=fH prog 280 L7
theorem Z1:NA prog 100 0=true:=by kernel_rfl
theorem ZT:NA prog 100 100=true:=by kernel_rfl
theorem aV:NA prog 80 200=true:=by kernel_rfl
theorem IY:Ez C7:=Ud fun f i hlt hi=>by
 by_cases h1:f<100
 ·exact Ip hi Z1 (by omega) (by omega)
 ·by_cases h2:f<200
  ·exact Ip hi ZT (by omega) (by omega)
  ·exact Ip hi aV (by omega) (by omega)
theorem fZ:HU prog (227,.indexByte):=⟨⟨Go.Proofs.Tryz.f227,by kernel_rfl,by kernel_rfl,by kernel_rfl,by kernel_rfl,by kernel_rfl⟩⟩
theorem gD:HU prog (206,.add64):=⟨⟨Go.Proofs.Tryz.f206,by kernel_rfl,by kernel_rfl,by kernel_rfl,by kernel_rfl,by kernel_rfl⟩⟩
theorem gE:HU prog (207,.sub64):=⟨⟨Go.Proofs.Tryz.f207,by kernel_rfl,by kernel_rfl,by kernel_rfl,by kernel_rfl,by kernel_rfl⟩⟩
theorem fY:HU prog (239,.count):=⟨⟨Go.Proofs.Tryz.f239,by kernel_rfl,by kernel_rfl,by kernel_rfl,by kernel_rfl,by kernel_rfl⟩⟩
theorem dN:∀x∈L7,HU prog x:=fun x hx=>by
 cases hx with
 |head=>exact fZ
 |tail _ hx=>cases hx with
  |head=>exact gD
  |tail _ hx=>cases hx with
   |head=>exact gE
   |tail _ hx=>cases hx with
    |head=>exact fY
    |tail _ hx=>cases hx
theorem SZ:C7.Ok prog:=aN dN
theorem Og:prog.follows .mixedOrders=true:=by kernel_rfl
end
end Go.Det
