import Derived.Test.YtlohiljbghionaaGreatDoorX06
/- A part of a proof; no law is stated here. -/
noncomputable section
set_option maxRecDepth 100000
namespace Go.Det
section
open Go.Proofs.Tryz (prog)
def A7:CR:=[(8,[],.bool true)]
theorem AaI:A1 C72 1000 A7=true:=by kernel_rfl
theorem spA:LD prog (Kd A7):=Yg AaC cR SO AaI
end
end Go.Det
