import Derived.Test.YtlohiljbghionaaGreatDoorX06
/- A part of a proof; no law is stated here. -/
noncomputable section
set_option maxRecDepth 100000
namespace Go.Det
section
open Go.Proofs.Tryz (prog)
def A7:C1:=[(8,[],.bool true)]
theorem AbV:A3 C72 1000 A7=true:=by kernel_rfl
theorem spA:Lg prog (KV A7):=YI AaJ cR Tk AbV
end
end Go.Det
