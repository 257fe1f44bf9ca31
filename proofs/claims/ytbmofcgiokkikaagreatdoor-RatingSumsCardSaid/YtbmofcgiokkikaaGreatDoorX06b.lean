import Derived.Test.YtbmofcgiokkikaaGreatDoorX06
/- A part of a proof; no law is stated here. -/
noncomputable section
set_option maxRecDepth 100000
namespace Go.Det
section
open Go.Proofs.Tryz (prog)
def A7:CS:=[(8,[],.bool true)]
theorem AcV:AY C72 1000 A7=true:=by kernel_rfl
theorem spA:LG prog (K8 A7):=bW Acv fA Ui AcV
end
end Go.Det
