import Derived.Test.YtipkapecgjpnlaaGreatDoorX16
/- A part of a proof; no law is stated here. -/
namespace Go.Proofs.YtipkapecgjpnlaaGreatDoor
open Go Go.RowKit Go.ChangeShapes Go.WideShapes Go.ChangeAt Go.Det Go.Pe
open Go.Proofs.Tryz (prog)
namespace R7
theorem laidOut:laidOutB prog=true:=by kernel_rfl
theorem Xr:mapsRowed prog=true:=by kernel_rfl
theorem tX:(Rows.handicapScoresRow.lifted==prog.liftsFinal)=true:=by kernel_rfl
theorem eQ:(prog.make==some Rows.handicapScoresRow.make)=true:=by kernel_rfl
theorem heard:prog.stopsHeard=true:=by kernel_rfl
theorem enter:prog.mayEnter=true:=by kernel_rfl
theorem looks:true=prog.looks []:=by kernel_rfl
theorem mainIs : prog.mainIs = some (true, "ddd5f1e21394390f1f78f9fbd1d432436feb214b1caad5d4b57e4eca6122e9af".toList) := by kernel_rfl
end R7
theorem AJ{a b:Bool}(h:a=true)(k:b=true):(a&&b)=true:=by rw[h,k];rfl
theorem AcM{args:Array Value}{l:List Value}(h:args.toList=l):args=⟨l⟩:=by cases args;cases h;rfl
end Go.Proofs.YtipkapecgjpnlaaGreatDoor
