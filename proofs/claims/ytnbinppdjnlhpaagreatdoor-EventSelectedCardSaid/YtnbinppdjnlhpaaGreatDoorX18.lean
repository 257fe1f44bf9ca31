import Derived.Test.YtnbinppdjnlhpaaGreatDoorX17
/- A part of a proof (no law is stated here). Made by program out of texts by AI agents. -/
namespace Go.Proofs.YtnbinppdjnlhpaaGreatDoor
open Go Go.RowKit Go.ChangeShapes Go.WideShapes Go.ChangeAt Go.Det Go.Pe
open Go.Proofs.Tryz (prog)
namespace R7
theorem laidOut:laidOutB prog=true:=by kernel_rfl
theorem Zf:mapsRowed prog=true:=by kernel_rfl
theorem lU:(Rows.eventBallotsRow.lifted==prog.liftsFinal)=true:=by kernel_rfl
theorem fE:(prog.make==some Rows.eventBallotsRow.make)=true:=by kernel_rfl
theorem heard:prog.stopsHeard=true:=by kernel_rfl
theorem enter:prog.mayEnter=true:=by kernel_rfl
theorem looks:true=prog.looks []:=by kernel_rfl
theorem mainIs : prog.mainIs = some (true, "ca4de927605739dbd0f388f336a4b27f1bc61830a9137d1692965ff0f3fcc6bc".toList) := by kernel_rfl
end R7
theorem Bp{a b:Bool}(h:a=true)(k:b=true):(a&&b)=true:=by rw[h,k];rfl
theorem oG{args:Array Value}{l:List Value}(h:args.toList=l):args=⟨l⟩:=by cases args;cases h;rfl
end Go.Proofs.YtnbinppdjnlhpaaGreatDoor
