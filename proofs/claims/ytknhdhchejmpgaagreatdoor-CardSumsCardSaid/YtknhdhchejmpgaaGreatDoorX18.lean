import Derived.Test.YtknhdhchejmpgaaGreatDoorX17
/- A part of a proof (no law is stated here). Made by program out of texts by AI agents. -/
namespace Go.Proofs.YtknhdhchejmpgaaGreatDoor
open Go Go.RowKit Go.ChangeShapes Go.WideShapes Go.ChangeAt Go.Det Go.Pe
open Go.Proofs.Tryz (prog)
namespace R7
theorem laidOut:laidOutB prog=true:=by kernel_rfl
theorem mU:mapsRowed prog=true:=by kernel_rfl
theorem xU:(Rows.cardOperationsRow.lifted==prog.liftsFinal)=true:=by kernel_rfl
theorem wD:(prog.make==some Rows.cardOperationsRow.make)=true:=by kernel_rfl
theorem heard:prog.stopsHeard=true:=by kernel_rfl
theorem enter:prog.mayEnter=true:=by kernel_rfl
theorem looks:true=prog.looks []:=by kernel_rfl
theorem mainIs : prog.mainIs = some (true, "3a2ee65c1da8d7241db81596f6095219e30242d81c162cb4551897e68b6d29b9".toList) := by kernel_rfl
end R7
theorem BC{a b:Bool}(h:a=true)(k:b=true):(a&&b)=true:=by rw[h,k];rfl
theorem AaT{args:Array Value}{l:List Value}(h:args.toList=l):args=⟨l⟩:=by cases args;cases h;rfl
end Go.Proofs.YtknhdhchejmpgaaGreatDoor
