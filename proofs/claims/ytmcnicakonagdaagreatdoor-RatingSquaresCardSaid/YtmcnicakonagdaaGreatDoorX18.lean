import Derived.Test.YtmcnicakonagdaaGreatDoorX17
/- A part of a proof (no law is stated here). Made by program out of texts by AI agents. -/
namespace Go.Proofs.YtmcnicakonagdaaGreatDoor
open Go Go.RowKit Go.ChangeShapes Go.WideShapes Go.ChangeAt Go.Det Go.Pe
open Go.Proofs.Tryz (prog)
namespace R7
theorem laidOut:laidOutB prog=true:=by kernel_rfl
theorem oN:mapsRowed prog=true:=by kernel_rfl
theorem Aah:(Rows.ratingLinesRow.lifted==prog.liftsFinal)=true:=by kernel_rfl
theorem xE:(prog.make==some Rows.ratingLinesRow.make)=true:=by kernel_rfl
theorem heard:prog.stopsHeard=true:=by kernel_rfl
theorem enter:prog.mayEnter=true:=by kernel_rfl
theorem looks:true=prog.looks []:=by kernel_rfl
theorem mainIs : prog.mainIs = some (true, "1a7aa86f1c027102ad0a49b608d3c4640ebcbda8aee2ba9e127e9e0e6b128921".toList) := by kernel_rfl
end R7
theorem BH{a b:Bool}(h:a=true)(k:b=true):(a&&b)=true:=by rw[h,k];rfl
theorem Abk{args:Array Value}{l:List Value}(h:args.toList=l):args=⟨l⟩:=by cases args;cases h;rfl
end Go.Proofs.YtmcnicakonagdaaGreatDoor
