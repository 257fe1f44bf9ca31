import Derived.Test.YtlapcggejnojjaaGreatDoorX14
/- A part of a proof (no law is stated here). Made by program out of texts by AI agents. -/
namespace Go.Proofs.YtlapcggejnojjaaGreatDoor
open Go Go.RowKit Go.ChangeShapes Go.WideShapes Go.ChangeAt Go.Det Go.Pe
open Go.Proofs.Tryz (prog)
namespace R7
theorem laidOut:laidOutB prog=true:=by kernel_rfl
theorem KI:mapsRowed prog=true:=by kernel_rfl
theorem SQ:(Rows.cardFormsRow.lifted==prog.liftsFinal)=true:=by kernel_rfl
theorem Om:(prog.make==some Rows.cardFormsRow.make)=true:=by kernel_rfl
theorem heard:prog.stopsHeard=true:=by kernel_rfl
theorem enter:prog.mayEnter=true:=by kernel_rfl
theorem looks:true=prog.looks []:=by kernel_rfl
theorem mainIs : prog.mainIs = some (true, "7149a58fcdc82c3e94668b10b16d4032a7f22a30319cbc977531ac3990ee79c4".toList) := by kernel_rfl
end R7
theorem Ae{a b:Bool}(h:a=true)(k:b=true):(a&&b)=true:=by rw[h,k];rfl
theorem fK{args:Array Value}{l:List Value}(h:args.toList=l):args=⟨l⟩:=by cases args;cases h;rfl
end Go.Proofs.YtlapcggejnojjaaGreatDoor
