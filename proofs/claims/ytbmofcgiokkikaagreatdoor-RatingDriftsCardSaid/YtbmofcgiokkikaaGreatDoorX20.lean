import Derived.Test.YtbmofcgiokkikaaGreatDoorX19
/- A part of a proof; no law is stated here. -/
namespace Go.Proofs.YtbmofcgiokkikaaGreatDoor
open Go Go.RowKit Go.ChangeShapes Go.WideShapes Go.ChangeAt Go.Det Go.Pe
open Go.Proofs.Tryz (prog)
namespace R7
theorem laidOut:laidOutB prog=true:=by kernel_rfl
theorem Aaf:mapsRowed prog=true:=by kernel_rfl
theorem Ahf:(Rows.ratingSumsRow.lifted==prog.liftsFinal)=true:=by kernel_rfl
theorem Aek:(prog.make==some Rows.ratingSumsRow.make)=true:=by kernel_rfl
theorem heard:prog.stopsHeard=true:=by kernel_rfl
theorem enter:prog.mayEnter=true:=by kernel_rfl
theorem looks:true=prog.looks []:=by kernel_rfl
theorem mainIs : prog.mainIs = some (true, "8e64035a8f50edbc63ec1e56494a5db16a9965a16c42536ae85cc53187eb2ea4".toList) := by kernel_rfl
end R7
theorem BV{a b:Bool}(h:a=true)(k:b=true):(a&&b)=true:=by rw[h,k];rfl
theorem Aiz{args:Array Value}{l:List Value}(h:args.toList=l):args=⟨l⟩:=by cases args;cases h;rfl
end Go.Proofs.YtbmofcgiokkikaaGreatDoor
