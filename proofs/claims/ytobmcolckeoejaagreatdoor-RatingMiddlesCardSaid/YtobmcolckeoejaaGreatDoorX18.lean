import Derived.Test.YtobmcolckeoejaaGreatDoorX17
/- A part of a proof; no law is stated here. -/
namespace Go.Proofs.YtobmcolckeoejaaGreatDoor
open Go Go.RowKit Go.ChangeShapes Go.WideShapes Go.ChangeAt Go.Det Go.Pe
open Go.Proofs.Tryz (prog)
namespace R7
theorem laidOut:laidOutB prog=true:=by kernel_rfl
theorem aU:mapsRowed prog=true:=by kernel_rfl
theorem Acb:(Rows.ratingMeansRow.lifted==prog.liftsFinal)=true:=by kernel_rfl
theorem qN:(prog.make==some Rows.ratingMeansRow.make)=true:=by kernel_rfl
theorem heard:prog.stopsHeard=true:=by kernel_rfl
theorem enter:prog.mayEnter=true:=by kernel_rfl
theorem looks:true=prog.looks []:=by kernel_rfl
theorem mainIs : prog.mainIs = some (true, "823b262d092c53220dfb0bfbd1ce7f67721a1372cd558f3ab37e93e4f317cc5b".toList) := by kernel_rfl
end R7
theorem AP{a b:Bool}(h:a=true)(k:b=true):(a&&b)=true:=by rw[h,k];rfl
theorem AhJ{args:Array Value}{l:List Value}(h:args.toList=l):args=⟨l⟩:=by cases args;cases h;rfl
end Go.Proofs.YtobmcolckeoejaaGreatDoor
