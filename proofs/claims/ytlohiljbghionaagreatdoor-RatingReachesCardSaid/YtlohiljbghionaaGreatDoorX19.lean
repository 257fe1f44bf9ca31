import Derived.Test.YtlohiljbghionaaGreatDoorX18
/- A part of a proof; no law is stated here. -/
namespace Go.Proofs.YtlohiljbghionaaGreatDoor
open Go Go.RowKit Go.ChangeShapes Go.WideShapes Go.ChangeAt Go.Det Go.Pe
open Go.Proofs.Tryz (prog)
namespace R7
theorem laidOut:laidOutB prog=true:=by kernel_rfl
theorem rG:mapsRowed prog=true:=by kernel_rfl
theorem Adw:(Rows.ratingCoursesRow.lifted==prog.liftsFinal)=true:=by kernel_rfl
theorem Abe:(prog.make==some Rows.ratingCoursesRow.make)=true:=by kernel_rfl
theorem heard:prog.stopsHeard=true:=by kernel_rfl
theorem enter:prog.mayEnter=true:=by kernel_rfl
theorem looks:true=prog.looks []:=by kernel_rfl
theorem mainIs : prog.mainIs = some (true, "4b8c5625713f700e21bfdb91e55307d14d4ce8bad068603c2f00cd8cb9be31d0".toList) := by kernel_rfl
end R7
theorem BG{a b:Bool}(h:a=true)(k:b=true):(a&&b)=true:=by rw[h,k];rfl
theorem AeA{args:Array Value}{l:List Value}(h:args.toList=l):args=⟨l⟩:=by cases args;cases h;rfl
end Go.Proofs.YtlohiljbghionaaGreatDoor
