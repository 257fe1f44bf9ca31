import Derived.Test.YtjbmodoofdpgcabGreatDoorX11
/- A part of a proof; no law is stated here. -/
namespace Go.Proofs.YtjbmodoofdpgcabGreatDoor
open Go Go.RowKit Go.ChangeShapes Go.WideShapes Go.ChangeAt Go.Det Go.Pe
open Go.Proofs.Tryz (prog)
namespace R7
theorem laidOut:laidOutB prog=true:=by kernel_rfl
theorem Qz:mapsRowed prog=true:=by kernel_rfl
theorem TW:(Rows.eventQualifiesRow.lifted==prog.liftsFinal)=true:=by kernel_rfl
theorem SF:(prog.make==some Rows.eventQualifiesRow.make)=true:=by kernel_rfl
theorem heard:prog.stopsHeard=true:=by kernel_rfl
theorem enter:prog.mayEnter=true:=by kernel_rfl
theorem looks:true=prog.looks []:=by kernel_rfl
theorem mainIs : prog.mainIs = some (true, "4a9f5274c0c9b0155f586a1a2b45095a26a8557f9ff07b3e59c02762acf5a13f".toList) := by kernel_rfl
end R7
theorem Aw{a b:Bool}(h:a=true)(k:b=true):(a&&b)=true:=by rw[h,k];rfl
theorem UB{args:Array Value}{l:List Value}(h:args.toList=l):args=⟨l⟩:=by cases args;cases h;rfl
end Go.Proofs.YtjbmodoofdpgcabGreatDoor
