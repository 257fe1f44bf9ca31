import Derived.Test.YtjbmodoofdpgcaaGreatDoorX16
/- A part of a proof; no law is stated here. -/
namespace Go.Proofs.YtjbmodoofdpgcaaGreatDoor
open Go Go.RowKit Go.ChangeShapes Go.WideShapes Go.ChangeAt Go.Det Go.Pe
open Go.Proofs.Tryz (prog)
namespace R7
theorem laidOut:laidOutB prog=true:=by kernel_rfl
theorem YA:mapsRowed prog=true:=by kernel_rfl
theorem sK:(Rows.handicapCoursesRow.lifted==prog.liftsFinal)=true:=by kernel_rfl
theorem dQ:(prog.make==some Rows.handicapCoursesRow.make)=true:=by kernel_rfl
theorem heard:prog.stopsHeard=true:=by kernel_rfl
theorem enter:prog.mayEnter=true:=by kernel_rfl
theorem looks:true=prog.looks []:=by kernel_rfl
theorem mainIs : prog.mainIs = some (true, "c426f9265ea5c905de2087da606534288483df23ee9e0058507ff7f3adbec8bb".toList) := by kernel_rfl
end R7
theorem AI{a b:Bool}(h:a=true)(k:b=true):(a&&b)=true:=by rw[h,k];rfl
theorem AcE{args:Array Value}{l:List Value}(h:args.toList=l):args=⟨l⟩:=by cases args;cases h;rfl
end Go.Proofs.YtjbmodoofdpgcaaGreatDoor
