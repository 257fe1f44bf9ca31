import Derived.Test.YtjbmodoofdpgcaaGreatDoorX16
/- A part of a proof; no law is stated here. -/
noncomputable section
namespace Go.Proofs.YtjbmodoofdpgcaaGreatDoor
open Go Go.RowKit Go.ChangeShapes Go.WideShapes Go.ChangeAt Go.Det Go.Pe
open Go.Proofs.Tryz (prog)
namespace HandicapSides
abbrev D0:Array Value:= #[.slice none 0 0,.slice none 0 0,.slice none 0 0]
theorem reads(os:Os){H:Type}(enc:TypeId×Value->H):∃a,DataW.whole enc prog ((W7 os).forCall (fun _ _=>0) ⟨#[],D0,[]⟩).memory Tryz.f4.params.toList Rows.handicapSidesSpec.vars false D0.toList 8=
  some ([.nil,.nil,.nil],[],a):=
 ⟨[],by kernel_rfl⟩
theorem a1(os:Os):((W7 os).forCall (fun _ _=>0) ⟨#[],D0,[]⟩).variablesZipB prog=true:=by kernel_rfl
theorem a2(os:Os):(((W7 os).forCall (fun _ _=>0) ⟨#[],D0,[]⟩).heap.toList.drop prog.globals.size).take ((begin prog (fun _ _=>0) default).world.heap.size-prog.globals.size)=
   (begin prog (fun _ _=>0) default).world.heap.toList.drop prog.globals.size:=by kernel_rfl
theorem a3(os:Os):Input.okWideB prog ((W7 os).forCall (fun _ _=>0) ⟨#[],D0,[]⟩) 4 ⟨#[],D0,[]⟩=true:=by kernel_rfl
theorem a4(os:Os){H:Type}(enc:TypeId×Value->H):(OpenSpec.ofChange Rows.handicapSidesSpec).bare.sizedB enc prog Tryz.f4 false ((W7 os).forCall (fun _ _=>0) ⟨#[],D0,[]⟩).memory D0 8=true:=by kernel_rfl
end HandicapSides
end Go.Proofs.YtjbmodoofdpgcaaGreatDoor
