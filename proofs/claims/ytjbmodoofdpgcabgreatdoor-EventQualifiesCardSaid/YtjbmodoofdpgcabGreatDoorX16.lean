import Derived.Test.YtjbmodoofdpgcabGreatDoorX11
/- A part of a proof; no law is stated here. -/
noncomputable section
namespace Go.Proofs.YtjbmodoofdpgcabGreatDoor
open Go Go.RowKit Go.ChangeShapes Go.WideShapes Go.ChangeAt Go.Det Go.Pe
open Go.Proofs.Tryz (prog)
namespace EventQualifies
abbrev EH:Array Value:= #[.slice none 0 0,.int .i64 0]
theorem reads(os:Os){H:Type}(enc:TypeId×Value->H):∃a,DataW.whole enc prog ((W7 os).forCall (fun _ _=>0) ⟨#[],EH,[]⟩).memory Tryz.f3.params.toList Rows.eventQualifiesSpec.vars false EH.toList 8=
  some ([.nil,.lit<|.int .i64 0],[],a):=
 ⟨[],by kernel_rfl⟩
theorem a1(os:Os):((W7 os).forCall (fun _ _=>0) ⟨#[],EH,[]⟩).variablesZipB prog=true:=by kernel_rfl
theorem a2(os:Os):(((W7 os).forCall (fun _ _=>0) ⟨#[],EH,[]⟩).heap.toList.drop prog.globals.size).take ((begin prog (fun _ _=>0) default).world.heap.size-prog.globals.size)=
   (begin prog (fun _ _=>0) default).world.heap.toList.drop prog.globals.size:=by kernel_rfl
theorem a3(os:Os):Input.okWideB prog ((W7 os).forCall (fun _ _=>0) ⟨#[],EH,[]⟩) 3 ⟨#[],EH,[]⟩=true:=by kernel_rfl
theorem a4(os:Os){H:Type}(enc:TypeId×Value->H):(OpenSpec.ofChange Rows.eventQualifiesSpec).bare.sizedB enc prog Tryz.f3 false ((W7 os).forCall (fun _ _=>0) ⟨#[],EH,[]⟩).memory EH 8=true:=by kernel_rfl
end EventQualifies
end Go.Proofs.YtjbmodoofdpgcabGreatDoor
