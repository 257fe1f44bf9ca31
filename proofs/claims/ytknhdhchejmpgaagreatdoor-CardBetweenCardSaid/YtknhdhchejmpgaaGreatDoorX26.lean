import Derived.Test.YtknhdhchejmpgaaGreatDoorX16
/- A part of a proof (no law is stated here). Made by program out of texts by AI agents. -/
noncomputable section
namespace Go.Proofs.YtknhdhchejmpgaaGreatDoor
open Go Go.RowKit Go.ChangeShapes Go.WideShapes Go.ChangeAt Go.Det Go.Pe
open Go.Proofs.Tryz (prog)
namespace CardBetween
abbrev D4:Array Value:= #[.slice none 0 0,.int .u8 0,.int .u8 0]
theorem reads(os:Os){H:Type}(enc:TypeId×Value->H):∃places,DataW.whole enc prog ((W7 os).forCall (fun _ _=>0) ⟨#[],D4,[]⟩).memory Tryz.f9.params.toList Rows.cardBetweenSpec.vars false D4.toList 8=
  some ([.nil,.lit (.int .u8 0),.lit (.int .u8 0)],[],places):=
 ⟨[],by kernel_rfl⟩
theorem a1(os:Os):((W7 os).forCall (fun _ _=>0) ⟨#[],D4,[]⟩).variablesZipB prog=true:=by kernel_rfl
theorem a2(os:Os):(((W7 os).forCall (fun _ _=>0) ⟨#[],D4,[]⟩).heap.toList.drop prog.globals.size).take ((begin prog (fun _ _=>0) default).world.heap.size-prog.globals.size)=
   (begin prog (fun _ _=>0) default).world.heap.toList.drop prog.globals.size:=by kernel_rfl
theorem a3(os:Os):Input.okWideB prog ((W7 os).forCall (fun _ _=>0) ⟨#[],D4,[]⟩) 9 ⟨#[],D4,[]⟩=true:=by kernel_rfl
theorem a4(os:Os){H:Type}(enc:TypeId×Value->H):(OpenSpec.ofChange Rows.cardBetweenSpec).bare.sizedB enc prog Tryz.f9 false ((W7 os).forCall (fun _ _=>0) ⟨#[],D4,[]⟩).memory D4 8=true:=by kernel_rfl
end CardBetween
end Go.Proofs.YtknhdhchejmpgaaGreatDoor
