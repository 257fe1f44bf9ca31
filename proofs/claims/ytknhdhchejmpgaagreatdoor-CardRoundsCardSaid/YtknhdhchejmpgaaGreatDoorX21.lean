import Derived.Test.YtknhdhchejmpgaaGreatDoorX16
/- A part of a proof (no law is stated here). Made by program out of texts by AI agents. -/
noncomputable section
namespace Go.Proofs.YtknhdhchejmpgaaGreatDoor
open Go Go.RowKit Go.ChangeShapes Go.WideShapes Go.ChangeAt Go.Det Go.Pe
open Go.Proofs.Tryz (prog)
namespace CardRounds
abbrev D4:Array Value:= #[.string ⟨#[]⟩,.string ⟨#[]⟩]
theorem reads(os:Os){H:Type}(enc:TypeId×Value->H):∃places,DataW.whole enc prog ((W7 os).forCall (fun _ _=>0) ⟨#[],D4,[]⟩).memory Tryz.f6.params.toList Rows.cardRoundsSpec.vars false D4.toList 8=
  some ([.lit (.string []),.lit (.string [])],[],places):=
 ⟨[],by kernel_rfl⟩
theorem a1(os:Os):((W7 os).forCall (fun _ _=>0) ⟨#[],D4,[]⟩).variablesZipB prog=true:=by kernel_rfl
theorem a2(os:Os):(((W7 os).forCall (fun _ _=>0) ⟨#[],D4,[]⟩).heap.toList.drop prog.globals.size).take ((begin prog (fun _ _=>0) default).world.heap.size-prog.globals.size)=
   (begin prog (fun _ _=>0) default).world.heap.toList.drop prog.globals.size:=by kernel_rfl
theorem a3(os:Os):Input.okWideB prog ((W7 os).forCall (fun _ _=>0) ⟨#[],D4,[]⟩) 6 ⟨#[],D4,[]⟩=true:=by kernel_rfl
theorem a4(os:Os){H:Type}(enc:TypeId×Value->H):(OpenSpec.ofChange Rows.cardRoundsSpec).bare.sizedB enc prog Tryz.f6 false ((W7 os).forCall (fun _ _=>0) ⟨#[],D4,[]⟩).memory D4 8=true:=by kernel_rfl
end CardRounds
end Go.Proofs.YtknhdhchejmpgaaGreatDoor
