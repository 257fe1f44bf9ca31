import Derived.Test.YtknhdhchejmpgaaGreatDoorX17
/- A part of a proof (no law is stated here). Made by program out of texts by AI agents. -/
noncomputable section
namespace Go.Proofs.YtknhdhchejmpgaaGreatDoor
open Go Go.RowKit Go.ChangeShapes Go.WideShapes Go.ChangeAt Go.Det Go.Pe
open Go.Proofs.Tryz (prog)
namespace CardChances
abbrev KK:Array Value:= #[.slice none 0 0,.slice none 0 0,.int .i64 0]
theorem reads(os:Os){H:Type}(enc:TypeId×Value->H):∃places,DataW.whole enc prog ((W7 os).forCall (fun _ _=>0) ⟨#[],KK,[]⟩).memory Tryz.f13.params.toList Rows.cardChancesSpec.vars false KK.toList 8=
  some ([.nil,.nil,.lit (.int .i64 0)],[],places):=
 ⟨[],by kernel_rfl⟩
theorem a1(os:Os):((W7 os).forCall (fun _ _=>0) ⟨#[],KK,[]⟩).variablesZipB prog=true:=by kernel_rfl
theorem a2(os:Os):(((W7 os).forCall (fun _ _=>0) ⟨#[],KK,[]⟩).heap.toList.drop prog.globals.size).take ((begin prog (fun _ _=>0) default).world.heap.size-prog.globals.size)=
   (begin prog (fun _ _=>0) default).world.heap.toList.drop prog.globals.size:=by kernel_rfl
theorem a3(os:Os):Input.okWideB prog ((W7 os).forCall (fun _ _=>0) ⟨#[],KK,[]⟩) 13 ⟨#[],KK,[]⟩=true:=by kernel_rfl
theorem a4(os:Os){H:Type}(enc:TypeId×Value->H):(OpenSpec.ofChange Rows.cardChancesSpec).bare.sizedB enc prog Tryz.f13 false ((W7 os).forCall (fun _ _=>0) ⟨#[],KK,[]⟩).memory KK 8=true:=by kernel_rfl
end CardChances
end Go.Proofs.YtknhdhchejmpgaaGreatDoor
