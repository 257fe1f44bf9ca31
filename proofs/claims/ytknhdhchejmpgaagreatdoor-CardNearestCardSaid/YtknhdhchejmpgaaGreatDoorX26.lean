import Derived.Test.YtknhdhchejmpgaaGreatDoorX17
/- A part of a proof (no law is stated here). Made by program out of texts by AI agents. -/
namespace Go.Proofs.YtknhdhchejmpgaaGreatDoor
open Go Go.RowKit Go.ChangeShapes Go.WideShapes Go.ChangeAt Go.Det Go.Pe
open Go.Proofs.Tryz (prog)
namespace CardNearest
noncomputable abbrev D0:Array Value:= #[.string ⟨#[]⟩,.string ⟨#[]⟩,.int .i64 0]
theorem reads(os:Os){H:Type}(enc:TypeId×Value→H):∃places,DataW.whole enc prog ((W7 os).forCall (fun _ _=>0) ⟨#[],D0,[]⟩).memory Tryz.f7.params.toList Rows.cardNearestSpec.vars false D0.toList 8=
  some ([.lit (.string []),.lit (.string []),.lit (.int .i64 0)],[],places):=
 ⟨[],by kernel_rfl⟩
theorem a1(os:Os):((W7 os).forCall (fun _ _=>0) ⟨#[],D0,[]⟩).variablesZipB prog=true:=by kernel_rfl
theorem a2(os:Os):(((W7 os).forCall (fun _ _=>0) ⟨#[],D0,[]⟩).heap.toList.drop prog.globals.size).take ((begin prog (fun _ _=>0) default).world.heap.size-prog.globals.size)=
   (begin prog (fun _ _=>0) default).world.heap.toList.drop prog.globals.size:=by kernel_rfl
theorem a3(os:Os):Input.okWideB prog ((W7 os).forCall (fun _ _=>0) ⟨#[],D0,[]⟩) 7 ⟨#[],D0,[]⟩=true:=by kernel_rfl
theorem a4(os:Os){H:Type}(enc:TypeId×Value→H):(OpenSpec.ofChange Rows.cardNearestSpec).bare.sizedB enc prog Tryz.f7 false ((W7 os).forCall (fun _ _=>0) ⟨#[],D0,[]⟩).memory D0 8=true:=by kernel_rfl
end CardNearest
end Go.Proofs.YtknhdhchejmpgaaGreatDoor
