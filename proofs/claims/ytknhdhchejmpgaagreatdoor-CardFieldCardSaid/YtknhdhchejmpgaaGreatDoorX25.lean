import Derived.Test.YtknhdhchejmpgaaGreatDoorX16
/- A part of a proof (no law is stated here). Made by program out of texts by AI agents. -/
namespace Go.Proofs.YtknhdhchejmpgaaGreatDoor
open Go Go.RowKit Go.ChangeShapes Go.WideShapes Go.ChangeAt Go.Det Go.Pe
open Go.Proofs.Tryz (prog)
namespace CardField
noncomputable abbrev DR:Array Value:= #[.string ⟨#[]⟩,.string ⟨#[]⟩,.string ⟨#[]⟩]
theorem reads(os:Os){H:Type}(enc:TypeId×Value→H):∃places,DataW.whole enc prog ((W7 os).forCall (fun _ _=>0) ⟨#[],DR,[]⟩).memory Tryz.f4.params.toList Rows.cardFieldSpec.vars false DR.toList 8=
  some ([.lit (.string []),.lit (.string []),.lit (.string [])],[],places):=
 ⟨[],by kernel_rfl⟩
theorem a1(os:Os):((W7 os).forCall (fun _ _=>0) ⟨#[],DR,[]⟩).variablesZipB prog=true:=by kernel_rfl
theorem a2(os:Os):(((W7 os).forCall (fun _ _=>0) ⟨#[],DR,[]⟩).heap.toList.drop prog.globals.size).take ((begin prog (fun _ _=>0) default).world.heap.size-prog.globals.size)=
   (begin prog (fun _ _=>0) default).world.heap.toList.drop prog.globals.size:=by kernel_rfl
theorem a3(os:Os):Input.okWideB prog ((W7 os).forCall (fun _ _=>0) ⟨#[],DR,[]⟩) 4 ⟨#[],DR,[]⟩=true:=by kernel_rfl
theorem a4(os:Os){H:Type}(enc:TypeId×Value→H):(OpenSpec.ofChange Rows.cardFieldSpec).bare.sizedB enc prog Tryz.f4 false ((W7 os).forCall (fun _ _=>0) ⟨#[],DR,[]⟩).memory DR 8=true:=by kernel_rfl
end CardField
end Go.Proofs.YtknhdhchejmpgaaGreatDoor
