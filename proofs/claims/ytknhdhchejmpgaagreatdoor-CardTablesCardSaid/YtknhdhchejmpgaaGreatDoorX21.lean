import Derived.Test.YtknhdhchejmpgaaGreatDoorX16
/- A part of a proof (no law is stated here). Made by program out of texts by AI agents. -/
namespace Go.Proofs.YtknhdhchejmpgaaGreatDoor
open Go Go.RowKit Go.ChangeShapes Go.WideShapes Go.ChangeAt Go.Det Go.Pe
open Go.Proofs.Tryz (prog)
namespace CardTables
noncomputable abbrev J3:Array Value:= #[.slice none 0 0,.string ⟨#[]⟩]
theorem reads(os:Os){H:Type}(enc:TypeId×Value→H):∃places,DataW.whole enc prog ((W7 os).forCall (fun _ _=>0) ⟨#[],J3,[]⟩).memory Tryz.f8.params.toList Rows.cardTablesSpec.vars false J3.toList 8=
  some ([.nil,.lit (.string [])],[],places):=
 ⟨[],by kernel_rfl⟩
theorem a1(os:Os):((W7 os).forCall (fun _ _=>0) ⟨#[],J3,[]⟩).variablesZipB prog=true:=by kernel_rfl
theorem a2(os:Os):(((W7 os).forCall (fun _ _=>0) ⟨#[],J3,[]⟩).heap.toList.drop prog.globals.size).take ((begin prog (fun _ _=>0) default).world.heap.size-prog.globals.size)=
   (begin prog (fun _ _=>0) default).world.heap.toList.drop prog.globals.size:=by kernel_rfl
theorem a3(os:Os):Input.okWideB prog ((W7 os).forCall (fun _ _=>0) ⟨#[],J3,[]⟩) 8 ⟨#[],J3,[]⟩=true:=by kernel_rfl
theorem a4(os:Os){H:Type}(enc:TypeId×Value→H):(OpenSpec.ofChange Rows.cardTablesSpec).bare.sizedB enc prog Tryz.f8 false ((W7 os).forCall (fun _ _=>0) ⟨#[],J3,[]⟩).memory J3 8=true:=by kernel_rfl
end CardTables
end Go.Proofs.YtknhdhchejmpgaaGreatDoor
