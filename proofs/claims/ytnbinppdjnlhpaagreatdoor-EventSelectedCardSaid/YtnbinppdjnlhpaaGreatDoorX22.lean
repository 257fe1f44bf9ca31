import Derived.Test.YtnbinppdjnlhpaaGreatDoorX17
/- A part of a proof (no law is stated here). Made by program out of texts by AI agents. -/
namespace Go.Proofs.YtnbinppdjnlhpaaGreatDoor
open Go Go.RowKit Go.ChangeShapes Go.WideShapes Go.ChangeAt Go.Det Go.Pe
open Go.Proofs.Tryz (prog)
namespace EventSelected
noncomputable abbrev JH:Array Value:= #[.slice none 0 0,.agg #[.int .i64 0,.string ⟨#[]⟩,.int .i64 0],.int .u16 0]
theorem reads(os:Os){H:Type}(enc:TypeId×Value→H):∃places,DataW.whole enc prog ((W7 os).forCall (fun _ _=>0) ⟨#[],JH,[]⟩).memory Tryz.f8.params.toList Rows.eventSelectedSpec.vars false JH.toList 8=
  some ([.nil,.agg [.lit (.int .i64 0),.lit (.string []),.lit (.int .i64 0)],.lit (.int .u16 0)],[],places):=
 ⟨[],by kernel_rfl⟩
theorem a1(os:Os):((W7 os).forCall (fun _ _=>0) ⟨#[],JH,[]⟩).variablesZipB prog=true:=by kernel_rfl
theorem a2(os:Os):(((W7 os).forCall (fun _ _=>0) ⟨#[],JH,[]⟩).heap.toList.drop prog.globals.size).take ((begin prog (fun _ _=>0) default).world.heap.size-prog.globals.size)=
   (begin prog (fun _ _=>0) default).world.heap.toList.drop prog.globals.size:=by kernel_rfl
theorem a3(os:Os):Input.okWideB prog ((W7 os).forCall (fun _ _=>0) ⟨#[],JH,[]⟩) 8 ⟨#[],JH,[]⟩=true:=by kernel_rfl
theorem a4(os:Os){H:Type}(enc:TypeId×Value→H):(OpenSpec.ofChange Rows.eventSelectedSpec).bare.sizedB enc prog Tryz.f8 false ((W7 os).forCall (fun _ _=>0) ⟨#[],JH,[]⟩).memory JH 8=true:=by kernel_rfl
end EventSelected
end Go.Proofs.YtnbinppdjnlhpaaGreatDoor
