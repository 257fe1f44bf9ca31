import Derived.Test.YtlohiljbghionaaGreatDoorX18
/- A part of a proof (no law is stated here). Made by program out of texts by AI agents. -/
noncomputable section
namespace Go.Proofs.YtlohiljbghionaaGreatDoor
open Go Go.RowKit Go.ChangeShapes Go.WideShapes Go.ChangeAt Go.Det Go.Pe
open Go.Proofs.Tryz (prog)
namespace RatingLengths
abbrev Lr:Array Value:= #[.agg #[.slice none 0 0,.slice none 0 0,.slice none 0 0],.agg #[.int .i64 0,.int .i64 0,.int .i64 0]]
theorem reads(os:Os){H:Type}(enc:TypeId×Value->H):∃a,DataW.whole enc prog ((W7 os).forCall (fun _ _=>0) ⟨#[],Lr,[]⟩).memory Tryz.f4.params.toList Rows.ratingLengthsSpec.vars false Lr.toList 8=
  some ([.agg [.nil,.nil,.nil],.agg [.lit<|.int .i64 0,.lit<|.int .i64 0,.lit<|.int .i64 0]],[],a):=
 ⟨[],by kernel_rfl⟩
theorem a1(os:Os):((W7 os).forCall (fun _ _=>0) ⟨#[],Lr,[]⟩).variablesZipB prog=true:=by kernel_rfl
theorem a2(os:Os):(((W7 os).forCall (fun _ _=>0) ⟨#[],Lr,[]⟩).heap.toList.drop prog.globals.size).take ((begin prog (fun _ _=>0) default).world.heap.size-prog.globals.size)=
   (begin prog (fun _ _=>0) default).world.heap.toList.drop prog.globals.size:=by kernel_rfl
theorem a3(os:Os):Input.okWideB prog ((W7 os).forCall (fun _ _=>0) ⟨#[],Lr,[]⟩) 4 ⟨#[],Lr,[]⟩=true:=by kernel_rfl
theorem a4(os:Os){H:Type}(enc:TypeId×Value->H):(OpenSpec.ofChange Rows.ratingLengthsSpec).bare.sizedB enc prog Tryz.f4 false ((W7 os).forCall (fun _ _=>0) ⟨#[],Lr,[]⟩).memory Lr 8=true:=by kernel_rfl
end RatingLengths
end Go.Proofs.YtlohiljbghionaaGreatDoor
