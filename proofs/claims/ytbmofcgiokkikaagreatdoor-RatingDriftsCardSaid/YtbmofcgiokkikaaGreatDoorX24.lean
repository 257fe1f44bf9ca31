import Derived.Test.YtbmofcgiokkikaaGreatDoorX19
/- A part of a proof; no law is stated here. -/
noncomputable section
namespace Go.Proofs.YtbmofcgiokkikaaGreatDoor
open Go Go.RowKit Go.ChangeShapes Go.WideShapes Go.ChangeAt Go.Det Go.Pe
open Go.Proofs.Tryz (prog)
namespace RatingDrifts
abbrev Ma:Array Value:= #[.agg #[.slice none 0 0,.slice none 0 0,.slice none 0 0],.agg #[.int .i64 0,.int .i64 0,.int .i64 0],.slice none 0 0]
theorem reads(os:Os){H:Type}(enc:TypeId×Value->H):∃a,DataW.whole enc prog ((W7 os).forCall (fun _ _=>0) ⟨#[],Ma,[]⟩).memory Tryz.f6.params.toList Rows.ratingDriftsSpec.vars false Ma.toList 8=
  some ([.agg [.nil,.nil,.nil],.agg [.lit<|.int .i64 0,.lit<|.int .i64 0,.lit<|.int .i64 0],.nil],[],a):=
 ⟨[],by kernel_rfl⟩
theorem a1(os:Os):((W7 os).forCall (fun _ _=>0) ⟨#[],Ma,[]⟩).variablesZipB prog=true:=by kernel_rfl
theorem a2(os:Os):(((W7 os).forCall (fun _ _=>0) ⟨#[],Ma,[]⟩).heap.toList.drop prog.globals.size).take ((begin prog (fun _ _=>0) default).world.heap.size-prog.globals.size)=
   (begin prog (fun _ _=>0) default).world.heap.toList.drop prog.globals.size:=by kernel_rfl
theorem a3(os:Os):Input.okWideB prog ((W7 os).forCall (fun _ _=>0) ⟨#[],Ma,[]⟩) 6 ⟨#[],Ma,[]⟩=true:=by kernel_rfl
theorem a4(os:Os){H:Type}(enc:TypeId×Value->H):(OpenSpec.ofChange Rows.ratingDriftsSpec).bare.sizedB enc prog Tryz.f6 false ((W7 os).forCall (fun _ _=>0) ⟨#[],Ma,[]⟩).memory Ma 8=true:=by kernel_rfl
end RatingDrifts
end Go.Proofs.YtbmofcgiokkikaaGreatDoor
