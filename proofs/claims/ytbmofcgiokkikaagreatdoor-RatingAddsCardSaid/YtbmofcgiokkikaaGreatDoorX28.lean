import Derived.Test.YtbmofcgiokkikaaGreatDoorX17
/- A part of a proof; no law is stated here. -/
noncomputable section
namespace Go.Proofs.YtbmofcgiokkikaaGreatDoor
open Go Go.RowKit Go.ChangeShapes Go.WideShapes Go.ChangeAt Go.Det Go.Pe
open Go.Proofs.Tryz (prog)
namespace RatingAdds
abbrev E3:Array Value:= #[.agg #[.slice none 0 0,.slice none 0 0,.slice none 0 0],.int .i64 0,.agg #[.int .i64 0,.int .i64 0]]
theorem reads(os:Os){H:Type}(enc:TypeId×Value->H):∃a,DataW.whole enc prog ((W7 os).forCall (fun _ _=>0) ⟨#[],E3,[]⟩).memory Tryz.f5.params.toList Rows.ratingAddsSpec.vars false E3.toList 8=
  some ([.agg [.nil,.nil,.nil],.lit<|.int .i64 0,.agg [.lit<|.int .i64 0,.lit<|.int .i64 0]],[],a):=
 ⟨[],by kernel_rfl⟩
theorem a1(os:Os):((W7 os).forCall (fun _ _=>0) ⟨#[],E3,[]⟩).variablesZipB prog=true:=by kernel_rfl
theorem a2(os:Os):(((W7 os).forCall (fun _ _=>0) ⟨#[],E3,[]⟩).heap.toList.drop prog.globals.size).take ((begin prog (fun _ _=>0) default).world.heap.size-prog.globals.size)=
   (begin prog (fun _ _=>0) default).world.heap.toList.drop prog.globals.size:=by kernel_rfl
theorem a3(os:Os):Input.okWideB prog ((W7 os).forCall (fun _ _=>0) ⟨#[],E3,[]⟩) 5 ⟨#[],E3,[]⟩=true:=by kernel_rfl
theorem a4(os:Os){H:Type}(enc:TypeId×Value->H):(OpenSpec.ofChange Rows.ratingAddsSpec).bare.sizedB enc prog Tryz.f5 false ((W7 os).forCall (fun _ _=>0) ⟨#[],E3,[]⟩).memory E3 8=true:=by kernel_rfl
end RatingAdds
end Go.Proofs.YtbmofcgiokkikaaGreatDoor
