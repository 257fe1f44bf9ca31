import Derived.Test.YtlohiljbghionaaGreatDoorX18
/- A part of a proof (no law is stated here). Made by program out of texts by AI agents. -/
noncomputable section
namespace Go.Proofs.YtlohiljbghionaaGreatDoor
open Go Go.RowKit Go.ChangeShapes Go.WideShapes Go.ChangeAt Go.Det Go.Pe
open Go.Proofs.Tryz (prog)
namespace RatingCourses
abbrev JZ:Array Value:= #[.agg #[.slice none 0 0,.slice none 0 0,.slice none 0 0],.agg #[.string ⟨#[]⟩,.string ⟨#[]⟩,.string ⟨#[]⟩,.slice none 0 0,.slice none 0 0]]
theorem reads(os:Os){H:Type}(enc:TypeId×Value->H):∃a,DataW.whole enc prog ((W7 os).forCall (fun _ _=>0) ⟨#[],JZ,[]⟩).memory Tryz.f3.params.toList Rows.ratingCoursesSpec.vars false JZ.toList 8=
  some ([.agg [.nil,.nil,.nil],.agg [.lit<|.string [],.lit<|.string [],.lit<|.string [],.nil,.nil]],[],a):=
 ⟨[],by kernel_rfl⟩
theorem a1(os:Os):((W7 os).forCall (fun _ _=>0) ⟨#[],JZ,[]⟩).variablesZipB prog=true:=by kernel_rfl
theorem a2(os:Os):(((W7 os).forCall (fun _ _=>0) ⟨#[],JZ,[]⟩).heap.toList.drop prog.globals.size).take ((begin prog (fun _ _=>0) default).world.heap.size-prog.globals.size)=
   (begin prog (fun _ _=>0) default).world.heap.toList.drop prog.globals.size:=by kernel_rfl
theorem a3(os:Os):Input.okWideB prog ((W7 os).forCall (fun _ _=>0) ⟨#[],JZ,[]⟩) 3 ⟨#[],JZ,[]⟩=true:=by kernel_rfl
theorem a4(os:Os){H:Type}(enc:TypeId×Value->H):(OpenSpec.ofChange Rows.ratingCoursesSpec).bare.sizedB enc prog Tryz.f3 false ((W7 os).forCall (fun _ _=>0) ⟨#[],JZ,[]⟩).memory JZ 8=true:=by kernel_rfl
end RatingCourses
end Go.Proofs.YtlohiljbghionaaGreatDoor
