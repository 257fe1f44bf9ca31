import Derived.Test.YtjbmodoofdpgcaaGreatDoorX15
/- A part of a proof; no law is stated here. -/
noncomputable section
namespace Go.Proofs.YtjbmodoofdpgcaaGreatDoor
open Go Go.RowKit Go.ChangeShapes Go.WideShapes Go.ChangeAt Go.Det Go.Pe
open Go.Proofs.Tryz (prog)
namespace HandicapCourses
abbrev Kg:Array Value:= #[.string ⟨#[]⟩,.agg #[.int .i64 0,.string ⟨#[]⟩,.int .i64 0],.agg #[.int .i64 0,.int .i64 0]]
theorem reads(os:Os){H:Type}(enc:TypeId×Value->H):∃a,DataW.whole enc prog ((W7 os).forCall (fun _ _=>0) ⟨#[],Kg,[]⟩).memory Tryz.f3.params.toList Rows.handicapCoursesSpec.vars false Kg.toList 8=
  some ([.lit<|.string [],.agg [.lit<|.int .i64 0,.lit<|.string [],.lit<|.int .i64 0],.agg [.lit<|.int .i64 0,.lit<|.int .i64 0]],[],a):=
 ⟨[],by kernel_rfl⟩
theorem a1(os:Os):((W7 os).forCall (fun _ _=>0) ⟨#[],Kg,[]⟩).variablesZipB prog=true:=by kernel_rfl
theorem a2(os:Os):(((W7 os).forCall (fun _ _=>0) ⟨#[],Kg,[]⟩).heap.toList.drop prog.globals.size).take ((begin prog (fun _ _=>0) default).world.heap.size-prog.globals.size)=
   (begin prog (fun _ _=>0) default).world.heap.toList.drop prog.globals.size:=by kernel_rfl
theorem a3(os:Os):Input.okWideB prog ((W7 os).forCall (fun _ _=>0) ⟨#[],Kg,[]⟩) 3 ⟨#[],Kg,[]⟩=true:=by kernel_rfl
theorem a4(os:Os){H:Type}(enc:TypeId×Value->H):(OpenSpec.ofChange Rows.handicapCoursesSpec).bare.sizedB enc prog Tryz.f3 false ((W7 os).forCall (fun _ _=>0) ⟨#[],Kg,[]⟩).memory Kg 8=true:=by kernel_rfl
end HandicapCourses
end Go.Proofs.YtjbmodoofdpgcaaGreatDoor
