import Derived.Test.YtbmofcgiokkikaaGreatDoorX19
/- A part of a proof; no law is stated here. -/
noncomputable section
namespace Go.Proofs.YtbmofcgiokkikaaGreatDoor
open Go Go.RowKit Go.ChangeShapes Go.WideShapes Go.ChangeAt Go.Det Go.Pe
open Go.Proofs.Tryz (prog)
namespace RatingSums
abbrev Ml:Array Value:= #[.agg #[.slice none 0 0,.slice none 0 0,.slice none 0 0],.agg #[.int .i64 0,.int .i64 0,.int .i64 0]]
theorem reads(os:Os){H:Type}(enc:TypeId×Value->H):∃a,DataW.whole enc prog ((W7 os).forCall (fun _ _=>0) ⟨#[],Ml,[]⟩).memory Tryz.f3.params.toList Rows.ratingSumsSpec.vars false Ml.toList 8=
  some ([.agg [.nil,.nil,.nil],.agg [.lit<|.int .i64 0,.lit<|.int .i64 0,.lit<|.int .i64 0]],[],a):=
 ⟨[],by kernel_rfl⟩
theorem a1(os:Os):((W7 os).forCall (fun _ _=>0) ⟨#[],Ml,[]⟩).variablesZipB prog=true:=by kernel_rfl
theorem a2(os:Os):(((W7 os).forCall (fun _ _=>0) ⟨#[],Ml,[]⟩).heap.toList.drop prog.globals.size).take ((begin prog (fun _ _=>0) default).world.heap.size-prog.globals.size)=
   (begin prog (fun _ _=>0) default).world.heap.toList.drop prog.globals.size:=by kernel_rfl
theorem a3(os:Os):Input.okWideB prog ((W7 os).forCall (fun _ _=>0) ⟨#[],Ml,[]⟩) 3 ⟨#[],Ml,[]⟩=true:=by kernel_rfl
theorem a4(os:Os){H:Type}(enc:TypeId×Value->H):(OpenSpec.ofChange Rows.ratingSumsSpec).bare.sizedB enc prog Tryz.f3 false ((W7 os).forCall (fun _ _=>0) ⟨#[],Ml,[]⟩).memory Ml 8=true:=by kernel_rfl
end RatingSums
end Go.Proofs.YtbmofcgiokkikaaGreatDoor
