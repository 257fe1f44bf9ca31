import Derived.Test.YtobmcolckeoejaaGreatDoorX17
/- A part of a proof; no law is stated here. -/
noncomputable section
namespace Go.Proofs.YtobmcolckeoejaaGreatDoor
open Go Go.RowKit Go.ChangeShapes Go.WideShapes Go.ChangeAt Go.Det Go.Pe
open Go.Proofs.Tryz (prog)
namespace RatingMiddles
abbrev Ej:Array Value:= #[.slice none 0 0,.string ⟨#[]⟩]
theorem reads(os:Os){H:Type}(enc:TypeId×Value->H):∃a,DataW.whole enc prog ((W7 os).forCall (fun _ _=>0) ⟨#[],Ej,[]⟩).memory Tryz.f4.params.toList Rows.ratingMiddlesSpec.vars false Ej.toList 8=
  some ([.nil,.lit<|.string []],[],a):=
 ⟨[],by kernel_rfl⟩
theorem a1(os:Os):((W7 os).forCall (fun _ _=>0) ⟨#[],Ej,[]⟩).variablesZipB prog=true:=by kernel_rfl
theorem a2(os:Os):(((W7 os).forCall (fun _ _=>0) ⟨#[],Ej,[]⟩).heap.toList.drop prog.globals.size).take ((begin prog (fun _ _=>0) default).world.heap.size-prog.globals.size)=
   (begin prog (fun _ _=>0) default).world.heap.toList.drop prog.globals.size:=by kernel_rfl
theorem a3(os:Os):Input.okWideB prog ((W7 os).forCall (fun _ _=>0) ⟨#[],Ej,[]⟩) 4 ⟨#[],Ej,[]⟩=true:=by kernel_rfl
theorem a4(os:Os){H:Type}(enc:TypeId×Value->H):(OpenSpec.ofChange Rows.ratingMiddlesSpec).bare.sizedB enc prog Tryz.f4 false ((W7 os).forCall (fun _ _=>0) ⟨#[],Ej,[]⟩).memory Ej 8=true:=by kernel_rfl
end RatingMiddles
end Go.Proofs.YtobmcolckeoejaaGreatDoor
