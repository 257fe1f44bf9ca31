import Derived.Test.YtmcnicakonagdaaGreatDoorX17
/- A part of a proof (no law is stated here). Made by program out of texts by AI agents. -/
noncomputable section
namespace Go.Proofs.YtmcnicakonagdaaGreatDoor
open Go Go.RowKit Go.ChangeShapes Go.WideShapes Go.ChangeAt Go.Det Go.Pe
open Go.Proofs.Tryz (prog)
namespace RatingLines
abbrev Kb:Array Value:= #[.slice none 0 0,.string ⟨#[]⟩,.string ⟨#[]⟩]
theorem reads(os:Os){H:Type}(enc:TypeId×Value->H):∃places,DataW.whole enc prog ((W7 os).forCall (fun _ _=>0) ⟨#[],Kb,[]⟩).memory Tryz.f3.params.toList Rows.ratingLinesSpec.vars false Kb.toList 8=
  some ([.nil,.lit (.string []),.lit (.string [])],[],places):=
 ⟨[],by kernel_rfl⟩
theorem a1(os:Os):((W7 os).forCall (fun _ _=>0) ⟨#[],Kb,[]⟩).variablesZipB prog=true:=by kernel_rfl
theorem a2(os:Os):(((W7 os).forCall (fun _ _=>0) ⟨#[],Kb,[]⟩).heap.toList.drop prog.globals.size).take ((begin prog (fun _ _=>0) default).world.heap.size-prog.globals.size)=
   (begin prog (fun _ _=>0) default).world.heap.toList.drop prog.globals.size:=by kernel_rfl
theorem a3(os:Os):Input.okWideB prog ((W7 os).forCall (fun _ _=>0) ⟨#[],Kb,[]⟩) 3 ⟨#[],Kb,[]⟩=true:=by kernel_rfl
theorem a4(os:Os){H:Type}(enc:TypeId×Value->H):(OpenSpec.ofChange Rows.ratingLinesSpec).bare.sizedB enc prog Tryz.f3 false ((W7 os).forCall (fun _ _=>0) ⟨#[],Kb,[]⟩).memory Kb 8=true:=by kernel_rfl
end RatingLines
end Go.Proofs.YtmcnicakonagdaaGreatDoor
