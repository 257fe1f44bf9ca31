import Derived.Test.YtmcnicakonagdaaGreatDoorX17
/- A part of a proof (no law is stated here). Made by program out of texts by AI agents. -/
noncomputable section
namespace Go.Proofs.YtmcnicakonagdaaGreatDoor
open Go Go.RowKit Go.ChangeShapes Go.WideShapes Go.ChangeAt Go.Det Go.Pe
open Go.Proofs.Tryz (prog)
namespace RatingSquares
abbrev LF:Array Value:= #[.slice none 0 0,.string ⟨#[]⟩,.string ⟨#[]⟩]
theorem reads(os:Os){H:Type}(enc:TypeId×Value->H):∃places,DataW.whole enc prog ((W7 os).forCall (fun _ _=>0) ⟨#[],LF,[]⟩).memory Tryz.f4.params.toList Rows.ratingSquaresSpec.vars false LF.toList 8=
  some ([.nil,.lit (.string []),.lit (.string [])],[],places):=
 ⟨[],by kernel_rfl⟩
theorem a1(os:Os):((W7 os).forCall (fun _ _=>0) ⟨#[],LF,[]⟩).variablesZipB prog=true:=by kernel_rfl
theorem a2(os:Os):(((W7 os).forCall (fun _ _=>0) ⟨#[],LF,[]⟩).heap.toList.drop prog.globals.size).take ((begin prog (fun _ _=>0) default).world.heap.size-prog.globals.size)=
   (begin prog (fun _ _=>0) default).world.heap.toList.drop prog.globals.size:=by kernel_rfl
theorem a3(os:Os):Input.okWideB prog ((W7 os).forCall (fun _ _=>0) ⟨#[],LF,[]⟩) 4 ⟨#[],LF,[]⟩=true:=by kernel_rfl
theorem a4(os:Os){H:Type}(enc:TypeId×Value->H):(OpenSpec.ofChange Rows.ratingSquaresSpec).bare.sizedB enc prog Tryz.f4 false ((W7 os).forCall (fun _ _=>0) ⟨#[],LF,[]⟩).memory LF 8=true:=by kernel_rfl
end RatingSquares
end Go.Proofs.YtmcnicakonagdaaGreatDoor
