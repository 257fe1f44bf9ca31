import Derived.Test.YtlapcggejnojjaaGreatDoorX14
/- A part of a proof (no law is stated here). Made by program out of texts by AI agents. -/
namespace Go.Proofs.YtlapcggejnojjaaGreatDoor
open Go Go.RowKit Go.ChangeShapes Go.WideShapes Go.ChangeAt Go.Det Go.Pe
open Go.Proofs.Tryz (prog)
namespace CardHoles
noncomputable abbrev Bg:Array Value:= #[.slice none 0 0,.agg #[.string ⟨#[]⟩,.slice none 0 0]]
theorem reads(os:Os){H:Type}(enc:TypeId×Value→H):∃places,DataW.whole enc prog ((W7 os).forCall (fun _ _=>0) ⟨#[],Bg,[]⟩).memory Tryz.f6.params.toList Rows.cardHolesSpec.vars false Bg.toList 8=
  some ([.nil,.agg [.lit (.string []),.nil]],[],places):=
 ⟨[],by kernel_rfl⟩
theorem a1(os:Os):((W7 os).forCall (fun _ _=>0) ⟨#[],Bg,[]⟩).variablesZipB prog=true:=by kernel_rfl
theorem a2(os:Os):(((W7 os).forCall (fun _ _=>0) ⟨#[],Bg,[]⟩).heap.toList.drop prog.globals.size).take ((begin prog (fun _ _=>0) default).world.heap.size-prog.globals.size)=
   (begin prog (fun _ _=>0) default).world.heap.toList.drop prog.globals.size:=by kernel_rfl
theorem a3(os:Os):Input.okWideB prog ((W7 os).forCall (fun _ _=>0) ⟨#[],Bg,[]⟩) 6 ⟨#[],Bg,[]⟩=true:=by kernel_rfl
theorem a4(os:Os){H:Type}(enc:TypeId×Value→H):(OpenSpec.ofChange Rows.cardHolesSpec).bare.sizedB enc prog Tryz.f6 false ((W7 os).forCall (fun _ _=>0) ⟨#[],Bg,[]⟩).memory Bg 8=true:=by kernel_rfl
end CardHoles
end Go.Proofs.YtlapcggejnojjaaGreatDoor
