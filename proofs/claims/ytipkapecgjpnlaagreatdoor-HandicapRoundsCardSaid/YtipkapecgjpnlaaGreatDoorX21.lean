import Derived.Test.YtipkapecgjpnlaaGreatDoorX11
/- A part of a proof; no law is stated here. -/
noncomputable section
namespace Go.Proofs.YtipkapecgjpnlaaGreatDoor
open Go Go.RowKit Go.ChangeShapes Go.WideShapes Go.ChangeAt Go.Det Go.Pe
open Go.Proofs.Tryz (prog)
namespace HandicapRounds
abbrev B0:Array Value:= #[.slice none 0 0,.agg #[.string ⟨#[]⟩,.slice none 0 0],.int .i64 0]
theorem reads(os:Os){H:Type}(enc:TypeId×Value->H):∃a,DataW.whole enc prog ((W7 os).forCall (fun _ _=>0) ⟨#[],B0,[]⟩).memory Tryz.f6.params.toList Rows.handicapRoundsSpec.vars false B0.toList 8=
  some ([.nil,.agg [.lit<|.string [],.nil],.lit<|.int .i64 0],[],a):=
 ⟨[],by kernel_rfl⟩
theorem a1(os:Os):((W7 os).forCall (fun _ _=>0) ⟨#[],B0,[]⟩).variablesZipB prog=true:=by kernel_rfl
theorem a2(os:Os):(((W7 os).forCall (fun _ _=>0) ⟨#[],B0,[]⟩).heap.toList.drop prog.globals.size).take ((begin prog (fun _ _=>0) default).world.heap.size-prog.globals.size)=
   (begin prog (fun _ _=>0) default).world.heap.toList.drop prog.globals.size:=by kernel_rfl
theorem a3(os:Os):Input.okWideB prog ((W7 os).forCall (fun _ _=>0) ⟨#[],B0,[]⟩) 6 ⟨#[],B0,[]⟩=true:=by kernel_rfl
theorem a4(os:Os){H:Type}(enc:TypeId×Value->H):(OpenSpec.ofChange Rows.handicapRoundsSpec).bare.sizedB enc prog Tryz.f6 false ((W7 os).forCall (fun _ _=>0) ⟨#[],B0,[]⟩).memory B0 8=true:=by kernel_rfl
end HandicapRounds
end Go.Proofs.YtipkapecgjpnlaaGreatDoor
