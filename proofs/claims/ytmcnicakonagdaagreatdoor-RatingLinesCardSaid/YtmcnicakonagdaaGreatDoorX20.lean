import Derived.Test.YtmcnicakonagdaaGreatDoorX16
import Derived.Test.YtmcnicakonagdaaGreatDoorX18
import Derived.Test.YtmcnicakonagdaaGreatDoorX19
/- A part of a proof (no law is stated here). Made by program out of texts by AI agents. -/
namespace Go.Proofs.YtmcnicakonagdaaGreatDoor
open Go Go.RowKit Go.ChangeShapes Go.WideShapes Go.ChangeAt Go.Det Go.Pe
open Go.Proofs.Tryz (prog)
namespace RatingLines
theorem vX:So prog 9 [22,23,23]=some Lj.ins:=by kernel_rfl
set_option maxRecDepth 100000 in
theorem cK(H:Type)(enc:TypeId×Value->H)(W:World)(base:Nat)(args:Array Value)(ds gs:List (DataW H))(before:List MemPlace)
  (hval:∀(j:Nat) t v,Tryz.f3.params[j]?=some t->args[j]?=some v->Value.okWide prog W .any base t v)
  (hW:DataW.Whole enc prog Tryz.f3.params.toList Rows.ratingLinesSpec.vars false W args.toList ds gs before) (hgw:GW W):
  Calls prog 3 args W fun e W'=>∃v,e=.returned v/\Rows.ratingLinesSpec.post enc prog Tryz.f3 false true false false W args v W':=by
 have hW':=hW;obtain⟨p,q,hA0,hV,rfl,hfz,hnd⟩:=hW;have hA:DataW.TrodAll enc prog W 0 (fun _=>true) true Tryz.f3.params.toList args.toList ds p:=hA0;rw[Tryz.params3]at hA hval;obtain⟨x,h1,h2,h3⟩:=US vX (fun j t v ht hv=>hval j t v (by simpa using ht) (by simpa using hv)) hA;obtain⟨d1,d2,d3,rfl⟩:=xO (Mp hA);exact(NN T3.ok x rfl hgw h1 h3 (fun F' v h=>fQ h)).mono fun e W' ⟨he,hb⟩=>⟨_,he,Zo (L:=[22,26,23]) hW' rfl (by kernel_rfl) Tryz.underlying4 rfl hb (by kernel_rfl) (by kernel_rfl)⟩
end RatingLines
end Go.Proofs.YtmcnicakonagdaaGreatDoor
