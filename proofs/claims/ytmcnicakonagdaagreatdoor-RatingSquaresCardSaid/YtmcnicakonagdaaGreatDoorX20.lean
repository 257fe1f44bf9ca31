import Derived.Test.YtmcnicakonagdaaGreatDoorX16
import Derived.Test.YtmcnicakonagdaaGreatDoorX18
import Derived.Test.YtmcnicakonagdaaGreatDoorX19
/- A part of a proof (no law is stated here). Made by program out of texts by AI agents. -/
namespace Go.Proofs.YtmcnicakonagdaaGreatDoor
open Go Go.RowKit Go.ChangeShapes Go.WideShapes Go.ChangeAt Go.Det Go.Pe
open Go.Proofs.Tryz (prog)
namespace RatingSquares
theorem xV:RH prog 9 [22,23,23]=some IS.ins:=by kernel_rfl
set_option maxRecDepth 100000 in
theorem dI(H:Type)(enc:TypeId×Value->H)(W:World)(base:Nat)(args:Array Value)(ds gs:List (DataW H))(before:List MemPlace)
  (hval:∀(j:Nat) t v,Tryz.f4.params[j]?=some t->args[j]?=some v->Value.okWide prog W .any base t v)
  (hW:DataW.Whole enc prog Tryz.f4.params.toList Rows.ratingSquaresSpec.vars false W args.toList ds gs before) (hgw:GW W):
  Calls prog 4 args W fun e W'=>∃v,e=.returned v/\Rows.ratingSquaresSpec.post enc prog Tryz.f4 false true false false W args v W':=by
 have hW':=hW;obtain⟨p,q,hA0,hV,rfl,hfz,hnd⟩:=hW;have hA:DataW.TrodAll enc prog W 0 (fun _=>true) true Tryz.f4.params.toList args.toList ds p:=hA0;rw[Tryz.params4]at hA hval;obtain⟨x,h1,h2,h3⟩:=UH xV (fun j t v ht hv=>hval j t v (by simpa using ht) (by simpa using hv)) hA;obtain⟨d1,d2,d3,rfl⟩:=Aak (M9 hA);exact(N1 T4.ok x (Abe h2) hgw h1 h3 (fun F' v h=>jG h)).mono fun e W' ⟨he,hb⟩=>⟨_,he,ZO (L:=[22,26,23]) hW' rfl (by kernel_rfl) Tryz.underlying4 rfl hb (by kernel_rfl) (by kernel_rfl)⟩
end RatingSquares
end Go.Proofs.YtmcnicakonagdaaGreatDoor
