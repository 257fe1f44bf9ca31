import Derived.Test.YtknhdhchejmpgaaGreatDoorX16
import Derived.Test.YtknhdhchejmpgaaGreatDoorX18
import Derived.Test.YtknhdhchejmpgaaGreatDoorX19
import Derived.Test.YtknhdhchejmpgaaGreatDoorX15
/- A part of a proof (no law is stated here). Made by program out of texts by AI agents. -/
namespace Go.Proofs.YtknhdhchejmpgaaGreatDoor
open Go Go.RowKit Go.ChangeShapes Go.WideShapes Go.ChangeAt Go.Det Go.Pe
open Go.Proofs.Tryz (prog)
namespace CardNearest
theorem VJ:NV prog 9 [22,22,3]=some Q5.ins:=by kernel_rfl
set_option maxRecDepth 100000 in
theorem Nw(H:Type)(enc:TypeId×Value→H)(W:World)(base:Nat)(args:Array Value)(ds gs:List (DataW H))(before:List MemPlace)
  (hval:∀(j:Nat) t v,Tryz.f7.params[j]?=some t→args[j]?=some v→Value.okWide prog W .any base t v)
  (hW:DataW.Whole enc prog Tryz.f7.params.toList Rows.cardNearestSpec.vars false W args.toList ds gs before) (hgw:GW W):
  Calls prog 7 args W fun e W'=>∃v,e=.returned v∧Rows.cardNearestSpec.post enc prog Tryz.f7 false true false false W args v W':=by
 have hW':=hW;obtain⟨p,q,hA0,hV,rfl,hfz,hnd⟩:=hW;have hA:DataW.TrodAll enc prog W 0 (fun _=>true) true Tryz.f7.params.toList args.toList ds p:=hA0;rw[Tryz.params7]at hA hval;obtain⟨x,h1,h2,h3⟩:=NM VJ (fun j t v ht hv=>hval j t v (by simpa using ht) (by simpa using hv)) hA;obtain⟨d1,d2,d3,rfl⟩:=oL (Ht hA);exact(HO T7.ok x (xW h2) hgw h1 h3 (fun F' v h=>TM h)).mono fun e W' ⟨he,hb⟩=>⟨_,he,Qf (L:=[22,3]) hW' rfl (by kernel_rfl) Tryz.underlying4 rfl hb (by kernel_rfl) (by kernel_rfl)⟩
end CardNearest
end Go.Proofs.YtknhdhchejmpgaaGreatDoor
