import Derived.Test.YtknhdhchejmpgaaGreatDoorX16
import Derived.Test.YtknhdhchejmpgaaGreatDoorX18
import Derived.Test.YtknhdhchejmpgaaGreatDoorX19
/- A part of a proof (no law is stated here). Made by program out of texts by AI agents. -/
namespace Go.Proofs.YtknhdhchejmpgaaGreatDoor
open Go Go.RowKit Go.ChangeShapes Go.WideShapes Go.ChangeAt Go.Det Go.Pe
open Go.Proofs.Tryz (prog)
namespace CardChances
theorem sK:Sy prog 9 [70,70,3]=some R1.ins:=by kernel_rfl
set_option maxRecDepth 100000 in
theorem fC(H:Type)(enc:TypeId×Value->H)(W:World)(base:Nat)(args:Array Value)(ds gs:List (DataW H))(before:List MemPlace)
  (hval:∀(j:Nat) t v,Tryz.f13.params[j]?=some t->args[j]?=some v->Value.okWide prog W .any base t v)
  (hW:DataW.Whole enc prog Tryz.f13.params.toList Rows.cardChancesSpec.vars false W args.toList ds gs before) (hgw:GW W):
  Calls prog 13 args W fun e W'=>∃v,e=.returned v/\Rows.cardChancesSpec.post enc prog Tryz.f13 false true false false W args v W':=by
 have hW':=hW;obtain⟨p,q,hA0,hV,rfl,hfz,hnd⟩:=hW;have hA:DataW.TrodAll enc prog W 0 (fun _=>true) true Tryz.f13.params.toList args.toList ds p:=hA0;rw[Tryz.params13]at hA hval;obtain⟨x,h1,h2,h3⟩:=Th sK (fun j t v ht hv=>hval j t v (by simpa using ht) (by simpa using hv)) hA;obtain⟨d1,d2,d3,rfl⟩:=wT (My hA);exact(NJ T13.ok x rfl hgw h1 h3 (fun F' v h=>gC h)).mono fun e W' ⟨he,hb⟩=>⟨_,he,YF (L:=[70,95,3,22]) hW' rfl (by kernel_rfl) Tryz.underlying4 rfl hb (by kernel_rfl) (by kernel_rfl)⟩
end CardChances
end Go.Proofs.YtknhdhchejmpgaaGreatDoor
