import Derived.Test.YtknhdhchejmpgaaGreatDoorX16
import Derived.Test.YtknhdhchejmpgaaGreatDoorX18
import Derived.Test.YtknhdhchejmpgaaGreatDoorX19
/- A part of a proof (no law is stated here). Made by program out of texts by AI agents. -/
namespace Go.Proofs.YtknhdhchejmpgaaGreatDoor
open Go Go.RowKit Go.ChangeShapes Go.WideShapes Go.ChangeAt Go.Det Go.Pe
open Go.Proofs.Tryz (prog)
namespace CardSums
theorem uP:RM prog 9 [70,70,3]=some ZW.ins:=by kernel_rfl
set_option maxRecDepth 100000 in
theorem fO(H:Type)(enc:TypeId×Value->H)(W:World)(base:Nat)(args:Array Value)(ds gs:List (DataW H))(before:List MemPlace)
  (hval:∀(j:Nat) t v,Tryz.f15.params[j]?=some t->args[j]?=some v->Value.okWide prog W .any base t v)
  (hW:DataW.Whole enc prog Tryz.f15.params.toList Rows.cardSumsSpec.vars false W args.toList ds gs before) (hgw:GW W):
  Calls prog 15 args W fun e W'=>∃v,e=.returned v/\Rows.cardSumsSpec.post enc prog Tryz.f15 false true false false W args v W':=by
 have hW':=hW;obtain⟨p,q,hA0,hV,rfl,hfz,hnd⟩:=hW;have hA:DataW.TrodAll enc prog W 0 (fun _=>true) true Tryz.f15.params.toList args.toList ds p:=hA0;rw[Tryz.params15]at hA hval;obtain⟨x,h1,h2,h3⟩:=UB uP (fun j t v ht hv=>hval j t v (by simpa using ht) (by simpa using hv)) hA;obtain⟨d1,d2,d3,rfl⟩:=yJ (Mo hA);exact(NN T15.ok x (yN h2) hgw h1 h3 (fun F' v h=>cU h)).mono fun e W' ⟨he,hb⟩=>⟨_,he,Zd (L:=[70,95,3,22]) hW' rfl (by kernel_rfl) Tryz.underlying4 rfl hb (by kernel_rfl) (by kernel_rfl)⟩
end CardSums
end Go.Proofs.YtknhdhchejmpgaaGreatDoor
