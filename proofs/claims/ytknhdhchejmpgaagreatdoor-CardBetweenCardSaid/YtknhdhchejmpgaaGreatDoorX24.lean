import Derived.Test.YtknhdhchejmpgaaGreatDoorX23
import Derived.Test.YtknhdhchejmpgaaGreatDoorX17
import Derived.Test.YtknhdhchejmpgaaGreatDoorX18
import Derived.Test.YtknhdhchejmpgaaGreatDoorX15
/- A part of a proof (no law is stated here). Made by program out of texts by AI agents. -/
namespace Go.Proofs.YtknhdhchejmpgaaGreatDoor
open Go Go.RowKit Go.ChangeShapes Go.WideShapes Go.ChangeAt Go.Det Go.Pe
open Go.Proofs.Tryz (prog)
namespace CardBetween
theorem WI:N0 prog 9 [47,5,5]=some Rp.ins:=by kernel_rfl
set_option maxRecDepth 100000 in
theorem OV(H:Type)(enc:TypeId×Value->H)(W:World)(base:Nat)(args:Array Value)(ds gs:List (DataW H))(before:List MemPlace)
  (hval:∀(j:Nat) t v,Tryz.f9.params[j]?=some t->args[j]?=some v->Value.okWide prog W .any base t v)
  (hW:DataW.Whole enc prog Tryz.f9.params.toList Rows.cardBetweenSpec.vars false W args.toList ds gs before) (hgw:GW W):
  Calls prog 9 args W fun e W'=>∃v,e=.returned v/\Rows.cardBetweenSpec.post enc prog Tryz.f9 false true false false W args v W':=by
 have hW':=hW;obtain⟨p,q,hA0,hV,rfl,hfz,hnd⟩:=hW;have hA:DataW.TrodAll enc prog W 0 (fun _=>true) true Tryz.f9.params.toList args.toList ds p:=hA0;rw[Tryz.params9]at hA hval;obtain⟨x,h1,h2,h3⟩:=Pz WI (fun j t v ht hv=>hval j t v (by simpa using ht) (by simpa using hv)) hA;obtain⟨d1,d2,d3,rfl⟩:=vS (Ik hA);exact(H9 T9.ok x (yO h2) hgw h1 h3 (fun F' v h=>TC h)).mono fun e W' ⟨he,hb⟩=>⟨_,he,QC (L:=[47,55,22,5]) hW' rfl (by kernel_rfl) Tryz.underlying4 rfl hb (by kernel_rfl) (by kernel_rfl)⟩
end CardBetween
end Go.Proofs.YtknhdhchejmpgaaGreatDoor
