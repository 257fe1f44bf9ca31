import Derived.Test.YtnbinppdjnlhpaaGreatDoorX16
import Derived.Test.YtnbinppdjnlhpaaGreatDoorX18
import Derived.Test.YtnbinppdjnlhpaaGreatDoorX19
/- A part of a proof (no law is stated here). Made by program out of texts by AI agents. -/
namespace Go.Proofs.YtnbinppdjnlhpaaGreatDoor
open Go Go.RowKit Go.ChangeShapes Go.WideShapes Go.ChangeAt Go.Det Go.Pe
open Go.Proofs.Tryz (prog)
namespace EventSelected
theorem jS:P2 prog 9 [78,80,81]=some DR.ins:=by kernel_rfl
set_option maxRecDepth 100000 in
theorem WO(H:Type)(enc:TypeId×Value→H)(W:World)(base:Nat)(args:Array Value)(ds gs:List (DataW H))(before:List MemPlace)
  (hval:∀(j:Nat) t v,Tryz.f8.params[j]?=some t→args[j]?=some v→Value.okWide prog W .any base t v)
  (hW:DataW.Whole enc prog Tryz.f8.params.toList Rows.eventSelectedSpec.vars false W args.toList ds gs before):
  Calls prog 8 args W fun e W'=>∃v,e=.returned v∧Rows.eventSelectedSpec.post enc prog Tryz.f8 false true false false W args v W':=by
 have hW':=hW;obtain⟨p,q,hA0,hV,rfl,hfz,hnd⟩:=hW;have hA:DataW.TrodAll enc prog W 0 (fun _=>true) true Tryz.f8.params.toList args.toList ds p:=hA0;rw[Tryz.params8]at hA hval;obtain⟨x,h1,h2,h3⟩:=Rp jS (fun j t v ht hv=>hval j t v (by simpa using ht) (by simpa using hv)) hA;obtain⟨d1,d2,d3,rfl⟩:=mD (KP hA);exact(Mc T8.ok x rfl h1 h3 (fun F' v h=>XS h)).mono fun e W' ⟨he,hb⟩=>⟨_,he,U8 (L:=[78,90,9,88,4,80,3,81]) hW' rfl (by kernel_rfl) Tryz.underlying4 rfl hb (by kernel_rfl) (by kernel_rfl)⟩
end EventSelected
end Go.Proofs.YtnbinppdjnlhpaaGreatDoor
