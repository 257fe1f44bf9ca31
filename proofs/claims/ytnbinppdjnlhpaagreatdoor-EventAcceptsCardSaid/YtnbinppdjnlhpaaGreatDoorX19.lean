import Derived.Test.YtnbinppdjnlhpaaGreatDoorX15
import Derived.Test.YtnbinppdjnlhpaaGreatDoorX17
import Derived.Test.YtnbinppdjnlhpaaGreatDoorX18
/- A part of a proof (no law is stated here). Made by program out of texts by AI agents. -/
namespace Go.Proofs.YtnbinppdjnlhpaaGreatDoor
open Go Go.RowKit Go.ChangeShapes Go.WideShapes Go.ChangeAt Go.Det Go.Pe
open Go.Proofs.Tryz (prog)
namespace EventAccepts
theorem eP:Ps prog 9 [78,80]=some Fj.ins:=by kernel_rfl
set_option maxRecDepth 100000 in
theorem VP(H:Type)(enc:TypeId×Value→H)(W:World)(base:Nat)(args:Array Value)(ds gs:List (DataW H))(before:List MemPlace)
  (hval:∀(j:Nat) t v,Tryz.f11.params[j]?=some t→args[j]?=some v→Value.okWide prog W .any base t v)
  (hW:DataW.Whole enc prog Tryz.f11.params.toList Rows.eventAcceptsSpec.vars false W args.toList ds gs before):
  Calls prog 11 args W fun e W'=>∃v,e=.returned v∧Rows.eventAcceptsSpec.post enc prog Tryz.f11 false true false false W args v W':=by
 have hW':=hW;obtain⟨p,q,hA0,hV,rfl,hfz,hnd⟩:=hW;have hA:DataW.TrodAll enc prog W 0 (fun _=>true) true Tryz.f11.params.toList args.toList ds p:=hA0;rw[Tryz.params11]at hA hval;obtain⟨x,h1,h2,h3⟩:=Rd eP (fun j t v ht hv=>hval j t v (by simpa using ht) (by simpa using hv)) hA;obtain⟨d1,d2,rfl⟩:=hH (Kj hA);exact(M8 T11.ok x rfl h1 h3 (fun F' v h=>Wd h)).mono fun e W' ⟨he,hb⟩=>⟨_,he,VB (L:=[78,90,9,88,4,80,3]) hW' rfl (by kernel_rfl) Tryz.underlying4 rfl hb (by kernel_rfl) (by kernel_rfl)⟩
end EventAccepts
end Go.Proofs.YtnbinppdjnlhpaaGreatDoor
