import Derived.Test.YtjbmodoofdpgcabGreatDoorX12
import Derived.Test.YtjbmodoofdpgcabGreatDoorX13
/- A part of a proof; no law is stated here. -/
namespace Go.Proofs.YtjbmodoofdpgcabGreatDoor
open Go Go.RowKit Go.ChangeShapes Go.WideShapes Go.ChangeAt Go.Det Go.Pe
open Go.Proofs.Tryz (prog)
namespace EventQualifies
theorem S0:Jo prog 9 [22,3]=some Dm.ins:=by kernel_rfl
set_option maxRecDepth 100000 in
theorem PZ(H:Type)(enc:TypeId×Value->H)(W:World)(base:Nat)(args:Array Value)(ds k:List (DataW H))(a:List MemPlace)
  (b:∀(j:Nat) t v,Tryz.f3.params[j]?=some t->args[j]?=some v->Value.okWide prog W .any base t v)
  (hW:DataW.Whole enc prog Tryz.f3.params.toList Rows.eventQualifiesSpec.vars false W args.toList ds k a) (g:GW W)
  (c:(DataW.weightsEach prog (Tryz.f3.params.toList++(OpenSpec.ofChange Rows.eventQualifiesSpec).bare.plain.varTypes prog)<|ds++k).all (· <=reachBytes)=true):
  Calls prog 3 args W fun e l=>∃v,e=.returned v/\Rows.eventQualifiesSpec.post enc prog Tryz.f3 false true false false W args v l:=by
 have f:=hW;obtain⟨p,q,i,z,rfl,w,u⟩:=hW;have d:DataW.TrodAll enc prog W 0 (fun _=>true) true Tryz.f3.params.toList args.toList ds p:=i;rw[Tryz.params3]at d b c;obtain⟨x,h1,h2,h3⟩:=IE S0 (fun j t v r y=>b j t v (by simpa using r)<|by simpa using y) d ac<|fun n s=>w6<|List.all_eq_true.1 c n<|Ua (DH d).symm s;obtain⟨d1,d2,rfl⟩:=TP<|DH d;exact(H5 T3.ok x rfl g h1 h3 (fun F' v h=>Qf h)).mono fun e l ⟨m,o⟩=>⟨_,m,NC (L:=[22,3]) f rfl ac Tryz.underlying4 rfl o ac ac⟩
end EventQualifies
end Go.Proofs.YtjbmodoofdpgcabGreatDoor
