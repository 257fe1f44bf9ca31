import Derived.Test.YtipkapecgjpnlaaGreatDoorX23
import Derived.Test.YtipkapecgjpnlaaGreatDoorX17
import Derived.Test.YtipkapecgjpnlaaGreatDoorX18
/- A part of a proof; no law is stated here. -/
namespace Go.Proofs.YtipkapecgjpnlaaGreatDoor
open Go Go.RowKit Go.ChangeShapes Go.WideShapes Go.ChangeAt Go.Det Go.Pe
open Go.Proofs.Tryz (prog)
namespace HandicapMerges
theorem VZ:Ps prog 9 [22,22,25]=some Ni.ins:=by kernel_rfl
set_option maxRecDepth 100000 in
theorem PZ(H:Type)(enc:TypeId×Value->H)(W:World)(base:Nat)(args:Array Value)(ds k:List (DataW H))(a:List MemPlace)
  (b:∀(j:Nat) t v,Tryz.f4.params[j]?=some t->args[j]?=some v->Value.okWide prog W .any base t v)
  (hW:DataW.Whole enc prog Tryz.f4.params.toList Rows.handicapMergesSpec.vars false W args.toList ds k a) (g:GW W)
  (c:(DataW.weightsEach prog (Tryz.f4.params.toList++(OpenSpec.ofChange Rows.handicapMergesSpec).bare.plain.varTypes prog)<|ds++k).all (· <=reachBytes)=true):
  Calls prog 4 args W fun e l=>∃v,e=.returned v/\Rows.handicapMergesSpec.post enc prog Tryz.f4 false true false false W args v l:=by
 have f:=hW;obtain⟨p,q,i,z,rfl,u,w⟩:=hW;have d:DataW.TrodAll enc prog W 0 (fun _=>true) true Tryz.f4.params.toList args.toList ds p:=i;rw[Tryz.params4]at d b c;obtain⟨x,h1,h2,h3⟩:=Lx VZ (fun j t v y r=>b j t v (by simpa using y)<|by simpa using r) d ag<|fun n s=>w6<|List.all_eq_true.1 c n<|wO (EJ d).symm s;obtain⟨d1,d2,d3,rfl⟩:=AbG<|EJ d;exact(IE Yo T4.ok x (AcU h2.2) g h1 h3<|fun F' v h=>UB h).mono fun e l ⟨m,o⟩=>⟨_,m,Rb (L:=[22,25,24,23,9,3]) f rfl ag Tryz.underlying4 rfl o ag ag⟩
end HandicapMerges
end Go.Proofs.YtipkapecgjpnlaaGreatDoor
