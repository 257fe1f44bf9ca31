import Derived.Test.YtjbmodoofdpgcaaGreatDoorX19
import Derived.Test.YtjbmodoofdpgcaaGreatDoorX17
import Derived.Test.YtjbmodoofdpgcaaGreatDoorX18
/- A part of a proof; no law is stated here. -/
namespace Go.Proofs.YtjbmodoofdpgcaaGreatDoor
open Go Go.RowKit Go.ChangeShapes Go.WideShapes Go.ChangeAt Go.Det Go.Pe
open Go.Proofs.Tryz (prog)
namespace HandicapFair
theorem VH:NS prog 9 [38,22,24]=some P5.ins:=by kernel_rfl
set_option maxRecDepth 100000 in
theorem Pz(H:Type)(enc:TypeId×Value->H)(W:World)(base:Nat)(args:Array Value)(ds k:List (DataW H))(a:List MemPlace)
  (b:∀(j:Nat) t v,Tryz.f5.params[j]?=some t->args[j]?=some v->Value.okWide prog W .any base t v)
  (hW:DataW.Whole enc prog Tryz.f5.params.toList Rows.handicapFairSpec.vars false W args.toList ds k a) (g:GW W)
  (c:(DataW.weightsEach prog (Tryz.f5.params.toList++(OpenSpec.ofChange Rows.handicapFairSpec).bare.plain.varTypes prog)<|ds++k).all (· <=reachBytes)=true):
  Calls prog 5 args W fun e l=>∃v,e=.returned v/\Rows.handicapFairSpec.post enc prog Tryz.f5 false true false false W args v l:=by
 have f:=hW;obtain⟨p,q,i,z,rfl,u,y⟩:=hW;have d:DataW.TrodAll enc prog W 0 (fun _=>true) true Tryz.f5.params.toList args.toList ds p:=i;rw[Tryz.params5]at d b c;obtain⟨x,h1,h2,h3⟩:=Ms VH (fun j t v o w=>b j t v (by simpa using o)<|by simpa using w) d ag<|fun n s=>w6<|List.all_eq_true.1 c n<|yO (EV d).symm s;obtain⟨d1,d2,d3,rfl⟩:=uM<|EV d;exact(Iz YI T5.ok x rfl g h1 h3 (fun F' v h=>TS h)).mono fun e l ⟨m,r⟩=>⟨_,m,QD (L:=[38,22,24,23,9,3]) f rfl ag Tryz.underlying4 rfl r ag ag⟩
end HandicapFair
end Go.Proofs.YtjbmodoofdpgcaaGreatDoor
