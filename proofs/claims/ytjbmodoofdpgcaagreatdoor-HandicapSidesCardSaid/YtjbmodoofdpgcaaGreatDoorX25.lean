import Derived.Test.YtjbmodoofdpgcaaGreatDoorX24
import Derived.Test.YtjbmodoofdpgcaaGreatDoorX17
import Derived.Test.YtjbmodoofdpgcaaGreatDoorX18
/- A part of a proof; no law is stated here. -/
namespace Go.Proofs.YtjbmodoofdpgcaaGreatDoor
open Go Go.RowKit Go.ChangeShapes Go.WideShapes Go.ChangeAt Go.Det Go.Pe
open Go.Proofs.Tryz (prog)
namespace HandicapSides
theorem VH:NS prog 9 [38,38,39]=some PW.ins:=by kernel_rfl
set_option maxRecDepth 100000 in
theorem Pz(H:Type)(enc:TypeId×Value->H)(W:World)(base:Nat)(args:Array Value)(ds k:List (DataW H))(a:List MemPlace)
  (b:∀(j:Nat) t v,Tryz.f4.params[j]?=some t->args[j]?=some v->Value.okWide prog W .any base t v)
  (hW:DataW.Whole enc prog Tryz.f4.params.toList Rows.handicapSidesSpec.vars false W args.toList ds k a) (g:GW W)
  (c:(DataW.weightsEach prog (Tryz.f4.params.toList++(OpenSpec.ofChange Rows.handicapSidesSpec).bare.plain.varTypes prog)<|ds++k).all (· <=reachBytes)=true):
  Calls prog 4 args W fun e l=>∃v,e=.returned v/\Rows.handicapSidesSpec.post enc prog Tryz.f4 false true false false W args v l:=by
 have f:=hW;obtain⟨p,q,i,z,rfl,u,y⟩:=hW;have d:DataW.TrodAll enc prog W 0 (fun _=>true) true Tryz.f4.params.toList args.toList ds p:=i;rw[Tryz.params4]at d b c;obtain⟨x,h1,h2,h3⟩:=Ms VH (fun j t v o w=>b j t v (by simpa using o)<|by simpa using w) d ag<|fun n s=>w6<|List.all_eq_true.1 c n<|yO (EV d).symm s;obtain⟨d1,d2,d3,rfl⟩:=uM<|EV d;exact(Iz YI T4.ok x rfl g h1 h3 (fun F' v h=>TS h)).mono fun e l ⟨m,r⟩=>⟨_,m,QD (L:=[38,39,22,9,3]) f rfl ag Tryz.underlying4 rfl r ag ag⟩
end HandicapSides
end Go.Proofs.YtjbmodoofdpgcaaGreatDoor
