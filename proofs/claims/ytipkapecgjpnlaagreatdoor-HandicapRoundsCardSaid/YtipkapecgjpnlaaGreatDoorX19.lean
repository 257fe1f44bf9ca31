import Derived.Test.YtipkapecgjpnlaaGreatDoorX18
import Derived.Test.YtipkapecgjpnlaaGreatDoorX12
import Derived.Test.YtipkapecgjpnlaaGreatDoorX13
/- A part of a proof; no law is stated here. -/
namespace Go.Proofs.YtipkapecgjpnlaaGreatDoor
open Go Go.RowKit Go.ChangeShapes Go.WideShapes Go.ChangeAt Go.Det Go.Pe
open Go.Proofs.Tryz (prog)
namespace HandicapRounds
theorem M6:Jh prog 9 [53,56,3]=some Hr.ins:=by kernel_rfl
set_option maxRecDepth 100000 in
theorem HT(H:Type)(enc:TypeId×Value->H)(W:World)(base:Nat)(args:Array Value)(ds k:List (DataW H))(a:List MemPlace)
  (b:∀(j:Nat) t v,Tryz.f6.params[j]?=some t->args[j]?=some v->Value.okWide prog W .any base t v)
  (hW:DataW.Whole enc prog Tryz.f6.params.toList Rows.handicapRoundsSpec.vars false W args.toList ds k a) (g:GW W)
  (c:(DataW.weightsEach prog (Tryz.f6.params.toList++(OpenSpec.ofChange Rows.handicapRoundsSpec).bare.plain.varTypes prog)<|ds++k).all (· <=reachBytes)=true):
  Calls prog 6 args W fun e l=>∃v,e=.returned v/\Rows.handicapRoundsSpec.post enc prog Tryz.f6 false true false false W args v l:=by
 have f:=hW;obtain⟨p,q,i,y,rfl,u,r⟩:=hW;have d:DataW.TrodAll enc prog W 0 (fun _=>true) true Tryz.f6.params.toList args.toList ds p:=i;rw[Tryz.params6]at d b c;obtain⟨x,h1,h2,h3⟩:=GJ M6 (fun j t v m o=>b j t v (by simpa using m)<|by simpa using o) d ac<|fun n w=>w6<|List.all_eq_true.1 c n<|V7 (Cu d).symm w;obtain⟨d1,d2,d3,rfl⟩:=UW<|Cu d;exact(EI T6.ok x rfl g h1 h3 (fun F' v h=>Lj h)).mono fun e l ⟨he,s⟩=>⟨_,he,JN (L:=[53,56,3,84,83,55,9,54,58,57]) f rfl ac Tryz.underlying4 rfl s ac ac⟩
end HandicapRounds
end Go.Proofs.YtipkapecgjpnlaaGreatDoor
