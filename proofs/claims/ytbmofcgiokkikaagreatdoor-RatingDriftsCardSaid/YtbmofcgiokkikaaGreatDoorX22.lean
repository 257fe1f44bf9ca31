import Derived.Test.YtbmofcgiokkikaaGreatDoorX20
import Derived.Test.YtbmofcgiokkikaaGreatDoorX21
/- A part of a proof; no law is stated here. -/
namespace Go.Proofs.YtbmofcgiokkikaaGreatDoor
open Go Go.RowKit Go.ChangeShapes Go.WideShapes Go.ChangeAt Go.Det Go.Pe
open Go.Proofs.Tryz (prog)
namespace RatingDrifts
theorem Aeg:Ty prog 9 [26,28,54]=some KS.ins:=by kernel_rfl
set_option maxRecDepth 100000 in
theorem lX(H:Type)(enc:TypeId×Value->H)(W:World)(base:Nat)(args:Array Value)(ds k:List (DataW H))(a:List MemPlace)
  (b:∀(j:Nat) t v,Tryz.f6.params[j]?=some t->args[j]?=some v->Value.okWide prog W .any base t v)
  (hW:DataW.Whole enc prog Tryz.f6.params.toList Rows.ratingDriftsSpec.vars false W args.toList ds k a) (f:GW W)
  (c:(DataW.weightsEach prog (Tryz.f6.params.toList++(OpenSpec.ofChange Rows.ratingDriftsSpec).bare.plain.varTypes prog)<|ds++k).all (· <=reachBytes)=true):
  Calls prog 6 args W fun e l=>∃v,e=.returned v/\Rows.ratingDriftsSpec.post enc prog Tryz.f6 false true false false W args v l:=by
 have g:=hW;obtain⟨p,q,i,z,rfl,u,s⟩:=hW;have d:DataW.TrodAll enc prog W 0 (fun _=>true) true Tryz.f6.params.toList args.toList ds p:=i;rw[Tryz.params6]at d b c;obtain⟨x,h1,h2,h3⟩:=S0 Aeg (fun j t v o w=>b j t v (by simpa using o)<|by simpa using w) d ag<|fun n y=>w6<|List.all_eq_true.1 c n<|Ahm (JL d).symm y;obtain⟨d1,d2,d3,rfl⟩:=Aht<|JL d;exact(QJ AaJ T6.ok x (AfA h2.2) f h1 h3<|fun F' v h=>pX h).mono fun e l ⟨m,r⟩=>⟨_,m,gT (L:=[26,28,95,22,23,24,78,86,39,9,3,54,76,83,88,93,99,156]) g rfl ag Tryz.underlying4 rfl r ag ag⟩
end RatingDrifts
end Go.Proofs.YtbmofcgiokkikaaGreatDoor
