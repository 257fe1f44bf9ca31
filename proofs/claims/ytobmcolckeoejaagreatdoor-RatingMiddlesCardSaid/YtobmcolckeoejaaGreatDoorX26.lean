import Derived.Test.YtobmcolckeoejaaGreatDoorX25
import Derived.Test.YtobmcolckeoejaaGreatDoorX18
import Derived.Test.YtobmcolckeoejaaGreatDoorX19
/- A part of a proof; no law is stated here. -/
namespace Go.Proofs.YtobmcolckeoejaaGreatDoor
open Go Go.RowKit Go.ChangeShapes Go.WideShapes Go.ChangeAt Go.Det Go.Pe
open Go.Proofs.Tryz (prog)
namespace RatingMiddles
theorem X5:Q0 prog 9 [22,24]=some QZ.ins:=by kernel_rfl
set_option maxRecDepth 100000 in
theorem P4(H:Type)(enc:TypeId×Value->H)(W:World)(base:Nat)(args:Array Value)(ds k:List (DataW H))(a:List MemPlace)
  (b:∀(j:Nat) t v,Tryz.f4.params[j]?=some t->args[j]?=some v->Value.okWide prog W .any base t v)
  (hW:DataW.Whole enc prog Tryz.f4.params.toList Rows.ratingMiddlesSpec.vars false W args.toList ds k a) (g:GW W)
  (c:(DataW.weightsEach prog (Tryz.f4.params.toList++(OpenSpec.ofChange Rows.ratingMiddlesSpec).bare.plain.varTypes prog)<|ds++k).all (· <=reachBytes)=true):
  Calls prog 4 args W fun e l=>∃v,e=.returned v/\Rows.ratingMiddlesSpec.post enc prog Tryz.f4 false true false false W args v l:=by
 have i:=hW;obtain⟨p,q,f,z,rfl,s,m⟩:=hW;have d:DataW.TrodAll enc prog W 0 (fun _=>true) true Tryz.f4.params.toList args.toList ds p:=f;rw[Tryz.params4]at d b c;obtain⟨x,h1,h2,h3⟩:=MK X5 (fun j t v r u=>b j t v (by simpa using r)<|by simpa using u) d ag<|fun n w=>w6<|List.all_eq_true.1 c n<|Adh (EZ d).symm w;obtain⟨d1,d2,rfl⟩:=AeN<|EZ d;exact(Jc ZJ T4.ok x rfl g h1 h3 (fun F' v h=>V2 h)).mono fun e l ⟨o,y⟩=>⟨_,o,R0 (L:=[22,24]) i rfl ag Tryz.underlying4 rfl y ag ag⟩
end RatingMiddles
end Go.Proofs.YtobmcolckeoejaaGreatDoor
