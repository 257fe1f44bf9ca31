import Derived.Test.YtlohiljbghionaaGreatDoorX19
import Derived.Test.YtlohiljbghionaaGreatDoorX20
/- A part of a proof; no law is stated here. -/
namespace Go.Proofs.YtlohiljbghionaaGreatDoor
open Go Go.RowKit Go.ChangeShapes Go.WideShapes Go.ChangeAt Go.Det Go.Pe
open Go.Proofs.Tryz (prog)
namespace RatingReaches
theorem Abh:SE prog 9 [26,52]=some I2.ins:=by kernel_rfl
set_option maxRecDepth 100000 in
theorem lP(H:Type)(enc:TypeId×Value->H)(W:World)(base:Nat)(args:Array Value)(ds l:List (DataW H))(a:List MemPlace)
  (b:∀(j:Nat) t v,Tryz.f6.params[j]?=some t->args[j]?=some v->Value.okWide prog W .any base t v)
  (hW:DataW.Whole enc prog Tryz.f6.params.toList Rows.ratingReachesSpec.vars false W args.toList ds l a) (i:GW W)
  (c:(DataW.weightsEach prog (Tryz.f6.params.toList++(OpenSpec.ofChange Rows.ratingReachesSpec).bare.plain.varTypes prog)<|ds++l).all (· <=reachBytes)=true):
  Calls prog 6 args W fun e k=>∃v,e=.returned v/\Rows.ratingReachesSpec.post enc prog Tryz.f6 false true false false W args v k:=by
 have g:=hW;obtain⟨p,q,f,z,rfl,w,u⟩:=hW;have d:DataW.TrodAll enc prog W 0 (fun _=>true) true Tryz.f6.params.toList args.toList ds p:=f;rw[Tryz.params6]at d b c;obtain⟨x,h1,h2,h3⟩:=Rf Abh (fun j t v s o=>b j t v (by simpa using s)<|by simpa using o) d ag<|fun n m=>w6<|List.all_eq_true.1 c n<|AdA (Iu d).symm m;obtain⟨d1,d2,rfl⟩:=Adv<|Iu d;exact(QB T6.ok x (Aei h2.2) i h1 h3<|fun F' v h=>pJ h).mono fun e k ⟨y,r⟩=>⟨_,y,dM (L:=[26,52,31,22,23,24,71,81,27,9,3,79,69,83,28,29,91,102]) g rfl ag Tryz.underlying4 rfl r ag ag⟩
end RatingReaches
end Go.Proofs.YtlohiljbghionaaGreatDoor
