import Derived.Test.YtlohiljbghionaaGreatDoorX19
import Derived.Test.YtlohiljbghionaaGreatDoorX20
/- A part of a proof; no law is stated here. -/
namespace Go.Proofs.YtlohiljbghionaaGreatDoor
open Go Go.RowKit Go.ChangeShapes Go.WideShapes Go.ChangeAt Go.Det Go.Pe
open Go.Proofs.Tryz (prog)
namespace RatingHoles
theorem Ab0:S4 prog 9 [26,52]=some Mq.ins:=by kernel_rfl
set_option maxRecDepth 100000 in
theorem lT(H:Type)(enc:TypeId×Value->H)(W:World)(base:Nat)(args:Array Value)(ds k:List (DataW H))(a:List MemPlace)
  (b:∀(j:Nat) t v,Tryz.f5.params[j]?=some t->args[j]?=some v->Value.okWide prog W .any base t v)
  (hW:DataW.Whole enc prog Tryz.f5.params.toList Rows.ratingHolesSpec.vars false W args.toList ds k a) (f:GW W)
  (c:(DataW.weightsEach prog (Tryz.f5.params.toList++(OpenSpec.ofChange Rows.ratingHolesSpec).bare.plain.varTypes prog)<|ds++k).all (· <=reachBytes)=true):
  Calls prog 5 args W fun e l=>∃v,e=.returned v/\Rows.ratingHolesSpec.post enc prog Tryz.f5 false true false false W args v l:=by
 have i:=hW;obtain⟨p,q,g,z,rfl,u,w⟩:=hW;have d:DataW.TrodAll enc prog W 0 (fun _=>true) true Tryz.f5.params.toList args.toList ds p:=g;rw[Tryz.params5]at d b c;obtain⟨x,h1,h2,h3⟩:=Sk Ab0 (fun j t v o s=>b j t v (by simpa using o)<|by simpa using s) d ag<|fun n r=>w6<|List.all_eq_true.1 c n<|AdS (I9 d).symm r;obtain⟨d1,d2,rfl⟩:=AdI<|I9 d;exact(QF T5.ok x (AfO h2.2) f h1 h3<|fun F' v h=>lL h).mono fun e l ⟨m,y⟩=>⟨_,m,bN (L:=[26,52,31,22,23,24,71,81,27,9,3,79,69,83,28,29,91,102]) i rfl ag Tryz.underlying4 rfl y ag ag⟩
end RatingHoles
end Go.Proofs.YtlohiljbghionaaGreatDoor
