import Derived.Test.YtlohiljbghionaaGreatDoorX17
import Derived.Test.YtlohiljbghionaaGreatDoorX19
import Derived.Test.YtlohiljbghionaaGreatDoorX20
/- A part of a proof (no law is stated here). Made by program out of texts by AI agents. -/
namespace Go.Proofs.YtlohiljbghionaaGreatDoor
open Go Go.RowKit Go.ChangeShapes Go.WideShapes Go.ChangeAt Go.Det Go.Pe
open Go.Proofs.Tryz (prog)
namespace RatingCourses
theorem pV:Q0 prog 9 [26,31]=some MU.ins:=by kernel_rfl
set_option maxRecDepth 100000 in
theorem Zd(H:Type)(enc:TypeId×Value->H)(W:World)(base:Nat)(args:Array Value)(ds k:List (DataW H))(a:List MemPlace)
  (b:∀(j:Nat) t v,Tryz.f3.params[j]?=some t->args[j]?=some v->Value.okWide prog W .any base t v)
  (hW:DataW.Whole enc prog Tryz.f3.params.toList Rows.ratingCoursesSpec.vars false W args.toList ds k a) (i:GW W)
  (c:(DataW.weightsEach prog (Tryz.f3.params.toList++(OpenSpec.ofChange Rows.ratingCoursesSpec).bare.plain.varTypes prog)<|ds++k).all (· <=reachBytes)=true):
  Calls prog 3 args W fun e l=>∃v,e=.returned v/\Rows.ratingCoursesSpec.post enc prog Tryz.f3 false true false false W args v l:=by
 have f:=hW;obtain⟨p,q,g,z,rfl,y,w⟩:=hW;have d:DataW.TrodAll enc prog W 0 (fun _=>true) true Tryz.f3.params.toList args.toList ds p:=g;rw[Tryz.params3]at d b c;obtain⟨x,h1,h2,h3⟩:=Px pV (fun j t v m o=>b j t v (by simpa using m)<|by simpa using o) d (by kernel_rfl)<|fun n u=>w6<|List.all_eq_true.1 c n<|sE (H4 d).symm u;obtain⟨d1,d2,rfl⟩:=tK<|H4 d;exact(Ns T3.zC x (xG h2.2) i h1 h3<|fun F' v h=>Y8 h).mono fun e l ⟨s,r⟩=>⟨_,s,XN (L:=[26,31,22,23,24,71,81,27,9,3,79,69,83,28,29,91,102]) f rfl (by kernel_rfl) Tryz.underlying4 rfl r (by kernel_rfl) (by kernel_rfl)⟩
end RatingCourses
end Go.Proofs.YtlohiljbghionaaGreatDoor
