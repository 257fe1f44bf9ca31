import Derived.Test.YtjbmodoofdpgcaaGreatDoorX16
import Derived.Test.YtjbmodoofdpgcaaGreatDoorX17
/- A part of a proof; no law is stated here. -/
namespace Go.Proofs.YtjbmodoofdpgcaaGreatDoor
open Go Go.RowKit Go.ChangeShapes Go.WideShapes Go.ChangeAt Go.Det Go.Pe
open Go.Proofs.Tryz (prog)
namespace HandicapCourses
theorem rM:Rz prog 9 [22,24,25]=some Lq.ins:=by kernel_rfl
set_option maxRecDepth 100000 in
theorem ZJ(H:Type)(enc:TypeId×Value->H)(W:World)(base:Nat)(args:Array Value)(ds k:List (DataW H))(a:List MemPlace)
  (b:∀(j:Nat) t v,Tryz.f3.params[j]?=some t->args[j]?=some v->Value.okWide prog W .any base t v)
  (hW:DataW.Whole enc prog Tryz.f3.params.toList Rows.handicapCoursesSpec.vars false W args.toList ds k a) (f:GW W)
  (c:(DataW.weightsEach prog (Tryz.f3.params.toList++(OpenSpec.ofChange Rows.handicapCoursesSpec).bare.plain.varTypes prog)<|ds++k).all (· <=reachBytes)=true):
  Calls prog 3 args W fun e l=>∃v,e=.returned v/\Rows.handicapCoursesSpec.post enc prog Tryz.f3 false true false false W args v l:=by
 have g:=hW;obtain⟨p,q,i,z,rfl,u,r⟩:=hW;have d:DataW.TrodAll enc prog W 0 (fun _=>true) true Tryz.f3.params.toList args.toList ds p:=i;rw[Tryz.params3]at d b c;obtain⟨x,h1,h2,h3⟩:=P4 rM (fun j t v m o=>b j t v (by simpa using m)<|by simpa using o) d ag<|fun n w=>w6<|List.all_eq_true.1 c n<|uV (HS d).symm w;obtain⟨d1,d2,d3,rfl⟩:=uR<|HS d;exact(Nc gL T3.ok x rfl f h1 h3 (fun F' v h=>Y9 h)).mono fun e l ⟨y,s⟩=>⟨_,y,Xl (L:=[22,24,25,23,9,3]) g rfl ag Tryz.underlying4 rfl s ag ag⟩
end HandicapCourses
end Go.Proofs.YtjbmodoofdpgcaaGreatDoor
