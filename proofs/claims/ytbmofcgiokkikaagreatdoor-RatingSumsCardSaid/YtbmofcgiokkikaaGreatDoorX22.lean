import Derived.Test.YtbmofcgiokkikaaGreatDoorX20
import Derived.Test.YtbmofcgiokkikaaGreatDoorX21
/- A part of a proof; no law is stated here. -/
namespace Go.Proofs.YtbmofcgiokkikaaGreatDoor
open Go Go.RowKit Go.ChangeShapes Go.WideShapes Go.ChangeAt Go.Det Go.Pe
open Go.Proofs.Tryz (prog)
namespace RatingSums
theorem AcF:T6 prog 9 [26,28]=some N0.ins:=by kernel_rfl
set_option maxRecDepth 100000 in
theorem mL(H:Type)(enc:TypeId×Value->H)(W:World)(base:Nat)(args:Array Value)(ds k:List (DataW H))(a:List MemPlace)
  (b:∀(j:Nat) t v,Tryz.f3.params[j]?=some t->args[j]?=some v->Value.okWide prog W .any base t v)
  (hW:DataW.Whole enc prog Tryz.f3.params.toList Rows.ratingSumsSpec.vars false W args.toList ds k a) (i:GW W)
  (c:(DataW.weightsEach prog (Tryz.f3.params.toList++(OpenSpec.ofChange Rows.ratingSumsSpec).bare.plain.varTypes prog)<|ds++k).all (· <=reachBytes)=true):
  Calls prog 3 args W fun e l=>∃v,e=.returned v/\Rows.ratingSumsSpec.post enc prog Tryz.f3 false true false false W args v l:=by
 have g:=hW;obtain⟨p,q,f,z,rfl,w,s⟩:=hW;have d:DataW.TrodAll enc prog W 0 (fun _=>true) true Tryz.f3.params.toList args.toList ds p:=f;rw[Tryz.params3]at d b c;obtain⟨x,h1,h2,h3⟩:=R8 AcF (fun j t v r o=>b j t v (by simpa using r)<|by simpa using o) d ag<|fun n y=>w6<|List.all_eq_true.1 c n<|Af5 (Jh d).symm y;obtain⟨d1,d2,rfl⟩:=Afk<|Jh d;exact(QS T3.ok x (Agk h2.2) i h1 h3<|fun F' v h=>rQ h).mono fun e l ⟨m,u⟩=>⟨_,m,eX (L:=[26,28,95,22,23,24,78,86,39,9,3,54,76,83,88,93,99,156]) g rfl ag Tryz.underlying4 rfl u ag ag⟩
end RatingSums
end Go.Proofs.YtbmofcgiokkikaaGreatDoor
