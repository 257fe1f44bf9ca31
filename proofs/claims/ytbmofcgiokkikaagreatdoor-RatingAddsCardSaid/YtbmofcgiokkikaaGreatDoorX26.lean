import Derived.Test.YtbmofcgiokkikaaGreatDoorX25
import Derived.Test.YtbmofcgiokkikaaGreatDoorX18
import Derived.Test.YtbmofcgiokkikaaGreatDoorX19
/- A part of a proof; no law is stated here. -/
namespace Go.Proofs.YtbmofcgiokkikaaGreatDoor
open Go Go.RowKit Go.ChangeShapes Go.WideShapes Go.ChangeAt Go.Det Go.Pe
open Go.Proofs.Tryz (prog)
namespace RatingAdds
theorem ZE:QG prog 9 [26,3,51]=some OX.ins:=by kernel_rfl
set_option maxRecDepth 100000 in
theorem Q2(H:Type)(enc:TypeId×Value->H)(W:World)(base:Nat)(args:Array Value)(ds l:List (DataW H))(a:List MemPlace)
  (b:∀(j:Nat) t v,Tryz.f5.params[j]?=some t->args[j]?=some v->Value.okWide prog W .any base t v)
  (hW:DataW.Whole enc prog Tryz.f5.params.toList Rows.ratingAddsSpec.vars false W args.toList ds l a) (g:GW W)
  (c:(DataW.weightsEach prog (Tryz.f5.params.toList++(OpenSpec.ofChange Rows.ratingAddsSpec).bare.plain.varTypes prog)<|ds++l).all (· <=reachBytes)=true):
  Calls prog 5 args W fun e k=>∃v,e=.returned v/\Rows.ratingAddsSpec.post enc prog Tryz.f5 false true false false W args v k:=by
 have f:=hW;obtain⟨p,q,i,z,rfl,r,m⟩:=hW;have d:DataW.TrodAll enc prog W 0 (fun _=>true) true Tryz.f5.params.toList args.toList ds p:=i;rw[Tryz.params5]at d b c;obtain⟨x,h1,h2,h3⟩:=NP ZE (fun j t v u o=>b j t v (by simpa using u)<|by simpa using o) d ag<|fun n y=>w6<|List.all_eq_true.1 c n<|AeI (FX d).symm y;obtain⟨d1,d2,d3,rfl⟩:=Adm<|FX d;exact(J1 T5.ok x (Aib h2.2) g h1 h3<|fun F' v h=>YF h).mono fun e k ⟨s,w⟩=>⟨_,s,Uk (L:=[26,51,95,22,23,24,78,86,39,9,3,54,76,83,88,93,99,156]) f rfl ag Tryz.underlying4 rfl w ag ag⟩
end RatingAdds
end Go.Proofs.YtbmofcgiokkikaaGreatDoor
