import Derived.Test.YtlohiljbghionaaGreatDoorX17
import Derived.Test.YtlohiljbghionaaGreatDoorX19
import Derived.Test.YtlohiljbghionaaGreatDoorX20
/- A part of a proof (no law is stated here). Made by program out of texts by AI agents. -/
namespace Go.Proofs.YtlohiljbghionaaGreatDoor
open Go Go.RowKit Go.ChangeShapes Go.WideShapes Go.ChangeAt Go.Det Go.Pe
open Go.Proofs.Tryz (prog)
namespace RatingLengths
theorem Aa1:S2 prog 9 [26,52]=some I0.ins:=by kernel_rfl
set_option maxRecDepth 100000 in
theorem iS(H:Type)(enc:TypeId×Value->H)(W:World)(base:Nat)(args:Array Value)(ds l:List (DataW H))(a:List MemPlace)
  (b:∀(j:Nat) t v,Tryz.f4.params[j]?=some t->args[j]?=some v->Value.okWide prog W .any base t v)
  (hW:DataW.Whole enc prog Tryz.f4.params.toList Rows.ratingLengthsSpec.vars false W args.toList ds l a) (f:GW W)
  (c:(DataW.weightsEach prog (Tryz.f4.params.toList++(OpenSpec.ofChange Rows.ratingLengthsSpec).bare.plain.varTypes prog)<|ds++l).all (· <=reachBytes)=true):
  Calls prog 4 args W fun e k=>∃v,e=.returned v/\Rows.ratingLengthsSpec.post enc prog Tryz.f4 false true false false W args v k:=by
 have i:=hW;obtain⟨p,q,g,z,rfl,r,w⟩:=hW;have d:DataW.TrodAll enc prog W 0 (fun _=>true) true Tryz.f4.params.toList args.toList ds p:=g;rw[Tryz.params4]at d b c;obtain⟨x,h1,h2,h3⟩:=R2 Aa1 (fun j t v o m=>b j t v (by simpa using o)<|by simpa using m) d (by kernel_rfl)<|fun n y=>w6<|List.all_eq_true.1 c n<|AdN (IX d).symm y;obtain⟨d1,d2,rfl⟩:=AdI<|IX d;exact(Qr T4.ok x (Aez h2.2) f h1 h3<|fun F' v h=>mF h).mono fun e k ⟨u,s⟩=>⟨_,u,eS (L:=[26,52,31,22,23,24,71,81,27,9,3,79,69,83,28,29,91,102]) i rfl (by kernel_rfl) Tryz.underlying4 rfl s (by kernel_rfl) (by kernel_rfl)⟩
end RatingLengths
end Go.Proofs.YtlohiljbghionaaGreatDoor
