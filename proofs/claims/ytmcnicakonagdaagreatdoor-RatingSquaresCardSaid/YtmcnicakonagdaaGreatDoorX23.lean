import Derived.Test.YtmcnicakonagdaaGreatDoorX20
import Derived.Test.YtmcnicakonagdaaGreatDoorX21
import Derived.Test.YtmcnicakonagdaaGreatDoorX22
/- RatingSquares returns true for every input, and each argument reads afterwards as it read before; the listed tables of the library are laid. Made by program out of texts by AI agents. -/
/- RatingSquares: the row, the card. -/
namespace Go.Proofs.YtmcnicakonagdaaGreatDoor
open Go Go.RowKit Go.ChangeShapes Go.WideShapes Go.ChangeAt Go.Det Go.Pe
open Go.Proofs.Tryz (prog)
namespace RatingSquares
set_option maxRecDepth 100000 in
theorem lifted(os:Os)(started:os.Started)(H:Type)(enc:TypeId×Value->H)(F:Stop.Interp):
  ReturnsInHanded {} Tryz.checked os 4 .any ((OpenSpec.ofChange Rows.ratingSquaresSpec).preRow enc prog Tryz.f4 Rows.ratingSquaresRow.domain false Rows.ratingSquaresRow.laid) (((OpenSpec.ofChange Rows.ratingSquaresSpec).at F).post enc prog Tryz.f4 false true false false):=by
 obtain⟨places,hx⟩:=reads os enc;refine returnsInHanded_of_row (C:=Tryz.checked) (s:=OpenSpec.ofChange Rows.ratingSquaresSpec) AbC started vQ Tryz.func4
  (UQ (enc:=enc) (C:=Tryz.checked) (W7 os) LF (World.laidAll_os _ _ _) (World.shaped_of_ZipB (a1 os) (a2 os)) (a3 os)
   (OpenSpec.preRow_of_cond 8 hx (by kernel_rfl) (fun k hk=>by cases hk) (a4 os enc) (kG os _))) ?_
 intro W base args ds gs before hval hW _ _ _ hl hs _;exact dI H enc W base args ds gs before hval hW (Aaa hl hs)
theorem said:Rows.RatingSquaresSaid:=
 OpenClaim.holds_of_cond 4 Tryz.f4 rfl rfl rfl rfl rfl rfl rfl ⟨rfl,rfl,rfl,rfl,rfl⟩ rfl rfl rfl rfl rfl funcNamed Tryz.func4 closed W2 Zc
  (fun os started H enc _ F=>by rw[OpenClaim.pre_eq_preRow];exact lifted os started H enc F)
theorem plain(f:FuncId)(fn:Func)(hf:Tryz.pinned.checked.prog.funcNamed Rows.ratingSquaresRow.func=some f)(hfn:Tryz.pinned.checked.prog.funcs[f]?=some fn):
  true=Tryz.pinned.checked.prog.looks []/\∀(j:Nat) t,fn.params[j]?=some t->Tryz.pinned.checked.prog.wantsStandIn t=false:=by
 obtain rfl:f=4:=Option.some.inj (funcNamed.symm.trans hf)|>.symm
 obtain rfl:fn=Tryz.f4:=(Option.some.inj (Tryz.func4.symm.trans hfn)).symm;refine⟨R7.looks,fun j t ht=>?_⟩;rw[Tryz.params4]at ht;have hm:t∈[22,23,23]:=by simpa using Array.mem_of_getElem? ht
 exact(show prog.wantsStandIn t=false by simpa using List.all_eq_true.1 oF t hm)
theorem AaR:Rows.RatingSquaresCardSaid:=
 Claim7.holds_tied_plain_at .later [] _ _ _ _ said (fun _ h=>by cases h) yG (fun _ h=>by cases h) ratingSquares_row_tie rfl ⟨rfl,rfl⟩ R7.mainIs rfl plain goes
end RatingSquares
theorem ratingSquares_holds:Rows.RatingSquaresCardSaid:=RatingSquares.AaR
#print axioms ratingSquares_holds
end Go.Proofs.YtmcnicakonagdaaGreatDoor
