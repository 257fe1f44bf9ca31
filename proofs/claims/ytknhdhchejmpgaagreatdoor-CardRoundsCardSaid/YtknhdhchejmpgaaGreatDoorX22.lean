import Derived.Test.YtknhdhchejmpgaaGreatDoorX19
import Derived.Test.YtknhdhchejmpgaaGreatDoorX20
import Derived.Test.YtknhdhchejmpgaaGreatDoorX21
/- CardRounds returns true for every input, and each argument reads afterwards as it read before; the listed tables of the library are laid. Made by program out of texts by AI agents. -/
/- CardRounds: the row, the card. -/
namespace Go.Proofs.YtknhdhchejmpgaaGreatDoor
open Go Go.RowKit Go.ChangeShapes Go.WideShapes Go.ChangeAt Go.Det Go.Pe
open Go.Proofs.Tryz (prog)
namespace CardRounds
set_option maxRecDepth 100000 in
theorem lifted(os:Os)(started:os.Started)(H:Type)(enc:TypeId×Value->H)(F:Stop.Interp):
  ReturnsInHanded {} Tryz.checked os 6 .any ((OpenSpec.ofChange Rows.cardRoundsSpec).preRow enc prog Tryz.f6 Rows.cardRoundsRow.domain false Rows.cardRoundsRow.laid) (((OpenSpec.ofChange Rows.cardRoundsSpec).at F).post enc prog Tryz.f6 false true false false):=by
 obtain⟨places,hx⟩:=reads os enc;refine returnsInHanded_of_row (C:=Tryz.checked) (s:=OpenSpec.ofChange Rows.cardRoundsSpec) vN started Wn Tryz.func6
  (Mv (enc:=enc) (C:=Tryz.checked) (W7 os) D4 (World.laidAll_os _ _ _) (World.shaped_of_ZipB (a1 os) (a2 os)) (a3 os)
   (OpenSpec.preRow_of_cond 8 hx (by kernel_rfl) (fun k hk=>by cases hk) (a4 os enc) (TK os _))) ?_
 intro W base args ds gs before hval hW _ _ _ hl hs _;exact OV H enc W base args ds gs before hval hW (pN hl hs)
theorem said:Rows.CardRoundsSaid:=
 OpenClaim.holds_of_cond 6 Tryz.f6 rfl rfl rfl rfl rfl rfl rfl ⟨rfl,rfl,rfl,rfl,rfl⟩ rfl rfl rfl rfl rfl funcNamed Tryz.func6 closed JN LO
  (fun os started H enc _ F=>by rw[OpenClaim.pre_eq_preRow];exact lifted os started H enc F)
theorem plain(f:FuncId)(fn:Func)(hf:Tryz.pinned.checked.prog.funcNamed Rows.cardRoundsRow.func=some f)(hfn:Tryz.pinned.checked.prog.funcs[f]?=some fn):
  true=Tryz.pinned.checked.prog.looks []/\∀(j:Nat) t,fn.params[j]?=some t->Tryz.pinned.checked.prog.wantsStandIn t=false:=by
 obtain rfl:f=6:=Option.some.inj (funcNamed.symm.trans hf)|>.symm
 obtain rfl:fn=Tryz.f6:=(Option.some.inj (Tryz.func6.symm.trans hfn)).symm;refine⟨R7.looks,fun j t ht=>?_⟩;rw[Tryz.params6]at ht;have hm:t∈[22,22]:=by simpa using Array.mem_of_getElem? ht
 exact(show prog.wantsStandIn t=false by simpa using List.all_eq_true.1 SL t hm)
theorem aW:Rows.CardRoundsCardSaid:=
 Claim7.holds_tied_plain_at .later [] _ _ _ _ said (fun _ h=>by cases h) V7 (fun _ h=>by cases h) cardRounds_row_tie rfl ⟨rfl,rfl⟩ R7.mainIs rfl plain goes
end CardRounds
theorem cardRounds_holds:Rows.CardRoundsCardSaid:=CardRounds.aW
#print axioms cardRounds_holds
end Go.Proofs.YtknhdhchejmpgaaGreatDoor
