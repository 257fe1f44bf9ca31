import Derived.Test.YtknhdhchejmpgaaGreatDoorX20
import Derived.Test.YtknhdhchejmpgaaGreatDoorX21
import Derived.Test.YtknhdhchejmpgaaGreatDoorX22
/- CardSums returns true for every input, and each argument reads afterwards as it read before; the listed tables of the library are laid. Made by program out of texts by AI agents. -/
/- CardSums: the row, the card. -/
namespace Go.Proofs.YtknhdhchejmpgaaGreatDoor
open Go Go.RowKit Go.ChangeShapes Go.WideShapes Go.ChangeAt Go.Det Go.Pe
open Go.Proofs.Tryz (prog)
namespace CardSums
set_option maxRecDepth 100000 in
theorem lifted(os:Os)(started:os.Started)(H:Type)(enc:TypeId×Value->H)(F:Stop.Interp):
  ReturnsInHanded {} Tryz.checked os 15 .any ((OpenSpec.ofChange Rows.cardSumsSpec).preRow enc prog Tryz.f15 Rows.cardSumsRow.domain false Rows.cardSumsRow.laid) (((OpenSpec.ofChange Rows.cardSumsSpec).at F).post enc prog Tryz.f15 false true false false):=by
 obtain⟨places,hx⟩:=reads os enc;refine returnsInHanded_of_row (C:=Tryz.checked) (s:=OpenSpec.ofChange Rows.cardSumsSpec) AaP started wM Tryz.func15
  (T6 (enc:=enc) (C:=Tryz.checked) (W7 os) KL (World.laidAll_os _ _ _) (World.shaped_of_ZipB (a1 os) (a2 os)) (a3 os)
   (OpenSpec.preRow_of_cond 8 hx (by kernel_rfl) (fun k hk=>by cases hk) (a4 os enc) (eR os _))) ?_
 intro W base args ds gs before hval hW _ _ _ hl hs _;exact fO H enc W base args ds gs before hval hW (xT hl hs)
theorem said:Rows.CardSumsSaid:=
 OpenClaim.holds_of_cond 15 Tryz.f15 rfl rfl rfl rfl rfl rfl rfl ⟨rfl,rfl,rfl,rfl,rfl⟩ rfl rfl rfl rfl rfl funcNamed Tryz.func15 closed WN Y4
  (fun os started H enc _ F=>by rw[OpenClaim.pre_eq_preRow];exact lifted os started H enc F)
theorem plain(f:FuncId)(fn:Func)(hf:Tryz.pinned.checked.prog.funcNamed Rows.cardSumsRow.func=some f)(hfn:Tryz.pinned.checked.prog.funcs[f]?=some fn):
  true=Tryz.pinned.checked.prog.looks []/\∀(j:Nat) t,fn.params[j]?=some t->Tryz.pinned.checked.prog.wantsStandIn t=false:=by
 obtain rfl:f=15:=Option.some.inj (funcNamed.symm.trans hf)|>.symm
 obtain rfl:fn=Tryz.f15:=(Option.some.inj (Tryz.func15.symm.trans hfn)).symm;refine⟨R7.looks,fun j t ht=>?_⟩;rw[Tryz.params15]at ht;have hm:t∈[70,70,3]:=by simpa using Array.mem_of_getElem? ht
 exact(show prog.wantsStandIn t=false by simpa using List.all_eq_true.1 mQ t hm)
theorem zS:Rows.CardSumsCardSaid:=
 Claim7.holds_tied_plain_at .later [] _ _ _ _ said (fun _ h=>by cases h) wN (fun _ h=>by cases h) cardSums_row_tie rfl ⟨rfl,rfl⟩ R7.mainIs rfl plain goes
end CardSums
theorem cardSums_holds:Rows.CardSumsCardSaid:=CardSums.zS
#print axioms cardSums_holds
end Go.Proofs.YtknhdhchejmpgaaGreatDoor
