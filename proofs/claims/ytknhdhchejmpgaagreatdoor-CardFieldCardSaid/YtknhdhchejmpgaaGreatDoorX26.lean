import Derived.Test.YtknhdhchejmpgaaGreatDoorX23
import Derived.Test.YtknhdhchejmpgaaGreatDoorX24
import Derived.Test.YtknhdhchejmpgaaGreatDoorX25
/- CardField returns true for every input, and each argument reads afterwards as it read before; the listed tables of the library are laid. Made by program out of texts by AI agents. -/
/- CardField: the row, the card. -/
namespace Go.Proofs.YtknhdhchejmpgaaGreatDoor
open Go Go.RowKit Go.ChangeShapes Go.WideShapes Go.ChangeAt Go.Det Go.Pe
open Go.Proofs.Tryz (prog)
namespace CardField
set_option maxRecDepth 100000 in
theorem lifted(os:Os)(started:os.Started)(H:Type)(enc:TypeId×Value→H)(F:Stop.Interp):
  ReturnsInHanded {} Tryz.checked os 4 .any ((OpenSpec.ofChange Rows.cardFieldSpec).preRow enc prog Tryz.f4 Rows.cardFieldRow.domain false Rows.cardFieldRow.laid) (((OpenSpec.ofChange Rows.cardFieldSpec).at F).post enc prog Tryz.f4 false true false false):=by
 obtain⟨places,hx⟩:=reads os enc;refine returnsInHanded_of_row (C:=Tryz.checked) (s:=OpenSpec.ofChange Rows.cardFieldSpec) tP started Ul Tryz.func4
  (LF (enc:=enc) (C:=Tryz.checked) (W7 os) DR (World.laidAll_os _ _ _) (World.shaped_of_ZipB (a1 os) (a2 os)) (a3 os)
   (OpenSpec.preRow_of_cond 8 hx (by kernel_rfl) (fun k hk=>by cases hk) (a4 os enc) (TM os _))) ?_
 intro W base args ds gs before hval hW _ _ _ hl hs _;exact Ou H enc W base args ds gs before hval hW (nA hl hs)
theorem said:Rows.CardFieldSaid:=
 OpenClaim.holds_of_cond 4 Tryz.f4 rfl rfl rfl rfl rfl rfl rfl ⟨rfl,rfl,rfl,rfl,rfl⟩ rfl rfl rfl rfl rfl funcNamed Tryz.func4 closed JA Lr
  (fun os started H enc _ F=>by rw[OpenClaim.pre_eq_preRow];exact lifted os started H enc F)
theorem plain(f:FuncId)(fn:Func)(hf:Tryz.pinned.checked.prog.funcNamed Rows.cardFieldRow.func=some f)(hfn:Tryz.pinned.checked.prog.funcs[f]?=some fn):
  true=Tryz.pinned.checked.prog.looks []∧∀(j:Nat) t,fn.params[j]?=some t→Tryz.pinned.checked.prog.wantsStandIn t=false:=by
 obtain rfl:f=4:=Option.some.inj (funcNamed.symm.trans hf)|>.symm
 obtain rfl:fn=Tryz.f4:=(Option.some.inj (Tryz.func4.symm.trans hfn)).symm;refine⟨R7.looks,fun j t ht=>?_⟩;rw[Tryz.params4]at ht;have hm:t∈[22,22,22]:=by simpa using Array.mem_of_getElem? ht
 exact(show prog.wantsStandIn t=false by simpa using List.all_eq_true.1 Qp t hm)
theorem ZH:Rows.CardFieldCardSaid:=
 Claim7.holds_tied_plain_at .later [] _ _ _ _ said (fun _ h=>by cases h) Vf (fun _ h=>by cases h) cardField_row_tie rfl ⟨rfl,rfl⟩ R7.mainIs rfl plain goes
end CardField
theorem cardField_holds:Rows.CardFieldCardSaid:=CardField.ZH
#print axioms cardField_holds
end Go.Proofs.YtknhdhchejmpgaaGreatDoor
