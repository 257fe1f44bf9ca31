import Derived.Test.YtnbinppdjnlhpaaGreatDoorX24
import Derived.Test.YtnbinppdjnlhpaaGreatDoorX29
import Derived.Test.YtnbinppdjnlhpaaGreatDoorX30
/- EventBallots returns true for every input, and each argument reads afterwards as it read before; the listed tables of the library are laid. Made by program out of texts by AI agents. -/
section
/- EventBallots: the row, the card. -/
namespace Go.Proofs.YtnbinppdjnlhpaaGreatDoor
open Go Go.RowKit Go.ChangeShapes Go.WideShapes Go.ChangeAt Go.Det Go.Pe
open Go.Proofs.Tryz (prog)
namespace EventBallots
theorem calls (W : World) (n key a b : Int) : Calls prog 3 #[.int .i64 n, .int .i64 key, .agg #[.int .i64 a, .int .i64 b]] W fun e W' => e = .returned (.bool true) ∧ Below W.heap.size W W' := by
  refine calls_of_spec T3.ok (n, key, a, b) rfl (args := [.int .i64 n, .int .i64 key, .agg [.int .i64 a, .int .i64 b]]) (fun ρ N => ?_) ?_ (fun F' v h => res_true h)
  · simp [valsOf, dats, cEventBallots, PRs, PR, DC, flat, Pe.i64]
  · simp [VRels, VRel]
    exact ⟨_, _, ⟨rfl, rfl⟩, rfl, _, _, rfl, rfl, _, rfl, _, rfl, rfl⟩
theorem array2 {xs : Array Value} (h : xs.size = 2) : ∃ a b, xs = #[a, b] := by
  obtain ⟨l⟩ := xs
  match l, h with
  | [a, b], _ => exact ⟨a, b, rfl⟩
theorem okWide_array {P : Program} {w : World} {r : Reach} {base n : Nat} {t e : TypeId} {v : Value} (ht : P.underlying t = some (.array n e)) (h : Value.okWide P w r base t v) : ∃ cs, v = .agg cs ∧ cs.size = P.cellsOf t := by
  simp only [Value.okWide, ht] at h
  obtain ⟨cs, h1, h2, _⟩ := h
  exact ⟨cs, h1, h2⟩
theorem under22 : prog.underlying 22 = some (.array 2 3) := by kernel_rfl
theorem cells22 : prog.cellsOf 22 = 2 := by kernel_rfl
theorem cells3 : prog.cellsOf 3 = 1 := by kernel_rfl
set_option maxRecDepth 100000 in
theorem contract (H : Type) (enc : TypeId × Value → H) (W : World) (base : Nat) (args : Array Value) (ds gs : List (DataW H)) (before : List MemPlace)
    (hval : ∀ (j : Nat) t v, Tryz.f3.params[j]? = some t → args[j]? = some v → Value.okWide prog W .any base t v)
    (hW : DataW.Whole enc prog Tryz.f3.params.toList Rows.eventBallotsSpec.vars false W args.toList ds gs before) :
    Calls prog 3 args W fun e W' => ∃ v, e = .returned v ∧ Rows.eventBallotsSpec.post enc prog Tryz.f3 false true false false W args v W' := by
  have hW' := hW
  obtain ⟨p, q, hA0, hV, rfl, hfz, hnd⟩ := hW
  have hA : DataW.TrodAll enc prog W 0 (fun _ => true) true Tryz.f3.params.toList args.toList ds p := hA0
  rw [Tryz.params3] at hA hval
  obtain ⟨v0, vs0, d0, ds0, p0, q0, hargs, rfl, rfl, h0, r0⟩ := trodAll_cons hA
  obtain ⟨v1, vs1, d1, ds1, p1, q1, rfl, rfl, rfl, h1, r1⟩ := trodAll_cons r0
  obtain ⟨v2, vs2, d2, ds2, p2, q2, rfl, rfl, rfl, h2, r2⟩ := trodAll_cons r1
  obtain ⟨rfl, rfl, rfl⟩ := trodAll_nil r2
  obtain rfl := arr_of hargs
  have hv0 : Value.okWide prog W .any base 3 v0 := hval 0 3 v0 (by simp) (by simp)
  have hv1 : Value.okWide prog W .any base 3 v1 := hval 1 3 v1 (by simp) (by simp)
  have hv2 : Value.okWide prog W .any base 22 v2 := hval 2 22 v2 (by simp) (by simp)
  obtain ⟨n, rfl, rfl, rfl, _⟩ := open_int Tryz.underlying3 hv0 h0
  obtain ⟨key, rfl, rfl, rfl, _⟩ := open_int Tryz.underlying3 hv1 h1
  obtain ⟨cs, rfl, hsz⟩ := okWide_array under22 hv2
  obtain ⟨c0, c1, rfl⟩ := array2 (hsz.trans cells22)
  obtain ⟨fuel, hf⟩ := h2
  obtain ⟨a, b, rfl, rfl⟩ : ∃ a b, c0 = .int .i64 a ∧ c1 = .int .i64 b := by
    cases fuel with
    | zero => cases hf
    | succ fuel =>
      unfold DataW.trod at hf
      rw [under22] at hf
      cases hm : (List.range 2).mapM (fun i => DataW.trod enc prog W 0 (fun _ => true) true fuel 3 (([c0, c1].drop (i * prog.cellsOf 3)).take (prog.cellsOf 3))) with
      | none => simp only [Value.cells, cells22] at hf; rw [hm] at hf; simp at hf
      | some r =>
        obtain ⟨y0, e0⟩ := mapM_each hm 0 (by simp)
        obtain ⟨y1, e1⟩ := mapM_each hm 1 (by simp)
        rw [cells3] at e0 e1
        obtain ⟨a, g0, _⟩ := DataW.trod_int Tryz.underlying3 e0
        obtain ⟨b, g1, _⟩ := DataW.trod_int Tryz.underlying3 e1
        simp at g0 g1
        exact ⟨a, b, g0, g1⟩
  exact (calls W n key a b).mono fun e W' ⟨he, hb⟩ => ⟨_, he, post_true (L := [3, 22]) hW' rfl (by kernel_rfl) Tryz.underlying4 rfl hb (by kernel_rfl) (by kernel_rfl)⟩
set_option maxRecDepth 100000 in
theorem lifted (os : Os) (started : os.Started) (H : Type) (enc : TypeId × Value → H) (F : Stop.Interp) :
    ReturnsInHanded {} Tryz.checked os 3 .any ((OpenSpec.ofChange Rows.eventBallotsSpec).preRow enc prog Tryz.f3 Rows.eventBallotsRow.domain false Rows.eventBallotsRow.laid) (((OpenSpec.ofChange Rows.eventBallotsSpec).at F).post enc prog Tryz.f3 false true false false) := by
  obtain ⟨places, hx⟩ := reads os enc
  refine returnsInHanded_of_row (C := Tryz.checked) (s := OpenSpec.ofChange Rows.eventBallotsSpec) own7 started noInit Tryz.func3
    (witness_lay (enc := enc) (C := Tryz.checked) (W7 os) args0 (World.laidAll_os _ _ _) (World.shaped_of_ZipB (a1 os) (a2 os)) (a3 os)
      (OpenSpec.preRow_of_cond 8 hx (by kernel_rfl) (fun k hk => by cases hk) (a4 os enc) (laid_ok7 os _))) ?_
  intro W base args ds gs before hval hW _ _ _ _ _ _
  exact contract H enc W base args ds gs before hval hW
theorem said : Rows.EventBallotsSaid :=
  OpenClaim.holds_of_cond 3 Tryz.f3 rfl rfl rfl rfl rfl rfl rfl ⟨rfl, rfl, rfl, rfl, rfl⟩ rfl rfl rfl rfl rfl funcNamed Tryz.func3 closed instanceOf wrapperOf
    (fun os started H enc _ F => by rw [OpenClaim.pre_eq_preRow]; exact lifted os started H enc F)
theorem plain (f : FuncId) (fn : Func) (hf : Tryz.pinned.checked.prog.funcNamed Rows.eventBallotsRow.func = some f) (hfn : Tryz.pinned.checked.prog.funcs[f]? = some fn) :
    true = Tryz.pinned.checked.prog.looks [] ∧ ∀ (j : Nat) t, fn.params[j]? = some t → Tryz.pinned.checked.prog.wantsStandIn t = false := by
  obtain rfl : f = 3 := Option.some.inj (funcNamed.symm.trans hf) |>.symm
  obtain rfl : fn = Tryz.f3 := (Option.some.inj (Tryz.func3.symm.trans hfn)).symm
  refine ⟨R7.looks, fun j t ht => ?_⟩
  rw [Tryz.params3] at ht
  have hm : t ∈ [3, 3, 22] := by simpa using Array.mem_of_getElem? ht
  exact (show prog.wantsStandIn t = false by simpa using List.all_eq_true.1 standIn t hm)
theorem card : Rows.EventBallotsCardSaid :=
  Claim7.holds_tied_plain_at .later [] _ _ _ _ said (fun _ h => by cases h) wfText (fun _ h => by cases h) eventBallots_row_tie rfl ⟨rfl, rfl⟩ R7.mainIs rfl plain goes
end EventBallots
theorem eventBallots_holds : Rows.EventBallotsCardSaid := EventBallots.card
#print axioms eventBallots_holds
end Go.Proofs.YtnbinppdjnlhpaaGreatDoor
end
