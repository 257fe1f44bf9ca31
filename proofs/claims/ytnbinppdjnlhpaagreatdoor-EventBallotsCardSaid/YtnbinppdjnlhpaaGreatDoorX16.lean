import Derived.Test.YtnbinppdjnlhpaaGreatDoorX15
/- A part of the proofs of the laws of one chapter (no law is stated here). Made by program out of texts by AI agents. -/
section
/- What the evaluator for unknown inputs says of calls that are entered is what Det does. -/
namespace Go.Pe
open Go.Det
section
variable {B : Nat} {h0 : H0} {X : PCtx} {F : Fz} {ρ : Rho} {N : Nat} {st st' : PSt} {fr : Fr} {h : H}

theorem argSlots_mem : ∀ {ps : List PV} {i t : Nat} {p : PV}, (t, p) ∈ argSlots ps i → ∃ k, t = i + k ∧ ps[k]? = some p
  | [], i, t, p, h => by cases h
  | q :: ps, i, t, p, h => by
    unfold argSlots at h
    rcases List.mem_cons.1 h with h | h
    · cases h; exact ⟨0, rfl, rfl⟩
    · obtain ⟨k, h1, h2⟩ := argSlots_mem h
      exact ⟨k + 1, by rw [h1]; show i + 1 + k = _; omega, by simpa using h2⟩
theorem init_fp {ps : List PV} {vs : List V} (hp : PRs F ρ N ps vs) (n : Nat) (ob : Ob) (nx : Nat) (_hnx : nx = N) : FP F ρ N (mkSt (Nat.add ps.length (Nat.sub n ps.length)) (argSlots ps 0) ob nx) (initF n vs) := by
  refine ⟨by show ps.length + (n - ps.length) = vs.length + (n - vs.length); rw [hp.len], fun t => ?_⟩
  show PR F ρ N (((ofSlots (argSlots ps 0)).get t).getD .any) _
  cases hg : (ofSlots (argSlots ps 0)).get t with
  | none => show PR F ρ N .any _; simp [PR]
  | some p =>
    show PR F ρ N p _
    rcases ofSlots_get _ .leaf t p hg with h1 | h1
    · obtain ⟨k, h2, h3⟩ := argSlots_mem h1
      obtain rfl : t = k := by omega
      obtain ⟨v, h4, h5⟩ := hp.get h3
      have hlt := (List.getElem?_eq_some_iff.1 h4).1
      unfold initF Fr.get
      simp only
      rw [initM_get, if_pos (by omega), Nat.sub_zero, h4]
      exact h5
    · simp at h1

theorem pres_rel : ∀ {rs : List ResultVar} {ps : List PV} {F : Fz} {ρ : Rho}, Rel B h0 F ρ st fr h → pres X.C.T st rs = some ps →
    ∃ vs F' ρ', dress X.C fr h rs = some vs ∧ PRs F' ρ' st.nx ps vs ∧ Rel B h0 F' ρ' st fr h ∧ Le F ρ st.nx F' ρ' st.nx
  | [], ps, F, ρ, hr, hp => by cases hp; exact ⟨[], F, ρ, rfl, by simp, hr, Le.refl⟩
  | r :: rs, ps, F, ρ, hr, hp => by
    unfold pres at hp
    split at hp
    case h_2 => cases hp
    rename_i p ps' h1 h2
    cases hp
    have key : ∃ v F1 ρ1, dres1 X.C fr h r = some v ∧ PR F1 ρ1 st.nx p v ∧ Rel B h0 F1 ρ1 st fr h ∧ Le F ρ st.nx F1 ρ1 st.nx := by
      cases r with
      | tmp t =>
        simp only [pres1, Option.some.injEq] at h1
        subst h1
        exact ⟨_, F, ρ, rfl, hr.fp.slot t, hr, Le.refl⟩
      | cell a t =>
        simp only [pres1] at h1
        split at h1
        case h_2 => cases h1
        rename_i u s hl
        cases h1
        have ht : (pload X.C.T st t (st.get a)).To p s := by rw [hl]; exact .val
        have hs : s = st := by
          unfold pload at hl
          split at hl
          case h_2 => cases hl
          split at hl
          · split at hl
            · unfold ov at hl; split at hl
              · cases hl; rfl
              · cases hl
            · cases hl
          · split at hl
            · rename_i hx; revert hl
              cases (Nat.beq _ _) with
              | false => intro hl; cases hl
              | true => intro hl; simp only [cond_true, ovc] at hl; split at hl <;> cases hl
            · cases hl
          · unfold ov at hl; split at hl
            · cases hl; rfl
            · cases hl
          · cases hl
        subst hs
        obtain ⟨v', h', F', ρ', g1, g2, g3, g4, g5, g6, g7, g8⟩ := s_load (C := X.C) hr.sr (hr.fp.slot a) ht
        cases hd : dload X.C.T h t (fr.get a) with
        | none => rw [hd] at g1; rcases g1 with g1 | ⟨g1, _⟩ <;> cases g1
        | some w =>
          rw [hd] at g1
          rcases g1 with g1 | ⟨g1, _⟩
          · simp only [okv, Option.some.injEq, OR.val.injEq] at g1
            obtain ⟨rfl, rfl⟩ := g1
            exact ⟨w, F', ρ', hd, g2, ⟨hr.fp.mono g4, g3⟩, g4⟩
          · cases g1
    obtain ⟨v, F1, ρ1, k1, k2, k3, k4⟩ := key
    obtain ⟨vs, F2, ρ2, k5, k6, k7, k8⟩ := pres_rel k3 h2
    exact ⟨v :: vs, F2, ρ2, by simp [dress, k1, k5], by simp only [PRs_cons]; exact ⟨k2.mono k8, k6⟩, k7, k4.trans k8⟩

/-- **a call that is entered** -/
theorem sim_enter {nd : Bool} {d : Nat} (hcall : CallOk B h0 X nd (pcall X nd d)) (hcallD : CallOk B h0 X false (pcall X false d)) (hmg : X.C.mg = false) {g : FuncId} (hsp : X.C.spec g = none) (hprim : X.C.prim g = none) (hno : X.sp g = none) {Q : PV → Ob → Prop} {n : Nat} {args : List PV} {k : PV → PSt → Tr} {args' : List V}
    (he : Ev X Q n (enter X (pcall X nd d) (pcall X false d) nd d g args st k)) (hr : Rel B h0 F ρ st fr h) (ha : PRs F ρ st.nx args args') :
    (X.C.prim g = none ∧ ∃ i, X.C.fn g = some i) ∧ ∃ l M, (∀ m, M ≤ m → ecall X.C m (.fn g args') h = some l) ∧ (nd = false → ∃ x, l = [x]) ∧
      ∀ x ∈ l, ∃ n', n' ≤ n ∧ ∃ r st', Ev X Q n' (k r st') ∧ ∃ F' ρ', PR F' ρ' st'.nx r x.1 ∧ Went B h0 F ρ st.nx h st' fr x.2 F' ρ' ∧ (∀ sp, X.sp g = some sp → ∀ b, b < h.nx → x.2.get b = h.get b) := by
  unfold enter at he
  split at he
  case h_1 => exact absurd he Ev.not_fail
  rename_i i hi
  cases hc : i.cert with
  | false => rw [hc] at he; exact absurd he Ev.not_fail
  | true =>
    rw [hc] at he
    simp only [cond_true] at he
    have hr0 : Rel B h0 F ρ (mkSt (Nat.add args.length (Nat.sub i.ntmps args.length)) (argSlots args 0) st.ob st.nx) (initF i.ntmps args') h := ⟨init_fp ha i.ntmps st.ob st.nx rfl, hr.sr⟩
    obtain ⟨l, M, hM, hone, hall⟩ := sim_exec hcall hcallD n i.body (st := mkSt (Nat.add args.length (Nat.sub i.ntmps args.length)) (argSlots args 0) st.ob st.nx) [] (Nat.le_refl st.nx) hr0 he
    -- an outcome of the body, and of the call
    have fin : ∀ x ∈ l, ∃ (r : List (V × H)) (M : Nat), (∀ m : Nat, M ≤ m → ∀ q : Nat, M ≤ q → (match x.e with
            | .exit _ => none
            | _ => match dleave x.ds x.h with
              | some h1 => match dres X.C x.fr h1 i.results.toList with
                | some v => some [(v, h1)]
                | none => none
              | none => none) = some r) ∧ (nd = false → ∃ x, r = [x]) ∧ ∀ x ∈ r, ∃ n', n' ≤ n ∧ ∃ r st', Ev X Q n' (k r st') ∧ ∃ F' ρ', PR F' ρ' st'.nx r x.1 ∧ Went B h0 F ρ st.nx h st' fr x.2 F' ρ' ∧ (∀ sp, X.sp g = some sp → ∀ b, b < h.nx → x.2.get b = h.get b) := by
      intro x hx
      obtain ⟨hds, n1, hn1, st1, he1, F1, ρ1, hr1, hb1, hl1, hx1⟩ := hall x hx
      obtain ⟨e, fr1, h1, ds1⟩ := x
      obtain rfl : ds1 = [] := hds
      simp only at he1 hr1 hx1 ⊢
      have go : (∀ j, e ≠ .exit j) → Ev X Q n1 (match pres X.C.T st1 i.results.toList with | some vs => k (Go.Pe.one vs) ⟨st.n, st.fr, st1.ob, st1.nx⟩ | none => .fail) →
          ∃ v', dres X.C fr1 h1 i.results.toList = some v' ∧ ∃ n', n' ≤ n ∧ ∃ r st', Ev X Q n' (k r st') ∧ ∃ F' ρ', PR F' ρ' st'.nx r v' ∧ Went B h0 F ρ st.nx h st' fr h1 F' ρ' ∧ (∀ sp, X.sp g = some sp → ∀ b, b < h.nx → h1.get b = h.get b) := by
        intro hne he2
        split at he2
        case h_2 => exact absurd he2 Ev.not_fail
        rename_i ps hps
        obtain ⟨vs, F2, ρ2, k1, k2, k3, k4⟩ := pres_rel hr1 hps
        have hle : Le F ρ st.nx F2 ρ2 st1.nx := ⟨fun b cs hb => k4.fz _ _ (hl1.fz _ _ hb), fun id hid => by
          rcases k4.rho id (Nat.lt_of_lt_of_le hid hb1) with e | e
          · rw [e]; exact hl1.rho id hid
          · exact .inr e, hb1⟩
        have hres : ∃ r', dres X.C fr1 h1 i.results.toList = some r' ∧ PR F2 ρ2 st1.nx (Go.Pe.one ps) r' := by
          unfold dres
          rw [k1]
          cases ps with
          | nil => simp at k2; subst k2; exact ⟨_, rfl, by simp [Go.Pe.one, PR]⟩
          | cons p ps =>
            simp only [PRs] at k2
            obtain ⟨v1, vs1, rfl, g1, g2⟩ := k2
            cases ps with
            | nil => simp at g2; subst g2; exact ⟨_, rfl, g1⟩
            | cons q qs =>
              have g2' := g2
              simp only [PRs] at g2
              obtain ⟨v2, vs2, rfl, _, _⟩ := g2
              refine ⟨_, rfl, ?_⟩
              show PR F2 ρ2 st1.nx (.tup (p :: q :: qs)) _
              unfold PR
              exact ⟨_, rfl, by simp only [PRs_cons]; exact ⟨g1, by simpa only [PRs_cons] using g2'⟩⟩
        obtain ⟨r', q1, q2⟩ := hres
        exact ⟨r', q1, n1, hn1, _, _, he2, F2, ρ2, q2, ⟨⟨⟨hr.fp.n, fun t => (hr.fp.slot t).mono hle⟩, k3.sr⟩, hle, hx1⟩, fun sp h => (by rw [hno] at h; cases h)⟩
      cases e with
      | normal =>
        obtain ⟨v', q1, q2⟩ := go (fun j => by simp) he1
        exact ⟨[(v', h1)], 0, fun m _ q _ => (by simp only [dleave, q1]), fun _ => ⟨_, rfl⟩, fun y hy => by cases List.mem_singleton.1 hy; exact q2⟩
      | ret =>
        obtain ⟨v', q1, q2⟩ := go (fun j => by simp) he1
        exact ⟨[(v', h1)], 0, fun m _ q _ => (by simp only [dleave, q1]), fun _ => ⟨_, rfl⟩, fun y hy => by cases List.mem_singleton.1 hy; exact q2⟩
      | exit j => exact absurd he1 Ev.not_fail
    obtain ⟨r, M2, g1, g2, g3⟩ := bl_all2 (f := fun _ _ (x : Det.X) => match x.e with
            | .exit _ => none
            | _ => match dleave x.ds x.h with
              | some h1 => match dres X.C x.fr h1 i.results.toList with
                | some v => some [(v, h1)]
                | none => none
              | none => none) (P := fun x => ∃ n', n' ≤ n ∧ ∃ r st', Ev X Q n' (k r st') ∧ ∃ F' ρ', PR F' ρ' st'.nx r x.1 ∧ Went B h0 F ρ st.nx h st' fr x.2 F' ρ' ∧ (∀ sp, X.sp g = some sp → ∀ b, b < h.nx → x.2.get b = h.get b)) hone fin
    refine ⟨⟨hprim, i, hi⟩, r, max M M2 + 1, fun m hm => ?_, g2, g3⟩
    obtain ⟨m', rfl⟩ : ∃ m', m = m' + 1 := ⟨m - 1, by omega⟩
    have hd := hM m' (by omega) m' (by omega)
    have hg := g1 m' (by omega) m' (by omega)
    simp only at hd
    have : ecall X.C (m' + 1) (.fn g args') h = (match dcode X.C (ecall X.C m') none i.cert m' i.body (initF i.ntmps args') h [] with
        | none => none
        | some l => match (bl l fun x => match x.e with
          | .exit _ => none
          | _ => match dleave x.ds x.h with
            | some h1 => match dres X.C x.fr h1 i.results.toList with
              | some v => some [(v, h1)]
              | none => none
            | none => none) with
          | some r => some (bif X.C.mg then mergeO h.nx r else r)
          | none => none) := by
      rw [ecall]
      simp only [hsp, hi]
      rfl
    rw [this, hc, hd]
    simp only
    have hg' : (bl l fun x => match x.e with
          | .exit _ => none
          | _ => match dleave x.ds x.h with
            | some h1 => match dres X.C x.fr h1 i.results.toList with
              | some v => some [(v, h1)]
              | none => none
            | none => none) = some r := hg
    rw [hg', hmg]
    rfl
end
end Go.Pe
end
section
/- Contracts: a function that does what its contract says is taken by it. -/
namespace Go.Pe
open Go.Det
section
variable {B : Nat} {h0 : H0} {X : PCtx} {F F1 F' : Fz} {ρ : Rho} {N : Nat} {st st' : PSt} {fr : Fr} {h h' : H}

/-- a value that bears no object -/
def PC (F : Fz) (p : PV) (v : V) : Prop := ∀ ρ N, PR F ρ N p v
def PCs (F : Fz) (ps : List PV) (vs : List V) : Prop := ∀ ρ N, PRs F ρ N ps vs
theorem Le.fzs (hF : ∀ b cs, F b = some cs → F1 b = some cs) : Le F ρ N F1 ρ N := ⟨hF, fun _ _ => .inl rfl, Nat.le_refl _⟩
theorem PC.mono (hF : ∀ b cs, F b = some cs → F1 b = some cs) {p : PV} {v : V} (hp : PC F p v) : PC F1 p v := fun ρ N => (hp ρ N).mono (Le.fzs hF)
theorem PCs.mono (hF : ∀ b cs, F b = some cs → F1 b = some cs) {p : List PV} {v : List V} (hp : PCs F p v) : PCs F1 p v := fun ρ N => (hp ρ N).mono (Le.fzs hF)
theorem PCs.cons {p : PV} {ps : List PV} {v : V} {vs : List V} (h1 : PC F p v) (h2 : PCs F ps vs) : PCs F (p :: ps) (v :: vs) := fun ρ N => (PRs_cons ..).2 ⟨h1 ρ N, h2 ρ N⟩
theorem PCs.dc {s : Sh} {ps : List PV} {vs : List V} {x : s.T} (hp : PCs F ps vs) (hd : unflat1 s ps = some x) : DC F s x vs := unflat1_rel (hp (fun _ => none) 0) hd
theorem PC.dats : ∀ {s : Sh} {x : s.T} {cs : List V}, DC F s x cs → (s.isP = true → PC F (dats s x) (.agg cs)) ∧ (s.isP = false → ∀ v, cs = [v] → PC F (dats s x) v)
  | .pair a b, x, cs, h => ⟨fun _ ρ N => by unfold Pe.dats PR; exact ⟨cs, rfl, flat_rel h⟩, fun e => by cases e⟩
  | .unit, x, cs, h => ⟨fun _ ρ N => by simp only [DC] at h; subst h; unfold Pe.dats PR; exact ⟨[], rfl, by simp⟩, fun e => by cases e⟩
  | .int _, x, cs, h => ⟨fun e => (by cases e), fun _ v hv ρ N => by subst hv; unfold Pe.dats PR; exact h⟩
  | .bool, x, cs, h => ⟨fun e => (by cases e), fun _ v hv ρ N => by subst hv; unfold Pe.dats PR; exact h⟩
  | .str, x, cs, h => ⟨fun e => (by cases e), fun _ v hv ρ N => by subst hv; unfold Pe.dats PR; exact h⟩
  | .list _, x, cs, h => ⟨fun e => (by cases e), fun _ v hv ρ N => by subst hv; unfold Pe.dats PR; exact h⟩

theorem SR.ob_eq {ob ob' : Ob} (hr : SR B h0 F ρ N ob h) (he : ∀ j, obGet ob' j = obGet ob j) : SR B h0 F ρ N ob' h :=
  ⟨fun id o ho => hr.obj id o (he id ▸ ho), fun id id' o o' b n n' h1 h2 => hr.inj id id' o o' b n n' (he id ▸ h1) (he id' ▸ h2), hr.frz, hr.own, fun id hid => hr.dead id (he id ▸ hid), hr.old, hr.lt, hr.le, hr.fo⟩

/-- the elements of a piece of an array that nobody writes -/
theorem sub_dc {s : Sh} {l : List s.T} {cs : List V} {b : Nat} (hF : F b = some cs) (hd : DCL F s l cs) {off len : Nat} (hle : off + len ≤ l.length) {cap o : Nat} (hcap : len ≤ cap) (ho : o = 0 ∨ o = s.sz) :
    DC F (.list s) ((l.drop off).take len) [.sl b (off * s.sz) len cap o] := by
  have hlen : ((l.drop off).take len).length = len := by simp; omega
  simp only [DC]
  refine ⟨_, rfl, .inr ⟨b, off * s.sz, cap, o, cs, by rw [hlen], by rw [hlen]; exact hcap, hF, ?_, ho, fun i hi => ?_⟩⟩
  · rw [hlen, hd.1, ← Nat.add_mul]; exact Nat.mul_le_mul_right _ hle
  · rw [hlen] at hi
    have h1 := hd.2 (off + i) (by omega)
    have e1 : ((l.drop off).take len)[i] = l[off + i]'(by omega) := by simp
    rw [e1, ← Nat.add_mul]
    exact h1

theorem freeze1_same (st : PSt) (p : PV) : (freeze1 st p).nx = st.nx ∧ (freeze1 st p).fr = st.fr ∧ (freeze1 st p).n = st.n := by
  unfold freeze1
  split
  · split <;> exact ⟨rfl, rfl, rfl⟩
  · exact ⟨rfl, rfl, rfl⟩
theorem freezes_same : ∀ (ps : List PV) (st : PSt), (freezes ps st).nx = st.nx ∧ (freezes ps st).fr = st.fr ∧ (freezes ps st).n = st.n
  | [], _ => ⟨rfl, rfl, rfl⟩
  | p :: ps, st => by
    obtain ⟨h1, h2, h3⟩ := freezes_same ps (freeze1 st p)
    obtain ⟨g1, g2, g3⟩ := freeze1_same st p
    exact ⟨h1.trans g1, h2.trans g2, h3.trans g3⟩
theorem freezes_append : ∀ (ps qs : List PV) (st : PSt), freezes (ps ++ qs) st = freezes qs (freezes ps st)
  | [], _, _ => rfl
  | p :: ps, qs, st => freezes_append ps qs (freeze1 st p)
/-- the same objects, up to whether they may be written -/
def ObjEq : Option Obj → Option Obj → Prop
  | some (.arr _ e s l), o => ∃ fz, o = some (.arr fz e s l)
  | a, b => b = a
theorem ObjEq.refl (o : Option Obj) : ObjEq o o := by
  cases o with
  | none => rfl
  | some o => cases o <;> first | rfl | exact ⟨_, rfl⟩
theorem freeze1_obj (st : PSt) (p : PV) (j : Nat) : ObjEq (st.obj j) ((freeze1 st p).obj j) := by
  unfold freeze1
  split
  case h_2 => exact ObjEq.refl _
  split
  case h_2 => exact ObjEq.refl _
  rename_i id _ _ _ _ _ fz e s l ho
  show ObjEq (obGet st.ob j) (obGet (obSet st.ob id (.arr true e s l)) j)
  rw [obGet_set _ _ _ _ (by show (st.obj id).isSome = true; rw [ho]; rfl)]
  split
  · rename_i e1; subst e1
    show ObjEq (st.obj j) _
    rw [ho]; exact ⟨_, rfl⟩
  · exact ObjEq.refl _
theorem byVal_eq {st st' : PSt} (h : ∀ id, ObjEq (st.obj id) (st'.obj id)) (p : PV) : byVal st' p = byVal st p := by
  unfold byVal
  cases p <;> try rfl
  rename_i id sz off len cap
  have := h id
  cases ho : st.obj id with
  | none => rw [ho] at this; simp only [ho, show st'.obj id = none from this]
  | some o =>
    rw [ho] at this
    cases o with
    | arr fz e s l =>
      obtain ⟨fz', h1⟩ := this
      simp only [ho, h1]
    | box _ => simp only [ho, show st'.obj id = _ from this]
    | map _ _ _ => simp only [ho, show st'.obj id = _ from this]
    | siter _ _ => simp only [ho, show st'.obj id = _ from this]
theorem byVals_eq {st st' : PSt} (h : ∀ id, ObjEq (st.obj id) (st'.obj id)) : ∀ ps : List PV, byVals st' ps = byVals st ps
  | [] => rfl
  | p :: ps => by unfold byVals; rw [byVal_eq h p, byVals_eq h ps]
theorem ObjEq.trans {a b c : Option Obj} (h1 : ObjEq a b) (h2 : ObjEq b c) : ObjEq a c := by
  cases a with
  | none => have : b = none := h1; subst this; exact h2
  | some o =>
    cases o with
    | arr fz e s l => obtain ⟨fz', rfl⟩ := h1; exact h2
    | box _ => have : b = _ := h1; subst this; exact h2
    | map _ _ _ => have : b = _ := h1; subst this; exact h2
    | siter _ _ => have : b = _ := h1; subst this; exact h2
theorem freezes_obj : ∀ (ps : List PV) (st : PSt) (id : Nat), ObjEq (st.obj id) ((freezes ps st).obj id)
  | [], _, _ => ObjEq.refl _
  | p :: ps, st, id => (freeze1_obj st p id).trans (freezes_obj ps (freeze1 st p) id)
theorem argOf_eq {st st' : PSt} (h : ∀ id, ObjEq (st.obj id) (st'.obj id)) (s : Sh) (p : PV) : argOf st' s p = argOf st s p := by
  unfold argOf; rw [byVals_eq h]
theorem argsOf_eq {st st' : PSt} (h : ∀ id, ObjEq (st.obj id) (st'.obj id)) : ∀ (l : List Sh) (ps : List PV), argsOf st' l ps = argsOf st l ps
  | [], [] => rfl
  | [], _ :: _ => rfl
  | [a], [p] => argOf_eq h a p
  | [a], [] => rfl
  | [a], _ :: _ :: _ => rfl
  | a :: b :: l, [] => rfl
  | a :: b :: l, p :: ps => by unfold argsOf; rw [argOf_eq h a p, argsOf_eq h (b :: l) ps]

/-- a value is handed over: its array is written no more -/
theorem freeze1_rel (hr : SR B h0 F ρ st.nx st.ob h) {p : PV} {v : V} (hp : PR F ρ st.nx p v) :
    ∃ F1, SR B h0 F1 ρ (freeze1 st p).nx (freeze1 st p).ob h ∧ (∀ b cs, F b = some cs → F1 b = some cs) ∧ ∀ x, byVal st p = some (true, x) → PC F1 x v := by
  have same : ∀ {q : PV}, (∀ x, byVal st q = some (true, x) → PC F x v) → freeze1 st q = st → ∃ F1, SR B h0 F1 ρ (freeze1 st q).nx (freeze1 st q).ob h ∧ (∀ b cs, F b = some cs → F1 b = some cs) ∧ ∀ x, byVal st q = some (true, x) → PC F1 x v :=
    fun h1 h2 => ⟨F, by rw [h2]; exact hr, fun _ _ h => h, h1⟩
  cases p with
  | sl id sz off len cap =>
    cases ho : st.obj id with
    | none => exact same (fun x hx => by simp [byVal, ho] at hx) (by simp [freeze1, ho])
    | some o =>
      cases o with
      | box _ => exact same (fun x hx => by simp [byVal, ho] at hx) (by simp [freeze1, ho])
      | map _ _ _ => exact same (fun x hx => by simp [byVal, ho] at hx) (by simp [freeze1, ho])
      | siter _ _ => exact same (fun x hx => by simp [byVal, ho] at hx) (by simp [freeze1, ho])
      | arr fz e s l =>
        obtain ⟨b, n, x, h1, h2, ⟨cs, fz', rfl, h4, h5, h6⟩, h7, h8⟩ := hr.at ho
        have hst : freeze1 st (.sl id sz off len cap) = st.setObj id (.arr true e s l) := by simp [freeze1, ho]
        have hset : ∀ j, obGet (obSet st.ob id (.arr true e s l)) j = if j = id then some (.arr true e s l) else obGet st.ob j := fun j => obGet_set _ _ _ _ (by show (st.obj id).isSome = true; rw [ho]; rfl)
        have fin : ∀ {G : Fz}, G b = some cs → (∀ b cs, F b = some cs → G b = some cs) → ∀ x, byVal st (.sl id sz off len cap) = some (true, x) → PC G x v := by
          intro G hG hFG x hx ρ' N'
          simp only [byVal, ho] at hx
          cases hsz : Nat.beq sz s.sz with
          | false => rw [hsz] at hx; simp at hx
          | true =>
            rw [hsz] at hx
            simp only [cond_true, Option.some.injEq, Prod.mk.injEq, decide_eq_true_eq] at hx
            obtain ⟨hle, rfl⟩ := hx
            have hsz := Nat.eq_of_beq_eq_true hsz
            subst hsz
            unfold PR
            simp only [PR] at hp
            rcases hp.2 b n h1 with ⟨k1, k2, o, k3, rfl⟩ | ⟨rfl, rfl, k3, rfl | ⟨off', rfl, k4⟩⟩
            · exact sub_dc hG (h4.mono hFG) hle k1 k3
            · simp [DC]
            · simp only [List.take_zero, DC]
              refine ⟨_, rfl, .inr ⟨b, off', 0, 0, cs, rfl, Nat.le_refl _, hG, ?_, .inl rfl, fun i hi => by simp at hi⟩⟩
              simp only [List.length_nil, Nat.zero_mul, Nat.add_zero]
              rw [h4.1]
              exact Nat.le_trans k4 (Nat.mul_le_mul_right _ (by rw [h6]; exact k3))
        cases hfz : fz with
        | true =>
          subst hfz
          obtain ⟨cs', t', fz2, k1, k2⟩ := h8 rfl
          cases k1
          refine ⟨F, ?_, fun _ _ h => h, fin k2 (fun _ _ h => h)⟩
          rw [hst]
          refine SR.ob_eq hr fun j => ?_
          show obGet (obSet st.ob id _) j = _
          rw [hset]
          split
          · rename_i ej; subst ej; exact ho.symm
          · rfl
        | false =>
          subst hfz
          have hFb : F b = none := h7 rfl
          have hmono : ∀ c cs', F c = some cs' → (fun c => if c = b then some cs else F c) c = some cs' := by
            intro c cs' hc
            have : c ≠ b := fun e => by rw [e, hFb] at hc; cases hc
            simp [this, hc]
          refine ⟨fun c => if c = b then some cs else F c, ?_, hmono, fin (by simp) hmono⟩
          rw [hst]
          have hle : Le F ρ st.nx (fun c => if c = b then some cs else F c) ρ st.nx := Le.fzs hmono
          have get' : ∀ k ok, obGet (obSet st.ob id (.arr true e s l)) k = some ok → ∃ o2, obGet st.ob k = some o2 := by
            intro k ok hk
            rw [hset] at hk
            by_cases ek : k = id
            · exact ⟨_, ek ▸ ho⟩
            · rw [if_neg ek] at hk; exact ⟨ok, hk⟩
          refine ⟨fun j oj hj => ?_, fun i j oi oj c m m' hi hj g1 g2 => ?_, fun c cs' hc => ?_, hr.own, fun j hj => ?_, hr.old, hr.lt, hr.le, fun c cs' hc => ?_⟩
          · have hj : obGet (obSet st.ob id (.arr true e s l)) j = some oj := hj
            rw [hset] at hj
            by_cases ej : j = id
            · subst ej
              simp only [if_true, Option.some.injEq] at hj; subst hj
              refine ⟨b, n, _, h1, h2, ⟨cs, fz', rfl, h4.mono hmono, h5, h6⟩, fun e => (by cases e), fun _ => ⟨cs, _, _, rfl, by simp⟩⟩
            · rw [if_neg ej] at hj
              obtain ⟨c, m, y, g1, g2, g3, g4, g5⟩ := hr.obj j oj hj
              have hne : c ≠ b := fun ec => ej (hr.inj j id oj _ c m n hj ho g1 (ec ▸ h1))
              exact ⟨c, m, y, g1, g2, g3.mono hle, fun e => by simp [hne, g4 e], fun e => by obtain ⟨a1, a2, a3, a4, a5⟩ := g5 e; exact ⟨a1, a2, a3, a4, by simp [hne, a5]⟩⟩
          · obtain ⟨_, k1⟩ := get' i oi hi
            obtain ⟨_, k2⟩ := get' j oj hj
            exact hr.inj i j _ _ c m m' k1 k2 g1 g2
          · split at hc
            · rename_i ec; cases hc; subst ec; exact ⟨_, _, h2⟩
            · exact hr.frz c cs' hc
          · have hj : obGet (obSet st.ob id (.arr true e s l)) j = none := hj
            rw [hset] at hj
            split at hj
            · cases hj
            · exact hr.dead j hj
          · split at hc
            · rename_i ec; subst ec; exact .inr (hr.own id c n h1).2
            · exact hr.fo c cs' hc
  | dat s x => exact same (fun y hy ρ' N' => by simp only [byVal, Option.some.injEq, Prod.mk.injEq, true_and] at hy; subst hy; unfold PR at hp ⊢; exact hp) rfl
  | bl b => exact same (fun y hy ρ' N' => by simp only [byVal, Option.some.injEq, Prod.mk.injEq, true_and] at hy; subst hy; unfold PR at hp ⊢; exact hp) rfl
  | nil => exact same (fun y hy ρ' N' => by simp only [byVal, Option.some.injEq, Prod.mk.injEq, true_and] at hy; subst hy; unfold PR at hp ⊢; exact hp) rfl
  | any | nilp | nilm | nilf | nili | agg _ | tup _ | ptr _ _ | eptr _ _ _ _ | dptr _ _ _ | mp _ | fn _ _ _ => exact same (fun x hx => by simp [byVal] at hx) rfl
theorem freezes_rel : ∀ {ps : List PV} {vs : List V} {st : PSt} {F : Fz}, SR B h0 F ρ st.nx st.ob h → PRs F ρ st.nx ps vs →
    ∃ F1, SR B h0 F1 ρ (freezes ps st).nx (freezes ps st).ob h ∧ (∀ b cs, F b = some cs → F1 b = some cs) ∧ ∀ xs, byVals st ps = some (true, xs) → PCs F1 xs vs
  | [], vs, st, F, hr, hp => ⟨F, hr, fun _ _ h => h, fun xs hx => by
    cases hx
    have hv : vs = [] := by simpa using hp
    subst hv
    intro ρ' N'; simp⟩
  | p :: ps, vs, st, F, hr, hp => by
    simp only [PRs] at hp
    obtain ⟨v, vs, rfl, h1, h2⟩ := hp
    obtain ⟨F1, g1, g2, g3⟩ := freeze1_rel hr h1
    have h2' : PRs F1 ρ (freeze1 st p).nx ps vs := by rw [(freeze1_same st p).1]; exact h2.mono (Le.fzs g2)
    obtain ⟨F2, k1, k2, k3⟩ := freezes_rel g1 h2'
    refine ⟨F2, k1, fun b cs hb => k2 b cs (g2 b cs hb), fun xs hx => ?_⟩
    unfold byVals at hx
    split at hx
    case h_2 => cases hx
    rename_i c x d xs' e1 e2
    simp only [Option.some.injEq, Prod.mk.injEq, Bool.and_eq_true] at hx
    obtain ⟨⟨rfl, rfl⟩, rfl⟩ := hx
    exact PCs.cons ((g3 x e1).mono k2) (k3 xs' (by rw [byVals_eq (freeze1_obj st p)]; exact e2))
theorem cells_rel {p : PV} {v : V} (hp : PR F ρ N p v) : ∃ w, PRs F ρ N p.cells w ∧ (isAg p = true → v = .agg w) ∧ (isAg p = false → w = [v]) := by
  cases p with
  | agg l => simp only [PR] at hp; obtain ⟨cs, rfl, h1⟩ := hp; exact ⟨cs, h1, fun _ => rfl, fun e => by cases e⟩
  | _ => exact ⟨[v], by simp only [PV.cells, PRs_cons, PRs_nil, and_true]; exact hp, fun e => (by cases e), fun _ => rfl⟩
theorem argOf_rel {st : PSt} {s : Sh} {p : PV} {x : s.T} {v : V} {w : List V} (ha : argOf st s p = some (true, x)) (h1 : isAg p = true → v = .agg w) (h2 : isAg p = false → w = [v]) (hw : ∀ xs, byVals st p.cells = some (true, xs) → PCs F xs w) : PC F (dats s x) v := by
  unfold argOf at ha
  cases hb : (isAg p == s.isP) with
  | false => rw [hb] at ha; cases ha
  | true =>
    rw [hb] at ha
    simp only [cond_true] at ha
    split at ha
    case h_2 => cases ha
    rename_i c cs hcs
    split at ha
    case h_2 => cases ha
    rename_i y hy
    simp only [Option.some.injEq, Prod.mk.injEq] at ha
    obtain ⟨rfl, rfl⟩ := ha
    have hdc := (hw cs hcs).dc hy
    have hk := PC.dats hdc
    have hb : isAg p = s.isP := by simpa using hb
    cases hp : s.isP with
    | true => rw [hp] at hb; rw [h1 hb]; exact hk.1 hp
    | false => rw [hp] at hb; exact hk.2 hp v (h2 hb)
theorem handed : ∀ {ps : List PV} {vs : List V} {st : PSt} {F : Fz}, SR B h0 F ρ st.nx st.ob h → PRs F ρ st.nx ps vs →
    ∃ F1, SR B h0 F1 ρ (freezes (ps.flatMap PV.cells) st).nx (freezes (ps.flatMap PV.cells) st).ob h ∧ (∀ b cs, F b = some cs → F1 b = some cs) ∧ ∀ l i, argsOf st l ps = some (true, i) → PCs F1 (valsOf l i) vs
  | [], vs, st, F, hr, hp => ⟨F, hr, fun _ _ h => h, fun l i hi => by
    have hv : vs = [] := by simpa using hp
    subst hv
    match l, i, hi with
    | [], _, _ => intro ρ' N'; simp [valsOf]
    | [a], _, hi => cases hi
    | a :: b :: l, _, hi => cases hi⟩
  | p :: ps, vs, st, F, hr, hp => by
    simp only [PRs] at hp
    obtain ⟨v, vs, rfl, h1, h2⟩ := hp
    obtain ⟨w, c1, c2, c3⟩ := cells_rel h1
    obtain ⟨F1, g1, g2, g3⟩ := freezes_rel hr c1
    have h2' : PRs F1 ρ (freezes p.cells st).nx ps vs := by rw [(freezes_same p.cells st).1]; exact h2.mono (Le.fzs g2)
    obtain ⟨F2, k1, k2, k3⟩ := handed g1 h2'
    rw [List.flatMap_cons, freezes_append]
    refine ⟨F2, k1, fun b cs hb => k2 b cs (g2 b cs hb), fun l i hi => ?_⟩
    match l, i, hi with
    | [], _, hi => cases hi
    | [a], i, hi =>
      cases ps with
      | cons q qs => cases hi
      | nil =>
        have hv : vs = [] := by simpa using h2
        subst hv
        have := (argOf_rel (st := st) (F := F1) (by simpa [argsOf] using hi) c2 c3 g3).mono k2
        intro ρ' N'
        simp only [valsOf, PRs_cons, PRs_nil, and_true]
        exact this ρ' N'
    | a :: b :: l, i, hi =>
      unfold argsOf at hi
      split at hi
      case h_2 => cases hi
      rename_i c x d y e1 e2
      simp only [Option.some.injEq, Prod.mk.injEq, Bool.and_eq_true] at hi
      obtain ⟨⟨rfl, rfl⟩, rfl⟩ := hi
      unfold valsOf
      exact PCs.cons ((argOf_rel e1 c2 c3 g3).mono k2) (k3 (b :: l) y (by rw [argsOf_eq (freezes_obj p.cells st)]; exact e2))

/-- behind a call that changed no block of before -/
theorem SR.after {ob : Ob} (hr : SR B h0 F ρ N ob h) (hs : ∀ b, b < h.nx → h'.get b = h.get b) (hx : h.nx ≤ h'.nx) (hlt : ∀ b o, h'.get b = some o → b < h'.nx) (hF : ∀ b cs, F b = some cs → F' b = some cs)
    (hN : ∀ b cs, F' b = some cs → F b = some cs ∨ h.nx ≤ b) (hfr : ∀ b cs, F' b = some cs → ∃ t fz, h'.get b = some (.cells cs t fz)) : SR B h0 F' ρ N ob h' := by
  refine ⟨fun id o ho => ?_, hr.inj, hfr, hr.own, hr.dead, fun b hb => ?_, hlt, Nat.le_trans hr.le hx, fun b cs hb => ?_⟩
  · obtain ⟨b, n, x, h1, h2, h3, h4, h5⟩ := hr.obj id o ho
    have hb := hr.lt b x h2
    refine ⟨b, n, x, h1, by rw [hs b hb]; exact h2, h3.mono (Le.fzs (ρ := ρ) hF), fun e => ?_, fun e => ?_⟩
    · cases hc : F' b with
      | none => rfl
      | some cs =>
        rcases hN b cs hc with h6 | h6
        · rw [h4 e] at h6; cases h6
        · omega
    · obtain ⟨cs, t, fz, k1, k2⟩ := h5 e
      exact ⟨cs, t, fz, k1, hF _ _ k2⟩
  · rw [hs b (Nat.lt_of_lt_of_le hb hr.le)]; exact hr.old b hb
  · rcases hN b cs hb with h1 | h1
    · exact hr.fo b cs h1
    · exact .inr (Nat.le_trans hr.le h1)

/-- a function does what its contract says -/
structure SpecOk (C : Ctx) (f : FuncId) (sp : PSpec) : Prop where
  prim : C.prim f = none
  fn : ∃ i, C.fn f = some i
  run : ∀ (F : Fz) (h : H) (args : List V) (i : (prodS sp.ins).T), (∀ b cs, F b = some cs → ∃ t fz, h.get b = some (.cells cs t fz)) → (∀ b o, h.get b = some o → b < h.nx) → PCs F (valsOf sp.ins i) args → sp.pre i = true →
    ∃ l M, (∀ m, M ≤ m → ecall C m (.fn f args) h = some l) ∧ (sp.nd = false → ∃ x, l = [x]) ∧ ∀ x ∈ l, h.nx ≤ x.2.nx ∧ (∀ b, b < h.nx → x.2.get b = h.get b) ∧ (∀ b o, x.2.get b = some o → b < x.2.nx) ∧
      ∃ F' : Fz, (∀ b cs, F b = some cs → F' b = some cs) ∧ (∀ b cs, F' b = some cs → F b = some cs ∨ h.nx ≤ b) ∧ (∀ b cs, F' b = some cs → ∃ t fz, x.2.get b = some (.cells cs t fz)) ∧
        PC F' (one (valsOf sp.outs (sp.f i))) x.1

theorem DC.sc : ∀ {s : Sh} {x : s.T} {cs : List V}, s.sc = true → DC F s x cs → DC F' s x cs
  | .int _, _, _, _, h => by simpa only [DC] using h
  | .bool, _, _, _, h => by simpa only [DC] using h
  | .str, _, _, _, h => by simpa only [DC] using h
  | .list s, l, _, e, h => by cases e
  | .pair a b, x, _, e, h => by
    simp only [DC] at h ⊢
    simp only [Sh.sc, Bool.and_eq_true] at e
    obtain ⟨c, d, rfl, h1, h2⟩ := h
    exact ⟨c, d, rfl, h1.sc e.1, h2.sc e.2⟩
  | .unit, _, _, _, h => by simpa only [DC] using h
/-- flat data are the same wherever they lie -/
theorem flat_sc : ∀ {s : Sh} {x : s.T} {cs : List V}, s.sc = true → PRs F ρ N (flat s x) cs → PCs F' (flat s x) cs
  | .int k, x, cs, _, h => fun ρ' N' => by
    simp only [flat, PRs] at h ⊢
    obtain ⟨v, vs, rfl, h1, rfl⟩ := h
    exact ⟨v, [], rfl, by simp only [PR] at h1 ⊢; exact h1.sc rfl, rfl⟩
  | .bool, x, cs, _, h => fun ρ' N' => by
    simp only [flat, PRs] at h ⊢
    obtain ⟨v, vs, rfl, h1, rfl⟩ := h
    exact ⟨v, [], rfl, by simp only [PR] at h1 ⊢; exact h1.sc rfl, rfl⟩
  | .str, x, cs, _, h => fun ρ' N' => by
    simp only [flat, PRs] at h ⊢
    obtain ⟨v, vs, rfl, h1, rfl⟩ := h
    exact ⟨v, [], rfl, by simp only [PR] at h1 ⊢; exact h1.sc rfl, rfl⟩
  | .list s, x, cs, e, h => by cases e
  | .pair a b, (x, y), cs, e, h => fun ρ' N' => by
    simp only [Sh.sc, Bool.and_eq_true] at e
    have key : ∀ (ps qs : List PV) (l : List V), PRs F ρ N (ps ++ qs) l → ∃ c d, l = c ++ d ∧ PRs F ρ N ps c ∧ PRs F ρ N qs d := by
      intro ps
      induction ps with
      | nil => intro qs l hl; exact ⟨[], l, rfl, by simp, hl⟩
      | cons p ps ih =>
        intro qs l hl
        simp only [List.cons_append, PRs] at hl
        obtain ⟨v, vs, rfl, h1, h2⟩ := hl
        obtain ⟨c, d, rfl, h3, h4⟩ := ih qs vs h2
        exact ⟨v :: c, d, rfl, by simp only [PRs_cons]; exact ⟨h1, h3⟩, h4⟩
    obtain ⟨c, d, rfl, h1, h2⟩ := key _ _ _ h
    exact (flat_sc e.1 h1 ρ' N').append (flat_sc e.2 h2 ρ' N')
  | .unit, _, cs, _, h => fun ρ' N' => by simpa [flat] using h
theorem dats_sc {s : Sh} {x : s.T} {v : V} (e : s.sc = true) (h : PC F (dats s x) v) : PC F' (dats s x) v := by
  intro ρ' N'
  have h := h ρ' N'
  cases s with
  | pair a b =>
    unfold Pe.dats PR at h ⊢
    obtain ⟨cs, rfl, h1⟩ := h
    exact ⟨cs, rfl, flat_sc e h1 ρ' N'⟩
  | unit => unfold Pe.dats PR at h ⊢; obtain ⟨cs, rfl, h1⟩ := h; exact ⟨cs, rfl, by simpa using h1⟩
  | int k => unfold Pe.dats PR at h ⊢; exact h.sc rfl
  | bool => unfold Pe.dats PR at h ⊢; exact h.sc rfl
  | str => unfold Pe.dats PR at h ⊢; exact h.sc rfl
  | list s => cases e
theorem vals_sc : ∀ {l : List Sh} {x : (prodS l).T} {vs : List V}, l.all Sh.sc = true → PCs F (valsOf l x) vs → PCs F' (valsOf l x) vs
  | [], _, vs, _, h => fun ρ' N' => by have := h ρ' N'; simpa [valsOf] using this
  | [a], x, vs, e, h => fun ρ' N' => by
    have h1 := h ρ' N'
    simp only [valsOf, PRs] at h1
    obtain ⟨v, vs', rfl, h2, rfl⟩ := h1
    simp only [List.all_cons, List.all_nil, Bool.and_true] at e
    simp only [valsOf, PRs_cons, PRs_nil, and_true]
    refine dats_sc (F := F) e (fun ρ2 N2 => ?_) ρ' N'
    have := h ρ2 N2
    simpa only [valsOf, PRs_cons, PRs_nil, and_true] using this
  | a :: b :: l, x, vs, e, h => by
    have h1 := h (fun _ => none) 0
    simp only [valsOf, PRs] at h1
    obtain ⟨v, vs', rfl, _, _⟩ := h1
    have e' : a.sc = true ∧ (b :: l).all Sh.sc = true := by simpa [List.all_cons, Bool.and_assoc] using e
    unfold valsOf at h ⊢
    exact PCs.cons (dats_sc e'.1 fun ρ2 N2 => ((PRs_cons ..).1 (h ρ2 N2)).1) (vals_sc e'.2 fun ρ2 N2 => ((PRs_cons ..).1 (h ρ2 N2)).2)
theorem one_vals {l : List Sh} {x : (prodS l).T} {v : V} : PC F (one (valsOf l x)) v ↔ ∃ vs, PCs F (valsOf l x) vs ∧ v = (match vs with | [u] => u | us => .tup us) := by
  have tupc : ∀ ps : List PV, (∀ u, ps ≠ [u]) → (PC F (one ps) v ↔ ∃ vs, PCs F ps vs ∧ v = (match vs with | [u] => u | us => .tup us)) := by
    intro ps hne
    have h1 : one ps = .tup ps := by
      unfold one
      split
      · rename_i u; exact absurd rfl (hne u)
      · rfl
    rw [h1]
    constructor
    · intro h
      have h2 := h (fun _ => none) 0
      unfold PR at h2
      obtain ⟨cs, rfl, h3⟩ := h2
      refine ⟨cs, fun ρ N => ?_, ?_⟩
      · have h4 := h ρ N
        unfold PR at h4
        obtain ⟨cs', e, h5⟩ := h4
        cases e; exact h5
      · have hl := h3.len
        split
        · rename_i u
          cases ps with
          | nil => cases hl
          | cons q qs => cases qs with
            | nil => exact absurd rfl (hne q)
            | cons _ _ => cases hl
        · rfl
    · rintro ⟨vs, h2, rfl⟩ ρ N
      unfold PR
      have hl := (h2 ρ N).len
      split
      · rename_i u
        cases ps with
        | nil => cases hl
        | cons q qs => cases qs with
          | nil => exact absurd rfl (hne q)
          | cons _ _ => cases hl
      · exact ⟨_, rfl, h2 ρ N⟩
  match l, x with
  | [], x => exact tupc [] (fun u e => by cases e)
  | [a], x =>
    simp only [valsOf, one]
    constructor
    · intro h; exact ⟨[v], fun ρ N => by simp only [PRs_cons, PRs_nil, and_true]; exact h ρ N, rfl⟩
    · rintro ⟨vs, h2, rfl⟩ ρ N
      have h3 := h2 ρ N
      simp only [PRs] at h3
      obtain ⟨u, us, rfl, h4, rfl⟩ := h3
      exact h4
  | a :: b :: l, x =>
    refine tupc _ (fun u e => ?_)
    unfold valsOf at e
    cases l <;> cases e

/-- **a call of a function that has a contract** -/
theorem sim_pspec {nd : Bool} {g : FuncId} {sp : PSpec} (_hsp : X.sp g = some sp) (hok : SpecOk X.C g sp) (hnd : nd = false → sp.nd = false) {Q : PV → Ob → Prop} {n : Nat} {args : List PV} {k : PV → PSt → Tr} {args' : List V} (he : Ev X Q n (pspec sp args st k)) (hr : Rel B h0 F ρ st fr h) (ha : PRs F ρ st.nx args args') :
    (X.C.prim g = none ∧ ∃ i, X.C.fn g = some i) ∧ ∃ l M, (∀ m, M ≤ m → ecall X.C m (.fn g args') h = some l) ∧ (nd = false → ∃ x, l = [x]) ∧
      ∀ x ∈ l, ∃ n', n' ≤ n ∧ ∃ r st', Ev X Q n' (k r st') ∧ ∃ F' ρ', PR F' ρ' st'.nx r x.1 ∧ Went B h0 F ρ st.nx h st' fr x.2 F' ρ' ∧ (∀ sp, X.sp g = some sp → ∀ b, b < h.nx → x.2.get b = h.get b) := by
  unfold pspec at he
  split at he
  case h_2 => exact absurd he Ev.not_fail
  rename_i c i hi
  rcases he.ite_iff with ⟨hc, he1⟩ | ⟨_, he1⟩
  case inr => exact absurd he1 Ev.not_fail
  simp only [Bool.and_eq_true] at hc
  obtain ⟨rfl, hpre⟩ := hc
  obtain ⟨F1, g1, g2, g3⟩ := handed hr.sr ha
  obtain ⟨l, M, hM, hone, hall⟩ := hok.run F1 h args' i g1.frz hr.sr.lt (g3 _ i hi) hpre
  refine ⟨⟨hok.prim, hok.fn⟩, l, M, hM, fun e => hone (hnd e), fun x hx => ?_⟩
  obtain ⟨k1, k2, k3, F', k4, k5, k6, k7⟩ := hall x hx
  refine ⟨n, Nat.le_refl _, _, _, he1, ?_⟩
  cases hsc : sp.outs.all Sh.sc with
  | true =>
    simp only [cond_true]
    have hv : PC F (one (valsOf sp.outs (sp.f i))) x.1 := by
      obtain ⟨vs, h1, h2⟩ := one_vals.1 k7
      exact one_vals.2 ⟨vs, vals_sc hsc h1, h2⟩
    refine ⟨F, ρ, hv ρ _, ⟨⟨hr.fp, ?_⟩, Le.refl, k1⟩, fun _ _ b hb => k2 b hb⟩
    refine hr.sr.after k2 k1 k3 (fun _ _ h => h) (fun _ _ h => .inl h) (fun b cs hb => ?_)
    obtain ⟨t, fz, hg⟩ := hr.sr.frz b cs hb
    exact ⟨t, fz, by rw [k2 b (hr.sr.lt b _ hg)]; exact hg⟩
  | false =>
    simp only [cond_false]
    obtain ⟨e1, e2, e3⟩ := freezes_same (args.flatMap PV.cells) st
    have hle : Le F ρ st.nx F' ρ (freezes (args.flatMap PV.cells) st).nx := by
      rw [e1]; exact Le.fzs fun b cs hb => k4 b cs (g2 b cs hb)
    refine ⟨F', ρ, k7 ρ _, ⟨⟨⟨e3.trans hr.fp.n, fun t => ?_⟩, ?_⟩, hle, k1⟩, fun _ _ b hb => k2 b hb⟩
    · have : (freezes (args.flatMap PV.cells) st).get t = st.get t := by unfold PSt.get; rw [e2]
      rw [this]; exact (hr.fp.slot t).mono hle
    · exact g1.after k2 k1 k3 k4 k5 k6

/-- **calls are as they are said to be** -/
theorem pcall_ok (hmg : X.C.mg = false) (hall : ∀ g sp, X.sp g = some sp → SpecOk X.C g sp) : ∀ (d : Nat) (nd : Bool), CallOk B h0 X nd (pcall X nd d)
  | 0, nd => by intro he; exact absurd he Ev.not_fail
  | d + 1, nd => by
    rename_i Q n g args st k
    intro he F ρ fr h args' hr ha
    unfold pcall at he
    obtain ⟨o, hs⟩ : ∃ o, X.sp g = o := ⟨_, rfl⟩
    cases o with
    | some sp =>
      rw [hs] at he
      simp only at he
      cases hb : (nd || !sp.nd) with
      | false => rw [hb] at he; exact absurd he Ev.not_fail
      | true =>
        rw [hb] at he
        exact sim_pspec (nd := nd) hs (hall g sp hs) (fun e => by rw [e] at hb; simpa using hb) he hr ha
    | none =>
      rw [hs] at he
      simp only at he
      split at he
      case h_2 => exact absurd he Ev.not_fail
      rename_i hp hsp
      have hc1 : CallOk B h0 X nd (pcall X nd d) := pcall_ok hmg hall d nd
      have hc2 : CallOk B h0 X false (pcall X false d) := pcall_ok hmg hall d false
      exact sim_enter hc1 hc2 hmg hsp hp hs he hr ha

theorem argsOf_len {st : PSt} : ∀ {l : List Sh} {ps : List PV} {r : Bool × (prodS l).T}, argsOf st l ps = some r → l.length = ps.length
  | [], [], _, _ => rfl
  | [], _ :: _, _, h => by cases h
  | [a], [p], _, _ => rfl
  | [a], [], _, h => by cases h
  | [a], _ :: _ :: _, _, h => by cases h
  | a :: b :: l, [], _, h => by cases h
  | a :: b :: l, p :: ps, _, h => by
    unfold argsOf at h
    split at h
    case h_2 => cases h
    rename_i e1 e2
    have := argsOf_len e2
    simp at this ⊢
    exact this
/-- the result of a tree, as data -/
def resVals (outs : List Sh) (v : PV) : List PV := match outs with
  | [_] => [v]
  | _ => match v with
    | .tup vs => vs
    | _ => [v]
def resOf (outs : List Sh) (v : PV) (ob : Ob) : Option (Bool × (prodS outs).T) := argsOf ⟨0, .leaf, ob, 0⟩ outs (resVals outs v)
/-- a tree ends, and all that it comes to is so -/
def Ends (X : PCtx) (t : Tr) (Q : PV → Ob → Prop) : Prop := ∃ n, Ev X Q n t
def Gives (sp : PSpec) (i : (prodS sp.ins).T) (v : PV) (ob : Ob) : Prop := ∃ y, resOf sp.outs v ob = some (true, y) ∧ y = sp.f i
theorem specOk_of (hmg : X.C.mg = false) (hall : ∀ g sp, X.sp g = some sp → SpecOk X.C g sp) {f : FuncId} {sp : PSpec} {d : Nat} (hsp : X.C.spec f = none) (hprim : X.C.prim f = none) (hno : X.sp f = none)
    (hev : ∀ i, sp.pre i = true → Ends X (tree X sp.nd d f (valsOf sp.ins i)) (Gives sp i)) (hfn : ∃ i, X.C.fn f = some i) : SpecOk X.C f sp := by
  refine ⟨hprim, hfn, fun F h args i hfrz hlt hargs hpre => ?_⟩
  obtain ⟨n, he⟩ := hev i hpre
  unfold tree at he
  have hr : Rel h.nx ⟨h, F⟩ F (fun _ => none) (mkSt 0 [] [] 0) ⟨0, .leaf⟩ h := by
    refine ⟨⟨rfl, fun t => ?_⟩, ⟨fun id o ho => (by cases ho), fun id id' o o' b n n' ho => (by cases ho), hfrz, fun id b n hb => (by cases hb), fun _ _ => rfl, fun _ _ => rfl, hlt, Nat.le_refl _, fun b cs hb => .inl hb⟩⟩
    show PR _ _ _ (((ofSlots []).get t).getD .any) _
    have : (ofSlots []).get t = none := PM.get_leaf t
    rw [this]
    simp [PR]
  obtain ⟨_, l, M, hM, hone, hall⟩ := sim_enter (pcall_ok hmg hall d sp.nd) (pcall_ok hmg hall d false) hmg hsp hprim hno he hr (hargs _ _)
  refine ⟨l, M, hM, hone, fun x hx => ?_⟩
  obtain ⟨n', hn, r, st', he', F', ρ', hp, hw, _⟩ := hall x hx
  have hq := he'.of_leaf
  obtain ⟨y, hy, rfl⟩ := hq
  have hold : ∀ b, b < h.nx → x.2.get b = h.get b := hw.rel.sr.old
  refine ⟨hw.nx, hold, hw.rel.sr.lt, ?_⟩
  have hvs : ∃ vs, PRs F' ρ' st'.nx (resVals sp.outs r) vs ∧ ((∃ a, sp.outs = [a]) → vs = [x.1]) ∧ ((∀ a, sp.outs ≠ [a]) → (∃ qs, r = .tup qs) → x.1 = .tup vs) := by
    unfold resVals
    split
    · rename_i a ha; exact ⟨[x.1], by simp only [PRs_cons, PRs_nil, and_true]; exact hp, fun _ => rfl, fun hne => absurd ha (hne _)⟩
    · rename_i hne
      split
      · rename_i qs
        simp only [PR] at hp
        obtain ⟨cs, e, h1⟩ := hp
        exact ⟨cs, h1, fun ⟨a, ha⟩ => absurd ha (hne a), fun _ _ => e⟩
      · rename_i hnt
        exact ⟨[x.1], by simp only [PRs_cons, PRs_nil, and_true]; exact hp, fun _ => rfl, fun _ ⟨qs, hqs⟩ => absurd hqs (hnt qs)⟩
  obtain ⟨vs, hvs1, hvs2, hvs3⟩ := hvs
  obtain ⟨F1, g1, g2, g3⟩ := handed (st := st') hw.rel.sr hvs1
  have hob : ∀ id, ObjEq (PSt.obj ⟨0, .leaf, st'.ob, 0⟩ id) (st'.obj id) := fun id => ObjEq.refl _
  have hres := g3 sp.outs _ (by rw [argsOf_eq hob]; exact hy)
  refine ⟨F1, fun b cs hb => g2 b cs (hw.le.fz b cs hb), fun b cs hb => g1.fo b cs hb, g1.frz, one_vals.2 ⟨vs, hres, ?_⟩⟩
  have hlen : sp.outs.length = (resVals sp.outs r).length := argsOf_len hy
  have hl2 := hvs1.len
  by_cases ho : ∃ a, sp.outs = [a]
  · rw [hvs2 ho]
  · have hne : ∀ a, sp.outs ≠ [a] := fun a ha => ho ⟨a, ha⟩
    have hn1 : sp.outs.length ≠ 1 := fun e => by
      obtain ⟨a, ha⟩ := List.length_eq_one_iff.1 e
      exact hne a ha
    have ht : ∃ qs, r = .tup qs := by
      cases r with
      | tup qs => exact ⟨qs, rfl⟩
      | _ =>
        exfalso
        apply hn1
        rw [hlen]
        unfold resVals
        split <;> rfl
    rw [hvs3 hne ht]
    split
    · rename_i u
      exact absurd (hlen.trans hl2) hn1
    · rfl
end
end Go.Pe
end
section
/- Trees of decisions: how it is shown what they come to. -/
namespace Go.Pe
open Go.Det
section
variable {X : PCtx} {Q Q' : PV → Ob → Prop}
theorem Ev.mono {n : Nat} {t : Tr} (he : Ev X Q n t) : ∀ {m : Nat}, n ≤ m → Ev X Q m t := by
  induction he with
  | leaf h => exact fun _ => .leaf h
  | ite _ _ i1 i2 => exact fun hm => .ite (fun e => i1 e hm) (fun e => i2 e hm)
  | alts _ ih => exact fun hm => .alts fun i hi => ih i hi hm
  | cut _ ih => exact fun hm => .cut (ih hm)
  | loop _ ih =>
    intro m hm
    obtain ⟨k, rfl⟩ : ∃ k, m = k + 1 := ⟨m - 1, by omega⟩
    exact .loop (ih (by omega))
theorem Ends.leaf {v : PV} {ob : Ob} (h : Q v ob) : Ends X (.leaf v ob) Q := ⟨0, .leaf h⟩
theorem Ends.ite {c : Bool} {a b : Tr} (h1 : c = true → Ends X a Q) (h2 : c = false → Ends X b Q) : Ends X (.ite c a b) Q := by
  cases c with
  | true => obtain ⟨n, h⟩ := h1 rfl; exact ⟨n, .ite (fun _ => h) (fun e => by cases e)⟩
  | false => obtain ⟨n, h⟩ := h2 rfl; exact ⟨n, .ite (fun e => by cases e) (fun _ => h)⟩
theorem Ends.tt {c : Bool} {a b : Tr} (hc : c = true) (h : Ends X a Q) : Ends X (.ite c a b) Q := Ends.ite (fun _ => h) (fun e => by rw [hc] at e; cases e)
theorem Ends.ff {c : Bool} {a b : Tr} (hc : c = false) (h : Ends X b Q) : Ends X (.ite c a b) Q := Ends.ite (fun e => by rw [hc] at e; cases e) (fun _ => h)
theorem Ends.alts {m : Nat} {f : Nat → Tr} (h : ∀ i, i < m → Ends X (f i) Q) : Ends X (.alts m f) Q := by
  have : ∀ k, k ≤ m → ∃ n, ∀ i, i < k → Ev X Q n (f i) := by
    intro k
    induction k with
    | zero => exact fun _ => ⟨0, fun i hi => absurd hi (Nat.not_lt_zero _)⟩
    | succ k ih =>
      intro hk
      obtain ⟨n, hn⟩ := ih (by omega)
      obtain ⟨n2, hn2⟩ := h k (by omega)
      refine ⟨max n n2, fun i hi => ?_⟩
      by_cases e : i = k
      · subst e; exact hn2.mono (by omega)
      · exact (hn i (by omega)).mono (by omega)
  obtain ⟨n, hn⟩ := this m (Nat.le_refl _)
  exact ⟨n, .alts hn⟩
/-- a loop's body, once -/
noncomputable def stepT (X : PCtx) : Tr → Tr
  | .loop nd d f base b st k => body X nd d f base b st k
  | .cut nd d f base b st k => cutB X nd d f base b st k
  | t => t
theorem Ends.step {t : Tr} (h : Ends X (stepT X t) Q) : Ends X t Q := by
  cases t with
  | loop => obtain ⟨n, h⟩ := h; exact ⟨n + 1, .loop h⟩
  | cut => obtain ⟨n, h⟩ := h; exact ⟨n, .cut h⟩
  | _ => exact h
theorem Ends.eq {t t' : Tr} (e : t = t') (h : Ends X t' Q) : Ends X t Q := e ▸ h
theorem Ends.steq {t t' : Tr} (e : stepT X t = t') (h : Ends X t' Q) : Ends X t Q := Ends.step (e ▸ h)
theorem Ends.mono {t : Tr} (h : Ends X t Q) (hq : ∀ v ob, Q v ob → Q' v ob) : Ends X t Q' := by
  obtain ⟨n, he⟩ := h
  refine ⟨n, ?_⟩
  induction he with
  | leaf h => exact .leaf (hq _ _ h)
  | ite _ _ i1 i2 => exact .ite i1 i2
  | alts _ ih => exact .alts ih
  | cut _ ih => exact .cut ih
  | loop _ ih => exact .loop ih
/-! ways through a tree -/
def Tr.L : Tr → Tr
  | .ite _ a _ => a
  | t => t
def Tr.R : Tr → Tr
  | .ite _ _ b => b
  | t => t
def Tr.A (i : Nat) : Tr → Tr
  | .alts _ f => f i
  | t => t
/-- the same loop, at another state -/
noncomputable def re : Tr → PSt → Tr
  | .loop nd d f base b _ k, st => .loop nd d f base b st k
  | .cut nd d f base b _ k, st => .cut nd d f base b st k
  | t, _ => t
/-- contracts in a list -/
def spOf : List (FuncId × PSpec) → FuncId → Option PSpec
  | [], _ => none
  | (g, s) :: l, f => bif Nat.beq g f then some s else spOf l f
theorem spOf_ok {C : Ctx} : ∀ {l : List (FuncId × PSpec)}, (∀ x ∈ l, SpecOk C x.1 x.2) → ∀ g sp, spOf l g = some sp → SpecOk C g sp
  | [], _, g, sp, h => by cases h
  | (g', s) :: l, hl, g, sp, h => by
    unfold spOf at h
    cases hb : Nat.beq g' g with
    | true =>
      rw [hb] at h; cases h
      have := Nat.eq_of_beq_eq_true hb
      subst this
      exact hl _ List.mem_cons_self
    | false => rw [hb] at h; exact spOf_ok (fun x hx => hl x (List.mem_cons_of_mem _ hx)) g sp h
/-- places in a list -/
def ctOf : List (FuncId × List Nat) → FuncId → Nat → Bool
  | [], _, _ => false
  | (g, t) :: l, f, r => bif Nat.beq g f then t.any (Nat.beq r) else ctOf l f r
/-- the slots that are kept, in a table -/
def plOf : List (FuncId × List (Nat × List Nat)) → FuncId → Nat → List Nat
  | [], _, _ => []
  | (g, t) :: l, f, r => bif Nat.beq g f then pl1 t r else plOf l f r
  where pl1 : List (Nat × List Nat) → Nat → List Nat
  | [], _ => []
  | (i, s) :: l, r => bif Nat.beq i r then s else pl1 l r
end
end Go.Pe
end
