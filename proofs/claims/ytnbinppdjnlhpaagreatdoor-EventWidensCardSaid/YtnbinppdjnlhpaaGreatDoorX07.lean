import Derived.Test.YtnbinppdjnlhpaaGreatDoorX06
import Derived.RangeFuncRecord
import Derived.RangeFuncLeaves
import Derived.Scope
/- A part of the proofs of the laws of one chapter (no law is stated here). Made by program out of texts by AI agents. -/
section
namespace Go.Det
noncomputable section
mutual
def V.beq : V → V → Bool
  | .bool a, .bool b => a == b
  | .int k a, .int l b => k == l && a == b
  | .str a, .str b => a == b
  | .nilp, .nilp => true
  | .ptr a i, .ptr b j => Nat.beq a b && Nat.beq i j
  | .nils, .nils => true
  | .sl a b c d e, .sl a' b' c' d' e' => Nat.beq a a' && Nat.beq b b' && Nat.beq c c' && Nat.beq d d' && Nat.beq e e'
  | .esl, .esl => true
  | .es0, .es0 => true
  | .junk, .junk => true
  | .nilm, .nilm => true
  | .map a, .map b => Nat.beq a b
  | .yld a, .yld b => Nat.beq a b
  | .nilf, .nilf => true
  | .nili, .nili => true
  | .fn f a b, .fn g c d => f == g && V.beqs a c && V.beqs b d
  | .iface t x, .iface u y => Nat.beq t u && V.beq x y
  | .agg a, .agg b => V.beqs a b
  | .tup a, .tup b => V.beqs a b
  | _, _ => false
def V.beqs : List V → List V → Bool
  | [], [] => true
  | a :: as, b :: bs => V.beq a b && V.beqs as bs
  | _, _ => false
end
mutual
theorem V.beq_eq : ∀ {a b : V}, V.beq a b = true → a = b := by
  intro a b h
  cases a <;> cases b <;> simp only [V.beq] at h <;> first
    | (cases h; done)
    | rfl
    | (simp only [Bool.and_eq_true, beq_iff_eq, beq_t, decide_eq_true_eq] at h; first | (obtain rfl := h; rfl) | (obtain ⟨rfl, rfl⟩ := h; rfl) | (obtain ⟨⟨⟨⟨rfl, rfl⟩, rfl⟩, rfl⟩, rfl⟩ := h; rfl))
    | skip
  case fn.fn f a b g c d =>
    simp only [Bool.and_eq_true, beq_iff_eq] at h
    rw [h.1.1, V.beqs_eq h.1.2, V.beqs_eq h.2]
  case iface.iface t x u y =>
    simp only [Bool.and_eq_true, beq_t, decide_eq_true_eq] at h
    rw [h.1, V.beq_eq h.2]
  case agg.agg a b => rw [V.beqs_eq h]
  case tup.tup a b => rw [V.beqs_eq h]
theorem V.beqs_eq : ∀ {a b : List V}, V.beqs a b = true → a = b
  | [], [], _ => rfl
  | [], _ :: _, h => by simp [V.beqs] at h
  | _ :: _, [], h => by simp [V.beqs] at h
  | a :: as, b :: bs, h => by
    simp only [V.beqs, Bool.and_eq_true] at h
    rw [V.beq_eq h.1, V.beqs_eq h.2]
end
/-- a load that has been carried out: its number, itself, the frame before it, its value -/
structure Rc where
  i : Nat
  o : Oper
  f : Fr
  v : V
structure St where
  f : Fr
  h : H
  r : List Rc
def still (C : Ctx) (anc : Nat → Nat → Bool) (i : Nat) (h : H) (r : Rc) : Bool :=
  anc i r.i || (match dop C r.f h r.o with
    | some (.val x _) => V.beq x r.v
    | _ => false)
def stepD (C : Ctx) (call : CallF) (ops : Array Oper) (anc : Nat → Nat → Bool) (i : Nat) (s : St) : Option (V × St) :=
  match ops[i]? with
  | none => none
  | some o =>
    bif wantedD s.f ops o then
      bif isRd o then
        match dop C s.f s.h o with
        | some (.val v _) => match s.f.put o.dst v with
          | some f' => some (v, ⟨f', s.h, bif isHd o then ⟨i, o, s.f, v⟩ :: s.r else s.r⟩)
          | none => none
        | _ => none
      else bif isAl o then
        match dal C s.f o with
        | some (ob, f) => match s.f.put o.dst (f s.h.nx) with
          | some f' => some (f s.h.nx, ⟨f', s.h.push ob, s.r⟩)
          | none => none
        | none => none
      else
        match hstep C call s.f s.h o with
        | some (v, h') => match s.f.put o.dst v with
          | some f' => bif s.r.all (still C anc i h') then some (v, ⟨f', h', s.r⟩) else none
          | none => none
        | none => none
    else
      match s.f.put o.dst (.tup []) with
      | some f' => bif isHv o then (bif s.r.all (still C anc i s.h) then some (.tup [], ⟨f', s.h, s.r⟩) else none) else some (.tup [], ⟨f', s.h, s.r⟩)
      | none => none
def drun (C : Ctx) (call : CallF) (ops : Array Oper) (anc : Nat → Nat → Bool) : List Nat → St → Option St
  | [], s => some s
  | i :: is, s => match stepD C call ops anc i s with
    | some (_, s') => drun C call ops anc is s'
    | none => none
/-- with the check of the plan made elsewhere -/
def ddrawT (C : Ctx) (call : CallF) (ops : Array Oper) (fr : Fr) (h : H) : Option (Fr × H) :=
  match drun C call ops (mkPlan ops).a (mkPlan ops).ord ⟨fr, h, []⟩ with
  | some s => some (s.f, s.h)
  | none => none
def ddraw (C : Ctx) (call : CallF) (ops : Array Oper) (fr : Fr) (h : H) : Option (Fr × H) :=
  bif statB ops (mkPlan ops) then ddrawT C call ops fr h else none
/-- the plans of all drawing regions are checked -/
def certC : Code → Bool
  | .region _ ops dr => bif dr then statB ops (mkPlan ops) else true
  | .seq a b => certC a && certC b
  | .cond _ a b => certC a && certC b
  | .block _ b => certC b
  | .loop b => certC b
  | .scope b => certC b
  | _ => true
section
variable {C : Ctx} {P : Program} {call : CallF} {ops : Array Oper} {p : Pl} {h : H} {w : World} {fr : Fr} {a : Act}
theorem put_spec {f f' : Fr} {d : Option Nat} {v : V} (h : f.put d v = some f') : f'.n = f.n ∧ (∀ t, f'.get t = if d = some t then v else f.get t) ∧ ∀ t, d = some t → t < f.n := by
  unfold Fr.put at h
  cases d with
  | none => cases h; exact ⟨rfl, fun t => by simp, fun t h => by cases h⟩
  | some s =>
    simp only [blt_t] at h
    by_cases hlt : s < f.n
    · simp only [hlt, decide_true, cond_true, Option.some.injEq] at h
      subst h
      refine ⟨rfl, fun t => ?_, fun t ht => by cases ht; exact hlt⟩
      unfold Fr.get
      simp only [PM.get_set]
      by_cases e : t = s
      · subst e; simp
      · have : ¬ s = t := fun x => e x.symm
        simp [e, this]
    · simp [hlt] at h
/-- what one step of the evaluator says -/
theorem stepD_spec {anc : Nat → Nat → Bool} {i : Nat} {s s' : St} {v : V} (hd : stepD C call ops anc i s = some (v, s')) : ∃ o, ops[i]? = some o ∧ s'.f.n = s.f.n ∧ (∀ t, s'.f.get t = if o.dst = some t then v else s.f.get t) ∧ (∀ t, o.dst = some t → t < s.f.n) ∧
    ((wantedD s.f ops o = false ∧ v = .tup [] ∧ s'.h = s.h) ∨
     (wantedD s.f ops o = true ∧
      ((isRd o = true ∧ dop C s.f s.h o = some (.val v s.h) ∧ s'.h = s.h) ∨
       (isAl o = true ∧ ∃ ob f, dal C s.f o = some (ob, f) ∧ v = f s.h.nx ∧ s'.h = s.h.push ob) ∨
       (isHv o = true ∧ hstep C call s.f s.h o = some (v, s'.h))))) ∧
    (∀ r ∈ s.r, r ∈ s'.r) ∧ (isRd o = true → isHd o = true → wantedD s.f ops o = true → ⟨i, o, s.f, v⟩ ∈ s'.r) ∧
    (isHv o = true → ∀ r ∈ s.r, still C anc i s'.h r = true) := by
  unfold stepD at hd
  split at hd
  case h_1 => cases hd
  rename_i o ho
  refine ⟨o, ho, ?_⟩
  cases hw : wantedD s.f ops o with
  | false =>
    simp only [hw, cond_false] at hd
    split at hd
    case h_2 => cases hd
    rename_i f' hp
    obtain ⟨k1, k2, k3⟩ := put_spec hp
    cases hv : isHv o with
    | false =>
      simp only [hv, cond_false, Option.some.injEq, Prod.mk.injEq] at hd
      obtain ⟨rfl, rfl⟩ := hd
      exact ⟨k1, k2, k3, .inl ⟨rfl, rfl, rfl⟩, fun r hr => hr, fun _ _ h => (by cases h), fun h => (by cases h)⟩
    | true =>
      simp only [hv, cond_true] at hd
      cases hs : s.r.all (still C anc i s.h) with
      | false => simp [hs] at hd
      | true =>
        simp only [hs, cond_true, Option.some.injEq, Prod.mk.injEq] at hd
        obtain ⟨rfl, rfl⟩ := hd
        exact ⟨k1, k2, k3, .inl ⟨rfl, rfl, rfl⟩, fun r hr => hr, fun _ _ h => (by cases h), fun _ r hr => List.all_eq_true.1 hs r hr⟩
  | true =>
    simp only [hw, cond_true] at hd
    cases hrd : isRd o with
    | true =>
      simp only [hrd, cond_true] at hd
      split at hd
      case h_2 => cases hd
      rename_i v1 h1 hop
      split at hd
      case h_2 => cases hd
      rename_i f' hp
      simp only [Option.some.injEq, Prod.mk.injEq] at hd
      obtain ⟨rfl, rfl⟩ := hd
      obtain ⟨k1, k2, k3⟩ := put_spec hp
      obtain ⟨v2, hv2⟩ := rd_val hrd hop
      cases hv2
      refine ⟨k1, k2, k3, .inr ⟨rfl, .inl ⟨rfl, hop, rfl⟩⟩, fun r hr => ?_, fun _ hh _ => ?_, fun hv => by rw [(hv_not hv).1] at hrd; cases hrd⟩
      · cases isHd o <;> simp [hr]
      · simp [hh]
    | false =>
      simp only [hrd, cond_false] at hd
      cases hal : isAl o with
      | true =>
        simp only [hal, cond_true] at hd
        split at hd
        case h_2 => cases hd
        rename_i ob f hdal
        split at hd
        case h_2 => cases hd
        rename_i f' hp
        simp only [Option.some.injEq, Prod.mk.injEq] at hd
        obtain ⟨rfl, rfl⟩ := hd
        obtain ⟨k1, k2, k3⟩ := put_spec hp
        exact ⟨k1, k2, k3, .inr ⟨rfl, .inr (.inl ⟨rfl, ob, f, hdal, rfl, rfl⟩)⟩, fun r hr => hr, fun h => (by cases h), fun hv => by rw [(hv_not hv).2] at hal; cases hal⟩
      | false =>
        simp only [hal, cond_false] at hd
        split at hd
        case h_2 => cases hd
        rename_i v1 h1 hst
        split at hd
        case h_2 => cases hd
        rename_i f' hp
        obtain ⟨k1, k2, k3⟩ := put_spec hp
        cases hs : s.r.all (still C anc i h1) with
        | false => simp [hs] at hd
        | true =>
          simp only [hs, cond_true, Option.some.injEq, Prod.mk.injEq] at hd
          obtain ⟨rfl, rfl⟩ := hd
          exact ⟨k1, k2, k3, .inr ⟨rfl, .inr (.inr ⟨by simp [isHv, hrd, hal], hst⟩)⟩, fun r hr => hr, fun h => (by cases h), fun _ r hr => List.all_eq_true.1 hs r hr⟩
theorem drun_states {anc : Nat → Nat → Bool} : ∀ (L : List Nat) (s s' : St), drun C call ops anc L s = some s' →
    ∃ (sq : Nat → St) (vq : Nat → V), sq 0 = s ∧ sq L.length = s' ∧ ∀ (q i : Nat), L[q]? = some i → stepD C call ops anc i (sq q) = some (vq q, sq (q + 1))
  | [], s, s', h => by
    cases h
    exact ⟨fun _ => s, fun _ => .nilp, rfl, rfl, fun q i h => by simp at h⟩
  | i :: L, s, s', h => by
    unfold drun at h
    split at h
    case h_2 => cases h
    rename_i v s1 hs
    obtain ⟨sq, vq, h0, hn, hq⟩ := drun_states L s1 s' h
    refine ⟨fun q => match q with | 0 => s | q + 1 => sq q, fun q => match q with | 0 => v | q + 1 => vq q, rfl, by simpa using hn, fun q j hj => ?_⟩
    cases q with
    | zero => simp at hj; subst hj; simp only [h0]; exact hs
    | succ q => simp at hj; exact hq q j hj
theorem canon_of {pl : Plan} (hs : statB ops pl = true) {s' : St} (hd : drun C call ops pl.a pl.ord ⟨fr, h, []⟩ = some s') :
    ∃ (v : Nat → V) (Hh : Nat → H) (F : Nat → Fr), Canon C call ops pl.a (idx pl.ord) (idx pl.pos) fr h v Hh F ∧ Hh ops.size = s'.h ∧ F ops.size = s'.f := by
  have st := stat_of hs
  have hl := ord_len hs
  obtain ⟨sq, vq, h0, hn, hq⟩ := drun_states pl.ord _ _ hd
  have hstep : ∀ q, q < ops.size → stepD C call ops pl.a (idx pl.ord q) (sq q) = some (vq q, sq (q + 1)) := by
    intro q hqn
    refine hq q _ ?_
    unfold idx
    rw [List.getD_eq_getElem?_getD, List.getElem?_eq_getElem (by omega)]; rfl
  have hfn : ∀ q, q ≤ ops.size → (sq q).f.n = fr.n := by
    intro q
    induction q with
    | zero => intro _; rw [h0]
    | succ q ih =>
      intro hqn
      obtain ⟨o, _, g1, _⟩ := stepD_spec (hstep q (by omega))
      rw [g1, ih (by omega)]
  have hmono : ∀ q q', q ≤ q' → q' ≤ ops.size → ∀ r ∈ (sq q).r, r ∈ (sq q').r := by
    intro q q' hle
    induction q' with
    | zero => intro _ r hr; have : q = 0 := by omega
              subst this; exact hr
    | succ q' ih =>
      intro hqn r hr
      by_cases e : q = q' + 1
      · subst e; exact hr
      · obtain ⟨o, _, _, _, _, _, g, _⟩ := stepD_spec (hstep q' (by omega))
        exact g r (ih (by omega) (by omega) r hr)
  refine ⟨fun i => vq (idx pl.pos i), fun q => (sq q).h, fun q => (sq q).f, ⟨by simp [h0], by simp [h0], hfn, fun q hqn o ho t => ?_, fun i o t ho ht => ?_, fun i o ho => ?_, fun i j o oj ho hj hhv hrd hhd hw hlt hanc => ?_⟩, by simp [← hl, hn], by simp [← hl, hn]⟩
  · obtain ⟨o', g0, _, g1, _⟩ := stepD_spec (hstep q hqn)
    rw [ho] at g0; cases g0
    simp only [(st.ordp q hqn).2]
    exact g1 t
  · have hin := (Array.getElem?_eq_some_iff.1 ho).1
    have hp := st.posp i hin
    obtain ⟨o', g0, _, _, g2, _⟩ := stepD_spec (hstep _ hp.1)
    rw [hp.2, ho] at g0; cases g0
    rw [← hfn _ (Nat.le_of_lt hp.1)]; exact g2 t ht
  · have hin := (Array.getElem?_eq_some_iff.1 ho).1
    have hp := st.posp i hin
    obtain ⟨o', g0, _, _, _, g3, _⟩ := stepD_spec (hstep _ hp.1)
    rw [hp.2, ho] at g0; cases g0
    exact g3
  · have hin := (Array.getElem?_eq_some_iff.1 ho).1
    have hjn := (Array.getElem?_eq_some_iff.1 hj).1
    have hpi := st.posp i hin
    have hpj := st.posp j hjn
    obtain ⟨o', g0, _, _, _, _, _, g4, _⟩ := stepD_spec (hstep _ hpj.1)
    rw [hpj.2, hj] at g0; cases g0
    have hmem := hmono _ (idx pl.pos i) (by omega) (Nat.le_of_lt hpi.1) _ (g4 hrd hhd hw)
    obtain ⟨o'', g0, _, _, _, _, _, _, g5⟩ := stepD_spec (hstep _ hpi.1)
    rw [hpi.2, ho] at g0; cases g0
    have h6 := g5 hhv _ hmem
    unfold still at h6
    rw [hpj.2] at h6
    rw [hpi.2, hanc] at h6
    simp only [Bool.false_or] at h6
    split at h6
    case h_2 => cases h6
    rename_i x hx hop
    obtain ⟨y, hy⟩ := rd_val hrd hop
    cases hy
    rw [V.beq_eq h6] at hop
    exact hop
/-- **a region whose order the model draws, carried out by the evaluator** -/
theorem sim_ddrawT (hs : statB ops (mkPlan ops) = true) (hC : C.Ok P) (hcall : call.Ok C P) (hm : P.follows .mixedOrders = true) (hr : R p h w) (hg : Gl C p) (hf : FRel p fr a) {fr' : Fr} {h' : H} (hd : ddrawT C call ops fr h = some (fr', h')) {id : Nat} {ro : Option Nat} {nn : Nat} {Q : Exit → Act → World → Prop}
    (hQ : ∀ p' a' w', FRel p' fr' a' → Ext p h w p' h' w' → a'.defers = a.defers → Q .normal a' w') : (Code.region id ops true).wpIn (FW ro) nn P Q a w := by
  unfold ddrawT at hd
  split at hd
  case h_2 => cases hd
  rename_i s hrun
  cases hd
  obtain ⟨v, Hh, F, hc, h1, h2⟩ := canon_of hs hrun
  refine sim_draw hC hcall hm (stat_of hs) hc hr hg hf fun p' a' w' g1 g2 g3 => hQ p' a' w' ?_ ?_ g3
  · rw [← h2]; exact g1
  · rw [← h1]; exact g2
theorem sim_ddraw (hC : C.Ok P) (hcall : call.Ok C P) (hm : P.follows .mixedOrders = true) (hr : R p h w) (hg : Gl C p) (hf : FRel p fr a) {fr' : Fr} {h' : H} (hd : ddraw C call ops fr h = some (fr', h')) {id : Nat} {ro : Option Nat} {nn : Nat} {Q : Exit → Act → World → Prop}
    (hQ : ∀ p' a' w', FRel p' fr' a' → Ext p h w p' h' w' → a'.defers = a.defers → Q .normal a' w') : (Code.region id ops true).wpIn (FW ro) nn P Q a w := by
  unfold ddraw at hd
  cases hs : statB ops (mkPlan ops) with
  | false => simp [hs] at hd
  | true =>
    simp only [hs, cond_true] at hd
    exact sim_ddrawT hs hC hcall hm hr hg hf hd hQ
end
section
variable {P : Program} {F : Fence} {n : Nat} {b : Frame} {a : Act} {k : List Item} {cs : List Frame} {w : World} {Q : Exit → Act → World → Prop}
theorem stepR_scope {c : Code} : step P (lone (b.atR a (.code (.scope c) :: k)) cs w) = .next (lone (b.atR a (.code c :: .inScope c :: k)) cs w) :=
  step_lone_go (by simp [stepG, stepG.exec, Frame.atR])
theorem stepR_inScope {c : Code} : step P (lone (b.atR a (.inScope c :: k)) cs w) = .next (lone (b.atR a k) cs w) :=
  step_lone_go (by simp [stepG, stepG.exec, Frame.atR])
theorem wpIn_scope_straight {c : Code} (h : c.wpIn F n P (Exit.noGoto Q) a w) : (Code.scope c).wpIn F n P Q a w := by
  intro b k cs hro hb hr
  have h0 : (lone (b.atR a (.code (.scope c) :: k)) cs w).fenced P F := fenced_calm hb hr rfl
  obtain ⟨e, a₁, w₁, hq, harr⟩ := h b (.inScope c :: k) cs hro hb hr
  cases e with
  | normal => exact ⟨.normal, a₁, w₁, hq, .head h0 stepR_scope (StepsIn.trans harr (.one (fenced_calm hb hr rfl) stepR_inScope))⟩
  | exit id =>
    have hx : exitTo id (.inScope c :: k) = exitTo id k := by simp [exitTo]
    exact ⟨.exit id, a₁, w₁, hq, fun k' hk => .head h0 stepR_scope (harr.1 k' (by rw [hx]; exact hk)),
      fun hr' hk => let ⟨k₁, h1, h2⟩ := harr.2 hr' (by rw [hx]; exact hk); ⟨k₁, h1, .head h0 stepR_scope h2⟩⟩
  | goto l => exact hq.elim
  | ret => exact ⟨_, a₁, w₁, hq, .of_steps (.one h0 stepR_scope) harr⟩
  | panic ch => exact ⟨_, a₁, w₁, hq, .of_steps (.one h0 stepR_scope) harr⟩
  | outgrown => exact ⟨_, a₁, w₁, hq, .of_steps (.one h0 stepR_scope) harr⟩
end
/-- an outcome: how it was left, the frame, the memory, the blocks of the marks among the deferred calls -/
structure X where
  e : DX
  fr : Fr
  h : H
  ds : List Nat
/-- the record of a range over a function is laid -/
def enterD (ro : Option Nat) (fr : Fr) (h : H) (ps : Array Tmp) (asg body : Code) (ds : List Nat) : Option (Nat × H × List Nat) :=
  match ro with
  | none => some (h.nx + 1, (h.push (.defd true)).push (.loop ⟨.ready, none, fr, ps, asg, body, h.nx⟩), h.nx :: ds)
  | some b => match h.get b with
    | some (.loop l) => some (h.nx, h.push (.loop ⟨.ready, none, fr, ps, asg, body, l.db⟩), ds)
    | _ => none
def dcode (C : Ctx) (call : CallF) (ro : Option Nat) (ct : Bool) : Nat → Code → Fr → H → List Nat → Option (List X)
  | 0, _, _, _, _ => none
  | m + 1, c, fr, h, ds =>
    match c with
    | .skip | .label _ => some [⟨.normal, fr, h, ds⟩]
    | .region _ ops dr => bif dr then (match (bif ct then ddrawT C call ops fr h else ddraw C call ops fr h) with
        | some (fr', h') => some [⟨.normal, fr', h', ds⟩]
        | none => none)
      else (match dops C call ops ops.toList fr h with
        | some l => some (l.map fun x => ⟨.normal, x.1, x.2, ds⟩)
        | none => none)
    | .seq a b => match dcode C call ro ct m a fr h ds with
      | some l => bl l fun x => match x.e with
        | .normal => dcode C call ro ct m b x.fr x.h x.ds
        | _ => some [x]
      | none => none
    | .cond x a b => match ev C fr x with
      | some (.bool true) => dcode C call ro ct m a fr h ds
      | some (.bool false) => dcode C call ro ct m b fr h ds
      | _ => none
    | .block id b => match dcode C call ro ct m b fr h ds with
      | some l => some (l.map fun x => match x.e with
        | .exit i => bif Nat.beq i id then { x with e := .normal } else x
        | _ => x)
      | none => none
    | .loop b => match dcode C call ro ct m b fr h ds with
      | some l => bl l fun x => match x.e with
        | .normal => dcode C call ro ct m (.loop b) x.fr x.h x.ds
        | _ => some [x]
      | none => none
    | .exit i => some [⟨.exit i, fr, h, ds⟩]
    | .ret => some [⟨.ret, fr, h, ds⟩]
    | .scope b => dcode C call ro ct m b fr h ds
    | .rangeFunc g ps asg body => match enterD ro fr h ps asg body ds, ev C fr g with
      | some (b, h1, ds1), some g' => match dcall C h1 g' [.yld b] with
        | some (.enter f args) => match call (.fn f args) h1 with
          | some l => bl l fun x => match x.2.get b with
            | some (.loop ls) => match ls.st, ls.pend with
              | .busy, _ => none
              | _, none => some [⟨.normal, fr, x.2.put b (.loop { ls with st := .exhausted }), ds1⟩]
              | _, some c => dcode C call ro false m c fr (x.2.put b (.loop { ls with st := .exhausted })) ds1
            | _ => none
          | none => none
        | _ => none
      | _, _ => none
    | _ => none
/-- the marks among the deferred calls -/
def DRel (p : Pl) : List Nat → List Deferred → Prop
  | [], l => l = []
  | b :: bs, l => ∃ r n l', p[b]? = some (r, n) ∧ l = { target := .collected r, args := #[] } :: l' ∧ DRel p bs l'
theorem getPl_mono {p : Pl} (q : Pl) {b : Nat} {x : Nat × Nat} (h : p[b]? = some x) : (p ++ q)[b]? = some x := by
  rw [List.getElem?_append_left (List.getElem?_eq_some_iff.1 h).1]; exact h
theorem DRel.mono {p : Pl} (q : Pl) : ∀ {ds : List Nat} {l : List Deferred}, DRel p ds l → DRel (p ++ q) ds l
  | [], _, h => h
  | _b :: _bs, _l, ⟨r, n, l', h1, h2, h3⟩ => ⟨r, n, l', getPl_mono q h1, h2, h3.mono q⟩
theorem DRel.ext {p p' : Pl} {h h' : H} {w w' : World} (e : Ext p h w p' h' w') {ds : List Nat} {l : List Deferred} (hd : DRel p ds l) : DRel p' ds l := by
  obtain ⟨q, rfl⟩ := e.pre; exact hd.mono q
/-- the frame is one of the round of this record -/
def RoRel (p : Pl) : Option Nat → Option Nat → Prop
  | none, none => True
  | some b, some r => ∃ n, p[b]? = some (r, n)
  | _, _ => False
theorem RoRel.ext {p p' : Pl} {h h' : H} {w w' : World} (e : Ext p h w p' h' w') {ro k : Option Nat} (hd : RoRel p ro k) : RoRel p' ro k := by
  obtain ⟨q, rfl⟩ := e.pre
  cases ro with
  | none => cases k with
    | none => trivial
    | some r => exact hd.elim
  | some b =>
    cases k with
    | none => exact hd
    | some r => obtain ⟨n, hn⟩ := hd; exact ⟨n, getPl_mono q hn⟩
theorem Ext.at {p p' : Pl} {h h' : H} {w w' : World} (e : Ext p h w p' h' w') {b : Nat} {x : Nat × Nat} (hb : p[b]? = some x) : p'[b]? = some x := by
  obtain ⟨q, rfl⟩ := e.pre; exact getPl_mono q hb
section
variable {C : Ctx} {P : Program} {call : CallF} {ops : Array Oper} {p : Pl} {h : H} {w : World} {fr : Fr} {a : Act}
theorem sim_enter (hr : R p h w) (hf : FRel p fr a) {ro k : Option Nat} (hro : RoRel p ro k) {ps : Array Tmp} {asg body : Code} {ds ds1 : List Nat} (hds : DRel p ds a.defers) {b : Nat} {h1 : H}
    (hd : enterD ro fr h ps asg body ds = some (b, h1, ds1)) (fn : FuncId) : ∃ l mark w1 p1 n, (Instr.enterLoop fn a.tmps ps asg body k).run P w = .ok (l, mark) w1 ∧ Ext p h w p1 h1 w1 ∧ p1[b]? = some (l, n) ∧ DRel p1 ds1 (mark ++ a.defers) := by
  unfold enterD at hd
  cases ro with
  | none =>
    cases k with
    | some k => exact hro.elim
    | none =>
      simp only [Option.some.injEq, Prod.mk.injEq] at hd
      obtain ⟨rfl, rfl, rfl⟩ := hd
      have e1 := Ext.push (n := 0) hr (o := .defd true) (x := .deferred (some [])) (by simp [ORel])
      have hp1 : (p ++ [(w.heap.size, 0)])[h.nx]? = some (w.heap.size, 0) := by rw [← hr.len]; simp
      have hf1 : FRelT (p ++ [(w.heap.size, 0)]) fr a.tmps := FRelT.mono _ hf
      have e2 := Ext.push (n := 0) e1.rel (o := .loop ⟨.ready, none, fr, ps, asg, body, h.nx⟩) (x := .loop { state := .ready, pending := none, fn, tmps := a.tmps, params := ps, assign := asg, body, defers := w.heap.size })
        ⟨fn, a.tmps, _, _, hf1, hp1, rfl⟩
      refine ⟨_, _, _, _, 0, run_enterLoop_outer fn a.tmps ps asg body, e1.trans e2, ?_, ?_⟩
      · have : h.nx + 1 = (p ++ [(w.heap.size, 0)]).length := by simp [hr.len]
        rw [this, List.getElem?_append_right (Nat.le_refl _)]
        simp only [Nat.sub_self, List.getElem?_cons_zero, Option.some.injEq, Prod.mk.injEq, and_true]
        simp
      · exact ⟨w.heap.size, 0, a.defers, getPl_mono _ hp1, rfl, DRel.mono _ (DRel.mono _ hds)⟩
  | some b0 =>
    cases k with
    | none => exact hro.elim
    | some k =>
      simp only at hd
      split at hd
      case h_2 => cases hd
      rename_i l0 hb0
      simp only [Option.some.injEq, Prod.mk.injEq] at hd
      obtain ⟨rfl, rfl, rfl⟩ := hd
      obtain ⟨n0, hn0⟩ := hro
      obtain ⟨r', n', x, h1, h2, f0, tmps, r, m, h3, h4, rfl⟩ := hr.obj _ _ hb0
      rw [hn0] at h1; cases h1
      have e2 := Ext.push (n := 0) hr (o := .loop ⟨.ready, none, fr, ps, asg, body, l0.db⟩) (x := .loop { state := .ready, pending := none, fn, tmps := a.tmps, params := ps, assign := asg, body, defers := r })
        ⟨fn, a.tmps, _, _, hf, h4, rfl⟩
      refine ⟨w.heap.size, [], _, _, 0, ?_, e2, ?_, ?_⟩
      · unfold Instr.enterLoop
        simp only [Sem.run_bind, run_getLoop h2, run_newObj_alloc, Result.andThen_ok, Sem.run_pure, World.alloc]
      · rw [← hr.len]; simp
      · exact DRel.mono _ hds
theorem Result.of_andThen {α β : Type} {r : Result α} {f : α → World → Result β} {b : β} {w' : World} (h : r.andThen f = .ok b w') : ∃ a w1, r = .ok a w1 ∧ f a w1 = .ok b w' := by
  cases r with
  | ok a w1 => exact ⟨a, w1, rfl, h⟩
  | halt x w1 => simp [Result.andThen] at h
theorem sim_code (hC : C.Ok P) (hcall : call.Ok C P) (hm : P.follows .mixedOrders = true) {ro k : Option Nat} {n : Nat} : ∀ (m : Nat) (ct : Bool) (c : Code) {fr : Fr} {h : H} {ds : List Nat} {L : List X}, (ct = true → certC c = true) → dcode C call ro ct m c fr h ds = some L →
    ∀ (p : Pl) (a : Act) (w : World) (Q : Exit → Act → World → Prop), R p h w → Gl C p → FRel p fr a → DRel p ds a.defers → RoRel p ro k →
      (∀ x ∈ L, ∀ p' a' w', FRel p' x.fr a' → Ext p h w p' x.h w' → DRel p' x.ds a'.defers → Q x.e.toExit a' w') →
      c.wpIn (FW k) n P Q a w ∧ ∀ b, c = .loop b → Code.roundsIn (FW k) n P b Q m a w
  | 0, ct, c, fr, h, ds, L, hct, hd => by cases hd
  | m + 1, ct, c, fr, h, ds, L, hct, hd => by
    intro p a w Q hr hg hf hds hro hQ
    have ih : ∀ {ct : Bool} (c : Code) {fr : Fr} {h : H} {ds : List Nat} {L : List X}, (ct = true → certC c = true) → dcode C call ro ct m c fr h ds = some L → ∀ {p : Pl} {a : Act} {w : World}, R p h w → Gl C p → FRel p fr a → DRel p ds a.defers → RoRel p ro k →
        ∀ {Q : Exit → Act → World → Prop}, (∀ x ∈ L, ∀ p' a' w', FRel p' x.fr a' → Ext p h w p' x.h w' → DRel p' x.ds a'.defers → Q x.e.toExit a' w') →
      c.wpIn (FW k) n P Q a w ∧ ∀ b, c = .loop b → Code.roundsIn (FW k) n P b Q m a w := fun {ct} c {fr h ds L} hct hd {p a w} hr hg hf hds hro {Q} hQ => sim_code hC hcall hm m ct c hct hd p a w Q hr hg hf hds hro hQ
    cases c with
    | skip => cases hd; exact ⟨wpIn_skip (hQ _ (List.mem_singleton.2 rfl) p a w hf (Ext.refl hr) hds), fun b hb => by cases hb⟩
    | label l => cases hd; exact ⟨wpIn_label (hQ _ (List.mem_singleton.2 rfl) p a w hf (Ext.refl hr) hds), fun b hb => by cases hb⟩
    | region id ops dr =>
      refine ⟨?_, fun b hb => by cases hb⟩
      simp only [dcode] at hd
      cases dr with
      | true =>
        simp only [cond_true] at hd
        split at hd
        case h_2 => cases hd
        rename_i fr1 h1 hs
        cases hd
        refine (show ∀ {Q' : Exit → Act → World → Prop}, (∀ p' a' w', FRel p' fr1 a' → Ext p h w p' h1 w' → a'.defers = a.defers → Q' .normal a' w') → (Code.region id ops true).wpIn (FW k) n P Q' a w from fun {Q'} hq => ?_) fun p1 a1 w1 hf1 he1 hd1 => hQ _ (List.mem_singleton.2 rfl) p1 a1 w1 hf1 he1 (hd1 ▸ hds.ext he1)
        cases ct with
        | false => exact sim_ddraw hC hcall hm hr hg hf hs hq
        | true => exact sim_ddrawT (by simpa [certC] using hct rfl) hC hcall hm hr hg hf hs hq
      | false =>
        simp only [cond_false] at hd
        split at hd
        case h_2 => cases hd
        rename_i l hs
        cases hd
        exact sim_region hC hcall hr hg hf hs fun x hx p1 a1 w1 hf1 he1 hd1 => hQ _ (List.mem_map.2 ⟨x, hx, rfl⟩) p1 a1 w1 hf1 he1 (hd1 ▸ hds.ext he1)
    | seq x y =>
      refine ⟨wpIn_seq ?_, fun b hb => by cases hb⟩
      simp only [dcode] at hd
      split at hd
      case h_2 => cases hd
      rename_i l hs
      refine (ih x (fun e => by have := hct e; simp [certC] at this; exact this.1) hs hr hg hf hds hro fun z hz p1 a1 w1 hf1 he1 hd1 => ?_).1
      obtain ⟨L1, g1, g2⟩ := bl_mem hd z hz
      cases hze : z.e with
      | normal =>
        simp only [hze] at g1
        exact (ih y (fun e => by have := hct e; simp [certC] at this; exact this.2) g1 he1.rel (hg.ext he1) hf1 hd1 (hro.ext he1) fun u hu p2 a2 w2 hf2 he2 hd2 => hQ u (g2 u hu) p2 a2 w2 hf2 (he1.trans he2) hd2).1
      | exit i =>
        simp only [hze, Option.some.injEq] at g1; subst g1
        have := hQ z (g2 z (List.mem_singleton.2 rfl)) p1 a1 w1 hf1 he1 hd1
        rw [hze] at this; exact this
      | ret =>
        simp only [hze, Option.some.injEq] at g1; subst g1
        have := hQ z (g2 z (List.mem_singleton.2 rfl)) p1 a1 w1 hf1 he1 hd1
        rw [hze] at this; exact this
    | cond x b1 b2 =>
      refine ⟨?_, fun b hb => by cases hb⟩
      simp only [dcode] at hd
      split at hd
      case h_1 =>
        rename_i hx
        have hv := sim_ev hg hf hx
        simp only [VRel] at hv
        exact wpIn_cond_true hv (ih b1 (fun e => by have := hct e; simp [certC] at this; exact this.1) hd hr hg hf hds hro hQ).1
      case h_2 =>
        rename_i hx
        have hv := sim_ev hg hf hx
        simp only [VRel] at hv
        exact wpIn_cond_false hv (ih b2 (fun e => by have := hct e; simp [certC] at this; exact this.2) hd hr hg hf hds hro hQ).1
      case h_3 => cases hd
    | block id b =>
      refine ⟨wpIn_block ?_, fun b hb => by cases hb⟩
      simp only [dcode] at hd
      split at hd
      case h_2 => cases hd
      rename_i l hs
      cases hd
      refine (ih b (fun e => by have := hct e; simpa [certC] using this) hs hr hg hf hds hro fun z hz p1 a1 w1 hf1 he1 hd1 => ?_).1
      have hq := hQ _ (List.mem_map.2 ⟨z, hz, rfl⟩) p1 a1 w1
      cases hze : z.e with
      | normal =>
        simp only [hze] at hq
        exact hq hf1 he1 hd1
      | ret =>
        simp only [hze] at hq
        exact hq hf1 he1 hd1
      | exit i =>
        simp only [hze, beq_t] at hq
        by_cases ei : i = id
        · simp only [ei, decide_true, cond_true] at hq
          simp only [DX.toExit, Exit.inBlock, ei, if_true]
          exact hq hf1 he1 hd1
        · simp only [ei, decide_false, cond_false, hze] at hq
          simp only [DX.toExit, Exit.inBlock, ei, if_false]
          exact hq hf1 he1 hd1
    | loop b =>
      have key : Code.roundsIn (FW k) n P b Q (m + 1) a w := by
        rw [roundsIn_succ]
        simp only [dcode] at hd
        split at hd
        case h_2 => cases hd
        rename_i l hs
        refine (ih b (fun e => by have := hct e; simpa [certC] using this) hs hr hg hf hds hro fun z hz p1 a1 w1 hf1 he1 hd1 => ?_).1
        obtain ⟨L1, g1, g2⟩ := bl_mem hd z hz
        cases hze : z.e with
        | normal =>
          simp only [hze] at g1
          exact (ih (.loop b) hct g1 he1.rel (hg.ext he1) hf1 hd1 (hro.ext he1) fun u hu p2 a2 w2 hf2 he2 hd2 => hQ u (g2 u hu) p2 a2 w2 hf2 (he1.trans he2) hd2).2 b rfl
        | exit i =>
          simp only [hze, Option.some.injEq] at g1; subst g1
          have := hQ z (g2 z (List.mem_singleton.2 rfl)) p1 a1 w1 hf1 he1 hd1
          rw [hze] at this; exact this
        | ret =>
          simp only [hze, Option.some.injEq] at g1; subst g1
          have := hQ z (g2 z (List.mem_singleton.2 rfl)) p1 a1 w1 hf1 he1 hd1
          rw [hze] at this; exact this
      exact ⟨wpIn_loop_rounds (m + 1) key, fun b' hb => by cases hb; exact key⟩
    | exit i => cases hd; exact ⟨wpIn_exit (hQ _ (List.mem_singleton.2 rfl) p a w hf (Ext.refl hr) hds), fun b hb => by cases hb⟩
    | ret => cases hd; exact ⟨wpIn_ret (hQ _ (List.mem_singleton.2 rfl) p a w hf (Ext.refl hr) hds), fun b hb => by cases hb⟩
    | scope b =>
      refine ⟨wpIn_scope_straight ?_, fun b hb => by cases hb⟩
      simp only [dcode] at hd
      refine (ih b (fun e => by have := hct e; simpa [certC] using this) hd hr hg hf hds hro fun z hz p1 a1 w1 hf1 he1 hd1 => ?_).1
      have h1 := hQ z hz p1 a1 w1 hf1 he1 hd1
      cases hze : z.e <;> rw [hze] at h1 <;> exact h1
    | rangeFunc g ps asg body =>
      refine ⟨wpIn_rangeFunc fun fn _ => ?_, fun b hb => by cases hb⟩
      simp only [dcode] at hd
      split at hd
      case h_2 => cases hd
      rename_i b h1 ds1 g' hen hgv
      split at hd
      case h_2 => cases hd
      rename_i f args hdc
      split at hd
      case h_2 => cases hd
      rename_i l hcl
      obtain ⟨r, mark, w1, p1, nb, q1, q2, q3, q4⟩ := sim_enter (P := P) hr hf hro hds hen fn
      have hyld : VRels p1 [.yld b] (#[Value.func (.yield r) #[] #[]]).toList := by
        simp only [VRels_cons, VRels_nil, and_true]
        simp only [VRel]; exact ⟨r, nb, q3, rfl⟩
      obtain ⟨args', s1, s2⟩ := sim_dcall hC q2.rel (hg.ext q2) (q2.vrel (sim_ev hg hf hgv)) hyld hdc
      rw [Sem.run_bind] at s1
      obtain ⟨d, w1', s3, s4⟩ := Result.of_andThen s1
      refine ⟨r, mark, w1, d, w1', f, args', w1, q1, ?_, fun _ _ => trivial, s4, fun h => (by simp [FW, Fence.wide] at h), callsW.2 ((hcall.fn f args h1 l hcl p1 w1 args' q2.rel (hg.ext q2) s2).mono ?_)⟩
      · unfold resolve
        simpa [Act.eval] using s3
      · rintro e w2 ⟨v, h2, v', p2, hmem, rfl, k1, k2⟩
        obtain ⟨L1, t1, t2⟩ := bl_mem hd (v, h2) hmem
        simp only at t1
        split at t1
        case h_2 => cases t1
        rename_i ls hls
        obtain ⟨r', n', x, u1, u2, f0, tmps, rd, md, u3, u4, rfl⟩ := k2.rel.obj _ _ hls
        have hpb := k2.at q3
        rw [hpb] at u1; cases u1
        have hbusy : ls.st ≠ .busy := by
          intro e; rw [e] at t1; simp at t1
        obtain ⟨W, hW, hput⟩ : ∃ W, (Instr.endLoop r).run P w2 = .ok ls.pend W ∧ Ext p2 h2 w2 p2 (h2.put b (.loop { ls with st := .exhausted })) W :=
          ⟨_, run_endLoop u2 hbusy, Ext.put k2.rel hls hpb (o' := .loop { ls with st := .exhausted }) (x' := .loop { state := .exhausted, pending := ls.pend, fn := f0, tmps, params := ls.ps, assign := ls.asg, body := ls.body, defers := rd }) ⟨f0, tmps, rd, md, u3, u4, rfl⟩ rfl rfl rfl rfl⟩
        have hex := q2.trans (k2.trans hput)
        refine ⟨ls.pend, W, hW, ?_⟩
        have hf2 : FRel p2 fr { a with defers := mark ++ a.defers } := FRel.ext (a := { a with defers := mark ++ a.defers }) hf (q2.trans k2)
        have hd2 : DRel p2 ds1 (mark ++ a.defers) := DRel.ext k2 q4
        split at t1
        case h_1 => cases t1
        case h_2 =>
          rename_i hpe _
          cases t1
          simp only [hpe]
          exact hQ _ (t2 _ (List.mem_singleton.2 rfl)) p2 _ _ hf2 hex hd2
        case h_3 =>
          rename_i c hpe _
          simp only [hpe]
          exact (ih c (fun e => by cases e) t1 hput.rel (hg.ext hex) hf2 hd2 (hro.ext hex) fun u hu p3 a3 w3 hf3 he3 hd3 => hQ u (t2 u hu) p3 a3 w3 hf3 (hex.trans he3) hd3).1
    | goto l => simp [dcode] at hd
    | refuse s => simp [dcode] at hd
end
end
end Go.Det
end
section
namespace Go.Det
noncomputable section
section
variable {C : Ctx} {P : Program} {p : Pl} {h : H} {w : World} {fr : Fr} {a : Act}
def dres1 (C : Ctx) (fr : Fr) (h : H) : ResultVar → Option V
  | .tmp t => some (fr.get t)
  | .cell a t => dload C.T h t (fr.get a)
def dress (C : Ctx) (fr : Fr) (h : H) : List ResultVar → Option (List V)
  | [] => some []
  | r :: rs => match dres1 C fr h r, dress C fr h rs with
    | some v, some vs => some (v :: vs)
    | _, _ => none
def dres (C : Ctx) (fr : Fr) (h : H) (rs : List ResultVar) : Option V :=
  match dress C fr h rs with
  | some [v] => some v
  | some vs => some (.tup vs)
  | none => none
def resS (a : Act) : ResultVar → Sem Value
  | .tmp t => pure (a.tmps.getD t undef)
  | .cell x t => do loadVar t (← asAddr (a.tmps.getD x undef))
theorem results_eq (fn : Func) (a : Act) : results fn a.tmps = (do let vs ← fn.results.mapM (resS a); pure (if h : vs.size = 1 then vs[0] else .tuple vs)) := by
  unfold results
  congr 1
theorem run_res1 (hT : C.T.Ok P) (hr : R p h w) (hf : FRel p fr a) {r : ResultVar} {v : V} (hd : dres1 C fr h r = some v) :
    ∃ v', (resS a r).run P w = .ok v' w ∧ VRel p v v' := by
  cases r with
  | tmp t => cases hd; exact ⟨_, rfl, hf.2 t⟩
  | cell x t =>
    simp only [dres1] at hd
    obtain ⟨v', h1, h2⟩ := sim_load (P := P) hT hr (hf.2 x) hd
    refine ⟨v', ?_, h2⟩
    have hp : ∃ b i, fr.get x = .ptr b i := by
      unfold dload at hd
      split at hd
      · rename_i b off d i e1 e2 e3; exact ⟨b, off, e1⟩
      · cases hd
    obtain ⟨b, i, e⟩ := hp
    have hv := hf.2 x
    rw [e] at hv
    simp only [VRel] at hv
    obtain ⟨r, n, _, hv⟩ := hv
    rw [hv] at h1
    simp only [resS, hv]
    exact h1
theorem run_ress (hT : C.T.Ok P) (hr : R p h w) (hf : FRel p fr a) : ∀ {rs : List ResultVar} {vs : List V}, dress C fr h rs = some vs →
    ∃ vs' : List Value, (rs.mapM (resS a)).run P w = .ok vs' w ∧ VRels p vs vs'
  | [], vs, hd => by cases hd; exact ⟨[], rfl, by simp⟩
  | r :: rs, vs, hd => by
    unfold dress at hd
    split at hd
    case h_2 => cases hd
    rename_i v vs1 h1 h2
    cases hd
    obtain ⟨v', g1, g2⟩ := run_res1 (P := P) hT hr hf h1
    obtain ⟨vs', g3, g4⟩ := run_ress hT hr hf h2
    refine ⟨v' :: vs', ?_, (VRels_cons ..).2 ⟨g2, g4⟩⟩
    rw [List.mapM_cons]
    simp only [Sem.run_bind]
    rw [g1]
    simp only [Result.andThen_ok, g3, Sem.run_pure]
theorem sim_res (hT : C.T.Ok P) (hr : R p h w) (hf : FRel p fr a) {fn : Func} {v : V} (hd : dres C fr h fn.results.toList = some v) : ∃ v', (results fn a.tmps).run P w = .ok v' w ∧ VRel p v v' := by
  unfold dres at hd
  cases hs : dress C fr h fn.results.toList with
  | none => simp [hs] at hd
  | some vs =>
    obtain ⟨vs', g1, g2⟩ := run_ress (P := P) hT hr hf hs
    have hl := g2.length
    have hrun : (results fn a.tmps).run P w = .ok (if h : vs'.toArray.size = 1 then vs'.toArray[0] else .tuple vs'.toArray) w := by
      rw [results_eq]
      simp only [Sem.run_bind]
      rw [Array.mapM_eq_mapM_toList]
      simp only [Sem.run_map, g1, Result.andThen_ok, Sem.run_pure]
    refine ⟨_, hrun, ?_⟩
    simp only [hs] at hd
    cases vs with
    | nil =>
      cases hd
      have : vs' = [] := List.length_eq_zero_iff.1 hl.symm
      subst this
      simp [VRel]
    | cons x xs =>
      cases xs with
      | nil =>
        cases hd
        obtain ⟨y, rfl, h1⟩ := g2.one
        simpa using h1
      | cons x2 xs =>
        cases hd
        rw [dif_neg (by simp at hl ⊢; omega)]
        simp only [VRel]
        exact ⟨_, rfl, g2⟩
def initM : List V → Nat → PM V → PM V
  | [], _, m => m
  | v :: vs, i, m => initM vs (i + 1) (m.set i (some v))
def initF (n : Nat) (args : List V) : Fr := ⟨args.length + (n - args.length), initM args 0 .leaf⟩
theorem initM_get : ∀ (vs : List V) (i : Nat) (m : PM V) (t : Nat), (initM vs i m).get t = if i ≤ t ∧ t < i + vs.length then vs[t - i]? else m.get t
  | [], i, m, t => by simp [initM]; omega
  | v :: vs, i, m, t => by
    unfold initM
    rw [initM_get vs (i + 1) _ t]
    by_cases e : t = i
    · subst e; rw [if_neg (by omega), if_pos (by simp)]; simp
    · by_cases e2 : i + 1 ≤ t ∧ t < i + 1 + vs.length
      · rw [if_pos e2, if_pos (by simp; omega)]
        have : t - i = (t - (i + 1)) + 1 := by omega
        rw [this]; simp
      · rw [if_neg e2, if_neg (by simp; omega)]
        simp [e]
theorem init_rel {args : List V} {args' : Array Value} (ha : VRels p args args'.toList) (n : Nat) : FRel p (initF n args) { tmps := args' ++ Array.replicate (n - args'.size) undef, defers := [] } := by
  have hl := ha.length
  simp at hl
  refine ⟨by simp [initF, hl], fun t => ?_⟩
  unfold initF Fr.get
  rw [initM_get]
  by_cases ht : t < args.length
  · rw [if_pos (by omega)]
    obtain ⟨u, h1, h2⟩ := ha.get (i := t) (d := args[t]) (by simp [ht])
    have h1' : args'[t]? = some u := by simpa using h1
    simp only [Nat.sub_zero, List.getElem?_eq_getElem ht, Option.getD_some]
    rw [Array.getD_eq_getD_getElem?, Array.getElem?_append_left (by omega), h1']
    exact h2
  · rw [if_neg (by omega)]
    simp only [PM.get_leaf, Option.getD_none]
    have : (args' ++ Array.replicate (n - args'.size) undef).getD t undef = undef := by
      rw [Array.getD_eq_getD_getElem?, Array.getElem?_append_right (by omega)]
      rw [Array.getElem?_replicate]
      split <;> rfl
    rw [this]
    simp [VRel, undef]
/-- the marks among the deferred calls are come to -/
def dleave : List Nat → H → Option H
  | [], h => some h
  | b :: bs, h => match h.get b with
    | some (.defd true) => dleave bs (h.put b (.defd false))
    | _ => none
theorem sim_leave {fn : Func} {tmps : Array Value} {n : Nat} : ∀ {ds : List Nat} {l : List Deferred} {p : Pl} {h : H} {w : World} {h1 : H}, DRel p ds l → R p h w → dleave ds h = some h1 →
    ∃ w1, Ext p h w p h1 w1 ∧ ∀ R' : Ending → World → Prop, (∃ v, (results fn tmps).run P w1 = .ok v w1 ∧ R' (.returned v) w1) → LeavesInM Fence.wide n P fn tmps R' l .returning w
  | [], l, p, h, w, h1, hd, hr, hl => by
    cases hl
    cases (show l = [] from hd)
    exact ⟨w, Ext.refl hr, fun R' hR => hR⟩
  | b :: bs, l, p, h, w, h1, hd, hr, hl => by
    unfold dleave at hl
    split at hl
    case h_2 => cases hl
    rename_i hb
    obtain ⟨r, m, l', hp, rfl, hd'⟩ := hd
    obtain ⟨r', m', x, k1, k2, k3⟩ := hr.obj _ _ hb
    rw [hp] at k1; cases k1
    simp only [ORel, cond_true] at k3; subst k3
    have hput := Ext.put hr hb hp (o' := .defd false) (x' := .deferred none) (by simp [ORel]) (w' := w.putObj r (.deferred none)) rfl rfl rfl rfl
    obtain ⟨w1, g1, g2⟩ := sim_leave (fn := fn) (tmps := tmps) (n := n) hd' hput.rel hl
    exact ⟨w1, hput.trans g1, fun R' hR => ⟨by simp, .inl ⟨r, _, rfl, run_takeDeferred k2, g2 R' hR⟩⟩⟩
/-- a round of a range over a function -/
def dround (C : Ctx) (m : Nat) (call : CallF) (b : Nat) (ls : LS) (fr : Fr) (h : H) : Option (List (V × H)) :=
  match dcode C call (some b) false m ls.asg fr h [] with
  | some l => bl l fun x => match x.e, x.h.get b with
    | .normal, some (.loop l1) => match l1.st with
      | .ready => match dcode C call (some b) false m ls.body x.fr (x.h.put b (.loop { l1 with st := .busy })) x.ds with
        | some l2 => bl l2 fun y => match y.h.get b with
          | some (.loop l3) => match y.e with
            | .normal => some [(.bool true, y.h.put b (.loop { l3 with st := .ready, pend := none }))]
            | .ret => some [(.bool false, y.h.put b (.loop { l3 with st := .done, pend := some .ret }))]
            | .exit i => some [(.bool false, y.h.put b (.loop { l3 with st := .done, pend := some (.exit i) }))]
          | _ => none
        | none => none
      | _ => none
    | _, _ => none
  | none => none
mutual
def vBlocks : V → List Nat
  | .ptr b _ | .sl b _ _ _ _ | .map b | .yld b => [b]
  | .fn _ a b => vsBlocks a ++ vsBlocks b
  | .iface _ v => vBlocks v
  | .agg l | .tup l => vsBlocks l
  | _ => []
def vsBlocks : List V → List Nat
  | [] => []
  | v :: vs => vBlocks v ++ vsBlocks vs
end
def oBlocks : O → List Nat
  | .cells cs _ _ => vsBlocks cs
  | .map es _ => es.flatMap fun e => vBlocks e.1 ++ vBlocks e.2.1
  | _ => []
def reach (h : H) (n0 : Nat) : Nat → List Nat → List Nat → List Nat
  | 0, _, acc => acc
  | _ + 1, [], acc => acc
  | f + 1, b :: bs, acc => bif Nat.blt b n0 || acc.any (Nat.beq b) then reach h n0 f bs acc
    else match h.get b with
      | some o => reach h n0 f (oBlocks o ++ bs) (b :: acc)
      | none => reach h n0 f bs acc
def killAll (keep : List Nat) : Nat → Nat → H → H
  | 0, _, h => h
  | f + 1, b, h => killAll keep f (b + 1) (bif keep.any (Nat.beq b) then h else h.kill b)
/-- records of ranges that are over are given up -/
def isOver : O → Bool
  | .loop l => match l.st with | .exhausted => true | _ => false
  | _ => false
def oSift : Option O → Option O
  | some o => bif isOver o then none else some o
  | none => none
def pmSift : PM O → PM O
  | .leaf => .leaf
  | .node l v r => .node (pmSift l) (oSift v) (pmSift r)
theorem get_sift : ∀ (q : Pth) (m : PM O), q.get (pmSift m) = oSift (q.get m)
  | Pth.here, PM.leaf => rfl
  | Pth.l _, PM.leaf => rfl
  | Pth.r _, PM.leaf => rfl
  | Pth.here, PM.node _ _ _ => rfl
  | Pth.l q, PM.node l _ _ => get_sift q l
  | Pth.r q, PM.node _ _ r => get_sift q r
def H.sift (h : H) : H := ⟨pmSift h.m, h.nx⟩
theorem ext_sift {p : Pl} {h : H} {w : World} (hr : R p h w) : Ext p h w p h.sift w := by
  have sub : ∀ b o, h.sift.get b = some o → h.get b = some o := by
    intro b o hb
    have : h.sift.get b = oSift (h.get b) := get_sift _ _
    rw [this] at hb
    cases hg : h.get b with
    | none => rw [hg] at hb; cases hb
    | some x =>
      rw [hg] at hb
      unfold oSift at hb
      cases hi : isOver x with
      | true => simp [hi] at hb
      | false => simpa [hi] using hb
  refine ⟨⟨[], by simp⟩, ⟨hr.len, fun b o hb => hr.obj b o (sub b o hb), fun b b' o o' r n n' hb hb' => hr.inj b b' o o' r n n' (sub b o hb) (sub b' o' hb')⟩, Nat.le_refl _, fun _ _ _ => rfl, fun r hi => ?_, rfl, rfl, rfl, fun r hlt hl => ⟨rfl, ?_⟩⟩
  · obtain ⟨b, o, n, h1, h2⟩ := hi
    exact .inl ⟨b, o, n, sub b o h1, h2⟩
  · obtain ⟨b, n, cs, t, fz, h1, h2, h3⟩ := hl
    refine .inl ⟨b, n, cs, t, fz, ?_, h2, h3⟩
    rw [show h.sift.get b = oSift (h.get b) from get_sift _ _, h1]; rfl
def gcO (n0 : Nat) (x : V × H) : V × H := (x.1, killAll (reach x.2 n0 1000 (vBlocks x.1) []) (x.2.nx - n0) n0 x.2.sift)
def eBeq : List (V × V × Nat) → List (V × V × Nat) → Bool
  | [], [] => true
  | (a, b, c) :: l, (a', b', c') :: l' => V.beq a a' && V.beq b b' && Nat.beq c c' && eBeq l l'
  | _, _ => false
def nsBeq : List Nat → List Nat → Bool
  | [], [] => true
  | a :: l, b :: l' => Nat.beq a b && nsBeq l l'
  | _, _ => false
def oBeq : O → O → Bool
  | .cells cs t fz, .cells cs' t' fz' => V.beqs cs cs' && Nat.beq t t' && Nat.beq fz.1 fz'.1 && Nat.beq fz.2 fz'.2
  | .map es c, .map es' c' => eBeq es es' && Nat.beq c c'
  | .siter s n, .siter s' n' => s == s' && Nat.beq n n'
  | .miter none a l b, .miter none a' l' b' => Nat.beq a a' && nsBeq l l' && Nat.beq b b'
  | .miter (some m) a l b, .miter (some m') a' l' b' => Nat.beq m m' && Nat.beq a a' && nsBeq l l' && Nat.beq b b'
  | .defd a, .defd b => a == b
  | _, _ => false
def ooBeq : Option O → Option O → Bool
  | none, none => true
  | some a, some b => oBeq a b
  | _, _ => false
def pmBeq : PM O → PM O → Bool
  | .leaf, .leaf => true
  | .node l v r, .node l' v' r' => ooBeq v v' && pmBeq l l' && pmBeq r r'
  | _, _ => false
def vhBeq (x y : V × H) : Bool := V.beq x.1 y.1 && Nat.beq x.2.nx y.2.nx && pmBeq x.2.m y.2.m
def dedup : List (V × H) → List (V × H)
  | [] => []
  | x :: l => let r := dedup l; bif r.any (vhBeq x) then r else x :: r
def mergeO (n0 : Nat) : List (V × H) → List (V × H)
  | [] => []
  | [x] => [x]
  | l => dedup (l.map (gcO n0))
theorem eBeq_eq : ∀ {a b : List (V × V × Nat)}, eBeq a b = true → a = b
  | [], [], _ => rfl
  | [], _ :: _, h => by simp [eBeq] at h
  | _ :: _, [], h => by simp [eBeq] at h
  | (a, b, c) :: l, (a', b', c') :: l', h => by
    simp only [eBeq, Bool.and_eq_true] at h
    rw [V.beq_eq h.1.1.1, V.beq_eq h.1.1.2, Nat.eq_of_beq_eq_true h.1.2, eBeq_eq h.2]
theorem nsBeq_eq : ∀ {a b : List Nat}, nsBeq a b = true → a = b
  | [], [], _ => rfl
  | [], _ :: _, h => by simp [nsBeq] at h
  | _ :: _, [], h => by simp [nsBeq] at h
  | a :: l, b :: l', h => by
    simp only [nsBeq, Bool.and_eq_true] at h
    rw [Nat.eq_of_beq_eq_true h.1, nsBeq_eq h.2]
theorem oBeq_eq {a b : O} (h : oBeq a b = true) : a = b := by
  unfold oBeq at h
  split at h
  · rename_i fz _ _ fz'
    simp only [Bool.and_eq_true] at h
    obtain ⟨⟨⟨h1, h2⟩, h3⟩, h4⟩ := h
    rw [V.beqs_eq h1, Nat.eq_of_beq_eq_true h2, show fz = fz' from Prod.ext (Nat.eq_of_beq_eq_true h3) (Nat.eq_of_beq_eq_true h4)]
  · simp only [Bool.and_eq_true] at h
    rw [eBeq_eq h.1, Nat.eq_of_beq_eq_true h.2]
  · simp only [Bool.and_eq_true, beq_iff_eq] at h
    rw [h.1, Nat.eq_of_beq_eq_true h.2]
  · simp only [Bool.and_eq_true] at h
    rw [Nat.eq_of_beq_eq_true h.1.1, nsBeq_eq h.1.2, Nat.eq_of_beq_eq_true h.2]
  · simp only [Bool.and_eq_true] at h
    rw [Nat.eq_of_beq_eq_true h.1.1.1, Nat.eq_of_beq_eq_true h.1.1.2, nsBeq_eq h.1.2, Nat.eq_of_beq_eq_true h.2]
  · simp only [beq_iff_eq] at h; rw [h]
  · cases h
theorem pmBeq_eq : ∀ {a b : PM O}, pmBeq a b = true → a = b
  | .leaf, .leaf, _ => rfl
  | .leaf, .node _ _ _, h => by simp [pmBeq] at h
  | .node _ _ _, .leaf, h => by simp [pmBeq] at h
  | .node l v r, .node l' v' r', h => by
    simp only [pmBeq, Bool.and_eq_true] at h
    rw [pmBeq_eq h.1.2, pmBeq_eq h.2]
    congr 1
    cases v <;> cases v' <;> first | rfl | exact congrArg some (oBeq_eq h.1.1) | (simp [ooBeq] at h)
theorem vhBeq_eq {x y : V × H} (h : vhBeq x y = true) : x = y := by
  simp only [vhBeq, Bool.and_eq_true] at h
  obtain ⟨v, m, n⟩ := x
  obtain ⟨v', m', n'⟩ := y
  have h1 := V.beq_eq h.1.1
  have h2 := Nat.eq_of_beq_eq_true h.1.2
  have h3 := pmBeq_eq h.2
  simp only at h1 h2 h3
  rw [h1, h2, h3]
theorem mem_dedup : ∀ {l : List (V × H)} {x : V × H}, x ∈ l → x ∈ dedup l
  | a :: l, x, h => by
    unfold dedup
    simp only
    cases hc : (dedup l).any (vhBeq a) with
    | true =>
      simp only [cond_true]
      rcases List.mem_cons.1 h with rfl | h
      · obtain ⟨y, hy, he⟩ := List.any_eq_true.1 hc
        rw [vhBeq_eq he]; exact hy
      · exact mem_dedup h
    | false =>
      simp only [cond_false]
      rcases List.mem_cons.1 h with rfl | h
      · exact List.mem_cons_self
      · exact List.mem_cons_of_mem _ (mem_dedup h)
theorem ext_killAll (keep : List Nat) : ∀ (f b : Nat) {p : Pl} {h : H} {w : World}, R p h w → Ext p h w p (killAll keep f b h) w
  | 0, _, _, _, _, hr => Ext.refl hr
  | f + 1, b, p, h, w, hr => by
    unfold killAll
    cases keep.any (Nat.beq b) with
    | true => simp only [cond_true]; exact ext_killAll keep f (b + 1) hr
    | false => simp only [cond_false]; exact (Ext.kill hr b).trans (ext_killAll keep f (b + 1) (hr.kill b))
theorem Came.merge {l : List (V × H)} {n0 : Nat} {e : Ending} {w' : World} (hc : Came p h w l e w') : Came p h w (mergeO n0 l) e w' := by
  obtain ⟨v, h', v', p', hm, he, hv, hx⟩ := hc
  unfold mergeO
  split
  · cases hm
  · exact ⟨v, h', v', p', hm, he, hv, hx⟩
  · exact ⟨v, (gcO n0 (v, h')).2, v', p', mem_dedup (List.mem_map.2 ⟨_, hm, rfl⟩), he, hv, hx.trans ((ext_sift hx.rel).trans (ext_killAll _ _ _ (ext_sift hx.rel).rel))⟩
def ecall (C : Ctx) : Nat → CallF
  | 0 => fun _ _ => none
  | n + 1 => fun c h =>
    match c with
    | .rnd b ls fr => dround C n (ecall C n) b ls fr h
    | .fn f args =>
      match C.spec f with
      | some q => match q args h with
        | some x => some [x]
        | none => none
      | none =>
        match C.fn f with
        | none => none
        | some i =>
          match dcode C (ecall C n) none i.cert n i.body (initF i.ntmps args) h [] with
          | none => none
          | some l => match (bl l fun x => match x.e with
            | .exit _ => none
            | _ => match dleave x.ds x.h with
              | some h1 => match dres C x.fr h1 i.results.toList with
                | some v => some [(v, h1)]
                | none => none
              | none => none) with
            | some r => some (bif C.mg then mergeO h.nx r else r)
            | none => none
theorem sim_setLoop (hr : R p h w) {b r n : Nat} {ls : LS} (hb : h.get b = some (.loop ls)) (hp : p[b]? = some (r, n)) :
    ∃ rec : Loop, w.heap[r]? = some (.loop rec) ∧ rec.state = ls.st ∧ rec.pending = ls.pend ∧ ∀ (st : LoopState) (pe : Option Code), Ext p h w p (h.put b (.loop { ls with st := st, pend := pe })) (w.putObj r (.loop { rec with state := st, pending := pe })) := by
  obtain ⟨r', n', x, u1, u2, f0, tmps, rd, md, u3, u4, rfl⟩ := hr.obj _ _ hb
  rw [hp] at u1; cases u1
  exact ⟨_, u2, rfl, rfl, fun st pe => Ext.put hr hb hp (o' := .loop { ls with st := st, pend := pe }) ⟨f0, tmps, rd, md, u3, u4, rfl⟩ rfl rfl rfl rfl⟩
theorem sim_round (hC : C.Ok P) {call : CallF} (hcall : call.Ok C P) (hm : P.follows .mixedOrders = true) {b : Nat} {ls : LS} {l : List (V × H)} {k m mm : Nat} (hd : dround C mm call b ls fr h = some l) {f : FuncId} {tmps : Array Value}
    (hr : R p h w) (hg : Gl C p) (hp : p[b]? = some (k, m)) (hf : FRelT p fr tmps) : RoundIn Fence.wide 0 P k f tmps ls.asg ls.body w (Came p h w l) := by
  unfold dround at hd
  split at hd
  case h_2 => cases hd
  rename_i L hL
  refine roundIn_of_wpIn trivial ?_
  refine (sim_code (k := some k) (n := 0) hC hcall hm mm false ls.asg (fun e => by cases e) hL p { tmps := tmps, defers := [] } w _ hr hg hf rfl ⟨m, hp⟩ fun x hx p1 a1 w1 hf1 he1 hd1 => ?_).1
  obtain ⟨L1, g1, g2⟩ := bl_mem hd x hx
  split at g1
  case h_2 => cases g1
  rename_i l1 hxe hl1
  split at g1
  case h_2 => cases g1
  rename_i hst
  split at g1
  case h_2 => cases g1
  rename_i L2 hL2
  rw [hxe]
  obtain ⟨rec, q1, q2, q3, q4⟩ := sim_setLoop he1.rel hl1 (he1.at hp)
  have e2 := q4 .busy l1.pend
  refine ⟨_, run_beginRound q1 (q2.trans hst), ?_⟩
  have e2' : Ext p1 x.h w1 p1 (x.h.put b (.loop { l1 with st := .busy })) (w1.putObj k (.loop { rec with state := .busy })) := by
    have : ({ rec with state := .busy } : Loop) = { rec with state := .busy, pending := l1.pend } := by rw [← q3]
    rw [this]; exact e2
  have ex := he1.trans e2'
  refine (sim_code (k := some k) (n := 0) hC hcall hm mm false ls.body (fun e => by cases e) hL2 p1 a1 _ _ e2'.rel (hg.ext ex) hf1 hd1 ⟨m, he1.at hp⟩ fun y hy p2 a2 w2 hf2 he2 hd2 => ?_).1
  obtain ⟨L3, t1, t2⟩ := bl_mem g1 y hy
  split at t1
  case h_2 => cases t1
  rename_i l3 hl3
  obtain ⟨rec2, s1, s2, s3, s4⟩ := sim_setLoop he2.rel hl3 (he2.at (he1.at hp))
  cases hye : y.e with
  | normal =>
    simp only [hye, Option.some.injEq] at t1; subst t1
    exact ⟨_, _, run_endRound none s1, .bool true, _, .bool true, p2, g2 _ (t2 _ (List.mem_singleton.2 rfl)), rfl, by simp [VRel], ex.trans (he2.trans (s4 .ready none))⟩
  | ret =>
    simp only [hye, Option.some.injEq] at t1; subst t1
    exact ⟨_, _, run_endRound (some .ret) s1, .bool false, _, .bool false, p2, g2 _ (t2 _ (List.mem_singleton.2 rfl)), rfl, by simp [VRel], ex.trans (he2.trans (s4 .done (some .ret)))⟩
  | exit i =>
    simp only [hye, Option.some.injEq] at t1; subst t1
    exact ⟨_, _, run_endRound (some (.exit i)) s1, .bool false, _, .bool false, p2, g2 _ (t2 _ (List.mem_singleton.2 rfl)), rfl, by simp [VRel], ex.trans (he2.trans (s4 .done (some (.exit i))))⟩
/-- what is said of checked plans is so -/
def Certs (C : Ctx) : Prop := ∀ f i, C.fn f = some i → i.cert = true → certC i.body = true
theorem ecall_ok (hC : C.Ok P) (hce : Certs C) (hm : P.follows .mixedOrders = true) : ∀ n, (ecall C n).Ok C P
  | 0 => ⟨fun f args h l hd => (by cases hd), fun b ls fr h l hd => (by cases hd)⟩
  | n + 1 => by
    refine ⟨fun f args h l hd p w args' hr hg ha => ?_, fun b ls fr h l hd p w k m f tmps hr hg hb hp hf => sim_round hC (ecall_ok hC hce hm n) hm hd hr hg hp hf⟩
    unfold ecall at hd
    simp only at hd
    split at hd
    case h_1 =>
      rename_i q hq
      split at hd
      case h_2 => cases hd
      rename_i x hx
      cases hd
      refine (hC.spec f q hq p h w args args' x.1 x.2 hr hg ha hx).mono ?_
      rintro e w' ⟨v', p', rfl, g1, g2⟩
      exact ⟨x.1, x.2, v', p', List.mem_singleton.2 rfl, rfl, g1, g2⟩
    case h_2 =>
      split at hd
      case h_1 => cases hd
      rename_i i hi
      split at hd
      case h_1 => cases hd
      rename_i L hL
      split at hd
      case h_2 => cases hd
      rename_i lr hd'
      cases hd
      refine Calls.mono ?_ (fun e w' hc => (show Came p h w (bif C.mg then mergeO h.nx lr else lr) e w' from by cases C.mg with | true => exact Came.merge hc | false => exact hc))
      have hd := hd'
      generalize lr = l at hd
      obtain ⟨fn, h1, h2, h3, h4, h5⟩ := hC.fn f i hi
      have h6 := hce f i hi
      refine callsIn_wide.1 (callsIn_of_wp_marks (F := Fence.wide) (n := 0) h1 h3 trivial ?_)
      rw [h4]
      refine (sim_code (k := none) (n := 0) hC (ecall_ok hC hce hm n) hm n i.cert i.body h6 hL p _ w _ hr hg (init_rel ha i.ntmps) rfl trivial fun x hx p1 a1 w1 hf1 he1 hd1 => ?_).1
      obtain ⟨L1, g1, g2⟩ := bl_mem hd x hx
      have fin : ∀ {h1 : H} {v : V}, dleave x.ds x.h = some h1 → dres C x.fr h1 i.results.toList = some v → L1 = [(v, h1)] → LeavesInM Fence.wide 0 P fn a1.tmps (Came p h w l) a1.defers .returning w1 := by
        intro h1 v hle hres hL1
        subst hL1
        obtain ⟨w2, q1, q2⟩ := sim_leave (P := P) (fn := fn) (tmps := a1.tmps) (n := 0) hd1 he1.rel hle
        obtain ⟨v', s1, s2⟩ := sim_res (P := P) (fn := fn) hC.T q1.rel (hf1.ext q1) (by rw [h5]; exact hres)
        exact q2 _ ⟨v', s1, v, h1, v', p1, g2 _ (List.mem_singleton.2 rfl), rfl, s2, he1.trans q1⟩
      split at g1
      case h_1 => cases g1
      case h_2 =>
        rename_i hne
        split at g1
        case h_2 => cases g1
        rename_i h2 hle
        split at g1
        case h_2 => cases g1
        rename_i v hres
        cases g1
        cases hxe : x.e with
        | normal => exact fin hle hres rfl
        | ret => exact fin hle hres rfl
        | exit j => exact absurd hxe (hne j)
end
end
end Go.Det
end
