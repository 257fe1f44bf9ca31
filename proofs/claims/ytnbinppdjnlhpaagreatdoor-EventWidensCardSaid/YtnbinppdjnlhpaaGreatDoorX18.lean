import Derived.Test.YtnbinppdjnlhpaaGreatDoorX17
import Derived.Test.YtnbinppdjnlhpaaGreatDoorX11
import Derived.Test.YtnbinppdjnlhpaaGreatDoorX09
/- A part of the proofs of the laws of one chapter (no law is stated here). Made by program out of texts by AI agents. -/
section
namespace Go.Pe
open Go.Det
section
variable {B : Nat} {h0 : H0} {X : PCtx} {F F1 F' : Fz} {ρ : Rho} {N : Nat} {st st' : PSt} {fr : Fr} {h h' : H}
theorem cells_rel {p : PV} {v : V} (hp : PR F ρ N p v) : ∃ w, PRs F ρ N p.cells w ∧ (isAg p = true → v = .agg w) ∧ (isAg p = false → w = [v]) := by
  cases p with
  | agg l => simp only [PR] at hp; obtain ⟨cs, rfl, h1⟩ := hp; exact ⟨cs, h1, fun _ => rfl, fun e => by cases e⟩
  | _ => exact ⟨[v], by simp only [PV.cells, PRs_cons, PRs_nil, and_true]; exact hp, fun e => (by cases e), fun _ => rfl⟩
theorem argOf_rel {st : PSt} {s : Sh} {p : PV} {x : s.T} {v : V} {w : List V} (ha : argOf st s p = some (true, x)) (h1 : isAg p = true → v = .agg w) (h2 : isAg p = false → w = [v]) (hw : ∀ xs, byVals st p.cells = some (true, xs) → PCs F xs w) : PC F (dats s x) v := by
  unfold argOf at ha
  cases hb : (isAg p == s.isP) with
  | false => rw [hb] at ha; cases ha
  | true =>
    rw [hb] at ha
    simp only [cond_true] at ha
    split at ha
    case h_2 => cases ha
    rename_i c cs hcs
    split at ha
    case h_2 => cases ha
    rename_i y hy
    simp only [Option.some.injEq, Prod.mk.injEq, Bool.and_eq_true] at ha
    obtain ⟨⟨hco, rfl⟩, rfl⟩ := ha
    have hdc := PCs.dc (fun ρ N => coers_rel (hw cs hcs ρ N) hco) hy
    have hk := PC.dats hdc
    have hb : isAg p = s.isP := by simpa using hb
    cases hp : s.isP with
    | true => rw [hp] at hb; rw [h1 hb]; exact hk.1 hp
    | false => rw [hp] at hb; exact hk.2 hp v (h2 hb)
theorem handed : ∀ {ps : List PV} {vs : List V} {st : PSt} {F : Fz}, SR B h0 F ρ st.nx st.ob h → PRs F ρ st.nx ps vs →
    ∃ F1, SR B h0 F1 ρ (freezes (ps.flatMap PV.cells) st).nx (freezes (ps.flatMap PV.cells) st).ob h ∧ (∀ b cs, F b = some cs → F1 b = some cs) ∧ ∀ l i, argsOf st l ps = some (true, i) → PCs F1 (valsOf l i) vs
  | [], vs, st, F, hr, hp => ⟨F, hr, fun _ _ h => h, fun l i hi => by
    have hv : vs = [] := by simpa using hp
    subst hv
    match l, i, hi with
    | [], _, _ => intro ρ' N'; simp [valsOf]
    | [a], _, hi => cases hi
    | a :: b :: l, _, hi => cases hi⟩
  | p :: ps, vs, st, F, hr, hp => by
    simp only [PRs] at hp
    obtain ⟨v, vs, rfl, h1, h2⟩ := hp
    obtain ⟨w, c1, c2, c3⟩ := cells_rel h1
    obtain ⟨F1, g1, g2, g3⟩ := freezes_rel hr c1
    have h2' : PRs F1 ρ (freezes p.cells st).nx ps vs := by rw [(freezes_same p.cells st).1]; exact h2.mono (Le.fzs g2)
    obtain ⟨F2, k1, k2, k3⟩ := handed g1 h2'
    rw [List.flatMap_cons, freezes_append]
    refine ⟨F2, k1, fun b cs hb => k2 b cs (g2 b cs hb), fun l i hi => ?_⟩
    match l, i, hi with
    | [], _, hi => cases hi
    | [a], i, hi =>
      cases ps with
      | cons q qs => cases hi
      | nil =>
        have hv : vs = [] := by simpa using h2
        subst hv
        have := (argOf_rel (st := st) (F := F1) (by simpa [argsOf] using hi) c2 c3 g3).mono k2
        intro ρ' N'
        simp only [valsOf, PRs_cons, PRs_nil, and_true]
        exact this ρ' N'
    | a :: b :: l, i, hi =>
      unfold argsOf at hi
      split at hi
      case h_2 => cases hi
      rename_i c x d y e1 e2
      simp only [Option.some.injEq, Prod.mk.injEq, Bool.and_eq_true] at hi
      obtain ⟨⟨rfl, rfl⟩, rfl⟩ := hi
      unfold valsOf
      exact PCs.cons ((argOf_rel e1 c2 c3 g3).mono k2) (k3 (b :: l) y (by rw [argsOf_eq (freezes_obj p.cells st)]; exact e2))
/-- behind a call that changed no block of before -/
theorem SR.after {ob : Ob} (hr : SR B h0 F ρ N ob h) (hs : ∀ b, b < h.nx → h'.get b = h.get b) (hx : h.nx ≤ h'.nx) (hlt : ∀ b o, h'.get b = some o → b < h'.nx) (hF : ∀ b cs, F b = some cs → F' b = some cs)
    (hN : ∀ b cs, F' b = some cs → F b = some cs ∨ h.nx ≤ b) (hfr : ∀ b cs, F' b = some cs → ∃ t fz, h'.get b = some (.cells cs t fz)) : SR B h0 F' ρ N ob h' := by
  refine ⟨fun id o ho => ?_, hr.inj, hfr, hr.own, hr.dead, fun b hb => ?_, hlt, Nat.le_trans hr.le hx, fun b cs hb => ?_, fun b hb => by obtain ⟨g1, g2, g3⟩ := hr.pn b hb; exact ⟨by rw [hs b (hr.lt b _ g1)]; exact g1, g2, g3⟩⟩
  · obtain ⟨b, n, x, h1, h2, h3, h4, h5⟩ := hr.obj id o ho
    have hb := hr.lt b x h2
    refine ⟨b, n, x, h1, by rw [hs b hb]; exact h2, h3.mono (Le.fzs (ρ := ρ) hF), fun e => ?_, fun e => ?_⟩
    · cases hc : F' b with
      | none => rfl
      | some cs =>
        rcases hN b cs hc with h6 | h6
        · rw [h4 e] at h6; cases h6
        · omega
    · obtain ⟨cs, t, fz, k1, k2⟩ := h5 e
      exact ⟨cs, t, fz, k1, hF _ _ k2⟩
  · rw [hs b (Nat.lt_of_lt_of_le hb hr.le)]; exact hr.old b hb
  · rcases hN b cs hb with h1 | h1
    · exact hr.fo b cs h1
    · exact .inr (Nat.le_trans hr.le h1)
/-- a function does what its contract says -/
structure SpecOk (C : Ctx) (f : FuncId) (sp : PSpec) : Prop where
  prim : C.prim f = none
  fn : ∃ i, C.fn f = some i
  run : ∀ (F : Fz) (h : H) (args : List V) (i : (prodS sp.ins).T), (∀ b cs, F b = some cs → ∃ t fz, h.get b = some (.cells cs t fz)) → (∀ b o, h.get b = some o → b < h.nx) → PCs F (valsOf sp.ins i) args → sp.pre i = true →
    ∃ l M, (∀ m, M ≤ m → ecall C m (.fn f args) h = some l) ∧ (sp.nd = false → ∃ x, l = [x]) ∧ ∀ x ∈ l, h.nx ≤ x.2.nx ∧ (∀ b, b < h.nx → x.2.get b = h.get b) ∧ (∀ b o, x.2.get b = some o → b < x.2.nx) ∧
      ∃ F' : Fz, (∀ b cs, F b = some cs → F' b = some cs) ∧ (∀ b cs, F' b = some cs → F b = some cs ∨ h.nx ≤ b) ∧ (∀ b cs, F' b = some cs → ∃ t fz, x.2.get b = some (.cells cs t fz)) ∧
        PC F' (one (valsOf sp.outs (sp.f i))) x.1
theorem DC.sc : ∀ {s : Sh} {x : s.T} {cs : List V}, s.sc = true → DC F s x cs → DC F' s x cs
  | .int _, _, _, _, h => by simpa only [DC] using h
  | .bool, _, _, _, h => by simpa only [DC] using h
  | .str, _, _, _, h => by simpa only [DC] using h
  | .list s, l, _, e, h => by cases e
  | .pair a b, x, _, e, h => by
    simp only [DC] at h ⊢
    simp only [Sh.sc, Bool.and_eq_true] at e
    obtain ⟨c, d, rfl, h1, h2⟩ := h
    exact ⟨c, d, rfl, h1.sc e.1, h2.sc e.2⟩
  | .unit, _, _, _, h => by simpa only [DC] using h
  | .nlist s, l, _, e, h => by cases e
  | .fnv, _, _, _, h => by simpa only [DC] using h
/-- flat data are the same wherever they lie -/
theorem flat_sc : ∀ {s : Sh} {x : s.T} {cs : List V}, s.sc = true → PRs F ρ N (flat s x) cs → PCs F' (flat s x) cs
  | .int k, x, cs, _, h => fun ρ' N' => by
    simp only [flat, PRs] at h ⊢
    obtain ⟨v, vs, rfl, h1, rfl⟩ := h
    exact ⟨v, [], rfl, by simp only [PR] at h1 ⊢; exact h1.sc rfl, rfl⟩
  | .bool, x, cs, _, h => fun ρ' N' => by
    simp only [flat, PRs] at h ⊢
    obtain ⟨v, vs, rfl, h1, rfl⟩ := h
    exact ⟨v, [], rfl, by simp only [PR] at h1 ⊢; exact h1.sc rfl, rfl⟩
  | .str, x, cs, _, h => fun ρ' N' => by
    simp only [flat, PRs] at h ⊢
    obtain ⟨v, vs, rfl, h1, rfl⟩ := h
    exact ⟨v, [], rfl, by simp only [PR] at h1 ⊢; exact h1.sc rfl, rfl⟩
  | .list s, x, cs, e, h => by cases e
  | .pair a b, (x, y), cs, e, h => fun ρ' N' => by
    simp only [Sh.sc, Bool.and_eq_true] at e
    have key : ∀ (ps qs : List PV) (l : List V), PRs F ρ N (ps ++ qs) l → ∃ c d, l = c ++ d ∧ PRs F ρ N ps c ∧ PRs F ρ N qs d := by
      intro ps
      induction ps with
      | nil => intro qs l hl; exact ⟨[], l, rfl, by simp, hl⟩
      | cons p ps ih =>
        intro qs l hl
        simp only [List.cons_append, PRs] at hl
        obtain ⟨v, vs, rfl, h1, h2⟩ := hl
        obtain ⟨c, d, rfl, h3, h4⟩ := ih qs vs h2
        exact ⟨v :: c, d, rfl, by simp only [PRs_cons]; exact ⟨h1, h3⟩, h4⟩
    obtain ⟨c, d, rfl, h1, h2⟩ := key _ _ _ h
    exact (flat_sc e.1 h1 ρ' N').append (flat_sc e.2 h2 ρ' N')
  | .unit, _, cs, _, h => fun ρ' N' => by simpa [flat] using h
  | .nlist s, x, cs, e, h => by cases e
  | .fnv, x, cs, _, h => fun ρ' N' => by
    simp only [flat, PRs] at h ⊢
    obtain ⟨v, vs, rfl, h1, rfl⟩ := h
    refine ⟨v, [], rfl, ?_, rfl⟩
    cases (x : Option Fn) <;> simp only [PR, PRs_nil] at h1 ⊢ <;> exact h1
theorem dats_sc {s : Sh} {x : s.T} {v : V} (e : s.sc = true) (h : PC F (dats s x) v) : PC F' (dats s x) v := by
  intro ρ' N'
  have h := h ρ' N'
  cases s with
  | pair a b =>
    unfold Pe.dats PR at h ⊢
    obtain ⟨cs, rfl, h1⟩ := h
    exact ⟨cs, rfl, flat_sc e h1 ρ' N'⟩
  | unit => unfold Pe.dats PR at h ⊢; obtain ⟨cs, rfl, h1⟩ := h; exact ⟨cs, rfl, by simpa using h1⟩
  | int k => unfold Pe.dats PR at h ⊢; exact h.sc rfl
  | bool => unfold Pe.dats PR at h ⊢; exact h.sc rfl
  | str => unfold Pe.dats PR at h ⊢; exact h.sc rfl
  | list s => cases e
  | nlist s => cases e
  | fnv =>
    unfold Pe.dats at h ⊢
    cases (x : Option Fn) <;> simp only [PR, PRs_nil] at h ⊢ <;> exact h
theorem vals_sc : ∀ {l : List Sh} {x : (prodS l).T} {vs : List V}, l.all Sh.sc = true → PCs F (valsOf l x) vs → PCs F' (valsOf l x) vs
  | [], _, vs, _, h => fun ρ' N' => by have := h ρ' N'; simpa [valsOf] using this
  | [a], x, vs, e, h => fun ρ' N' => by
    have h1 := h ρ' N'
    simp only [valsOf, PRs] at h1
    obtain ⟨v, vs', rfl, h2, rfl⟩ := h1
    simp only [List.all_cons, List.all_nil, Bool.and_true] at e
    simp only [valsOf, PRs_cons, PRs_nil, and_true]
    refine dats_sc (F := F) e (fun ρ2 N2 => ?_) ρ' N'
    have := h ρ2 N2
    simpa only [valsOf, PRs_cons, PRs_nil, and_true] using this
  | a :: b :: l, x, vs, e, h => by
    have h1 := h (fun _ => none) 0
    simp only [valsOf, PRs] at h1
    obtain ⟨v, vs', rfl, _, _⟩ := h1
    have e' : a.sc = true ∧ (b :: l).all Sh.sc = true := by simpa [List.all_cons, Bool.and_assoc] using e
    unfold valsOf at h ⊢
    exact PCs.cons (dats_sc e'.1 fun ρ2 N2 => ((PRs_cons ..).1 (h ρ2 N2)).1) (vals_sc e'.2 fun ρ2 N2 => ((PRs_cons ..).1 (h ρ2 N2)).2)
theorem one_vals {l : List Sh} {x : (prodS l).T} {v : V} : PC F (one (valsOf l x)) v ↔ ∃ vs, PCs F (valsOf l x) vs ∧ v = (match vs with | [u] => u | us => .tup us) := by
  have tupc : ∀ ps : List PV, (∀ u, ps ≠ [u]) → (PC F (one ps) v ↔ ∃ vs, PCs F ps vs ∧ v = (match vs with | [u] => u | us => .tup us)) := by
    intro ps hne
    have h1 : one ps = .tup ps := by
      unfold one
      split
      · rename_i u; exact absurd rfl (hne u)
      · rfl
    rw [h1]
    constructor
    · intro h
      have h2 := h (fun _ => none) 0
      unfold PR at h2
      obtain ⟨cs, rfl, h3⟩ := h2
      refine ⟨cs, fun ρ N => ?_, ?_⟩
      · have h4 := h ρ N
        unfold PR at h4
        obtain ⟨cs', e, h5⟩ := h4
        cases e; exact h5
      · have hl := h3.len
        split
        · rename_i u
          cases ps with
          | nil => cases hl
          | cons q qs => cases qs with
            | nil => exact absurd rfl (hne q)
            | cons _ _ => cases hl
        · rfl
    · rintro ⟨vs, h2, rfl⟩ ρ N
      unfold PR
      have hl := (h2 ρ N).len
      split
      · rename_i u
        cases ps with
        | nil => cases hl
        | cons q qs => cases qs with
          | nil => exact absurd rfl (hne q)
          | cons _ _ => cases hl
      · exact ⟨_, rfl, h2 ρ N⟩
  match l, x with
  | [], x => exact tupc [] (fun u e => by cases e)
  | [a], x =>
    simp only [valsOf, one]
    constructor
    · intro h; exact ⟨[v], fun ρ N => by simp only [PRs_cons, PRs_nil, and_true]; exact h ρ N, rfl⟩
    · rintro ⟨vs, h2, rfl⟩ ρ N
      have h3 := h2 ρ N
      simp only [PRs] at h3
      obtain ⟨u, us, rfl, h4, rfl⟩ := h3
      exact h4
  | a :: b :: l, x =>
    refine tupc _ (fun u e => ?_)
    unfold valsOf at e
    cases l <;> cases e
/-- **a call of a function that has a contract** -/
theorem sim_pspec {nd : Bool} {g : FuncId} {sp : PSpec} (_hsp : X.sp g = some sp) (hok : SpecOk X.C g sp) (hnd : nd = false → sp.nd = false) {Q : PV → Ob → Prop} {n : Nat} {args : List PV} {k : PV → PSt → Tr} {args' : List V} (he : Ev X Q n (pspec sp args st k)) (hr : Rel B h0 F ρ st fr h) (ha : PRs F ρ st.nx args args') :
    (X.C.prim g = none ∧ ∃ i, X.C.fn g = some i) ∧ ∃ l M, (∀ m, M ≤ m → ecall X.C m (.fn g args') h = some l) ∧ (nd = false → ∃ x, l = [x]) ∧
      ∀ x ∈ l, ∃ n', n' ≤ n ∧ ∃ r st', Ev X Q n' (k r st') ∧ ∃ F' ρ', PR F' ρ' st'.nx r x.1 ∧ Went B h0 F ρ st.nx h st' fr x.2 F' ρ' ∧ (∀ sp, X.sp g = some sp → ∀ b, b < h.nx → x.2.get b = h.get b) := by
  unfold pspec at he
  split at he
  case h_2 => exact absurd he Ev.not_fail
  rename_i c i hi
  rcases he.ite_iff with ⟨hc, he1⟩ | ⟨_, he1⟩
  case inr => exact absurd he1 Ev.not_fail
  simp only [Bool.and_eq_true] at hc
  obtain ⟨rfl, hpre⟩ := hc
  obtain ⟨F1, g1, g2, g3⟩ := handed hr.sr ha
  obtain ⟨l, M, hM, hone, hall⟩ := hok.run F1 h args' i g1.frz hr.sr.lt (g3 _ i hi) hpre
  refine ⟨⟨hok.prim, hok.fn⟩, l, M, hM, fun e => hone (hnd e), fun x hx => ?_⟩
  obtain ⟨k1, k2, k3, F', k4, k5, k6, k7⟩ := hall x hx
  refine ⟨n, Nat.le_refl _, _, _, he1, ?_⟩
  cases hsc : sp.outs.all Sh.sc with
  | true =>
    simp only [cond_true]
    have hv : PC F (one (valsOf sp.outs (sp.f i))) x.1 := by
      obtain ⟨vs, h1, h2⟩ := one_vals.1 k7
      exact one_vals.2 ⟨vs, vals_sc hsc h1, h2⟩
    refine ⟨F, ρ, hv ρ _, ⟨⟨hr.fp, ?_⟩, Le.refl, k1⟩, fun _ _ b hb => k2 b hb⟩
    refine hr.sr.after k2 k1 k3 (fun _ _ h => h) (fun _ _ h => .inl h) (fun b cs hb => ?_)
    obtain ⟨t, fz, hg⟩ := hr.sr.frz b cs hb
    exact ⟨t, fz, by rw [k2 b (hr.sr.lt b _ hg)]; exact hg⟩
  | false =>
    simp only [cond_false]
    obtain ⟨e1, e2, e3⟩ := freezes_same (args.flatMap PV.cells) st
    have hle : Le F ρ st.nx F' ρ (freezes (args.flatMap PV.cells) st).nx := by
      rw [e1]; exact Le.fzs fun b cs hb => k4 b cs (g2 b cs hb)
    refine ⟨F', ρ, k7 ρ _, ⟨⟨⟨e3.trans hr.fp.n, fun t => ?_⟩, ?_⟩, hle, k1⟩, fun _ _ b hb => k2 b hb⟩
    · have : (freezes (args.flatMap PV.cells) st).get t = st.get t := by unfold PSt.get; rw [e2]
      rw [this]; exact (hr.fp.slot t).mono hle
    · exact g1.after k2 k1 k3 k4 k5 k6
/-- **calls are as they are said to be** -/
theorem pcall_ok (hmg : X.C.mg = false) (hall : ∀ g sp, X.sp g = some sp → SpecOk X.C g sp) : ∀ (d : Nat) (nd : Bool) (h0 : H0), CallOk B h0 X nd (pcall X nd d)
  | 0, nd, h0 => by intro he; exact absurd he Ev.not_fail
  | d + 1, nd, h0 => by
    rename_i Q n cg args st k
    intro he F ρ fr h args' hr ha
    unfold pcall at he
    cases cg with
    | rnd id =>
      obtain ⟨c, h1, l, M, h2, h3, h4⟩ := sim_round (pcall_ok hmg hall d nd) (pcall_ok hmg hall d false) he hr ha
      refine ⟨c, h1, l, M, h2, h3, fun x hx => ?_⟩
      obtain ⟨n', k1, r, st', k2, F', ρ', k3, k4⟩ := h4 x hx
      exact ⟨n', k1, r, st', k2, F', ρ', k3, k4, fun gg e => by cases e⟩
    | fn g =>
    simp only at he
    have conv : ((X.C.prim g = none ∧ ∃ i, X.C.fn g = some i) ∧ ∃ l M, (∀ m, M ≤ m → ecall X.C m (.fn g args') h = some l) ∧ (nd = false → ∃ x, l = [x]) ∧
      ∀ x ∈ l, ∃ n', n' ≤ n ∧ ∃ r st', Ev X Q n' (k r st') ∧ ∃ F' ρ', PR F' ρ' st'.nx r x.1 ∧ Went B h0 F ρ st.nx h st' fr x.2 F' ρ' ∧ (∀ sp, X.sp g = some sp → ∀ b, b < h.nx → x.2.get b = h.get b)) →
      ∃ c, CalD X ρ h args' (.fn g) c ∧ ∃ l M, (∀ m, M ≤ m → ecall X.C m c h = some l) ∧ (nd = false → ∃ x, l = [x]) ∧
      ∀ x ∈ l, ∃ n', n' ≤ n ∧ ∃ r st', Ev X Q n' (k r st') ∧ ∃ F' ρ', PR F' ρ' st'.nx r x.1 ∧ Went B h0 F ρ st.nx h st' fr x.2 F' ρ' ∧ (∀ gg, Cal.fn g = .fn gg → ∀ sp, X.sp gg = some sp → ∀ b, b < h.nx → x.2.get b = h.get b) := by
      rintro ⟨⟨h0, h1⟩, l, M, h2, h3, h4⟩
      refine ⟨_, ⟨rfl, h0, h1⟩, l, M, h2, h3, fun x hx => ?_⟩
      obtain ⟨n', k1, r, st', k2, F', ρ', k3, k4, k5⟩ := h4 x hx
      exact ⟨n', k1, r, st', k2, F', ρ', k3, k4, fun gg e => by cases e; exact k5⟩
    obtain ⟨o, hs⟩ : ∃ o, X.sp g = o := ⟨_, rfl⟩
    cases o with
    | some sp =>
      rw [hs] at he
      simp only at he
      cases hb : (nd || !sp.nd) with
      | false => rw [hb] at he; exact absurd he Ev.not_fail
      | true =>
        rw [hb] at he
        exact conv (sim_pspec (nd := nd) hs (hall g sp hs) (fun e => by rw [e] at hb; simpa using hb) he hr ha)
    | none =>
      rw [hs] at he
      simp only at he
      split at he
      case h_2 => exact absurd he Ev.not_fail
      rename_i hp hsp
      exact conv (sim_enter (pcall_ok hmg hall d nd) (pcall_ok hmg hall d false) hmg hsp hp hs he hr ha)
theorem argsOf_len {st : PSt} : ∀ {l : List Sh} {ps : List PV} {r : Bool × (prodS l).T}, argsOf st l ps = some r → l.length = ps.length
  | [], [], _, _ => rfl
  | [], _ :: _, _, h => by cases h
  | [a], [p], _, _ => rfl
  | [a], [], _, h => by cases h
  | [a], _ :: _ :: _, _, h => by cases h
  | a :: b :: l, [], _, h => by cases h
  | a :: b :: l, p :: ps, _, h => by
    unfold argsOf at h
    split at h
    case h_2 => cases h
    rename_i e1 e2
    have := argsOf_len e2
    simp at this ⊢
    exact this
/-- the result of a tree, as data -/
def resVals (outs : List Sh) (v : PV) : List PV := match outs with
  | [_] => [v]
  | _ => match v with
    | .tup vs => vs
    | _ => [v]
def resOf (outs : List Sh) (v : PV) (ob : Ob) : Option (Bool × (prodS outs).T) := argsOf ⟨0, .leaf, ob, 0⟩ outs (resVals outs v)
/-- a tree ends, and all that it comes to is so -/
def Ends (X : PCtx) (t : Tr) (Q : PV → Ob → Prop) : Prop := ∃ n, Ev X Q n t
def Gives (sp : PSpec) (i : (prodS sp.ins).T) (v : PV) (ob : Ob) : Prop := ∃ y, resOf sp.outs v ob = some (true, y) ∧ y = sp.f i
theorem specOk_of (hmg : X.C.mg = false) (hall : ∀ g sp, X.sp g = some sp → SpecOk X.C g sp) {f : FuncId} {sp : PSpec} {d : Nat} (hsp : X.C.spec f = none) (hprim : X.C.prim f = none) (hno : X.sp f = none)
    (hev : ∀ i, sp.pre i = true → Ends X (tree X sp.nd d f (valsOf sp.ins i)) (Gives sp i)) (hfn : ∃ i, X.C.fn f = some i) : SpecOk X.C f sp := by
  refine ⟨hprim, hfn, fun F h args i hfrz hlt hargs hpre => ?_⟩
  obtain ⟨n, he⟩ := hev i hpre
  unfold tree at he
  have hr : Rel h.nx ⟨h, F, []⟩ F (fun _ => none) (mkSt 0 [] [] 0) ⟨0, .leaf⟩ h := by
    refine ⟨⟨rfl, fun t => ?_⟩, ⟨fun id o ho => (by cases ho), fun id id' o o' b n n' ho => (by cases ho), hfrz, fun id b n hb => (by cases hb), fun _ _ => rfl, fun _ _ => rfl, hlt, Nat.le_refl _, fun b cs hb => .inl hb, fun b hb => (by cases hb)⟩⟩
    show PR _ _ _ (((ofSlots []).get t).getD .any) _
    have : (ofSlots []).get t = none := PM.get_leaf t
    rw [this]
    simp [PR]
  obtain ⟨_, l, M, hM, hone, hall⟩ := sim_enter (pcall_ok hmg hall d sp.nd) (pcall_ok hmg hall d false) hmg hsp hprim hno he hr (hargs _ _)
  refine ⟨l, M, hM, hone, fun x hx => ?_⟩
  obtain ⟨n', hn, r, st', he', F', ρ', hp, hw, _⟩ := hall x hx
  have hq := he'.of_leaf
  obtain ⟨y, hy, rfl⟩ := hq
  have hold : ∀ b, b < h.nx → x.2.get b = h.get b := hw.rel.sr.old
  refine ⟨hw.nx, hold, hw.rel.sr.lt, ?_⟩
  have hvs : ∃ vs, PRs F' ρ' st'.nx (resVals sp.outs r) vs ∧ ((∃ a, sp.outs = [a]) → vs = [x.1]) ∧ ((∀ a, sp.outs ≠ [a]) → (∃ qs, r = .tup qs) → x.1 = .tup vs) := by
    unfold resVals
    split
    · rename_i a ha; exact ⟨[x.1], by simp only [PRs_cons, PRs_nil, and_true]; exact hp, fun _ => rfl, fun hne => absurd ha (hne _)⟩
    · rename_i hne
      split
      · rename_i qs
        simp only [PR] at hp
        obtain ⟨cs, e, h1⟩ := hp
        exact ⟨cs, h1, fun ⟨a, ha⟩ => absurd ha (hne a), fun _ _ => e⟩
      · rename_i hnt
        exact ⟨[x.1], by simp only [PRs_cons, PRs_nil, and_true]; exact hp, fun _ => rfl, fun _ ⟨qs, hqs⟩ => absurd hqs (hnt qs)⟩
  obtain ⟨vs, hvs1, hvs2, hvs3⟩ := hvs
  obtain ⟨F1, g1, g2, g3⟩ := handed (st := st') hw.rel.sr hvs1
  have hob : ∀ id, ObjEq (PSt.obj ⟨0, .leaf, st'.ob, 0⟩ id) (st'.obj id) := fun id => ObjEq.refl _
  have hres := g3 sp.outs _ (by rw [argsOf_eq hob]; exact hy)
  refine ⟨F1, fun b cs hb => g2 b cs (hw.le.fz b cs hb), fun b cs hb => g1.fo b cs hb, g1.frz, one_vals.2 ⟨vs, hres, ?_⟩⟩
  have hlen : sp.outs.length = (resVals sp.outs r).length := argsOf_len hy
  have hl2 := hvs1.len
  by_cases ho : ∃ a, sp.outs = [a]
  · rw [hvs2 ho]
  · have hne : ∀ a, sp.outs ≠ [a] := fun a ha => ho ⟨a, ha⟩
    have hn1 : sp.outs.length ≠ 1 := fun e => by
      obtain ⟨a, ha⟩ := List.length_eq_one_iff.1 e
      exact hne a ha
    have ht : ∃ qs, r = .tup qs := by
      cases r with
      | tup qs => exact ⟨qs, rfl⟩
      | _ =>
        exfalso
        apply hn1
        rw [hlen]
        unfold resVals
        split <;> rfl
    rw [hvs3 hne ht]
    split
    · rename_i u
      exact absurd (hlen.trans hl2) hn1
    · rfl
end
end Go.Pe
end
section
namespace Go.Pe
open Go.Det
section
variable {X : PCtx} {Q Q' : PV → Ob → Prop}
theorem Ev.mono {n : Nat} {t : Tr} (he : Ev X Q n t) : ∀ {m : Nat}, n ≤ m → Ev X Q m t := by
  induction he with
  | leaf h => exact fun _ => .leaf h
  | ite _ _ i1 i2 => exact fun hm => .ite (fun e => i1 e hm) (fun e => i2 e hm)
  | both _ _ i1 i2 => exact fun hm => .both (i1 hm) (i2 hm)
  | alts _ ih => exact fun hm => .alts fun i hi => ih i hi hm
  | cut _ ih => exact fun hm => .cut (ih hm)
  | loop _ ih =>
    intro m hm
    obtain ⟨k, rfl⟩ : ∃ k, m = k + 1 := ⟨m - 1, by omega⟩
    exact .loop (ih (by omega))
theorem Ends.leaf {v : PV} {ob : Ob} (h : Q v ob) : Ends X (.leaf v ob) Q := ⟨0, .leaf h⟩
theorem Ends.ite {c : Bool} {a b : Tr} (h1 : c = true → Ends X a Q) (h2 : c = false → Ends X b Q) : Ends X (.ite c a b) Q := by
  cases c with
  | true => obtain ⟨n, h⟩ := h1 rfl; exact ⟨n, .ite (fun _ => h) (fun e => by cases e)⟩
  | false => obtain ⟨n, h⟩ := h2 rfl; exact ⟨n, .ite (fun e => by cases e) (fun _ => h)⟩
theorem Ends.tt {c : Bool} {a b : Tr} (hc : c = true) (h : Ends X a Q) : Ends X (.ite c a b) Q := Ends.ite (fun _ => h) (fun e => by rw [hc] at e; cases e)
theorem Ends.ff {c : Bool} {a b : Tr} (hc : c = false) (h : Ends X b Q) : Ends X (.ite c a b) Q := Ends.ite (fun e => by rw [hc] at e; cases e) (fun _ => h)
theorem Ends.both {a b : Tr} (h1 : Ends X a Q) (h2 : Ends X b Q) : Ends X (.both a b) Q := by
  obtain ⟨n, h1⟩ := h1
  obtain ⟨m, h2⟩ := h2
  exact ⟨max n m, .both (h1.mono (Nat.le_max_left _ _)) (h2.mono (Nat.le_max_right _ _))⟩
theorem Ends.alts {m : Nat} {f : Nat → Tr} (h : ∀ i, i < m → Ends X (f i) Q) : Ends X (.alts m f) Q := by
  have : ∀ k, k ≤ m → ∃ n, ∀ i, i < k → Ev X Q n (f i) := by
    intro k
    induction k with
    | zero => exact fun _ => ⟨0, fun i hi => absurd hi (Nat.not_lt_zero _)⟩
    | succ k ih =>
      intro hk
      obtain ⟨n, hn⟩ := ih (by omega)
      obtain ⟨n2, hn2⟩ := h k (by omega)
      refine ⟨max n n2, fun i hi => ?_⟩
      by_cases e : i = k
      · subst e; exact hn2.mono (by omega)
      · exact (hn i (by omega)).mono (by omega)
  obtain ⟨n, hn⟩ := this m (Nat.le_refl _)
  exact ⟨n, .alts hn⟩
/-- a loop's body, once -/
noncomputable def stepT (X : PCtx) : Tr → Tr
  | .loop nd ro d f base b st k => body X nd ro d f base b st k
  | .cut nd ro d f base b st k => cutB X nd ro d f base b st k
  | t => t
theorem Ends.step {t : Tr} (h : Ends X (stepT X t) Q) : Ends X t Q := by
  cases t with
  | loop => obtain ⟨n, h⟩ := h; exact ⟨n + 1, .loop h⟩
  | cut => obtain ⟨n, h⟩ := h; exact ⟨n, .cut h⟩
  | _ => exact h
theorem Ends.eq {t t' : Tr} (e : t = t') (h : Ends X t' Q) : Ends X t Q := e ▸ h
theorem Ends.steq {t t' : Tr} (e : stepT X t = t') (h : Ends X t' Q) : Ends X t Q := Ends.step (e ▸ h)
theorem Ends.mono {t : Tr} (h : Ends X t Q) (hq : ∀ v ob, Q v ob → Q' v ob) : Ends X t Q' := by
  obtain ⟨n, he⟩ := h
  refine ⟨n, ?_⟩
  induction he with
  | leaf h => exact .leaf (hq _ _ h)
  | ite _ _ i1 i2 => exact .ite i1 i2
  | both _ _ i1 i2 => exact .both i1 i2
  | alts _ ih => exact .alts ih
  | cut _ ih => exact .cut ih
  | loop _ ih => exact .loop ih
def Tr.L : Tr → Tr
  | .ite _ a _ => a
  | .both a _ => a
  | t => t
def Tr.R : Tr → Tr
  | .ite _ _ b => b
  | .both _ b => b
  | t => t
def Tr.A (i : Nat) : Tr → Tr
  | .alts _ f => f i
  | t => t
/-- the same loop, at another state -/
noncomputable def re : Tr → PSt → Tr
  | .loop nd ro d f base b _ k, st => .loop nd ro d f base b st k
  | .cut nd ro d f base b _ k, st => .cut nd ro d f base b st k
  | t, _ => t
def rfFind (r : Nat) : Code → Option (Array Tmp × Code × Code)
  | .rangeFunc _ ps a b => bif Nat.beq (firstReg b) r then some (ps, a, b) else rfFind r b
  | .seq a b => match rfFind r a with
    | some x => some x
    | none => rfFind r b
  | .cond _ a b => match rfFind r a with
    | some x => some x
    | none => rfFind r b
  | .block _ b | .loop b | .scope b => rfFind r b
  | _ => none
noncomputable def rfOf (C : Ctx) (f : FuncId) (r : Nat) : Array Tmp × Code × Code := match C.fn f with
  | some i => (rfFind r i.body).getD (#[], .skip, .skip)
  | none => (#[], .skip, .skip)
noncomputable def rfPs (C : Ctx) (f : FuncId) (r : Nat) : Array Tmp := (rfOf C f r).1
noncomputable def rfAsg (C : Ctx) (f : FuncId) (r : Nat) : Code := (rfOf C f r).2.1
noncomputable def rfBody (C : Ctx) (f : FuncId) (r : Nat) : Code := (rfOf C f r).2.2
/-- contracts in a list -/
def spOf : List (FuncId × PSpec) → FuncId → Option PSpec
  | [], _ => none
  | (g, s) :: l, f => bif Nat.beq g f then some s else spOf l f
theorem spOf_ok {C : Ctx} : ∀ {l : List (FuncId × PSpec)}, (∀ x ∈ l, SpecOk C x.1 x.2) → ∀ g sp, spOf l g = some sp → SpecOk C g sp
  | [], _, g, sp, h => by cases h
  | (g', s) :: l, hl, g, sp, h => by
    unfold spOf at h
    cases hb : Nat.beq g' g with
    | true =>
      rw [hb] at h; cases h
      have := Nat.eq_of_beq_eq_true hb
      subst this
      exact hl _ List.mem_cons_self
    | false => rw [hb] at h; exact spOf_ok (fun x hx => hl x (List.mem_cons_of_mem _ hx)) g sp h
/-- places in a list -/
def ctOf : List (FuncId × List Nat) → FuncId → Nat → Bool
  | [], _, _ => false
  | (g, t) :: l, f, r => bif Nat.beq g f then t.any (Nat.beq r) else ctOf l f r
/-- slices that are written no more, in a table -/
def fzOf : List (FuncId × List (Nat × List (Nat × Sh))) → FuncId → Nat → List (Nat × Sh)
  | [], _, _ => []
  | (g, t) :: l, f, r => bif Nat.beq g f then fz1 t r else fzOf l f r
  where fz1 : List (Nat × List (Nat × Sh)) → Nat → List (Nat × Sh)
  | [], _ => []
  | (i, s) :: l, r => bif Nat.beq i r then s else fz1 l r
/-- the slots that are kept, in a table -/
def plOf : List (FuncId × List (Nat × List Nat)) → FuncId → Nat → List Nat
  | [], _, _ => []
  | (g, t) :: l, f, r => bif Nat.beq g f then pl1 t r else plOf l f r
  where pl1 : List (Nat × List Nat) → Nat → List Nat
  | [], _ => []
  | (i, s) :: l, r => bif Nat.beq i r then s else pl1 l r
end
end Go.Pe
end
section
namespace Go.Pe
open Go.Det
noncomputable section
open Go.Proofs.Tryz (prog)
/-- with other known calls; outcomes are not made one -/
def withSpec (C : Ctx) (q : FuncId → Option (List V → H → Option (V × H))) : Ctx := ⟨C.T, C.ng, C.fn, C.prim, q, false⟩
theorem withSpec_ok {C C' : Ctx} {P : Program} (hC : C.Ok P) (hC' : C'.Ok P) (hce : Certs C') (hm : P.follows .mixedOrders = true) (hng : C'.ng = 0) {n : Nat} {M : Memo} (h : memoAll C' n M = true) : (withSpec C (memoOf M)).Ok P where
  T := hC.T
  fn := hC.fn
  prim := hC.prim
  spec := memo_ok hC' hce hm hng h
theorem withSpec_certs {C : Ctx} (hce : Certs C) (q : FuncId → Option (List V → H → Option (V × H))) : Certs (withSpec C q) := hce
/-- the examples are known to be true -/
noncomputable def C7p : Ctx := withSpec C7 (memoOf A7)
theorem C7p_ok : C7p.Ok prog := withSpec_ok C7_ok C7m_ok (withMemo_certs C7_certs M7) mixed7 rfl awake7
theorem C7p_certs : Certs C7p := withSpec_certs C7_certs _
/-- the slots that a loop's head keeps: by function, and the number of the loop's first region -/
noncomputable def tbl7 : List (FuncId × List (Nat × List Nat)) :=
  [(3, [(20, [7, 8, 9, 10, 11, 12, 13, 14, 15, 16, 17, 18]), (18, [0, 5, 7, 8, 9, 10, 11, 12, 13, 14, 15, 16, 17, 18]), (16, [0, 5, 7, 8, 9, 10, 11, 12, 13, 14, 15, 16, 17, 18]), (12, [0, 1, 5, 7, 8, 9, 10, 11, 12, 13, 14, 15]), (3, [0, 1, 5])]),
  (4, [(8, [7, 8, 9, 10, 11, 12]), (3, [0, 1, 2])]),
  (5, [(9, [5, 6, 7, 8, 9, 10, 11, 12]), (3, [0, 1])]),
  (6, [(11, [7, 8, 9, 10, 11, 12, 13, 14]), (9, [1, 2, 7, 8, 9, 10, 11, 12, 13, 14]), (3, [0, 1, 2])]),
  (7, [(11, [0, 4, 5, 6, 7, 26, 27, 28]), (10, [0, 4, 5, 6, 7, 26, 27, 28]), (8, [0, 3, 4, 5, 6]), (3, [0])]),
  (8, [(30, [15, 21, 24, 26, 216, 217, 218]), (29, [15, 21, 24, 26, 216, 217, 218]), (28, [15, 21, 24, 216, 217, 218]), (27, [15, 21, 24, 216, 217, 218]), (25, [15, 21]), (21, [0, 2, 7, 8, 15, 19, 166, 167]), (18, [0, 2, 7, 8, 15, 19, 166, 167]), (17, [0, 2, 7, 8, 15, 19, 166, 167]), (11, [0, 2, 7, 8, 15, 16]), (12, [0, 2, 7, 8, 15, 16]), (10, [0, 2, 7, 8, 15, 16]), (8, [0, 2, 7, 8]), (3, [0, 2, 4])]),
  (9, [(46, [9, 10, 22, 23, 24, 193, 194, 195]), (44, [9, 10, 22, 23, 24, 25, 26, 193, 194, 195]), (41, [9, 10, 22, 23, 24, 193, 194, 195]), (40, [9, 10, 22, 23, 24, 193, 194, 195]), (38, [7, 9, 10, 22]), (35, [0, 7, 9, 10, 12]), (31, [0, 7, 9, 10, 11, 12, 13, 19, 132, 133, 134]), (30, [0, 7, 9, 10, 11, 12, 13, 19, 21, 132, 133, 134]), (27, [0, 7, 9, 10, 11, 12, 13, 19, 132, 133, 134]), (26, [0, 7, 9, 10, 11, 12, 13, 19, 132, 133, 134]), (15, [0, 7, 9, 10, 11, 12, 13, 14, 15]), (22, [0, 7, 9, 10, 11, 12, 13, 14, 15, 18]), (19, [0, 7, 9, 10, 11, 12, 13, 14, 15, 16, 17]), (16, [0, 7, 9, 10, 11, 12, 13, 14, 15]), (14, [0, 7, 9, 10, 11, 12, 13, 14, 15]), (12, [0, 7, 9, 10, 11, 12, 13]), (10, [0, 7, 9, 10, 11, 12, 13]), (6, [0, 1, 2, 7]), (3, [0, 1, 2])]),
  (10, [(0, [0, 1, 4, 5, 7, 8, 9, 10, 11, 12, 13, 14, 32, 49, 51, 52, 53, 66, 93, 98, 103, 126, 159, 160, 189, 190, 212]), (31, [0, 1, 5, 7, 8, 51, 52]), (19, [0, 1, 5, 7, 8, 9, 10, 51, 52]), (21, [0, 1, 5, 7, 8, 9, 10, 51, 52]), (20, [0, 1, 5, 7, 8, 9, 10, 51, 52]), (18, [0, 1, 5, 7, 8, 9, 10, 51, 52]), (16, [0, 1, 5, 7, 8, 9, 51, 52]), (12, [0, 1, 5, 7, 8, 9, 51, 52]), (9, [0, 1, 5, 7, 8, 51, 52]), (8, [0, 1, 5, 7, 8, 51, 52]), (6, [0, 1, 5]), (3, [0, 1])]),
  (11, [(20, [5, 6, 7, 8, 10, 11, 12, 13]), (14, [0, 3, 5, 6, 7, 8, 10, 11]), (11, [0, 3, 5, 6, 7, 8, 10, 11]), (8, [0, 3, 5, 6, 7, 8, 10]), (3, [0, 3])]),
  (12, [(18, [7, 9, 55, 56]), (15, [7, 9, 55, 56]), (14, [7, 9, 55, 56]), (13, [7, 9]), (8, [0, 1, 21, 22, 23]), (5, [0, 1, 21, 22, 23]), (4, [0, 1, 21, 22, 23]), (3, [0, 1])]),
  (13, [(14, [5, 6, 7, 8, 9, 10, 11, 12, 13]), (8, [0, 3, 5, 6, 7, 8, 9, 10]), (3, [0, 3])]),
  (14, [(0, [0, 3, 4, 5, 6, 8, 10, 11, 12, 13, 14, 16, 39, 71, 73, 74, 75, 85, 99, 147, 150, 171, 192, 193, 194, 195, 196, 202]), (35, [16, 193, 194, 195]), (32, [16, 193, 194, 195]), (31, [16, 193, 194, 195]), (30, [5, 16]), (24, [0, 3, 5]), (21, [0, 3, 5, 6, 8, 10, 11, 73, 74]), (19, [0, 3, 5, 6, 8, 10, 11, 14, 73, 74]), (15, [0, 3, 5, 6, 8, 10, 11, 12, 13, 73, 74]), (10, [0, 3, 5, 6, 8, 10, 11, 73, 74]), (9, [0, 3, 5, 6, 8, 10, 11, 73, 74]), (7, [0, 3, 5, 6, 8]), (3, [0, 3])]),
  (15, [(17, [7, 8, 9, 10, 11, 13, 14, 15]), (15, [0, 1, 7, 8, 9, 10, 11, 13, 14, 15]), (8, [0, 1, 2, 7, 8, 9, 10, 11, 12]), (9, [0, 1, 2, 7, 8, 9, 10, 11, 12]), (7, [0, 1, 2, 7, 8, 9, 10, 11, 12]), (3, [0, 1, 2])]),
  (16, [(45, [23, 27, 30, 307, 308]), (42, [23, 27, 30, 307, 308]), (41, [23, 27, 30, 307, 308]), (40, [23, 27, 30]), (34, [0, 9, 22]), (31, [0, 2, 9, 10]), (24, [0, 2, 9, 10, 16, 17, 190, 191, 192]), (23, [0, 2, 9, 10, 16, 17, 190, 191, 192]), (20, [0, 2, 9, 10]), (17, [0, 2, 9, 10, 14]), (14, [0, 2, 9, 10]), (11, [0, 2, 9, 10, 11]), (6, [0, 1, 2]), (3, [0, 1, 2])]),
  (17, [(21, [27, 30]), (14, []), (12, [12, 14, 16, 18])]),
  (18, [(4, [0, 1])]),
  (19, [(4, [0])]),
  (20, [(8, [10, 11, 12]), (7, [10, 11, 12]), (4, [0, 1, 2])]),
  (21, [(6, [5, 6, 7]), (3, [5, 6, 7]), (2, [5, 6, 7])]),
  (22, [(3, [])]),
  (24, [(10, [5, 7, 8]), (8, [5, 7, 8]), (5, [0, 1, 5, 6]), (3, [0, 1, 5, 6])]),
  (25, [(11, [0, 3, 6]), (12, [0, 3, 6]), (10, [0, 3, 6]), (7, [0, 3, 4, 5]), (5, [0, 3, 4, 5]), (3, [0, 3]), (2, [0, 3])]),
  (26, [(12, [8, 9, 11]), (11, [8, 9, 11]), (5, [1, 2, 7, 8, 9, 10]), (8, [1, 2, 7, 8, 9, 10]), (6, [1, 2, 7, 8, 9, 10]), (4, [1, 2, 7, 8, 9, 10])]),
  (27, [(5, [0, 1, 5]), (6, [0, 1, 5]), (4, [0, 1, 5]), (3, [0, 1])]),
  (29, [(26, [0, 1, 9, 15, 61, 62, 63]), (25, [0, 1, 9, 15, 17, 61, 62, 63]), (21, [0, 1, 9, 15, 61, 62, 63]), (20, [0, 1, 9, 15, 61, 62, 63]), (18, [0, 1, 2, 9]), (15, [0, 1, 2, 9, 26, 27, 28]), (14, [0, 1, 2, 9, 26, 27, 28, 35, 36, 37]), (13, [0, 1, 2, 9, 13, 26, 27, 28, 35, 36, 37]), (9, [0, 1, 2, 9, 26, 27, 28, 35, 36, 37]), (8, [0, 1, 2, 9, 26, 27, 28, 35, 36, 37]), (7, [0, 1, 2, 9, 11, 26, 27, 28]), (4, [0, 1, 2, 9, 26, 27, 28]), (3, [0, 1, 2, 9, 26, 27, 28])]),
  (30, [(15, [2, 7, 9]), (18, [2, 7, 9]), (16, [2, 7, 9]), (14, [2, 7, 9]), (13, [2, 7]), (4, [0, 1, 2, 7, 8]), (9, [0, 1, 2, 7, 8]), (7, [0, 1, 2, 7, 8]), (5, [0, 1, 2, 7, 8]), (3, [0, 1, 2, 7, 8])]),
  (31, [(9, [0, 1, 2, 8, 9, 11]), (11, [0, 1, 2, 8, 9, 11]), (10, [0, 1, 2, 8, 9, 11]), (8, [0, 1, 2, 8, 9, 11]), (4, [0, 1, 2, 8, 9, 10]), (5, [0, 1, 2, 8, 9, 10]), (3, [0, 1, 2, 8, 9, 10])]),
  (32, [(19, [1, 11, 12]), (16, [1, 10, 11, 12, 43, 44, 45]), (11, [1, 10, 11, 12, 43, 44, 45]), (10, [1, 10, 11, 12, 43, 44, 45]), (7, [0, 1]), (5, [0, 1])]),
  (33, [(5, [0, 3]), (6, [0, 3]), (4, [0, 3]), (3, [0])]),
  (34, [(19, [1, 7, 8]), (4, [0, 1, 7, 8, 9]), (8, [0, 1, 7, 8, 9, 10, 11, 12]), (11, [0, 1, 7, 8, 9, 10, 11, 12]), (9, [0, 1, 7, 8, 9, 10, 11, 12]), (7, [0, 1, 7, 8, 9, 10, 11, 12]), (5, [0, 1, 7, 8, 9]), (3, [0, 1, 7, 8, 9])]),
  (35, [(5, [0, 5]), (6, [0, 5]), (4, [0, 5]), (3, [0])]),
  (36, [(12, [0, 5, 16, 17, 18]), (11, [0, 5, 8, 16, 17, 18]), (7, [0, 5, 16, 17, 18]), (6, [0, 5, 16, 17, 18]), (4, [0])]),
  (37, [(26, [0, 15]), (21, [0, 7, 11, 49, 50, 51]), (20, [0, 7, 11, 13, 49, 50, 51]), (16, [0, 7, 11, 49, 50, 51]), (15, [0, 7, 11, 49, 50, 51]), (12, [0, 1, 7, 33, 34, 35]), (9, [0, 1, 7, 9, 33, 34, 35]), (7, [0, 1, 7, 33, 34, 35]), (6, [0, 1, 7, 33, 34, 35]), (4, [0, 1])]),
  (38, [(7, [0, 3]), (8, [0, 3]), (6, [0, 3]), (5, [0]), (3, [0])]),
  (39, [(21, [0, 1, 5, 8]), (22, [0, 1, 5, 8]), (20, [0, 1, 5, 8]), (14, [0, 1, 5, 7]), (17, [0, 1, 5, 7]), (15, [0, 1, 5, 7]), (13, [0, 1, 5, 7]), (6, [0, 1, 5, 6]), (10, [0, 1, 5, 6]), (8, [0, 1, 5, 6]), (7, [0, 1, 5, 6]), (5, [0, 1, 5, 6]), (4, [0, 1, 5])]),
  (40, [(5, [0, 3, 4, 5]), (6, [0, 3, 4, 5]), (4, [0, 3, 4, 5])]),
  (41, [(8, [0, 1, 5, 6, 7, 8]), (9, [0, 1, 5, 6, 7, 8]), (7, [0, 1, 5, 6, 7, 8]), (5, [0, 1, 5, 6]), (3, [0, 1, 5, 6])]),
  (42, [(5, [0, 1, 5]), (6, [0, 1, 5]), (4, [0, 1, 5]), (3, [0, 1])]),
  (43, [(5, [0, 5]), (6, [0, 5]), (4, [0, 5]), (3, [0])]),
  (44, [(10, [0, 5, 14, 15, 16]), (7, [0, 5, 14, 15, 16]), (6, [0, 5, 14, 15, 16]), (4, [0])]),
  (45, [(4, [3, 6, 7, 8]), (3, [3, 6, 7, 8])]),
  (46, [(6, [0, 3, 4]), (17, [0, 3, 4, 5]), (13, [0, 3, 4, 6]), (11, [0, 3, 4, 5, 6]), (10, [0, 3, 4, 5]), (7, [0, 3, 4]), (5, [0, 3, 4]), (3, [0])]),
  (47, [(8, [0, 3, 4, 5, 6]), (9, [0, 3, 4, 5, 6]), (7, [0, 3, 4, 5, 6]), (6, [0, 3, 4, 5]), (4, [0, 3, 4, 5])]),
  (48, [(3, [0])]),
  (49, [(5, [0, 1, 5]), (6, [0, 1, 5]), (4, [0, 1, 5]), (3, [0, 1])]),
  (50, [(5, [0, 5]), (6, [0, 5]), (4, [0, 5]), (3, [0])]),
  (51, [(6, [0, 3, 4]), (12, [0, 3, 4, 5]), (10, [0, 3, 4, 5]), (7, [0, 3, 4]), (5, [0, 3, 4]), (3, [0])]),
  (52, [(20, [1, 12, 16]), (15, [0, 1, 2, 12, 13, 16, 59, 60, 61]), (14, [0, 1, 2, 12, 13, 16, 59, 60, 61]), (11, [0, 1, 2, 3, 12, 13, 38, 39, 40]), (7, [0, 1, 2, 3, 12, 13, 38, 39, 40]), (6, [0, 1, 2, 3, 12, 13, 38, 39, 40]), (4, [0, 1, 2, 3])]),
  (53, [(4, [3, 6, 7, 8]), (3, [3, 6, 7, 8])]),
  (54, [(10, [2, 7, 23, 24, 25]), (9, [2, 7, 9, 23, 24, 25]), (6, [2, 7, 23, 24, 25]), (5, [2, 7, 23, 24, 25]), (3, [0, 1, 2])]),
  (56, [(14, []), (6, [0, 3, 4]), (11, [0, 3, 4]), (9, [0, 3, 4]), (7, [0, 3, 4]), (5, [0, 3, 4]), (3, [0])]),
  (57, [(4, [0, 1])]),
  (58, [(5, [0, 1, 5, 6]), (3, [0, 1, 5, 6])]),
  (59, [(4, [0])]),
  (60, [(3, [0])]),
  (61, [(5, [0, 3, 4]), (3, [0, 3, 4])]),
  (62, [(16, [7, 11]), (13, [0, 1, 7, 8, 10, 11, 12]), (11, [0, 1, 7, 8, 10, 11, 12]), (4, [0, 1, 2, 7, 8, 9]), (5, [0, 1, 2, 7, 8, 9]), (3, [0, 1, 2, 7, 8, 9])]),
  (63, [(14, [6, 8, 27, 28, 29]), (13, [6, 8, 27, 28, 29]), (9, [6, 8, 27, 28, 29]), (8, [6, 8, 27, 28, 29]), (6, [1, 6]), (4, [1, 6])]),
  (64, [(15, [1, 7, 8, 11]), (19, [1, 7, 8, 11]), (16, [1, 7, 8, 11]), (14, [1, 7, 8, 11]), (13, [1, 7, 8]), (10, [1, 7, 8, 9, 10]), (8, [1, 7, 8, 9, 10]), (4, [0, 1])]),
  (66, [(13, [3, 6, 9, 24, 25, 26]), (12, [3, 6, 9, 13, 24, 25, 26]), (7, [3, 6, 9, 24, 25, 26]), (6, [3, 6, 9, 24, 25, 26]), (4, [0, 3, 6])]),
  (67, [(3, [])]),
  (68, [(6, [0, 3, 5, 6]), (7, [0, 3, 5, 6]), (5, [0, 3, 5, 6]), (4, [0, 3, 5])]),
  (69, [(10, [6, 7, 8, 10, 11]), (11, [6, 7, 8, 10, 11]), (9, [6, 7, 8, 10, 11]), (6, [0, 3, 6, 7, 8, 9]), (4, [0, 3, 6, 7, 8, 9])]),
  (70, [(5, [3, 5, 7, 8]), (6, [3, 5, 7, 8]), (4, [3, 5, 7, 8])]),
  (71, [(5, [0, 1, 5]), (6, [0, 1, 5]), (4, [0, 1, 5]), (3, [0, 1])]),
  (72, [(4, [3, 6, 7, 8]), (3, [3, 6, 7, 8])]),
  (73, [(3, [0, 1, 5]), (4, [0, 1, 5]), (2, [0, 1, 5])]),
  (74, [(6, [1, 6, 8]), (7, [1, 6, 8]), (5, [1, 6, 8]), (4, [1, 6])]),
  (75, [(14, []), (8, [0, 3, 4]), (11, [0, 3, 4]), (9, [0, 3, 4]), (7, [0, 3, 4]), (5, [0]), (3, [0])]),
  (76, [(18, [7, 8, 9, 11, 12]), (19, [7, 8, 9, 11, 12]), (17, [7, 8, 9, 11, 12]), (15, [7, 8, 9]), (14, [7, 8, 9]), (11, [0, 1, 5, 7, 8, 9, 10]), (9, [0, 1, 5, 7, 8, 9, 10]), (5, [0, 1, 5, 6]), (3, [0, 1, 5, 6])]),
  (77, [(5, [0, 1, 5, 6, 7]), (21, [0, 1, 5, 6, 7, 8, 13, 14]), (19, [0, 1, 5, 6, 7, 8, 13, 14]), (17, [0, 1, 5, 6, 7, 8, 9, 10]), (10, [0, 1, 5, 6, 7, 8, 9, 10, 11]), (15, [0, 1, 5, 6, 7, 8, 9, 10, 11]), (11, [0, 1, 5, 6, 7, 8, 9, 10, 11]), (9, [0, 1, 5, 6, 7, 8, 9, 10, 11]), (6, [0, 1, 5, 6, 7]), (4, [0, 1, 5, 6, 7])]),
  (78, [(5, [0, 5]), (6, [0, 5]), (4, [0, 5]), (3, [0])]),
  (79, [(5, [0, 4]), (6, [0, 4]), (4, [0, 4]), (3, [0])]),
  (80, [(16, [15, 17, 78]), (15, [15, 17, 78]), (10, [15, 16, 17, 53]), (9, [15, 16, 17, 53]), (6, [2, 8, 11])]),
  (81, [(4, [3, 6, 7, 8]), (3, [3, 6, 7, 8])]),
  (82, [(9, [0, 2, 12, 13, 14]), (5, [0, 2, 12, 13, 14]), (4, [0, 2, 12, 13, 14]), (3, [0, 2])]),
  (84, [(3, [0, 1, 5]), (4, [0, 1, 5]), (2, [0, 1, 5])]),
  (87, [(6, [5, 6, 7]), (3, [5, 6, 7]), (2, [5, 6, 7])]),
  (90, [(5, [1, 5, 6]), (3, [1, 5, 6])]),
  (91, [(15, [0, 3, 32, 33, 34]), (12, [0, 3, 32, 33, 34]), (11, [0, 3, 32, 33, 34]), (6, [0, 3, 4, 14, 15, 16]), (5, [0, 3, 4, 14, 15, 16]), (3, [0, 3]), (2, [0, 3])]),
  (92, [(3, [])]),
  (93, [(6, [0, 1, 7, 8]), (3, [0, 1, 7, 8]), (2, [0, 1, 7, 8])]),
  (94, [(3, [])]),
  (95, [(3, [0, 3]), (2, [0, 3])]),
  (97, [(6, [0, 1, 5, 6]), (7, [0, 1, 5, 6]), (5, [0, 1, 5, 6]), (4, [0, 1, 5])]),
  (98, [(3, [0])]),
  (101, [(4, [3, 8, 9]), (3, [3, 8, 9])]),
  (107, [(5, [0, 1, 5, 6]), (3, [0, 1, 5, 6])]),
  (110, [(5, [0, 1, 5, 6]), (3, [0, 1, 5, 6])]),
  (111, [(5, [])]),
  (112, [(5, [0, 1, 5]), (6, [0, 1, 5]), (4, [0, 1, 5]), (3, [0, 1])]),
  (113, [(5, [0, 3]), (6, [0, 3]), (4, [0, 3]), (3, [0])]),
  (114, [(13, [0, 1, 5, 13, 14, 15]), (12, [0, 1, 5, 6, 7, 13, 14, 15, 27, 28, 29]), (9, [0, 1, 5, 6, 7, 13, 14, 15, 27, 28, 29]), (8, [0, 1, 5, 6, 7, 13, 14, 15, 27, 28, 29]), (6, [0, 1, 5, 6, 7, 13, 14, 15]), (4, [0, 1, 5, 13, 14, 15]), (3, [0, 1, 5, 13, 14, 15])]),
  (116, [(4, [5, 11, 12, 13]), (3, [5, 11, 12, 13])]),
  (119, [(13, []), (11, [0, 1]), (9, [0, 1]), (7, [0, 1, 6]), (6, [])]),
  (120, [(5, [0, 3, 4]), (3, [0, 3, 4])]),
  (121, [(4, [0, 1, 5, 6]), (13, [0, 1, 5, 6, 7]), (10, [0, 1, 5, 6, 7, 8]), (11, [0, 1, 5, 6, 7, 8]), (9, [0, 1, 5, 6, 7, 8]), (5, [0, 1, 5, 6]), (3, [0, 1, 5, 6])]),
  (122, [(7, [1, 8, 9, 10]), (3, [1, 8, 9, 10]), (2, [1, 8, 9, 10])]),
  (127, [(5, [0, 3, 4]), (3, [0, 3, 4])]),
  (128, [(16, []), (11, [3, 4]), (9, [3, 4]), (7, [3, 4]), (4, [0, 3])]),
  (130, [(5, []), (3, [0])]),
  (132, [(11, [0, 3, 10, 11, 12]), (10, [0, 3, 5, 10, 11, 12]), (6, [0, 3, 10, 11, 12]), (5, [0, 3, 10, 11, 12]), (3, [0])]),
  (133, [(26, [1, 5, 10, 11, 40, 66, 67, 68]), (22, [1, 5, 10, 11, 40, 66, 67, 68]), (21, [1, 5, 10, 11, 40, 66, 67, 68]), (19, [1, 5, 9, 10, 11, 40, 47, 48]), (15, [1, 5, 9, 10, 11, 40, 47, 48]), (14, [1, 5, 9, 10, 11, 40, 47, 48]), (11, [1, 5, 40]), (10, [1, 5, 40]), (8, [1, 5, 6, 21, 22, 23]), (5, [1, 5, 6, 21, 22, 23]), (4, [1, 5, 6, 21, 22, 23])]),
  (134, [(7, [1, 8, 9, 10]), (3, [1, 8, 9, 10]), (2, [1, 8, 9, 10])]),
  (135, [(4, [2])]),
  (136, [(9, [5, 6, 7]), (6, [5, 6, 7, 8])]),
  (137, [(4, [2, 3, 4])]),
  (140, [(7, [0, 1, 5, 6, 7]), (6, [0, 1, 5, 6, 7]), (5, [0, 1, 5, 6]), (3, [0, 1, 5, 6])]),
  (141, [(25, [9, 14, 15, 76, 77, 78]), (22, [9, 14, 15, 76, 77, 78]), (21, [9, 14, 15, 76, 77, 78]), (18, [2, 8, 9]), (14, [2, 8, 9, 10, 34, 35, 36]), (13, [2, 8, 9, 10, 12, 34, 35, 36]), (10, [2, 8, 9, 10, 11, 12, 34, 35, 36]), (8, [2, 8, 9, 10, 34, 35, 36]), (7, [2, 8, 9, 10, 34, 35, 36]), (4, [1, 2])]),
  (144, [(4, [0, 3, 4]), (5, [0, 3, 4]), (3, [0, 3, 4])]),
  (145, [(16, [5]), (4, [0, 3, 5, 6, 7]), (9, [0, 3, 5, 6, 7, 8, 9]), (10, [0, 3, 5, 6, 7, 8, 9]), (8, [0, 3, 5, 6, 7, 8, 9]), (5, [0, 3, 5, 6, 7]), (3, [0, 3, 5, 6, 7])]),
  (146, [(23, [10, 91, 92, 93]), (22, [10, 91, 92, 93]), (16, [0, 7, 10, 11, 12, 13, 52, 53, 54]), (15, [0, 7, 10, 11, 12, 13, 52, 53, 54]), (7, [0, 1, 7, 32, 33, 34]), (6, [0, 1, 7, 32, 33, 34]), (4, [0, 1])]),
  (147, [(0, [1, 2, 3, 4, 5, 6, 8, 9, 11, 13, 16, 18, 26, 33, 57]), (21, []), (19, [1, 4, 5, 6]), (17, [1, 3, 4, 5, 6]), (15, [1, 3, 4, 5, 6])]),
  (148, [(5, [5, 6, 7, 19, 20, 21]), (4, [5, 6, 7, 19, 20, 21])]),
  (151, [(7, [1, 3, 5, 6]), (4, [1, 3])]),
  (152, [(20, [2, 9, 59, 60, 61]), (17, [2, 9, 59, 60, 61]), (16, [2, 9, 59, 60, 61]), (11, [3]), (5, [2, 3, 4, 7, 8, 21, 22, 23]), (4, [2, 3, 4, 7, 8, 21, 22, 23])]),
  (153, [(6, [0, 1, 7, 8]), (3, [0, 1, 7, 8]), (2, [0, 1, 7, 8])]),
  (156, [(4, [0, 5, 6, 7]), (2, [0, 5, 6, 7]), (1, [0, 5, 6, 7])]),
  (157, [(7, [1, 8, 9, 10]), (3, [1, 8, 9, 10]), (2, [1, 8, 9, 10])]),
  (158, [(3, [0, 6, 7]), (2, [0, 6])]),
  (159, [(6, [0, 1, 7, 8]), (3, [0, 1, 7, 8]), (2, [0, 1, 7, 8])]),
  (161, [(16, [0, 1, 2, 6]), (10, [0, 1, 2, 6, 7, 8]), (9, [0, 1, 2, 6, 7, 8]), (8, [0, 1, 2, 6]), (7, [0, 1, 2, 6]), (3, [0, 1, 2, 6, 7, 8]), (2, [0, 1, 2, 6, 7, 8])]),
  (164, [(3, [2, 3])]),
  (165, [(6, [0, 1, 7, 8]), (3, [0, 1, 7, 8]), (2, [0, 1, 7, 8])]),
  (167, [(3, [0, 3]), (4, [0, 3]), (2, [0, 3])]),
  (168, [(3, [0])]),
  (169, [(5, [2, 3, 4, 5])]),
  (170, [(2, [0, 1]), (1, [0, 1])]),
  (173, [(5, [0, 1])]),
  (174, [(5, [0]), (3, [0])]),
  (179, [(6, [5, 6, 7]), (3, [5, 6, 7]), (2, [5, 6, 7])]),
  (180, [(3, [])]),
  (181, [(3, [2, 3, 4]), (2, [2, 3, 4])]),
  (182, [(11, [2, 4]), (5, [0, 2, 3, 4]), (4, [0, 2, 3, 4])]),
  (183, [(7, [2, 3]), (6, [])]),
  (186, [(7, [2, 3, 4]), (6, [4, 6])]),
  (187, [(5, [6])]),
  (190, [(8, [0, 1, 12, 13]), (5, [0, 1, 12, 13]), (4, [0, 1, 12, 13]), (3, [0, 1])]),
  (191, [(20, [0, 1, 2, 3, 10, 11]), (17, [0, 1, 2, 3, 8, 9, 10, 11]), (15, [0, 1, 2, 3, 8, 9, 10, 11, 12]), (10, [0, 1, 2, 3, 8, 9, 10]), (7, [0, 1, 2, 3, 8, 9, 10]), (5, [0, 1, 2, 3, 8, 9, 10]), (2, [0, 1, 2, 3, 8, 9])]),
  (192, [(2, [0])]),
  (195, [(9, [0, 1, 12, 13]), (2, [0, 1, 12, 13]), (1, [0, 1, 12, 13])]),
  (196, [(15, [0, 1, 9, 50, 51]), (11, [0, 1, 9, 50, 51]), (10, [0, 1, 9, 50, 51]), (8, [0, 1, 2, 6]), (6, [0, 1, 2, 6, 15, 16, 17]), (3, [0, 1, 2, 6, 15, 16, 17]), (2, [0, 1, 2, 6, 15, 16, 17])]),
  (197, [(3, [2])]),
  (198, [(20, [0, 1, 2, 3, 10, 11]), (17, [0, 1, 2, 3, 8, 9, 10, 11]), (15, [0, 1, 2, 3, 8, 9, 10, 11, 12]), (10, [0, 1, 2, 3, 8, 9, 10]), (7, [0, 1, 2, 3, 8, 9, 10]), (5, [0, 1, 2, 3, 8, 9, 10]), (2, [0, 1, 2, 3, 8, 9])]),
  (200, [(7, [3, 6, 7, 8]), (4, [3, 6, 7, 8]), (3, [3, 6, 7, 8])]),
  (201, [(6, [0, 1, 2, 3, 8, 9]), (4, [0, 1, 2, 3, 8, 9]), (3, [0, 1, 2, 3, 8]), (1, [0, 1, 2, 3, 8])]),
  (202, [(43, [0, 3, 4, 18, 24]), (41, [0, 1, 3, 4, 18, 20, 24]), (34, [0, 1, 2, 3, 4, 18, 19, 20, 21, 22]), (33, [0, 1, 2, 3, 4, 18, 19, 20, 21, 22]), (32, [0, 1, 2, 3, 4, 18, 19, 20, 21]), (24, [0, 1, 2, 3, 4]), (23, [0, 14, 17]), (21, [0, 14, 17]), (16, [0, 2, 4, 14, 15]), (15, [0, 2, 4, 14, 15]), (12, [0, 1, 2, 3, 4]), (11, [0, 10, 13]), (9, [0, 10, 13]), (4, [0, 1, 4, 10, 11]), (3, [0, 1, 4, 10, 11])]),
  (203, [(3, [0])]),
  (205, [(4, [0, 3])]),
  (206, [(3, [0, 3]), (4, [0, 3]), (2, [0, 3])]),
  (207, [(6, [0, 2, 3, 4]), (5, [0, 2, 3, 4]), (4, [0, 2, 3])]),
  (208, [(7, [0, 2, 3, 4, 5]), (4, [0, 2, 3, 4]), (3, [0, 2, 3, 4])]),
  (209, [(15, [8, 9, 10, 11, 12, 13]), (39, [8, 9, 10, 11, 12, 13, 14]), (35, [8, 9, 10, 11, 12, 13, 14, 19, 20]), (33, [8, 9, 10, 11, 12, 13, 14, 19, 20]), (20, [8, 9, 10, 11, 12, 13, 14, 15, 16]), (27, [8, 9, 10, 11, 12, 13, 14, 15, 16, 18]), (21, [8, 9, 10, 11, 12, 13, 14, 15, 16]), (19, [8, 9, 10, 11, 12, 13, 14, 15, 16]), (16, [8, 9, 10, 11, 12, 13]), (14, [8, 9, 10, 11, 12, 13]), (11, [0, 8, 9, 10, 11]), (10, [0, 8, 9, 10, 11]), (6, [0, 1]), (3, [0, 1])]),
  (210, [(16, [0, 1, 2, 6]), (10, [0, 1, 2, 6, 7, 8]), (9, [0, 1, 2, 6, 7, 8]), (8, [0, 1, 2, 6]), (7, [0, 1, 2, 6]), (3, [0, 1, 2, 6, 7, 8]), (2, [0, 1, 2, 6, 7, 8])]),
  (211, [(15, [8, 9]), (13, [6, 8, 9]), (10, [5, 6, 7]), (7, [5, 6]), (4, [5])]),
  (212, [(13, [6]), (10, [0, 1, 6]), (5, [0, 1]), (3, [0, 1])]),
  (213, [(9, [8, 10]), (3, [2, 3])]),
  (214, [(5, [2, 3, 4]), (3, [2, 3, 4])]),
  (216, [(3, [0, 1])]),
  (217, [(4, [0])]),
  (218, [(8, [0, 1]), (5, [0, 1]), (3, [0, 1])]),
  (219, [(3, [1, 2])]),
  (221, [(12, [4, 5, 14, 15]), (6, [2, 3, 4, 5]), (5, [4, 5, 6, 7])]),
  (224, [(4, [4])]),
  (225, [(3, [1, 2, 4, 5]), (6, [1, 2, 4, 5]), (4, [1, 2, 4, 5]), (2, [1, 2, 4, 5])]),
  (226, [(11, [4, 7, 8, 9]), (5, [2, 3, 4])]),
  (227, [(3, [1, 2])]),
  (230, [(3, [0])]),
  (231, [(5, [1])]),
  (232, [(9, [1, 4])]),
  (233, [(8, [1, 5, 6, 7, 8, 20, 21, 22, 27, 28, 29]), (7, [1, 5, 6, 7, 8, 20, 21, 22, 27, 28, 29]), (4, [1, 5, 20, 21, 22]), (3, [1, 5, 20, 21, 22])]),
  (236, [(6, [0, 1, 2, 6, 7]), (4, [0, 1, 2, 6, 7]), (3, [0, 1, 2, 6]), (1, [0, 1, 2, 6])]),
  (237, [(10, [0, 6, 7, 10]), (8, [0, 6, 7, 10]), (6, [0, 6, 7, 8, 9]), (4, [0, 6, 7, 8, 9])]),
  (238, [(6, [0, 1, 6, 7, 8, 9]), (10, [0, 1, 6, 7, 8, 9, 10]), (7, [0, 1, 6, 7, 8, 9]), (5, [0, 1, 6, 7, 8, 9])]),
  (239, [(12, [9, 11]), (11, [0, 9, 10, 11, 12])]),
  (240, [(3, [0, 6, 7]), (2, [0, 6, 7])]),
  (241, [(4, [0, 1, 2, 7, 8]), (21, [0, 1, 2, 7, 8, 10]), (23, [0, 1, 2, 7, 8, 10]), (22, [0, 1, 2, 7, 8, 10]), (20, [0, 1, 2, 7, 8, 10]), (18, [0, 1, 2, 7, 8]), (15, [0, 1, 2, 7, 8, 9]), (17, [0, 1, 2, 7, 8, 9]), (16, [0, 1, 2, 7, 8, 9]), (14, [0, 1, 2, 7, 8, 9]), (11, [0, 1, 2, 7, 8]), (9, [0, 1, 2, 7, 8]), (6, [0, 1, 2, 7, 8]), (5, [0, 1, 2, 7, 8]), (3, [0, 1, 2, 7, 8])]),
  (243, [(8, [0, 1, 9, 10]), (6, [0, 1, 9, 10]), (5, [0, 1, 9, 10]), (4, [0, 1, 9, 10]), (3, [0, 1, 9, 10])]),
  (244, [(18, [0, 1, 10, 11]), (16, [0, 1, 10, 11]), (15, [0, 1, 10, 11]), (14, [0, 1, 10, 11]), (13, [0, 1, 10, 11]), (10, [0, 1, 10, 11]), (6, [0, 1, 10, 11]), (5, [0, 1, 10, 11]), (4, [0, 1, 10, 11]), (3, [0, 1, 10, 11])]),
  (245, [(7, [0, 2]), (4, [0, 2])]),
  (246, [(10, [0, 2]), (7, [0, 2]), (4, [0, 2])]),
  (247, [(4, [0, 5])]),
  (251, [(9, [0, 5, 42]), (8, [0, 5, 42]), (6, [0, 5, 14, 15, 16]), (3, [0, 5, 14, 15, 16]), (2, [0, 5, 14, 15, 16])]),
  (252, [(2, [0, 1, 3]), (3, [0, 1, 3]), (1, [0, 1, 3])]),
  (253, [(6, [0, 1, 2, 6, 7]), (4, [0, 1, 2, 6, 7]), (3, [0, 1, 2, 6]), (1, [0, 1, 2, 6])]),
  (254, [(10, [0, 6, 7, 10]), (8, [0, 6, 7, 10]), (6, [0, 6, 7, 8, 9]), (4, [0, 6, 7, 8, 9])]),
  (255, [(6, [0, 1, 6, 7, 8, 9]), (10, [0, 1, 6, 7, 8, 9, 10]), (7, [0, 1, 6, 7, 8, 9]), (5, [0, 1, 6, 7, 8, 9])]),
  (256, [(12, [9, 11]), (11, [0, 9, 10, 11, 12])]),
  (257, [(3, [0, 6, 7]), (2, [0, 6, 7])]),
  (258, [(4, [0, 1, 2, 7, 8]), (21, [0, 1, 2, 7, 8, 10]), (23, [0, 1, 2, 7, 8, 10]), (22, [0, 1, 2, 7, 8, 10]), (20, [0, 1, 2, 7, 8, 10]), (18, [0, 1, 2, 7, 8]), (15, [0, 1, 2, 7, 8, 9]), (17, [0, 1, 2, 7, 8, 9]), (16, [0, 1, 2, 7, 8, 9]), (14, [0, 1, 2, 7, 8, 9]), (11, [0, 1, 2, 7, 8]), (9, [0, 1, 2, 7, 8]), (6, [0, 1, 2, 7, 8]), (5, [0, 1, 2, 7, 8]), (3, [0, 1, 2, 7, 8])]),
  (260, [(8, [0, 1, 9, 10]), (6, [0, 1, 9, 10]), (5, [0, 1, 9, 10]), (4, [0, 1, 9, 10]), (3, [0, 1, 9, 10])]),
  (261, [(18, [0, 1, 10, 11]), (16, [0, 1, 10, 11]), (15, [0, 1, 10, 11]), (14, [0, 1, 10, 11]), (13, [0, 1, 10, 11]), (10, [0, 1, 10, 11]), (6, [0, 1, 10, 11]), (5, [0, 1, 10, 11]), (4, [0, 1, 10, 11]), (3, [0, 1, 10, 11])]),
  (262, [(3, [0, 2, 4, 10, 11]), (2, [0, 2, 4, 10, 11])]),
  (263, [(5, [0, 3, 4]), (3, [0, 3, 4])]),
  (265, [(7, [0, 1, 5]), (10, [0, 1, 5]), (8, [0, 1, 5]), (6, [0, 1, 5]), (5, [0, 1]), (4, [])]),
  (266, [(6, [0, 1, 6, 7, 8]), (4, [0, 1, 6, 7, 8])]),
  (267, [(2, [0]), (1, [0])]),
  (268, [(9, [0, 1, 5, 6, 7, 8]), (7, [0, 1, 5, 6, 7, 8]), (5, [0, 1, 5, 6]), (3, [0, 1, 5, 6])]),
  (269, [(5, [0, 1, 2, 7, 9, 10]), (4, [0, 1, 2, 7, 9, 10])]),
  (270, [(6, [0, 1, 2, 3, 8, 9]), (4, [0, 1, 2, 3, 8, 9]), (3, [0, 1, 2, 3, 8]), (1, [0, 1, 2, 3, 8])]),
  (271, [(43, [0, 3, 4, 18, 24]), (41, [0, 1, 3, 4, 18, 20, 24]), (34, [0, 1, 2, 3, 4, 18, 19, 20, 21, 22]), (33, [0, 1, 2, 3, 4, 18, 19, 20, 21, 22]), (32, [0, 1, 2, 3, 4, 18, 19, 20, 21]), (24, [0, 1, 2, 3, 4]), (23, [0, 14, 17]), (21, [0, 14, 17]), (16, [0, 2, 4, 14, 15]), (15, [0, 2, 4, 14, 15]), (12, [0, 1, 2, 3, 4]), (11, [0, 10, 13]), (9, [0, 10, 13]), (4, [0, 1, 4, 10, 11]), (3, [0, 1, 4, 10, 11])]),
  (272, [(2, [0, 1]), (1, [0, 1])]),
  (273, [(3, [0, 1, 5]), (2, [0, 1, 5])]),
  (275, [(10, [3]), (7, [1, 3, 4]), (5, [1, 3, 4]), (3, [1])]),
  (276, [(6, [0, 1, 5, 6, 7]), (4, [0, 1, 5, 6, 7])]),
  (277, [(5, [0, 1, 5, 6, 7]), (11, [0, 1, 5, 6, 7, 8]), (6, [0, 1, 5, 6, 7]), (4, [0, 1, 5, 6, 7])]),
  (279, [(34, [8, 13]), (29, []), (23, [0, 1, 5, 6, 7, 8, 9, 10]), (21, [0, 1, 5, 6, 7, 8, 9, 10]), (20, [0, 1, 5, 6, 7, 8, 9, 10, 11]), (16, [0, 1, 5, 6, 7, 8, 9, 10]), (15, [0, 1, 5, 6, 7, 8, 9, 10]), (10, [0, 1, 5])]),
  (280, [(2, [0, 1]), (1, [0, 1])]),
  (281, [(2, [0, 1]), (1, [0, 1])]),
  (282, [(3, [0, 2, 4]), (7, [0, 2, 4, 5]), (4, [0, 2, 4]), (2, [0, 2, 4])]),
  (283, [(3, [0, 1]), (2, [0, 1]), (1, [0, 1])]),
  (284, [(3, [0, 1]), (2, [0, 1]), (1, [0, 1])]),
  (285, [(4, [0, 1, 6]), (2, [0, 1]), (1, [0, 1])]),
  (286, [(6, [0, 1, 6]), (5, [0, 1, 5, 6]), (2, [0, 1]), (1, [0, 1])]),
  (287, [(26, [9, 11, 12, 13, 96, 97]), (22, [9, 11, 12, 13, 96, 97]), (21, [9, 11, 12, 13, 96, 97]), (19, [9, 10, 11, 12, 13, 14]), (17, [9, 10, 11, 12, 13, 14]), (11, [0, 1]), (9, [0, 1, 6, 7, 8]), (7, [0, 1, 6, 7, 8]), (3, [0, 1])]),
  (288, [(3, [0])]),
  (289, [(20, [0]), (19, [6]), (16, [5, 6, 47, 48, 49]), (15, [5, 6, 8, 47, 48, 49]), (11, [5, 6, 47, 48, 49]), (10, [5, 6, 47, 48, 49]), (8, [0, 5])]),
  (290, [(10, [4])]),
  (291, [(12, [0, 1, 5, 6, 21, 22]), (11, [0, 1, 5, 6, 7, 8, 21, 22]), (7, [0, 1, 5, 6, 21, 22]), (6, [0, 1, 5, 6, 21, 22]), (3, [0, 1])]),
  (292, [(7, [0, 1, 5]), (11, []), (8, [0, 1, 5]), (6, [0, 1, 5]), (5, [0, 1]), (4, [])]),
  (293, [(10, [0, 1, 5, 6, 13, 14]), (9, [0, 1, 5, 6, 7, 8, 13, 14]), (5, [0, 1, 5, 6, 13, 14]), (4, [0, 1, 5, 6, 13, 14])]),
  (295, [(3, [0, 3]), (2, [0, 3])]),
  (296, [(6, [0, 2, 3, 8, 9]), (5, [0, 2, 3, 8, 9]), (3, [0, 2, 3, 8, 9]), (1, [0, 2, 3, 8])]),
  (303, [(6, [0, 2, 3, 8, 9]), (5, [0, 2, 3, 8, 9]), (3, [0, 2, 3, 8, 9]), (1, [0, 2, 3, 8])]),
  (306, [(3, [0, 1, 2, 3, 10]), (1, [0, 1, 2, 3, 10])]),
  (307, [(3, [0, 2, 4, 10, 11]), (2, [0, 2, 4, 10, 11])]),
  (308, [(3, [])]),
  (312, [(12, [0, 1, 5, 6, 7, 8, 10]), (11, [0, 1, 5, 6, 7, 8, 10]), (10, [0, 1, 5, 6, 7, 8]), (7, [0, 1, 5, 6, 7, 8, 9]), (5, [0, 1, 5, 6, 7, 8, 9])]),
  (314, [(0, [0, 2, 3, 10])]),
  (316, [(18, [2, 3]), (15, [0, 4, 5]), (11, [0, 4, 5, 6]), (12, [0, 4, 5, 6]), (10, [0, 4, 5, 6]), (8, [0, 4, 5]), (4, [0, 4])]),
  (317, [(25, [2, 8, 9, 10, 14, 15, 16, 17, 18]), (24, [2, 8, 9, 10, 14, 15, 16, 17, 18]), (18, [2, 8, 9, 10, 11, 13, 14, 15, 16]), (17, [2, 8, 9, 10, 11, 13, 14, 15, 16]), (7, [0, 1, 2]), (5, [0, 1, 2]), (3, [0, 1, 2])]),
  (319, [(8, [1, 5, 12, 13, 14]), (4, [1, 5, 12, 13, 14]), (3, [1, 5, 12, 13, 14])]),
  (320, [(29, [0, 1, 5, 6, 17, 156, 157]), (28, [0, 1, 5, 6, 17, 156, 157]), (26, [0, 1, 5, 6]), (16, [0, 1, 5, 6, 11, 12, 104, 105]), (15, [0, 1, 5, 6, 11, 12, 104, 105]), (11, [0, 1, 5, 6, 7]), (9, [0, 1, 5, 6, 7]), (8, [0, 1, 5, 6, 7, 8])]),
  (321, [(24, [11]), (21, [8, 9]), (19, [8, 9, 10]), (16, [2, 8, 9]), (14, [2, 8, 9]), (10, [0, 1, 2, 8]), (3, [0, 1, 2])]),
  (327, [(4, [1, 2])]),
  (328, [(4, [1, 2])]),
  (329, [(3, [0, 1, 2, 3, 10]), (1, [0, 1, 2, 3, 10])]),
  (331, [(9, [4, 6, 7, 8]), (12, [4, 6, 7, 8]), (10, [4, 6, 7, 8]), (8, [4, 6, 7, 8]), (5, [0, 4, 5]), (3, [0, 4, 5])]),
  (332, [(26, [5, 10, 11, 12]), (23, [0, 5, 10, 11]), (21, [0, 5, 8, 10, 11]), (18, [0, 5, 8, 10]), (16, [0, 5, 8, 10]), (13, [0, 5, 8, 9]), (9, [0, 4, 5, 6]), (4, [0, 4])]),
  (333, [(33, []), (26, [0, 7, 8, 9, 14, 15]), (30, [0, 7, 8, 9, 14, 15, 16]), (31, [0, 7, 8, 9, 14, 15, 16]), (29, [0, 7, 8, 9, 14, 15, 16]), (27, [0, 7, 8, 9, 14, 15]), (25, [0, 7, 8, 9, 14, 15]), (13, [0, 7, 8, 9, 12]), (14, [0, 7, 8, 9, 12]), (12, [0, 7, 8, 9, 12]), (11, [0, 7, 8, 9]), (10, [0, 7, 8, 9, 11]), (6, [0, 7, 8, 9]), (5, [0, 7, 8, 9]), (39, [175, 176]), (38, [175])]),
  (335, [(58, [13]), (55, [1, 8, 9, 10, 11, 12, 13, 99, 100, 101]), (54, [1, 8, 9, 10, 11, 12, 17, 99, 100, 101]), (50, [1, 8, 9, 10, 11, 12, 13, 16, 99, 100, 101]), (48, [1, 8, 9, 10, 11, 12, 13, 16, 99, 100, 101]), (46, [1, 8, 9, 10, 11, 12, 13, 16, 99, 100, 101]), (37, [1, 8, 9, 10, 11, 12, 13, 99, 100, 101]), (36, [1, 8, 9, 10, 11, 12, 13, 99, 100, 101]), (32, [0, 1, 2, 8, 9, 10]), (25, [0, 1, 2, 8, 9]), (21, [0, 1, 2, 8, 9]), (3, [0, 1, 2])]),
  (336, [(3, [0])]),
  (340, [(5, [])]),
  (342, [(11, [0, 3, 4, 5]), (20, [0, 4, 5]), (18, [0, 3, 4, 5]), (17, [0, 4, 5]), (14, [0, 3, 4, 5]), (12, [0, 3, 4, 5]), (10, [0, 3, 4, 5]), (5, [0, 3, 4])]),
  (344, [(14, [0, 1]), (13, [5, 7]), (8, [0, 5, 6]), (4, [0])]),
  (345, [(3, [0])]),
  (347, [(25, [0, 4, 12]), (20, [0, 4, 12]), (2, [0, 1, 4]), (1, [0, 1, 4])]),
  (348, [(30, [10, 12, 13]), (28, [0, 4, 10, 11, 12, 13]), (25, [0, 3, 4, 10, 11, 12, 13]), (19, [0, 1, 3, 4, 10, 11, 12, 13, 17]), (18, [0, 1, 3, 4, 10, 11, 12, 13, 17]), (12, [0, 1, 3, 4, 10, 11, 12, 13, 14, 15, 16]), (11, [0, 1, 3, 4, 10, 11, 12, 13, 14, 15, 16]), (7, [0, 1, 2, 3, 4, 10, 11, 12, 13]), (3, [0, 1, 2, 3, 4, 10, 11])])]
noncomputable def X7 (l : List (FuncId × PSpec)) : PCtx := ⟨C7p, spOf l, plOf tbl7, fun _ _ => false, fun _ _ => []⟩
/-- with cuts, and slices that are written no more -/
noncomputable def X7f (cs : List (FuncId × List Nat)) (fz : List (FuncId × List (Nat × List (Nat × Sh)))) (t : List (FuncId × List (Nat × List Nat))) (l : List (FuncId × PSpec)) : PCtx := ⟨C7p, spOf l, plOf (t ++ tbl7), ctOf cs, fzOf fz⟩
end
end Go.Pe
end
section
namespace Go.Sp
def first : List Int → Int
  | [] => 0
  | x :: l => if x ≠ 0 then x else first l
def whn (c : Bool) (e : Int) : Int := bif c then e else 0
def out (n a b : Int) : Int := if n < a then 3 else if n > b then 3 else 0
def iota (n : Nat) : List Int := (List.range n).map Int.ofNat
def swp (l : List Int) (i k : Nat) : List Int := (l.set i (l.getD k 0)).set k (l.getD i 0)
def nkey (key : Int) : Int := Int.tmod (48271 * key) 2147483647
def shuffle : Nat → Int → List Int → List Int
  | 0, _, l => l
  | i + 1, key, l => shuffle i (nkey key) (swp l (i + 1) (Int.tmod (nkey key) (i + 2)).toNat)
def ballot (n key : Int) : List Int := shuffle (n.toNat - 1) key (iota n.toNat)
def expand (l : List Int) : List Int := l.flatMap fun s => [s, 2 * l.length + 1 - s]
def grow : Nat → Int → List Int → List Int
  | 0, _, l => l
  | f + 1, n, l => if (l.length : Int) < n then grow f n (expand l) else l
def strike (n : Int) (l : List Int) : List Int := l.map fun s => if s > n then 0 else s
def bracket (n : Int) : List Int := strike n (grow 8 n [1])
def size : Nat → Int → Int → Int
  | 0, _, s => s
  | f + 1, n, s => if s < n then size f n (2 * s) else s
def index : List Int → Int → Int → Int
  | [], _, _ => -1
  | y :: l, x, i => if x = y then i else index l x (i + 1)
def lastIdx : List Int → Int → Int → Int → Int
  | [], _, _, r => r
  | y :: l, x, i, r => lastIdx l x (i + 1) (if y = x then i else r)
def rnd : Nat → Int → Int → Int → Int
  | 0, _, _, r => r
  | f + 1, i, k, r => if i = k then r else rnd f (Int.tdiv i 2) (Int.tdiv k 2) (r + 1)
end Go.Sp
namespace Go.Pe
open Go.Det
noncomputable section
abbrev i64 : Sh := .int .i64
abbrev li64 : Sh := .list (.int .i64)
noncomputable def cFirst : PSpec := ⟨[li64], fun l => decide (l.length ≤ 1000000), [i64], fun l => Sp.first l, false⟩
noncomputable def cOut : PSpec := ⟨[i64, i64, i64], fun _ => true, [i64], fun i => Sp.out i.1 i.2.1 i.2.2, false⟩
noncomputable def cWhen : PSpec := ⟨[.bool, i64], fun _ => true, [i64], fun i => Sp.whn i.1 i.2, false⟩
noncomputable def cballot : PSpec := ⟨[i64, i64], fun i => decide (0 ≤ i.1) && decide (i.1 ≤ 200) && decide (1 ≤ i.2) && decide (i.2 ≤ 2147483646), [li64], fun i => Sp.ballot i.1 i.2, false⟩
noncomputable def cbracket : PSpec := ⟨[i64], fun n => decide (1 ≤ (n : Int)) && decide ((n : Int) ≤ 200), [li64], fun n => Sp.bracket n, false⟩
noncomputable def cSize : PSpec := ⟨[i64], fun n => decide ((n : Int) ≤ 200), [i64], fun n => Sp.size 8 n 1, false⟩
noncomputable def cIndex : PSpec := ⟨[li64, i64], fun i => decide (i.1.length ≤ 1000000), [i64], fun i => Sp.index i.1 i.2 0, false⟩
noncomputable def cSame : PSpec := ⟨[li64, li64], fun i => decide (i.1.length ≤ 1000000), [.bool], fun i => i.1 == i.2, false⟩
noncomputable def cAwake : PSpec := ⟨[], fun _ => true, [.bool], fun _ => true, false⟩
noncomputable def X70 : PCtx := X7 []
noncomputable def X71 : PCtx := X7 [(87, cFirst), (88, cOut), (92, cWhen), (93, cIndex), (95, cSize), (21, cFirst), (22, cOut), (94, cOut), (27, cSame), (90, cballot), (91, cbracket), (24, cballot)]
end
end Go.Pe
end
section
namespace Go.Sp
abbrev Str := List UInt8
def nameErr (seen : List Str) (x : Str) : Int := if isName x = true then (if x ∈ seen then 9 else 0) else 8
/-- the first error -/
def orE (a b : Int) : Int := if a = 0 then b else a
theorem orE_ne {a : Int} (b : Int) (h : a ≠ 0) : orE a b = a := if_neg h
def has (l : List Str) (x : Str) : Bool := decide (x ∈ l)
def sameN (a b : List Str) : Bool := decide (a = b)
def shortNames (l : List (List UInt8)) (n : Int) : Bool := !((decide ((l.length : Int) > n) && decide (l.length ≤ 200)) || decide (300 < l.length)) && l.all fun s => decide (s.length ≤ 40)
/-- short enough -/
def okN (l : List (List UInt8)) : Bool := decide (l.length ≤ 300) && l.all fun s => decide (s.length ≤ 40)
end Go.Sp
end
section
namespace Go.Pe
open Go.Det
noncomputable section
abbrev lstr : Sh := .list .str
noncomputable def cIsName : PSpec := ⟨[.str], fun s => decide (s.length ≤ 1000000), [.bool], fun s => Sp.isName s, false⟩
noncomputable def cHas : PSpec := ⟨[lstr, .str], fun i => decide (i.1.length ≤ 1000000), [.bool], fun i => Sp.has i.1 i.2, false⟩
noncomputable def cSameN : PSpec := ⟨[lstr, lstr], fun i => decide (i.1.length ≤ 1000000), [.bool], fun i => Sp.sameN i.1 i.2, false⟩
noncomputable def cShortN : PSpec := ⟨[lstr, i64], fun _ => true, [.bool], fun i => Sp.shortNames i.1 i.2, false⟩
noncomputable def cCheckName : PSpec := ⟨[lstr, i64], fun i => Sp.okN i.1 && decide (0 ≤ (i.2 : Int)) && decide ((i.2 : Int) < (i.1.length : Int)), [i64], fun i => Sp.nameErr ((i.1 : List (List UInt8)).take (i.2 : Int).toNat) ((i.1 : List (List UInt8)).getD (i.2 : Int).toNat []), false⟩
noncomputable def l80 : List (FuncId × PSpec) := [(158, cIsName), (113, cIsName), (84, cHas), (42, cSameN), (35, cShortN), (87, cFirst), (88, cOut), (92, cWhen), (93, cIndex), (95, cSize), (21, cFirst), (22, cOut), (94, cOut), (27, cSame), (91, cbracket), (25, cbracket)]
noncomputable def X80 : PCtx := X7 l80
end
end Go.Pe
end
