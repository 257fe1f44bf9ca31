import Derived.Test.YtnbinppdjnlhpaaGreatDoorX13
/- A part of the proofs of the laws of one chapter (no law is stated here). Made by program out of texts by AI agents. -/
section
/- What the evaluator for unknown inputs says of maps is what Det does. -/
namespace Go.Pe
open Go.Det
section
variable {B : Nat} {h0 : H0} {F : Fz} {ρ : Rho} {N : Nat} {C : Ctx} {st st' : PSt} {fr : Fr} {h h' : H}
theorem dats_rel : ∀ {s : Sh} {x : s.T} {v : V}, DV F s x v → PR F ρ N (dats s x) v
  | .pair a b, x, v, h => by obtain ⟨cs, rfl, h1⟩ := h.1 rfl; unfold dats PR; exact ⟨cs, rfl, flat_rel h1⟩
  | .unit, x, v, h => by obtain ⟨cs, rfl, h1⟩ := h.1 rfl; simp only [DC] at h1; subst h1; unfold dats PR; exact ⟨[], rfl, by simp⟩
  | .int _, x, v, h => by have := h.2 rfl; unfold dats PR; exact this
  | .bool, x, v, h => by have := h.2 rfl; unfold dats PR; exact this
  | .str, x, v, h => by have := h.2 rfl; unfold dats PR; exact this
  | .list _, x, v, h => by have := h.2 rfl; unfold dats PR; exact this
theorem asV_rel {s : Sh} {p : PV} {x : s.T} {v : V} (hp : PR F ρ N p v) (hd : asV s p = some x) : DV F s x v := by
  unfold asV at hd
  cases hb : (isAg p == s.isP) with
  | false => rw [hb] at hd; cases hd
  | true =>
    rw [hb] at hd
    simp only [cond_true] at hd
    have hb : isAg p = s.isP := by simpa using hb
    refine ⟨fun e => ?_, fun e => ?_⟩
    · rw [e] at hb
      cases p <;> simp only [isAg] at hb <;> try (cases hb; done)
      rename_i l
      simp only [PR] at hp
      obtain ⟨cs, rfl, h1⟩ := hp
      exact ⟨cs, rfl, unflat1_rel h1 hd⟩
    · rw [e] at hb
      have : p.cells = [p] := by cases p <;> first | rfl | (simp [isAg] at hb)
      rw [this] at hd
      exact unflat1_rel (by simpa using hp) hd
/-- keys -/
theorem kSh_eq {T : Tab} {t : TypeId} {s : Sh} (h : kSh T t = some s) : (∃ k, s = .int k ∧ T.und t = some (.int k)) ∨ (s = .str ∧ T.und t = some .string) ∨ (s = .bool ∧ T.und t = some .bool) := by
  unfold kSh at h
  split at h
  · rename_i k hu; cases h; exact .inl ⟨k, rfl, hu⟩
  · rename_i hu; cases h; exact .inr (.inl ⟨rfl, hu⟩)
  · rename_i hu; cases h; exact .inr (.inr ⟨rfl, hu⟩)
  · cases h
theorem key_dv {T : Tab} {t : TypeId} {s : Sh} (hs : kSh T t = some s) {p : PV} {x : s.T} {v : V} (hp : PR F ρ N p v) (hd : asD s p = some x) : DV F s x v := by
  have := asD_rel hp hd
  rcases kSh_eq hs with ⟨k, rfl, _⟩ | ⟨rfl, _⟩ | ⟨rfl, _⟩ <;> exact ⟨fun e => (by cases e), fun _ => this⟩
theorem key_ok {T : Tab} {t : TypeId} {s : Sh} (hs : kSh T t = some s) {x : s.T} {v : V} (hv : DV F s x v) : ∃ d, T.und t = some d ∧ keyOk T t d v = true ∧ (∀ es, dfindK T t v es = dfind T t v es 0) ∧ ∀ y u, DV F s y u → dkeq T t v u = some (keq s x y) := by
  rcases kSh_eq hs with ⟨k, rfl, hu⟩ | ⟨rfl, hu⟩ | ⟨rfl, hu⟩ <;>
  · have h1 := hv.2 rfl
    simp only [DC, List.cons.injEq, and_true] at h1
    subst h1
    refine ⟨_, hu, rfl, fun _ => rfl, fun y u hy => ?_⟩
    have h2 := hy.2 rfl
    simp only [DC, List.cons.injEq, and_true] at h2
    subst h2
    simp [dkeq, hu, keq]
theorem find_rel {T : Tab} {t : TypeId} {ks vs : Sh} (hs : kSh T t = some ks) {k : ks.T} {kv : V} (hk : DV F ks k kv) : ∀ {l : List (ks.T × vs.T)} {es : List (V × V × Nat)}, MR F ks vs l es → ∀ i, ∃ r, dfind T t kv es i = some r ∧
    (match r with
      | none => mget ks vs k l = none ∧ mdel ks vs k l = l ∧ ∀ x xv c, DV F vs x xv → MR F ks vs (mset ks vs k x l) (es ++ [(kv, xv, c)])
      | some (j, u) => (∃ v, mget ks vs k l = some v ∧ DV F vs v u) ∧ i ≤ j ∧ MR F ks vs (mdel ks vs k l) (es.eraseIdx (j - i)) ∧ ∀ x xv, DV F vs x xv → MR F ks vs (mset ks vs k x l) (eset es (j - i) kv xv)) := by
  intro l es hm
  induction hm with
  | nil => intro i; exact ⟨none, rfl, rfl, rfl, fun x xv c hx => .cons hk hx .nil⟩
  | @cons a b l av bv n es h1 h2 h3 ih =>
    intro i
    obtain ⟨d, _, _, _, hq⟩ := key_ok hs hk
    have hq := hq a av h1
    unfold dfind
    rw [hq]
    cases hb : keq ks k a with
    | true =>
      refine ⟨some (i, bv), rfl, ⟨b, by simp [mget, hb], h2⟩, Nat.le_refl _, ?_, fun x xv hx => ?_⟩
      · simp only [Nat.sub_self, List.eraseIdx_cons_zero, mdel, hb, cond_true]; exact h3
      · simp only [Nat.sub_self, mset, hb, cond_true, eset, List.modify_zero_cons]; exact .cons hk hx h3
    | false =>
      obtain ⟨r, g1, g2⟩ := ih (i + 1)
      refine ⟨r, g1, ?_⟩
      cases r with
      | none =>
        obtain ⟨k1, k2, k3⟩ := g2
        refine ⟨by simp only [mget, hb, cond_false]; exact k1, by simp only [mdel, hb, cond_false, k2], fun x xv c hx => ?_⟩
        simp only [mset, hb, cond_false, List.cons_append]
        exact .cons h1 h2 (k3 x xv c hx)
      | some ju =>
        obtain ⟨j, u⟩ := ju
        obtain ⟨⟨v, k1, k2⟩, k3, k4, k5⟩ := g2
        have e : j - i = (j - (i + 1)) + 1 := by omega
        refine ⟨⟨v, by simp only [mget, hb, cond_false]; exact k1, k2⟩, by omega, ?_, fun x xv hx => ?_⟩
        · rw [e]; simp only [List.eraseIdx_cons_succ, mdel, hb, cond_false]; exact .cons h1 h2 k4
        · rw [e]; simp only [mset, hb, cond_false, eset, List.modify_succ_cons]; exact .cons h1 h2 (k5 x xv hx)

theorem s_mkmap (hr : SR B h0 F ρ st.nx st.ob h) {t : TypeId} {v : PV} (ht : (pmkmap C.T t st).To v st') : OK B h0 F ρ st h [] (okp (dmakeMap h none)) v st' := by
  unfold pmkmap at ht
  split at ht
  case h_2 => simp at ht
  split at ht
  case h_2 => simp at ht
  rename_i ks vs hk hv
  simp only [To_val] at ht
  obtain ⟨rfl, rfl⟩ := ht
  refine OK.new hr (o := .map ks vs []) (x := .map [] 0) (n := 0) rfl ⟨[], 0, rfl, .nil⟩ ?_
  unfold PR
  exact ⟨Nat.lt_succ_self _, fun b m hb => by simp [setR] at hb; rw [hb.1]⟩
theorem pents_rel (hr : SR B h0 F ρ st.nx st.ob h) {ks vs : Sh} {m : PV} {l : List (ks.T × vs.T)} {x : V} (hm : PR F ρ st.nx m x) (hd : pents st ks vs m = some l) : ∃ es, entries h x = some es ∧ MR F ks vs l es := by
  unfold pents at hd
  split at hd
  · cases hd
    simp only [PR] at hm; subst hm
    exact ⟨[], rfl, .nil⟩
  · rename_i id
    split at hd
    case h_2 => cases hd
    rename_i ks' vs' l' ho
    obtain ⟨e, he⟩ := castD_eq hd
    simp only [Sh.list.injEq, Sh.pair.injEq] at e
    obtain ⟨rfl, rfl⟩ := e
    obtain rfl : l' = l := he
    obtain ⟨b, n, o, h1, h2, ⟨es, clk, rfl, h4⟩, _⟩ := hr.at ho
    simp only [PR] at hm
    obtain rfl := hm.2 b n h1
    exact ⟨es, by simp [entries, h2], h4⟩
  · cases hd
theorem s_lookup (hr : SR B h0 F ρ st.nx st.ob h) {t : TypeId} {p q : PV} {x y : V} (hx : PR F ρ st.nx p x) (hy : PR F ρ st.nx q y) {ok : Bool} {v : PV} (ht : (plookup C.T t p q ok st).To v st') : OK B h0 F ρ st h [] (okv h (dlookup C.T h t x y ok)) v st' := by
  unfold plookup at ht
  split at ht
  case h_2 => simp at ht
  rename_i kt e hu
  split at ht
  case h_2 => simp at ht
  rename_i ks vs i hks hvs hi
  split at ht
  case h_2 => simp at ht
  rename_i k l z hk hl hz
  cases hb : (vAg i.zv == vs.isP) with
  | false => rw [hb] at ht; simp at ht
  | true =>
    rw [hb] at ht
    simp only [cond_true, To_val] at ht
    obtain ⟨rfl, rfl⟩ := ht
    have hkd := key_dv hks hy hk
    obtain ⟨es, he, hm⟩ := pents_rel hr hx hl
    obtain ⟨kd, g1, g2, g3, _⟩ := key_ok hks hkd
    obtain ⟨r, r1, r2⟩ := find_rel hks hkd hm 0
    have hzd : DV F vs z i.zv := by
      have h1 : DC F vs z i.zv.cells := unflat1_rel (ofVs_rel (F := F) (ρ := ρ) (N := st.nx) i.zero) hz
      have hb : vAg i.zv = vs.isP := by simpa using hb
      refine ⟨fun e => ?_, fun e => ?_⟩
      · rw [e] at hb
        cases hv : i.zv <;> rw [hv] at hb <;> simp only [vAg] at hb <;> try (cases hb; done)
        rw [hv] at h1
        exact ⟨_, rfl, h1⟩
      · rw [e] at hb
        have : i.zv.cells = [i.zv] := by cases hv : i.zv <;> rw [hv] at hb <;> first | rfl | (simp [vAg] at hb)
        rw [← this]; exact h1
    unfold dlookup
    simp only [hu, g1, he, g2, cond_true, g3, r1]
    cases r with
    | none =>
      obtain ⟨k1, _⟩ := r2
      simp only [hi, k1, Option.getD_none, Option.isSome_none]
      cases ok with
      | true => exact OK.pure hr rfl (by simp only [cond_true, PR]; exact ⟨_, rfl, _, _, rfl, dats_rel hzd, _, _, rfl, mk_bool _, rfl⟩)
      | false => exact OK.pure hr rfl (dats_rel hzd)
    | some ju =>
      obtain ⟨j, u⟩ := ju
      obtain ⟨⟨v, k1, k2⟩, _⟩ := r2
      simp only [k1, Option.getD_some, Option.isSome_some]
      cases ok with
      | true => exact OK.pure hr rfl (by simp only [cond_true, PR]; exact ⟨_, rfl, _, _, rfl, dats_rel k2, _, _, rfl, mk_bool _, rfl⟩)
      | false => exact OK.pure hr rfl (dats_rel k2)

theorem s_update (hr : SR B h0 F ρ st.nx st.ob h) {t : TypeId} {p q r : PV} {x y z : V} (hx : PR F ρ st.nx p x) (hy : PR F ρ st.nx q y) (hz : PR F ρ st.nx r z) {v : PV} (ht : (pupdate C.T t p q r st).To v st') :
    ∃ id, p = .mp id ∧ OK B h0 F ρ st h [id] (oks (dupdate C.T h t x y z)) v st' := by
  unfold pupdate at ht
  split at ht
  case h_2 => simp at ht
  rename_i kt e id hu
  split at ht
  case h_2 => simp at ht
  rename_i ks ks' vs l hks ho
  split at ht
  case h_2 => simp at ht
  rename_i k l2 w hk hl hw
  obtain ⟨e1, he⟩ := castD_eq hl
  simp only [Sh.list.injEq, Sh.pair.injEq, and_true] at e1
  subst e1
  obtain rfl : l = l2 := he
  simp only [To_val] at ht
  obtain ⟨rfl, rfl⟩ := ht
  have hkd := key_dv hks hy hk
  have hwd := asV_rel hz hw
  obtain ⟨b, n, o, h1, h2, ⟨es, clk, rfl, h4⟩, _⟩ := hr.at ho
  have hx' := hx
  simp only [PR] at hx'
  obtain rfl := hx'.2 b n h1
  obtain ⟨kd, g1, g2, g3, _⟩ := key_ok hks hkd
  obtain ⟨r', r1, r2⟩ := find_rel hks hkd h4 0
  refine ⟨id, rfl, ?_⟩
  have fin : ∀ es' clk', MR F ks' vs (mset ks' vs k w l) es' → OK B h0 F ρ st h [id] (oks (some (h.put b (.map es' clk')))) (.tup []) (st.setObj id (.map ks' vs (mset ks' vs k w l))) := by
    intro es' clk' hm
    refine ⟨.tup [], _, F, ρ, .inr ⟨rfl, rfl⟩, by simp [PR], hr.set ho h1 h2 rfl rfl ⟨es', clk', rfl, hm⟩, Le.refl, rfl, rfl, Nat.le_refl _, fun c _ => ?_⟩
    by_cases ec : c = b
    · exact .inr ⟨id, List.mem_singleton.2 rfl, n, ec ▸ h1⟩
    · exact .inl (by rw [H.get_put, if_neg ec])
  unfold dupdate
  simp only [hu, g1, h2, g2, cond_true, g3, r1]
  cases r' with
  | none => exact fin _ _ (r2.2.2 w z clk hwd)
  | some ju => exact fin _ _ (r2.2.2.2 w z hwd)
theorem s_delete (hr : SR B h0 F ρ st.nx st.ob h) {ts : Array TypeId} {ps : List PV} {xs : List V} (hx : PRs F ρ st.nx ps xs) {v : PV} (ht : (pdelete C.T ts ps st).To v st') :
    ∃ id qs, ps = .mp id :: qs ∧ OK B h0 F ρ st h [id] (okp (ddelete C.T h ts xs)) v st' := by
  unfold pdelete at ht
  split at ht
  case h_2 => simp at ht
  rename_i t id q hts
  split at ht
  case h_2 => simp at ht
  rename_i kt e hu
  split at ht
  case h_2 => simp at ht
  rename_i ks ks' vs l hks ho
  split at ht
  case h_2 => simp at ht
  rename_i k l2 hk hl
  obtain ⟨e1, he⟩ := castD_eq hl
  simp only [Sh.list.injEq, Sh.pair.injEq, and_true] at e1
  subst e1
  obtain rfl : l = l2 := he
  simp only [To_val] at ht
  obtain ⟨rfl, rfl⟩ := ht
  simp only [PRs] at hx
  obtain ⟨x, xs', rfl, hx1, y, xs'', rfl, hy, rfl⟩ := hx
  have hkd := key_dv hks hy hk
  obtain ⟨b, n, o, h1, h2, ⟨es, clk, rfl, h4⟩, _⟩ := hr.at ho
  obtain rfl := hx1.2 b n h1
  obtain ⟨kd, g1, g2, g3, _⟩ := key_ok hks hkd
  obtain ⟨r', r1, r2⟩ := find_rel hks hkd h4 0
  refine ⟨id, _, rfl, ?_⟩
  have fin : ∀ es', MR F ks' vs (mdel ks' vs k l) es' → OK B h0 F ρ st h [id] (okp (some (.tup [], h.put b (.map es' clk)))) (.tup []) (st.setObj id (.map ks' vs (mdel ks' vs k l))) := by
    intro es' hm
    refine ⟨.tup [], _, F, ρ, .inl rfl, by simp [PR], hr.set ho h1 h2 rfl rfl ⟨es', clk, rfl, hm⟩, Le.refl, rfl, rfl, Nat.le_refl _, fun c _ => ?_⟩
    by_cases ec : c = b
    · exact .inr ⟨id, List.mem_singleton.2 rfl, n, ec ▸ h1⟩
    · exact .inl (by rw [H.get_put, if_neg ec])
  unfold ddelete
  simp only [hts, hu, g1, h2, g2, cond_true, g3, r1]
  cases r' with
  | none => exact fin es (by rw [r2.2.1]; exact h4)
  | some ju =>
    have := r2.2.2.1
    simp only [Nat.sub_zero] at this
    exact fin _ this
end
end Go.Pe
end
section
/- What the evaluator for unknown inputs says of an operation is what Det does. -/
namespace Go.Pe
open Go.Det
section
variable {B : Nat} {h0 : H0} {F : Fz} {ρ : Rho} {N : Nat} {C : Ctx} {st st' : PSt} {fr : Fr} {h h' : H}

theorem To_v1 {x : Operand} {k : PV → PO} {v : PV} : (v1 st x k).To v st' ↔ ∃ p, pev st x = some p ∧ (k p).To v st' := by
  unfold v1
  cases pev st x with
  | none => simp
  | some p => simp
theorem To_o1 (hf : FP F ρ N st fr) {x : Option Operand} {k : Option PV → PO} {v : PV} (ht : (o1 st x k).To v st') : ∃ p y, evo C fr x = some y ∧ ORp F ρ N p y ∧ (k p).To v st' := by
  unfold o1 at ht
  cases x with
  | none => exact ⟨none, none, rfl, rfl, ht⟩
  | some x =>
    obtain ⟨p, h1, h2⟩ := To_v1.1 ht
    obtain ⟨y, g1, g2⟩ := pev_rel (C := C) hf h1
    exact ⟨some p, some y, by simp [evo, g1], ⟨y, rfl, g2⟩, h2⟩
theorem OK.sub {tch tch' : List Nat} {d : Option OR} {v : PV} (ho : OK B h0 F ρ st h tch d v st') (hs : ∀ i ∈ tch, i ∈ tch') : OK B h0 F ρ st h tch' d v st' := by
  obtain ⟨v', h', F', ρ', g1, g2, g3, g4, g5, g6, g7, g8⟩ := ho
  refine ⟨v', h', F', ρ', g1, g2, g3, g4, g5, g6, g7, fun b hb => ?_⟩
  rcases g8 b hb with e | ⟨id, hi, n, e⟩
  · exact .inl e
  · exact .inr ⟨id, hs id hi, n, e⟩

theorem s_builtin (hr : SR B h0 F ρ st.nx st.ob h) {b : Builtin} {ts : Array TypeId} {ps : List PV} {xs : List V} (hx : PRs F ρ st.nx ps xs) {v : PV} (ht : (pbuiltin C.T b ts ps st).To v st') :
    OK B h0 F ρ st h (match b with | .append => headIds ps | _ => []) (dbuiltin C h b ts xs) v st' := by
  unfold pbuiltin at ht
  split at ht
  case h_5 => simp at ht
  case h_1 => exact s_len hr hx ht
  case h_2 => exact s_append hr hx ht
  case h_3 => exact s_mm (g := dmax) hr (fun k x y => by simp [dmax, imax]) hx ht
  case h_4 => exact s_mm (g := dmin) hr (fun k x y => by simp [dmin, imin]) hx ht

/-- an operation that is no call of a Go function -/
theorem sim_pop (hr : Rel B h0 F ρ st fr h) {o : Oper} {v : PV} (ht : (pop o.op C.T st).To v st') :
    ∃ tch, OK B h0 F ρ st h tch (dop C fr h o) v st' ∧ ∀ sp ids, hvIds sp st o.op = some ids → ∀ i ∈ tch, i ∈ ids := by
  have nil : ∀ {d : Option OR} {op : Op}, OK B h0 F ρ st h [] d v st' → ∃ tch, OK B h0 F ρ st h tch d v st' ∧ ∀ sp ids, hvIds sp st op = some ids → ∀ i ∈ tch, i ∈ ids := fun h => ⟨[], h, fun _ _ _ i hi => by cases hi⟩
  have ev1 : ∀ {x p}, pev st x = some p → ∃ y, ev C fr x = some y ∧ PR F ρ st.nx p y := fun hp => pev_rel hr.fp hp
  unfold pop at ht
  rw [dop_eq]
  unfold dop0
  cases hop : o.op <;> rw [hop] at ht <;> simp only [q_no, To_bad] at ht <;> simp only
  case move x | assign x =>
    simp only [q_move, To_ov] at ht
    obtain ⟨h1, rfl⟩ := ht
    obtain ⟨y, g1, g2⟩ := ev1 h1
    refine nil ?_
    rw [g1]; exact OK.pure hr.sr rfl g2
  case pick c a b =>
    simp only [q_pick, To_v1] at ht
    obtain ⟨p, h1, q, h2, r, h3, ht⟩ := ht
    obtain ⟨x, g1, g2⟩ := ev1 h1
    obtain ⟨y, g3, g4⟩ := ev1 h2
    obtain ⟨z, g5, g6⟩ := ev1 h3
    obtain ⟨t, rfl, hk⟩ := s_pick hr.sr g2 g4 g6 ht
    refine nil ?_
    rw [g1]; simp only
    cases t
    · simpa [g5] using hk
    · simpa [g3] using hk
  case alloc t => exact nil (s_alloc hr.sr ht)
  case box t x =>
    simp only [q_box, To_v1] at ht
    obtain ⟨p, h1, ht⟩ := ht
    obtain ⟨y, g1, g2⟩ := ev1 h1
    split at ht
    case h_2 => simp at ht
    rename_i cs hcs
    simp only [To_val] at ht
    obtain ⟨rfl, rfl⟩ := ht
    refine nil ?_
    rw [g1]
    exact s_box hr.sr g2 hcs
  case build t ps =>
    simp only [q_build] at ht
    split at ht
    case h_2 => simp at ht
    rename_i l hl
    obtain ⟨l', g1, g2⟩ := pevp_rel (C := C) hr.fp hl
    refine nil ?_
    rw [g1]
    exact s_build hr.sr g2 ht
  case buildSlice t n ps =>
    simp only [q_bslice] at ht
    split at ht
    case h_2 => simp at ht
    rename_i l hl
    obtain ⟨l', g1, g2⟩ := pevp_rel (C := C) hr.fp hl
    refine nil ?_
    rw [g1]
    exact s_bslice hr.sr g2 ht
  case load t x =>
    simp only [q_load, To_v1] at ht
    obtain ⟨p, h1, ht⟩ := ht
    obtain ⟨y, g1, g2⟩ := ev1 h1
    refine nil ?_
    rw [g1]; exact s_load hr.sr g2 ht
  case store t x y =>
    simp only [q_store, To_v1] at ht
    obtain ⟨p, h1, q, h2, ht⟩ := ht
    obtain ⟨a, g1, g2⟩ := ev1 h1
    obtain ⟨b, g3, g4⟩ := ev1 h2
    obtain ⟨id, hid, hk⟩ := s_store hr.sr g2 g4 ht
    refine ⟨[id], by rw [g1, g3]; exact hk, fun sp ids hids => ?_⟩
    simp only [hvIds, h1] at hids
    rcases hid with ⟨off, rfl⟩ | ⟨sz, j, off, rfl⟩ <;> (simp only [Option.some.injEq] at hids; subst hids; intro i hi; exact hi)
  case nilCheck x =>
    simp only [q_nilCheck, To_v1] at ht
    obtain ⟨p, h1, ht⟩ := ht
    obtain ⟨y, g1, g2⟩ := ev1 h1
    rw [g1]
    split at ht
    case h_4 => simp at ht
    case h_1 =>
      rename_i id off
      cases hl : isS (st.obj id) with
      | false => rw [hl] at ht; simp at ht
      | true =>
        rw [hl] at ht
        simp only [cond_true, To_val] at ht
        obtain ⟨rfl, rfl⟩ := ht
        obtain ⟨b, n, k1⟩ := hr.sr.live hl
        have g2' := g2
        simp only [PR] at g2'
        obtain rfl := g2'.2 b n k1
        exact nil (OK.pure hr.sr rfl g2)
    case h_2 =>
      rename_i id sz j off
      cases hl : isS (st.obj id) with
      | false => rw [hl] at ht; simp at ht
      | true =>
        rw [hl] at ht
        simp only [cond_true, To_val] at ht
        obtain ⟨rfl, rfl⟩ := ht
        obtain ⟨b, n, k1⟩ := hr.sr.live hl
        have g2' := g2
        simp only [PR] at g2'
        obtain rfl := g2'.2 b n k1
        exact nil (OK.pure hr.sr rfl g2)
    case h_3 =>
      simp only [To_val] at ht
      obtain ⟨rfl, rfl⟩ := ht
      have g2' := g2
      simp only [PR] at g2'
      obtain ⟨b, o', cs, rfl, _⟩ := g2'
      exact nil (OK.pure hr.sr rfl g2)
  case binOp op t x y t2 =>
    simp only [q_bin, To_v1] at ht
    obtain ⟨p, h1, q, h2, ht⟩ := ht
    obtain ⟨a, g1, g2⟩ := ev1 h1
    obtain ⟨b, g3, g4⟩ := ev1 h2
    refine nil ?_
    rw [g1, g3]; exact s_bin hr.sr g2 g4 ht
  case unOp op t x =>
    simp only [q_un, To_v1] at ht
    obtain ⟨p, h1, ht⟩ := ht
    obtain ⟨y, g1, g2⟩ := ev1 h1
    refine nil ?_
    rw [g1]; exact s_un hr.sr g2 ht
  case convert s d x =>
    simp only [q_conv, To_v1] at ht
    obtain ⟨p, h1, ht⟩ := ht
    obtain ⟨y, g1, g2⟩ := ev1 h1
    refine nil ?_
    rw [g1]; exact s_conv hr.sr g2 ht
  case makeFunc f a b =>
    simp only [q_func] at ht
    split at ht
    case h_2 => simp at ht
    rename_i x y hx hy
    simp only [To_val] at ht
    obtain ⟨rfl, rfl⟩ := ht
    obtain ⟨u, g1, g2⟩ := pevs_rel (C := C) hr.fp hx
    obtain ⟨w, g3, g4⟩ := pevs_rel (C := C) hr.fp hy
    refine nil ?_
    rw [g1, g3]
    exact OK.pure hr.sr rfl (by unfold PR; exact ⟨_, _, rfl, g2, g4⟩)
  case makeMap t r =>
    simp only [q_mkmap] at ht
    split at ht
    case h_2 => simp at ht
    refine nil ?_
    exact s_mkmap hr.sr ht
  case lookup t x i ok =>
    simp only [q_lookup, To_v1] at ht
    obtain ⟨p, h1, q, h2, ht⟩ := ht
    obtain ⟨a, g1, g2⟩ := ev1 h1
    obtain ⟨b, g3, g4⟩ := ev1 h2
    refine nil ?_
    rw [g1, g3]; exact s_lookup hr.sr g2 g4 ht
  case mapUpdate t m k x | insert t m k x =>
    simp only [q_update, To_v1] at ht
    obtain ⟨p, h1, q, h2, r, h3, ht⟩ := ht
    obtain ⟨a, g1, g2⟩ := ev1 h1
    obtain ⟨b, g3, g4⟩ := ev1 h2
    obtain ⟨c, g5, g6⟩ := ev1 h3
    obtain ⟨id, rfl, hk⟩ := s_update hr.sr g2 g4 g6 ht
    refine ⟨[id], by rw [g1, g3, g5]; exact hk, fun sp ids hids => ?_⟩
    simp only [hvIds, h1, Option.some.injEq] at hids
    subst hids; intro i hi; exact hi
  case makeSlice t l c =>
    simp only [q_make, To_v1] at ht
    obtain ⟨p, h1, q, h2, ht⟩ := ht
    obtain ⟨a, g1, g2⟩ := ev1 h1
    obtain ⟨b, g3, g4⟩ := ev1 h2
    refine nil ?_
    rw [g1, g3]; exact s_make hr.sr g2 g4 ht
  case slice t x lo hi mx =>
    simp only [q_slice, To_v1] at ht
    obtain ⟨p, h1, ht⟩ := ht
    obtain ⟨a, g1, g2⟩ := ev1 h1
    obtain ⟨l, l', k1, k2, ht⟩ := To_o1 (C := C) hr.fp ht
    obtain ⟨m, m', k3, k4, ht⟩ := To_o1 (C := C) hr.fp ht
    obtain ⟨n, n', k5, k6, ht⟩ := To_o1 (C := C) hr.fp ht
    refine nil ?_
    rw [g1, k1, k3, k5]; exact s_slice hr.sr g2 k2 k4 k6 ht
  case fieldAddr t x f =>
    simp only [q_faddr, To_v1] at ht
    obtain ⟨p, h1, ht⟩ := ht
    obtain ⟨y, g1, g2⟩ := ev1 h1
    refine nil ?_
    rw [g1]; exact s_faddr hr.sr g2 ht
  case field t x f =>
    simp only [q_field, To_v1] at ht
    obtain ⟨p, h1, ht⟩ := ht
    obtain ⟨y, g1, g2⟩ := ev1 h1
    refine nil ?_
    rw [g1]; exact s_field hr.sr g2 ht
  case indexAddr t x i =>
    simp only [q_iaddr, To_v1] at ht
    obtain ⟨p, h1, q, h2, ht⟩ := ht
    obtain ⟨a, g1, g2⟩ := ev1 h1
    obtain ⟨b, g3, g4⟩ := ev1 h2
    refine nil ?_
    rw [g1, g3]; exact s_iaddr hr.sr g2 g4 ht
  case index t x i =>
    simp only [q_index, To_v1] at ht
    obtain ⟨p, h1, q, h2, ht⟩ := ht
    obtain ⟨a, g1, g2⟩ := ev1 h1
    obtain ⟨b, g3, g4⟩ := ev1 h2
    refine nil ?_
    rw [g1, g3]; exact s_index hr.sr g2 g4 ht
  case extract x i =>
    simp only [q_extract, To_v1] at ht
    obtain ⟨p, h1, ht⟩ := ht
    obtain ⟨y, g1, g2⟩ := ev1 h1
    refine nil ?_
    rw [g1]; exact s_extract hr.sr g2 ht
  case call c =>
    simp only [q_call] at ht
    split at ht
    case h_1 => simp at ht
    rename_i args hargs
    obtain ⟨args', g1, g2⟩ := pevs_rel (C := C) hr.fp hargs
    split at ht
    case h_2 => simp at ht
    case h_1 =>
      rename_i b hb
      split at ht
      case h_1 =>
        obtain ⟨id, qs, rfl, hk⟩ := s_delete hr.sr g2 ht
        refine ⟨[id], by rw [hb, g1]; exact hk, fun sp ids hids => ?_⟩
        simp only [hvIds, hb, hargs, Option.some.injEq] at hids
        subst hids; intro i hi; exact hi
      case h_2 =>
      have := s_builtin hr.sr g2 ht
      refine ⟨_, by rw [hb, g1]; exact this, fun sp ids hids => ?_⟩
      simp only [hvIds, hb, hargs] at hids
      cases b <;> simp only at hids ⊢ <;> try (intro i hi; cases hi; done)
      case append =>
        cases args with
        | nil => simp [headIds]
        | cons p ps => cases p <;> simp only [Option.some.injEq] at hids <;> subst hids <;> (intro i hi; exact hi)
end
end Go.Pe
end
section
/- What the evaluator for unknown inputs says of regions is what Det does. -/
namespace Go.Pe
open Go.Det
section
variable {B : Nat} {h0 : H0} {F : Fz} {ρ : Rho} {N : Nat} {X : PCtx} {st st' : PSt} {fr : Fr} {h h' : H} {Q : PV → Ob → Prop} {n : Nat}

@[simp] theorem get_set (st : PSt) (t : Nat) (p : PV) (s : Nat) : (st.set t p).get s = if s = t then p else st.get s := by
  unfold PSt.get PSt.set
  simp only [PM.get_set]
  split <;> rfl
theorem Rel.set (hr : Rel B h0 F ρ st fr h) {t : Nat} {p : PV} {x : V} (hp : PR F ρ st.nx p x) : Rel B h0 F ρ (st.set t p) ⟨fr.n, fr.m.set t (some x)⟩ h := by
  refine ⟨⟨hr.fp.n, fun s => ?_⟩, hr.sr⟩
  rw [get_set]
  unfold Fr.get
  simp only [PM.get_set]
  split
  · exact hp
  · exact hr.fp.slot s
/-- what is known of a slot is noted -/
theorem Rel.note (hr : Rel B h0 F ρ st fr h) {t : Nat} {p : PV} (hp : PR F ρ st.nx p (fr.get t)) : Rel B h0 F ρ (st.set t p) fr h := by
  refine ⟨⟨hr.fp.n, fun s => ?_⟩, hr.sr⟩
  rw [get_set]
  split
  · rename_i e; subst e; exact hp
  · exact hr.fp.slot s
theorem Rel.put (hr : Rel B h0 F ρ st fr h) {d : Option Nat} {p : PV} {x : V} (hp : PR F ρ st.nx p x) (hd : st.put d p = some st') : ∃ fr', fr.put d x = some fr' ∧ Rel B h0 F ρ st' fr' h ∧ st'.nx = st.nx ∧ st'.ob = st.ob := by
  unfold PSt.put at hd
  unfold Fr.put
  cases d with
  | none => cases hd; exact ⟨fr, rfl, hr, rfl, rfl⟩
  | some t =>
    simp only at hd ⊢
    have hn : st.n = fr.n := hr.fp.n
    rw [hn] at hd
    cases hb : Nat.blt t fr.n with
    | false => rw [hb] at hd; cases hd
    | true =>
      rw [hb] at hd
      simp only [cond_true, Option.some.injEq] at hd
      subst hd
      exact ⟨_, rfl, hr.set hp, rfl, rfl⟩

/-- from one state to a later one -/
structure Went (B : Nat) (h0 : H0) (F : Fz) (ρ : Rho) (N : Nat) (h : H) (st' : PSt) (fr' : Fr) (h' : H) (F' : Fz) (ρ' : Rho) : Prop where
  rel : Rel B h0 F' ρ' st' fr' h'
  le : Le F ρ N F' ρ' st'.nx
  nx : h.nx ≤ h'.nx
theorem Went.refl (hr : Rel B h0 F ρ st fr h) : Went B h0 F ρ st.nx h st fr h F ρ := ⟨hr, Le.refl, Nat.le_refl _⟩
theorem Went.trans {F' F'' : Fz} {ρ' ρ'' : Rho} {st'' : PSt} {fr' fr'' : Fr} {h'' : H} (a : Went B h0 F ρ N h st' fr' h' F' ρ') (b : Went B h0 F' ρ' st'.nx h' st'' fr'' h'' F'' ρ'') : Went B h0 F ρ N h st'' fr'' h'' F'' ρ'' :=
  ⟨b.rel, a.le.trans b.le, Nat.le_trans a.nx b.nx⟩

/-- how calls are carried out; nd: may there be more than one outcome -/
def CallOk (B : Nat) (h0 : H0) (X : PCtx) (nd : Bool) (call : PCall) : Prop :=
  ∀ {Q : PV → Ob → Prop} {n : Nat} {g : FuncId} {args : List PV} {st : PSt} {k : PV → PSt → Tr}, Ev X Q n (call g args st k) → ∀ {F : Fz} {ρ : Rho} {fr : Fr} {h : H} {args' : List V}, Rel B h0 F ρ st fr h → PRs F ρ st.nx args args' →
    (X.C.prim g = none ∧ ∃ i, X.C.fn g = some i) ∧ ∃ l M, (∀ m, M ≤ m → ecall X.C m (.fn g args') h = some l) ∧ (nd = false → ∃ x, l = [x]) ∧
      ∀ x ∈ l, ∃ n', n' ≤ n ∧ ∃ r st', Ev X Q n' (k r st') ∧ ∃ F' ρ', PR F' ρ' st'.nx r x.1 ∧ Went B h0 F ρ st.nx h st' fr x.2 F' ρ' ∧ (∀ sp, X.sp g = some sp → ∀ b, b < h.nx → x.2.get b = h.get b)

theorem Ev.ite_iff {c : Bool} {a b : Tr} (he : Ev X Q n (.ite c a b)) : (c = true ∧ Ev X Q n a) ∨ (c = false ∧ Ev X Q n b) := by
  cases he with
  | ite h1 h2 =>
    cases c with
    | true => exact .inl ⟨rfl, h1 rfl⟩
    | false => exact .inr ⟨rfl, h2 rfl⟩
theorem Ev.not_fail : ¬ Ev X Q n .fail := fun h => by cases h
theorem Ev.of_leaf {v : PV} {ob : Ob} (he : Ev X Q n (.leaf v ob)) : Q v ob := by
  cases he with
  | leaf h => exact h

/-- a guard -/
theorem sim_guarded (hr : Rel B h0 F ρ st fr h) {ops : Array Oper} {o : Oper} {yes no : PSt → Tr} (he : Ev X Q n (guarded ops o st yes no)) :
    ∃ st1, Rel B h0 F ρ st1 fr h ∧ st1.nx = st.nx ∧ st1.ob = st.ob ∧ ((wantedD fr ops o = true ∧ Ev X Q n (yes st1)) ∨ (wantedD fr ops o = false ∧ Ev X Q n (no st1))) := by
  unfold guarded at he
  unfold wantedD
  cases hg : o.guard with
  | none => rw [hg] at he; exact ⟨st, hr, rfl, rfl, .inl ⟨rfl, he⟩⟩
  | some jw =>
    obtain ⟨j, want⟩ := jw
    rw [hg] at he
    simp only at he ⊢
    cases hb : (ops[j]?).bind (·.dst) with
    | none => rw [hb] at he; exact absurd he Ev.not_fail
    | some t =>
      rw [hb] at he
      simp only at he ⊢
      rw [show st.n = fr.n from hr.fp.n] at he
      cases hlt : Nat.blt t fr.n with
      | false => rw [hlt] at he; exact absurd he Ev.not_fail
      | true =>
        rw [hlt] at he
        simp only [cond_true] at he ⊢
        have hs := hr.fp.slot t
        split at he
        case h_1 =>
          rename_i b hb2
          rw [hb2] at hs
          rw [pr_bl hs]
          refine ⟨st, hr, rfl, rfl, ?_⟩
          cases hbw : (b == want) with
          | true => rw [hbw] at he; exact .inl ⟨hbw, he⟩
          | false => rw [hbw] at he; exact .inr ⟨hbw, he⟩
        case h_2 =>
          rename_i b hb2
          rw [hb2] at hs
          have hv := pr_bool hs
          have note : ∀ c : Bool, b = c → Rel B h0 F ρ (st.set t (.bl c)) fr h := by
            rintro c rfl
            exact hr.note (by rw [hv]; exact mk_bl _)
          rw [hv]
          cases want with
          | true =>
            simp only [cond_true] at he
            rcases he.ite_iff with ⟨hb3, he⟩ | ⟨hb3, he⟩
            · exact ⟨_, note true hb3, rfl, rfl, .inl ⟨by rw [show b = true from hb3]; rfl, he⟩⟩
            · exact ⟨_, note false hb3, rfl, rfl, .inr ⟨by rw [show b = false from hb3]; rfl, he⟩⟩
          | false =>
            simp only [cond_false] at he
            rcases he.ite_iff with ⟨hb3, he⟩ | ⟨hb3, he⟩
            · exact ⟨_, note true hb3, rfl, rfl, .inr ⟨by rw [show b = true from hb3]; rfl, he⟩⟩
            · exact ⟨_, note false hb3, rfl, rfl, .inl ⟨by rw [show b = false from hb3]; rfl, he⟩⟩
        case h_4 => exact absurd he Ev.not_fail
        case h_3 =>
          rename_i l hb2
          rw [hb2] at hs
          simp only [PR] at hs
          obtain ⟨cs, hv, _⟩ := hs
          rw [hv]
          exact ⟨st, hr, rfl, rfl, .inr ⟨rfl, he⟩⟩

/-- an operation carried out -/
theorem sim_runPO {d : Option Nat} {k : PSt → Tr} : ∀ {po : PO}, Ev X Q n (runPO d k po) → ∃ u s st1, po.To u s ∧ s.put d u = some st1 ∧ Ev X Q n (k st1)
  | .bad, he => absurd he Ev.not_fail
  | .val u s, he => by
    simp only [runPO] at he
    split at he
    · rename_i s1 hs; exact ⟨u, s, s1, .val, hs, he⟩
    · exact absurd he Ev.not_fail
  | .ite c a b, he => by
    simp only [runPO] at he
    rcases he.ite_iff with ⟨rfl, he2⟩ | ⟨rfl, he2⟩
    · obtain ⟨u, s, s1, h1, h2⟩ := sim_runPO he2
      exact ⟨u, s, s1, .tt h1, h2⟩
    · obtain ⟨u, s, s1, h1, h2⟩ := sim_runPO he2
      exact ⟨u, s, s1, .ff h1, h2⟩

/-- what an operation comes to, for all great enough numbers m: in Det's words -/
inductive Did (X : PCtx) (fr : Fr) (h : H) (o : Oper) : List (V × H) → Prop where
  | val {x : V} {h' : H} : dop X.C fr h o = some (.val x h') → Did X fr h o [(x, h')]
  | skip {h' : H} : dop X.C fr h o = some (.skip h') → Did X fr h o [(.tup [], h')]
  | alts {l : List (V × H)} : dop X.C fr h o = some (.alts l) → Did X fr h o l
  | call {g : FuncId} {args : List V} {l : List (V × H)} {M : Nat} : dop X.C fr h o = some (.enter g args) → (∀ m, M ≤ m → ecall X.C m (.fn g args) h = some l) → Did X fr h o l

/-- **an operation** -/
theorem sim_stepOp {nd : Bool} {call : PCall} (hcall : CallOk B h0 X nd call) (hr : Rel B h0 F ρ st fr h) {o : Oper} {k : PSt → Tr} (he : Ev X Q n (stepOp X.C.T call o st k)) :
    ∃ l, Did X fr h o l ∧ (nd = false → (∃ x, l = [x]) ∧ ∀ l', dop X.C fr h o ≠ some (.alts l')) ∧ ∀ x ∈ l, ∃ n', n' ≤ n ∧ ∃ st1, Ev X Q n' (k st1) ∧ ∃ F' ρ' fr', fr.put o.dst x.1 = some fr' ∧ Went B h0 F ρ st.nx h st1 fr' x.2 F' ρ' ∧
      ∀ ids, hvIds X.sp st o.op = some ids → ∀ b, b < h.nx → x.2.get b = h.get b ∨ ∃ id ∈ ids, ∃ m, ρ id = some (b, m) := by
  unfold stepOp at he
  split at he
  case h_2 => exact absurd he Ev.not_fail
  case h_1 =>
    rename_i g args hc
    unfold callOf at hc
    split at hc
    case h_2 => cases hc
    rename_i c hop
    split at hc
    case h_2 => cases hc
    rename_i f hcal
    split at hc
    case h_2 => cases hc
    rename_i g' first cap ps hf hps
    cases hc
    obtain ⟨fv, f1, f2⟩ := pev_rel (C := X.C) hr.fp hf
    obtain ⟨av, a1, a2⟩ := pevs_rel (C := X.C) hr.fp hps
    simp only [PR] at f2
    obtain ⟨fa, fb, rfl, f3, f4⟩ := f2
    have hargs : PRs F ρ st.nx (first ++ ps ++ cap) (fa ++ av ++ fb) := (f3.append a2).append f4
    obtain ⟨⟨hprim, i, hfn⟩, l, M, hM, hnd, hall⟩ := hcall he hr hargs
    have hdop : dop X.C fr h o = some (.enter g (fa ++ av ++ fb)) := by
      rw [dop_eq]; unfold dop0
      simp only [hop, hcal, a1, f1, dcall, hprim, hfn]
    refine ⟨l, .call hdop hM, fun e => ⟨hnd e, fun l' => by rw [hdop]; intro h; cases h⟩, fun x hx => ?_⟩
    obtain ⟨n', hn, r, st', he', F', ρ', hp, hw, hsp⟩ := hall x hx
    split at he'
    case h_2 => exact absurd he' Ev.not_fail
    rename_i st1 hput
    obtain ⟨fr', g1, g2, g3, g4⟩ := hw.rel.put hp hput
    refine ⟨n', hn, st1, he', F', ρ', fr', g1, ⟨g2, by rw [g3]; exact hw.le, hw.nx⟩, fun ids hids b hb => ?_⟩
    simp only [hop, hvIds, hcal, hf] at hids
    cases hs : X.sp g with
    | none => rw [hs] at hids; cases hids
    | some sp => exact .inl (hsp sp hs b hb)
  case h_3 =>
    obtain ⟨u, s, st1, h1, h2, h3⟩ := sim_runPO he
    obtain ⟨tch, ⟨v', h', F', ρ', g1, g2, g3, g4, g5, g6, g7, g8⟩, htch⟩ := sim_pop (C := X.C) hr h1
    have hrs : Rel B h0 F' ρ' s fr h' := ⟨⟨by rw [g6]; exact hr.fp.n, fun t => by
      have : s.get t = st.get t := by unfold PSt.get; rw [g5]
      rw [this]; exact (hr.fp.slot t).mono g4⟩, g3⟩
    obtain ⟨fr', k1, k2, k3, k4⟩ := hrs.put g2 h2
    refine ⟨[(v', h')], ?_, fun _ => ⟨⟨_, rfl⟩, fun l' => by rcases g1 with g1 | ⟨g1, _⟩ <;> rw [g1] <;> intro h <;> cases h⟩, fun x hx => ?_⟩
    · rcases g1 with g1 | ⟨g1, rfl⟩
      · exact .val g1
      · exact .skip g1
    · cases List.mem_singleton.1 hx
      refine ⟨n, Nat.le_refl _, st1, h3, F', ρ', fr', k1, ⟨k2, by rw [k3]; exact g4, g7⟩, fun ids hids b hb => ?_⟩
      rcases g8 b hb with e | ⟨id, hi, m, e⟩
      · exact .inl e
      · exact .inr ⟨id, htch _ _ hids id hi, m, e⟩

theorem bl_one {α β : Type} {f : α → Option (List β)} {x : α} : bl [x] f = f x := by
  unfold bl
  cases f x <;> rfl
/-- from outcomes to outcomes, with two numbers -/
theorem bl_all2 {α β : Type} {f : Nat → Nat → α → Option (List β)} {P : β → Prop} {nd : Bool} {l : List α} (hone : nd = false → ∃ x, l = [x]) (h : ∀ a ∈ l, ∃ r M, (∀ m, M ≤ m → ∀ q, M ≤ q → f m q a = some r) ∧ (nd = false → ∃ x, r = [x]) ∧ ∀ y ∈ r, P y) :
    ∃ r M, (∀ m, M ≤ m → ∀ q, M ≤ q → bl l (f m q) = some r) ∧ (nd = false → ∃ x, r = [x]) ∧ ∀ y ∈ r, P y := by
  cases nd with
  | false =>
    obtain ⟨x, rfl⟩ := hone rfl
    obtain ⟨r, M, h1, h2, h3⟩ := h x (List.mem_singleton.2 rfl)
    exact ⟨r, M, fun m hm q hq => by rw [bl_one]; exact h1 m hm q hq, h2, h3⟩
  | true =>
    clear hone
    suffices hs : ∃ r M, (∀ m, M ≤ m → ∀ q, M ≤ q → bl l (f m q) = some r) ∧ ∀ y ∈ r, P y by
      obtain ⟨r, M, h1, h2⟩ := hs
      exact ⟨r, M, h1, fun e => (by cases e), h2⟩
    induction l with
    | nil => exact ⟨[], 0, fun _ _ _ _ => rfl, fun y hy => by cases hy⟩
    | cons a l ih =>
      obtain ⟨r, M, h1, _, h2⟩ := h a List.mem_cons_self
      obtain ⟨r2, M2, h3, h4⟩ := ih (fun x hx => h x (List.mem_cons_of_mem _ hx))
      cases l with
      | nil => exact ⟨r, M, fun m hm q hq => (by simp only [bl, h1 m hm q hq]), h2⟩
      | cons b l =>
        refine ⟨r ++ r2, max M M2, fun m hm q hq => ?_, fun y hy => ?_⟩
        · unfold bl
          rw [h1 m (by omega) q (by omega)]
          simp only
          rw [h3 m (by omega) q (by omega)]
        · rcases List.mem_append.1 hy with hy | hy
          · exact h2 y hy
          · exact h4 y hy

theorem putAll_all {d : Option Nat} {P : Fr × H → Prop} : ∀ {l : List (V × H)}, (∀ x ∈ l, ∃ fr', fr.put d x.1 = some fr' ∧ P (fr', x.2)) → ∃ r, putAll fr d l = some r ∧ (∀ y ∈ r, P y) ∧ ((∃ x, l = [x]) → ∃ y, r = [y])
  | [], _ => ⟨[], rfl, fun y hy => (by cases hy), fun ⟨x, h⟩ => by cases h⟩
  | x :: l, h => by
    obtain ⟨fr', h1, h2⟩ := h x List.mem_cons_self
    obtain ⟨r, h3, h4, _⟩ := putAll_all (l := l) (fun y hy => h y (List.mem_cons_of_mem _ hy))
    refine ⟨(fr', x.2) :: r, ?_, fun y hy => ?_, fun ⟨z, hz⟩ => ?_⟩
    · obtain ⟨v, hv⟩ := x
      unfold putAll
      rw [h1]
      simp only
      rw [h3]
    · rcases List.mem_cons.1 hy with rfl | hy
      · exact h2
      · exact h4 y hy
    · cases hz
      cases h3
      exact ⟨_, rfl⟩
theorem Did.does {l : List (V × H)} {o : Oper} {ops : Array Oper} (hd : Did X fr h o l) (hw : wantedD fr ops o = true) {P : Fr × H → Prop} (hp : ∀ x ∈ l, ∃ fr', fr.put o.dst x.1 = some fr' ∧ P (fr', x.2)) :
    ∃ r M, (∀ m, M ≤ m → step1 X.C (ecall X.C m) ops o fr h = some r) ∧ ((∃ x, l = [x]) → ∃ y, r = [y]) ∧ ∀ y ∈ r, P y := by
  obtain ⟨r, h3, h4, h5⟩ := putAll_all hp
  cases hd with
  | @val x h' hd =>
    obtain ⟨fr', k1, k2⟩ := hp _ (List.mem_singleton.2 rfl)
    exact ⟨[(fr', h')], 0, fun m _ => (by simp only [step1, hw, cond_true, dopx, hd, k1]), fun _ => ⟨_, rfl⟩, fun y hy => by cases List.mem_singleton.1 hy; exact k2⟩
  | @skip h' hd =>
    obtain ⟨fr', k1, k2⟩ := hp _ (List.mem_singleton.2 rfl)
    exact ⟨[(fr', h')], 0, fun m _ => (by simp only [step1, hw, cond_true, dopx, hd, k1]), fun _ => ⟨_, rfl⟩, fun y hy => by cases List.mem_singleton.1 hy; exact k2⟩
  | alts hd => exact ⟨r, 0, fun m _ => by simp only [step1, hw, cond_true, dopx, hd, h3], h5, h4⟩
  | @call g args l M hd hM => exact ⟨r, M, fun m hm => by simp only [step1, hw, cond_true, dopx, hd, hM m hm, h3], h5, h4⟩

/-- **a region whose order is fixed** -/
theorem sim_prun {nd : Bool} {call : PCall} (hcall : CallOk B h0 X nd call) {ops : Array Oper} : ∀ {l : List Oper} {n : Nat} {st : PSt} {F : Fz} {ρ : Rho} {fr : Fr} {h : H} {k : PSt → Tr}, Rel B h0 F ρ st fr h → Ev X Q n (prun X.C.T call ops l st k) →
    ∃ r M, (∀ m, M ≤ m → dops X.C (ecall X.C m) ops l fr h = some r) ∧ (nd = false → ∃ x, r = [x]) ∧ ∀ x ∈ r, ∃ n', n' ≤ n ∧ ∃ st1, Ev X Q n' (k st1) ∧ ∃ F' ρ', Went B h0 F ρ st.nx h st1 x.1 x.2 F' ρ'
  | [], n, st, F, ρ, fr, h, k, hr, he => ⟨[(fr, h)], 0, fun _ _ => rfl, fun _ => ⟨_, rfl⟩, fun x hx => by cases List.mem_singleton.1 hx; exact ⟨n, Nat.le_refl _, st, he, F, ρ, Went.refl hr⟩⟩
  | o :: rest, n, st, F, ρ, fr, h, k, hr, he => by
    unfold prun at he
    obtain ⟨st1, hr1, e1, e2, hcase⟩ := sim_guarded hr he
    -- one step, then the rest
    have fin : ∀ {l : List (Fr × H)}, (∃ M, ∀ m, M ≤ m → step1 X.C (ecall X.C m) ops o fr h = some l) → (nd = false → ∃ x, l = [x]) →
        (∀ y ∈ l, ∃ n', n' ≤ n ∧ ∃ st2, Ev X Q n' (prun X.C.T call ops rest st2 k) ∧ ∃ F' ρ', Went B h0 F ρ st.nx h st2 y.1 y.2 F' ρ') →
        ∃ r M, (∀ m, M ≤ m → dops X.C (ecall X.C m) ops (o :: rest) fr h = some r) ∧ (nd = false → ∃ x, r = [x]) ∧ ∀ x ∈ r, ∃ n', n' ≤ n ∧ ∃ st1, Ev X Q n' (k st1) ∧ ∃ F' ρ', Went B h0 F ρ st.nx h st1 x.1 x.2 F' ρ' := by
      rintro l ⟨M1, hM1⟩ hone hl
      obtain ⟨r, M, h1, h2, h3⟩ := bl_all2 (f := fun m _ (x : Fr × H) => dops X.C (ecall X.C m) ops rest x.1 x.2) (P := fun x => ∃ n', n' ≤ n ∧ ∃ st1, Ev X Q n' (k st1) ∧ ∃ F' ρ', Went B h0 F ρ st.nx h st1 x.1 x.2 F' ρ') hone fun y hy => by
        obtain ⟨n1, hn1, st2, he2, F1, ρ1, hwent⟩ := hl y hy
        obtain ⟨r, M, h1, h3, h2⟩ := sim_prun hcall hwent.rel he2
        refine ⟨r, M, fun m hm _ _ => h1 m hm, h3, fun z hz => ?_⟩
        obtain ⟨n2, hn2, st3, he3, F2, ρ2, hwent2⟩ := h2 z hz
        exact ⟨n2, Nat.le_trans hn2 hn1, st3, he3, F2, ρ2, hwent.trans hwent2⟩
      refine ⟨r, max M M1, fun m hm => ?_, h2, h3⟩
      simp only [dops, hM1 m (by omega)]
      exact h1 m (by omega) m (by omega)
    rcases hcase with ⟨hw, he⟩ | ⟨hw, he⟩
    · obtain ⟨l, hdid, hnd, hall⟩ := sim_stepOp hcall hr1 he
      obtain ⟨r, M, h1, h3, h2⟩ := hdid.does (ops := ops) (P := fun y => ∃ n', n' ≤ n ∧ ∃ st2, Ev X Q n' (prun X.C.T call ops rest st2 k) ∧ ∃ F' ρ', Went B h0 F ρ st.nx h st2 y.1 y.2 F' ρ') hw fun x hx => by
        obtain ⟨n1, hn1, st2, he2, F1, ρ1, fr1, hput, hwent, _⟩ := hall x hx
        rw [e1] at hwent
        exact ⟨fr1, hput, n1, hn1, st2, he2, F1, ρ1, hwent⟩
      exact fin ⟨M, h1⟩ (fun e => h3 (hnd e).1) h2
    · unfold skipOp at he
      split at he
      case h_2 => exact absurd he Ev.not_fail
      rename_i st2 hput
      obtain ⟨fr1, g1, g2, g3, g4⟩ := hr1.put (x := .tup []) (by simp [PR]) hput
      refine fin (l := [(fr1, h)]) ⟨0, fun m _ => by simp only [step1, hw, cond_false, g1]⟩ (fun _ => ⟨_, rfl⟩) fun y hy => ?_
      cases List.mem_singleton.1 hy
      exact ⟨n, Nat.le_refl _, st2, he, F, ρ, g2, by rw [g3, e1]; exact Le.refl, Nat.le_refl _⟩
end
end Go.Pe
end
