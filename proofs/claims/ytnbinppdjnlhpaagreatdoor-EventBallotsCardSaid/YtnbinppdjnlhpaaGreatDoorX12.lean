import Derived.Test.YtnbinppdjnlhpaaGreatDoorX11
/- A part of the proofs of the laws of one chapter (no law is stated here). Made by program out of texts by AI agents. -/
section
/- What the evaluator for unknown inputs says of operations is what Det does: operands, loads, stores. -/
namespace Go.Pe
open Go.Det
section
variable {B : Nat} {h0 : H0} {F : Fz} {ρ : Rho} {N : Nat}
mutual
theorem cvp_rel : ∀ {v : Value} {p : PV}, cvp v = some p → ∃ x, cv v = some x ∧ PR F ρ N p x
  | .bool b, p, h => by simp [cvp] at h; subst h; exact ⟨_, rfl, by simp [PR]⟩
  | .int k n, p, h => by simp [cvp] at h; subst h; exact ⟨_, rfl, by simp [PR, DC]⟩
  | .string s, p, h => by simp [cvp] at h; subst h; exact ⟨_, rfl, by simp [PR, DC]⟩
  | .pointer none, p, h => by simp [cvp] at h; subst h; exact ⟨_, rfl, by simp [PR]⟩
  | .pointer (some a), p, h => by simp [cvp] at h
  | .slice none 0 0, p, h => by simp [cvp] at h; subst h; exact ⟨_, rfl, by simp [PR]⟩
  | .slice none 0 (_ + 1), p, h => by simp [cvp] at h
  | .slice none (_ + 1) _, p, h => by simp [cvp] at h
  | .slice (some a) _ _, p, h => by simp [cvp] at h
  | .map none, p, h => by simp [cvp] at h; subst h; exact ⟨_, rfl, by simp [PR]⟩
  | .map (some a), p, h => by simp [cvp] at h
  | .nilFunc, p, h => by simp [cvp] at h; subst h; exact ⟨_, rfl, by simp [PR]⟩
  | .nilIface, p, h => by simp [cvp] at h; subst h; exact ⟨_, rfl, by simp [PR]⟩
  | .func f ⟨[]⟩ ⟨[]⟩, p, h => by simp [cvp] at h; subst h; exact ⟨_, rfl, by simp [PR]⟩
  | .func f ⟨_ :: _⟩ _, p, h => by simp [cvp] at h
  | .func f ⟨[]⟩ ⟨_ :: _⟩, p, h => by simp [cvp] at h
  | .agg ⟨cs⟩, p, h => by
    simp only [cvp, Option.map_eq_some_iff] at h
    obtain ⟨xs, h1, rfl⟩ := h
    obtain ⟨ys, h2, h3⟩ := cvps_rel h1
    exact ⟨.agg ys, by simp [cv, h2], by simp only [PR]; exact ⟨ys, rfl, h3⟩⟩
  | .tuple ⟨cs⟩, p, h => by
    simp only [cvp, Option.map_eq_some_iff] at h
    obtain ⟨xs, h1, rfl⟩ := h
    obtain ⟨ys, h2, h3⟩ := cvps_rel h1
    exact ⟨.tup ys, by simp [cv, h2], by simp only [PR]; exact ⟨ys, rfl, h3⟩⟩
  | .float _ _, p, h => by simp [cvp] at h
  | .complex _ _ _, p, h => by simp [cvp] at h
  | .chan _, p, h => by simp [cvp] at h
  | .iface _ _, p, h => by simp [cvp] at h
theorem cvps_rel : ∀ {vs : List Value} {ps : List PV}, cvps vs = some ps → ∃ xs, cvs vs = some xs ∧ PRs F ρ N ps xs
  | [], ps, h => by simp [cvps] at h; subst h; exact ⟨[], rfl, by simp⟩
  | v :: vs, ps, h => by
    unfold cvps at h
    split at h
    case h_2 => cases h
    rename_i x xs h1 h2
    cases h
    obtain ⟨y, g1, g2⟩ := cvp_rel h1
    obtain ⟨ys, g3, g4⟩ := cvps_rel h2
    exact ⟨y :: ys, by simp [cvs, g1, g3], by simp [g2, g4]⟩
end
theorem ofV_rel (v : V) : PR F ρ N (ofV v) v := by
  cases v <;> simp [ofV, PR, DC]
theorem ofVs_rel : ∀ vs : List V, PRs F ρ N (vs.map ofV) vs
  | [] => by simp
  | v :: vs => by simp only [List.map_cons, PRs_cons]; exact ⟨ofV_rel v, ofVs_rel vs⟩

variable {C : Ctx} {st st' : PSt} {fr : Fr} {h : H}
theorem pev_rel (hf : FP F ρ N st fr) {x : Operand} {p : PV} (hd : pev st x = some p) : ∃ v, ev C fr x = some v ∧ PR F ρ N p v := by
  cases x with
  | tmp t => simp only [pev, Option.some.injEq] at hd; subst hd; exact ⟨_, rfl, hf.slot t⟩
  | const v => exact cvp_rel hd
  | global g => simp [pev] at hd
  | func f => simp only [pev, Option.some.injEq] at hd; subst hd; exact ⟨_, rfl, by simp [PR]⟩
theorem pevs_rel (hf : FP F ρ N st fr) : ∀ {xs : List Operand} {ps : List PV}, pevs st xs = some ps → ∃ vs, evs C fr xs = some vs ∧ PRs F ρ N ps vs
  | [], ps, hd => by simp [pevs] at hd; subst hd; exact ⟨[], rfl, by simp⟩
  | x :: xs, ps, hd => by
    unfold pevs at hd
    split at hd
    case h_2 => cases hd
    rename_i v vs h1 h2
    cases hd
    obtain ⟨y, g1, g2⟩ := pev_rel (C := C) hf h1
    obtain ⟨ys, g3, g4⟩ := pevs_rel hf h2
    exact ⟨y :: ys, by simp [evs, g1, g3], by simp [g2, g4]⟩
/-- numbered values -/
inductive PRn (F : Fz) (ρ : Rho) (N : Nat) : List (Nat × PV) → List (Nat × V) → Prop
  | nil : PRn F ρ N [] []
  | cons {i : Nat} {p : PV} {v : V} {l : List (Nat × PV)} {l' : List (Nat × V)} : PR F ρ N p v → PRn F ρ N l l' → PRn F ρ N ((i, p) :: l) ((i, v) :: l')
theorem pevp_rel (hf : FP F ρ N st fr) : ∀ {xs : List (Nat × Operand)} {ps : List (Nat × PV)}, pevp st xs = some ps → ∃ vs, evp C fr xs = some vs ∧ PRn F ρ N ps vs
  | [], ps, hd => by simp [pevp] at hd; subst hd; exact ⟨[], rfl, .nil⟩
  | (i, x) :: xs, ps, hd => by
    unfold pevp at hd
    split at hd
    case h_2 => cases hd
    rename_i v vs h1 h2
    cases hd
    obtain ⟨y, g1, g2⟩ := pev_rel (C := C) hf h1
    obtain ⟨ys, g3, g4⟩ := pevp_rel hf h2
    exact ⟨(i, y) :: ys, by simp [evp, g1, g3], .cons g2 g4⟩

/-- states that stand for each other -/
structure Rel (B : Nat) (h0 : H0) (F : Fz) (ρ : Rho) (st : PSt) (fr : Fr) (h : H) : Prop where
  fp : FP F ρ st.nx st fr
  sr : SR B h0 F ρ st.nx st.ob h

/-- what an operation comes to, its conditions met -/
inductive PO.To : PO → PV → PSt → Prop
  | val {v : PV} {st : PSt} : PO.To (.val v st) v st
  | tt {a b : PO} {v : PV} {st : PSt} : PO.To a v st → PO.To (.ite true a b) v st
  | ff {a b : PO} {v : PV} {st : PSt} : PO.To b v st → PO.To (.ite false a b) v st
@[simp] theorem To_bad {v : PV} {s : PSt} : ¬ PO.To .bad v s := by intro h; cases h
@[simp] theorem To_val {v u : PV} {s t : PSt} : PO.To (.val v s) u t ↔ v = u ∧ s = t := by
  constructor
  · intro h; cases h; exact ⟨rfl, rfl⟩
  · rintro ⟨rfl, rfl⟩; exact .val
@[simp] theorem To_chk {c : Bool} {v u : PV} {s t : PSt} : PO.To (.chk c v s) u t ↔ c = true ∧ v = u ∧ s = t := by
  constructor
  · intro h; unfold PO.chk at h
    cases h with
    | tt h => cases h; exact ⟨rfl, rfl, rfl⟩
    | ff h => cases h
  · rintro ⟨rfl, rfl, rfl⟩; exact .tt .val
@[simp] theorem To_ov {o : Option PV} {u : PV} {s t : PSt} : PO.To (ov s o) u t ↔ o = some u ∧ s = t := by
  cases o with
  | none => simp [ov]
  | some v => simp only [ov, To_val, Option.some.injEq]
@[simp] theorem To_ovc {c : Bool} {o : Option PV} {u : PV} {s t : PSt} : PO.To (ovc c s o) u t ↔ c = true ∧ o = some u ∧ s = t := by
  cases o with
  | none => simp [ovc]
  | some v => simp only [ovc, To_chk, Option.some.injEq]

/-- an operation of Det's comes to what is said; tch: the objects whose blocks it may change -/
def OK (B : Nat) (h0 : H0) (F : Fz) (ρ : Rho) (st : PSt) (h : H) (tch : List Nat) (d : Option OR) (v : PV) (st' : PSt) : Prop :=
  ∃ v' h' F' ρ', (d = some (.val v' h') ∨ (d = some (.skip h') ∧ v' = .tup [])) ∧ PR F' ρ' st'.nx v v' ∧ SR B h0 F' ρ' st'.nx st'.ob h' ∧ Le F ρ st.nx F' ρ' st'.nx ∧
    st'.fr = st.fr ∧ st'.n = st.n ∧ h.nx ≤ h'.nx ∧ ∀ b, b < h.nx → h'.get b = h.get b ∨ ∃ id ∈ tch, ∃ n, ρ id = some (b, n)
theorem OK.pure {tch : List Nat} (hr : SR B h0 F ρ st.nx st.ob h) {d : Option OR} {v : PV} {v' : V} (hd : d = some (.val v' h)) (hv : PR F ρ st.nx v v') : OK B h0 F ρ st h tch d v st :=
  ⟨v', h, F, ρ, .inl hd, hv, hr, Le.refl, rfl, rfl, Nat.le_refl _, fun _ _ => .inl rfl⟩

theorem ldrop' {α : Type} (n : Nat) (l : List α) : Det.ldrop n l = l.drop n := ldrop_eq n l
theorem rd_some {h : H} {b off n : Nat} {cs : List V} {t : TypeId} {fz : Nat × Nat} (hg : h.get b = some (.cells cs t fz)) (hl : off + n ≤ cs.length) : rd h b off n = some ((cs.drop off).take n) := by
  rw [rd_eq]; unfold rd0; rw [hg]; simp only; rw [if_pos hl]

/-- the value in cells -/
theorem pick_rel {d : TypeDesc} {n : Nat} {ps : List PV} {cs : List V} (hp : PRs F ρ N ps cs) {p : PV} (hd : pick d n ps = some p) :
    (isAggD d = true ∧ 0 < n ∧ n ≤ cs.length ∧ PR F ρ N p (.agg (cs.take n))) ∨ (isAggD d = false ∧ ∃ v vs, cs = v :: vs ∧ PR F ρ N p v) := by
  unfold pick at hd
  cases ha : isAggD d with
  | true =>
    left
    simp only [ha, cond_true] at hd
    rw [llen_eq, ltake_eq] at hd
    cases hb : (Nat.ble n ps.length && Nat.blt 0 n) with
    | false => rw [hb] at hd; cases hd
    | true =>
      rw [hb] at hd
      simp only [cond_true, Option.some.injEq] at hd
      subst hd
      simp only [Bool.and_eq_true] at hb
      obtain ⟨hb, hb2⟩ := hb
      refine ⟨rfl, Nat.le_of_ble_eq_true hb2, by rw [← hp.len]; exact Nat.le_of_ble_eq_true hb, ?_⟩
      simp only [PR]; exact ⟨_, rfl, hp.take n⟩
  | false =>
    right
    simp only [ha, cond_false] at hd
    cases ps with
    | nil => cases hd
    | cons q qs =>
      cases hd
      simp only [PRs] at hp
      obtain ⟨v, vs, rfl, h1, _⟩ := hp
      exact ⟨rfl, v, vs, rfl, h1⟩

/-- flat data in its cells -/
theorem flat_rel : ∀ {s : Sh} {x : s.T} {cs : List V}, DC F s x cs → PRs F ρ N (flat s x) cs
  | .pair a b, (x, y), cs, h => by
    simp only [DC] at h
    obtain ⟨c, d, rfl, h1, h2⟩ := h
    exact (flat_rel h1).append (flat_rel h2)
  | .unit, _, cs, h => by simp only [DC] at h; subst h; simp [flat]
  | .int k, x, cs, h => by simp only [DC] at h; subst h; simp only [flat, PRs_cons, PRs_nil, and_true]; simp [PR, DC]
  | .bool, x, cs, h => by simp only [DC] at h; subst h; simp only [flat, PRs_cons, PRs_nil, and_true]; simp [PR, DC]
  | .str, x, cs, h => by simp only [DC] at h; subst h; simp only [flat, PRs_cons, PRs_nil, and_true]; simp [PR, DC]
  | .list s, x, cs, h => by
    have h' := h
    simp only [DC] at h
    obtain ⟨v, rfl, _⟩ := h
    simp only [flat, PRs_cons, PRs_nil, and_true, PR]
    exact h'
theorem drop_add {α : Type} (l : List α) (a b : Nat) : l.drop (a + b) = (l.drop a).drop b := by rw [List.drop_drop]

theorem load_core {T : Tab} {t : TypeId} {d : TypeDesc} {i : TI} (hd : T.und t = some d) (hi : T.inf t = some i) {b off : Nat} {cs : List V} {te : TypeId} {fz : Nat × Nat} (hg : h.get b = some (.cells cs te fz))
    {m : Nat} {ps : List PV} (hp : PRs F ρ N ps ((cs.drop off).take m)) {p : PV} (hpk : pick d i.size ps = some p) : ∃ v, dload T h t (.ptr b off) = some v ∧ PR F ρ N p v := by
  unfold dload
  simp only [hd, hi]
  have hlen : ((cs.drop off).take m).length ≤ cs.length - off := by simp; omega
  have hoff : off ≤ cs.length := by
    have : 0 < ((cs.drop off).take m).length := by
      rcases pick_rel hp hpk with ⟨_, h0, hn, _⟩ | ⟨_, v, vs, e, _⟩
      · omega
      · rw [e]; simp
    simp at this; omega
  rcases pick_rel hp hpk with ⟨ha, _, hn, hv⟩ | ⟨ha, v, vs, hcs, hv⟩
  · simp only [ha, cond_true]
    rw [rd_some hg (by omega)]
    refine ⟨_, rfl, ?_⟩
    have : (cs.drop off).take i.size = ((cs.drop off).take m).take i.size := by
      rw [List.take_take]
      have : i.size ≤ m := by
        have := hn; simp at this; omega
      rw [Nat.min_eq_left this]
    rw [this]; exact hv
  · simp only [ha, cond_false]
    have h1 : off + 1 ≤ cs.length := by
      have : ((cs.drop off).take m).length = vs.length + 1 := by rw [hcs]; rfl
      omega
    rw [rd_some hg h1]
    have h2 : (cs.drop off).take 1 = [v] := by
      have : m ≠ 0 := by rintro rfl; simp at hcs
      obtain ⟨k, rfl⟩ := Nat.exists_eq_succ_of_ne_zero this
      cases hc : cs.drop off with
      | nil => rw [hc] at hcs; simp at hcs
      | cons a as => rw [hc] at hcs; simp only [List.take_succ_cons, List.cons.injEq] at hcs; simp [hcs.1]
    rw [h2]
    exact ⟨v, rfl, hv⟩
end
end Go.Pe
end
section
/- What the evaluator for unknown inputs says of operations is what Det does: loads, stores, numbers. -/
namespace Go.Pe
open Go.Det
section
variable {B : Nat} {h0 : H0} {F : Fz} {ρ : Rho} {N : Nat} {C : Ctx} {st st' : PSt} {fr : Fr} {h : H}

theorem SR.at (hr : SR B h0 F ρ N st.ob h) {id : Nat} {o : Obj} (ho : st.obj id = some o) : ∃ b n x, ρ id = some (b, n) ∧ h.get b = some x ∧ ObR F ρ N n o x ∧ (o.frozen = false → F b = none) ∧
    (o.frozen = true → ∃ cs t fz, x = .cells cs t fz ∧ F b = some cs) := hr.obj id o ho

theorem s_load (hr : SR B h0 F ρ st.nx st.ob h) {t : TypeId} {p : PV} {a : V} (ha : PR F ρ st.nx p a) {v : PV} (ht : (pload C.T st t p).To v st') :
    OK B h0 F ρ st h [] (okv h (dload C.T h t a)) v st' := by
  unfold pload at ht
  split at ht
  case h_2 => simp at ht
  rename_i d i hd hi
  split at ht
  case h_4 => simp at ht
  case h_1 =>
    rename_i id off
    split at ht
    case h_2 => simp at ht
    rename_i ps ho
    simp only [To_ov] at ht
    obtain ⟨hpk, rfl⟩ := ht
    obtain ⟨b, n, x, h1, h2, ⟨cs, te, fz, rfl, h4, _⟩, _⟩ := hr.at ho
    simp only [PR] at ha
    obtain rfl := ha.2 b n h1
    rw [ldrop'] at hpk
    obtain ⟨v', g1, g2⟩ := load_core (h := h) hd hi h2 (m := cs.length) (by rw [List.take_of_length_le (by simp)]; exact h4.drop off) hpk
    exact OK.pure hr (by rw [g1]; rfl) g2
  case h_2 =>
    rename_i id sz j off
    split at ht
    case h_2 => simp at ht
    rename_i fzb e s l ho
    cases hsz : Nat.beq sz s.sz with
    | false => rw [hsz] at ht; simp at ht
    | true =>
      rw [hsz] at ht
      simp only [cond_true, To_ovc, decide_eq_true_eq] at ht
      obtain ⟨hj, hpk, rfl⟩ := ht
      have hsz := Nat.eq_of_beq_eq_true hsz
      subst hsz
      obtain ⟨b, n, x, h1, h2, ⟨cs, fz, rfl, h4, _⟩, _⟩ := hr.at ho
      simp only [PR] at ha
      obtain rfl := ha.2 b n h1
      have hdc := h4.2 j hj
      rw [show l.getD j s.dflt = l[j] from by simp [hj], ldrop'] at hpk
      have hp : PRs F ρ st.nx ((flat s l[j]).drop off) ((cs.drop (j * s.sz + off)).take (s.sz - off)) := by
        have := (flat_rel (F := F) (ρ := ρ) (N := st.nx) hdc).drop off
        rw [drop_add, ← List.drop_take] at *
        exact this
      obtain ⟨v', g1, g2⟩ := load_core (h := h) hd hi h2 hp hpk
      exact OK.pure hr (by rw [g1]; rfl) g2
  case h_3 =>
    rename_i s x off
    simp only [To_ov] at ht
    obtain ⟨hpk, rfl⟩ := ht
    simp only [PR] at ha
    obtain ⟨b, o, cs, rfl, h1, h2, h3⟩ := ha
    obtain ⟨te, fz, h4⟩ := hr.frz b cs h1
    rw [ldrop'] at hpk
    have hp : PRs F ρ st.nx ((flat s x).drop off) ((cs.drop (o + off)).take (s.sz - off)) := by
      have := (flat_rel (F := F) (ρ := ρ) (N := st.nx) h3).drop off
      rw [drop_add, ← List.drop_take] at *
      exact this
    obtain ⟨v', g1, g2⟩ := load_core (h := h) hd hi h4 hp hpk
    exact OK.pure hr (by rw [g1]; rfl) g2

theorem DC.ones : ∀ {s : Sh} {x : s.T} {cs : List V}, DC F s x cs → ∀ v ∈ cs, v.one = true
  | .int _, _, _, h => by simp only [DC] at h; subst h; intro v hv; rw [List.mem_singleton.1 hv]; rfl
  | .bool, _, _, h => by simp only [DC] at h; subst h; intro v hv; rw [List.mem_singleton.1 hv]; rfl
  | .str, _, _, h => by simp only [DC] at h; subst h; intro v hv; rw [List.mem_singleton.1 hv]; rfl
  | .list s, l, _, h => by
    simp only [DC] at h
    obtain ⟨u, rfl, h⟩ := h
    intro v hv; rw [List.mem_singleton.1 hv]
    rcases h with ⟨_, rfl | rfl⟩ | ⟨b, off, cap, o, bs, rfl, _⟩ <;> rfl
  | .pair a b, x, _, h => by
    simp only [DC] at h
    obtain ⟨c, d, rfl, h1, h2⟩ := h
    intro v hv
    rcases List.mem_append.1 hv with hv | hv
    · exact h1.ones v hv
    · exact h2.ones v hv
  | .unit, _, _, h => by simp only [DC] at h; subst h; intro v hv; cases hv
theorem isS_some {o : Option Obj} (h : isS o = true) : ∃ x, o = some x := by cases o with | none => cases h | some x => exact ⟨x, rfl⟩
theorem solid_one (hr : SR B h0 F ρ st.nx st.ob h) {p : PV} {v : V} (hs : solid st p = true) (hp : PR F ρ st.nx p v) : v.one = true := by
  have key : ∀ {id : Nat}, isS (st.obj id) = true → ∃ b n, ρ id = some (b, n) := by
    intro id hi
    obtain ⟨o, ho⟩ := isS_some hi
    obtain ⟨b, n, _, h1, _⟩ := hr.at ho
    exact ⟨b, n, h1⟩
  cases p <;> simp only [solid] at hs <;> simp only [PR] at hp <;> try (cases hs; done)
  case bl => subst hp; rfl
  case dat => exact hp.ones v (List.mem_singleton.2 rfl)
  case nil | nilp | nilm | nilf | nili => subst hp; rfl
  case ptr => obtain ⟨b, n, h1⟩ := key hs; rw [hp.2 b n h1]; rfl
  case eptr => obtain ⟨b, n, h1⟩ := key hs; rw [hp.2 b n h1]; rfl
  case dptr => obtain ⟨b, o, cs, rfl, _⟩ := hp; rfl
  case sl =>
    obtain ⟨b, n, h1⟩ := key hs
    rcases hp.2 b n h1 with ⟨_, _, o, _, rfl⟩ | ⟨_, _, _, rfl | ⟨_, rfl, _⟩⟩ <;> rfl
  case mp => obtain ⟨b, n, h1⟩ := key hs; rw [hp.2 b n h1]; rfl
  case fn => obtain ⟨a, b, rfl, _⟩ := hp; rfl
theorem one_cells {v : V} (h : v.one = true) : v.cells = [v] := by cases v <;> first | rfl | cases h
theorem pcs_rel (hr : SR B h0 F ρ st.nx st.ob h) {p : PV} {v : V} {ps : List PV} (hp : PR F ρ st.nx p v) (hd : pcs st p = some ps) : PRs F ρ st.nx ps v.cells := by
  unfold pcs at hd
  split at hd
  · cases hd
    simp only [PR] at hp
    obtain ⟨cs, rfl, h1⟩ := hp
    exact h1
  · rename_i q hq
    cases hs : solid st p with
    | false => rw [hs] at hd; cases hd
    | true =>
      rw [hs] at hd; cases hd
      rw [one_cells (solid_one hr hs hp)]
      simpa using hp
theorem solids_one (hr : SR B h0 F ρ st.nx st.ob h) : ∀ {ps : List PV} {vs : List V}, ps.all (solid st) = true → PRs F ρ st.nx ps vs → vs.all V.one = true
  | [], vs, _, h => by simp at h; subst h; rfl
  | p :: ps, vs, ha, h => by
    simp only [PRs] at h
    obtain ⟨v, vs, rfl, h1, h2⟩ := h
    simp only [List.all_cons, Bool.and_eq_true] at ha ⊢
    exact ⟨solid_one hr ha.1 h1, solids_one hr ha.2 h2⟩
theorem PRs.lover : ∀ {a : List PV} {x : List V} {b : List PV} {y : List V}, PRs F ρ N a x → PRs F ρ N b y → PRs F ρ N (lover a b) (lover x y)
  | [], x, b, y, h, h' => by simp at h; subst h; exact h'
  | p :: ps, x, b, y, h, h' => by
    simp only [PRs] at h
    obtain ⟨v, vs, rfl, h1, h2⟩ := h
    cases b with
    | nil => simp at h'; subst h'; show PRs F ρ N [] []; simp
    | cons q qs =>
      simp only [PRs] at h'
      obtain ⟨u, us, rfl, g1, g2⟩ := h'
      show PRs F ρ N (p :: Det.lover ps qs) (v :: Det.lover vs us)
      simp only [PRs_cons]
      exact ⟨h1, h2.lover g2⟩
theorem PRs.lput {a : List PV} {x : List V} (ha : PRs F ρ N a x) : ∀ (n : Nat) {b : List PV} {y : List V}, PRs F ρ N b y → PRs F ρ N (lput n a b) (lput n x y)
  | 0, b, y, h => ha.lover h
  | n + 1, [], y, h => by simp at h; subst h; show PRs F ρ N [] []; simp
  | n + 1, q :: qs, y, h => by
    simp only [PRs] at h
    obtain ⟨u, us, rfl, g1, g2⟩ := h
    show PRs F ρ N (q :: Det.lput n a qs) (u :: Det.lput n x us)
    simp only [PRs_cons]
    exact ⟨g1, PRs.lput ha n g2⟩
/-- objects by number -/
theorem obGet_set : ∀ (l : Ob) (i : Nat) (x : Obj) (j : Nat), (obGet l i).isSome = true → obGet (obSet l i x) j = if j = i then some x else obGet l j
  | [], i, x, j, h => by cases h
  | (a, o) :: l, i, x, j, h => by
    simp only [obSet, obGet, beq_t] at h ⊢
    by_cases e : a = i
    · subst e
      simp only [decide_true, cond_true, obGet, beq_t]
      by_cases e2 : a = j
      · subst e2; simp
      · rw [if_neg (fun h => e2 h.symm)]; simp [e2]
    · simp only [e, decide_false, cond_false] at h ⊢
      simp only [obGet, beq_t]
      by_cases e2 : a = j
      · subst e2; simp [e]
      · simp only [e2, decide_false, cond_false]
        exact obGet_set l i x j h
theorem wr_ok {b off : Nat} {vs cs : List V} {t : TypeId} {fz : Nat × Nat} (hg : h.get b = some (.cells cs t fz)) (hl : off + vs.length ≤ cs.length) (hfz : fz.2 ≤ fz.1) (ho : vs.all V.one = true) :
    wr h b off vs = some (h.put b (.cells (lput off vs cs) t fz)) := by
  unfold wr
  simp only [hg, llen_eq, lall_eq, ho]
  have h1 : Nat.ble (Nat.add off vs.length) cs.length = true := Nat.ble_eq_true_of_le hl
  have h2 : Det.clear fz off vs.length = true := by
    unfold Det.clear
    rw [show Nat.ble fz.2 fz.1 = true from Nat.ble_eq_true_of_le hfz, Bool.or_true]
  rw [h1, h2]; rfl

/-- a live object gets new contents -/
theorem SR.set (hr : SR B h0 F ρ st.nx st.ob h) {id b n : Nat} {o o' : Obj} {x x' : O} (ho : st.obj id = some o) (hb : ρ id = some (b, n)) (hg : h.get b = some x) (hf : o.frozen = false) (hf' : o'.frozen = false)
    (hx : ObR F ρ st.nx n o' x') : SR B h0 F ρ st.nx (obSet st.ob id o') (h.put b x') := by
  have hob : obGet st.ob id = some o := ho
  have hFb : F b = none := by
    obtain ⟨b', n', _, h1, _, _, h2, _⟩ := hr.at ho
    rw [hb] at h1; cases h1; exact h2 hf
  have hset : ∀ j, obGet (obSet st.ob id o') j = if j = id then some o' else obGet st.ob j := fun j => obGet_set _ _ _ _ (by rw [hob]; rfl)
  refine ⟨fun j oj hj => ?_, fun i j oi oj c m m' hi hj h1 h2 => ?_, fun c cs hc => ?_, hr.own, fun j hj => ?_, fun c hc => ?_, fun c oc hc => ?_, hr.le, hr.fo⟩
  · rw [hset] at hj
    by_cases e : j = id
    · subst e
      simp only [if_true, Option.some.injEq] at hj; subst hj
      exact ⟨b, n, x', hb, by simp, hx, fun _ => hFb, fun e => by rw [hf'] at e; cases e⟩
    · rw [if_neg e] at hj
      obtain ⟨c, m, y, h1, h2, h3, h4, h5⟩ := hr.obj j oj hj
      have hne : c ≠ b := fun ec => e (hr.inj j id oj o c m n hj hob h1 (ec ▸ hb))
      exact ⟨c, m, y, h1, by rw [H.get_put, if_neg hne]; exact h2, h3, h4, h5⟩
  · have get' : ∀ k ok, obGet (obSet st.ob id o') k = some ok → ∃ o2, obGet st.ob k = some o2 := by
      intro k ok hk
      rw [hset] at hk
      by_cases e : k = id
      · exact ⟨o, e ▸ hob⟩
      · rw [if_neg e] at hk; exact ⟨ok, hk⟩
    obtain ⟨_, g1⟩ := get' i oi hi
    obtain ⟨_, g2⟩ := get' j oj hj
    exact hr.inj i j _ _ c m m' g1 g2 h1 h2
  · have hne : c ≠ b := fun e => by rw [e, hFb] at hc; cases hc
    rw [H.get_put, if_neg hne]; exact hr.frz c cs hc
  · rw [hset] at hj
    by_cases e : j = id
    · rw [if_pos e] at hj; cases hj
    · rw [if_neg e] at hj; exact hr.dead j hj
  · have hne : c ≠ b := fun e => by have := (hr.own id b n hb).2; omega
    rw [H.get_put, if_neg hne]; exact hr.old c hc
  · rw [H.get_put] at hc
    by_cases e : c = b
    · subst e; exact hr.lt _ _ hg
    · rw [if_neg e] at hc; exact hr.lt c oc hc
end
end Go.Pe
end
section
/- What the evaluator for unknown inputs says of operations is what Det does: stores, new objects, numbers, texts. -/
namespace Go.Pe
open Go.Det
section
variable {B : Nat} {h0 : H0} {F : Fz} {ρ : Rho} {N : Nat} {C : Ctx} {st st' : PSt} {fr : Fr} {h : H}

def setR (ρ : Rho) (i : Nat) (x : Option (Nat × Nat)) : Rho := fun j => if j = i then x else ρ j
theorem Le.setNone (i : Nat) : Le F ρ N F (setR ρ i none) N := ⟨fun _ _ h => h, fun id _ => by unfold setR; split <;> simp_all, Nat.le_refl _⟩
theorem Le.new (x : Nat × Nat) : Le F ρ N F (setR ρ N (some x)) (N + 1) := ⟨fun _ _ h => h, fun id h => by unfold setR; rw [if_neg (by omega)]; exact .inl rfl, Nat.le_succ _⟩

/-- a new object in a new block -/
theorem SR.push {ob : Ob} (hr : SR B h0 F ρ N ob h) {o : Obj} {x : O} {n : Nat} (hf : o.frozen = false) (hx : ObR F (setR ρ N (some (h.nx, n))) (N + 1) n o x) :
    SR B h0 F (setR ρ N (some (h.nx, n))) (N + 1) ((N, o) :: ob) (h.push x) := by
  have hl : Le F ρ N F (setR ρ N (some (h.nx, n))) (N + 1) := Le.new _
  have hget : ∀ j, obGet ((N, o) :: ob) j = if j = N then some o else obGet ob j := by
    intro j
    simp only [obGet, beq_t]
    by_cases e : N = j
    · subst e; simp
    · rw [if_neg (fun h => e h.symm)]; simp [e]
  have hlt : ∀ id b m, ρ id = some (b, m) → id < N := fun id b m hb => (hr.own id b m hb).1
  have hnew : ∀ b y, h.get b = some y → b ≠ h.nx := fun b y hb => by have := hr.lt b y hb; omega
  refine ⟨fun j oj hj => ?_, fun i j oi oj c m m' hi hj h1 h2 => ?_, fun c cs hc => ?_, fun id b m hb => ?_, fun j hj => ?_, fun c hc => ?_, fun c oc hc => ?_, ?_, ?_⟩
  · rw [hget] at hj
    by_cases e : j = N
    · subst e
      simp only [if_true, Option.some.injEq] at hj; subst hj
      refine ⟨h.nx, n, x, by simp [setR], by simp, hx, fun _ => ?_, fun e => by rw [hf] at e; cases e⟩
      cases hc : F h.nx with
      | none => rfl
      | some cs =>
        obtain ⟨t, fz, hg⟩ := hr.frz _ _ hc
        exact absurd rfl (hnew _ _ hg)
    · rw [if_neg e] at hj
      obtain ⟨c, m, y, h1, h2, h3, h4, h5⟩ := hr.obj j oj hj
      exact ⟨c, m, y, by simp [setR, e, h1], by rw [H.get_push, if_neg (hnew c y h2)]; exact h2, h3.mono hl, h4, h5⟩
  · rw [hget] at hi hj
    have key : ∀ k ok m, (if k = N then some o else obGet ob k) = some ok → setR ρ N (some (h.nx, n)) k = some (c, m) → (k = N ∧ c = h.nx) ∨ (k ≠ N ∧ obGet ob k = some ok ∧ ρ k = some (c, m) ∧ c ≠ h.nx) := by
      intro k ok m hk hr'
      by_cases e : k = N
      · subst e; simp [setR] at hr'; exact .inl ⟨rfl, hr'.1.symm⟩
      · rw [if_neg e] at hk
        simp only [setR, e, if_false] at hr'
        obtain ⟨c', m', y, g1, g2, _⟩ := hr.obj k ok hk
        rw [hr'] at g1; cases g1
        exact .inr ⟨e, hk, hr', hnew c y g2⟩
    rcases key i oi m hi h1 with ⟨e1, e2⟩ | ⟨e1, e2, e3, e4⟩ <;> rcases key j oj m' hj h2 with ⟨f1, f2⟩ | ⟨f1, f2, f3, f4⟩
    · rw [e1, f1]
    · exact absurd e2 f4
    · exact absurd f2 e4
    · exact hr.inj i j oi oj c m m' e2 f2 e3 f3
  · obtain ⟨t, fz, hg⟩ := hr.frz c cs hc
    exact ⟨t, fz, by rw [H.get_push, if_neg (hnew c _ hg)]; exact hg⟩
  · unfold setR at hb
    split at hb
    · rename_i e; cases hb; subst e; exact ⟨Nat.lt_succ_self _, hr.le⟩
    · have := hr.own id b m hb; exact ⟨by omega, this.2⟩
  · rw [hget] at hj
    by_cases e : j = N
    · rw [if_pos e] at hj; cases hj
    · rw [if_neg e] at hj; simp [setR, e, hr.dead j hj]
  · have := hr.le
    rw [H.get_push, if_neg (by omega)]; exact hr.old c hc
  · rw [H.get_push] at hc
    by_cases e : c = h.nx
    · subst e; exact Nat.lt_succ_self _
    · rw [if_neg e] at hc; have := hr.lt c oc hc; show c < h.nx + 1; omega
  · have := hr.le; show B ≤ h.nx + 1; omega
  · exact hr.fo
theorem obGet_del : ∀ (l : Ob) (i j : Nat), obGet (obDel l i) j = if j = i then none else obGet l j
  | [], i, j => by simp [obDel, obGet]
  | (a, o) :: l, i, j => by
    simp only [obDel, beq_t]
    by_cases e : a = i
    · subst e
      simp only [decide_true, cond_true]
      rw [obGet_del l a j]
      simp only [obGet, beq_t]
      by_cases e2 : j = a
      · simp [e2]
      · rw [if_neg e2]
        have e3 : ¬ a = j := fun h => e2 h.symm
        simp [e3, e2]
    · simp only [e, decide_false, cond_false, obGet, beq_t]
      rw [obGet_del l i j]
      by_cases e2 : a = j
      · subst e2; simp [e]
      · simp [e2]
/-- an object is given up -/
theorem SR.del {ob : Ob} (hr : SR B h0 F ρ N ob h) (id : Nat) : SR B h0 F (setR ρ id none) N (obDel ob id) h := by
  have hl : Le F ρ N F (setR ρ id none) N := Le.setNone id
  refine ⟨fun j oj hj => ?_, fun i j oi oj c m m' hi hj h1 h2 => ?_, hr.frz, fun j b m hb => ?_, fun j hj => ?_, hr.old, hr.lt, hr.le, hr.fo⟩
  · rw [obGet_del] at hj
    split at hj
    · cases hj
    · rename_i e
      obtain ⟨c, m, y, h1, h2, h3, h4⟩ := hr.obj j oj hj
      exact ⟨c, m, y, by simp [setR, e, h1], h2, h3.mono hl, h4⟩
  · rw [obGet_del] at hi hj
    split at hi
    · cases hi
    split at hj
    · cases hj
    rename_i e1 e2
    simp only [setR, e1, e2, if_false] at h1 h2
    exact hr.inj i j oi oj c m m' hi hj h1 h2
  · unfold setR at hb
    split at hb
    · cases hb
    · exact hr.own j b m hb
  · rw [obGet_del] at hj
    unfold setR
    split
    · rfl
    · rename_i e; rw [if_neg e] at hj; exact hr.dead j hj
/-- a block that no object has, nor a frozen slice, is given up -/
theorem SR.kill {ob : Ob} (hr : SR B h0 F ρ N ob h) {b : Nat} (h1 : ∀ id o n, obGet ob id = some o → ρ id ≠ some (b, n)) (h2 : F b = none) (h3 : B ≤ b) : SR B h0 F ρ N ob (h.kill b) := by
  refine ⟨fun j oj hj => ?_, hr.inj, fun c cs hc => ?_, hr.own, hr.dead, fun c hc => ?_, fun c oc hc => ?_, hr.le, hr.fo⟩
  · obtain ⟨c, m, y, g1, g2, g3⟩ := hr.obj j oj hj
    have : c ≠ b := fun e => h1 j oj m hj (e ▸ g1)
    exact ⟨c, m, y, g1, by rw [H.get_kill, if_neg this]; exact g2, g3⟩
  · have : c ≠ b := fun e => by rw [e, h2] at hc; cases hc
    rw [H.get_kill, if_neg this]; exact hr.frz c cs hc
  · have : c ≠ b := by omega
    rw [H.get_kill, if_neg this]; exact hr.old c hc
  · rw [H.get_kill] at hc
    split at hc
    · cases hc
    · exact hr.lt c oc hc

/-! from flat cells to data -/
theorem castD_eq {s s' : Sh} {x : s.T} {y : s'.T} (h : castD s s' x = some y) : ∃ e : s = s', e ▸ x = y := by
  unfold castD at h
  split at h
  · rename_i e; cases h; exact ⟨e, rfl⟩
  · cases h
theorem asD_rel {s : Sh} {p : PV} {x : s.T} {v : V} (hp : PR F ρ N p v) (hd : asD s p = some x) : DC F s x [v] := by
  unfold asD at hd
  split at hd
  · obtain ⟨rfl, rfl⟩ := castD_eq hd
    simpa only [PR] using hp
  · obtain ⟨rfl, rfl⟩ := castD_eq hd
    simp only [PR] at hp; subst hp
    simp [DC]
  · split at hd
    · cases hd
      simp only [PR] at hp; subst hp
      simp [DC]
    · cases hd
  · cases hd
theorem unflat_rel : ∀ {s : Sh} {ps : List PV} {vs : List V} {x : s.T} {rest : List PV}, PRs F ρ N ps vs → unflat s ps = some (x, rest) → ∃ a b, vs = a ++ b ∧ DC F s x a ∧ PRs F ρ N rest b
  | .pair s t, ps, vs, x, rest, hp, hd => by
    unfold unflat at hd
    split at hd
    case h_2 => cases hd
    rename_i y l1 h1
    split at hd
    case h_2 => cases hd
    rename_i z l2 h2
    cases hd
    obtain ⟨a, b, rfl, g1, g2⟩ := unflat_rel hp h1
    obtain ⟨c, d, rfl, g3, g4⟩ := unflat_rel g2 h2
    exact ⟨a ++ c, d, by simp, by simp only [DC]; exact ⟨a, c, rfl, g1, g3⟩, g4⟩
  | .unit, ps, vs, x, rest, hp, hd => by
    unfold unflat at hd
    cases hd
    exact ⟨[], vs, rfl, by simp [DC], hp⟩
  | .int k, [], vs, x, rest, hp, hd => by simp [unflat] at hd
  | .bool, [], vs, x, rest, hp, hd => by simp [unflat] at hd
  | .str, [], vs, x, rest, hp, hd => by simp [unflat] at hd
  | .list s, [], vs, x, rest, hp, hd => by simp [unflat] at hd
  | .int k, p :: ps, vs, x, rest, hp, hd => by
    simp only [PRs] at hp
    obtain ⟨v, vs, rfl, h1, h2⟩ := hp
    simp only [unflat] at hd
    split at hd
    · rename_i y hy; cases hd; exact ⟨[v], vs, rfl, asD_rel h1 hy, h2⟩
    · cases hd
  | .bool, p :: ps, vs, x, rest, hp, hd => by
    simp only [PRs] at hp
    obtain ⟨v, vs, rfl, h1, h2⟩ := hp
    simp only [unflat] at hd
    split at hd
    · rename_i y hy; cases hd; exact ⟨[v], vs, rfl, asD_rel h1 hy, h2⟩
    · cases hd
  | .str, p :: ps, vs, x, rest, hp, hd => by
    simp only [PRs] at hp
    obtain ⟨v, vs, rfl, h1, h2⟩ := hp
    simp only [unflat] at hd
    split at hd
    · rename_i y hy; cases hd; exact ⟨[v], vs, rfl, asD_rel h1 hy, h2⟩
    · cases hd
  | .list s, p :: ps, vs, x, rest, hp, hd => by
    simp only [PRs] at hp
    obtain ⟨v, vs, rfl, h1, h2⟩ := hp
    simp only [unflat] at hd
    split at hd
    · rename_i y hy; cases hd; exact ⟨[v], vs, rfl, asD_rel h1 hy, h2⟩
    · cases hd
theorem unflat1_rel {s : Sh} {ps : List PV} {vs : List V} {x : s.T} (hp : PRs F ρ N ps vs) (hd : unflat1 s ps = some x) : DC F s x vs := by
  unfold unflat1 at hd
  split at hd
  · rename_i y hy
    cases hd
    obtain ⟨a, b, rfl, h1, h2⟩ := unflat_rel hp hy
    simp at h2; subst h2
    simpa using h1
  · cases hd
end
end Go.Pe
end
section
/- What the evaluator for unknown inputs says of operations is what Det does: stores, numbers, texts. -/
namespace Go.Pe
open Go.Det
section
variable {B : Nat} {h0 : H0} {F : Fz} {ρ : Rho} {N : Nat} {C : Ctx} {st st' : PSt} {fr : Fr} {h : H}

theorem lput_get {cs vs : List V} {off : Nat} (hl : off + vs.length ≤ cs.length) (j : Nat) : (lput off vs cs)[j]? = if off ≤ j ∧ j < off + vs.length then vs[j - off]? else cs[j]? := by
  rw [lput_eq]; exact lset_get vs cs off j hl
theorem lput_len {cs vs : List V} {off : Nat} : (lput off vs cs).length = cs.length := by
  rw [lput_eq]; exact lset_length vs cs off
/-- the part of the cells that holds what is written -/
theorem seg_in {cs vs : List V} {m off k : Nat} (hk : off + vs.length ≤ k) (hl : m + k ≤ cs.length) : ((lput (m + off) vs cs).drop m).take k = lput off vs ((cs.drop m).take k) := by
  apply List.ext_getElem?
  intro j
  rw [lput_get (by simp; omega)]
  by_cases hj : j < k
  · rw [List.getElem?_take_of_lt hj, List.getElem?_drop, lput_get (by omega)]
    by_cases hc : off ≤ j ∧ j < off + vs.length
    · rw [if_pos hc, if_pos (by omega)]
      congr 1; omega
    · rw [if_neg hc, if_neg (by omega), List.getElem?_take_of_lt hj, List.getElem?_drop]
  · rw [if_neg (by omega), List.getElem?_eq_none (by simp; omega), List.getElem?_eq_none (by simp; omega)]
/-- a part that is not written -/
theorem seg_out {cs vs : List V} {m p k : Nat} (hd : p + vs.length ≤ m ∨ m + k ≤ p) (hl : p + vs.length ≤ cs.length) : ((lput p vs cs).drop m).take k = (cs.drop m).take k := by
  apply List.ext_getElem?
  intro j
  by_cases hj : j < k
  · rw [List.getElem?_take_of_lt hj, List.getElem?_take_of_lt hj, List.getElem?_drop, List.getElem?_drop, lput_get hl, if_neg (by omega)]
  · rw [List.getElem?_eq_none (by simp; omega), List.getElem?_eq_none (by simp; omega)]
theorem DCL.set {s : Sh} {l : List s.T} {cs vs : List V} {j off : Nat} {y : s.T} (hd : DCL F s l cs) (hj : j < l.length) (hoff : off + vs.length ≤ s.sz) (hy : DC F s y (lput off vs ((cs.drop (j * s.sz)).take s.sz))) :
    DCL F s (l.set j y) (lput (j * s.sz + off) vs cs) := by
  have hb : j * s.sz + s.sz ≤ cs.length := by
    rw [hd.1, ← Nat.succ_mul]; exact Nat.mul_le_mul_right _ hj
  refine ⟨by rw [lput_len, List.length_set]; exact hd.1, fun i hi => ?_⟩
  have hi' : i < l.length := by simpa using hi
  by_cases e : i = j
  · subst e
    rw [seg_in hoff hb, List.getElem_set_self]; exact hy
  · rw [List.getElem_set_ne (fun h => e h.symm), seg_out ?_ (by omega)]
    · exact hd.2 i hi'
    · rcases Nat.lt_or_gt_of_ne e with h1 | h1
      · right
        have : (i + 1) * s.sz ≤ j * s.sz := Nat.mul_le_mul_right _ h1
        rw [Nat.succ_mul] at this; omega
      · left
        have : (j + 1) * s.sz ≤ i * s.sz := Nat.mul_le_mul_right _ h1
        rw [Nat.succ_mul] at this; omega

theorem s_store (hr : SR B h0 F ρ st.nx st.ob h) {t : TypeId} {p q : PV} {a x : V} (ha : PR F ρ st.nx p a) (hx : PR F ρ st.nx q x) {v : PV} (ht : (pstore C.T st t p q).To v st') :
    ∃ id, ((∃ off, p = .ptr id off) ∨ ∃ sz j off, p = .eptr id sz j off) ∧ OK B h0 F ρ st h [id] (oks (dstore C.T h t a x)) v st' := by
  unfold pstore at ht
  split at ht
  case h_2 => simp at ht
  rename_i i xs hi hxs
  cases hc : (Nat.beq (Det.llen xs) i.size && Det.lall (solid st) xs) with
  | false => rw [hc] at ht; simp at ht
  | true =>
    rw [hc] at ht
    simp only [Bool.and_eq_true] at hc
    obtain ⟨hc1, hc2⟩ := hc
    rw [llen_eq] at hc1
    rw [lall_eq] at hc2
    have hxs' := pcs_rel hr hx hxs
    have hlen : x.cells.length = i.size := by rw [← hxs'.len]; exact Nat.eq_of_beq_eq_true hc1
    have hone := solids_one hr hc2 hxs'
    have hb1 : Nat.beq x.cells.length i.size = true := by rw [hlen]; exact Nat.beq_refl _
    simp only [cond_true] at ht
    split at ht
    case h_3 => simp at ht
    case h_1 =>
      rename_i id off
      split at ht
      case h_2 => simp at ht
      rename_i ps ho
      cases hble : Nat.ble (Nat.add off i.size) (Det.llen ps) with
      | false => rw [hble] at ht; simp at ht
      | true =>
        rw [hble] at ht
        simp only [cond_true, To_val] at ht
        obtain ⟨rfl, rfl⟩ := ht
        obtain ⟨b, n, y, h1, h2, ⟨cs, te, fz, rfl, h4, h5⟩, hf, _⟩ := hr.at ho
        simp only [PR] at ha
        obtain rfl := ha.2 b n h1
        rw [llen_eq] at hble
        have hle : off + x.cells.length ≤ cs.length := by rw [← h4.len, hlen]; exact Nat.le_of_ble_eq_true hble
        refine ⟨id, .inl ⟨off, rfl⟩, .tup [], _, F, ρ, .inr ⟨?_, rfl⟩, by simp [PR], hr.set ho h1 h2 rfl rfl (o' := .box (Det.lput off xs ps)) ⟨_, te, fz, rfl, hxs'.lput off h4, h5⟩, Le.refl, rfl, rfl, Nat.le_refl _, fun c _ => ?_⟩
        · unfold dstore
          simp only [hi, hb1, cond_true]
          rw [wr_ok h2 hle h5 hone]; rfl
        · rw [H.get_put]
          by_cases e : c = b
          · exact .inr ⟨id, List.mem_singleton.2 rfl, n, e ▸ h1⟩
          · rw [if_neg e]; exact .inl rfl
    case h_2 =>
      rename_i id sz j off
      split at ht
      case h_2 => simp at ht
      rename_i e s l ho
      cases hcc : (Nat.beq sz s.sz && Nat.ble (Nat.add off i.size) sz) with
      | false => rw [hcc] at ht; simp at ht
      | true =>
        rw [hcc] at ht
        simp only [Bool.and_eq_true] at hcc
        have hsz := Nat.eq_of_beq_eq_true hcc.1
        have hoff := Nat.le_of_ble_eq_true hcc.2
        subst hsz
        simp only [cond_true] at ht
        split at ht
        case h_2 => simp at ht
        rename_i y hy
        simp only [To_chk, decide_eq_true_eq] at ht
        obtain ⟨hj, rfl, rfl⟩ := ht
        obtain ⟨b, n, z, h1, h2, ⟨cs, fz, rfl, h4, h5, h6⟩, hf, _⟩ := hr.at ho
        simp only [PR] at ha
        obtain rfl := ha.2 b n h1
        rw [show l.getD j s.dflt = l[j] from by simp [hj]] at hy
        have hfl := flat_rel (F := F) (ρ := ρ) (N := st.nx) (h4.2 j hj)
        have hdc := unflat1_rel (hxs'.lput off hfl) hy
        have hset := DCL.set h4 hj (by rw [hlen]; exact hoff) hdc
        have hle : j * s.sz + off + x.cells.length ≤ cs.length := by
          have : j * s.sz + s.sz ≤ cs.length := by rw [h4.1, ← Nat.succ_mul]; exact Nat.mul_le_mul_right _ hj
          have : off + i.size ≤ s.sz := hoff
          omega
        refine ⟨id, .inr ⟨_, _, _, rfl⟩, .tup [], _, F, ρ, .inr ⟨?_, rfl⟩, by simp [PR], hr.set ho h1 h2 rfl rfl (o' := .arr false e s (l.set j y)) ⟨_, fz, rfl, hset, h5, by simpa using h6⟩, Le.refl, rfl, rfl, Nat.le_refl _, fun c _ => ?_⟩
        · unfold dstore
          simp only [hi, hb1, cond_true]
          rw [wr_ok h2 hle h5 hone]; rfl
        · rw [H.get_put]
          by_cases e : c = b
          · exact .inr ⟨id, List.mem_singleton.2 rfl, n, e ▸ h1⟩
          · rw [if_neg e]; exact .inl rfl

/-! numbers, texts, truth values -/
theorem pr_int {k : IntKind} {n : Int} {v : V} (h : PR F ρ N (.dat (.int k) n) v) : v = .int k n := by simpa [PR, DC] using h
theorem pr_str {s : List UInt8} {v : V} (h : PR F ρ N (.dat .str s) v) : v = .str s := by simpa [PR, DC] using h
theorem pr_bool {b : Bool} {v : V} (h : PR F ρ N (.dat .bool b) v) : v = .bool b := by simpa [PR, DC] using h
theorem pr_bl {b : Bool} {v : V} (h : PR F ρ N (.bl b) v) : v = .bool b := by simpa [PR] using h
theorem mk_int (k : IntKind) (n : Int) : PR F ρ N (.dat (.int k) n) (.int k n) := by simp [PR, DC]
theorem mk_str (s : List UInt8) : PR F ρ N (.dat .str s) (.str s) := by simp [PR, DC]
theorem mk_bool (b : Bool) : PR F ρ N (.dat .bool b) (.bool b) := by simp [PR, DC]
theorem mk_bl (b : Bool) : PR F ρ N (.bl b) (.bool b) := by simp [PR]
theorem boolOf_rel {p : PV} {b : Bool} {v : V} (h : pboolOf p = some b) (hp : PR F ρ N p v) : v = .bool b := by
  unfold pboolOf at h
  split at h
  · cases h; exact pr_bl hp
  · cases h; exact pr_bool hp
  · cases h

theorem s_int (hr : SR B h0 F ρ st.nx st.ob h) {op : BinOp} {k : IntKind} {a b : Int} {v : PV} (ht : (pint op k a b st).To v st') : OK B h0 F ρ st h [] (okv h (intOp op k a b)) v st' := by
  unfold pint at ht
  split at ht <;> simp only [To_bad, To_val, To_chk, decide_eq_true_eq, ne_eq] at ht
  all_goals first
    | (obtain ⟨rfl, rfl⟩ := ht; exact OK.pure hr rfl (mk_int _ _))
    | (obtain ⟨rfl, rfl⟩ := ht; exact OK.pure hr rfl (mk_bool _))
    | (obtain ⟨hb, rfl, rfl⟩ := ht; exact OK.pure hr (by simp only [intOp, hb, if_false, okv]) (mk_int _ _))
theorem s_sh (hr : SR B h0 F ρ st.nx st.ob h) {op : BinOp} {k : IntKind} {a b : Int} {v : PV} (ht : (psh op k a b st).To v st') : OK B h0 F ρ st h [] (okv h (shOp op k a b)) v st' := by
  unfold psh at ht
  split at ht <;> simp only [To_bad, To_chk, decide_eq_true_eq] at ht
  all_goals
    obtain ⟨hb, rfl, rfl⟩ := ht
    exact OK.pure hr (by simp only [shOp, Int.not_lt.2 hb, if_false, okv]) (mk_int _ _)
theorem s_str (hr : SR B h0 F ρ st.nx st.ob h) {op : BinOp} {x y : List UInt8} {v : PV} (ht : (pstr op x y st).To v st') : OK B h0 F ρ st h [] (okv h (strOp op x y)) v st' := by
  unfold pstr at ht
  split at ht <;> simp only [To_bad, To_val, To_chk, decide_eq_true_eq] at ht
  all_goals first
    | (obtain ⟨rfl, rfl⟩ := ht; exact OK.pure hr rfl (mk_bool _))
    | (obtain ⟨hb, rfl, rfl⟩ := ht; exact OK.pure hr (by simp only [strOp, hb, if_true, okv]) (mk_str _))
end
end Go.Pe
end
section
/- What the evaluator for unknown inputs says of operations is what Det does: comparisons, fields, indexes, slices. -/
namespace Go.Pe
open Go.Det
section
variable {B : Nat} {h0 : H0} {F : Fz} {ρ : Rho} {N : Nat} {C : Ctx} {st st' : PSt} {fr : Fr} {h : H}

theorem psame_rel : ∀ {ks : List FK} {ps qs : List PV} {xs ys : List V} {r : Bool}, PRs F ρ N ps xs → PRs F ρ N qs ys → psame ks ps qs = some r → fit ks xs = true ∧ fit ks ys = true ∧ sameCells xs ys = some r
  | [], [], [], xs, ys, r, hx, hy, hd => by
    simp at hx hy; subst hx hy
    simp only [psame, Option.some.injEq] at hd; subst hd
    exact ⟨rfl, rfl, rfl⟩
  | [], _ :: _, _, xs, ys, r, hx, hy, hd => by simp [psame] at hd
  | [], [], _ :: _, xs, ys, r, hx, hy, hd => by simp [psame] at hd
  | k :: ks, [], _, xs, ys, r, hx, hy, hd => by cases k <;> simp [psame] at hd
  | k :: ks, _ :: _, [], xs, ys, r, hx, hy, hd => by cases k <;> simp [psame] at hd
  | k :: ks, p :: ps, q :: qs, xs, ys, r, hx, hy, hd => by
    simp only [PRs] at hx hy
    obtain ⟨x, xs, rfl, hx1, hx2⟩ := hx
    obtain ⟨y, ys, rfl, hy1, hy2⟩ := hy
    have key : ∀ {c : Bool}, k.ok x = true → k.ok y = true → sameCell x y = some c → (psame ks ps qs).map (fun r => c && r) = some r → fit (k :: ks) (x :: xs) = true ∧ fit (k :: ks) (y :: ys) = true ∧ sameCells (x :: xs) (y :: ys) = some r := by
      intro c h1 h2 h3 h4
      rw [Option.map_eq_some_iff] at h4
      obtain ⟨r', h5, rfl⟩ := h4
      obtain ⟨g1, g2, g3⟩ := psame_rel hx2 hy2 h5
      refine ⟨by simp [fit, h1, g1], by simp [fit, h2, g2], ?_⟩
      have hl : xs.length = ys.length := by rw [← fit_len g1, ← fit_len g2]
      cases c with
      | true => simp only [sameCells, h3, g3, Bool.true_and]
      | false => simp only [sameCells, h3, Bool.false_and, hl, if_true]
    unfold psame at hd
    split at hd
    case h_1 => rename_i e _ _; cases e
    case h_2 =>
      rename_i k' ks' k1 a xs' k2 b ys' e1 e2 e3
      cases e1; cases e2; cases e3
      cases hk : (k' == k1 && k' == k2) with
      | false => rw [hk] at hd; cases hd
      | true =>
        rw [hk] at hd
        simp only [Bool.and_eq_true, beq_iff_eq] at hk
        obtain ⟨rfl, rfl⟩ := hk
        obtain rfl := pr_int hx1
        obtain rfl := pr_int hy1
        exact key (by simp [FK.ok]) (by simp [FK.ok]) (by simp [sameCell]) hd
    case h_3 =>
      rename_i e1 e2 e3
      cases e1; cases e2; cases e3
      obtain rfl := pr_str hx1
      obtain rfl := pr_str hy1
      exact key rfl rfl (by simp [sameCell]) hd
    case h_4 =>
      rename_i e1 e2 e3
      cases e1; cases e2; cases e3
      split at hd
      case h_2 => cases hd
      rename_i a b ha hb
      obtain rfl := boolOf_rel ha hx1
      obtain rfl := boolOf_rel hb hy1
      exact key rfl rfl rfl hd
    case h_5 => cases hd

theorem s_bin (hr : SR B h0 F ρ st.nx st.ob h) {op : BinOp} {t : TypeId} {ox oy : Operand} {p q : PV} {x y : V} (hx : PR F ρ st.nx p x) (hy : PR F ρ st.nx q y) {v : PV} (ht : (pbin C.T op t p q st).To v st') :
    OK B h0 F ρ st h [] (okv h (dbinx C.T op t ox oy x y)) v st' := by
  have nn : ∀ {x y : V}, (∀ (e : x = .nili), False) → dbinx C.T op t ox oy x y = dbin C.T op t x y := by
    intro x y hn
    unfold dbinx dnil
    split
    · rename_i h; split at h
      · exact (hn rfl).elim
      · exact (hn rfl).elim
      · cases h
    · rfl
  unfold pbin at ht
  split at ht
  case h_1 =>
    rename_i k a k' b
    obtain rfl := pr_int hx
    obtain rfl := pr_int hy
    rw [nn (fun e => by cases e)]
    cases hs : isSh op with
    | true =>
      rw [hs] at ht
      simp only [cond_true] at ht
      have := s_sh hr ht
      unfold dbin
      cases op <;> simp only [isSh] at hs <;> first | (cases hs; done) | exact this
    | false =>
      rw [hs] at ht
      simp only [cond_false] at ht
      cases hk : (k == k') with
      | false => rw [hk] at ht; simp at ht
      | true =>
        rw [hk] at ht
        simp only [cond_true] at ht
        have := s_int hr ht
        have hk := beq_iff_eq.1 hk
        subst hk
        unfold dbin
        cases op <;> simp only [isSh] at hs <;> first | (cases hs; done) | (simp only [if_true]; exact this)
  case h_2 =>
    rename_i a b
    obtain rfl := pr_str hx
    obtain rfl := pr_str hy
    rw [nn (fun e => by cases e)]
    have := s_str hr ht
    unfold dbin
    cases op <;> exact this
  case h_3 =>
    rename_i ps qs
    simp only [PR] at hx hy
    obtain ⟨xs, rfl, hx⟩ := hx
    obtain ⟨ys, rfl, hy⟩ := hy
    rw [nn (fun e => by cases e)]
    split at ht
    case h_2 => simp at ht
    rename_i ks hks
    have eq : ∀ {r : Bool}, psame ks ps qs = some r → dequal C.T t (.agg xs) (.agg ys) = some r := by
      intro r hr'
      obtain ⟨g1, g2, g3⟩ := psame_rel hx hy hr'
      have : dflat (C.T.flat t) xs ys = some r := by simp [dflat, hks, g1, g2, g3]
      unfold dequal
      split <;> first | exact this | (simp_all; done)
    split at ht
    case h_1 =>
      rename_i r hr'
      simp only [To_val] at ht
      obtain ⟨rfl, rfl⟩ := ht
      exact OK.pure hr (by show okv h ((dequal C.T t (.agg xs) (.agg ys)).map _) = _; rw [eq hr']; rfl) (mk_bool _)
    case h_2 =>
      rename_i r hr'
      simp only [To_val] at ht
      obtain ⟨rfl, rfl⟩ := ht
      exact OK.pure hr (by show okv h ((dequal C.T t (.agg xs) (.agg ys)).map _) = _; rw [eq hr']; rfl) (mk_bool _)
    case h_3 => simp at ht
  case h_4 =>
    split at ht
    case h_2 => simp at ht
    rename_i a b ha hb hu
    obtain rfl := boolOf_rel ha hx
    obtain rfl := boolOf_rel hb hy
    rw [nn (fun e => by cases e)]
    have eq : dequal C.T t (.bool a) (.bool b) = some (a == b) := by unfold dequal; rw [hu]
    split at ht
    case h_1 =>
      simp only [To_val] at ht
      obtain ⟨rfl, rfl⟩ := ht
      exact OK.pure hr (by show okv h ((dequal C.T t (.bool a) (.bool b)).map _) = _; rw [eq]; rfl) (mk_bool _)
    case h_2 =>
      simp only [To_val] at ht
      obtain ⟨rfl, rfl⟩ := ht
      exact OK.pure hr (by show okv h ((dequal C.T t (.bool a) (.bool b)).map _) = _; rw [eq]; rfl) (mk_bool _)
    case h_3 => simp at ht
theorem s_un (hr : SR B h0 F ρ st.nx st.ob h) {op : UnOp} {p : PV} {x : V} (hx : PR F ρ st.nx p x) {v : PV} (ht : (pun op p st).To v st') : OK B h0 F ρ st h [] (okv h (dun op x)) v st' := by
  unfold pun at ht
  split at ht <;> simp only [To_bad, To_val] at ht
  · obtain ⟨rfl, rfl⟩ := ht; obtain rfl := pr_int hx; exact OK.pure hr rfl (mk_int _ _)
  · obtain ⟨rfl, rfl⟩ := ht; obtain rfl := pr_bl hx; exact OK.pure hr rfl (mk_bl _)
  · obtain ⟨rfl, rfl⟩ := ht; obtain rfl := pr_bool hx; exact OK.pure hr rfl (mk_bool _)
theorem s_conv (hr : SR B h0 F ρ st.nx st.ob h) {s d : TypeId} {p : PV} {x : V} (hx : PR F ρ st.nx p x) {v : PV} (ht : (pconv C.T s d p st).To v st') : OK B h0 F ρ st h [] (okv h (dconv C.T h s d x)) v st' := by
  unfold pconv at ht
  split at ht <;> simp only [To_bad, To_val] at ht
  · rename_i h1 h2
    obtain ⟨rfl, rfl⟩ := ht; obtain rfl := pr_int hx
    exact OK.pure hr (by simp [dconv, h1, h2, okv]) (mk_int _ _)
  · rename_i h1 h2
    obtain ⟨rfl, rfl⟩ := ht; obtain rfl := pr_str hx
    exact OK.pure hr (by simp [dconv, h1, h2, okv]) (mk_str _)
theorem s_pick (hr : SR B h0 F ρ st.nx st.ob h) {c a b : PV} {x y z : V} (hc : PR F ρ st.nx c x) (ha : PR F ρ st.nx a y) (hb : PR F ρ st.nx b z) {v : PV} (ht : (ppick c a b st).To v st') :
    ∃ t, x = .bool t ∧ OK B h0 F ρ st h [] (okv h (some (if t then y else z))) v st' := by
  unfold ppick at ht
  split at ht
  case h_3 => simp at ht
  case h_1 =>
    rename_i t
    simp only [To_val] at ht
    obtain ⟨rfl, rfl⟩ := ht
    refine ⟨t, pr_bl hc, OK.pure hr rfl ?_⟩
    cases t <;> assumption
  case h_2 =>
    rename_i t
    refine ⟨t, pr_bool hc, ?_⟩
    split at ht
    case h_1 =>
      simp only [To_val] at ht
      obtain ⟨rfl, rfl⟩ := ht
      obtain rfl := pr_bool ha
      obtain rfl := pr_bl hb
      refine OK.pure hr rfl ?_
      cases t <;> exact mk_bool _
    case h_2 =>
      simp only [To_val] at ht
      obtain ⟨rfl, rfl⟩ := ht
      obtain rfl := pr_bl ha
      obtain rfl := pr_bool hb
      refine OK.pure hr rfl ?_
      cases t <;> exact mk_bool _
    case h_3 =>
      cases ht with
      | tt h => simp only [To_val] at h; obtain ⟨rfl, rfl⟩ := h; exact OK.pure hr rfl ha
      | ff h => simp only [To_val] at h; obtain ⟨rfl, rfl⟩ := h; exact OK.pure hr rfl hb

theorem s_field (hr : SR B h0 F ρ st.nx st.ob h) {t : TypeId} {p : PV} {x : V} (hx : PR F ρ st.nx p x) {f : Nat} {v : PV} (ht : (pfield C.T t p f st).To v st') : OK B h0 F ρ st h [] (okv h (dfield C.T t x f)) v st' := by
  unfold pfield at ht
  split at ht
  case h_2 => simp at ht
  rename_i fs ps hu
  split at ht
  case h_2 => simp at ht
  rename_i fd hfd
  split at ht
  case h_2 => simp at ht
  rename_i d i hd hi
  simp only [To_ov] at ht
  obtain ⟨hpk, rfl⟩ := ht
  simp only [PR] at hx
  obtain ⟨cs, rfl, hps⟩ := hx
  rw [ldrop'] at hpk
  have hp := hps.drop fd.offset
  rcases pick_rel hp hpk with ⟨ha, _, hn, hv⟩ | ⟨ha, u, us, e, hv⟩
  · exact OK.pure hr (by simp only [dfield, hu, hfd, dpart, hd, hi, ha, cond_true, okv]) hv
  · have : cs[fd.offset]? = some u := by
      have := congrArg (·[0]?) e
      simpa using this
    exact OK.pure hr (by simp only [dfield, hu, hfd, dpart, hd, hi, ha, cond_false, this, okv]) hv
theorem s_faddr (hr : SR B h0 F ρ st.nx st.ob h) {t : TypeId} {p : PV} {x : V} (hx : PR F ρ st.nx p x) {f : Nat} {v : PV} (ht : (pfaddr C.T t p f st).To v st') :
    OK B h0 F ρ st h [] (okv h (dfaddr C.T t x f)) v st' := by
  have live : ∀ {id}, isS (st.obj id) = true → ∃ b n, ρ id = some (b, n) := by
    intro id hi
    obtain ⟨o, ho⟩ := isS_some hi
    obtain ⟨b, n, _, h1, _⟩ := hr.at ho
    exact ⟨b, n, h1⟩
  unfold pfaddr at ht
  split at ht
  case h_2 => simp at ht
  rename_i fs hu
  split at ht
  case h_2 => simp at ht
  rename_i fd hfd
  split at ht
  case h_2 => simp at ht
  rename_i i hi
  cases hz : Nat.beq i.size 0 with
  | true => rw [hz] at ht; simp at ht
  | false =>
    have hz' : i.size ≠ 0 := by intro e; rw [e] at hz; cases hz
    rw [hz] at ht
    simp only [cond_false] at ht
    have core : ∀ b off, dfaddr C.T t (.ptr b off) f = some (.ptr b (off + fd.offset)) := by
      intro b off; simp only [dfaddr, hu, hfd, hi, hz', if_false]
    split at ht
    · rename_i id off
      cases hl : isS (st.obj id) with
      | false => rw [hl] at ht; simp at ht
      | true =>
      rw [hl] at ht
      simp only [cond_true, To_val] at ht
      obtain ⟨rfl, rfl⟩ := ht
      have hx' := hx
      simp only [PR] at hx'
      obtain ⟨b, n, h1⟩ := live hl
      obtain rfl := hx'.2 b n h1
      refine OK.pure hr (by rw [core]; rfl) ?_
      simp only [PR]; exact ⟨hx'.1, fun b' n' hb => by rw [h1] at hb; cases hb; rfl⟩
    · rename_i id sz j off
      cases hl : isS (st.obj id) with
      | false => rw [hl] at ht; simp at ht
      | true =>
      rw [hl] at ht
      simp only [cond_true, To_val] at ht
      obtain ⟨rfl, rfl⟩ := ht
      have hx' := hx
      simp only [PR] at hx'
      obtain ⟨b, n, h1⟩ := live hl
      obtain rfl := hx'.2 b n h1
      refine OK.pure hr (by rw [core]; rfl) ?_
      simp only [PR]; exact ⟨hx'.1, fun b' n' hb => by rw [h1] at hb; cases hb; simp [Nat.add_assoc]⟩
    · rename_i s y off
      simp only [To_val] at ht
      obtain ⟨rfl, rfl⟩ := ht
      simp only [PR] at hx
      obtain ⟨b, o, cs, rfl, h1, h2⟩ := hx
      refine OK.pure hr (by rw [core]; rfl) ?_
      simp only [PR]; exact ⟨b, o, cs, by simp [Nat.add_assoc], h1, h2⟩
    · simp at ht
end
end Go.Pe
end
