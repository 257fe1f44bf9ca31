import Derived.Test.YtnbinppdjnlhpaaGreatDoorX12
/- A part of the proofs of the laws of one chapter (no law is stated here). Made by program out of texts by AI agents. -/
section
/- What the evaluator for unknown inputs says of operations is what Det does: indexes, slices, lengths. -/
namespace Go.Pe
open Go.Det
section
variable {B : Nat} {h0 : H0} {F : Fz} {ρ : Rho} {N : Nat} {C : Ctx} {st st' : PSt} {fr : Fr} {h : H}

theorem SR.live (hr : SR B h0 F ρ st.nx st.ob h) {id : Nat} (hi : isS (st.obj id) = true) : ∃ b n, ρ id = some (b, n) := by
  obtain ⟨o, ho⟩ := isS_some hi
  obtain ⟨b, n, _, h1, _⟩ := hr.at ho
  exact ⟨b, n, h1⟩
theorem ofNat_of {i : Int} (h : 0 ≤ i) : ∃ n : Nat, i = Int.ofNat n ∧ i.toNat = n := ⟨i.toNat, (Int.toNat_of_nonneg h).symm, rfl⟩
theorem blt_true {a b : Nat} (h : a < b) : Nat.blt a b = true := Nat.ble_eq_true_of_le h

theorem s_iaddr (hr : SR B h0 F ρ st.nx st.ob h) {t : TypeId} {p q : PV} {x y : V} (hx : PR F ρ st.nx p x) (hy : PR F ρ st.nx q y) {v : PV} (ht : (piaddr C.T t p q st).To v st') :
    OK B h0 F ρ st h [] (okv h (diaddr C.T t x y)) v st' := by
  unfold piaddr at ht
  split at ht
  case h_3 => simp at ht
  case h_2 =>
    rename_i alen e k i hu
    obtain rfl := pr_int hy
    split at ht
    case h_2 => simp at ht
    rename_i ti hti
    split at ht
    case h_4 => simp at ht
    case h_1 =>
      rename_i id off
      cases hl : isS (st.obj id) with
      | false => rw [hl] at ht; simp at ht
      | true =>
        rw [hl] at ht
        simp only [cond_true, To_chk, Bool.and_eq_true, decide_eq_true_eq] at ht
        obtain ⟨⟨hi0, hi1⟩, rfl, rfl⟩ := ht
        obtain ⟨n, rfl, hn⟩ := ofNat_of hi0
        have hlt : n < alen := by simp at hi1; exact hi1
        obtain ⟨b, m, h1⟩ := hr.live hl
        simp only [PR] at hx
        obtain rfl := hx.2 b m h1
        refine OK.pure hr (v' := .ptr b (off + n * ti.size)) ?_ ?_
        · show okv h (diaddr C.T t (.ptr b off) (.int k (Int.ofNat n))) = _
          simp only [diaddr, hu, hti, blt_true hlt, cond_true, okv]
        · simp only [PR]
          refine ⟨hx.1, fun b' n' hb => ?_⟩
          rw [h1] at hb; cases hb
          rw [hn]; rfl
    case h_2 =>
      rename_i id sz j off
      cases hl : isS (st.obj id) with
      | false => rw [hl] at ht; simp at ht
      | true =>
        rw [hl] at ht
        simp only [cond_true, To_chk, Bool.and_eq_true, decide_eq_true_eq] at ht
        obtain ⟨⟨hi0, hi1⟩, rfl, rfl⟩ := ht
        obtain ⟨n, rfl, hn⟩ := ofNat_of hi0
        have hlt : n < alen := by simp at hi1; exact hi1
        obtain ⟨b, m, h1⟩ := hr.live hl
        simp only [PR] at hx
        obtain rfl := hx.2 b m h1
        refine OK.pure hr (v' := .ptr b (j * sz + off + n * ti.size)) ?_ ?_
        · show okv h (diaddr C.T t (.ptr b (j * sz + off)) (.int k (Int.ofNat n))) = _
          simp only [diaddr, hu, hti, blt_true hlt, cond_true, okv]
        · simp only [PR]
          refine ⟨hx.1, fun b' n' hb => ?_⟩
          rw [h1] at hb; cases hb
          rw [hn, Nat.add_assoc]; rfl
    case h_3 =>
      rename_i s y off
      simp only [To_chk, Bool.and_eq_true, decide_eq_true_eq] at ht
      obtain ⟨⟨hi0, hi1⟩, rfl, rfl⟩ := ht
      obtain ⟨n, rfl, hn⟩ := ofNat_of hi0
      have hlt : n < alen := by simp at hi1; exact hi1
      simp only [PR] at hx
      obtain ⟨b, o, cs, rfl, h1, h2, h3⟩ := hx
      refine OK.pure hr (v' := .ptr b (o + off + n * ti.size)) ?_ ?_
      · show okv h (diaddr C.T t (.ptr b (o + off)) (.int k (Int.ofNat n))) = _
        simp only [diaddr, hu, hti, blt_true hlt, cond_true, okv]
      · simp only [PR]
        refine ⟨b, o, cs, ?_, h1, h2, h3⟩
        rw [hn, Nat.add_assoc]; rfl
  case h_1 =>
  rename_i e k i hu
  obtain rfl := pr_int hy
  split at ht
  case h_2 => simp at ht
  rename_i ti hti
  split at ht
  case h_3 => simp at ht
  case h_1 =>
    rename_i s l
    cases hz : Nat.beq ti.size s.sz with
    | false => rw [hz] at ht; simp at ht
    | true =>
      rw [hz] at ht
      have hz := Nat.eq_of_beq_eq_true hz
      simp only [cond_true, To_chk, Bool.and_eq_true, decide_eq_true_eq] at ht
      obtain ⟨⟨hi0, hi1⟩, rfl, rfl⟩ := ht
      obtain ⟨n, rfl, hn⟩ := ofNat_of hi0
      have hlt : n < l.length := by simp at hi1; exact hi1
      simp only [PR, DC] at hx
      obtain ⟨u, hu1, hx⟩ := hx
      obtain rfl : x = u := by simpa using hu1
      rcases hx with ⟨rfl, _⟩ | ⟨b, off, cap, o, bs, rfl, h1, h2, h3, _, h4⟩
      · simp at hlt
      · refine OK.pure hr (v' := .ptr b (off + n * ti.size)) ?_ ?_
        · show okv h (diaddr C.T t (.sl b off l.length cap o) (.int k (Int.ofNat n))) = _
          simp only [diaddr, hu, hti, blt_true hlt, cond_true, okv]
        · simp only [PR]
          refine ⟨b, off + n * s.sz, bs, by rw [hz]; rfl, h2, ?_, ?_⟩
          · have : (n + 1) * s.sz ≤ l.length * s.sz := Nat.mul_le_mul_right _ hlt
            rw [Nat.succ_mul] at this; omega
          · have := h4 n hlt
            rw [hn, show l.getD n s.dflt = l[n] from by simp [hlt]]
            exact this
  case h_2 =>
    rename_i id sz off len cap
    cases hz : (Nat.beq ti.size sz && isS (st.obj id)) with
    | false => rw [hz] at ht; simp at ht
    | true =>
      rw [hz] at ht
      simp only [Bool.and_eq_true] at hz
      obtain ⟨hz, hl⟩ := hz
      have hz := Nat.eq_of_beq_eq_true hz
      simp only [cond_true, To_chk, Bool.and_eq_true, decide_eq_true_eq] at ht
      obtain ⟨⟨hi0, hi1⟩, rfl, rfl⟩ := ht
      obtain ⟨n, rfl, hn⟩ := ofNat_of hi0
      have hlt : n < len := by simp at hi1; exact hi1
      obtain ⟨b, m, h1⟩ := hr.live hl
      simp only [PR] at hx
      rcases hx.2 b m h1 with ⟨_, _, o, _, rfl⟩ | ⟨e0, _⟩
      · refine OK.pure hr (v' := .ptr b (off * sz + n * ti.size)) ?_ ?_
        · show okv h (diaddr C.T t (.sl b (off * sz) len _ o) (.int k (Int.ofNat n))) = _
          simp only [diaddr, hu, hti, blt_true hlt, cond_true, okv]
        · simp only [PR]
          refine ⟨hx.1, fun b' n' hb => ?_⟩
          rw [h1] at hb; cases hb
          rw [hz, hn]
          show V.ptr b (off * sz + n * sz) = .ptr b ((n + off) * sz + 0)
          rw [Nat.add_mul, Nat.add_comm (n * sz)]; rfl
      · omega
theorem s_index (hr : SR B h0 F ρ st.nx st.ob h) {t : TypeId} {p q : PV} {x y : V} (hx : PR F ρ st.nx p x) (hy : PR F ρ st.nx q y) {v : PV} (ht : (pindex C.T t p q st).To v st') :
    OK B h0 F ρ st h [] (okv h (dindex C.T t x y)) v st' := by
  unfold pindex at ht
  split at ht
  case h_3 => simp at ht
  case h_2 =>
    rename_i alen e ps k i hu
    obtain rfl := pr_int hy
    split at ht
    case h_2 => simp at ht
    rename_i d ti hd hti
    simp only [To_ovc, Bool.and_eq_true, decide_eq_true_eq] at ht
    obtain ⟨⟨hi0, hi1⟩, hpk, rfl⟩ := ht
    obtain ⟨n, rfl, hn⟩ := ofNat_of hi0
    have hlt : n < alen := by simp at hi1; exact hi1
    simp only [PR] at hx
    obtain ⟨cs, rfl, hps⟩ := hx
    rw [ldrop', hn] at hpk
    have hp := hps.drop (n * ti.size)
    have hdx : dindex C.T t (.agg cs) (.int k (Int.ofNat n)) = dpart C.T e cs (n * ti.size) := by simp only [dindex, hu, hti, blt_true hlt, cond_true]
    rcases pick_rel hp hpk with ⟨ha, _, _, hv⟩ | ⟨ha, u, us, e', hv⟩
    · exact OK.pure hr (by rw [hdx]; simp only [dpart, hd, hti, ha, cond_true, okv]) hv
    · have : cs[n * ti.size]? = some u := by
        have := congrArg (·[0]?) e'
        simpa using this
      exact OK.pure hr (by rw [hdx]; simp only [dpart, hd, hti, ha, cond_false, this, okv]) hv
  case h_1 =>
  rename_i s k i hu
  obtain rfl := pr_str hx
  obtain rfl := pr_int hy
  simp only [To_chk, Bool.and_eq_true, decide_eq_true_eq] at ht
  obtain ⟨⟨hi0, hi1⟩, rfl, rfl⟩ := ht
  obtain ⟨n, rfl, hn⟩ := ofNat_of hi0
  have hlt : n < List.length s := by simp at hi1; exact hi1
  have hg : (s : List UInt8)[n]? = some (s : List UInt8)[n] := List.getElem?_eq_getElem hlt
  refine OK.pure hr (v' := .int .u8 ((s : List UInt8)[n].toNat : Int)) ?_ ?_
  · show okv h (dindex C.T t (.str s) (.int k (Int.ofNat n))) = _
    simp only [dindex, hu, hg, okv]
  · rw [hn, show List.getD (s : List UInt8) n 0 = (s : List UInt8)[n] from by simp [hlt]]
    exact mk_int _ _
theorem s_extract (hr : SR B h0 F ρ st.nx st.ob h) {p : PV} {x : V} (hx : PR F ρ st.nx p x) {i : Nat} {v : PV} (ht : (pextract p i st).To v st') : OK B h0 F ρ st h [] (okv h (dextract x i)) v st' := by
  unfold pextract at ht
  split at ht
  case h_2 => simp at ht
  rename_i ps
  split at ht
  case h_2 => simp at ht
  rename_i q hq
  simp only [To_val] at ht
  obtain ⟨rfl, rfl⟩ := ht
  simp only [PR] at hx
  obtain ⟨cs, rfl, hps⟩ := hx
  obtain ⟨u, h1, h2⟩ := hps.get hq
  exact OK.pure hr (by simp only [dextract, h1, okv]) h2

/-- optional values -/
def ORp (F : Fz) (ρ : Rho) (N : Nat) : Option PV → Option V → Prop
  | none, x => x = none
  | some p, x => ∃ v, x = some v ∧ PR F ρ N p v
theorem pb_rel {o : Option PV} {x : Option V} {d : Nat} {c : Bool} {n : Nat} (hx : ORp F ρ N o x) (hp : pb o d = some (c, n)) (hc : c = true) {y : Nat} (hy : n ≤ y) : bnd x y d = some n := by
  unfold pb at hp
  split at hp
  · cases hp; simp only [ORp] at hx; subst hx; rfl
  · cases hp
    simp only [ORp] at hx
    obtain ⟨v, rfl, hv⟩ := hx
    obtain rfl := pr_int hv
    simp only [decide_eq_true_eq] at hc
    obtain ⟨m, rfl, hm⟩ := ofNat_of hc
    rw [hm] at hy
    show (bif Nat.ble m y then some m else none) = _
    rw [Nat.ble_eq_true_of_le hy, hm]; rfl
  · cases hp
theorem ORp.isNone {o : Option PV} {x : Option V} (hx : ORp F ρ N o x) : (o = none ↔ x = none) := by
  cases o with
  | none => simp only [ORp] at hx; simp [hx]
  | some p => simp only [ORp] at hx; obtain ⟨v, rfl, _⟩ := hx; simp

theorem dslice_sl {T : Tab} {t e : TypeId} {ti : TI} {b off len cap o m hh l : Nat} {lo hi mx : Option V} (hu : T.und t = some (.slice e)) (hti : T.inf e = some ti) (hm : bnd mx cap cap = some m) (hb : bnd hi m len = some hh)
    (hl : bnd lo hh 0 = some l) (hno : hi = none → mx = none) :
    dslice T t (.sl b off len cap o) lo hi mx = bif Nat.beq m l then (bif Nat.beq (oof mx o) 0 then some (.sl b off (hh - l) (m - l) 0) else some .esl)
      else bif Nat.beq (oof mx o) 0 || Nat.beq (oof mx o) ti.size then some (.sl b (off + l * ti.size) (hh - l) (m - l) (oof mx o)) else none := by
  cases hi with
  | some x => cases mx <;> simp only [dslice, hu, hti, hm, hb, hl]
  | none =>
    cases hno rfl
    simp only [dslice, hu, hti, hm, hb, hl]

theorem s_slice (hr : SR B h0 F ρ st.nx st.ob h) {t : TypeId} {p : PV} {x : V} {lo hi mx : Option PV} {a b c : Option V} (hx : PR F ρ st.nx p x) (hlo : ORp F ρ st.nx lo a) (hhi : ORp F ρ st.nx hi b) (hmx : ORp F ρ st.nx mx c)
    {v : PV} (ht : (pslice C.T t p lo hi mx st).To v st') : OK B h0 F ρ st h [] (okv h (dslice C.T t x a b c)) v st' := by
  unfold pslice at ht
  split at ht
  case h_3 => simp at ht
  case h_1 =>
    rename_i hu
    split at ht
    case h_2 => simp at ht
    rename_i s
    obtain rfl := pr_str hx
    split at ht
    case h_2 => simp at ht
    rename_i c1 l c2 hh hb1 hb2
    simp only [To_chk, Bool.and_eq_true, decide_eq_true_eq] at ht
    obtain ⟨⟨⟨⟨k1, k2⟩, k3⟩, k4⟩, rfl, rfl⟩ := ht
    simp only [ORp] at hmx; subst hmx
    have e1 := pb_rel hlo hb1 k1 k3
    have e2 := pb_rel hhi hb2 k2 k4
    exact OK.pure hr (by simp only [dslice, hu, e1, e2, okv]; rfl) (mk_str _)
  case h_2 =>
    rename_i e hu
    split at ht
    case h_2 => simp at ht
    rename_i ti hti
    split at ht
    case h_4 => simp at ht
    case h_1 =>
      rename_i s xs
      cases hz : Nat.beq ti.size s.sz with
      | false => rw [hz] at ht; simp at ht
      | true =>
        rw [hz] at ht
        have hz := Nat.eq_of_beq_eq_true hz
        simp only [cond_true] at ht
        split at ht
        case h_2 => simp at ht
        rename_i c1 l c2 hh hb1 hb2
        simp only [To_chk, Bool.and_eq_true, decide_eq_true_eq] at ht
        obtain ⟨⟨⟨⟨k1, k2⟩, k3⟩, k4⟩, rfl, rfl⟩ := ht
        simp only [ORp] at hmx; subst hmx
        have e1 := pb_rel hlo hb1 k1 k3
        simp only [PR, DC] at hx
        obtain ⟨u, hu1, hx⟩ := hx
        obtain rfl : x = u := by simpa using hu1
        rcases hx with ⟨rfl, rfl | rfl⟩ | ⟨bb, off, cap, o, bs, rfl, h1, h2, h3, h5, h4⟩
        · have e2 := pb_rel hhi hb2 k2 k4
          simp only [List.length_nil] at e2 k4
          refine OK.pure hr (v' := .nils) (by simp only [dslice, hu, e1, e2, hti, okv]) ?_
          simp [PR, DC]
        · have e2 := pb_rel hhi hb2 k2 k4
          simp only [List.length_nil] at e2 k4
          refine OK.pure hr (v' := .esl) (by simp only [dslice, hu, e1, e2, hti, okv]) ?_
          simp [PR, DC]
        · have e2 : bnd b cap xs.length = some hh := pb_rel hhi hb2 k2 (Nat.le_trans k4 h1)
          have hds := dslice_sl (b := bb) (off := off) (len := xs.length) (cap := cap) (o := o) (mx := none) hu hti rfl e2 e1 (fun _ => rfl)
          have hlen : ((xs.drop l).take (Nat.sub hh l)).length = hh - l := by
            have : Nat.sub hh l = hh - l := rfl
            rw [this]; simp; omega
          by_cases hcl : cap = l
          · have hhl : hh = l := by omega
            have hemp : (xs.drop l).take (Nat.sub hh l) = [] := by
              apply List.eq_nil_of_length_eq_zero; rw [hlen]; omega
            rw [hemp]
            by_cases ho : o = 0
            · refine OK.pure hr (v' := .sl bb off (hh - l) (cap - l) 0) ?_ ?_
              · have : oof none o = 0 := ho
                rw [hds, this, hcl, Nat.beq_refl]; rfl
              · simp only [PR, DC]
                exact ⟨_, rfl, .inr ⟨bb, off, cap - l, 0, bs, by simp [hhl], by simp, h2, by simp; omega, .inl rfl, fun i hi => by simp at hi⟩⟩
            · refine OK.pure hr (v' := .esl) ?_ ?_
              · have h1 : Nat.beq (oof none o) 0 = false := by rw [beq_t]; simp [oof, ho]
                rw [hds, h1, hcl, Nat.beq_refl]; rfl
              · simp [PR, DC]
          · refine OK.pure hr (v' := .sl bb (off + l * ti.size) (hh - l) (cap - l) o) ?_ ?_
            · have hb1 : Nat.beq cap l = false := by rw [beq_t]; simp [hcl]
              have ho : (Nat.beq (oof none o) 0 || Nat.beq (oof none o) ti.size) = true := by
                rcases h5 with rfl | rfl
                · rfl
                · rw [hz]; show (Nat.beq s.sz 0 || Nat.beq s.sz s.sz) = true
                  rw [Nat.beq_refl, Bool.or_true]
              rw [hds, hb1, ho]; rfl
            · simp only [PR, DC]
              refine ⟨_, rfl, .inr ⟨bb, off + l * ti.size, cap - l, o, bs, by rw [hlen], by rw [hlen]; omega, h2, ?_, h5, fun i hi => ?_⟩⟩
              · rw [hlen, hz]
                have : (l + (hh - l)) * s.sz ≤ xs.length * s.sz := Nat.mul_le_mul_right _ (by omega)
                rw [Nat.add_mul] at this; omega
              · rw [hlen] at hi
                have hi2 : l + i < xs.length := by omega
                have := h4 (l + i) hi2
                rw [List.getElem_take, List.getElem_drop, hz]
                rw [Nat.add_mul, ← Nat.add_assoc] at this
                exact this
    case h_2 =>
      rename_i id sz off len cap
      cases hz : (Nat.beq ti.size sz && isS (st.obj id)) with
      | false => rw [hz] at ht; simp at ht
      | true =>
        rw [hz] at ht
        simp only [Bool.and_eq_true] at hz
        obtain ⟨hz, hl⟩ := hz
        have hz := Nat.eq_of_beq_eq_true hz
        simp only [cond_true] at ht
        have hno : ¬ (hi = none ∧ mx ≠ none) := by
          rintro ⟨rfl, hm⟩
          cases mx with
          | none => exact hm rfl
          | some _ => simp at ht
        split at ht
        case h_1 => simp at ht
        split at ht
        case h_2 => simp at ht
        rename_i c1 l c2 hh c3 m hb1 hb2 hb3
        simp only [To_chk, Bool.and_eq_true, decide_eq_true_eq] at ht
        obtain ⟨⟨⟨⟨⟨⟨⟨k1, k2⟩, k3⟩, k4⟩, k5⟩, k6⟩, k7⟩, rfl, rfl⟩ := ht
        have e1 := pb_rel hlo hb1 k1 k4
        have e3 := pb_rel hmx hb3 k3 k6
        have e2 := pb_rel hhi hb2 k2 k5
        have hno' : b = none → c = none := by
          intro hbn
          cases hcc : c with
          | none => rfl
          | some z =>
            exfalso; apply hno
            exact ⟨hhi.isNone.2 hbn, fun e => by have := hmx.isNone.1 e; rw [this] at hcc; cases hcc⟩
        obtain ⟨b0, n0, h1⟩ := hr.live hl
        simp only [PR] at hx
        rcases hx.2 b0 n0 h1 with ⟨g1, g2, o, g3, rfl⟩ | ⟨rfl, rfl, g2, g3⟩
        · have hds := dslice_sl (b := b0) (off := off * sz) (len := len) (cap := cap.getD len) (o := o) hu hti e3 e2 e1 hno'
          have hoz : oof c o = 0 ∨ oof c o = sz := by
            unfold oof; cases c with
            | none => exact g3
            | some _ => exact .inl rfl
          by_cases hml : m = l
          · have hhl : hh - l = 0 := by omega
            by_cases ho : oof c o = 0
            · refine OK.pure hr (v' := .sl b0 (off * sz) (hh - l) (m - l) 0) ?_ ?_
              · rw [hds, ho, hml, Nat.beq_refl]; rfl
              · unfold PR
                refine ⟨hx.1, fun b' n' hb => .inr ?_⟩
                rw [h1] at hb; cases hb
                refine ⟨hhl, ?_, ?_, .inr ⟨off * sz, by rw [hhl, hml, Nat.sub_self], Nat.mul_le_mul_right _ (Nat.le_add_right _ _)⟩⟩
                · show some (m - l) = some 0; rw [hml, Nat.sub_self]
                · show off + l ≤ n0; omega
            · refine OK.pure hr (v' := .esl) ?_ ?_
              · have hb0 : Nat.beq (oof c o) 0 = false := by rw [beq_t]; simp [ho]
                rw [hds, hb0, hml, Nat.beq_refl]; rfl
              · unfold PR
                refine ⟨hx.1, fun b' n' hb => .inr ?_⟩
                rw [h1] at hb; cases hb
                refine ⟨hhl, ?_, ?_, .inl rfl⟩
                · show some (m - l) = some 0; rw [hml, Nat.sub_self]
                · show off + l ≤ n0; omega
          · refine OK.pure hr (v' := .sl b0 (off * sz + l * ti.size) (hh - l) (m - l) (oof c o)) ?_ ?_
            · have hb1 : Nat.beq m l = false := by rw [beq_t]; simp [hml]
              have ho : (Nat.beq (oof c o) 0 || Nat.beq (oof c o) ti.size) = true := by
                rcases hoz with e | e
                · rw [e]; rfl
                · rw [e, hz, Nat.beq_refl, Bool.or_true]
              rw [hds, hb1, ho]; rfl
            · unfold PR
              refine ⟨hx.1, fun b' n' hb => .inl ?_⟩
              rw [h1] at hb; cases hb
              refine ⟨?_, ?_, oof c o, hoz, ?_⟩
              · show hh - l ≤ m - l; omega
              · show off + l + (m - l) ≤ n0; omega
              · show V.sl b0 (off * sz + l * ti.size) (hh - l) (m - l) (oof c o) = .sl b0 ((off + l) * sz) (hh - l) (m - l) (oof c o)
                rw [hz, Nat.add_mul]
        · simp only [Option.getD_some] at k6 k7 e3
          obtain rfl : m = 0 := by omega
          obtain rfl : hh = 0 := by omega
          obtain rfl : l = 0 := by omega
          have hc : c = none := by
            cases mx with
            | none => exact hmx
            | some _ => simp [has] at k7
          subst hc
          rcases g3 with rfl | ⟨off', rfl, g4⟩
          · refine OK.pure hr (v' := .esl) (by simp only [dslice, hu, hti, e2, e1, okv]) ?_
            unfold PR
            exact ⟨hx.1, fun b' n' hb => .inr ⟨by rfl, by rfl, by rw [h1] at hb; cases hb; exact g2, .inl rfl⟩⟩
          · refine OK.pure hr (v' := .sl b0 off' 0 0 0) ?_ ?_
            · rw [dslice_sl (mx := none) hu hti rfl e2 e1 (fun _ => rfl)]; rfl
            · unfold PR
              refine ⟨hx.1, fun b' n' hb => .inr ⟨rfl, rfl, ?_, .inr ⟨off', ?_, ?_⟩⟩⟩
              · rw [h1] at hb; cases hb; exact g2
              · rw [h1] at hb; cases hb; rfl
              · show off' ≤ (off + 0) * sz; exact g4
    case h_3 =>
      split at ht
      case h_2 => simp at ht
      rename_i c1 l c2 hh hb1 hb2
      simp only [To_chk, Bool.and_eq_true, decide_eq_true_eq] at ht
      obtain ⟨⟨⟨⟨k1, k2⟩, k3⟩, k4⟩, rfl, rfl⟩ := ht
      simp only [ORp] at hmx; subst hmx
      have e1 := pb_rel hlo hb1 k1 k3
      have e2 := pb_rel hhi hb2 k2 k4
      simp only [PR] at hx; subst hx
      exact OK.pure hr (v' := .nils) (by simp only [dslice, hu, e1, e2, hti, okv]) (by simp [PR])
end
end Go.Pe
end
section
/- What the evaluator for unknown inputs says of operations is what Det does: lengths, what is made. -/
namespace Go.Pe
open Go.Det
section
variable {B : Nat} {h0 : H0} {F : Fz} {ρ : Rho} {N : Nat} {C : Ctx} {st st' : PSt} {fr : Fr} {h : H}

theorem MR.len {ks vs : Sh} {l : List (ks.T × vs.T)} {es : List (V × V × Nat)} (h : MR F ks vs l es) : l.length = es.length := by
  induction h with
  | nil => rfl
  | cons _ _ _ ih => simp [ih]
theorem s_len (hr : SR B h0 F ρ st.nx st.ob h) {ts : Array TypeId} {ps : List PV} {xs : List V} (hx : PRs F ρ st.nx ps xs) {v : PV} (ht : (plen C.T ts ps st).To v st') : OK B h0 F ρ st h [] (okv h (dlen C.T h ts xs)) v st' := by
  unfold plen at ht
  split at ht
  case h_2 => simp at ht
  rename_i t p hts
  simp only [PRs] at hx
  obtain ⟨x, xs', rfl, hx, rfl⟩ := hx
  split at ht
  case h_6 => simp at ht
  case h_1 =>
    rename_i s hu
    simp only [To_val] at ht
    obtain ⟨rfl, rfl⟩ := ht
    obtain rfl := pr_str hx
    exact OK.pure hr (by simp only [dlen, hts, hu, okv]; rfl) (mk_int _ _)
  case h_2 =>
    rename_i s l hu
    simp only [To_val] at ht
    obtain ⟨rfl, rfl⟩ := ht
    simp only [PR, DC] at hx
    obtain ⟨u, hu1, hx⟩ := hx
    obtain rfl : x = u := by simpa using hu1
    rcases hx with ⟨rfl, rfl | rfl⟩ | ⟨b, off, cap, o, bs, rfl, _⟩
    · exact OK.pure hr (by simp only [dlen, hts, hu, okv]; rfl) (mk_int _ _)
    · exact OK.pure hr (by simp only [dlen, hts, hu, okv]; rfl) (mk_int _ _)
    · exact OK.pure hr (by simp only [dlen, hts, hu, okv]; rfl) (mk_int _ _)
  case h_3 =>
    rename_i id sz off len cap hu
    cases hl : isS (st.obj id) with
    | false => rw [hl] at ht; simp at ht
    | true =>
      rw [hl] at ht
      simp only [cond_true, To_val] at ht
      obtain ⟨rfl, rfl⟩ := ht
      obtain ⟨b, n, h1⟩ := hr.live hl
      simp only [PR] at hx
      rcases hx.2 b n h1 with ⟨_, _, o, _, rfl⟩ | ⟨rfl, _, _, rfl | ⟨_, rfl, _⟩⟩
      · exact OK.pure hr (by simp only [dlen, hts, hu, okv]; rfl) (mk_int _ _)
      · exact OK.pure hr (by simp only [dlen, hts, hu, okv]; rfl) (mk_int _ _)
      · exact OK.pure hr (by simp only [dlen, hts, hu, okv]; rfl) (mk_int _ _)
  case h_4 =>
    rename_i hu
    simp only [To_val] at ht
    obtain ⟨rfl, rfl⟩ := ht
    simp only [PR] at hx; subst hx
    exact OK.pure hr (by simp only [dlen, hts, hu, okv]; rfl) (mk_int _ _)
  case h_5 =>
    rename_i id hu
    split at ht
    case h_2 => simp at ht
    rename_i ks vs l ho
    simp only [To_val] at ht
    obtain ⟨rfl, rfl⟩ := ht
    obtain ⟨b, n, y, h1, h2, ⟨es, clk, rfl, h3⟩, _⟩ := hr.at ho
    simp only [PR] at hx
    obtain rfl := hx.2 b n h1
    have hl : l.length = es.length := h3.len
    refine OK.pure hr (v' := i64 es.length) (by simp only [dlen, hts, hu, h2, okv]) ?_
    rw [← hl]; exact mk_int _ _
theorem s_mm (hr : SR B h0 F ρ st.nx st.ob h) {f : Int → Int → Int} {g : V → V → Option V} (hg : ∀ k x y, g (.int k x) (.int k y) = some (.int k (f x y))) {ps : List PV} {xs : List V} (hx : PRs F ρ st.nx ps xs) {v : PV}
    (ht : (pminmax f ps st).To v st') : OK B h0 F ρ st h [] (okv h (dminmax g xs)) v st' := by
  have key : ∀ (ps : List PV) (xs : List V) (k : IntKind) (x z : Int), PRs F ρ st.nx ps xs → pmm f k x ps = some z → dfold g (.int k x) xs = some (.int k z) := by
    intro ps
    induction ps with
    | nil => intro xs k x z hx hz; simp at hx; subst hx; simp only [pmm, Option.some.injEq] at hz; subst hz; rfl
    | cons p ps ih =>
      intro xs k x z hx hz
      simp only [PRs] at hx
      obtain ⟨u, us, rfl, h1, h2⟩ := hx
      unfold pmm at hz
      split at hz
      case h_1 => rename_i e; cases e
      case h_2 =>
        rename_i e
        cases e
        rename_i k' y
        cases hk : (k == k') with
        | false => rw [hk] at hz; cases hz
        | true =>
          rw [hk] at hz
          have hk := beq_iff_eq.1 hk
          subst hk
          obtain rfl := pr_int h1
          simp only [dfold, hg]
          exact ih us k _ z h2 hz
      case h_3 => cases hz
  unfold pminmax at ht
  split at ht
  case h_2 => simp at ht
  rename_i k x ys
  split at ht
  case h_2 => simp at ht
  rename_i z hz
  simp only [To_val] at ht
  obtain ⟨rfl, rfl⟩ := ht
  simp only [PRs] at hx
  obtain ⟨u, us, rfl, h1, h2⟩ := hx
  obtain rfl := pr_int h1
  exact OK.pure hr (v' := .int k z) (by simp only [dminmax, key ys us k x z h2 hz, okv]) (mk_int _ _)

/-- a new object, and a value that is its place -/
theorem OK.new (hr : SR B h0 F ρ st.nx st.ob h) {o : Obj} {x : O} {n : Nat} (hf : o.frozen = false) (hx : ObR F (setR ρ st.nx (some (h.nx, n))) (st.nx + 1) n o x) {v : PV} {v' : V}
    (hv : PR F (setR ρ st.nx (some (h.nx, n))) (st.nx + 1) v v') : OK B h0 F ρ st h [] (okp (some (v', h.push x))) v (st.push o) := by
  refine ⟨v', h.push x, F, _, .inl rfl, hv, hr.push hf hx, Le.new _, rfl, rfl, Nat.le_succ _, fun b hb => .inl ?_⟩
  rw [H.get_push, if_neg (by omega)]
theorem pr_ptr0 {n : Nat} : PR F (setR ρ N (some (h.nx, n))) (N + 1) (.ptr N 0) (.ptr h.nx 0) := by
  unfold PR
  exact ⟨Nat.lt_succ_self _, fun b m hb => by simp [setR] at hb; rw [hb.1]⟩
theorem s_alloc (hr : SR B h0 F ρ st.nx st.ob h) {t : TypeId} {v : PV} (ht : (q_alloc t C.T st).To v st') : OK B h0 F ρ st h [] (okp (dalloc C.T h t)) v st' := by
  unfold q_alloc pcells at ht
  split at ht
  case h_2 => simp at ht
  rename_i cs hcs
  rw [Option.map_eq_some_iff] at hcs
  obtain ⟨i, hi, rfl⟩ := hcs
  simp only [To_val] at ht
  obtain ⟨rfl, rfl⟩ := ht
  have : dalloc C.T h t = some (.ptr h.nx 0, h.push (.cells i.zero t (0, 0))) := by simp [dalloc, hi, dnew]
  rw [this]
  exact OK.new hr (o := .box (i.zero.map ofV)) (n := 0) rfl ⟨_, _, _, rfl, ofVs_rel _, Nat.le_refl _⟩ pr_ptr0
theorem s_box (hr : SR B h0 F ρ st.nx st.ob h) {t : TypeId} {p : PV} {x : V} (hx : PR F ρ st.nx p x) {cs : List PV} (hcs : pcs st p = some cs) : OK B h0 F ρ st h [] (okp (some (dbox h t x))) (.ptr st.nx 0) (st.push (.box cs)) :=
  OK.new hr (o := .box cs) (n := 0) rfl ⟨_, _, _, rfl, (pcs_rel hr hx hcs).mono (Le.new _), Nat.le_refl _⟩ pr_ptr0

theorem pfill_rel (hr : SR B h0 F ρ st.nx st.ob h) {place : Nat → Option (Nat × Nat)} : ∀ {l : List (Nat × PV)} {l' : List (Nat × V)}, PRn F ρ st.nx l l' → ∀ {cs : List PV} {xs : List V}, PRs F ρ st.nx cs xs → ∀ {out : List PV}, pfill st place cs l = some out →
    ∃ ys, dfill place xs l' = some ys ∧ PRs F ρ st.nx out ys := by
  intro l l' hl
  induction hl with
  | nil => intro cs xs hx out ho; cases ho; exact ⟨xs, rfl, hx⟩
  | @cons i p v l l' hp _ ih =>
    intro cs xs hx out ho
    unfold pfill at ho
    unfold dfill
    split at ho
    case h_1 => cases ho
    rename_i off size hpl
    split at ho
    case h_2 => cases ho
    rename_i vs hvs
    cases hc : (Nat.beq (Det.llen vs) size && Nat.ble (Nat.add off size) (Det.llen cs)) with
    | false => rw [hc] at ho; cases ho
    | true =>
      rw [hc] at ho
      have hv := pcs_rel hr hp hvs
      rw [llen_eq, llen_eq, hv.len, hx.len] at hc
      have hc' : (Nat.beq v.cells.length size && Nat.ble (off + size) xs.length) = true := hc
      rw [hpl]
      simp only [hc', cond_true]
      have := hv.lput off hx
      rw [lput_eq v.cells] at this
      exact ih this ho
theorem s_build (hr : SR B h0 F ρ st.nx st.ob h) {t : TypeId} {l : List (Nat × PV)} {l' : List (Nat × V)} (hl : PRn F ρ st.nx l l') {v : PV} (ht : (ov st (pbuild C.T st t l)).To v st') : OK B h0 F ρ st h [] (okv h (dbuild C.T t l')) v st' := by
  simp only [To_ov] at ht
  obtain ⟨hb, rfl⟩ := ht
  unfold pbuild at hb
  split at hb
  case h_3 => cases hb
  case h_1 =>
    rename_i i fs hi hu
    split at hb
    case h_2 => cases hb
    rename_i pl hpl
    rw [Option.map_eq_some_iff] at hb
    obtain ⟨out, ho, rfl⟩ := hb
    obtain ⟨ys, g1, g2⟩ := pfill_rel hr hl (ofVs_rel i.zero) ho
    exact OK.pure hr (v' := .agg ys) (by simp only [dbuild, hi, hu, hpl, g1, Option.map_some, okv]) (by unfold PR; exact ⟨_, rfl, g2⟩)
  case h_2 =>
    rename_i i nn e hi hu
    split at hb
    case h_2 => cases hb
    rename_i j hj
    rw [Option.map_eq_some_iff] at hb
    obtain ⟨out, ho, rfl⟩ := hb
    obtain ⟨ys, g1, g2⟩ := pfill_rel hr hl (ofVs_rel i.zero) ho
    exact OK.pure hr (v' := .agg ys) (by simp only [dbuild, hi, hu, hj, g1, Option.map_some, okv]) (by unfold PR; exact ⟨_, rfl, g2⟩)

theorem chunk_rel {s : Sh} : ∀ {n : Nat} {ps : List PV} {vs : List V} {l : List s.T}, PRs F ρ N ps vs → chunk s n ps = some l → vs.length = n * s.sz → l.length = n ∧ DCL F s l vs
  | 0, ps, vs, l, hp, hd, hn => by
    cases hd
    simp at hn
    subst hn
    exact ⟨rfl, by simp [DCL]⟩
  | n + 1, ps, vs, l, hp, hd, hn => by
    unfold chunk at hd
    split at hd
    case h_2 => cases hd
    rename_i x rest hx
    rw [Option.map_eq_some_iff] at hd
    obtain ⟨l', h1, rfl⟩ := hd
    obtain ⟨a, b, rfl, h2, h3⟩ := unflat_rel hp hx
    have ha := h2.len
    have hb : b.length = n * s.sz := by rw [List.length_append, ha, Nat.succ_mul] at hn; omega
    obtain ⟨g1, g2⟩ := chunk_rel h3 h1 hb
    refine ⟨by simp [g1], by rw [List.length_append, ha, hb, List.length_cons, g1, Nat.succ_mul]; omega, fun i hi => ?_⟩
    cases i with
    | zero =>
      simp only [Nat.zero_mul, List.drop_zero, List.getElem_cons_zero]
      rw [← ha, List.take_left]; exact h2
    | succ i =>
      simp only [List.getElem_cons_succ]
      have hi' : i < l'.length := by simpa using hi
      have := g2.2 i hi'
      have e : (a ++ b).drop ((i + 1) * s.sz) = b.drop (i * s.sz) := by
        rw [Nat.succ_mul, Nat.add_comm, drop_add, ← ha, List.drop_left]
      rw [e]; exact this
theorem pzeros_rel (z : List V) : ∀ n, PRs F ρ N (pzeros (z.map ofV) n) ((List.replicate n z).flatten)
  | 0 => by simp [pzeros]
  | n + 1 => by
    simp only [pzeros, List.replicate_succ, List.flatten_cons]
    exact (ofVs_rel z).append (pzeros_rel z n)
theorem zeros_flat (z : List V) : ∀ n, zeros z (n * z.length) = (List.replicate n z).flatten := by
  intro n
  apply List.ext_getElem?
  intro i
  unfold zeros
  by_cases hz : z.length = 0
  · have : z = [] := List.length_eq_zero_iff.1 hz
    subst this
    have : (List.replicate n ([] : List V)).flatten = [] := by induction n with | zero => rfl | succ n ih => simp [List.replicate_succ]
    rw [this]; simp
  · have hpos : 0 < z.length := Nat.pos_of_ne_zero hz
    induction n generalizing i with
    | zero => simp
    | succ n ih =>
      rw [List.replicate_succ, List.flatten_cons]
      by_cases hi : i < z.length
      · rw [List.getElem?_append_left hi, List.getElem?_map, List.getElem?_range (by rw [Nat.succ_mul]; omega)]
        simp only [Option.map_some, Nat.mod_eq_of_lt hi]
        simp [List.getD_eq_getElem?_getD, hi]
      · rw [List.getElem?_append_right (by omega), ← ih (i - z.length)]
        rw [List.getElem?_map, List.getElem?_map]
        by_cases h2 : i < (n + 1) * z.length
        · rw [List.getElem?_range h2, List.getElem?_range (by rw [Nat.succ_mul] at h2; omega)]
          simp only [Option.map_some]
          rw [Nat.mod_eq_sub_mod (by omega)]
        · rw [List.getElem?_eq_none (by simp; omega), List.getElem?_eq_none (by simp; rw [Nat.succ_mul] at h2; omega)]
theorem pr_sl0 {sz n : Nat} {o : Nat} (ho : o = 0 ∨ o = sz) : PR F (setR ρ N (some (h.nx, n))) (N + 1) (.sl N sz 0 n none) (.sl h.nx 0 n n o) := by
  unfold PR
  refine ⟨Nat.lt_succ_self _, fun b m hb => .inl ?_⟩
  simp [setR] at hb
  obtain ⟨rfl, rfl⟩ := hb
  exact ⟨Nat.le_refl _, by show 0 + n ≤ n; omega, o, ho, by rw [Nat.zero_mul]; rfl⟩
theorem dfill_len {place : Nat → Option (Nat × Nat)} : ∀ {l : List (Nat × V)} {xs ys : List V}, dfill place xs l = some ys → ys.length = xs.length
  | [], xs, ys, h => by cases h; rfl
  | (i, v) :: l, xs, ys, h => by
    unfold dfill at h
    split at h
    · cases h
    · rename_i off size _
      cases hc : (Nat.beq v.cells.length size && Nat.ble (off + size) xs.length) with
      | false => rw [hc] at h; cases h
      | true =>
        rw [hc] at h
        rw [dfill_len h, lset_length]
theorem s_bslice (hr : SR B h0 F ρ st.nx st.ob h) {t : TypeId} {n : Nat} {l : List (Nat × PV)} {l' : List (Nat × V)} (hl : PRn F ρ st.nx l l') {v : PV} (ht : (pbslice C.T t n l st).To v st') : OK B h0 F ρ st h [] (okp (dbslice C.T h t n l')) v st' := by
  unfold pbslice at ht
  split at ht
  case h_2 => simp at ht
  rename_i e hu
  split at ht
  case h_2 => simp at ht
  rename_i i s hi hs
  cases hc : (Nat.ble (Nat.mul n i.size) 16777216 && Nat.blt 0 i.zero.length && Nat.beq i.zero.length i.size && Nat.beq i.size s.sz) with
  | false => rw [hc] at ht; simp at ht
  | true =>
    rw [hc] at ht
    simp only [Bool.and_eq_true] at hc
    obtain ⟨⟨⟨c1, c2⟩, c3⟩, c4⟩ := hc
    simp only [cond_true] at ht
    split at ht
    case h_2 => simp at ht
    rename_i cs hcs
    split at ht
    case h_2 => simp at ht
    rename_i el hel
    simp only [To_val] at ht
    obtain ⟨rfl, rfl⟩ := ht
    have e3 := Nat.eq_of_beq_eq_true c3
    have e4 := Nat.eq_of_beq_eq_true c4
    have hz : PRs F ρ st.nx (pzeros (i.zero.map ofV) n) (zeros i.zero (n * i.size)) := by
      rw [← e3, zeros_flat]; exact pzeros_rel _ _
    obtain ⟨ys, g1, g2⟩ := pfill_rel hr hl hz hcs
    have hlen : ys.length = n * s.sz := by
      rw [← e4]
      rw [dfill_len g1]
      simp [zeros]
    obtain ⟨k1, k2⟩ := chunk_rel g2 hel hlen
    have hd : dbslice C.T h t n l' = some (.sl h.nx 0 n n 0, h.push (.cells ys e (0, 0))) := by
      have c1' : Nat.ble (n * i.size) 16777216 = true := c1
      simp only [dbslice, hu, hi, c1', c2, c3, Bool.and_self, cond_true, g1, dnew]
    rw [hd]
    exact OK.new hr (o := .arr false e s el) (n := n) rfl ⟨_, _, rfl, k2.mono (fun _ _ h => h), Nat.le_refl _, k1⟩ (pr_sl0 (.inl rfl))
end
end Go.Pe
end
section
/- What the evaluator for unknown inputs says of operations is what Det does: make, append. -/
namespace Go.Pe
open Go.Det
section
variable {B : Nat} {h0 : H0} {F : Fz} {ρ : Rho} {N : Nat} {C : Ctx} {st st' : PSt} {fr : Fr} {h h' : H}

theorem DCL.nil {s : Sh} : DCL F s [] [] := ⟨by simp, fun i hi => by simp at hi⟩
theorem DCL.cons {s : Sh} {x : s.T} {l : List s.T} {a b : List V} (ha : DC F s x a) (hb : DCL F s l b) : DCL F s (x :: l) (a ++ b) := by
  refine ⟨by rw [List.length_append, ha.len, hb.1, List.length_cons, Nat.succ_mul]; omega, fun i hi => ?_⟩
  cases i with
  | zero =>
    simp only [Nat.zero_mul, List.drop_zero, List.getElem_cons_zero]
    rw [← ha.len, List.take_left]; exact ha
  | succ i =>
    have e : (a ++ b).drop ((i + 1) * s.sz) = b.drop (i * s.sz) := by
      rw [Nat.succ_mul, Nat.add_comm, drop_add, ← ha.len, List.drop_left]
    rw [e]; exact hb.2 i (by simpa using hi)
theorem DCL.uncons {s : Sh} {x : s.T} {l : List s.T} {cs : List V} (h : DCL F s (x :: l) cs) : ∃ a b, cs = a ++ b ∧ DC F s x a ∧ DCL F s l b := by
  have h0 := h.2 0 (by simp)
  simp only [Nat.zero_mul, List.drop_zero, List.getElem_cons_zero] at h0
  refine ⟨cs.take s.sz, cs.drop s.sz, (List.take_append_drop _ _).symm, h0, ?_, fun i hi => ?_⟩
  · rw [List.length_drop, h.1, List.length_cons, Nat.succ_mul]; omega
  · have := h.2 (i + 1) (by simpa using hi)
    rw [← drop_add, Nat.add_comm, ← Nat.succ_mul]; exact this
theorem DCL.append {s : Sh} : ∀ {l m : List s.T} {a b : List V}, DCL F s l a → DCL F s m b → DCL F s (l ++ m) (a ++ b)
  | [], m, a, b, h, h' => by
    have : a = [] := List.length_eq_zero_iff.1 (by rw [h.1]; simp)
    subst this; simpa using h'
  | x :: l, m, a, b, h, h' => by
    obtain ⟨c, d, rfl, h1, h2⟩ := h.uncons
    rw [List.append_assoc, List.cons_append]
    exact DCL.cons h1 (h2.append h')
theorem DCL.replicate {s : Sh} {z : s.T} {c : List V} (hz : DC F s z c) : ∀ n, DCL F s (List.replicate n z) ((List.replicate n c).flatten)
  | 0 => DCL.nil
  | n + 1 => by
    rw [List.replicate_succ, List.replicate_succ, List.flatten_cons]
    exact DCL.cons hz (DCL.replicate hz n)
theorem DCL.ones {s : Sh} : ∀ {l : List s.T} {a : List V}, DCL F s l a → a.all V.one = true
  | [], a, h => by
    have : a = [] := List.length_eq_zero_iff.1 (by rw [h.1]; simp)
    subst this; rfl
  | x :: l, a, h => by
    obtain ⟨c, d, rfl, h1, h2⟩ := h.uncons
    rw [List.all_append, h2.ones, Bool.and_true]
    exact List.all_eq_true.2 h1.ones
theorem DCL.part {s : Sh} {l : List s.T} {cs : List V} (h : DCL F s l cs) {off len : Nat} (hl : off + len ≤ l.length) : DCL F s ((l.drop off).take len) ((cs.drop (off * s.sz)).take (len * s.sz)) := by
  have hle : (off + len) * s.sz ≤ l.length * s.sz := Nat.mul_le_mul_right _ hl
  rw [Nat.add_mul] at hle
  have h1 := h.1
  refine ⟨by simp; rw [Nat.min_eq_left (by omega), Nat.min_eq_left (by omega)], fun i hi => ?_⟩
  have hi' : i < len := by simp at hi; omega
  have hi2 : (i + 1) * s.sz ≤ len * s.sz := Nat.mul_le_mul_right _ hi'
  rw [Nat.succ_mul] at hi2
  rw [List.getElem_take, List.getElem_drop]
  have := h.2 (off + i) (by omega)
  have e : (((cs.drop (off * s.sz)).take (len * s.sz)).drop (i * s.sz)).take s.sz = (cs.drop ((off + i) * s.sz)).take s.sz := by
    rw [List.drop_take, List.take_take, List.drop_drop, Nat.add_mul, Nat.min_eq_left (by omega)]
  rw [e]; exact this

theorem s_make (hr : SR B h0 F ρ st.nx st.ob h) {t : TypeId} {p q : PV} {x y : V} (hx : PR F ρ st.nx p x) (hy : PR F ρ st.nx q y) {v : PV} (ht : (pmake C.T t p q st).To v st') : OK B h0 F ρ st h [] (okp (dmake C.T h t x y)) v st' := by
  unfold pmake at ht
  split at ht
  case h_2 => simp at ht
  rename_i e k l k' c hu
  obtain rfl := pr_int hx
  obtain rfl := pr_int hy
  split at ht
  case h_2 => simp at ht
  rename_i i s hi hs
  cases hc : (Nat.blt 0 i.zero.length && Nat.beq i.zero.length i.size && Nat.beq i.size s.sz) with
  | false => rw [hc] at ht; simp at ht
  | true =>
    rw [hc] at ht
    simp only [Bool.and_eq_true] at hc
    obtain ⟨⟨c2, c3⟩, c4⟩ := hc
    simp only [cond_true] at ht
    split at ht
    case h_2 => simp at ht
    rename_i z hz
    simp only [To_chk, Bool.and_eq_true, decide_eq_true_eq] at ht
    obtain ⟨⟨⟨⟨k1, k2⟩, k3⟩, k4⟩, rfl, rfl⟩ := ht
    have k2' : l = c := k2
    subst k2'
    obtain ⟨n, rfl, hn⟩ := ofNat_of k1
    rw [hn] at k3 ⊢
    have e3 := Nat.eq_of_beq_eq_true c3
    have e4 := Nat.eq_of_beq_eq_true c4
    have hd : dmake C.T h t (.int k (Int.ofNat n)) (.int k' (Int.ofNat n)) = some (.sl h.nx 0 n n 0, h.push (.cells (zeros i.zero (n * i.size)) e (0, 0))) := by
      have a1 : Nat.ble n n = true := Nat.ble_eq_true_of_le (Nat.le_refl _)
      have a2 : Nat.blt n 9223372036854775808 = true := blt_true (by have : (Int.ofNat n : Int) < 9223372036854775808 := k4; simp at this; omega)
      have a3 : Nat.ble (i.bytes * n) 281474976710656 = true := Nat.ble_eq_true_of_le k3
      simp only [dmake, hu, hi, a1, a2, a3, c2, c3, Bool.and_self, cond_true, dnew]
    rw [hd]
    have hzc := unflat1_rel (ofVs_rel (F := F) (ρ := ρ) (N := st.nx) i.zero) hz
    have hcells : DCL F s (List.replicate n z) (zeros i.zero (n * i.size)) := by
      rw [← e3, zeros_flat]; exact DCL.replicate hzc n
    exact OK.new hr (o := .arr false e s (List.replicate n z)) (n := n) rfl ⟨_, _, rfl, hcells, Nat.le_refl _, by simp⟩ (pr_sl0 (.inl rfl))

/-- the elements of a slice -/
theorem elems_rel (hr : SR B h0 F ρ st.nx st.ob h) {s : Sh} {p : PV} {x : V} (hx : PR F ρ st.nx p x) {c : Bool} {l : List s.T} (hd : pelems st s p = some (c, l)) (hc : c = true) :
    slen x = some l.length ∧ notStr x = true ∧ ∃ cs, src h s.sz x l.length = some cs ∧ DCL F s l cs := by
  unfold pelems at hd
  split at hd
  case h_1 =>
    cases hd
    simp only [PR] at hx; subst hx
    exact ⟨rfl, rfl, [], rfl, DCL.nil⟩
  case h_2 =>
    rename_i s' l'
    rw [Option.map_eq_some_iff] at hd
    obtain ⟨r, h1, h2⟩ := hd
    obtain ⟨e, he⟩ := castD_eq h1
    have e' : s' = s := by cases e; rfl
    subst e'
    have : r = l' := by have := he; cases this; rfl
    subst this
    cases h2
    simp only [PR, DC] at hx
    obtain ⟨u, hu1, hx⟩ := hx
    obtain rfl : x = u := by simpa using hu1
    rcases hx with ⟨rfl, rfl | rfl⟩ | ⟨b, off, cap, o, bs, rfl, g1, g2, g3, g5, g4⟩
    · exact ⟨rfl, rfl, [], rfl, DCL.nil⟩
    · exact ⟨rfl, rfl, [], rfl, DCL.nil⟩
    · obtain ⟨te, fz, hg⟩ := hr.frz b bs g2
      refine ⟨rfl, rfl, _, rd_some hg g3, ?_, fun i hi => ?_⟩
      · simp; rw [Nat.min_eq_left (by omega)]
      · have hi2 : (i + 1) * s'.sz ≤ l.length * s'.sz := Nat.mul_le_mul_right _ hi
        rw [Nat.succ_mul] at hi2
        have e : (((bs.drop off).take (l.length * s'.sz)).drop (i * s'.sz)).take s'.sz = (bs.drop (off + i * s'.sz)).take s'.sz := by
          rw [List.drop_take, List.take_take, List.drop_drop, Nat.min_eq_left (by omega)]
        rw [e]; exact g4 i hi
  case h_3 =>
    rename_i id sz off len cap
    split at hd
    case h_2 => cases hd
    rename_i fzb te s' l' ho
    cases hz : Nat.beq sz s'.sz with
    | false => rw [hz] at hd; cases hd
    | true =>
      rw [hz] at hd
      have hz := Nat.eq_of_beq_eq_true hz
      simp only [cond_true, Option.map_eq_some_iff] at hd
      obtain ⟨r, h1, h2⟩ := hd
      obtain ⟨e, he⟩ := castD_eq h1
      have e' : s' = s := by cases e; rfl
      subst e'
      have : r = l' := by have := he; cases this; rfl
      subst this
      cases h2
      simp only [decide_eq_true_eq] at hc
      obtain ⟨b, n, y, g1, g2, ⟨cs, fz, rfl, g3, g4, g5⟩, _⟩ := hr.at ho
      simp only [PR] at hx
      have hlen : ((r.drop off).take len).length = len := by simp; omega
      have hle : (off + len) * s'.sz ≤ r.length * s'.sz := Nat.mul_le_mul_right _ hc
      rw [Nat.add_mul] at hle
      rw [hlen]
      rcases hx.2 b n g1 with ⟨_, _, o, _, rfl⟩ | ⟨rfl, _, hof, rfl | ⟨off', rfl, hoff⟩⟩
      · refine ⟨rfl, rfl, _, rd_some g2 ?_, ?_⟩
        · rw [hz, g3.1]; exact hle
        · rw [hz]; exact g3.part hc
      · refine ⟨rfl, rfl, [], rfl, ?_⟩
        simpa using DCL.nil
      · refine ⟨rfl, rfl, _, rd_some g2 ?_, ?_⟩
        · rw [hz] at hoff; rw [g3.1]; simp at hle ⊢; omega
        · simp; exact DCL.nil
  case h_4 => cases hd
theorem SR.congr (hr : SR B h0 F ρ N st.ob h) (hg : ∀ c, h'.get c = h.get c) (hn : h'.nx = h.nx) : SR B h0 F ρ N st.ob h' :=
  ⟨fun id o ho => by obtain ⟨b, n, x, h1, h2, h3⟩ := hr.obj id o ho; exact ⟨b, n, x, h1, (hg b).trans h2, h3⟩, hr.inj, fun b cs hb => by obtain ⟨t, fz, h1⟩ := hr.frz b cs hb; exact ⟨t, fz, (hg b).trans h1⟩, hr.own, hr.dead,
    fun b hb => (hg b).trans (hr.old b hb), fun b o hb => by rw [hn]; exact hr.lt b o ((hg b).symm.trans hb), by rw [hn]; exact hr.le, hr.fo⟩
end
end Go.Pe
end
section
/- What the evaluator for unknown inputs says of operations is what Det does: append. -/
namespace Go.Pe
open Go.Det
section
variable {B : Nat} {h0 : H0} {F : Fz} {ρ : Rho} {N : Nat} {C : Ctx} {st st' : PSt} {fr : Fr} {h h' : H}

/-- a block that is nobody's becomes a new object's -/
theorem SR.adopt {ob : Ob} (hr : SR B h0 F ρ N ob h) {o : Obj} {x : O} {b n : Nat} (hg : h.get b = some x) (hfree : ∀ id o m, obGet ob id = some o → ρ id ≠ some (b, m)) (hF : F b = none) (hB : B ≤ b) (hf : o.frozen = false)
    (hx : ObR F (setR ρ N (some (b, n))) (N + 1) n o x) : SR B h0 F (setR ρ N (some (b, n))) (N + 1) ((N, o) :: ob) h := by
  have hl : Le F ρ N F (setR ρ N (some (b, n))) (N + 1) := Le.new _
  have hget : ∀ j, obGet ((N, o) :: ob) j = if j = N then some o else obGet ob j := by
    intro j
    simp only [obGet, beq_t]
    by_cases e : N = j
    · subst e; simp
    · rw [if_neg (fun h => e h.symm)]; simp [e]
  refine ⟨fun j oj hj => ?_, fun i j oi oj c m m' hi hj h1 h2 => ?_, hr.frz, fun id c m hb => ?_, fun j hj => ?_, hr.old, hr.lt, hr.le, hr.fo⟩
  · rw [hget] at hj
    by_cases e : j = N
    · subst e
      simp only [if_true, Option.some.injEq] at hj; subst hj
      exact ⟨b, n, x, by simp [setR], hg, hx, fun _ => hF, fun e => by rw [hf] at e; cases e⟩
    · rw [if_neg e] at hj
      obtain ⟨c, m, y, h1, h2, h3, h4⟩ := hr.obj j oj hj
      exact ⟨c, m, y, by simp [setR, e, h1], h2, h3.mono hl, h4⟩
  · rw [hget] at hi hj
    have key : ∀ k ok m, (if k = N then some o else obGet ob k) = some ok → setR ρ N (some (b, n)) k = some (c, m) → (k = N ∧ c = b) ∨ (k ≠ N ∧ obGet ob k = some ok ∧ ρ k = some (c, m) ∧ c ≠ b) := by
      intro k ok m hk hr'
      by_cases e : k = N
      · subst e; simp [setR] at hr'; exact .inl ⟨rfl, hr'.1.symm⟩
      · rw [if_neg e] at hk
        simp only [setR, e, if_false] at hr'
        exact .inr ⟨e, hk, hr', fun ec => hfree k ok m hk (ec ▸ hr')⟩
    rcases key i oi m hi h1 with ⟨e1, e2⟩ | ⟨e1, e2, e3, e4⟩ <;> rcases key j oj m' hj h2 with ⟨f1, f2⟩ | ⟨f1, f2, f3, f4⟩
    · rw [e1, f1]
    · exact absurd e2 f4
    · exact absurd f2 e4
    · exact hr.inj i j oi oj c m m' e2 f2 e3 f3
  · unfold setR at hb
    split at hb
    · rename_i e; cases hb; subst e; exact ⟨Nat.lt_succ_self _, hB⟩
    · have := hr.own id c m hb; exact ⟨by omega, this.2⟩
  · rw [hget] at hj
    by_cases e : j = N
    · rw [if_pos e] at hj; cases hj
    · rw [if_neg e] at hj; simp [setR, e, hr.dead j hj]

theorem lput_nil {off : Nat} {cs : List V} (h : off ≤ cs.length) : lput off [] cs = cs := by
  apply List.ext_getElem?
  intro j
  rw [lput_get (by simpa using h)]
  rw [if_neg (by simp)]

def headIds : List PV → List Nat
  | .sl id _ _ _ _ :: _ => [id]
  | _ => []

theorem s_append (hr : SR B h0 F ρ st.nx st.ob h) {ts : Array TypeId} {ps : List PV} {xs : List V} (hx : PRs F ρ st.nx ps xs) {v : PV} (ht : (pappend C.T ts ps st).To v st') : OK B h0 F ρ st h (headIds ps) (okp (dappend C.T h ts xs)) v st' := by
  unfold pappend at ht
  split at ht
  case h_2 => simp at ht
  rename_i t tx p q hts htx
  simp only [PRs] at hx
  obtain ⟨x, _, rfl, hx, y, _, rfl, hy, rfl⟩ := hx
  split at ht
  case h_2 => simp at ht
  rename_i e ex hu hux
  split at ht
  case h_2 => simp at ht
  rename_i i s hi hs
  cases hc : (Nat.blt 0 i.bytes && Nat.blt 0 i.size && Nat.beq i.zero.length i.size && Nat.beq i.size s.sz) with
  | false => rw [hc] at ht; simp at ht
  | true =>
    rw [hc] at ht
    simp only [Bool.and_eq_true] at hc
    obtain ⟨⟨⟨c1, c2⟩, c3⟩, c4⟩ := hc
    have e4 := Nat.eq_of_beq_eq_true c4
    simp only [cond_true] at ht
    split at ht
    case h_2 => simp at ht
    rename_i c new hel
    -- what Det does, up to the base
    have head : c = true → ∃ cs, src h i.size y new.length = some cs ∧ DCL F s new cs ∧ dappend C.T h ts [x, y] = (match x with
            | .nils => bif Nat.beq new.length 0 then some (.nils, h)
              else bif Nat.ble ((2 * new.length + 1000) * i.bytes) 281474976710656 then some (.sl h.nx 0 new.length new.length i.size, dnew h e cs) else none
            | .sl b off len cap o =>
              bif Nat.ble (len + new.length) cap then (wr h b (off + len * i.size) cs).map fun h' => (.sl b off (len + new.length) cap o, h')
              else bif Nat.ble ((2 * (len + new.length) + 1000) * i.bytes) 281474976710656 then
                match src h i.size x len with
                | some old =>
                  bif Nat.beq o 0 then some (.sl h.nx 0 (len + new.length) (len + new.length) i.size, dnew h e (old ++ cs))
                  else
                    match h.get b with
                    | some (.cells _ te fz) =>
                      bif Nat.beq off 0 && Nat.beq o i.size && Nat.beq te e && Nat.ble fz.2 fz.1 && cs.all V.one then some (.sl h.nx 0 (len + new.length) (len + new.length) i.size, (h.kill b).push (.cells (old ++ cs) e (0, 0)))
                      else none
                    | _ => none
                | none => none
              else none
            | _ => none) := by
      intro hc
      obtain ⟨g1, g2, cs, g3, g4⟩ := elems_rel hr hy hel hc
      rw [← e4] at g3
      refine ⟨cs, g3, g4, ?_⟩
      have hcond : (Nat.blt 0 i.bytes && Nat.blt 0 i.size && Nat.beq i.zero.length i.size && (Nat.beq i.size 1 || notStr y)) = true := by
        rw [c1, c2, c3, g2, Bool.or_true]; rfl
      have hint : isInt (.slice ex) = false := rfl
      simp only [dappend, hts, htx, hu, hux, g1, hi, hint, hcond, cond_true, g3]
      cases x <;> rfl
    split at ht
    case h_3 => simp at ht
    case h_1 =>
      simp only [To_chk, Bool.and_eq_true, decide_eq_true_eq] at ht
      obtain ⟨⟨⟨k1, k2⟩, k3⟩, rfl, rfl⟩ := ht
      obtain ⟨cs, g1, g2, g3⟩ := head k1
      simp only [PR] at hx; subst hx
      have b1 : Nat.beq new.length 0 = false := by rw [beq_t]; simp; intro e; rw [e] at k2; simp at k2
      have b2 : Nat.ble ((2 * new.length + 1000) * i.bytes) 281474976710656 = true := Nat.ble_eq_true_of_le k3
      rw [g3]
      simp only [b1, b2, cond_false, cond_true]
      exact OK.new hr (o := .arr false e s new) (n := new.length) rfl ⟨_, _, rfl, g2, Nat.le_refl _, rfl⟩ (pr_sl0 (.inr e4))
    case h_2 =>
      rename_i id sz off len cap
      split at ht
      case h_2 => simp at ht
      rename_i e' s' l ho
      split at ht
      case h_2 => simp at ht
      rename_i l' hl'
      obtain ⟨ecast, hcast⟩ := castD_eq hl'
      have es : s' = s := by cases ecast; rfl
      subst es
      have : l' = l := by have := hcast; cases this; rfl
      subst this
      cases hcc : (Nat.beq e e' && Nat.beq sz s'.sz) with
      | false => rw [hcc] at ht; simp at ht
      | true =>
        rw [hcc] at ht
        simp only [Bool.and_eq_true] at hcc
        have ee := Nat.eq_of_beq_eq_true hcc.1
        have esz := Nat.eq_of_beq_eq_true hcc.2
        subst ee
        subst esz
        simp only [cond_true] at ht
        split at ht
        case h_2 => simp at ht
        simp only [To_chk, Bool.and_eq_true, decide_eq_true_eq] at ht
        obtain ⟨⟨⟨⟨k1, k2⟩, k3⟩, k4⟩, rfl, rfl⟩ := ht
        subst k2
        obtain ⟨cs, g1, g2, g3⟩ := head k1
        obtain ⟨b, n, z, h1, h2, ⟨bs, fz, rfl, h3, h4, h5⟩, h6, _⟩ := hr.at ho
        have hFb := h6 rfl
        simp only [PR] at hx
        have hB := (hr.own id b n h1).2
        have hidN := (hr.own id b n h1).1
        obtain ⟨_, _, o, g5, rfl⟩ : len ≤ len ∧ 0 + len ≤ n ∧ ∃ o, (o = 0 ∨ o = s'.sz) ∧ x = .sl b (0 * s'.sz) len len o := by
          rcases hx.2 b n h1 with g | ⟨_, e, _⟩
          · exact g
          · cases e
        have hbl : bs.length = len * i.size := by rw [h3.1, k3, e4]
        have hfree : ∀ j oj m, obGet (obDel st.ob id) j = some oj → setR ρ id none j ≠ some (b, m) := by
          intro j oj m hj hjr
          rw [obGet_del] at hj
          split at hj
          · cases hj
          · rename_i hne
            simp only [setR, hne, if_false] at hjr
            exact hne (hr.inj j id oj _ b m n hj ho hjr h1)
        have hdel := hr.del id
        have hle1 : Le F ρ st.nx F (setR ρ id none) st.nx := Le.setNone id
        have hnew : DCL F s' (l' ++ new) (bs ++ cs) := h3.append g2
        have hlen : (l' ++ new).length = len + new.length := by rw [List.length_append, ← k3]
        have hone : cs.all V.one = true := g2.ones
        rw [g3]
        simp only
        by_cases hn : new.length = 0
        · -- nothing is appended
          have hnil : new = [] := List.length_eq_zero_iff.1 hn
          have hcs : cs = [] := List.length_eq_zero_iff.1 (by rw [g2.1, hn, Nat.zero_mul])
          subst hcs
          have b1 : Nat.ble (len + new.length) len = true := Nat.ble_eq_true_of_le (by omega)
          have hw : wr h b (0 * s'.sz + len * i.size) [] = some (h.put b (.cells (lput (0 * s'.sz + len * i.size) [] bs) e fz)) := wr_ok h2 (by rw [hbl]; simp) h4 rfl
          have hput : ∀ c, (h.put b (.cells (lput (0 * s'.sz + len * i.size) [] bs) e fz)).get c = h.get c := by
            intro c
            rw [lput_nil (by rw [hbl]; simp), H.get_put]
            by_cases e : c = b
            · rw [if_pos e, e, h2]
            · rw [if_neg e]
          refine ⟨.sl b (0 * s'.sz) (len + new.length) len o, h.put b (.cells (lput (0 * s'.sz + len * i.size) [] bs) e fz), F, setR (setR ρ id none) st.nx (some (b, n)), .inl ?_, ?_, ?_, hle1.trans (Le.new _), rfl, rfl, Nat.le_refl _, fun c _ => .inl (hput c)⟩
          · simp only [b1, cond_true, hw, Option.map_some, okp]
          · unfold PR
            refine ⟨Nat.lt_succ_self _, fun b' n' hb => .inl ?_⟩
            simp [setR] at hb
            obtain ⟨rfl, rfl⟩ := hb
            refine ⟨Nat.le_refl _, ?_, o, g5, ?_⟩
            · show 0 + (len + new.length) ≤ n; omega
            · show V.sl b (0 * s'.sz) (len + new.length) len o = .sl b (0 * s'.sz) (len + new.length) (len + new.length) o
              rw [hn]; rfl
          · refine SR.adopt (ob := obDel st.ob id) ?_ (x := .cells bs e fz) ((hput b).trans h2) hfree hFb hB rfl ⟨bs, fz, rfl, ?_, h4, ?_⟩
            · exact SR.congr (st := ⟨st.n, st.fr, obDel st.ob id, st.nx⟩) hdel hput rfl
            · rw [hnil, List.append_nil]; exact h3
            · rw [hnil, List.append_nil]; exact h5
        · -- the array grows
          have b1 : Nat.ble (len + new.length) len = false := by
            cases hb : Nat.ble (len + new.length) len with
            | false => rfl
            | true => have := Nat.le_of_ble_eq_true hb; omega
          have b2 : Nat.ble ((2 * (len + new.length) + 1000) * i.bytes) 281474976710656 = true := Nat.ble_eq_true_of_le k4
          have hsrc : src h i.size (.sl b (0 * s'.sz) len len o) len = some bs := by
            show rd h b (0 * s'.sz) (len * i.size) = _
            rw [rd_some h2 (by rw [hbl, Nat.zero_mul]; omega)]
            rw [Nat.zero_mul, List.drop_zero, ← hbl, List.take_length]
          simp only [b1, b2, cond_false, cond_true, hsrc]
          have fin : ∀ {h1' : H}, SR B h0 F (setR ρ id none) st.nx (obDel st.ob id) h1' → h1'.nx = h.nx → (∀ c, c ≠ b → h1'.get c = h.get c) →
              OK B h0 F ρ st h [id] (okp (some (.sl h.nx 0 (len + new.length) (len + new.length) i.size, h1'.push (.cells (bs ++ cs) e (0, 0))))) (.sl st.nx s'.sz 0 (Nat.add len new.length) none) ((st.delObj id).push (.arr false e s' (l' ++ new))) := by
            intro h1' hr1 hnx hg
            have hp := hr1.push (o := .arr false e s' (l' ++ new)) (x := .cells (bs ++ cs) e (0, 0)) (n := len + new.length) rfl ⟨_, _, rfl, hnew, Nat.le_refl _, hlen⟩
            refine ⟨_, _, F, _, .inl rfl, ?_, hp, hle1.trans (Le.new _), rfl, rfl, by show h.nx ≤ h1'.nx + 1; omega, fun c hc => ?_⟩
            · rw [← hnx]; exact pr_sl0 (.inr e4)
            · rw [H.get_push, if_neg (by omega)]
              by_cases e : c = b
              · exact .inr ⟨id, List.mem_singleton.2 rfl, n, e ▸ h1⟩
              · exact .inl (hg c e)
          rcases g5 with rfl | rfl
          · simp only [Nat.beq_refl, cond_true]
            exact fin hdel rfl (fun _ _ => rfl)
          · have b3 : Nat.beq s'.sz 0 = false := by
              rw [← e4]
              cases hb : Nat.beq i.size 0 with
              | false => rfl
              | true => have := Nat.eq_of_beq_eq_true hb; rw [this] at c2; cases c2
            have b4 : (Nat.beq (0 * s'.sz) 0 && Nat.beq s'.sz i.size && Nat.beq e e && Nat.ble fz.2 fz.1 && cs.all V.one) = true := by
              rw [Nat.zero_mul, e4, hone, Nat.ble_eq_true_of_le h4]; simp
            simp only [b3, cond_false, h2, b4, cond_true]
            exact fin (hdel.kill hfree hFb hB) rfl (fun c hc => by rw [H.get_kill, if_neg hc])
end
end Go.Pe
end
