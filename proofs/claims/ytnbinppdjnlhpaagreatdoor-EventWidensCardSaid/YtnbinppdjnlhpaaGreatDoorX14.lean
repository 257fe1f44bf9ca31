import Derived.Test.YtnbinppdjnlhpaaGreatDoorX13
/- A part of the proofs of the laws of one chapter (no law is stated here). Made by program out of texts by AI agents. -/
section
namespace Go.Pe
open Go.Det
section
variable {B : Nat} {h0 : H0} {F : Fz} {ρ : Rho} {N : Nat} {C : Ctx} {st st' : PSt} {fr : Fr} {h : H}
theorem MR.len {ks vs : Sh} {l : List (ks.T × vs.T)} {es : List (V × V × Nat)} (h : MR F ks vs l es) : l.length = es.length := by
  induction h with
  | nil => rfl
  | cons _ _ _ ih => simp [ih]
theorem s_len0 (hr : SR B h0 F ρ st.nx st.ob h) {ts : Array TypeId} {ps : List PV} {xs : List V} (hx : PRs F ρ st.nx ps xs) {v : PV} (ht : (plen0 C.T ts ps st).To v st') : OK B h0 F ρ st h [] (okv h (dlen C.T h ts xs)) v st' := by
  unfold plen0 at ht
  split at ht
  case h_2 => simp at ht
  rename_i t p hts
  simp only [PRs] at hx
  obtain ⟨x, xs', rfl, hx, rfl⟩ := hx
  split at ht
  case h_6 => simp at ht
  case h_1 =>
    rename_i s hu
    simp only [To_val] at ht
    obtain ⟨rfl, rfl⟩ := ht
    obtain rfl := pr_str hx
    exact OK.pure hr (by simp only [dlen, hts, hu, okv]; rfl) (mk_int _ _)
  case h_2 =>
    rename_i s l hu
    simp only [To_val] at ht
    obtain ⟨rfl, rfl⟩ := ht
    simp only [PR, DC] at hx
    obtain ⟨u, hu1, hx⟩ := hx
    obtain rfl : x = u := by simpa using hu1
    rcases hx with ⟨rfl, rfl | rfl | rfl⟩ | ⟨b, off, cap, o, bs, rfl, _⟩
    · exact OK.pure hr (by simp only [dlen, hts, hu, okv]; rfl) (mk_int _ _)
    · exact OK.pure hr (by simp only [dlen, hts, hu, okv]; rfl) (mk_int _ _)
    · exact OK.pure hr (by simp only [dlen, hts, hu, okv]; rfl) (mk_int _ _)
    · exact OK.pure hr (by simp only [dlen, hts, hu, okv]; rfl) (mk_int _ _)
  case h_3 =>
    rename_i id sz off len cap hu
    cases hl : isS (st.obj id) with
    | false => rw [hl] at ht; simp at ht
    | true =>
      rw [hl] at ht
      simp only [cond_true, To_val] at ht
      obtain ⟨rfl, rfl⟩ := ht
      obtain ⟨b, n, h1⟩ := hr.live hl
      simp only [PR] at hx
      rcases hx.2 b n h1 with ⟨_, _, o, _, rfl⟩ | ⟨rfl, _, _, rfl | ⟨_, rfl, _⟩⟩
      · exact OK.pure hr (by simp only [dlen, hts, hu, okv]; rfl) (mk_int _ _)
      · exact OK.pure hr (by simp only [dlen, hts, hu, okv]; rfl) (mk_int _ _)
      · exact OK.pure hr (by simp only [dlen, hts, hu, okv]; rfl) (mk_int _ _)
  case h_4 =>
    rename_i hu
    simp only [To_val] at ht
    obtain ⟨rfl, rfl⟩ := ht
    simp only [PR] at hx; subst hx
    exact OK.pure hr (by simp only [dlen, hts, hu, okv]; rfl) (mk_int _ _)
  case h_5 =>
    rename_i id hu
    split at ht
    case h_2 => simp at ht
    rename_i ks vs l ho
    simp only [To_val] at ht
    obtain ⟨rfl, rfl⟩ := ht
    obtain ⟨b, n, y, h1, h2, ⟨es, clk, rfl, h3⟩, _⟩ := hr.at ho
    simp only [PR] at hx
    obtain rfl := hx.2 b n h1
    have hl : l.length = es.length := h3.len
    refine OK.pure hr (v' := i64 es.length) (by simp only [dlen, hts, hu, h2, okv]) ?_
    rw [← hl]; exact mk_int _ _
theorem s_len (hr : SR B h0 F ρ st.nx st.ob h) {ts : Array TypeId} {ps : List PV} {xs : List V} (hx : PRs F ρ st.nx ps xs) {v : PV} (ht : (plen C.T ts ps st).To v st') : OK B h0 F ρ st h [] (okv h (dlen C.T h ts xs)) v st' := s_len0 hr hx.lz ht
theorem s_mm (hr : SR B h0 F ρ st.nx st.ob h) {f : Int → Int → Int} {g : V → V → Option V} (hg : ∀ k x y, g (.int k x) (.int k y) = some (.int k (f x y))) {ps : List PV} {xs : List V} (hx : PRs F ρ st.nx ps xs) {v : PV}
    (ht : (pminmax f ps st).To v st') : OK B h0 F ρ st h [] (okv h (dminmax g xs)) v st' := by
  have key : ∀ (ps : List PV) (xs : List V) (k : IntKind) (x z : Int), PRs F ρ st.nx ps xs → pmm f k x ps = some z → dfold g (.int k x) xs = some (.int k z) := by
    intro ps
    induction ps with
    | nil => intro xs k x z hx hz; simp at hx; subst hx; simp only [pmm, Option.some.injEq] at hz; subst hz; rfl
    | cons p ps ih =>
      intro xs k x z hx hz
      simp only [PRs] at hx
      obtain ⟨u, us, rfl, h1, h2⟩ := hx
      unfold pmm at hz
      split at hz
      case h_1 => rename_i e; cases e
      case h_2 =>
        rename_i e
        cases e
        rename_i k' y
        cases hk : (k == k') with
        | false => rw [hk] at hz; cases hz
        | true =>
          rw [hk] at hz
          have hk := beq_iff_eq.1 hk
          subst hk
          obtain rfl := pr_int h1
          simp only [dfold, hg]
          exact ih us k _ z h2 hz
      case h_3 => cases hz
  unfold pminmax at ht
  split at ht
  case h_2 => simp at ht
  rename_i k x ys
  split at ht
  case h_2 => simp at ht
  rename_i z hz
  simp only [To_val] at ht
  obtain ⟨rfl, rfl⟩ := ht
  simp only [PRs] at hx
  obtain ⟨u, us, rfl, h1, h2⟩ := hx
  obtain rfl := pr_int h1
  exact OK.pure hr (v' := .int k z) (by simp only [dminmax, key ys us k x z h2 hz, okv]) (mk_int _ _)
/-- a new object, and a value that is its place -/
theorem OK.new (hr : SR B h0 F ρ st.nx st.ob h) {o : Obj} {x : O} {n : Nat} (hf : o.frozen = false) (hx : ObR F (setR ρ st.nx (some (h.nx, n))) (st.nx + 1) n o x) {v : PV} {v' : V}
    (hv : PR F (setR ρ st.nx (some (h.nx, n))) (st.nx + 1) v v') : OK B h0 F ρ st h [] (okp (some (v', h.push x))) v (st.push o) := by
  refine ⟨v', h.push x, F, _, .inl rfl, hv, hr.push hf hx, Le.new _, rfl, rfl, Nat.le_succ _, fun b hb => .inl ?_⟩
  rw [H.get_push, if_neg (by omega)]
theorem pr_ptr0 {n : Nat} : PR F (setR ρ N (some (h.nx, n))) (N + 1) (.ptr N 0) (.ptr h.nx 0) := by
  unfold PR
  exact ⟨Nat.lt_succ_self _, fun b m hb => by simp [setR] at hb; rw [hb.1]⟩
theorem s_alloc (hr : SR B h0 F ρ st.nx st.ob h) {t : TypeId} {v : PV} (ht : (q_alloc t C.T st).To v st') : OK B h0 F ρ st h [] (okp (dalloc C.T h t)) v st' := by
  unfold q_alloc pcells at ht
  split at ht
  case h_2 => simp at ht
  rename_i cs hcs
  rw [Option.bind_eq_some_iff] at hcs
  obtain ⟨i, hi, hcs⟩ := hcs
  cases hok : lall V.ok i.zero with
  | false => rw [hok] at hcs; cases hcs
  | true =>
  rw [hok] at hcs
  cases hcs
  rw [lall_eq] at hok
  simp only [To_val] at ht
  obtain ⟨rfl, rfl⟩ := ht
  have : dalloc C.T h t = some (.ptr h.nx 0, h.push (.cells i.zero t (0, 0))) := by simp [dalloc, hi, dnew]
  rw [this]
  exact OK.new hr (o := .box (i.zero.map ofV)) (n := 0) rfl ⟨_, _, _, rfl, ofVs_rel _, Nat.le_refl _, fun u hu => List.all_eq_true.1 hok u hu⟩ pr_ptr0
theorem s_box (hr : SR B h0 F ρ st.nx st.ob h) {t : TypeId} {p : PV} {x : V} (hx : PR F ρ st.nx p x) {cs : List PV} (hcs : pcs st p = some cs) (hs : cs.all (solid st) = true) : OK B h0 F ρ st h [] (okp (some (dbox h t x))) (.ptr st.nx 0) (st.push (.box cs)) :=
  OK.new hr (o := .box cs) (n := 0) rfl ⟨_, _, _, rfl, (pcs_rel hr hx hcs).mono (Le.new _), Nat.le_refl _, fun u hu => V.ok_of_one (List.all_eq_true.1 (solids_one hr hs (pcs_rel hr hx hcs)) u hu)⟩ pr_ptr0
theorem pfill_rel (hr : SR B h0 F ρ st.nx st.ob h) {place : Nat → Option (Nat × Nat)} : ∀ {l : List (Nat × PV)} {l' : List (Nat × V)}, PRn F ρ st.nx l l' → ∀ {cs : List PV} {xs : List V}, PRs F ρ st.nx cs xs → ∀ {out : List PV}, pfill st place cs l = some out →
    ∃ ys, dfill place xs l' = some ys ∧ PRs F ρ st.nx out ys := by
  intro l l' hl
  induction hl with
  | nil => intro cs xs hx out ho; cases ho; exact ⟨xs, rfl, hx⟩
  | @cons i p v l l' hp _ ih =>
    intro cs xs hx out ho
    unfold pfill at ho
    unfold dfill
    split at ho
    case h_1 => cases ho
    rename_i off size hpl
    split at ho
    case h_2 => cases ho
    rename_i vs hvs
    cases hc : (Nat.beq (Det.llen vs) size && Nat.ble (Nat.add off size) (Det.llen cs)) with
    | false => rw [hc] at ho; cases ho
    | true =>
      rw [hc] at ho
      have hv := pcs_rel hr hp hvs
      rw [llen_eq, llen_eq, hv.len, hx.len] at hc
      have hc' : (Nat.beq v.cells.length size && Nat.ble (off + size) xs.length) = true := hc
      rw [hpl]
      simp only [hc', cond_true]
      have := hv.lput off hx
      rw [lput_eq v.cells] at this
      exact ih this ho
theorem s_build (hr : SR B h0 F ρ st.nx st.ob h) {t : TypeId} {l : List (Nat × PV)} {l' : List (Nat × V)} (hl : PRn F ρ st.nx l l') {v : PV} (ht : (ov st (pbuild C.T st t l)).To v st') : OK B h0 F ρ st h [] (okv h (dbuild C.T t l')) v st' := by
  simp only [To_ov] at ht
  obtain ⟨hb, rfl⟩ := ht
  unfold pbuild at hb
  split at hb
  case h_3 => cases hb
  case h_1 =>
    rename_i i fs hi hu
    split at hb
    case h_2 => cases hb
    rename_i pl hpl
    rw [Option.map_eq_some_iff] at hb
    obtain ⟨out, ho, rfl⟩ := hb
    obtain ⟨ys, g1, g2⟩ := pfill_rel hr hl (ofVs_rel i.zero) ho
    exact OK.pure hr (v' := .agg ys) (by simp only [dbuild, hi, hu, hpl, g1, Option.map_some, okv]) (by unfold PR; exact ⟨_, rfl, g2⟩)
  case h_2 =>
    rename_i i nn e hi hu
    split at hb
    case h_2 => cases hb
    rename_i j hj
    rw [Option.map_eq_some_iff] at hb
    obtain ⟨out, ho, rfl⟩ := hb
    obtain ⟨ys, g1, g2⟩ := pfill_rel hr hl (ofVs_rel i.zero) ho
    exact OK.pure hr (v' := .agg ys) (by simp only [dbuild, hi, hu, hj, g1, Option.map_some, okv]) (by unfold PR; exact ⟨_, rfl, g2⟩)
theorem chunk_rel {s : Sh} : ∀ {n : Nat} {ps : List PV} {vs : List V} {l : List s.T}, PRs F ρ N ps vs → chunk s n ps = some l → vs.length = n * s.sz → l.length = n ∧ DCL F s l vs
  | 0, ps, vs, l, hp, hd, hn => by
    cases hd
    simp at hn
    subst hn
    exact ⟨rfl, by simp [DCL]⟩
  | n + 1, ps, vs, l, hp, hd, hn => by
    unfold chunk at hd
    split at hd
    case h_2 => cases hd
    rename_i x rest hx
    rw [Option.map_eq_some_iff] at hd
    obtain ⟨l', h1, rfl⟩ := hd
    obtain ⟨a, b, rfl, h2, h3⟩ := unflat_rel hp hx
    have ha := h2.len
    have hb : b.length = n * s.sz := by rw [List.length_append, ha, Nat.succ_mul] at hn; omega
    obtain ⟨g1, g2⟩ := chunk_rel h3 h1 hb
    refine ⟨by simp [g1], by rw [List.length_append, ha, hb, List.length_cons, g1, Nat.succ_mul]; omega, fun i hi => ?_⟩
    cases i with
    | zero =>
      simp only [Nat.zero_mul, List.drop_zero, List.getElem_cons_zero]
      rw [← ha, List.take_left]; exact h2
    | succ i =>
      simp only [List.getElem_cons_succ]
      have hi' : i < l'.length := by simpa using hi
      have := g2.2 i hi'
      have e : (a ++ b).drop ((i + 1) * s.sz) = b.drop (i * s.sz) := by
        rw [Nat.succ_mul, Nat.add_comm, drop_add, ← ha, List.drop_left]
      rw [e]; exact this
theorem pzeros_rel (z : List V) : ∀ n, PRs F ρ N (pzeros (z.map ofV) n) ((List.replicate n z).flatten)
  | 0 => by simp [pzeros]
  | n + 1 => by
    simp only [pzeros, List.replicate_succ, List.flatten_cons]
    exact (ofVs_rel z).append (pzeros_rel z n)
theorem zeros_flat (z : List V) : ∀ n, zeros z (n * z.length) = (List.replicate n z).flatten := by
  intro n
  apply List.ext_getElem?
  intro i
  unfold zeros
  by_cases hz : z.length = 0
  · have : z = [] := List.length_eq_zero_iff.1 hz
    subst this
    have : (List.replicate n ([] : List V)).flatten = [] := by induction n with | zero => rfl | succ n ih => simp [List.replicate_succ]
    rw [this]; simp
  · have hpos : 0 < z.length := Nat.pos_of_ne_zero hz
    induction n generalizing i with
    | zero => simp
    | succ n ih =>
      rw [List.replicate_succ, List.flatten_cons]
      by_cases hi : i < z.length
      · rw [List.getElem?_append_left hi, List.getElem?_map, List.getElem?_range (by rw [Nat.succ_mul]; omega)]
        simp only [Option.map_some, Nat.mod_eq_of_lt hi]
        simp [List.getD_eq_getElem?_getD, hi]
      · rw [List.getElem?_append_right (by omega), ← ih (i - z.length)]
        rw [List.getElem?_map, List.getElem?_map]
        by_cases h2 : i < (n + 1) * z.length
        · rw [List.getElem?_range h2, List.getElem?_range (by rw [Nat.succ_mul] at h2; omega)]
          simp only [Option.map_some]
          rw [Nat.mod_eq_sub_mod (by omega)]
        · rw [List.getElem?_eq_none (by simp; omega), List.getElem?_eq_none (by simp; rw [Nat.succ_mul] at h2; omega)]
theorem pr_sl0 {sz n : Nat} {o : Nat} (ho : o = 0 ∨ o = sz) : PR F (setR ρ N (some (h.nx, n))) (N + 1) (.sl N sz 0 n none) (.sl h.nx 0 n n o) := by
  unfold PR
  refine ⟨Nat.lt_succ_self _, fun b m hb => .inl ?_⟩
  simp [setR] at hb
  obtain ⟨rfl, rfl⟩ := hb
  exact ⟨Nat.le_refl _, by show 0 + n ≤ n; omega, o, ho, by rw [Nat.zero_mul]; rfl⟩
theorem dfill_len {place : Nat → Option (Nat × Nat)} : ∀ {l : List (Nat × V)} {xs ys : List V}, dfill place xs l = some ys → ys.length = xs.length
  | [], xs, ys, h => by cases h; rfl
  | (i, v) :: l, xs, ys, h => by
    unfold dfill at h
    split at h
    · cases h
    · rename_i off size _
      cases hc : (Nat.beq v.cells.length size && Nat.ble (off + size) xs.length) with
      | false => rw [hc] at h; cases h
      | true =>
        rw [hc] at h
        rw [dfill_len h, lset_length]
end
end Go.Pe
end
section
namespace Go.Pe
open Go.Det
section
variable {B : Nat} {h0 : H0} {F : Fz} {ρ : Rho} {N : Nat} {C : Ctx} {st st' : PSt} {fr : Fr} {h h' : H}
theorem DCL.nil {s : Sh} : DCL F s [] [] := ⟨by simp, fun i hi => by simp at hi⟩
theorem DCL.cons {s : Sh} {x : s.T} {l : List s.T} {a b : List V} (ha : DC F s x a) (hb : DCL F s l b) : DCL F s (x :: l) (a ++ b) := by
  refine ⟨by rw [List.length_append, ha.len, hb.1, List.length_cons, Nat.succ_mul]; omega, fun i hi => ?_⟩
  cases i with
  | zero =>
    simp only [Nat.zero_mul, List.drop_zero, List.getElem_cons_zero]
    rw [← ha.len, List.take_left]; exact ha
  | succ i =>
    have e : (a ++ b).drop ((i + 1) * s.sz) = b.drop (i * s.sz) := by
      rw [Nat.succ_mul, Nat.add_comm, drop_add, ← ha.len, List.drop_left]
    rw [e]; exact hb.2 i (by simpa using hi)
theorem DCL.uncons {s : Sh} {x : s.T} {l : List s.T} {cs : List V} (h : DCL F s (x :: l) cs) : ∃ a b, cs = a ++ b ∧ DC F s x a ∧ DCL F s l b := by
  have h0 := h.2 0 (by simp)
  simp only [Nat.zero_mul, List.drop_zero, List.getElem_cons_zero] at h0
  refine ⟨cs.take s.sz, cs.drop s.sz, (List.take_append_drop _ _).symm, h0, ?_, fun i hi => ?_⟩
  · rw [List.length_drop, h.1, List.length_cons, Nat.succ_mul]; omega
  · have := h.2 (i + 1) (by simpa using hi)
    rw [← drop_add, Nat.add_comm, ← Nat.succ_mul]; exact this
theorem DCL.append {s : Sh} : ∀ {l m : List s.T} {a b : List V}, DCL F s l a → DCL F s m b → DCL F s (l ++ m) (a ++ b)
  | [], m, a, b, h, h' => by
    have : a = [] := List.length_eq_zero_iff.1 (by rw [h.1]; simp)
    subst this; simpa using h'
  | x :: l, m, a, b, h, h' => by
    obtain ⟨c, d, rfl, h1, h2⟩ := h.uncons
    rw [List.append_assoc, List.cons_append]
    exact DCL.cons h1 (h2.append h')
theorem DCL.replicate {s : Sh} {z : s.T} {c : List V} (hz : DC F s z c) : ∀ n, DCL F s (List.replicate n z) ((List.replicate n c).flatten)
  | 0 => DCL.nil
  | n + 1 => by
    rw [List.replicate_succ, List.replicate_succ, List.flatten_cons]
    exact DCL.cons hz (DCL.replicate hz n)
theorem DCL.ones {s : Sh} : ∀ {l : List s.T} {a : List V}, DCL F s l a → a.all V.one = true
  | [], a, h => by
    have : a = [] := List.length_eq_zero_iff.1 (by rw [h.1]; simp)
    subst this; rfl
  | x :: l, a, h => by
    obtain ⟨c, d, rfl, h1, h2⟩ := h.uncons
    rw [List.all_append, h2.ones, Bool.and_true]
    exact List.all_eq_true.2 h1.ones
theorem DCL.part {s : Sh} {l : List s.T} {cs : List V} (h : DCL F s l cs) {off len : Nat} (hl : off + len ≤ l.length) : DCL F s ((l.drop off).take len) ((cs.drop (off * s.sz)).take (len * s.sz)) := by
  have hle : (off + len) * s.sz ≤ l.length * s.sz := Nat.mul_le_mul_right _ hl
  rw [Nat.add_mul] at hle
  have h1 := h.1
  refine ⟨by simp; rw [Nat.min_eq_left (by omega), Nat.min_eq_left (by omega)], fun i hi => ?_⟩
  have hi' : i < len := by simp at hi; omega
  have hi2 : (i + 1) * s.sz ≤ len * s.sz := Nat.mul_le_mul_right _ hi'
  rw [Nat.succ_mul] at hi2
  rw [List.getElem_take, List.getElem_drop]
  have := h.2 (off + i) (by omega)
  have e : (((cs.drop (off * s.sz)).take (len * s.sz)).drop (i * s.sz)).take s.sz = (cs.drop ((off + i) * s.sz)).take s.sz := by
    rw [List.drop_take, List.take_take, List.drop_drop, Nat.add_mul, Nat.min_eq_left (by omega)]
  rw [e]; exact this
theorem s_make (hr : SR B h0 F ρ st.nx st.ob h) {t : TypeId} {p q : PV} {x y : V} (hx : PR F ρ st.nx p x) (hy : PR F ρ st.nx q y) {v : PV} (ht : (pmake C.T t p q st).To v st') : OK B h0 F ρ st h [] (okp (dmake C.T h t x y)) v st' := by
  unfold pmake at ht
  split at ht
  case h_2 => simp at ht
  rename_i e k l k' c hu
  obtain rfl := pr_int hx
  obtain rfl := pr_int hy
  split at ht
  case h_2 => simp at ht
  rename_i i s hi hs
  cases hc : (Nat.blt 0 i.zero.length && Nat.beq i.zero.length i.size && Nat.beq i.size s.sz) with
  | false => rw [hc] at ht; simp at ht
  | true =>
    rw [hc] at ht
    simp only [Bool.and_eq_true] at hc
    obtain ⟨⟨c2, c3⟩, c4⟩ := hc
    simp only [cond_true] at ht
    split at ht
    case h_2 => simp at ht
    rename_i z hz
    simp only [To_chk, Bool.and_eq_true, decide_eq_true_eq] at ht
    obtain ⟨⟨⟨⟨k1, k2⟩, k3⟩, k4⟩, rfl, rfl⟩ := ht
    have k2' : l = c := k2
    subst k2'
    obtain ⟨n, rfl, hn⟩ := ofNat_of k1
    rw [hn] at k3 ⊢
    have e3 := Nat.eq_of_beq_eq_true c3
    have e4 := Nat.eq_of_beq_eq_true c4
    have hd : dmake C.T h t (.int k (Int.ofNat n)) (.int k' (Int.ofNat n)) = some (.sl h.nx 0 n n 0, h.push (.cells (zeros i.zero (n * i.size)) e (0, 0))) := by
      have a1 : Nat.ble n n = true := Nat.ble_eq_true_of_le (Nat.le_refl _)
      have a2 : Nat.blt n 9223372036854775808 = true := blt_true (by have : (Int.ofNat n : Int) < 9223372036854775808 := k4; simp at this; omega)
      have a3 : Nat.ble (i.bytes * n) 281474976710656 = true := Nat.ble_eq_true_of_le k3
      simp only [dmake, hu, hi, a1, a2, a3, c2, c3, Bool.and_self, cond_true, dnew]
    rw [hd]
    have hzc := unflat1_rel (ofVs_rel (F := F) (ρ := ρ) (N := st.nx) i.zero) hz
    have hcells : DCL F s (List.replicate n z) (zeros i.zero (n * i.size)) := by
      rw [← e3, zeros_flat]; exact DCL.replicate hzc n
    exact OK.new hr (o := .arr false e s (List.replicate n z)) (n := n) rfl ⟨_, _, rfl, hcells, Nat.le_refl _, by simp⟩ (pr_sl0 (.inl rfl))
/-- the elements of a slice -/
theorem elems_rel0 (hr : SR B h0 F ρ st.nx st.ob h) {s : Sh} {p : PV} {x : V} (hx : PR F ρ st.nx p x) {c : Bool} {l : List s.T} (hd : pelems0 st s p = some (c, l)) (hc : c = true) :
    slen x = some l.length ∧ notStr x = true ∧ ∃ cs, src h s.sz x l.length = some cs ∧ DCL F s l cs := by
  unfold pelems0 at hd
  split at hd
  case h_1 =>
    cases hd
    simp only [PR] at hx; subst hx
    exact ⟨rfl, rfl, [], rfl, DCL.nil⟩
  case h_2 =>
    rename_i s' l'
    rw [Option.map_eq_some_iff] at hd
    obtain ⟨r, h1, h2⟩ := hd
    obtain ⟨e, he⟩ := castD_eq h1
    have e' : s' = s := by cases e; rfl
    subst e'
    have : r = l' := by have := he; cases this; rfl
    subst this
    cases h2
    simp only [PR, DC] at hx
    obtain ⟨u, hu1, hx⟩ := hx
    obtain rfl : x = u := by simpa using hu1
    rcases hx with ⟨rfl, rfl | rfl | rfl⟩ | ⟨b, off, cap, o, bs, rfl, g1, g2, g3, g5, g4⟩
    · exact ⟨rfl, rfl, [], rfl, DCL.nil⟩
    · exact ⟨rfl, rfl, [], rfl, DCL.nil⟩
    · exact ⟨rfl, rfl, [], rfl, DCL.nil⟩
    · obtain ⟨te, fz, hg⟩ := hr.frz b bs g2
      suffices hD : DCL F s' l ((bs.drop off).take (l.length * s'.sz)) from ⟨rfl, rfl, _, rd_some hg g3 hD.ok, hD⟩
      refine ⟨?_, fun i hi => ?_⟩
      · simp; rw [Nat.min_eq_left (by omega)]
      · have hi2 : (i + 1) * s'.sz ≤ l.length * s'.sz := Nat.mul_le_mul_right _ hi
        rw [Nat.succ_mul] at hi2
        have e : (((bs.drop off).take (l.length * s'.sz)).drop (i * s'.sz)).take s'.sz = (bs.drop (off + i * s'.sz)).take s'.sz := by
          rw [List.drop_take, List.take_take, List.drop_drop, Nat.min_eq_left (by omega)]
        rw [e]; exact g4 i hi
  case h_3 =>
    rename_i id sz off len cap
    split at hd
    case h_2 => cases hd
    rename_i fzb te s' l' ho
    cases hz : Nat.beq sz s'.sz with
    | false => rw [hz] at hd; cases hd
    | true =>
      rw [hz] at hd
      have hz := Nat.eq_of_beq_eq_true hz
      simp only [cond_true, Option.map_eq_some_iff] at hd
      obtain ⟨r, h1, h2⟩ := hd
      obtain ⟨e, he⟩ := castD_eq h1
      have e' : s' = s := by cases e; rfl
      subst e'
      have : r = l' := by have := he; cases this; rfl
      subst this
      cases h2
      simp only [decide_eq_true_eq] at hc
      obtain ⟨b, n, y, g1, g2, ⟨cs, fz, rfl, g3, g4, g5⟩, _⟩ := hr.at ho
      simp only [PR] at hx
      have hlen : ((r.drop off).take len).length = len := by simp; omega
      have hle : (off + len) * s'.sz ≤ r.length * s'.sz := Nat.mul_le_mul_right _ hc
      rw [Nat.add_mul] at hle
      rw [hlen]
      rcases hx.2 b n g1 with ⟨_, _, o, _, rfl⟩ | ⟨rfl, _, hof, rfl | ⟨off', rfl, hoff⟩⟩
      · refine ⟨rfl, rfl, _, rd_some g2 ?_ ?_, ?_⟩
        · rw [hz, g3.1]; exact hle
        · rw [hz]; exact (g3.part hc).ok
        · rw [hz]; exact g3.part hc
      · refine ⟨rfl, rfl, [], rfl, ?_⟩
        simpa using DCL.nil
      · refine ⟨rfl, rfl, _, rd_some g2 ?_ ?_, ?_⟩
        · rw [hz] at hoff; rw [g3.1]; simp at hle ⊢; omega
        · simp
        · simp; exact DCL.nil
  case h_4 => cases hd
theorem elems_rel (hr : SR B h0 F ρ st.nx st.ob h) {s : Sh} {p : PV} {x : V} (hx : PR F ρ st.nx p x) {c : Bool} {l : List s.T} (hd : pelems st s p = some (c, l)) (hc : c = true) :
    slen x = some l.length ∧ notStr x = true ∧ ∃ cs, src h s.sz x l.length = some cs ∧ DCL F s l cs := elems_rel0 hr hx.lz hd hc
theorem SR.congr (hr : SR B h0 F ρ N st.ob h) (hg : ∀ c, h'.get c = h.get c) (hn : h'.nx = h.nx) : SR B h0 F ρ N st.ob h' :=
  ⟨fun id o ho => by obtain ⟨b, n, x, h1, h2, h3⟩ := hr.obj id o ho; exact ⟨b, n, x, h1, (hg b).trans h2, h3⟩, hr.inj, fun b cs hb => by obtain ⟨t, fz, h1⟩ := hr.frz b cs hb; exact ⟨t, fz, (hg b).trans h1⟩, hr.own, hr.dead,
    fun b hb => (hg b).trans (hr.old b hb), fun b o hb => by rw [hn]; exact hr.lt b o ((hg b).symm.trans hb), by rw [hn]; exact hr.le, hr.fo, fun c hc => by obtain ⟨g1, g2, g3⟩ := hr.pn c hc; exact ⟨(hg c).trans g1, g2, g3⟩⟩
end
end Go.Pe
end
section
namespace Go.Pe
open Go.Det
section
variable {B : Nat} {h0 : H0} {F : Fz} {ρ : Rho} {N : Nat} {C : Ctx} {st st' : PSt} {fr : Fr} {h h' : H}
/-- a block that is nobody's becomes a new object's -/
theorem SR.adopt {ob : Ob} (hr : SR B h0 F ρ N ob h) {o : Obj} {x : O} {b n : Nat} (hg : h.get b = some x) (hfree : ∀ id o m, obGet ob id = some o → ρ id ≠ some (b, m)) (hF : F b = none) (hB : B ≤ b) (hP : b ∉ h0.pin) (hf : o.frozen = false)
    (hx : ObR F (setR ρ N (some (b, n))) (N + 1) n o x) : SR B h0 F (setR ρ N (some (b, n))) (N + 1) ((N, o) :: ob) h := by
  have hl : Le F ρ N F (setR ρ N (some (b, n))) (N + 1) := Le.new _
  have hget : ∀ j, obGet ((N, o) :: ob) j = if j = N then some o else obGet ob j := by
    intro j
    simp only [obGet, beq_t]
    by_cases e : N = j
    · subst e; simp
    · rw [if_neg (fun h => e h.symm)]; simp [e]
  refine ⟨fun j oj hj => ?_, fun i j oi oj c m m' hi hj h1 h2 => ?_, hr.frz, fun id c m hb => ?_, fun j hj => ?_, hr.old, hr.lt, hr.le, hr.fo, fun c hc => ?_⟩
  · rw [hget] at hj
    by_cases e : j = N
    · subst e
      simp only [if_true, Option.some.injEq] at hj; subst hj
      exact ⟨b, n, x, by simp [setR], hg, hx, fun _ => hF, fun e => by rw [hf] at e; cases e⟩
    · rw [if_neg e] at hj
      obtain ⟨c, m, y, h1, h2, h3, h4⟩ := hr.obj j oj hj
      exact ⟨c, m, y, by simp [setR, e, h1], h2, h3.mono hl, h4⟩
  · rw [hget] at hi hj
    have key : ∀ k ok m, (if k = N then some o else obGet ob k) = some ok → setR ρ N (some (b, n)) k = some (c, m) → (k = N ∧ c = b) ∨ (k ≠ N ∧ obGet ob k = some ok ∧ ρ k = some (c, m) ∧ c ≠ b) := by
      intro k ok m hk hr'
      by_cases e : k = N
      · subst e; simp [setR] at hr'; exact .inl ⟨rfl, hr'.1.symm⟩
      · rw [if_neg e] at hk
        simp only [setR, e, if_false] at hr'
        exact .inr ⟨e, hk, hr', fun ec => hfree k ok m hk (ec ▸ hr')⟩
    rcases key i oi m hi h1 with ⟨e1, e2⟩ | ⟨e1, e2, e3, e4⟩ <;> rcases key j oj m' hj h2 with ⟨f1, f2⟩ | ⟨f1, f2, f3, f4⟩
    · rw [e1, f1]
    · exact absurd e2 f4
    · exact absurd f2 e4
    · exact hr.inj i j oi oj c m m' e2 f2 e3 f3
  · unfold setR at hb
    split at hb
    · rename_i e; cases hb; subst e; exact ⟨Nat.lt_succ_self _, hB⟩
    · have := hr.own id c m hb; exact ⟨by omega, this.2⟩
  · rw [hget] at hj
    by_cases e : j = N
    · rw [if_pos e] at hj; cases hj
    · rw [if_neg e] at hj; simp [setR, e, hr.dead j hj]
  · obtain ⟨g1, g2, g3⟩ := hr.pn c hc
    refine ⟨g1, g2, fun id m e => ?_⟩
    unfold setR at e
    split at e
    · cases e; exact hP hc
    · exact g3 id m e
theorem lput_nil {off : Nat} {cs : List V} (h : off ≤ cs.length) : lput off [] cs = cs := by
  apply List.ext_getElem?
  intro j
  rw [lput_get (by simpa using h)]
  rw [if_neg (by simp)]
theorem lput_splice {off : Nat} {vs cs : List V} (h : off + vs.length ≤ cs.length) : lput off vs cs = cs.take off ++ (vs ++ cs.drop (off + vs.length)) := by
  apply List.ext_getElem?
  intro j
  rw [lput_get h]
  by_cases h1 : j < off
  · rw [if_neg (by omega), List.getElem?_append_left (by simp; omega), List.getElem?_take_of_lt h1]
  · rw [List.getElem?_append_right (by simp; omega)]
    have hm : (cs.take off).length = off := by simp; omega
    rw [hm]
    by_cases h2 : j < off + vs.length
    · rw [if_pos ⟨by omega, h2⟩, List.getElem?_append_left (by omega)]
    · rw [if_neg (by omega), List.getElem?_append_right (by omega), List.getElem?_drop]
      congr 1; omega
theorem DCL.splice {s : Sh} {l new : List s.T} {cs ns : List V} {a : Nat} (h : DCL F s l cs) (hn : DCL F s new ns) (ha : a + new.length ≤ l.length) :
    DCL F s (l.take a ++ (new ++ l.drop (a + new.length))) (lput (a * s.sz) ns cs) := by
  have h1 := h.1
  have h2 := hn.1
  have hle : (a + new.length) * s.sz ≤ l.length * s.sz := Nat.mul_le_mul_right _ ha
  rw [lput_splice (by rw [h2, ← Nat.add_mul, h1]; exact hle)]
  have p1 := h.part (off := 0) (len := a) (by omega)
  have p2 := h.part (off := a + new.length) (len := l.length - (a + new.length)) (by omega)
  rw [Nat.zero_mul, List.drop_zero, List.drop_zero] at p1
  rw [List.take_of_length_le (by simp), List.take_of_length_le (by rw [List.length_drop, h1, ← Nat.sub_mul]; exact Nat.le_refl _)] at p2
  rw [h2, ← Nat.add_mul]
  exact p1.append (hn.append p2)
def headIds : List PV → List Nat
  | .sl id _ _ _ _ :: _ => [id]
  | _ => []
theorem elems_dat {s s' : Sh} {x : s'.T} {c : Bool} {l : List s.T} (hd : pelems st s (.dat s' x) = some (c, l)) : c = true := by
  unfold pelems at hd
  cases s' with
  | list a =>
    have hd : (castD (.list a) (.list s) x).map (fun r => (true, r)) = some (c, l) := hd
    rw [Option.map_eq_some_iff] at hd
    obtain ⟨r, _, e⟩ := hd
    cases e; rfl
  | nlist a =>
    have hd : (castD (.list a) (.list s) x).map (fun r => (true, r)) = some (c, l) := hd
    rw [Option.map_eq_some_iff] at hd
    obtain ⟨r, _, e⟩ := hd
    cases e; rfl
  | _ => cases hd
theorem s_append (hr : SR B h0 F ρ st.nx st.ob h) {ts : Array TypeId} {ps : List PV} {xs : List V} (hx : PRs F ρ st.nx ps xs) {v : PV} (ht : (pappend C.T ts ps st).To v st') : OK B h0 F ρ st h (headIds ps) (okp (dappend C.T h ts xs)) v st' := by
  unfold pappend at ht
  split at ht
  case h_2 => simp at ht
  rename_i t tx p q hts htx
  simp only [PRs] at hx
  obtain ⟨x, _, rfl, hx, y, _, rfl, hy, rfl⟩ := hx
  split at ht
  case h_2 => simp at ht
  rename_i e ex hu hux
  split at ht
  case h_2 => simp at ht
  rename_i i s hi hs
  cases hc : (Nat.blt 0 i.bytes && Nat.blt 0 i.size && Nat.beq i.zero.length i.size && Nat.beq i.size s.sz) with
  | false => rw [hc] at ht; simp at ht
  | true =>
    rw [hc] at ht
    simp only [Bool.and_eq_true] at hc
    obtain ⟨⟨⟨c1, c2⟩, c3⟩, c4⟩ := hc
    have e4 := Nat.eq_of_beq_eq_true c4
    simp only [cond_true] at ht
    split at ht
    case h_2 => simp at ht
    rename_i c new hel
    -- what Det does, up to the base
    have head : c = true → ∃ cs, src h i.size y new.length = some cs ∧ DCL F s new cs ∧ dappend C.T h ts [x, y] = (match x with
            | .nils => bif Nat.beq new.length 0 then some (.nils, h)
              else bif Nat.ble ((2 * new.length + 1000) * i.bytes) 281474976710656 then some (.sl h.nx 0 new.length new.length i.size, dnew h e cs) else none
            | .es0 => bif Nat.beq new.length 0 then some (.es0, h)
              else bif Nat.ble ((2 * new.length + 1000) * i.bytes) 281474976710656 then some (.sl h.nx 0 new.length new.length i.size, dnew h e cs) else none
            | .esl => bif Nat.beq new.length 0 then some (.esl, h) else none
            | .sl b off len cap o =>
              bif Nat.ble (len + new.length) cap then (wr h b (off + len * i.size) cs).map fun h' => (.sl b off (len + new.length) cap o, h')
              else bif Nat.ble ((2 * (len + new.length) + 1000) * i.bytes) 281474976710656 then
                match src h i.size x len with
                | some old =>
                  bif Nat.beq o 0 then some (.sl h.nx 0 (len + new.length) (len + new.length) i.size, dnew h e (old ++ cs))
                  else
                    match h.get b with
                    | some (.cells _ te fz) =>
                      bif Nat.beq off 0 && Nat.beq o i.size && Nat.beq te e && Nat.ble fz.2 fz.1 && cs.all V.one then some (.sl h.nx 0 (len + new.length) (len + new.length) i.size, (h.kill b).push (.cells (old ++ cs) e (0, 0)))
                      else none
                    | _ => none
                | none => none
              else none
            | _ => none) := by
      intro hc
      obtain ⟨g1, g2, cs, g3, g4⟩ := elems_rel hr hy hel hc
      rw [← e4] at g3
      refine ⟨cs, g3, g4, ?_⟩
      have hcond : (Nat.blt 0 i.bytes && Nat.blt 0 i.size && Nat.beq i.zero.length i.size && (Nat.beq i.size 1 || notStr y)) = true := by
        rw [c1, c2, c3, g2, Bool.or_true]; rfl
      have hint : isInt (.slice ex) = false := rfl
      simp only [dappend, hts, htx, hu, hux, g1, hi, hint, hcond, cond_true, g3]
      cases x <;> rfl
    split at ht
    case h_3 => simp at ht
    case h_1 =>
      simp only [PR] at hx; subst hx
      -- something is appended
      have grow : c = true → 0 < new.length → (2 * new.length + 1000) * i.bytes ≤ LIM → OK B h0 F ρ st h (headIds [PV.nil, q]) (okp (dappend C.T h ts [.nils, y])) (.sl st.nx s.sz 0 new.length none) (st.push (.arr false e s new)) := by
        intro k1 k2 k3
        obtain ⟨cs, g1, g2, g3⟩ := head k1
        have b1 : Nat.beq new.length 0 = false := by rw [beq_t]; simp; intro e; rw [e] at k2; simp at k2
        have b2 : Nat.ble ((2 * new.length + 1000) * i.bytes) 281474976710656 = true := Nat.ble_eq_true_of_le k3
        rw [g3]
        simp only [b1, b2, cond_false, cond_true]
        exact OK.new hr (o := .arr false e s new) (n := new.length) rfl ⟨_, _, rfl, g2, Nat.le_refl _, rfl⟩ (pr_sl0 (.inr e4))
      have same : c = true → new.length = 0 → OK B h0 F ρ st h (headIds [PV.nil, q]) (okp (dappend C.T h ts [.nils, y])) .nil st := by
        intro k1 k2
        obtain ⟨cs, g1, g2, g3⟩ := head k1
        have b1 : Nat.beq new.length 0 = true := by rw [k2]; rfl
        rw [g3]
        simp only [b1, cond_true]
        exact ⟨.nils, h, F, ρ, .inl rfl, by simp [PR], hr, Le.refl, rfl, rfl, Nat.le_refl _, fun _ _ => .inl rfl⟩
      split at ht
      case h_1 =>
        simp only [To_val] at ht
        obtain ⟨rfl, rfl⟩ := ht
        simp only [pelems, pelems0, lz, Option.some.injEq, Prod.mk.injEq] at hel
        obtain ⟨rfl, rfl⟩ := hel
        exact same rfl rfl
      case h_2 =>
        have hc' : c = true := by
          exact elems_dat hel
        by_cases hn : 0 < new.length
        · rw [decide_eq_true hn] at ht
          cases ht with
          | tt ht =>
            simp only [To_chk, Bool.and_eq_true, decide_eq_true_eq] at ht
            obtain ⟨⟨k1, k3⟩, rfl, rfl⟩ := ht
            exact grow k1 hn k3
        · rw [decide_eq_false hn] at ht
          cases ht with
          | ff ht =>
            simp only [To_val] at ht
            obtain ⟨rfl, rfl⟩ := ht
            exact same hc' (by omega)
      case h_3 =>
        by_cases hn : 0 < new.length
        · rw [decide_eq_true hn] at ht
          cases ht with
          | tt ht =>
            simp only [To_chk, Bool.and_eq_true, decide_eq_true_eq] at ht
            obtain ⟨⟨k1, k3⟩, rfl, rfl⟩ := ht
            exact grow k1 hn k3
        · rw [decide_eq_false hn] at ht
          cases ht with
          | ff ht =>
            simp only [To_chk] at ht
            obtain ⟨k1, rfl, rfl⟩ := ht
            exact same k1 (by omega)
      case h_4 =>
        simp only [To_chk, Bool.and_eq_true, decide_eq_true_eq] at ht
        obtain ⟨⟨⟨k1, k2⟩, k3⟩, rfl, rfl⟩ := ht
        exact grow k1 k2 k3
    case h_2 =>
      rename_i id sz off len cap
      split at ht
      case h_2 => simp at ht
      rename_i e' s' l ho
      split at ht
      case h_2 => simp at ht
      rename_i l' hl'
      obtain ⟨ecast, hcast⟩ := castD_eq hl'
      have es : s' = s := by cases ecast; rfl
      subst es
      have : l' = l := by have := hcast; cases this; rfl
      subst this
      cases hcc : (Nat.beq e e' && Nat.beq sz s'.sz) with
      | false => rw [hcc] at ht; simp at ht
      | true =>
        rw [hcc] at ht
        simp only [Bool.and_eq_true] at hcc
        have ee := Nat.eq_of_beq_eq_true hcc.1
        have esz := Nat.eq_of_beq_eq_true hcc.2
        subst ee
        subst esz
        simp only [cond_true] at ht
        split at ht
        case h_2 =>
          rename_i k
          simp only [To_chk, Bool.and_eq_true, decide_eq_true_eq] at ht
          obtain ⟨⟨⟨k1, k2⟩, k3⟩, rfl, rfl⟩ := ht
          obtain ⟨cs, g1, g2, g3⟩ := head k1
          obtain ⟨b, n, z, h1, h2, ⟨bs, fz, rfl, h3, h4, h5⟩, h6, _⟩ := hr.at ho
          simp only [PR] at hx
          rw [g3]
          have hone : cs.all V.one = true := g2.ones
          have hcl : cs.length = new.length * s'.sz := g2.1
          have hbl := h3.1
          have hle : (off + len + new.length) * s'.sz ≤ l'.length * s'.sz := Nat.mul_le_mul_right _ (by omega)
          have hexp : (off + len + new.length) * s'.sz = off * s'.sz + len * s'.sz + new.length * s'.sz := by rw [Nat.add_mul, Nat.add_mul]
          have hsp := DCL.splice h3 g2 (a := off + len) (by omega)
          have hlen : (l'.take (off + len) ++ (new ++ l'.drop (off + len + new.length))).length = l'.length := by simp; omega
          rcases hx.2 b n h1 with ⟨_, g6, o, g5, rfl⟩ | ⟨e0, ek, g6, g7⟩
          · simp only [Option.getD_some] at g6
            have hw : wr h b (off * s'.sz + len * i.size) cs = some (h.put b (.cells (lput ((off + len) * s'.sz) cs bs) e fz)) := by
              rw [wr_ok h2 (by rw [e4, hcl, hbl]; omega) h4 hone, e4, ← Nat.add_mul]
            have b1 : Nat.ble (len + new.length) k = true := Nat.ble_eq_true_of_le k2
            refine ⟨.sl b (off * s'.sz) (len + new.length) k o, h.put b (.cells (lput ((off + len) * s'.sz) cs bs) e fz), F, ρ, .inl ?_, ?_, hr.set ho h1 h2 rfl rfl (o' := .arr false e s' _) ⟨_, fz, rfl, hsp, h4, hlen.trans h5⟩, Le.refl, rfl, rfl, Nat.le_refl _, fun c _ => ?_⟩
            · simp only [Option.getD_some, b1, cond_true, hw, Option.map_some, okp]
            · simp only [PR]
              refine ⟨hx.1, fun b' n' hb' => .inl ?_⟩
              rw [h1] at hb'; cases hb'
              exact ⟨by simpa using k2, by simpa using g6, o, g5, rfl⟩
            · rw [H.get_put]
              by_cases e : c = b
              · exact .inr ⟨id, by simp [headIds], n, e ▸ h1⟩
              · rw [if_neg e]; exact .inl rfl
          · cases ek
            subst e0
            have hn0 : new.length = 0 := by omega
            have hnil : new = [] := List.length_eq_zero_iff.1 hn0
            subst hnil
            have hcs : cs = [] := List.length_eq_zero_iff.1 (by rw [hcl]; simp)
            subst hcs
            have hlp : lput ((off + 0) * s'.sz) [] bs = bs := lput_nil (by rw [hbl]; have := Nat.mul_le_mul_right s'.sz (show off + 0 ≤ l'.length by omega); exact this)
            have hput : ∀ c, (h.put b (.cells (lput ((off + 0) * s'.sz) [] bs) e fz)).get c = h.get c := by
              intro c
              rw [hlp, H.get_put]
              by_cases e : c = b
              · rw [if_pos e, e, h2]
              · rw [if_neg e]
            have hset := hr.set ho h1 h2 rfl rfl (o' := .arr false e s' _) (x' := .cells (lput ((off + 0) * s'.sz) [] bs) e fz) ⟨_, fz, rfl, hsp, h4, hlen.trans h5⟩
            have hset' : SR B h0 F ρ st.nx (obSet st.ob id (.arr false e s' (l'.take (off + 0) ++ ([] ++ l'.drop (off + 0 + 0))))) h :=
              SR.congr (st := ⟨st.n, st.fr, obSet st.ob id _, st.nx⟩) hset (fun c => (hput c).symm) rfl
            have hpr : ∀ w, (w = .esl ∨ ∃ off', w = .sl b off' 0 0 0 ∧ off' ≤ off * s'.sz) → PR F ρ st.nx (.sl id s'.sz off (Nat.add 0 0) (some 0)) w := by
              intro w hw
              simp only [PR]
              refine ⟨hx.1, fun b' n' hb' => .inr ?_⟩
              rw [h1] at hb'; cases hb'
              exact ⟨by simp, by simp, g6, hw⟩
            rcases g7 with rfl | ⟨off', rfl, hoff'⟩
            · exact ⟨.esl, h, F, ρ, .inl rfl, hpr _ (.inl rfl), hset', Le.refl, rfl, rfl, Nat.le_refl _, fun _ _ => .inl rfl⟩
            · have hob : off' ≤ bs.length := by
                have h7 : off * s'.sz ≤ l'.length * s'.sz := Nat.mul_le_mul_right _ (by omega)
                omega
              have hw : wr h b (off' + 0 * i.size) [] = some (h.put b (.cells (lput (off' + 0 * i.size) [] bs) e fz)) := wr_ok h2 (by simpa using hob) h4 rfl
              have hput2 : ∀ c, (h.put b (.cells (lput (off' + 0 * i.size) [] bs) e fz)).get c = h.get c := by
                intro c
                rw [lput_nil (by simpa using hob), H.get_put]
                by_cases e : c = b
                · rw [if_pos e, e, h2]
                · rw [if_neg e]
              refine ⟨.sl b off' 0 0 0, h.put b (.cells (lput (off' + 0 * i.size) [] bs) e fz), F, ρ, .inl ?_, hpr _ (.inr ⟨off', rfl, hoff'⟩), SR.congr (st := ⟨st.n, st.fr, obSet st.ob id _, st.nx⟩) hset' hput2 rfl, Le.refl, rfl, rfl, Nat.le_refl _, fun c _ => .inl (hput2 c)⟩
              simp only [List.length_nil, Nat.add_zero, show Nat.ble 0 0 = true from rfl, cond_true, hw, Option.map_some, okp]
        simp only [To_chk, Bool.and_eq_true, decide_eq_true_eq] at ht
        obtain ⟨⟨⟨⟨k1, k2⟩, k3⟩, k4⟩, rfl, rfl⟩ := ht
        subst k2
        obtain ⟨cs, g1, g2, g3⟩ := head k1
        obtain ⟨b, n, z, h1, h2, ⟨bs, fz, rfl, h3, h4, h5⟩, h6, _⟩ := hr.at ho
        have hFb := h6 rfl
        simp only [PR] at hx
        have hB := (hr.own id b n h1).2
        have hPb : b ∉ h0.pin := fun hp => (hr.pn b hp).2.2 id n h1
        have hidN := (hr.own id b n h1).1
        obtain ⟨_, _, o, g5, rfl⟩ : len ≤ len ∧ 0 + len ≤ n ∧ ∃ o, (o = 0 ∨ o = s'.sz) ∧ x = .sl b (0 * s'.sz) len len o := by
          rcases hx.2 b n h1 with g | ⟨_, e, _⟩
          · exact g
          · cases e
        have hbl : bs.length = len * i.size := by rw [h3.1, k3, e4]
        have hfree : ∀ j oj m, obGet (obDel st.ob id) j = some oj → setR ρ id none j ≠ some (b, m) := by
          intro j oj m hj hjr
          rw [obGet_del] at hj
          split at hj
          · cases hj
          · rename_i hne
            simp only [setR, hne, if_false] at hjr
            exact hne (hr.inj j id oj _ b m n hj ho hjr h1)
        have hdel := hr.del id
        have hle1 : Le F ρ st.nx F (setR ρ id none) st.nx := Le.setNone id
        have hnew : DCL F s' (l' ++ new) (bs ++ cs) := h3.append g2
        have hlen : (l' ++ new).length = len + new.length := by rw [List.length_append, ← k3]
        have hone : cs.all V.one = true := g2.ones
        rw [g3]
        simp only
        by_cases hn : new.length = 0
        · -- nothing is appended
          have hnil : new = [] := List.length_eq_zero_iff.1 hn
          have hcs : cs = [] := List.length_eq_zero_iff.1 (by rw [g2.1, hn, Nat.zero_mul])
          subst hcs
          have b1 : Nat.ble (len + new.length) len = true := Nat.ble_eq_true_of_le (by omega)
          have hw : wr h b (0 * s'.sz + len * i.size) [] = some (h.put b (.cells (lput (0 * s'.sz + len * i.size) [] bs) e fz)) := wr_ok h2 (by rw [hbl]; simp) h4 rfl
          have hput : ∀ c, (h.put b (.cells (lput (0 * s'.sz + len * i.size) [] bs) e fz)).get c = h.get c := by
            intro c
            rw [lput_nil (by rw [hbl]; simp), H.get_put]
            by_cases e : c = b
            · rw [if_pos e, e, h2]
            · rw [if_neg e]
          refine ⟨.sl b (0 * s'.sz) (len + new.length) len o, h.put b (.cells (lput (0 * s'.sz + len * i.size) [] bs) e fz), F, setR (setR ρ id none) st.nx (some (b, n)), .inl ?_, ?_, ?_, hle1.trans (Le.new _), rfl, rfl, Nat.le_refl _, fun c _ => .inl (hput c)⟩
          · simp only [b1, cond_true, hw, Option.map_some, okp]
          · unfold PR
            refine ⟨Nat.lt_succ_self _, fun b' n' hb => .inl ?_⟩
            simp [setR] at hb
            obtain ⟨rfl, rfl⟩ := hb
            refine ⟨Nat.le_refl _, ?_, o, g5, ?_⟩
            · show 0 + (len + new.length) ≤ n; omega
            · show V.sl b (0 * s'.sz) (len + new.length) len o = .sl b (0 * s'.sz) (len + new.length) (len + new.length) o
              rw [hn]; rfl
          · refine SR.adopt (ob := obDel st.ob id) ?_ (x := .cells bs e fz) ((hput b).trans h2) hfree hFb hB hPb rfl ⟨bs, fz, rfl, ?_, h4, ?_⟩
            · exact SR.congr (st := ⟨st.n, st.fr, obDel st.ob id, st.nx⟩) hdel hput rfl
            · rw [hnil, List.append_nil]; exact h3
            · rw [hnil, List.append_nil]; exact h5
        · -- the array grows
          have b1 : Nat.ble (len + new.length) len = false := by
            cases hb : Nat.ble (len + new.length) len with
            | false => rfl
            | true => have := Nat.le_of_ble_eq_true hb; omega
          have b2 : Nat.ble ((2 * (len + new.length) + 1000) * i.bytes) 281474976710656 = true := Nat.ble_eq_true_of_le k4
          have hsrc : src h i.size (.sl b (0 * s'.sz) len len o) len = some bs := by
            show rd h b (0 * s'.sz) (len * i.size) = _
            rw [rd_some h2 (by rw [hbl, Nat.zero_mul]; omega) (fun u hu => h3.ok u (List.mem_of_mem_drop (List.mem_of_mem_take hu)))]
            rw [Nat.zero_mul, List.drop_zero, ← hbl, List.take_length]
          simp only [b1, b2, cond_false, cond_true, hsrc]
          have fin : ∀ {h1' : H}, SR B h0 F (setR ρ id none) st.nx (obDel st.ob id) h1' → h1'.nx = h.nx → (∀ c, c ≠ b → h1'.get c = h.get c) →
              OK B h0 F ρ st h [id] (okp (some (.sl h.nx 0 (len + new.length) (len + new.length) i.size, h1'.push (.cells (bs ++ cs) e (0, 0))))) (.sl st.nx s'.sz 0 (Nat.add len new.length) none) ((st.delObj id).push (.arr false e s' (l' ++ new))) := by
            intro h1' hr1 hnx hg
            have hp := hr1.push (o := .arr false e s' (l' ++ new)) (x := .cells (bs ++ cs) e (0, 0)) (n := len + new.length) rfl ⟨_, _, rfl, hnew, Nat.le_refl _, hlen⟩
            refine ⟨_, _, F, _, .inl rfl, ?_, hp, hle1.trans (Le.new _), rfl, rfl, by show h.nx ≤ h1'.nx + 1; omega, fun c hc => ?_⟩
            · rw [← hnx]; exact pr_sl0 (.inr e4)
            · rw [H.get_push, if_neg (by omega)]
              by_cases e : c = b
              · exact .inr ⟨id, List.mem_singleton.2 rfl, n, e ▸ h1⟩
              · exact .inl (hg c e)
          rcases g5 with rfl | rfl
          · simp only [Nat.beq_refl, cond_true]
            exact fin hdel rfl (fun _ _ => rfl)
          · have b3 : Nat.beq s'.sz 0 = false := by
              rw [← e4]
              cases hb : Nat.beq i.size 0 with
              | false => rfl
              | true => have := Nat.eq_of_beq_eq_true hb; rw [this] at c2; cases c2
            have b4 : (Nat.beq (0 * s'.sz) 0 && Nat.beq s'.sz i.size && Nat.beq e e && Nat.ble fz.2 fz.1 && cs.all V.one) = true := by
              rw [Nat.zero_mul, e4, hone, Nat.ble_eq_true_of_le h4]; simp
            simp only [b3, cond_false, h2, b4, cond_true]
            exact fin (hdel.kill hfree hFb hB hPb) rfl (fun c hc => by rw [H.get_kill, if_neg hc])
end
end Go.Pe
end
section
namespace Go.Pe
open Go.Det
section
variable {B : Nat} {h0 : H0} {F : Fz} {ρ : Rho} {N : Nat} {C : Ctx} {st st' : PSt} {fr : Fr} {h h' : H}
theorem dats_rel : ∀ {s : Sh} {x : s.T} {v : V}, DV F s x v → PR F ρ N (dats s x) v
  | .pair a b, x, v, h => by obtain ⟨cs, rfl, h1⟩ := h.1 rfl; unfold dats PR; exact ⟨cs, rfl, flat_rel h1⟩
  | .unit, x, v, h => by obtain ⟨cs, rfl, h1⟩ := h.1 rfl; simp only [DC] at h1; subst h1; unfold dats PR; exact ⟨[], rfl, by simp⟩
  | .int _, x, v, h => by have := h.2 rfl; unfold dats PR; exact this
  | .bool, x, v, h => by have := h.2 rfl; unfold dats PR; exact this
  | .str, x, v, h => by have := h.2 rfl; unfold dats PR; exact this
  | .list _, x, v, h => by have := h.2 rfl; unfold dats PR; exact this
  | .nlist _, x, v, h => by have := h.2 rfl; unfold dats PR; exact this
  | .fnv, x, v, h => by
    have := h.2 rfl
    simp only [DC, List.cons.injEq, and_true] at this
    subst this
    unfold dats
    cases (x : Option Fn) <;> simp [PR]
theorem asV_rel {s : Sh} {p : PV} {x : s.T} {v : V} (hp : PR F ρ N p v) (hd : asV s p = some x) : DV F s x v := by
  unfold asV at hd
  cases hb : (isAg p == s.isP) with
  | false => rw [hb] at hd; cases hd
  | true =>
    rw [hb] at hd
    simp only [cond_true] at hd
    have hb : isAg p = s.isP := by simpa using hb
    refine ⟨fun e => ?_, fun e => ?_⟩
    · rw [e] at hb
      cases p <;> simp only [isAg] at hb <;> try (cases hb; done)
      rename_i l
      simp only [PR] at hp
      obtain ⟨cs, rfl, h1⟩ := hp
      exact ⟨cs, rfl, unflat1_rel h1 hd⟩
    · rw [e] at hb
      have : p.cells = [p] := by cases p <;> first | rfl | (simp [isAg] at hb)
      rw [this] at hd
      exact unflat1_rel (by simpa using hp) hd
/-- keys -/
theorem kSh_eq {T : Tab} {t : TypeId} {s : Sh} (h : kSh T t = some s) : (∃ k, s = .int k ∧ T.und t = some (.int k)) ∨ (s = .str ∧ T.und t = some .string) ∨ (s = .bool ∧ T.und t = some .bool) := by
  unfold kSh at h
  split at h
  · rename_i k hu; cases h; exact .inl ⟨k, rfl, hu⟩
  · rename_i hu; cases h; exact .inr (.inl ⟨rfl, hu⟩)
  · rename_i hu; cases h; exact .inr (.inr ⟨rfl, hu⟩)
  · cases h
theorem key_dv {T : Tab} {t : TypeId} {s : Sh} (hs : kSh T t = some s) {p : PV} {x : s.T} {v : V} (hp : PR F ρ N p v) (hd : asD s p = some x) : DV F s x v := by
  have := asD_rel hp hd
  rcases kSh_eq hs with ⟨k, rfl, _⟩ | ⟨rfl, _⟩ | ⟨rfl, _⟩ <;> exact ⟨fun e => (by cases e), fun _ => this⟩
theorem key_ok {T : Tab} {t : TypeId} {s : Sh} (hs : kSh T t = some s) {x : s.T} {v : V} (hv : DV F s x v) : ∃ d, T.und t = some d ∧ keyOk T t d v = true ∧ (∀ es, dfindK T t v es = dfind T t v es 0) ∧ ∀ y u, DV F s y u → dkeq T t v u = some (keq s x y) := by
  rcases kSh_eq hs with ⟨k, rfl, hu⟩ | ⟨rfl, hu⟩ | ⟨rfl, hu⟩ <;>
  · have h1 := hv.2 rfl
    simp only [DC, List.cons.injEq, and_true] at h1
    subst h1
    refine ⟨_, hu, rfl, fun _ => rfl, fun y u hy => ?_⟩
    have h2 := hy.2 rfl
    simp only [DC, List.cons.injEq, and_true] at h2
    subst h2
    simp [dkeq, hu, keq]
theorem find_rel {T : Tab} {t : TypeId} {ks vs : Sh} (hs : kSh T t = some ks) {k : ks.T} {kv : V} (hk : DV F ks k kv) : ∀ {l : List (ks.T × vs.T)} {es : List (V × V × Nat)}, MR F ks vs l es → ∀ i, ∃ r, dfind T t kv es i = some r ∧
    (match r with
      | none => mget ks vs k l = none ∧ mdel ks vs k l = l ∧ ∀ x xv c, DV F vs x xv → MR F ks vs (mset ks vs k x l) (es ++ [(kv, xv, c)])
      | some (j, u) => (∃ v, mget ks vs k l = some v ∧ DV F vs v u) ∧ i ≤ j ∧ MR F ks vs (mdel ks vs k l) (es.eraseIdx (j - i)) ∧ ∀ x xv, DV F vs x xv → MR F ks vs (mset ks vs k x l) (eset es (j - i) kv xv)) := by
  intro l es hm
  induction hm with
  | nil => intro i; exact ⟨none, rfl, rfl, rfl, fun x xv c hx => .cons hk hx .nil⟩
  | @cons a b l av bv n es h1 h2 h3 ih =>
    intro i
    obtain ⟨d, _, _, _, hq⟩ := key_ok hs hk
    have hq := hq a av h1
    unfold dfind
    rw [hq]
    cases hb : keq ks k a with
    | true =>
      refine ⟨some (i, bv), rfl, ⟨b, by simp [mget, hb], h2⟩, Nat.le_refl _, ?_, fun x xv hx => ?_⟩
      · simp only [Nat.sub_self, List.eraseIdx_cons_zero, mdel, hb, cond_true]; exact h3
      · simp only [Nat.sub_self, mset, hb, cond_true, eset, List.modify_zero_cons]; exact .cons hk hx h3
    | false =>
      obtain ⟨r, g1, g2⟩ := ih (i + 1)
      refine ⟨r, g1, ?_⟩
      cases r with
      | none =>
        obtain ⟨k1, k2, k3⟩ := g2
        refine ⟨by simp only [mget, hb, cond_false]; exact k1, by simp only [mdel, hb, cond_false, k2], fun x xv c hx => ?_⟩
        simp only [mset, hb, cond_false, List.cons_append]
        exact .cons h1 h2 (k3 x xv c hx)
      | some ju =>
        obtain ⟨j, u⟩ := ju
        obtain ⟨⟨v, k1, k2⟩, k3, k4, k5⟩ := g2
        have e : j - i = (j - (i + 1)) + 1 := by omega
        refine ⟨⟨v, by simp only [mget, hb, cond_false]; exact k1, k2⟩, by omega, ?_, fun x xv hx => ?_⟩
        · rw [e]; simp only [List.eraseIdx_cons_succ, mdel, hb, cond_false]; exact .cons h1 h2 k4
        · rw [e]; simp only [mset, hb, cond_false, eset, List.modify_succ_cons]; exact .cons h1 h2 (k5 x xv hx)
theorem s_mkmap (hr : SR B h0 F ρ st.nx st.ob h) {t : TypeId} {v : PV} (ht : (pmkmap C.T t st).To v st') : OK B h0 F ρ st h [] (okp (dmakeMap h none)) v st' := by
  unfold pmkmap at ht
  split at ht
  case h_2 => simp at ht
  split at ht
  case h_2 => simp at ht
  rename_i ks vs hk hv
  simp only [To_val] at ht
  obtain ⟨rfl, rfl⟩ := ht
  refine OK.new hr (o := .map ks vs []) (x := .map [] 0) (n := 0) rfl ⟨[], 0, rfl, .nil⟩ ?_
  unfold PR
  exact ⟨Nat.lt_succ_self _, fun b m hb => by simp [setR] at hb; rw [hb.1]⟩
theorem pents_rel (hr : SR B h0 F ρ st.nx st.ob h) {ks vs : Sh} {m : PV} {l : List (ks.T × vs.T)} {x : V} (hm : PR F ρ st.nx m x) (hd : pents st ks vs m = some l) : ∃ es, entries h x = some es ∧ MR F ks vs l es := by
  unfold pents at hd
  split at hd
  · cases hd
    simp only [PR] at hm; subst hm
    exact ⟨[], rfl, .nil⟩
  · rename_i id
    split at hd
    case h_2 => cases hd
    rename_i ks' vs' l' ho
    obtain ⟨e, he⟩ := castD_eq hd
    simp only [Sh.list.injEq, Sh.pair.injEq] at e
    obtain ⟨rfl, rfl⟩ := e
    obtain rfl : l' = l := he
    obtain ⟨b, n, o, h1, h2, ⟨es, clk, rfl, h4⟩, _⟩ := hr.at ho
    simp only [PR] at hm
    obtain rfl := hm.2 b n h1
    exact ⟨es, by simp [entries, h2], h4⟩
  · cases hd
theorem plk_to {ks vs : Sh} {ok : Bool} {z : vs.T} {x : ks.T} : ∀ {l : List (ks.T × vs.T)} {v : PV}, (plk ks vs ok z x st l).To v st' → st = st' ∧ ((mget ks vs x l = none ∧ v = bif ok then .tup [dats vs z, .bl false] else dats vs z) ∨ ∃ w, mget ks vs x l = some w ∧ v = bif ok then .tup [dats vs w, .bl true] else dats vs w)
  | [], v, ht => by
    unfold plk at ht
    simp only [To_val] at ht
    exact ⟨ht.2, .inl ⟨rfl, ht.1.symm⟩⟩
  | (a, b) :: l, v, ht => by
    unfold plk at ht
    generalize hc : keq ks x a = c at ht
    cases ht with
    | tt ht =>
      simp only [To_val] at ht
      exact ⟨ht.2, .inr ⟨b, by simp [mget, hc], ht.1.symm⟩⟩
    | ff ht =>
      obtain ⟨h1, h2⟩ := plk_to ht
      have e : mget ks vs x ((a, b) :: l) = mget ks vs x l := by simp [mget, hc]
      rw [e]; exact ⟨h1, h2⟩
theorem s_lookup (hr : SR B h0 F ρ st.nx st.ob h) {t : TypeId} {p q : PV} {x y : V} (hx : PR F ρ st.nx p x) (hy : PR F ρ st.nx q y) {ok : Bool} {v : PV} (ht : (plookup C.T t p q ok st).To v st') : OK B h0 F ρ st h [] (okv h (dlookup C.T h t x y ok)) v st' := by
  unfold plookup at ht
  split at ht
  case h_2 => simp at ht
  rename_i kt e hu
  split at ht
  case h_2 => simp at ht
  rename_i ks vs i hks hvs hi
  split at ht
  case h_2 => simp at ht
  rename_i k l z hk hl hz
  cases hb : (vAg i.zv == vs.isP) with
  | false => rw [hb] at ht; simp at ht
  | true =>
    rw [hb] at ht
    simp only [cond_true] at ht
    have hkd := key_dv hks hy hk
    obtain ⟨es, he, hm⟩ := pents_rel hr hx hl
    obtain ⟨kd, g1, g2, g3, _⟩ := key_ok hks hkd
    obtain ⟨r, r1, r2⟩ := find_rel hks hkd hm 0
    have hzd : DV F vs z i.zv := by
      have h1 : DC F vs z i.zv.cells := unflat1_rel (ofVs_rel (F := F) (ρ := ρ) (N := st.nx) i.zero) hz
      have hb : vAg i.zv = vs.isP := by simpa using hb
      refine ⟨fun e => ?_, fun e => ?_⟩
      · rw [e] at hb
        cases hv : i.zv <;> rw [hv] at hb <;> simp only [vAg] at hb <;> try (cases hb; done)
        rw [hv] at h1
        exact ⟨_, rfl, h1⟩
      · rw [e] at hb
        have : i.zv.cells = [i.zv] := by cases hv : i.zv <;> rw [hv] at hb <;> first | rfl | (simp [vAg] at hb)
        rw [← this]; exact h1
    unfold dlookup
    simp only [hu, g1, he, g2, cond_true, g3, r1]
    cases hf : vs.hasF with
    | true =>
      rw [hf] at ht
      simp only [cond_true] at ht
      have hk2 := plk_to ht
      obtain ⟨e0, hk3⟩ := hk2
      subst e0
      rcases hk3 with ⟨hn, hv⟩ | ⟨w, hw, hv⟩
      · cases r with
        | none =>
          simp only [hi]
          cases ok with
          | true => exact OK.pure hr rfl (by rw [hv]; simp only [cond_true, PR]; exact ⟨_, rfl, _, _, rfl, dats_rel hzd, _, _, rfl, by simp [PR], rfl⟩)
          | false => exact OK.pure hr rfl (by rw [hv]; exact dats_rel hzd)
        | some ju =>
          obtain ⟨⟨v', k1, _⟩, _⟩ := r2
          rw [hn] at k1; cases k1
      · cases r with
        | none => rw [r2.1] at hw; cases hw
        | some ju =>
          obtain ⟨⟨v', k1, k2⟩, _⟩ := r2
          rw [hw] at k1; cases k1
          cases ok with
          | true => exact OK.pure hr rfl (by rw [hv]; simp only [cond_true, PR]; exact ⟨_, rfl, _, _, rfl, dats_rel k2, _, _, rfl, by simp [PR], rfl⟩)
          | false => exact OK.pure hr rfl (by rw [hv]; exact dats_rel k2)
    | false =>
    rw [hf] at ht
    simp only [cond_false, To_val] at ht
    obtain ⟨rfl, rfl⟩ := ht
    cases r with
    | none =>
      obtain ⟨k1, _⟩ := r2
      simp only [hi, k1, Option.getD_none, Option.isSome_none]
      cases ok with
      | true => exact OK.pure hr rfl (by simp only [cond_true, PR]; exact ⟨_, rfl, _, _, rfl, dats_rel hzd, _, _, rfl, mk_bool _, rfl⟩)
      | false => exact OK.pure hr rfl (dats_rel hzd)
    | some ju =>
      obtain ⟨j, u⟩ := ju
      obtain ⟨⟨v, k1, k2⟩, _⟩ := r2
      simp only [k1, Option.getD_some, Option.isSome_some]
      cases ok with
      | true => exact OK.pure hr rfl (by simp only [cond_true, PR]; exact ⟨_, rfl, _, _, rfl, dats_rel k2, _, _, rfl, mk_bool _, rfl⟩)
      | false => exact OK.pure hr rfl (dats_rel k2)
theorem s_update (hr : SR B h0 F ρ st.nx st.ob h) {t : TypeId} {p q r : PV} {x y z : V} (hx : PR F ρ st.nx p x) (hy : PR F ρ st.nx q y) (hz : PR F ρ st.nx r z) {v : PV} (ht : (pupdate C.T t p q r st).To v st') :
    ∃ id, p = .mp id ∧ OK B h0 F ρ st h [id] (oks (dupdate C.T h t x y z)) v st' := by
  unfold pupdate at ht
  split at ht
  case h_2 => simp at ht
  rename_i kt e id hu
  split at ht
  case h_2 => simp at ht
  rename_i ks ks' vs l hks ho
  split at ht
  case h_2 => simp at ht
  rename_i k l2 w hk hl hw
  obtain ⟨e1, he⟩ := castD_eq hl
  simp only [Sh.list.injEq, Sh.pair.injEq, and_true] at e1
  subst e1
  obtain rfl : l = l2 := he
  simp only [To_val] at ht
  obtain ⟨rfl, rfl⟩ := ht
  have hkd := key_dv hks hy hk
  have hwd := asV_rel hz hw
  obtain ⟨b, n, o, h1, h2, ⟨es, clk, rfl, h4⟩, _⟩ := hr.at ho
  have hx' := hx
  simp only [PR] at hx'
  obtain rfl := hx'.2 b n h1
  obtain ⟨kd, g1, g2, g3, _⟩ := key_ok hks hkd
  obtain ⟨r', r1, r2⟩ := find_rel hks hkd h4 0
  refine ⟨id, rfl, ?_⟩
  have fin : ∀ es' clk', MR F ks' vs (mset ks' vs k w l) es' → OK B h0 F ρ st h [id] (oks (some (h.put b (.map es' clk')))) (.tup []) (st.setObj id (.map ks' vs (mset ks' vs k w l))) := by
    intro es' clk' hm
    refine ⟨.tup [], _, F, ρ, .inr ⟨rfl, rfl⟩, by simp [PR], hr.set ho h1 h2 rfl rfl ⟨es', clk', rfl, hm⟩, Le.refl, rfl, rfl, Nat.le_refl _, fun c _ => ?_⟩
    by_cases ec : c = b
    · exact .inr ⟨id, List.mem_singleton.2 rfl, n, ec ▸ h1⟩
    · exact .inl (by rw [H.get_put, if_neg ec])
  unfold dupdate
  simp only [hu, g1, h2, g2, cond_true, g3, r1]
  cases r' with
  | none => exact fin _ _ (r2.2.2 w z clk hwd)
  | some ju => exact fin _ _ (r2.2.2.2 w z hwd)
theorem s_delete (hr : SR B h0 F ρ st.nx st.ob h) {ts : Array TypeId} {ps : List PV} {xs : List V} (hx : PRs F ρ st.nx ps xs) {v : PV} (ht : (pdelete C.T ts ps st).To v st') :
    ∃ id qs, ps = .mp id :: qs ∧ OK B h0 F ρ st h [id] (okp (ddelete C.T h ts xs)) v st' := by
  unfold pdelete at ht
  split at ht
  case h_2 => simp at ht
  rename_i t id q hts
  split at ht
  case h_2 => simp at ht
  rename_i kt e hu
  split at ht
  case h_2 => simp at ht
  rename_i ks ks' vs l hks ho
  split at ht
  case h_2 => simp at ht
  rename_i k l2 hk hl
  obtain ⟨e1, he⟩ := castD_eq hl
  simp only [Sh.list.injEq, Sh.pair.injEq, and_true] at e1
  subst e1
  obtain rfl : l = l2 := he
  simp only [To_val] at ht
  obtain ⟨rfl, rfl⟩ := ht
  simp only [PRs] at hx
  obtain ⟨x, xs', rfl, hx1, y, xs'', rfl, hy, rfl⟩ := hx
  have hkd := key_dv hks hy hk
  obtain ⟨b, n, o, h1, h2, ⟨es, clk, rfl, h4⟩, _⟩ := hr.at ho
  obtain rfl := hx1.2 b n h1
  obtain ⟨kd, g1, g2, g3, _⟩ := key_ok hks hkd
  obtain ⟨r', r1, r2⟩ := find_rel hks hkd h4 0
  refine ⟨id, _, rfl, ?_⟩
  have fin : ∀ es', MR F ks' vs (mdel ks' vs k l) es' → OK B h0 F ρ st h [id] (okp (some (.tup [], h.put b (.map es' clk)))) (.tup []) (st.setObj id (.map ks' vs (mdel ks' vs k l))) := by
    intro es' hm
    refine ⟨.tup [], _, F, ρ, .inl rfl, by simp [PR], hr.set ho h1 h2 rfl rfl ⟨es', clk, rfl, hm⟩, Le.refl, rfl, rfl, Nat.le_refl _, fun c _ => ?_⟩
    by_cases ec : c = b
    · exact .inr ⟨id, List.mem_singleton.2 rfl, n, ec ▸ h1⟩
    · exact .inl (by rw [H.get_put, if_neg ec])
  unfold ddelete
  simp only [hts, hu, g1, h2, g2, cond_true, g3, r1]
  cases r' with
  | none => exact fin es (by rw [r2.2.1]; exact h4)
  | some ju =>
    have := r2.2.2.1
    simp only [Nat.sub_zero] at this
    exact fin _ this
end
end Go.Pe
end
