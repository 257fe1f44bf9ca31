import Derived.Test.YtnbinppdjnlhpaaGreatDoorX33
import Derived.Test.YtnbinppdjnlhpaaGreatDoorX34
/- A part of the proofs of the laws of one chapter (no law is stated here). Made by program out of texts by AI agents. -/
section
/- EventSeeded: the law. -/
namespace Go.Pe
open Go.Det
theorem hall74 : ∀ g sp, X74.sp g = some sp → SpecOk C7p g sp := hall73
noncomputable def cEventSeeded : PSpec := ⟨[i64, .int .u8, .int .u8], fun i => decide (0 ≤ (i.2.1 : Int)) && decide ((i.2.1 : Int) ≤ 255) && decide (0 ≤ (i.2.2 : Int)) && decide ((i.2.2 : Int) ≤ 255), [.bool], fun _ => true, false⟩
theorem nextZ_len : ∀ z : Sp.Z, (Sp.nextZ z).length ≤ z.length
  | [] => by simp [Sp.nextZ]
  | [_] => by simp [Sp.nextZ]
  | _ :: _ :: l => by
    have := nextZ_len l
    simp [Sp.nextZ]; omega
namespace T9
variable {Q : PV → Ob → Prop}
set_option maxRecDepth 10000 in
/-- the two places -/
theorem places (a b m : Int) (l : List Int) (hl : l.length ≤ 400) : ∀ (r : List Int) (i : Nat) (x y : Int), l.drop i = r → i ≤ l.length → Ends X74 (L11 a b m (Sp.lastIdx r a i x) (Sp.lastIdx r b i y) l l.length l.length) Q → Ends X74 (L11 a b m x y l l.length i) Q
  | [], i, x, y, h, hi, hq => by
    have := drop_nil h hi
    subst this
    exact hq
  | z :: r, i, x, y, h, hi, hq => by
    obtain ⟨h1, h2, h3⟩ := drop_cons (d := 0) h
    refine Ends.steq (L11_eq ..) (Ends.tt (by simp <;> omega) (Ends.steq (L14_eq ..) (Ends.tt (by simp <;> omega) ?_)))
    simp only [Int.toNat_natCast, h2]
    have ih := fun x y => places a b m l hl r (i + 1) x y h3 h1
    simp only [Sp.lastIdx] at hq
    have step : ∀ x y, Ends X74 (L11 a b m (Sp.lastIdx r a (i + 1) x) (Sp.lastIdx r b (i + 1) (if z = b then (i : Int) else y)) l l.length l.length) Q → Ends X74 (L17 a b m x y i z l l.length i) Q := by
      intro x y hq
      refine Ends.steq (L17_eq ..) ?_
      rw [Ends_ite]
      by_cases hb : z = b
      · rw [if_pos hb] at hq; rw [if_pos (by simpa using hb)]
        refine Ends.steq (L20_eq ..) ?_
        rw [wr _ (by omega) (by omega)]
        exact ih _ _ hq
      · rw [if_neg hb] at hq; rw [if_neg (by simpa using hb)]
        refine Ends.steq (L20_eq ..) ?_
        rw [wr _ (by omega) (by omega)]
        exact ih _ _ hq
    rw [Ends_ite]
    by_cases ha : z = a
    · rw [if_pos ha] at hq; rw [if_pos (by simpa using ha)]; exact step _ _ hq
    · rw [if_neg ha] at hq; rw [if_neg (by simpa using ha)]; exact step _ _ hq
set_option maxRecDepth 10000 in
/-- one pair of slots, up to the better seed -/
theorem pair {n x y met rd : Int} {l o0 o1 : List Int} {i : Nat} {s t : Int} (ho : o0.length ≤ 400) (h1 : o0.drop i = s :: t :: l) (v7 : List Int) (hn : o1.length ≤ 400)
    (hq : Ends X74 (L15 n v7 x y o0.length (if (s = x ∧ t = y) ∨ (s = y ∧ t = x) then rd else met) rd (o1.length + 1) (i + 2 : Nat) (o1 ++ [Sp.better s t]) o0) Q) :
    Ends X74 (L18 n v7 x y o0.length met rd o1.length i o1 o0) Q := by
  obtain ⟨a1, a2, a3⟩ := drop_cons (d := 0) h1
  obtain ⟨b1, b2, b3⟩ := drop_cons (d := 0) a3
  refine Ends.steq (L18_eq ..) ?_
  rw [wr _ (by omega) (by omega)]
  have ei : ((i : Int) + 1).toNat = i + 1 := by omega
  simp only [Int.toNat_natCast, ei, a2, b2]
  refine Ends.tt (by simp <;> omega) (Ends.tt (by simp <;> omega) (Ends.tt (by simp <;> omega) (Ends.tt (by simp <;> omega) ?_)))
  have go : ∀ met', Ends X74 (L15 n v7 x y o0.length met' rd (o1.length + 1) (i + 2 : Nat) (o1 ++ [Sp.better s t]) o0) Q → Ends X74 (L21 n v7 x y o0.length met' rd o1.length i s t o1 o0) Q := by
    intro met' hq
    have fin : ∀ u, u = Sp.better s t → Ends X74 (L23 n v7 x y o0.length met' rd o1.length i u o1 o0) Q := by
      rintro u rfl
      refine Ends.steq (L23_eq ..) (Ends.tt (by simp <;> omega) ?_)
      rw [wr _ (by omega) (by omega)]
      exact hq
    refine Ends.steq (L21_eq ..) ?_
    rw [Ends_ite]
    by_cases h : imin s t = 0
    · rw [if_pos (by simpa using h)]; exact fin _ (by rw [Sp.better, if_pos h])
    · rw [if_neg (by simpa using h)]; exact fin _ (by rw [Sp.better, if_neg h])
  rw [Ends_ite]
  by_cases hs : s = x
  · rw [if_pos (by simpa using hs), Ends_ite]
    by_cases ht : t = y
    · rw [if_pos (by simpa using ht)]; rw [if_pos (.inl ⟨hs, ht⟩)] at hq; exact go _ hq
    · rw [if_neg (by simpa using ht), Ends_ite]
      by_cases hs2 : s = y
      · rw [if_pos (by simpa using hs2), Ends_ite]
        by_cases ht2 : t = x
        · rw [if_pos (by simpa using ht2)]; rw [if_pos (.inr ⟨hs2, ht2⟩)] at hq; exact go _ hq
        · rw [if_neg (by simpa using ht2)]; rw [if_neg (by simp [ht, ht2])] at hq; exact go _ hq
      · rw [if_neg (by simpa using hs2)]; rw [if_neg (by simp [ht, hs2])] at hq; exact go _ hq
  · rw [if_neg (by simpa using hs), Ends_ite]
    by_cases hs2 : s = y
    · rw [if_pos (by simpa using hs2), Ends_ite]
      by_cases ht2 : t = x
      · rw [if_pos (by simpa using ht2)]; rw [if_pos (.inr ⟨hs2, ht2⟩)] at hq; exact go _ hq
      · rw [if_neg (by simpa using ht2)]; rw [if_neg (by simp [hs, ht2])] at hq; exact go _ hq
    · rw [if_neg (by simpa using hs2)]; rw [if_neg (by simp [hs, hs2])] at hq; exact go _ hq
set_option maxRecDepth 10000 in
/-- the first pair -/
theorem pair0 {n x y met rd : Int} {l o0 : List Int} {s t : Int} (ho : o0.length ≤ 400) (h1 : o0.drop 0 = s :: t :: l) (v7 : List Int)
    (hq : Ends X74 (L15 n v7 x y o0.length (if (s = x ∧ t = y) ∨ (s = y ∧ t = x) then rd else met) rd 1 2 [Sp.better s t] o0) Q) :
    Ends X74 (L6 n v7 x y o0.length met rd 0 o0) Q := by
  obtain ⟨a1, a2, a3⟩ := drop_cons (d := 0) h1
  obtain ⟨b1, b2, b3⟩ := drop_cons (d := 0) a3
  refine Ends.steq (L6_eq ..) ?_
  rw [wr _ (by omega) (by omega)]
  have ei : ((0 : Int) + 1).toNat = 0 + 1 := rfl
  have e0 : (0 : Int).toNat = 0 := rfl
  simp only [e0, ei, a2, b2]
  refine Ends.tt (by simp <;> omega) (Ends.tt (by simp <;> omega) (Ends.tt (by simp <;> omega) (Ends.tt (by simp <;> omega) ?_)))
  have go : ∀ met', Ends X74 (L15 n v7 x y o0.length met' rd 1 2 [Sp.better s t] o0) Q → Ends X74 (L9 n v7 x y o0.length met' rd 0 s t o0) Q := by
    intro met' hq
    have fin : ∀ u, u = Sp.better s t → Ends X74 (L12 n v7 x y o0.length met' rd 0 u o0) Q := by
      rintro u rfl
      refine Ends.steq (L12_eq ..) (Ends.tt (by simp <;> omega) ?_)
      rw [wr _ (by omega) (by omega)]
      exact hq
    refine Ends.steq (L9_eq ..) ?_
    rw [Ends_ite]
    by_cases h : imin s t = 0
    · rw [if_pos (by simpa using h)]; exact fin _ (by rw [Sp.better, if_pos h])
    · rw [if_neg (by simpa using h)]; exact fin _ (by rw [Sp.better, if_neg h])
  rw [Ends_ite]
  by_cases hs : s = x
  · rw [if_pos (by simpa using hs), Ends_ite]
    by_cases ht : t = y
    · rw [if_pos (by simpa using ht)]; rw [if_pos (.inl ⟨hs, ht⟩)] at hq; exact go _ hq
    · rw [if_neg (by simpa using ht), Ends_ite]
      by_cases hs2 : s = y
      · rw [if_pos (by simpa using hs2), Ends_ite]
        by_cases ht2 : t = x
        · rw [if_pos (by simpa using ht2)]; rw [if_pos (.inr ⟨hs2, ht2⟩)] at hq; exact go _ hq
        · rw [if_neg (by simpa using ht2)]; rw [if_neg (by simp [ht, ht2])] at hq; exact go _ hq
      · rw [if_neg (by simpa using hs2)]; rw [if_neg (by simp [ht, hs2])] at hq; exact go _ hq
  · rw [if_neg (by simpa using hs), Ends_ite]
    by_cases hs2 : s = y
    · rw [if_pos (by simpa using hs2), Ends_ite]
      by_cases ht2 : t = x
      · rw [if_pos (by simpa using ht2)]; rw [if_pos (.inr ⟨hs2, ht2⟩)] at hq; exact go _ hq
      · rw [if_neg (by simpa using ht2)]; rw [if_neg (by simp [hs, ht2])] at hq; exact go _ hq
    · rw [if_neg (by simpa using hs2)]; rw [if_neg (by simp [hs, hs2])] at hq; exact go _ hq
set_option maxRecDepth 10000 in
/-- the pairs behind the first one -/
theorem pairs {n x y rd : Int} {o0 v7 : List Int} (ho : o0.length ≤ 400) : ∀ (r : List Int) (i : Nat) (o1 : List Int) (met : Int), o0.drop i = r → i ≤ o0.length → r.length % 2 = 0 → o1.length + r.length ≤ 400 →
    Ends X74 (L19 n v7 x y (o1 ++ Sp.nextL r).length (Sp.metL x y rd r met) rd ((o1 ++ Sp.nextL r).length + 1) (o1 ++ Sp.nextL r).length (o1 ++ Sp.nextL r).length 0 (List.replicate ((o1 ++ Sp.nextL r).length + 1) false) (o1 ++ Sp.nextL r)) Q →
    Ends X74 (L15 n v7 x y o0.length met rd o1.length i o1 o0) Q
  | [], i, o1, met, h, hi, _, h2, hq => by
    have := drop_nil h hi
    simp only [Sp.nextL, Sp.metL, List.append_nil] at hq
    simp only [List.length_nil, Nat.add_zero] at h2
    refine Ends.steq (L15_eq ..) (Ends.ff (by simp; omega) ?_)
    rw [wr _ (by omega) (by omega)]
    have e : ((o1.length : Int) + 1).toNat = o1.length + 1 := by omega
    rw [e]
    exact Ends.tt (by simp <;> omega) hq
  | [s], i, o1, met, h, hi, h1, _, hq => by simp at h1
  | s :: t :: r, i, o1, met, h, hi, h1, h2, hq => by
    obtain ⟨a1, a2, a3⟩ := drop_cons (d := 0) h
    obtain ⟨b1, b2, b3⟩ := drop_cons (d := 0) a3
    simp only [List.length_cons] at h1 h2
    refine Ends.steq (L15_eq ..) (Ends.tt (by simp <;> omega) (pair ho h v7 (by omega) ?_))
    have ih := pairs (n := n) (x := x) (y := y) (rd := rd) (v7 := v7) ho r (i + 2) (o1 ++ [Sp.better s t]) (if (s = x ∧ t = y) ∨ (s = y ∧ t = x) then rd else met) b3 (by omega) (by omega) (by simp; omega)
    simp only [List.append_assoc, List.cons_append, List.nil_append] at ih
    simp only [Sp.nextL, Sp.metL] at hq
    simpa using ih hq
set_option maxRecDepth 10000 in
/-- all seeds are there once -/
theorem seen {n x y met rd : Int} {o0 v7 : List Int} (ho : o0.length ≤ 400) (hrd : 0 ≤ rd) (hrd2 : rd ≤ 1000) (hq : Ends X74 (L3 n v7 x y o0.length met (rd + 1) o0) Q) : ∀ (r : List Int) (i : Nat) (o1 : List Bool), o0.drop i = r → i ≤ o0.length → o1.length = o0.length + 1 → Sp.seenOk o0.length r o1 = true →
    Ends X74 (L19 n v7 x y o0.length met rd (o0.length + 1) o0.length o0.length i o1 o0) Q
  | [], i, o1, h, hi, hl, _ => by
    have := drop_nil h hi
    refine Ends.steq (L19_eq ..) (Ends.ff (by simp; omega) ?_)
    rw [wr _ (by omega) (by omega)]
    exact hq
  | s :: r, i, o1, h, hi, hl, hs => by
    obtain ⟨a1, a2, a3⟩ := drop_cons (d := 0) h
    simp only [Sp.seenOk, Bool.and_eq_true, decide_eq_true_eq, Bool.not_eq_true'] at hs
    obtain ⟨⟨⟨s1, s2⟩, s3⟩, s4⟩ := hs
    refine Ends.steq (L19_eq ..) ?_
    simp only [Int.toNat_natCast, a2, s3]
    refine Ends.tt (by simp <;> omega) (Ends.tt (by simp <;> omega) (Ends.tt (by simp <;> omega) (Ends.ff (by simp; omega) (Ends.ff (by simp; omega) (Ends.tt (by simp <;> omega) (Ends.tt (by simp <;> omega) (Ends.ff rfl (Ends.tt (by simp <;> omega) (Ends.tt (by simp <;> omega) ?_)))))))))
    refine Ends.steq (L22_eq ..) ?_
    rw [wr _ (by omega) (by omega)]
    exact seen ho hrd hrd2 hq r (i + 1) _ a3 (by omega) (by simpa using hl) s4
set_option maxRecDepth 10000 in
/-- all rounds -/
theorem rounds {n x y : Int} {l v7 : List Int} {nn : Nat} (hp : Sp.posOk l nn = true) (hx1 : 1 ≤ x) (hx2 : x ≤ nn) (hy1 : 1 ≤ y) (hy2 : y ≤ nn)
    (hq : ∀ (met rd : Int) (o : List Int), (met = 0 ∨ met = Sp.rnd 10 (Sp.index l x 0) (Sp.index l y 0) 0) → o.length ≤ 1 → Ends X74 (L3 n v7 x y o.length met rd o) Q) :
    ∀ (f : Nat) (rd : Int) (z : Sp.Z) (met : Int), Sp.chk f rd z = true → Sp.At l z → (met = 0 ∨ met = Sp.rnd 10 (Sp.index l x 0) (Sp.index l y 0) 0) → z.length ≤ 400 → 0 ≤ rd → rd + f ≤ 100 → ∀ o, o = z.map (·.1) → Ends X74 (L3 n v7 x y o.length met rd o) Q
  | 0, rd, z, met, hc, _, _, _, _, _, _, _ => by cases hc
  | f + 1, rd, z, met, hc, ha, hm, hl, hr, hr2, o, ho => by
    unfold Sp.chk at hc
    cases hb : Nat.ble 2 z.length with
    | false =>
      have : ¬ 2 ≤ z.length := fun h => by rw [Nat.ble_eq_true_of_le h] at hb; cases hb
      exact hq met rd o hm (by subst ho; simp; omega)
    | true =>
      have h2 := Nat.le_of_ble_eq_true hb
      rw [hb] at hc
      simp only [cond_true, Bool.and_eq_true] at hc
      obtain ⟨⟨⟨c1, c2⟩, c3⟩, c4⟩ := hc
      have c2 := Nat.eq_of_beq_eq_true c2
      match z, h2 with
      | (s, p) :: (t, q) :: z, _ =>
        subst ho
        have e := Sp.nextZ_fst ((s, p) :: (t, q) :: z)
        generalize hZ : Sp.nextZ ((s, p) :: (t, q) :: z) = zn at *
        have hln : zn.length = (zn.map (·.1)).length := by simp
        have hle : zn.length ≤ 400 := by
          rw [← hZ]
          exact Nat.le_trans (nextZ_len _) hl
        have hmm := Sp.metL_ok hp hx1 hx2 hy1 hy2 ha c1 hm
        have hal : Sp.At l zn := hZ ▸ ha.next
        simp only [List.map_cons] at e hmm ⊢
        simp only [List.length_cons] at c2 hl
        generalize hr0 : z.map (·.1) = r at *
        have hrl : r.length = z.length := by rw [← hr0]; simp
        refine Ends.steq (L3_eq ..) (Ends.tt (by simp <;> omega) (Ends.steq (L4_eq ..) (Ends.tt (by simp <;> omega) ?_)))
        refine pair0 (s := s) (t := t) (l := r) (by simp; omega) rfl v7 ?_
        refine pairs (o0 := s :: t :: r) (by simp; omega) r 2 [Sp.better s t] _ rfl (by simp) (by omega) (by simp; omega) ?_
        simp only [Sp.nextL, Sp.metL] at e hmm
        simp only [List.cons_append, List.nil_append, ← e]
        rw [hln] at c3 hle
        refine seen (by omega) hr (by omega) ?_ _ 0 _ rfl (by omega) (by simp) c3
        exact rounds hp hx1 hx2 hy1 hy2 hq f (rd + 1) zn _ c4 hal hmm (by omega) (by omega) (by omega) _ rfl
end T9
end Go.Pe
end
