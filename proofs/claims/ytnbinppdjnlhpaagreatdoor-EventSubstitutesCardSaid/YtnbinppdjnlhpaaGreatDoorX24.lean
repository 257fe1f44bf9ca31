import Derived.Test.YtnbinppdjnlhpaaGreatDoorX23
import Derived.Test.YtnbinppdjnlhpaaGreatDoorX19
import Derived.Test.YtnbinppdjnlhpaaGreatDoorX07
import Derived.ChangeSame
import Derived.Below
import Derived.Test.YtnbinppdjnlhpaaGreatDoorX18
/- A part of the proofs of the laws of one chapter (no law is stated here). Made by program out of texts by AI agents. -/
section
/- Advance. -/
namespace Go.Sp
def opens (losers : List Str) : List Str → List Bool
  | a :: b :: r => (stays losers a && stays losers b) :: opens losers r
  | _ => []
theorem openE_opens (losers : List Str) : ∀ l : List Str, openE losers l = bif (opens losers l).contains true then 19 else 0
  | [] => rfl
  | [_] => rfl
  | a :: b :: r => by
    simp only [openE, opens, List.contains_cons]
    rw [openE_opens losers r]
    by_cases h : stays losers a = true ∧ stays losers b = true
    · rw [if_pos h, h.1, h.2]; rfl
    · rw [if_neg h]
      have : (stays losers a && stays losers b) = false := by rw [Bool.eq_false_iff]; intro e; exact h (by simpa using e)
      rw [this]; rfl
end Go.Sp
namespace Go.Pe
open Go.Det
theorem hallX82 : ∀ g sp, X82.sp g = some sp → SpecOk C7p g sp := hallX81
namespace T37
variable {Q : PV → Ob → Prop}
/-- stays, by the map of the losers -/
theorem st_map {q : List (List UInt8)} {m : List (List UInt8 × Bool)} (hm : SetS m (fun y => y ∈ q)) (a : List UInt8) : Sp.stays q a = true ↔ ¬ a = [] ∧ (mget .str .bool a m).getD false = false := by
  have h := hm a
  rw [stays_iff, Sp.has, ← Bool.not_eq_true ((mget .str .bool a m).getD false), h]; simp
set_option maxRecDepth 10000 in
theorem L11_ends (v0 l q : List (List UInt8)) (o2 m : List (List UInt8 × Bool)) (hm : SetS m (fun y => y ∈ q)) (hl : l.length ≤ 300) (hq : ∀ w ob tail, w = Sp.winners q l → ob = (3, Obj.arr false 9 .str w) :: tail → Q (.tup [.sl 3 1 0 w.length none, .dat i64 0]) ob) : ∀ (r : List (List UInt8)) (i : Nat) (acc : List (List UInt8)), l.drop i = r → i ≤ l.length → acc.length ≤ i → acc ++ Sp.winners q r = Sp.winners q l →
    Ends X82 (L11 v0 o2 l acc.length i acc m) Q
  | [], i, acc, h, hi, ha, hw => by
    have := drop_nil h hi
    refine Ends.steq (L11_eq ..) ?_
    rw [wr ((i : Int) + 1) (by omega) (by omega)]
    refine Ends.ff (by simp; omega) (Ends.leaf (hq acc _ _ (by simpa [Sp.winners] using hw) rfl))
  | [x], i, acc, h, hi, ha, hw => by
    obtain ⟨h1, h2, h3⟩ := drop_cons (d := []) h
    have := drop_nil h3 h1
    refine Ends.steq (L11_eq ..) ?_
    rw [wr ((i : Int) + 1) (by omega) (by omega)]
    refine Ends.ff (by simp; omega) (Ends.leaf (hq acc _ _ (by simpa [Sp.winners] using hw) rfl))
  | a :: b :: r, i, acc, h, hi, ha, hw => by
    obtain ⟨h1, h2, h3⟩ := drop_cons (d := []) h
    obtain ⟨g1, g2, g3⟩ := drop_cons (d := []) h3
    refine Ends.steq (L11_eq ..) ?_
    rw [wr ((i : Int) + 1) (by omega) (by omega), wr ((i : Int) + 2) (by omega) (by omega)]
    have ei : ((i : Int) + 1).toNat = i + 1 := by omega
    have e2 : ((i : Int) + 2) = ((i + 2 : Nat) : Int) := by push_cast; rfl
    refine Ends.tt (by simp; omega) (Ends.tt (by simp <;> omega) (Ends.tt (by simp; omega) ?_))
    simp only [ei, Int.toNat_natCast, h2, g2]
    have go : ∀ w, w = (if Sp.stays q a = true then a else if Sp.stays q b = true then b else []) → Ends X82 (L11 v0 o2 l (Nat.add acc.length 1) ((i : Int) + 2) (acc ++ [w]) m) Q := by
      rintro w rfl
      rw [e2]
      have e3 : Nat.add acc.length 1 = (acc ++ [if Sp.stays q a = true then a else if Sp.stays q b = true then b else []]).length := by simp
      rw [e3]
      refine L11_ends v0 l q o2 m hm hl hq r (i + 2) _ g3 (by omega) (by simp; omega) ?_
      rw [← hw]; simp only [Sp.winners]; simp
    have sa := st_map hm a
    have sb := st_map hm b
    by_cases hs : Sp.stays q a = true
    · obtain ⟨k1, k2⟩ := sa.1 hs
      exact Ends.tt (by simpa using k1) (Ends.tt (by simp [k2]) (Ends.tt (by simp; omega) (go _ (by rw [if_pos hs]))))
    · by_cases hb : Sp.stays q b = true
      · obtain ⟨k1, k2⟩ := sb.1 hb
        have yes := go _ (show b = _ by rw [if_neg hs, if_pos hb])
        refine Ends.ite (fun c1 => Ends.ite (fun c2 => absurd (sa.2 ⟨by simpa using c1, by simpa using c2⟩) hs) (fun _ => ?_)) (fun _ => ?_)
        · exact Ends.tt (by simpa using k1) (Ends.tt (by simp [k2]) (Ends.tt (by simp; omega) yes))
        · exact Ends.tt (by simpa using k1) (Ends.tt (by simp [k2]) (Ends.tt (by simp; omega) yes))
      · have no := go [] (by rw [if_neg hs, if_neg hb])
        refine Ends.ite (fun c1 => Ends.ite (fun c2 => absurd (sa.2 ⟨by simpa using c1, by simpa using c2⟩) hs) (fun _ => ?_)) (fun _ => ?_)
        · exact Ends.ite (fun c1 => Ends.ite (fun c2 => absurd (sb.2 ⟨by simpa using c1, by simpa using c2⟩) hb) (fun _ => Ends.tt (by simp; omega) no)) (fun _ => Ends.tt (by simp; omega) no)
        · exact Ends.ite (fun c1 => Ends.ite (fun c2 => absurd (sb.2 ⟨by simpa using c1, by simpa using c2⟩) hb) (fun _ => Ends.tt (by simp; omega) no)) (fun _ => Ends.tt (by simp; omega) no)
set_option maxRecDepth 10000 in
theorem L9_ends (l q : List (List UInt8)) (m : List (List UInt8 × Bool)) (hm : SetS m (fun y => y ∈ q)) (hl : l.length ≤ 300) (h2 : 2 ≤ l.length) (hq : ∀ w ob tail, w = Sp.winners q l → ob = (3, Obj.arr false 9 .str w) :: tail → Q (.tup [.sl 3 1 0 w.length none, .dat i64 0]) ob) : Ends X82 (L9 l m) Q := by
  refine Ends.steq (L9_eq ..) (Ends.steq (L10_eq ..) ?_)
  obtain ⟨a, b, r, hc⟩ : ∃ a b r, l = a :: b :: r := by
    match l, h2 with
    | a :: b :: r, _ => exact ⟨a, b, r, rfl⟩
  have h : l.drop 0 = a :: b :: r := by rw [hc]; rfl
  obtain ⟨h1, h2', h3⟩ := drop_cons (d := []) h
  obtain ⟨g1, g2, g3⟩ := drop_cons (d := []) h3
  rw [wr ((0 : Int) + 1) (by omega) (by omega), wr ((0 : Int) + 2) (by omega) (by omega)]
  have e0 : (0 : Int).toNat = 0 := rfl
  have e1 : ((0 : Int) + 1).toNat = 0 + 1 := rfl
  refine Ends.tt (by simp; omega) (Ends.tt (by simp <;> omega) (Ends.tt (by simp; omega) ?_))
  simp only [e0, e1, h2', g2]
  have go : ∀ w, w = (if Sp.stays q a = true then a else if Sp.stays q b = true then b else []) → Ends X82 (L11 l m l 1 ((0 : Int) + 2) [w] m) Q := by
    rintro w rfl
    refine L11_ends l l q m m hm hl hq r (0 + 2) [if Sp.stays q a = true then a else if Sp.stays q b = true then b else []] g3 (by omega) (by simp) ?_
    rw [hc]; simp only [Sp.winners]; rfl
  have sa := st_map hm a
  have sb := st_map hm b
  by_cases hs : Sp.stays q a = true
  · obtain ⟨k1, k2⟩ := sa.1 hs
    exact Ends.tt (by simpa using k1) (Ends.tt (by simp [k2]) (Ends.tt (by simp) (go _ (by rw [if_pos hs]))))
  · by_cases hb : Sp.stays q b = true
    · obtain ⟨k1, k2⟩ := sb.1 hb
      have yes := go _ (show b = _ by rw [if_neg hs, if_pos hb])
      refine Ends.ite (fun c1 => Ends.ite (fun c2 => absurd (sa.2 ⟨by simpa using c1, by simpa using c2⟩) hs) (fun _ => ?_)) (fun _ => ?_)
      · exact Ends.tt (by simpa using k1) (Ends.tt (by simp [k2]) (Ends.tt (by simp) yes))
      · exact Ends.tt (by simpa using k1) (Ends.tt (by simp [k2]) (Ends.tt (by simp) yes))
    · have no := go [] (by rw [if_neg hs, if_neg hb])
      refine Ends.ite (fun c1 => Ends.ite (fun c2 => absurd (sa.2 ⟨by simpa using c1, by simpa using c2⟩) hs) (fun _ => ?_)) (fun _ => ?_)
      · exact Ends.ite (fun c1 => Ends.ite (fun c2 => absurd (sb.2 ⟨by simpa using c1, by simpa using c2⟩) hb) (fun _ => Ends.tt rfl no)) (fun _ => Ends.tt rfl no)
      · exact Ends.ite (fun c1 => Ends.ite (fun c2 => absurd (sb.2 ⟨by simpa using c1, by simpa using c2⟩) hb) (fun _ => Ends.tt rfl no)) (fun _ => Ends.tt rfl no)
theorem L8_ends (v0 : List (List UInt8)) (b v16 : List Bool) (o2 m : List (List UInt8 × Bool)) (hb : b.length ≤ 300) (hno : true ∉ b → Ends X82 (L9 v0 m) Q) (hyes : true ∈ b → ∀ ob, Q (.tup [.nil, .dat i64 19]) ob) : ∀ (r : List Bool) (i : Nat), b.drop i = r → i ≤ b.length → (true ∈ b ↔ true ∈ r) → Ends X82 (L8 v0 v16 o2 b b.length i m) Q
  | [], i, h, hi, he => by
    have := drop_nil h hi
    exact Ends.steq (L8_eq ..) (Ends.ff (by simp <;> omega) (Ends.ff rfl (hno (by rw [he]; simp))))
  | x :: r, i, h, hi, he => by
    obtain ⟨h1, h2, h3⟩ := drop_cons (d := false) h
    refine Ends.steq (L8_eq ..) (Ends.tt (by simp <;> omega) (Ends.tt (by simp <;> omega) ?_))
    simp only [Int.toNat_natCast, h2]
    rw [wr ((i : Int) + 1) (by omega) (by omega)]
    cases x with
    | true => exact Ends.tt rfl (Ends.tt (by simp) (Ends.leaf (hyes (by rw [he]; simp) _)))
    | false => exact Ends.ff rfl (L8_ends v0 b v16 o2 m hb hno hyes r (i + 1) h3 h1 (by rw [he]; simp))
set_option maxRecDepth 10000 in
theorem L6_ends (v0 l q : List (List UInt8)) (o1 m : List (List UInt8 × Bool)) (hm : SetS m (fun y => y ∈ q)) (hl : l.length ≤ 300) (hq : Ends X82 (L7 v0 (Sp.opens q l) m) Q) : ∀ (r : List (List UInt8)) (i : Nat) (acc : List Bool), l.drop i = r → i ≤ l.length → acc.length ≤ i → acc ++ Sp.opens q r = Sp.opens q l →
    Ends X82 (L6 v0 o1 l acc.length i acc m) Q
  | [], i, acc, h, hi, ha, hw => by
    have := drop_nil h hi
    refine Ends.steq (L6_eq ..) ?_
    rw [wr ((i : Int) + 1) (by omega) (by omega)]
    refine Ends.ff (by simp; omega) ?_
    rw [List.take_length]
    have e : acc = Sp.opens q l := by simpa [Sp.opens] using hw
    rw [e]; exact hq
  | [x], i, acc, h, hi, ha, hw => by
    obtain ⟨h1, h2, h3⟩ := drop_cons (d := []) h
    have := drop_nil h3 h1
    refine Ends.steq (L6_eq ..) ?_
    rw [wr ((i : Int) + 1) (by omega) (by omega)]
    refine Ends.ff (by simp; omega) ?_
    rw [List.take_length]
    have e : acc = Sp.opens q l := by simpa [Sp.opens] using hw
    rw [e]; exact hq
  | a :: b :: r, i, acc, h, hi, ha, hw => by
    obtain ⟨h1, h2, h3⟩ := drop_cons (d := []) h
    obtain ⟨g1, g2, g3⟩ := drop_cons (d := []) h3
    refine Ends.steq (L6_eq ..) ?_
    rw [wr ((i : Int) + 1) (by omega) (by omega), wr ((i : Int) + 2) (by omega) (by omega)]
    have ei : ((i : Int) + 1).toNat = i + 1 := by omega
    have e2 : ((i : Int) + 2) = ((i + 2 : Nat) : Int) := by push_cast; rfl
    refine Ends.tt (by simp; omega) (Ends.tt (by simp <;> omega) (Ends.tt (by simp; omega) ?_))
    simp only [ei, Int.toNat_natCast, h2, g2]
    have go : ∀ w, w = (Sp.stays q a && Sp.stays q b) → Ends X82 (L6 v0 o1 l (Nat.add acc.length 1) ((i : Int) + 2) (acc ++ [w]) m) Q := by
      rintro w rfl
      rw [e2]
      have e3 : Nat.add acc.length 1 = (acc ++ [Sp.stays q a && Sp.stays q b]).length := by simp
      rw [e3]
      refine L6_ends v0 l q o1 m hm hl hq r (i + 2) _ g3 (by omega) (by simp; omega) ?_
      rw [← hw]; simp only [Sp.opens]; simp
    have sa := st_map hm a
    have sb := st_map hm b
    have no : (Sp.stays q a && Sp.stays q b) = false → Ends X82 (L6 v0 o1 l (Nat.add acc.length 1) ((i : Int) + 2) (acc ++ [false]) m) Q := fun h => go false h.symm
    by_cases hs : Sp.stays q a = true
    · obtain ⟨k1, k2⟩ := sa.1 hs
      refine Ends.tt (by simpa using k1) (Ends.tt (by simp [k2]) (Ends.ite (fun c1 => Ends.tt (by simp; omega) (go _ ?_)) (fun c1 => Ends.tt (by simp; omega) (no ?_))))
      · rw [hs, Bool.true_and]
        have c1 : ¬ b = [] := by simpa using c1
        cases hg : (mget .str .bool b m).getD false with
        | false => exact (sb.2 ⟨c1, hg⟩).symm
        | true => exact (stays_false fun h => by have := (sb.1 h).2; rw [hg] at this; cases this).symm
      · rw [Bool.and_eq_false_iff]
        refine .inr (stays_false fun h => ?_)
        have := (sb.1 h).1
        exact this (by simpa using c1)
    · have hf := no (by rw [stays_false hs, Bool.false_and])
      refine Ends.ite (fun c1 => Ends.ite (fun c2 => absurd (sa.2 ⟨by simpa using c1, by simpa using c2⟩) hs) (fun _ => Ends.tt (by simp; omega) hf)) (fun _ => Ends.tt (by simp; omega) hf)
set_option maxRecDepth 10000 in
theorem L4_ends (l q : List (List UInt8)) (m : List (List UInt8 × Bool)) (hm : SetS m (fun y => y ∈ q)) (hl : l.length ≤ 300) (h2 : 2 ≤ l.length) (hq : Ends X82 (L7 l (Sp.opens q l) m) Q) : Ends X82 (L4 l m) Q := by
  refine Ends.steq (L4_eq ..) (Ends.steq (L5_eq ..) ?_)
  obtain ⟨a, b, r, hc⟩ : ∃ a b r, l = a :: b :: r := by
    match l, h2 with
    | a :: b :: r, _ => exact ⟨a, b, r, rfl⟩
  have h : l.drop 0 = a :: b :: r := by rw [hc]; rfl
  obtain ⟨h1, h2', h3⟩ := drop_cons (d := []) h
  obtain ⟨g1, g2, g3⟩ := drop_cons (d := []) h3
  rw [wr ((0 : Int) + 1) (by omega) (by omega), wr ((0 : Int) + 2) (by omega) (by omega)]
  have e0 : (0 : Int).toNat = 0 := rfl
  have e1 : ((0 : Int) + 1).toNat = 0 + 1 := rfl
  refine Ends.tt (by simp; omega) (Ends.tt (by simp <;> omega) (Ends.tt (by simp; omega) ?_))
  simp only [e0, e1, h2', g2]
  have go : ∀ w, w = (Sp.stays q a && Sp.stays q b) → Ends X82 (L6 l m l 1 ((0 : Int) + 2) [w] m) Q := by
    rintro w rfl
    refine L6_ends l l q m m hm hl hq r (0 + 2) [Sp.stays q a && Sp.stays q b] g3 (by omega) (by simp) ?_
    rw [hc]; simp only [Sp.opens]; rfl
  have sa := st_map hm a
  have sb := st_map hm b
  have no : (Sp.stays q a && Sp.stays q b) = false → Ends X82 (L6 l m l 1 ((0 : Int) + 2) [false] m) Q := fun h => go false h.symm
  by_cases hs : Sp.stays q a = true
  · obtain ⟨k1, k2⟩ := sa.1 hs
    refine Ends.tt (by simpa using k1) (Ends.tt (by simp [k2]) (Ends.ite (fun c1 => Ends.tt (by simp) (go _ ?_)) (fun c1 => Ends.tt rfl (no ?_))))
    · rw [hs, Bool.true_and]
      have c1 : ¬ b = [] := by simpa using c1
      cases hg : (mget .str .bool b m).getD false with
      | false => exact (sb.2 ⟨c1, hg⟩).symm
      | true => exact (stays_false fun h => by have := (sb.1 h).2; rw [hg] at this; cases this).symm
    · rw [Bool.and_eq_false_iff]
      refine .inr (stays_false fun h => ?_)
      have := (sb.1 h).1
      exact this (by simpa using c1)
  · have hf := no (by rw [stays_false hs, Bool.false_and])
    exact Ends.ite (fun c1 => Ends.ite (fun c2 => absurd (sa.2 ⟨by simpa using c1, by simpa using c2⟩) hs) (fun _ => Ends.tt rfl hf)) (fun _ => Ends.tt rfl hf)
set_option maxRecDepth 10000 in
theorem L3_ends (l q : List (List UInt8)) (n : List (List UInt8 × Bool)) (hn : SetS n (fun y => y ≠ [] ∧ y ∈ l)) (hql : q.length ≤ 300) (hbad : Sp.losersE l [] q ≠ 0 → ∀ ob, Q (.tup [.nil, .dat i64 (Sp.losersE l [] q)]) ob) (hok : Sp.losersE l [] q = 0 → ∀ m, SetS m (fun y => y ∈ q) → Ends X82 (L4 l m) Q) :
    ∀ (r : List (List UInt8)) (i : Nat) (m : List (List UInt8 × Bool)), q.drop i = r → i ≤ q.length → SetS m (fun y => y ∈ q.take i) → Sp.losersE l [] q = Sp.losersE l (q.take i) r → Ends X82 (L3 l q q.length i m n) Q
  | [], i, m, h, hi, hm, he => by
    have := drop_nil h hi
    subst this
    rw [List.take_length] at hm
    exact Ends.steq (L3_eq ..) (Ends.ff (by simp <;> omega) (hok (by rw [he]; rfl) m hm))
  | x :: r, i, m, h, hi, hm, he => by
    obtain ⟨h1, h2, h3⟩ := drop_cons (d := []) h
    refine Ends.steq (L3_eq ..) (Ends.tt (by simp <;> omega) (Ends.tt (by simp <;> omega) (Ends.tt (by simp <;> omega) (Ends.tt (by simp <;> omega) (Ends.tt (by simp <;> omega) ?_)))))
    simp only [Int.toNat_natCast, h2]
    rw [wr ((i : Int) + 1) (by omega) (by omega)]
    have e : Sp.first [Sp.whn (!(mget .str .bool x n).getD false) 10, Sp.whn ((mget .str .bool x m).getD false) 9] = if x = [] ∨ x ∉ l then 10 else if x ∈ q.take i then 9 else 0 := by
      have a1 := hn x
      have a2 := hm x
      by_cases hx : x = [] ∨ x ∉ l
      · have : (mget .str .bool x n).getD false = false := by
          rw [Bool.eq_false_iff]; intro hh
          obtain ⟨b1, b2⟩ := a1.1 hh
          rcases hx with hx | hx
          · exact b1 hx
          · exact hx b2
        rw [this, if_pos hx]; simp [Sp.first, Sp.whn]
      · have hx2 : x ≠ [] ∧ x ∈ l := by
          refine ⟨fun e => hx (.inl e), ?_⟩
          by_cases hh : x ∈ l
          · exact hh
          · exact absurd (.inr hh) hx
        rw [a1.2 hx2, if_neg hx]
        cases hg : (mget .str .bool x m).getD false with
        | false => rw [hg] at a2; rw [if_neg (fun hh => by have := a2.2 hh; cases this)]; simp [Sp.first, Sp.whn]
        | true => rw [hg] at a2; rw [if_pos (a2.1 rfl)]; simp [Sp.first, Sp.whn]
    rw [e]
    simp only [Sp.losersE] at he
    rw [Ends_ite]
    by_cases hx : x = [] ∨ x ∉ l
    · simp only [if_pos hx] at he ⊢
      have := hbad (by rw [he]; decide)
      rw [he] at this
      rw [if_pos (by decide)]
      exact Ends.leaf (this _)
    · simp only [if_neg hx] at he ⊢
      by_cases hs : x ∈ q.take i
      · simp only [if_pos hs] at he ⊢
        have := hbad (by rw [he]; decide)
        rw [he] at this
        rw [if_pos (by decide)]
        exact Ends.leaf (this _)
      · simp only [if_neg hs] at he ⊢
        rw [if_neg (by decide)]
        exact L3_ends l q n hn hql hbad hok r (i + 1) _ h3 h1 (by rw [take_next h]; exact hm.next x) (by rw [take_next h]; exact he)
set_option maxRecDepth 10000 in
theorem L1_ends (l q : List (List UInt8)) (hol : Sp.okN l = true) (hbad : Sp.slotsE [] l ≠ 0 → ∀ ob, Q (.tup [.nil, .dat i64 (Sp.slotsE [] l)]) ob) (hok : Sp.slotsE [] l = 0 → ∀ n, SetS n (fun y => y ≠ [] ∧ y ∈ l) → Ends X82 (L2 l q n) Q) :
    ∀ (r seen : List (List UInt8)) (i : Nat) (m : List (List UInt8 × Bool)), l.drop i = r → i ≤ l.length → SetS m (fun y => y ∈ seen) → (∀ y, y ∈ seen ↔ y ≠ [] ∧ y ∈ l.take i) → Sp.slotsE [] l = Sp.slotsE seen r → Ends X82 (L1 l q l l.length i m) Q
  | [], seen, i, m, h, hi, hm, hs, he => by
    have := drop_nil h hi
    subst this
    rw [List.take_length] at hs
    exact Ends.steq (L1_eq ..) (Ends.ff (by simp <;> omega) (hok (by rw [he]; rfl) m (hm.congr hs)))
  | x :: r, seen, i, m, h, hi, hm, hs, he => by
    obtain ⟨h1, h2, h3⟩ := drop_cons (d := []) h
    have hl := okN_len hol
    have hx40 := okN_mem hol (mem_drop h)
    refine Ends.steq (L1_eq ..) (Ends.tt (by simp <;> omega) (Ends.tt (by simp <;> omega) ?_))
    simp only [Int.toNat_natCast, h2, nameErr_first hm]
    rw [wr ((i : Int) + 1) (by omega) (by omega)]
    simp only [Sp.slotsE] at he
    by_cases hx : x = []
    · rw [if_pos hx] at he
      refine Ends.tt (by simpa using hx) ?_
      refine L1_ends l q hol hbad hok r seen (i + 1) m h3 h1 hm (fun y => ?_) he
      rw [take_next h, hs y]
      simp only [List.mem_append, List.mem_singleton, hx]
      constructor
      · rintro ⟨a, b⟩; exact ⟨a, .inl b⟩
      · rintro ⟨a, b | b⟩
        · exact ⟨a, b⟩
        · exact absurd b a
    · rw [if_neg hx] at he
      refine Ends.ff (by simpa using hx) (Ends.tt (by simp; omega) (Ends.tt (by simp <;> omega) (Ends.tt (by simp <;> omega) (Ends.tt (by simp <;> omega) ?_))))
      rw [Ends_ite]
      by_cases hne : Sp.nameErr seen x = 0
      · rw [if_pos hne] at he
        rw [if_neg (by simpa using hne)]
        refine L1_ends l q hol hbad hok r (seen ++ [x]) (i + 1) _ h3 h1 (hm.next x) (fun y => ?_) he
        rw [take_next h, List.mem_append, List.mem_append, hs y]
        simp only [List.mem_singleton]
        constructor
        · rintro (⟨a, b⟩ | b)
          · exact ⟨a, .inl b⟩
          · exact ⟨by rw [b]; exact hx, .inr b⟩
        · rintro ⟨a, b | b⟩
          · exact .inl ⟨a, b⟩
          · exact .inr b
      · rw [if_neg hne] at he
        rw [if_pos (by simpa using hne)]
        have := hbad (by rw [he]; exact hne)
        rw [he] at this
        exact Ends.leaf (this _)
set_option maxRecDepth 10000 in
theorem ok : SpecOk C7p 37 cAdv := by
  refine spec7 (X := X82) rfl hallX82 (d := 9) (by kernel_rfl) (by kernel_rfl) (by kernel_rfl) (fun (i : List (List UInt8) × List (List UInt8)) hl => ?_) (isSome_ex (by kernel_rfl))
  obtain ⟨l, q⟩ := i
  have hl0 : (Sp.okN l && Sp.okN q) = true := hl
  clear hl
  simp only [Bool.and_eq_true] at hl0
  obtain ⟨hol, hoq⟩ := hl0
  have hl := okN_len hol
  have hq := okN_len hoq
  have hbad : ∀ e, Sp.roundE l q = e → e ≠ 0 → ∀ ob, Gives cAdv (l, q) (.tup [.nil, .dat i64 e]) ob := by
    rintro e rfl h ob
    exact ⟨([], Sp.roundE l q), rfl, by show _ = Sp.Advance l q; rw [Sp.Advance, if_pos h]⟩
  have hgood : Sp.roundE l q = 0 → ∀ w ob tail, w = Sp.winners q l → ob = (3, Obj.arr false 9 .str w) :: tail → Gives cAdv (l, q) (.tup [.sl 3 1 0 w.length none, .dat i64 0]) ob := by
    rintro h w ob tail rfl rfl
    exact ⟨(Sp.winners q l, 0), res2_sl rfl rfl, by show _ = Sp.Advance l q; rw [Sp.Advance, if_neg (by simpa using h)]⟩
  refine Ends.eq (T_eq l q) ?_
  by_cases h1 : l.length < 2
  · exact Ends.tt (by simp <;> omega) (Ends.leaf (hbad 2 (by rw [Sp.roundE, if_pos (slots2_out (.inl h1))]) (by decide) _))
  refine Ends.ff (by simp <;> omega) ?_
  by_cases h2 : 256 < l.length
  · exact Ends.tt (by simp <;> omega) (Ends.leaf (hbad 2 (by rw [Sp.roundE, if_pos (slots2_out (.inr h2))]) (by decide) _))
  refine Ends.ff (by simp <;> omega) ?_
  have hsz := (iand_slots2 ⟨l.length, by omega⟩).resolve_left h1
  by_cases h3 : Sp.slots2 l.length = true
  · refine Ends.ff (by simpa using hsz.2 h3) ?_
    have hR : Sp.roundE l q = Sp.orE (Sp.slotsE [] l) (Sp.orE (Sp.losersE l [] q) (Sp.openE q l)) := by rw [Sp.roundE, if_neg (by simp [h3])]
    refine L1_ends l q hol (fun he ob => hbad _ (by rw [hR, Sp.orE_ne _ he]) he ob) (fun he n hn => ?_) l [] 0 [] rfl (Nat.zero_le _) (SetS.nil.congr (by simp)) (by simp) rfl
    rw [he, Sp.orE_0] at hR
    refine Ends.steq (L2_eq ..) ?_
    refine L3_ends l q n hn hq (fun he2 ob => hbad _ (by rw [hR, Sp.orE_ne _ he2]) he2 ob) (fun he2 m hm => ?_) q 0 [] rfl (Nat.zero_le _) (SetS.nil.congr (by simp)) rfl
    rw [he2, Sp.orE_0, Sp.openE_opens] at hR
    refine L4_ends l q m hm hl (by omega) ?_
    refine Ends.steq (L7_eq ..) ?_
    have hop : (Sp.opens q l).length ≤ l.length := by
      have : ∀ k : List (List UInt8), (Sp.opens q k).length ≤ k.length := by
        intro k
        induction k using Sp.opens.induct with
        | case1 a b r ih => simp [Sp.opens]; omega
        | case2 k h => cases k with
          | nil => simp [Sp.opens]
          | cons a k => cases k with
            | nil => simp [Sp.opens]
            | cons b k => exact absurd rfl (h a b k)
      exact this l
    refine L8_ends l (Sp.opens q l) _ _ m (by omega) (fun hno => ?_) (fun hyes ob => ?_) _ 0 rfl (Nat.zero_le _) Iff.rfl
    · rw [show (Sp.opens q l).contains true = false by simpa using hno] at hR
      exact L9_ends l q m hm hl (by omega) (hgood hR)
    · rw [show (Sp.opens q l).contains true = true by simpa using hyes] at hR
      exact hbad 19 hR (by decide) ob
  · refine Ends.tt (by simp only [bne_iff_ne, ne_eq]; exact fun h => h3 (hsz.1 h)) (Ends.leaf (hbad 2 ?_ (by decide) _))
    rw [Sp.roundE, if_pos (by simpa using h3)]
end T37
end Go.Pe
end
section
/- EventDraws: the law. -/
namespace Go.Pe
open Go.Det
theorem hallX84 : ∀ g sp, X84.sp g = some sp → SpecOk C7p g sp := spOf_ok fun x hx => by
  simp only [l84, List.mem_cons, List.mem_nil_iff, or_false] at hx
  rcases hx with rfl | rfl | rfl | rfl | rfl | rfl | rfl | rfl | rfl
  · exact awake_ok
  · exact T36.ok
  · exact T37.ok
  · exact T38.ok
  · exact T39.ok
  · exact T40.ok
  · exact T41.ok
  · exact T42.ok
  · exact T35.ok
noncomputable def cEventDraws : PSpec := ⟨[lstr, lstr, lstr], fun _ => true, [.bool], fun _ => true, false⟩
theorem short_ok {l : List (List UInt8)} {n : Int} (h : Sp.shortNames l n = true) : Sp.okN l = true ∧ ((l.length : Int) ≤ n ∨ 200 < l.length) := by
  unfold Sp.shortNames at h
  simp only [Bool.and_eq_true, Bool.not_eq_true', Bool.or_eq_false_iff, Bool.and_eq_false_iff, decide_eq_false_iff_not] at h
  obtain ⟨⟨h1, h2⟩, h3⟩ := h
  refine ⟨?_, by omega⟩
  unfold Sp.okN
  rw [h3, decide_eq_true (by omega)]; rfl
theorem winners_len (q : List (List UInt8)) : ∀ l : List (List UInt8), (Sp.winners q l).length ≤ l.length
  | [] => by simp [Sp.winners]
  | [_] => by simp [Sp.winners]
  | a :: b :: r => by have := winners_len q r; simp [Sp.winners]; omega
theorem slots2_of {l q : List (List UInt8)} (h : Sp.roundE l q = 0) : l.length % 2 = 0 ∧ Sp.openE q l = 0 := by
  unfold Sp.roundE at h
  split at h
  · cases h
  · rename_i hs
    have hs : Sp.slots2 l.length = true := by simpa using hs
    have h256 : l.length ≤ 256 := by
      rcases Nat.lt_or_ge 256 l.length with h1 | h1
      · rw [slots2_out (.inr h1)] at hs; cases hs
      · exact h1
    refine ⟨slots2_even ⟨l.length, by omega⟩ hs, ?_⟩
    unfold Sp.orE at h
    split at h
    · split at h
      · exact h
      · rename_i h3; exact absurd h h3
    · rename_i h3; exact absurd h h3
theorem playersE_len {l : List (List UInt8)} (he : Sp.playersE l = 0) : 1 ≤ l.length ∧ l.length ≤ 200 := by
  unfold Sp.playersE at he
  split at he
  · cases he
  · split at he
    · cases he
    · omega
theorem Draw_len {l : List (List UInt8)} : (Sp.Draw l).1.length ≤ 400 := by
  unfold Sp.Draw
  split
  · simp
  · rename_i h
    have h : Sp.playersE l = 0 := by simpa using h
    have := bracket_len (n := (l.length : Int)) (by have := playersE_len h; omega)
    simpa using this
theorem Draw_2 (l : List (List UInt8)) : (Sp.Draw l).2 = Sp.playersE l := by
  unfold Sp.Draw
  split
  · rfl
  · rename_i h; simp at h; simp [h]
theorem Draw_1 {l : List (List UInt8)} (h : Sp.playersE l = 0) : (Sp.Draw l).1 = (Sp.bracket (l.length : Int)).map (Sp.seat l) := by
  unfold Sp.Draw; rw [if_neg (by simpa using h)]
theorem Draw_1' {l : List (List UInt8)} (h : ¬ Sp.playersE l = 0) : (Sp.Draw l).1 = [] := by
  unfold Sp.Draw; rw [if_pos h]
theorem Adv_2 (l q : List (List UInt8)) : (Sp.Advance l q).2 = Sp.roundE l q := by
  unfold Sp.Advance
  split
  · rfl
  · rename_i h; simp at h; simp [h]
theorem Adv_1 {l q : List (List UInt8)} (h : Sp.roundE l q = 0) : (Sp.Advance l q).1 = Sp.winnersR q l := by
  unfold Sp.Advance; rw [if_neg (by simpa using h), ← Sp.winners_eq (slots2_of h).2]
theorem Adv_1' {l q : List (List UInt8)} (h : ¬ Sp.roundE l q = 0) : (Sp.Advance l q).1 = [] := by
  unfold Sp.Advance; rw [if_pos h]
theorem Adv_len {l q : List (List UInt8)} (hl : l.length ≤ 300) : (Sp.Advance l q).1.length ≤ 300 := by
  unfold Sp.Advance
  split
  · simp
  · have := winners_len q l; simp only; omega
namespace T6
theorem last {Q : PV → Ob → Prop} {v7 v9 v13 v14 : List (List UInt8)} {v8 v10 v11 v12 : Int} (hq : Q (.dat .bool true) []) (e8 : v8 = v11) (e7 : v7 = v13) (e10 : v10 = v12) (e9 : v9 = v14) (h7 : v7.length ≤ 1000000) (h9 : v9.length ≤ 1000000) : Ends X84 (L3 v7 v8 v9 v10 v11 v12 v13 v14) Q := by
  subst e8 e7 e10 e9
  refine Ends.steq (L3_eq ..) ?_
  exact Ends.tt (by simp) (Ends.tt (by simpa using h7) (Ends.tt (by simp [Sp.sameN]) (Ends.tt (by simp) (Ends.tt (by simpa using h9) (Ends.tt (by simp [Sp.sameN]) (Ends.tt rfl (Ends.leaf hq)))))))
theorem ok : SpecOk C7p 6 cEventDraws := by
  refine spec7 (X := X84) rfl hallX84 (d := 9) (by kernel_rfl) (by kernel_rfl) (by kernel_rfl) (fun (i : List (List UInt8) × List (List UInt8) × List (List UInt8)) _ => ?_) (isSome_ex (by kernel_rfl))
  obtain ⟨l, s, q⟩ := i
  have hQ : ∀ ob, Gives cEventDraws (l, s, q) (.dat .bool true) ob := fun ob => Gives.of rfl rfl rfl
  refine Ends.eq (T_eq l s q) (Ends.tt (by simp <;> omega) ?_)
  cases h1 : Sp.shortNames l 20 with
  | false => exact Ends.tt rfl (Ends.tt rfl (Ends.leaf (hQ _)))
  | true =>
  refine Ends.ff rfl (Ends.tt rfl ?_)
  cases h2 : Sp.shortNames s 33 with
  | false => exact Ends.tt rfl (Ends.tt rfl (Ends.leaf (hQ _)))
  | true =>
  refine Ends.ff rfl (Ends.tt rfl ?_)
  cases h3 : Sp.shortNames q 20 with
  | false => exact Ends.tt rfl (Ends.tt rfl (Ends.leaf (hQ _)))
  | true =>
  refine Ends.ff rfl ?_
  have ol := (short_ok h1).1
  have os := (short_ok h2).1
  have oq := (short_ok h3).1
  have osq : (Sp.okN s && Sp.okN q) = true := by rw [os, oq]; rfl
  have h7 := Draw_len (l := l)
  have h9 := Adv_len (q := q) (okN_len os)
  refine Ends.steq (L1_eq ..) (Ends.tt ol (Ends.tt osq (Ends.tt ol (Ends.tt osq ?_))))
  -- behind the draw
  have rest : ∀ v13, (Sp.Draw l).1 = v13 → Ends X84 (L2 s q (Sp.Draw l).1 (Sp.Draw l).2 (Sp.Advance s q).1 (Sp.Advance s q).2 (Sp.playersE l) (Sp.roundE s q) v13) (Gives cEventDraws (l, s, q)) := by
    intro v13 e13
    refine Ends.steq (L2_eq ..) ?_
    by_cases hr : Sp.roundE s q = 0
    · refine Ends.tt (by simpa using hr) (Ends.tt (by rw [osq, decide_eq_true (slots2_of hr).1]; rfl) ?_)
      exact last (hQ _) (Draw_2 l) e13 (Adv_2 s q) (Adv_1 hr) (by omega) (by omega)
    · refine Ends.ff (by simpa using hr) ?_
      exact last (hQ _) (Draw_2 l) e13 (Adv_2 s q) (Adv_1' hr) (by omega) (by omega)
  by_cases hp : Sp.playersE l = 0
  · refine Ends.tt (by simpa using hp) (Ends.tt (by have := playersE_len hp; simp; omega) (rest _ (Draw_1 hp)))
  · exact Ends.ff (by simpa using hp) (rest _ (Draw_1' hp))
end T6
end Go.Pe
end
section
/- From the rows: what is read of a world is read of every later one whose old blocks are the same. -/
namespace Go.Det
open Go.ChangeShapes Go.WideShapes Go.RowKit
theorem mapM_congr_some {α β : Type} {f g : α → Option β} : ∀ {l : List α} {ys : List β}, l.mapM f = some ys → (∀ a ∈ l, ∀ y ∈ ys, f a = some y → g a = some y) → l.mapM g = some ys
  | [], ys, h, _ => by simpa using h
  | a :: l, ys, h, hg => by
    rw [List.mapM_cons] at h ⊢
    cases hf : f a with
    | none => rw [hf] at h; cases h
    | some y =>
      rw [hf] at h
      cases hl : l.mapM f with
      | none => rw [hl] at h; cases h
      | some zs =>
        rw [hl] at h
        cases h
        rw [hg a (by simp) y (by simp) hf, mapM_congr_some hl (fun b hb z hz hfz => hg b (by simp [hb]) z (by simp [hz]) hfz)]
        rfl
def hE0 : Det.H := ⟨.leaf, 0⟩
/-- the types that are reached from these, and no slice's element is without cells -/
def kidsB (P : Program) (L : List TypeId) (t : TypeId) : Bool := match P.underlying t with
  | some (.pointer e) | some (.array _ e) | some (.map _ e) => L.contains e
  | some (.slice e) => L.contains e && Nat.ble 1 (P.cellsOf e)
  | some (.struct fs) => fs.toList.all fun f => L.contains f.type
  | _ => true
def closedB (P : Program) (L : List TypeId) : Bool := L.all (kidsB P L)
section
variable {H : Type} {enc : TypeId × Value → H} {P : Program} {W W' : World}
theorem kids_of {L : List TypeId} (h : closedB P L = true) {t : TypeId} (ht : t ∈ L) : kidsB P L t = true := List.all_eq_true.1 h t ht
theorem cell_below (hb : Below W.heap.size W W') {a : Addr} {v : Value} (h : W.cell? a = some v) : W'.cell? a = some v := by
  have hl : a.block < W.heap.size := by
    unfold World.cell? at h
    by_cases hh : a.block < W.heap.size
    · exact hh
    · rw [Array.getElem?_eq_none (by omega)] at h; cases h
  unfold World.cell? at h ⊢
  rw [hb.block _ hl]
  exact h
theorem cells_below (hb : Below W.heap.size W W') {a : Addr} {n : Nat} {cs : List Value} (h : W.cells? 0 a n = some cs) : W'.cells? 0 a n = some cs := by
  unfold World.cells? at h ⊢
  rw [if_pos (Nat.zero_le _)] at h ⊢
  exact mapM_congr_some h fun i _ v _ hv => cell_below hb hv
theorem bind_cells_below (hb : Below W.heap.size W W') {β : Type} {a : Addr} {n : Nat} {f g : List Value → Option β} {y : β} (h : (W.cells? 0 a n).bind f = some y) (hfg : ∀ cs, f cs = some y → g cs = some y) : (W'.cells? 0 a n).bind g = some y := by
  cases hc : W.cells? 0 a n with
  | none => rw [hc] at h; cases h
  | some cs =>
    rw [hc] at h
    rw [cells_below hb hc]
    exact hfg cs h
theorem trod_below (hb : Below W.heap.size W W') {L : List TypeId} (hz : closedB P L = true) {sp : Nat → Bool} : ∀ (fuel : Nat) (t : TypeId) (cs : List Value) (x : DataW H × List MemPlace), t ∈ L →
    DataW.trod enc P W 0 (fun _ => true) true fuel t cs = some x → (∀ p ∈ x.2, sp p.block = true) → DataW.trod enc P W' 0 sp true fuel t cs = some x
  | 0, _, _, _, _, h, _ => by cases h
  | fuel + 1, t, cs, x, ht, h, hs => by
    have ih := trod_below hb hz (sp := sp) fuel
    have hk := kids_of hz ht
    unfold kidsB at hk
    unfold DataW.trod at h ⊢
    split at h <;> try simp only [reduceCtorEq] at h
    all_goals try exact h
    case h_6 e a hu =>
      have hke : e ∈ L := by rw [hu] at hk; simpa using hk
      cases hm : (W.cells? 0 a (P.cellsOf e)).bind (DataW.trod enc P W 0 (fun _ => true) true fuel e) with
      | none => rw [hm] at h; cases h
      | some y =>
        rw [hm] at h
        cases h
        rw [bind_cells_below hb hm (g := DataW.trod enc P W' 0 sp true fuel e) (fun cs hc => ih e cs y hke hc (fun p hp => hs p (by simp [hp])))]
        rfl
    case h_8 e a len cap hu =>
      have hke : e ∈ L ∧ P.cellsOf e ≠ 0 := by
        rw [hu] at hk
        simp only [Bool.and_eq_true, List.contains_iff_mem] at hk
        have := Nat.le_of_ble_eq_true hk.2
        exact ⟨hk.1, by omega⟩
      by_cases hc : 0 ≤ a.block ∧ len ≤ cap ∧ cap ≤ maxLen
      · rw [if_pos hc] at h ⊢
        have step : ∀ (i : Nat) (y : DataW H × List MemPlace), (W.cells? 0 (a.add (i * P.cellsOf e)) (P.cellsOf e)).bind (DataW.trod enc P W 0 (fun _ => true) true fuel e) = some y → (∀ p ∈ y.2, sp p.block = true) →
            (W'.cells? 0 (a.add (i * P.cellsOf e)) (P.cellsOf e)).bind (DataW.trod enc P W' 0 sp true fuel e) = some y := fun i y hy hp => bind_cells_below hb hy fun cs hc => ih e cs y hke.1 hc hp
        cases h1 : (List.range len).mapM (fun i => (W.cells? 0 (a.add (i * P.cellsOf e)) (P.cellsOf e)).bind (DataW.trod enc P W 0 (fun _ => true) true fuel e)) with
        | none => rw [h1] at h; cases h
        | some ys =>
          rw [h1] at h
          simp only [if_true, Option.bind_some] at h
          cases h2 : (List.range (cap - len)).mapM (fun j => (W.cells? 0 (a.add ((len + j) * P.cellsOf e)) (P.cellsOf e)).bind (DataW.trod enc P W 0 (fun _ => true) true fuel e)) with
          | none => rw [h2] at h; cases h
          | some zs =>
            rw [h2] at h
            cases h
            rw [mapM_congr_some h1 fun i _ y hy hi => step i y hi fun p hp => hs p (List.mem_append_right _ (List.mem_flatMap.2 ⟨y, List.mem_append_left _ hy, hp⟩))]
            have h2' := mapM_congr_some h2 fun j _ y hy hj => step (len + j) y hj fun p hp => hs p (List.mem_append_right _ (List.mem_flatMap.2 ⟨y, List.mem_append_right _ hy, hp⟩))
            by_cases hsp : sp a.block = true
            · simp only [hsp, if_true, Option.bind_some]
              rw [h2']
              rfl
            · have e0 : (ys.length + zs.length) * P.cellsOf e = 0 := by
                rcases Nat.eq_zero_or_pos ((ys.length + zs.length) * P.cellsOf e) with h0 | h0
                · exact h0
                · refine absurd (hs (.cell a.block (a.off + 0)) (List.mem_append_left _ ?_)) hsp
                  simp only [MemPlace.row, List.mem_map, List.mem_range]
                  exact ⟨0, h0, rfl⟩
              have e1 : zs = [] := by
                rcases Nat.mul_eq_zero.1 e0 with h0 | h0
                · exact List.length_eq_zero_iff.1 (by omega)
                · exact absurd h0 hke.2
              subst e1
              simp only [hsp, Option.bind_some]
              rfl
      · rw [if_neg hc] at h; cases h
    case h_9 cs _ _ fs hu =>
      have hke : ∀ f ∈ fs.toList, f.type ∈ L := by
        rw [hu] at hk
        intro f hf
        have := List.all_eq_true.1 hk f hf
        simpa using this
      by_cases hc : cs.length = P.cellsOf t
      · rw [if_pos hc] at h ⊢
        cases h1 : fs.toList.mapM (fun f => DataW.trod enc P W 0 (fun _ => true) true fuel f.type ((cs.drop f.offset).take (P.cellsOf f.type))) with
        | none => rw [h1] at h; cases h
        | some ys =>
          rw [h1] at h
          cases h
          rw [mapM_congr_some h1 fun f hfm y hy hf => ih _ _ y (hke f hfm) hf fun p hp => hs p (List.mem_flatMap.2 ⟨y, hy, hp⟩)]
          rfl
      · rw [if_neg hc] at h; cases h
    case h_10 cs _ _ n e hu =>
      have hke : e ∈ L := by rw [hu] at hk; simpa using hk
      by_cases hc : cs.length = P.cellsOf t
      · rw [if_pos hc] at h ⊢
        cases h1 : (List.range n).mapM (fun i => DataW.trod enc P W 0 (fun _ => true) true fuel e ((cs.drop (i * P.cellsOf e)).take (P.cellsOf e))) with
        | none => rw [h1] at h; cases h
        | some ys =>
          rw [h1] at h
          cases h
          rw [mapM_congr_some h1 fun f _ y hy hf => ih _ _ y hke hf fun p hp => hs p (List.mem_flatMap.2 ⟨y, hy, hp⟩)]
          rfl
      · rw [if_neg hc] at h; cases h
    case h_14 k e b hu =>
      have hke : e ∈ L := by rw [hu] at hk; simpa using hk
      have hl : b < W.heap.size := by
        by_cases hh : b < W.heap.size
        · exact hh
        · rw [Array.getElem?_eq_none (by omega)] at h; cases h
      rw [hb.block _ hl]
      split at h
      case h_2 => cases h
      rename_i es clock hes
      simp only
      split at h
      case isFalse => cases h
      rename_i hcond
      rw [if_pos hcond]
      cases h1 : (es.toList.mapM fun x => (keyOf P k x.key).bind fun key => if x.val.formed P e then (DataW.trod enc P W 0 (fun _ => true) true fuel e x.val.cells.toList).map fun y => ((key, y.1), y.2) else none) with
      | none => rw [h1] at h; cases h
      | some ys =>
        rw [h1] at h
        simp only [Option.bind_some] at h
        split at h
        case isFalse => cases h
        rename_i hri
        cases h
        rw [mapM_congr_some h1 fun en _ y hy hf => ?_]
        · simp only [Option.bind_some]
          rw [if_pos hri]
        · cases hk : keyOf P k en.key with
          | none => rw [hk] at hf; cases hf
          | some key =>
            rw [hk] at hf
            simp only [Option.bind_some] at hf ⊢
            split at hf
            case isFalse => cases hf
            rename_i hfo
            rw [if_pos hfo]
            cases htt : DataW.trod enc P W 0 (fun _ => true) true fuel e en.val.cells.toList with
            | none => rw [htt] at hf; cases hf
            | some u =>
              rw [htt] at hf
              cases hf
              rw [ih _ _ u hke htt fun p hp => hs p (by simp only [List.mem_cons, List.mem_flatMap]; exact .inr ⟨_, hy, hp⟩)]
              rfl
theorem Trod_below (hb : Below W.heap.size W W') {L : List TypeId} (hz : closedB P L = true) {sp : Nat → Bool} {t : TypeId} {v : Value} {d : DataW H} {p : List MemPlace}
    (ht : t ∈ L) (h : DataW.Trod enc P W 0 (fun _ => true) true t v d p) (hs : ∀ q ∈ p, sp q.block = true) : DataW.Trod enc P W' 0 sp true t v d p := by
  obtain ⟨fuel, hf⟩ := h
  exact ⟨fuel, trod_below hb hz fuel t _ _ ht hf hs⟩
theorem TrodAll_below (hb : Below W.heap.size W W') {L : List TypeId} (hz : closedB P L = true) {sp : Nat → Bool} : ∀ {ts : List TypeId} {vs : List Value} {ds : List (DataW H)} {p : List MemPlace}, (∀ t ∈ ts, t ∈ L) →
    DataW.TrodAll enc P W 0 (fun _ => true) true ts vs ds p → (∀ q ∈ p, sp q.block = true) → DataW.TrodAll enc P W' 0 sp true ts vs ds p
  | [], vs, ds, p, _, h, _ => by
    obtain ⟨rfl, rfl, rfl⟩ := trodAll_nil h
    rfl
  | t :: ts, vs, ds, p, hl, h, hs => by
    obtain ⟨v, vs1, d, ds1, a, b, rfl, rfl, rfl, h1, h2⟩ := trodAll_cons h
    exact ⟨a, b, Trod_below hb hz (hl t (by simp)) h1 (fun q hq => hs q (by simp [hq])), TrodAll_below hb hz (fun u hu => hl u (by simp [hu])) h2 (fun q hq => hs q (by simp [hq])), rfl⟩
/-- the answer of a law: true, and what is read of the arguments is as it was -/
theorem post_true {f : Func} {s : ChangeSpec} {apart fresh handsOn again : Bool} {args : Array Value} {ds gs : List (DataW H)} {before : List MemPlace} {tb : TypeId}
    (hW : DataW.Whole enc P f.params.toList s.vars apart W args.toList ds gs before) (hv : s.vars = []) (hr : f.resultTypes = #[tb]) (ht : P.underlying tb = some .bool)
    (hfn : s.fn H ds = { results := [.lit (.bool true)], args := ds }) (hb : Below W.heap.size W W') {L : List TypeId} (hz : closedB P L = true) (hl : f.params.toList.all L.contains = true) :
    s.post enc P f apart fresh handsOn again W args (.bool true) W' := by
  have hlt := hW.lt
  have hl : ∀ t ∈ f.params.toList, t ∈ L := fun t ht => by have := List.all_eq_true.1 hl t ht; simpa using this
  obtain ⟨p, q, hA, hV, rfl, hfz, hnd⟩ := hW
  have hV' := hV
  rw [hv] at hV'
  obtain ⟨rfl, rfl⟩ := trodVars_none hV'
  simp only [List.append_nil] at hlt hfz hnd ⊢
  have hold : ∀ x ∈ p, (fun b => decide (b < W.heap.size)) x.block = true := fun x hx => by simpa using hlt x hx
  have hW0 : DataW.Whole enc P f.params.toList s.vars apart W args.toList ds [] p := ⟨p, [], hA, hV, by simp, hfz, hnd⟩
  have hres : ∀ (b : Nat) (sp : Nat → Bool) (hd : Bool), DataW.TrodAll enc P W' b sp hd f.resultTypes.toList ((Value.bool true).resultList f.resultTypes.size) [.lit (.bool true)] [] := by
    intro b sp hd
    rw [hr]
    exact ⟨[], [], shut_bool ht true, rfl, rfl⟩
  have hok : ∀ (j : Nat) (t : TypeId) (r : Value), f.resultTypes[j]? = some t → ((Value.bool true).resultList f.resultTypes.size)[j]? = some r → Value.okWide P W' .any 0 t r := by
    exact ok_one hr rfl (okWide_bool_mk ht true)
  have hvars : ∀ sp : Nat → Bool, DataW.TrodVars enc P W' sp s.vars [] [] := fun sp => by rw [hv]; rfl
  have hfn : s.fn H (ds ++ []) = { results := [.lit (.bool true)], args := ds } := by rw [List.append_nil]; exact hfn
  refine ⟨ds, [], p, [], p, [], hW0, ?_, ?_, ?_, World.keptBut_mono (fun x hx => ⟨hx, .inr (.inl hx)⟩) (hb.frame (· ∈ p)), fun _ => ?_⟩
  · rw [hfn]; exact hres _ _ _
  · rw [hfn]; exact TrodAll_below hb hz hl hA hold
  · rw [hfn]; exact hvars _
  · refine ⟨hok, _, _, ([] ++ p) ++ [], ⟨[] ++ p, [], trodAll_append (TrodAll_below hb hz hl hA (fun _ _ => rfl)) (hres _ _ _), hvars _, rfl, ?_, ?_⟩, ?_⟩
    · intro b off hp
      have hp : MemPlace.cell b off ∈ p := by simpa using hp
      rw [hb.frozen (show b < W.heap.size from hlt _ hp)]
      exact hfz b off hp
    · intro ha
      simpa using hnd ha
    · intro x hx _
      simpa using hx
/-- a call that came to something leaves the old blocks -/
theorem below_of_ext {w w' : World} {p' : Pl} {h' : Det.H} (h : Ext [] hE0 w p' h' w') : Below w.heap.size w w' := ⟨h.os, h.tape, h.out, h.size, fun k hk => h.same k hk (by
  rintro ⟨b, o, n, hb, _⟩; simp [hE0, H.get] at hb)⟩
end
end Go.Det
end
section
/- From a function's contract to the call in the model, for arguments without memory. -/
namespace Go.Pe
open Go.Det Go.RowKit
noncomputable section
open Go.Proofs.Tryz (prog)
theorem calls_of_spec {f : FuncId} {sp : PSpec} (ok : SpecOk C7p f sp) (i : (prodS sp.ins).T) (hpre : sp.pre i = true) {args : List V} {args' : Array Value} {W : World} (hP : PCs (fun _ => none) (valsOf sp.ins i) args)
    (ha : VRels [] args args'.toList) (hres : ∀ F' v, PC F' (one (valsOf sp.outs (sp.f i))) v → v = .bool true) :
    Calls prog f args' W fun e W' => e = .returned (.bool true) ∧ Below W.heap.size W W' := by
  obtain ⟨l, M, h1, _, h2⟩ := ok.run (fun _ => none) hE args i (fun b cs h => by cases h) (fun b o h => by simp [hE, H.get] at h) hP hpre
  refine ((ecall_ok C7p_ok C7p_certs mixed7 M).fn f args hE l (h1 M (Nat.le_refl _)) [] W args' (R_empty W) (fun g hg => absurd hg (Nat.not_lt_zero _)) ha).mono ?_
  rintro e w' ⟨v, h', v', p', hm, rfl, hv, hx⟩
  obtain ⟨_, _, _, F', _, _, _, hr⟩ := h2 _ hm
  obtain rfl := hres F' v hr
  refine ⟨?_, below_of_ext hx⟩
  simp only [VRel] at hv
  rw [hv]
theorem res_true {F' : Fz} {v : V} (h : PC F' (.dat .bool true) v) : v = .bool true := by
  have := h (fun _ => none) 0
  simp only [PR, DC] at this
  simpa using this
end
end Go.Pe
end
