import Derived.Test.YtnbinppdjnlhpaaGreatDoorX20
import Derived.Test.YtnbinppdjnlhpaaGreatDoorX22
/- A part of the proofs of the laws of one chapter (no law is stated here). Made by program out of texts by AI agents. -/
section
/- Players, slots, losers: contracts. -/
namespace Go.Pe
open Go.Det
theorem T158.ok : SpecOk C7p 158 cIsName := by
  refine spec7 (X := X70) rfl hall70 (d := 9) (by kernel_rfl) (by kernel_rfl) rfl (fun (s : List UInt8) hl => ?_) (isSome_ex (by kernel_rfl))
  have hl : s.length ≤ 1000000 := by simpa [cIsName] using hl
  have hQ : ∀ v b, v = .bl b ∨ v = .dat .bool b → b = Sp.isName s → ∀ ob, Gives cIsName s v ob := by
    rintro v b (rfl | rfl) hb ob
    · exact Gives.of rfl rfl hb
    · exact Gives.of rfl rfl hb
  refine Ends.eq (T158.T_eq s) ?_
  refine Ends.steq (T158.L1_eq ..) ?_
  cases s with
  | nil =>
    refine Ends.ff (by simp) (Ends.ff (by simp) ?_)
    exact Ends.leaf (hQ _ _ (.inl rfl) rfl _)
  | cons x r =>
    refine Ends.tt (by simp) ?_
    simp only [Ends_ite, Ends_leaf, decide_eq_true_eq, Bool.not_eq_true', decide_eq_false_iff_not, bne_iff_ne, ne_eq, if_true]
    have step : Sp.letter (x.toNat : Int) = true → runeW (x :: r) 0 = 1 → Ends X70 (T158.L2 (x :: r) (x :: r) (Nat.add 0 (runeW (x :: r) 0))) (Gives cIsName (x :: r)) := by
      intro hm hw
      rw [hw]
      refine T158.loop (x :: r) (by simp) r 1 rfl (by simp) (by omega) (fun e => hQ _ _ (.inl rfl) ?_) (fun e => hQ _ _ (.inr rfl) ?_)
      · simp [Sp.isName, e]
      · simp only [Sp.isName, e, hm, Bool.and_true, List.length_cons]
        congr 1
        apply propext; push_cast; omega
    have no : Sp.letter (x.toNat : Int) = false → ∀ ob, Gives cIsName (x :: r) (.bl false) ob := fun hm => hQ _ _ (.inl rfl) (by simp [Sp.isName, hm])
    have g0 : (x :: r).getD 0 0 = x := rfl
    by_cases hl : ((x :: r).getD 0 0).toNat < 128
    · obtain ⟨e1, e2⟩ := rune_low (s := x :: r) (i := 0) (by simp) hl
      rw [e1, g0]
      have mi := letter_iff (x.toNat : Int)
      generalize ((x.toNat : Nat) : Int) = c at mi step no ⊢
      by_cases hm : Sp.letter c = true
      · have := mi.1 hm
        repeat' split
        all_goals first | exact step hm e2 | (exfalso; omega)
      · have hm2 : Sp.letter c = false := by simpa using hm
        have : ¬ _ := fun h => hm (mi.2 h)
        repeat' split
        all_goals first | exact no hm2 _ | (exfalso; omega)
    · have hr := rune_high (s := x :: r) (i := 0) (by simp) (by omega)
      have hx : Sp.letter (x.toNat : Int) = false := by
        have : ¬ Sp.letter (x.toNat : Int) = true := fun h => by
          have := (letter_iff _).1 h
          rw [g0] at hl
          omega
        simpa using this
      repeat' split
      all_goals first | exact no hx _ | (exfalso; omega)
namespace T113
variable {Q : PV → Ob → Prop}
theorem loop (s : List UInt8) (hl : s.length ≤ 24) : ∀ (r : List UInt8) (i : Nat), s.drop i = r → i ≤ s.length →
    (((decide (1 ≤ i) || Sp.letter ((r.headD 97).toNat : Int)) && (r.all fun c => Sp.mark (c.toNat : Int))) = false → Q (.bl false) []) → (((decide (1 ≤ i) || Sp.letter ((r.headD 97).toNat : Int)) && (r.all fun c => Sp.mark (c.toNat : Int))) = true → Q (.bl true) []) → Ends X70 (L1 s i) Q
  | [], i, h, hi, hf, ht => by
    have := drop_nil h hi
    refine Ends.steq (L1_eq ..) (Ends.ff (by simp; omega) ?_)
    exact Ends.leaf (ht (by simp; exact .inr (by decide)))
  | x :: r, i, h, hi, hf, ht => by
    obtain ⟨g1, g2, g3⟩ := drop_cons (d := 0) h
    refine Ends.steq (L1_eq ..) ?_
    simp only [Int.toNat_natCast, g2]
    rw [wr _ (by omega) (by omega)]
    have mi := mark_iff (x.toNat : Int)
    have li := letter_iff (x.toNat : Int)
    have step : (1 ≤ i ∨ Sp.letter (x.toNat : Int) = true) → Sp.mark (x.toNat : Int) = true → Ends X70 (L1 s ((i : Int) + 1)) Q := by
      intro hm hk
      have e : ((i : Int) + 1) = ((i + 1 : Nat) : Int) := by push_cast; rfl
      rw [e]
      refine loop s hl r (i + 1) g3 g1 (fun e => hf ?_) (fun e => ht ?_)
      · simp only [List.all_cons, hk, Bool.true_and]
        have : (r.all fun c => Sp.mark (c.toNat : Int)) = false := by simpa using e
        rw [this, Bool.and_false]
      · have : (r.all fun c => Sp.mark (c.toNat : Int)) = true := by simpa using e
        simp only [List.all_cons, hk, this, Bool.and_true, Bool.or_eq_true, decide_eq_true_eq, List.headD_cons]
        exact hm
    have no : (¬ (1 ≤ i ∨ Sp.letter (x.toNat : Int) = true) ∨ Sp.mark (x.toNat : Int) = false) → Q (.bl false) [] := by
      intro hm
      refine hf ?_
      simp only [List.headD_cons, List.all_cons]
      rcases hm with hm | hm
      · have : (decide (1 ≤ i) || Sp.letter (x.toNat : Int)) = false := by
          rw [Bool.eq_false_iff]; intro h; apply hm; simpa using h
        rw [this, Bool.false_and]
      · rw [hm, Bool.false_and, Bool.and_false]
    generalize ((x.toNat : Nat) : Int) = c at mi li step no ⊢
    by_cases hm : Sp.mark c = true
    · have hm1 := mi.1 hm
      by_cases hlt : 1 ≤ i ∨ Sp.letter c = true
      · have hl2 : 1 ≤ i ∨ (97 ≤ c ∧ c ≤ 122) ∨ (65 ≤ c ∧ c ≤ 90) := hlt.imp id li.1
        repeat' (with_reducible refine Ends.ite (fun _ => ?_) (fun _ => ?_))
        all_goals first | with_reducible exact step hlt hm | (exfalso; simp only [decide_eq_true_eq, decide_eq_false_iff_not, Bool.not_eq_true', Bool.and_eq_true, Bool.and_eq_false_iff, beq_iff_eq, beq_eq_false_iff_ne, ne_eq] at *; omega)
      · have hl2 : ¬ (1 ≤ i ∨ (97 ≤ c ∧ c ≤ 122) ∨ (65 ≤ c ∧ c ≤ 90)) := fun h => hlt (h.imp id li.2)
        repeat' (with_reducible refine Ends.ite (fun _ => ?_) (fun _ => ?_))
        all_goals first | with_reducible exact Ends.leaf (no (.inl hlt)) | (exfalso; simp only [decide_eq_true_eq, decide_eq_false_iff_not, Bool.not_eq_true', Bool.and_eq_true, Bool.and_eq_false_iff, beq_iff_eq, beq_eq_false_iff_ne, ne_eq, Bool.not_eq_false'] at *; omega)
    · have hm2 : Sp.mark c = false := by simpa using hm
      have hm1 : ¬ _ := fun h => hm (mi.2 h)
      repeat' (with_reducible refine Ends.ite (fun _ => ?_) (fun _ => ?_))
      all_goals first | with_reducible exact Ends.leaf (no (.inr hm2)) | (exfalso; simp only [decide_eq_true_eq, decide_eq_false_iff_not, Bool.not_eq_true', Bool.and_eq_true, Bool.and_eq_false_iff, beq_iff_eq, beq_eq_false_iff_ne, ne_eq, Bool.not_eq_false'] at *; omega)
theorem ok : SpecOk C7p 113 cIsName := by
  refine spec7 (X := X70) rfl hall70 (d := 9) (by kernel_rfl) (by kernel_rfl) rfl (fun (s : List UInt8) hl => ?_) (isSome_ex (by kernel_rfl))
  have hQ : ∀ b, b = Sp.isName s → Gives cIsName s (.bl b) [] := fun b hb => Gives.of rfl rfl hb
  refine Ends.eq (T_eq s) ?_
  rw [Ends_ite]
  cases s with
  | nil => rw [if_pos (by simp), Ends_leaf]; exact hQ _ rfl
  | cons x r =>
    rw [if_neg (by simp; omega), Ends_ite]
    by_cases h : (x :: r).length ≤ 24
    · rw [if_neg (by simp at h ⊢; omega)]
      have h23 : decide (r.length ≤ 23) = true := by simp at h ⊢; omega
      have key : Sp.isName (x :: r) = ((decide (1 ≤ 0) || Sp.letter (((x :: r).headD 97).toNat : Int)) && ((x :: r).all fun c => Sp.mark (c.toNat : Int))) := by
        simp only [Sp.isName, h23, List.headD_cons, List.all_cons, Bool.true_and]
        cases hlx : Sp.letter (x.toNat : Int) with
        | false => simp
        | true =>
          have : Sp.mark (x.toNat : Int) = true := by unfold Sp.mark; rw [hlx]; rfl
          simp [this]
      exact loop (x :: r) h (x :: r) 0 rfl (by simp) (fun e => hQ _ (by rw [key]; exact e.symm)) (fun e => hQ _ (by rw [key]; exact e.symm))
    · rw [if_pos (by simp at h ⊢; omega), Ends_leaf]
      exact hQ _ (by simp only [Sp.isName]; rw [decide_eq_false (by simp at h; omega)]; rfl)
end T113
namespace T84
theorem loop {Q : PV → Ob → Prop} (l : List (List UInt8)) (s : List UInt8) (hl : l.length ≤ 1000000) : ∀ (r : List (List UInt8)) (i : Nat), l.drop i = r → i ≤ l.length → Q (.bl (Sp.has r s)) [] → Ends X70 (L1 l s i) Q
  | [], i, h, hi, hq => by
    have := drop_nil h hi
    exact Ends.steq (L1_eq ..) (Ends.ff (by simp; omega) (Ends.leaf (by simpa [Sp.has] using hq)))
  | x :: r, i, h, hi, hq => by
    obtain ⟨h1, h2, h3⟩ := drop_cons (d := []) h
    refine Ends.steq (L1_eq ..) (Ends.tt (by simp <;> omega) (Ends.tt (by simp <;> omega) ?_))
    simp only [Int.toNat_natCast, h2, Ends_ite, Ends_leaf, beq_iff_eq]
    rw [wr _ (by omega) (by omega)]
    split
    · rename_i e; subst e; simpa [Sp.has] using hq
    · rename_i e; exact loop l s hl r (i + 1) h3 h1 (by simpa [Sp.has, Ne.symm e] using hq)
theorem ok : SpecOk C7p 84 cHas := by
  refine spec7 (X := X70) rfl hall70 (d := 9) (by kernel_rfl) (by kernel_rfl) rfl (fun ⟨l, s⟩ hl => ?_) (isSome_ex (by kernel_rfl))
  exact Ends.eq (T_eq l s) (loop l s (by simpa [cHas] using hl) l 0 rfl (Nat.zero_le _) (Gives.of rfl rfl rfl))
end T84
namespace T42
theorem loop {Q : PV → Ob → Prop} (a b : List (List UInt8)) (hl : a.length ≤ 1000000) (he : a.length = b.length) : ∀ (r q : List (List UInt8)) (i : Nat), a.drop i = r → b.drop i = q → i ≤ a.length → Q (.bl (decide (r = q))) [] → Ends X70 (L1 a b i) Q
  | [], q, i, h, h', hi, hq => by
    have := drop_nil h hi
    have hq0 : q = [] := by rw [← h']; exact List.drop_eq_nil_of_le (by omega)
    subst hq0
    exact Ends.steq (L1_eq ..) (Ends.ff (by simp; omega) (Ends.leaf (by simpa using hq)))
  | x :: r, q, i, h, h', hi, hq => by
    obtain ⟨h1, h2, h3⟩ := drop_cons (d := []) h
    cases q with
    | nil =>
      have := congrArg List.length h'
      simp at this; omega
    | cons y q =>
      obtain ⟨g1, g2, g3⟩ := drop_cons (d := []) h'
      refine Ends.steq (L1_eq ..) (Ends.tt (by simp <;> omega) (Ends.tt (by simp <;> omega) (Ends.tt (by simp <;> omega) ?_)))
      simp only [Int.toNat_natCast, h2, g2, Ends_ite, Ends_leaf, Bool.not_eq_true', beq_eq_false_iff_ne, ne_eq]
      rw [wr _ (by omega) (by omega)]
      split
      · rename_i e; simpa [e] using hq
      · rename_i e
        have e : x = y := by simpa using e
        subst e
        exact loop a b hl he r q (i + 1) h3 g3 h1 (by simpa using hq)
theorem ok : SpecOk C7p 42 cSameN := by
  refine spec7 (X := X70) rfl hall70 (d := 9) (by kernel_rfl) (by kernel_rfl) rfl (fun ⟨a, b⟩ hl => ?_) (isSome_ex (by kernel_rfl))
  refine Ends.eq (T_eq a b) ?_
  rw [Ends_ite]
  by_cases h : a.length = b.length
  · rw [if_neg (by simp [h])]
    exact loop a b (by simpa [cSameN] using hl) h a b 0 rfl rfl (Nat.zero_le _) (Gives.of rfl rfl rfl)
  · rw [if_pos (by simp; omega), Ends_leaf]
    refine Gives.of rfl rfl ?_
    have : a ≠ b := fun e => h (by rw [e])
    simp [cSameN, Sp.sameN, this]
end T42
namespace T35
theorem loop {Q : PV → Ob → Prop} (l : List (List UInt8)) (hl : l.length ≤ 300) : ∀ (r : List (List UInt8)) (i : Nat), l.drop i = r → i ≤ l.length → Q (.bl (r.all fun s => decide (s.length ≤ 40))) [] → Ends X70 (L1 l i) Q
  | [], i, h, hi, hq => by
    have := drop_nil h hi
    exact Ends.steq (L1_eq ..) (Ends.ff (by simp; omega) (Ends.leaf (by simpa using hq)))
  | x :: r, i, h, hi, hq => by
    obtain ⟨h1, h2, h3⟩ := drop_cons (d := []) h
    refine Ends.steq (L1_eq ..) (Ends.tt (by simp <;> omega) (Ends.tt (by simp <;> omega) ?_))
    simp only [Int.toNat_natCast, h2, Ends_ite, Ends_leaf, decide_eq_true_eq]
    rw [wr _ (by omega) (by omega)]
    split
    · rename_i e
      have : decide (x.length ≤ 40) = false := decide_eq_false (by omega)
      simpa [this] using hq
    · rename_i e
      have : decide (x.length ≤ 40) = true := decide_eq_true (by omega)
      exact loop l hl r (i + 1) h3 h1 (by simpa [this] using hq)
theorem ok : SpecOk C7p 35 cShortN := by
  refine spec7 (X := X70) rfl hall70 (d := 9) (by kernel_rfl) (by kernel_rfl) rfl (fun (i : List (List UInt8) × Int) _ => ?_) (isSome_ex (by kernel_rfl))
  obtain ⟨l, n⟩ := i
  refine Ends.eq (T_eq l n) ?_
  have hQ : ∀ b, b = Sp.shortNames l n → Gives cShortN (l, n) (.bl b) [] := fun b hb => Gives.of rfl rfl hb
  have go : ¬ ((l.length : Int) > 300) → ¬ ((l.length : Int) > n ∧ (l.length : Int) ≤ 200) → Ends X70 (L1 l 0) (Gives cShortN (l, n)) := by
    intro h1 h2
    refine loop l (by omega) l 0 rfl (Nat.zero_le _) (hQ _ ?_)
    unfold Sp.shortNames
    have : ((decide ((l.length : Int) > n) && decide (l.length ≤ 200)) || decide (300 < l.length)) = false := by
      rw [Bool.or_eq_false_iff, Bool.and_eq_false_iff]
      refine ⟨?_, decide_eq_false (by omega)⟩
      by_cases h : (l.length : Int) > n
      · exact .inr (decide_eq_false (by omega))
      · exact .inl (decide_eq_false h)
    rw [this]; rfl
  have bad : ((l.length : Int) > 300) ∨ ((l.length : Int) > n ∧ (l.length : Int) ≤ 200) → Gives cShortN (l, n) (.bl false) [] := by
    intro h
    refine hQ _ ?_
    unfold Sp.shortNames
    have : ((decide ((l.length : Int) > n) && decide (l.length ≤ 200)) || decide (300 < l.length)) = true := by
      rw [Bool.or_eq_true, Bool.and_eq_true]
      rcases h with h | ⟨h1, h2⟩
      · exact .inr (decide_eq_true (by omega))
      · exact .inl ⟨decide_eq_true h1, decide_eq_true (by omega)⟩
    rw [this]; rfl
  simp only [Ends_ite, Ends_leaf, decide_eq_true_eq]
  repeat' split
  all_goals first | exact go (by omega) (by omega) | exact bad (by omega)
end T35
end Go.Pe
end
section
/- Players: contracts. -/
namespace Go.Pe
open Go.Det
theorem okN_len {l : List (List UInt8)} (h : Sp.okN l = true) : l.length ≤ 300 := by simp [Sp.okN] at h; exact h.1
theorem okN_mem {l : List (List UInt8)} (h : Sp.okN l = true) {x : List UInt8} (hx : x ∈ l) : x.length ≤ 40 := by simp [Sp.okN] at h; exact h.2 x hx
theorem take_next {α : Type} {l r : List α} {x : α} {i : Nat} (h : l.drop i = x :: r) : l.take (i + 1) = l.take i ++ [x] := by
  have h1 := (drop_cons (d := x) h).1
  have h2 := (drop_cons (d := x) h).2.1
  rw [List.take_add_one]
  congr 1
  have : l[i]? = some x := by
    have e := List.getElem?_eq_getElem h1
    rw [e]
    simp only [List.getD, e, Option.getD_some] at h2
    rw [h2]
  rw [this]; rfl
theorem hallX80 : ∀ g sp, X80.sp g = some sp → SpecOk C7p g sp := spOf_ok fun x hx => by
  simp only [l80, List.mem_cons, List.mem_nil_iff, or_false] at hx
  rcases hx with rfl | rfl | rfl | rfl | rfl | rfl | rfl | rfl | rfl | rfl | rfl | rfl | rfl | rfl | rfl | rfl
  · exact T158.ok
  · exact T113.ok
  · exact T84.ok
  · exact T42.ok
  · exact T35.ok
  · exact T87.ok
  · exact T88.ok
  · exact T92.ok
  · exact T93.ok
  · exact T95.ok
  · exact T21.ok
  · exact T22.ok
  · exact T94.ok
  · exact T27.ok
  · exact T91.ok
  · exact T25.ok
theorem nameErr_first {m : List (List UInt8 × Bool)} {seen : List (List UInt8)} (hm : SetS m (fun y => y ∈ seen)) (x : List UInt8) :
    Sp.first [Sp.whn (!Sp.isName x) 8, Sp.whn ((mget .str .bool x m).getD false) 9] = Sp.nameErr seen x := by
  unfold Sp.nameErr
  have h := hm x
  cases hn : Sp.isName x with
  | false => simp [Sp.first, Sp.whn]
  | true =>
    cases hg : (mget .str .bool x m).getD false with
    | false => rw [hg] at h; simp at h; simp [Sp.first, Sp.whn, h]
    | true => rw [hg] at h; simp at h; simp [Sp.first, Sp.whn, h]
theorem SetS.next {m : List (List UInt8 × Bool)} {seen : List (List UInt8)} (hm : SetS m (fun y => y ∈ seen)) (x : List UInt8) : SetS (mset .str .bool x true m) (fun y => y ∈ seen ++ [x]) :=
  (hm.add x).congr fun y => by simp [or_comm]
theorem playersE_first (l : List (List UInt8)) : Sp.first [Sp.whn ((l.length : Int) == 0) 12, Sp.whn (decide ((l.length : Int) > 200)) 5, Sp.namesE [] l] = Sp.playersE l := by
  unfold Sp.playersE
  by_cases h : l.length = 0
  · have : l = [] := List.length_eq_zero_iff.1 h
    subst this; rfl
  · rw [if_neg h]
    have h1 : ((l.length : Int) == 0) = false := by simp; intro e; subst e; exact h rfl
    by_cases h2 : 200 < l.length
    · rw [if_pos h2]
      have : decide ((l.length : Int) > 200) = true := decide_eq_true (by omega)
      simp [Sp.first, Sp.whn, h1, this]
    · rw [if_neg h2]
      have : decide ((l.length : Int) > 200) = false := decide_eq_false (by omega)
      simp only [Sp.first, Sp.whn, h1, this, cond_false]
      simp
      intro e; exact e.symm
namespace T104
theorem loop {Q : PV → Ob → Prop} (l : List (List UInt8)) (hl : Sp.okN l = true) (hq : ∀ ob x, x = Sp.playersE l → Q (.dat i64 x) ob) : ∀ (r : List (List UInt8)) (i : Nat) (m : List (List UInt8 × Bool)), l.drop i = r → i ≤ l.length → SetS m (fun y => y ∈ l.take i) → Sp.namesE [] l = Sp.namesE (l.take i) r →
    Ends X80 (L1 l l l.length i m) Q
  | [], i, m, h, hi, hm, hn => by
    have := drop_nil h hi
    refine Ends.steq (L1_eq ..) (Ends.ff (by simp <;> omega) (Ends.tt (by simp <;> omega) (Ends.leaf (hq _ _ ?_))))
    rw [← playersE_first, hn]; rfl
  | x :: r, i, m, h, hi, hm, hn => by
    obtain ⟨h1, h2, h3⟩ := drop_cons (d := []) h
    have hx := okN_mem hl (mem_drop h)
    have hll := okN_len hl
    refine Ends.steq (L1_eq ..) (Ends.tt (by simp <;> omega) (Ends.tt (by simp <;> omega) ?_))
    simp only [Int.toNat_natCast, h2, nameErr_first hm]
    rw [wr _ (by omega) (by omega)]
    refine Ends.tt (by simp; omega) (Ends.tt (by simp <;> omega) (Ends.tt (by simp <;> omega) (Ends.tt (by simp <;> omega) ?_)))
    simp only [Sp.namesE] at hn
    rw [Ends_ite]
    by_cases he : Sp.nameErr (l.take i) x = 0
    · rw [if_pos he] at hn
      rw [if_neg (by simpa using he)]
      exact loop l hl hq r (i + 1) _ h3 h1 (by rw [take_next h]; exact hm.next x) (by rw [take_next h]; exact hn)
    · rw [if_neg he] at hn
      rw [if_pos (by simpa using he)]
      exact Ends.tt (by simp <;> omega) (Ends.leaf (hq _ _ (by rw [← playersE_first, hn])))
theorem ok : SpecOk C7p 104 cPlayers := by
  refine spec7 (X := X80) rfl hallX80 (d := 9) (by kernel_rfl) (by kernel_rfl) (by kernel_rfl) (fun (l : List (List UInt8)) hl => ?_) (isSome_ex (by kernel_rfl))
  refine Ends.eq (T_eq l) (Ends.tt (by simp <;> omega) (Ends.tt (by simp <;> omega) ?_))
  exact loop l hl (fun ob x hx => Gives.of rfl rfl hx) l 0 [] rfl (Nat.zero_le _) (SetS.nil.congr (by simp)) rfl
end T104
namespace T112
theorem loop {Q : PV → Ob → Prop} (l : List (List UInt8)) (n : Nat) (hl : Sp.okN l = true) (hn : n < l.length) : ∀ (r : List (List UInt8)) (i : Nat), (l.take n).drop i = r → i ≤ n → Q (.dat i64 (if l.getD n [] ∈ r then 9 else 0)) [] → Ends X80 (L1 l n i) Q
  | [], i, h, hi, hq => by
    have := drop_nil h (by simp; omega)
    simp at this
    exact Ends.steq (L1_eq ..) (Ends.ff (by simp; omega) (Ends.leaf (by simpa using hq)))
  | x :: r, i, h, hi, hq => by
    obtain ⟨h1, h2, h3⟩ := drop_cons (d := []) h
    have h1 : i < n := by simp at h1; omega
    have hll := okN_len hl
    have e : l.getD i [] = x := by
      rw [← h2]
      simp [List.getD, List.getElem?_take_of_lt h1]
    refine Ends.steq (L1_eq ..) (Ends.tt (by simp <;> omega) (Ends.tt (by simp; omega) (Ends.tt (by simp; omega) ?_)))
    simp only [Int.toNat_natCast, e, Ends_ite, Ends_leaf, beq_iff_eq]
    rw [wr _ (by omega) (by omega)]
    split
    · rename_i e2; simpa [e2] using hq
    · rename_i e2
      refine loop l n hl hn r (i + 1) h3 (by omega) ?_
      have e3 : ¬ l.getD n [] = x := fun h => e2 h.symm
      simpa only [List.mem_cons, e3, false_or] using hq
theorem ok : SpecOk C7p 112 cCheckName := by
  refine spec7 (X := X80) rfl hallX80 (d := 9) (by kernel_rfl) (by kernel_rfl) (by kernel_rfl) (fun (i : List (List UInt8) × Int) hl => ?_) (isSome_ex (by kernel_rfl))
  obtain ⟨l, k⟩ := i
  have hl0 : (Sp.okN l && decide (0 ≤ k) && decide (k < (l.length : Int))) = true := hl
  clear hl
  simp only [Bool.and_eq_true, decide_eq_true_eq] at hl0
  obtain ⟨⟨hl, h1⟩, h2⟩ := hl0
  obtain ⟨n, rfl⟩ := Int.eq_ofNat_of_zero_le h1
  have h2 : n < l.length := by omega
  have hmem : l.getD n [] ∈ l := by
    have : l.getD n [] = l[n] := by simp [List.getD, h2]
    rw [this]; exact List.getElem_mem _
  have hx := okN_mem hl hmem
  have hQ : ∀ x, x = Sp.nameErr (l.take n) (l.getD n []) → Gives cCheckName (l, (n : Int)) (.dat i64 x) [] := fun x hx => Gives.of rfl rfl (by simpa [cCheckName] using hx)
  refine Ends.eq (T_eq l n) (Ends.tt (by simp; omega) ?_)
  simp only [Int.toNat_natCast]
  refine Ends.tt (decide_eq_true (by omega)) ?_
  rw [Ends_ite, Ends_leaf]
  by_cases hi : Sp.isName (l.getD n []) = true
  · rw [if_neg (by rw [hi]; decide)]
    refine loop l n hl h2 _ 0 rfl (Nat.zero_le _) (hQ _ ?_)
    rw [Sp.nameErr, if_pos hi]; rfl
  · rw [if_pos (by rw [Bool.not_eq_true _ |>.mp hi]; rfl)]
    exact hQ _ (by rw [Sp.nameErr, if_neg hi])
end T112
theorem hallX81 : ∀ g sp, X81.sp g = some sp → SpecOk C7p g sp := by
  intro g sp h
  have h : spOf ((112, cCheckName) :: (104, cPlayers) :: l80) g = some sp := h
  unfold spOf at h
  cases h1 : Nat.beq 112 g with
  | true => rw [h1] at h; cases h; have := Nat.eq_of_beq_eq_true h1; subst this; exact T112.ok
  | false =>
    rw [h1] at h
    simp only [cond_false] at h
    unfold spOf at h
    cases h2 : Nat.beq 104 g with
    | true => rw [h2] at h; cases h; have := Nat.eq_of_beq_eq_true h2; subst this; exact T104.ok
    | false => rw [h2] at h; exact hallX80 g sp h
namespace T38
theorem loop {Q : PV → Ob → Prop} (l : List (List UInt8)) (hl : Sp.okN l = true) : ∀ (r : List (List UInt8)) (i : Nat), l.drop i = r → i ≤ l.length → Q (.dat i64 (Sp.namesE (l.take i) r)) [] → Ends X81 (L1 l i) Q
  | [], i, h, hi, hq => by
    have := drop_nil h hi
    exact Ends.steq (L1_eq ..) (Ends.ff (by simp <;> omega) (Ends.leaf (by simpa [Sp.namesE] using hq)))
  | x :: r, i, h, hi, hq => by
    obtain ⟨h1, h2, h3⟩ := drop_cons (d := []) h
    have hll := okN_len hl
    refine Ends.steq (L1_eq ..) (Ends.tt (by simp <;> omega) (Ends.tt (by simp [hl]; omega) ?_))
    simp only [Int.toNat_natCast, h2, Ends_ite, Ends_leaf, bne_iff_ne, ne_eq]
    rw [wr _ (by omega) (by omega)]
    simp only [Sp.namesE] at hq
    split
    · rename_i he; rw [if_neg he] at hq; exact hq
    · rename_i he
      have he : Sp.nameErr (l.take i) x = 0 := by simpa using he
      rw [if_pos he] at hq
      exact loop l hl r (i + 1) h3 h1 (by rw [take_next h]; exact hq)
theorem ok : SpecOk C7p 38 cPlayers := by
  refine spec7 (X := X81) rfl hallX81 (d := 9) (by kernel_rfl) (by kernel_rfl) (by kernel_rfl) (fun (l : List (List UInt8)) hl => ?_) (isSome_ex (by kernel_rfl))
  have hl : Sp.okN l = true := hl
  have hQ : ∀ x, x = Sp.playersE l → Gives cPlayers l (.dat i64 x) [] := fun x hx => Gives.of rfl rfl hx
  refine Ends.eq (T_eq l) ?_
  simp only [Ends_ite, Ends_leaf, beq_iff_eq, decide_eq_true_eq]
  split
  · rename_i h; exact hQ _ (by rw [Sp.playersE, if_pos (by omega)])
  · rename_i h
    split
    · rename_i h2; exact hQ _ (by rw [Sp.playersE, if_neg (by omega), if_pos (by omega)])
    · rename_i h2
      exact loop l hl l 0 rfl (Nat.zero_le _) (hQ _ (by rw [Sp.playersE, if_neg (by omega), if_neg (by omega)]; rfl))
end T38
end Go.Pe
end
section
/- The draw, the rounds: contracts. -/
namespace Go.Pe
open Go.Det
theorem grow_bd (n : Int) : ∀ (f : Nat) (l : List Int), Bd l → 1 ≤ l.length → Bd (Sp.grow f n l)
  | 0, l, h, _ => h
  | f + 1, l, h, h1 => by
    unfold Sp.grow
    split
    · exact grow_bd n f _ (h.exp h1) (by show 1 ≤ (exp l.length l).length; rw [exp_len]; omega)
    · exact h
theorem bracket_mem {n s : Int} (hn : 1 ≤ n) (h : s ∈ Sp.bracket n) : 0 ≤ s ∧ s ≤ n := by
  unfold Sp.bracket Sp.strike at h
  obtain ⟨a, ha, rfl⟩ := List.mem_map.1 h
  have := grow_bd n 8 [1] (by intro s hs; simp at hs; subst hs; simp) (by simp) a ha
  split <;> omega
theorem grow_ne (n : Int) : ∀ (f : Nat) (l : List Int), 1 ≤ l.length → 1 ≤ (Sp.grow f n l).length
  | 0, l, h => h
  | f + 1, l, h => by
    unfold Sp.grow
    split
    · exact grow_ne n f _ (by show 1 ≤ (exp l.length l).length; rw [exp_len]; omega)
    · exact h
theorem bracket_ne (n : Int) : Sp.bracket n ≠ [] := by
  intro e
  have h := congrArg List.length e
  have h2 := grow_ne n 8 [1] (by simp)
  simp [Sp.bracket, Sp.strike] at h
  rw [h] at h2; cases h2
theorem seat_pos {l : List (List UInt8)} {s : Int} (h : 0 < s) : Sp.seat l s = l.getD (s - 1).toNat [] := by rw [Sp.seat, if_pos h]
theorem seat_0 {l : List (List UInt8)} {s : Int} (h : ¬ 0 < s) : Sp.seat l s = [] := by rw [Sp.seat, if_neg h]
theorem res_sl {s : Sh} (hs : s.sz = 1) {id n : Nat} {tail : Ob} {fz : Bool} {t : TypeId} {o : List s.T} (hn : n = o.length) : argOf ⟨0, .leaf, (id, .arr fz t s o) :: tail, 0⟩ (.list s) (.sl id 1 0 n none) = some (true, o) := by
  subst hn
  have h1 : obGet ((id, Obj.arr fz t s o) :: tail) id = some (.arr fz t s o) := by unfold obGet; rw [Nat.beq_refl]; rfl
  unfold argOf
  have h2 : byVals ⟨0, .leaf, (id, .arr fz t s o) :: tail, 0⟩ (PV.cells (.sl id 1 0 o.length none)) = some (true, [.dat (.list s) o]) := by
    show (match byVal ⟨0, .leaf, (id, .arr fz t s o) :: tail, 0⟩ (.sl id 1 0 o.length none), some (true, []) with | some (c, x), some (d, xs) => some (c && d, x :: xs) | _, _ => none) = _
    have : byVal ⟨0, .leaf, (id, .arr fz t s o) :: tail, 0⟩ (.sl id 1 0 o.length none) = some (true, .dat (.list s) o) := by
      unfold byVal PSt.obj
      simp only [h1, hs, Nat.beq_refl, cond_true]
      simp
    rw [this]; rfl
  simp only [isAg, Sh.isP]
  show (match byVals ⟨0, .leaf, (id, .arr fz t s o) :: tail, 0⟩ (PV.cells (.sl id 1 0 o.length none)) with | some (c, cs) => _ | none => none) = _
  rw [h2]
  have : unflat1 (.list s) [PV.dat (.list s) o] = some o := by
    unfold unflat1 unflat asD castD
    simp
  simp only [this]
theorem res1_sl {s : Sh} (hs : s.sz = 1) {id n : Nat} {tail : Ob} {fz : Bool} {t : TypeId} {o : List s.T} (hn : n = o.length) : resOf [.list s] (.sl id 1 0 n none) ((id, .arr fz t s o) :: tail) = some (true, o) := res_sl hs hn
theorem res2_sl {s : Sh} (hs : s.sz = 1) {id n : Nat} {tail : Ob} {fz : Bool} {t : TypeId} {o : List s.T} {e : Int} (hn : n = o.length) : resOf [.list s, i64] (.tup [.sl id 1 0 n none, .dat i64 e]) ((id, .arr fz t s o) :: tail) = some (true, (o, e)) := by
  unfold resOf resVals
  simp only
  unfold argsOf
  rw [res_sl hs hn]
  rfl
namespace T36
variable {Q : PV → Ob → Prop}
theorem L2_ends (l : List (List UInt8)) (b : List Int) (hb : ∀ s ∈ b, 0 ≤ s ∧ s ≤ l.length) (hbl : b.length ≤ 1000000) (hl : l.length ≤ 200) : ∀ (r : List Int) (i : Nat) (acc : List (List UInt8)), b.drop i = r → i ≤ b.length → acc.length ≤ i →
    Q (.tup [.sl 0 1 0 (acc ++ r.map (Sp.seat l)).length none, .dat i64 0]) [(0, .arr false 9 .str (acc ++ r.map (Sp.seat l)))] → Ends X81 (L2 l acc.length b b.length i acc) Q
  | [], i, acc, h, hi, ha, hq => by
    have := drop_nil h hi
    exact Ends.steq (L2_eq ..) (Ends.ff (by simp <;> omega) (Ends.leaf (by simpa using hq)))
  | s :: r, i, acc, h, hi, ha, hq => by
    obtain ⟨h1, h2, h3⟩ := drop_cons (d := 0) h
    have hs := hb s (mem_drop h)
    refine Ends.steq (L2_eq ..) (Ends.tt (by simp <;> omega) (Ends.tt (by simp <;> omega) ?_))
    simp only [Int.toNat_natCast, h2, Ends_ite]
    rw [wr ((i : Int) + 1) (by omega) (by omega), wr (s - 1) (by omega) (by omega)]
    have go : ∀ y, y = Sp.seat l s → Ends X81 (L2 l (Nat.add acc.length 1) b b.length ((i : Int) + 1) (acc ++ [y])) Q := by
      rintro y rfl
      have e : Nat.add acc.length 1 = (acc ++ [Sp.seat l s]).length := by simp
      rw [e]
      exact L2_ends l b hb hbl hl r (i + 1) _ h3 h1 (by simp; omega) (by simpa using hq)
    by_cases hp : 0 < s
    · rw [if_pos (by simpa using hp), if_pos (by simp; omega), if_pos (by simp; omega)]
      exact go _ (seat_pos hp).symm
    · rw [if_neg (by simpa using hp), if_pos (by simp; omega)]
      exact go _ (seat_0 hp).symm
theorem ok : SpecOk C7p 36 cDraw := by
  refine spec7 (X := X81) rfl hallX81 (d := 9) (by kernel_rfl) (by kernel_rfl) (by kernel_rfl) (fun (l : List (List UInt8)) hl => ?_) (isSome_ex (by kernel_rfl))
  have hl : Sp.okN l = true := hl
  refine Ends.eq (T_eq l) (Ends.tt (by rw [hl]) ?_)
  rw [Ends_ite]
  by_cases he : Sp.playersE l = 0
  · rw [if_neg (by simpa using he)]
    have hlen : 1 ≤ l.length ∧ l.length ≤ 200 := by
      unfold Sp.playersE at he
      split at he
      · cases he
      · split at he
        · cases he
        · omega
    refine Ends.tt (by simp; omega) ?_
    have hm : ∀ s ∈ Sp.bracket (l.length : Int), 0 ≤ s ∧ s ≤ (l.length : Int) := fun s hs => bracket_mem (by omega) hs
    have hbl := bracket_len (n := (l.length : Int)) (by omega)
    have hbn : Sp.bracket (l.length : Int) ≠ [] := bracket_ne _
    have hf : cDraw.f l = ((Sp.bracket (l.length : Int)).map (Sp.seat l), 0) := by show Sp.Draw l = _; rw [Sp.Draw, if_neg (by simpa using he)]
    generalize Sp.bracket (l.length : Int) = b at hm hbl hbn hf ⊢
    cases b with
    | nil => exact absurd rfl hbn
    | cons s r =>
      have hs := hm s (by simp)
      refine Ends.steq (L1_eq ..) (Ends.tt (by simp <;> omega) (Ends.tt (by simp <;> omega) ?_))
      have e0 : (s :: r).getD (0 : Int).toNat 0 = s := rfl
      simp only [e0, Ends_ite]
      have go : ∀ y, y = Sp.seat l s → Ends X81 (L2 l 1 (s :: r) ((s :: r).length : Int) (IntKind.wrap .i64 ((0 : Int) + 1)) [y]) (Gives cDraw l) := by
        rintro y rfl
        refine L2_ends l (s :: r) hm (by omega) hlen.2 r 1 [Sp.seat l s] rfl (by simp) (by simp) ?_
        refine ⟨((s :: r).map (Sp.seat l), 0), ?_, hf.symm⟩
        exact res2_sl rfl rfl
      by_cases hp : 0 < s
      · rw [if_pos (by simpa using hp), wr _ (by omega) (by omega), if_pos (by simp; omega), if_pos (by simp)]
        exact go _ (seat_pos hp).symm
      · rw [if_neg (by simpa using hp), if_pos trivial]
        exact go _ (seat_0 hp).symm
  · rw [if_pos (by simpa using he), Ends_leaf]
    exact ⟨([], Sp.playersE l), rfl, by show _ = Sp.Draw l; rw [Sp.Draw, if_pos he]⟩
end T36
end Go.Pe
end
section
/- The reference's draw; slots and losers. -/
namespace Go.Pe
open Go.Det
namespace T40
variable {Q : PV → Ob → Prop}
theorem L2_ends (l : List (List UInt8)) (b : List Int) (hb : ∀ s ∈ b, 0 ≤ s ∧ s ≤ l.length) (hbl : b.length ≤ 1000000) (hl : l.length ≤ 200) : ∀ (r : List Int) (i : Nat) (acc : List (List UInt8)), b.drop i = r → i ≤ b.length → acc.length ≤ i →
    Q (.sl 0 1 0 (acc ++ r.map (Sp.seat l)).length none) [(0, .arr false 9 .str (acc ++ r.map (Sp.seat l)))] → Ends X81 (L2 l acc.length b i acc) Q
  | [], i, acc, h, hi, ha, hq => by
    have := drop_nil h hi
    exact Ends.steq (L2_eq ..) (Ends.ff (by simp <;> omega) (Ends.leaf (by simpa using hq)))
  | s :: r, i, acc, h, hi, ha, hq => by
    obtain ⟨h1, h2, h3⟩ := drop_cons (d := 0) h
    have hs := hb s (mem_drop h)
    refine Ends.steq (L2_eq ..) (Ends.tt (by simp <;> omega) (Ends.tt (by simp <;> omega) ?_))
    simp only [Int.toNat_natCast, h2, Ends_ite]
    rw [wr ((i : Int) + 1) (by omega) (by omega), wr (s - 1) (by omega) (by omega)]
    have go : ∀ y, y = Sp.seat l s → Ends X81 (L2 l (Nat.add acc.length 1) b ((i : Int) + 1) (acc ++ [y])) Q := by
      rintro y rfl
      have e : Nat.add acc.length 1 = (acc ++ [Sp.seat l s]).length := by simp
      rw [e]
      exact L2_ends l b hb hbl hl r (i + 1) _ h3 h1 (by simp; omega) (by simpa using hq)
    by_cases hp : s = 0
    · rw [if_pos (by simpa using hp), if_pos (by simp; omega)]
      exact go _ (seat_0 (by omega)).symm
    · rw [if_neg (by simpa using hp), if_pos (by simp; omega), if_pos (by simp; omega), if_pos (by simp; omega)]
      exact go _ (seat_pos (by omega)).symm
theorem ok : SpecOk C7p 40 cDrawR := by
  refine spec7 (X := X81) rfl hallX81 (d := 9) (by kernel_rfl) (by kernel_rfl) (by kernel_rfl) (fun (l : List (List UInt8)) hl => ?_) (isSome_ex (by kernel_rfl))
  have hlen : 1 ≤ l.length ∧ l.length ≤ 200 := by simpa [cDrawR] using hl
  refine Ends.eq (T_eq l) (Ends.tt (by simp; omega) ?_)
  have hm : ∀ s ∈ Sp.bracket (l.length : Int), 0 ≤ s ∧ s ≤ (l.length : Int) := fun s hs => bracket_mem (by omega) hs
  have hbl := bracket_len (n := (l.length : Int)) (by omega)
  have hbn : Sp.bracket (l.length : Int) ≠ [] := bracket_ne _
  have hf : cDrawR.f l = (Sp.bracket (l.length : Int)).map (Sp.seat l) := rfl
  generalize Sp.bracket (l.length : Int) = b at hm hbl hbn hf ⊢
  cases b with
  | nil => exact absurd rfl hbn
  | cons s r =>
    have hs := hm s (by simp)
    refine Ends.steq (L1_eq ..) (Ends.tt (by simp <;> omega) (Ends.tt (by simp <;> omega) ?_))
    have e0 : (s :: r).getD (0 : Int).toNat 0 = s := rfl
    simp only [e0, Ends_ite]
    have go : ∀ y, y = Sp.seat l s → Ends X81 (L2 l 1 (s :: r) (IntKind.wrap .i64 ((0 : Int) + 1)) [y]) (Gives cDrawR l) := by
      rintro y rfl
      refine L2_ends l (s :: r) hm (by omega) hlen.2 r 1 [Sp.seat l s] rfl (by simp) (by simp) ?_
      exact ⟨(s :: r).map (Sp.seat l), res1_sl rfl rfl, hf.symm⟩
    by_cases hp : s = 0
    · rw [if_pos (by simpa using hp), if_pos trivial]
      exact go _ (seat_0 (by omega)).symm
    · rw [if_neg (by simpa using hp), wr (s - 1) (by omega) (by omega), if_pos (by simp), if_pos (by simp; omega), if_pos (by simp)]
      exact go _ (seat_pos (by omega)).symm
end T40
/-- sizes of brackets -/
theorem size_slots2 : ∀ n : Fin 257, n.1 < 2 ∨ (Sp.size 8 (n.1 : Int) 1 = (n.1 : Int) ↔ Sp.slots2 n.1 = true) := by decide +kernel
theorem iand_slots2 : ∀ n : Fin 257, n.1 < 2 ∨ ((iand .i64 (n.1 : Int) (IntKind.wrap .i64 ((n.1 : Int) - 1)) = 0) ↔ Sp.slots2 n.1 = true) := by decide +kernel
theorem slots2_even : ∀ n : Fin 257, Sp.slots2 n.1 = true → n.1 % 2 = 0 := by decide +kernel
theorem slots2_out {n : Nat} (h : n < 2 ∨ 256 < n) : Sp.slots2 n = false := by
  unfold Sp.slots2
  rcases h with h | h
  · have : Nat.ble 2 n = false := by cases hb : Nat.ble 2 n with | false => rfl | true => have := Nat.le_of_ble_eq_true hb; omega
    rw [this]; rfl
  · have : Nat.ble n 256 = false := by cases hb : Nat.ble n 256 with | false => rfl | true => have := Nat.le_of_ble_eq_true hb; omega
    rw [this, Bool.and_false]; rfl
end Go.Pe
end
section
/- Rounds: contracts. -/
namespace Go.Pe
open Go.Det
theorem hallX70 : ∀ g sp, X70.sp g = some sp → SpecOk C7p g sp := hall70
namespace T95
theorem loop2 {Q : PV → Ob → Prop} (n : Int) (hn : n ≤ 256) : ∀ (f : Nat) (s : Int), 1 ≤ s → n ≤ s * 2 ^ f → Q (.dat i64 (Sp.size f n s)) [] → Ends X70 (L1 n s) Q
  | 0, s, h1, h, hq => by
    refine Ends.steq (L1_eq ..) ?_
    rw [Ends_ite, if_neg (by simp at h ⊢; omega), Ends_leaf]
    exact hq
  | f + 1, s, h1, h, hq => by
    refine Ends.steq (L1_eq ..) ?_
    by_cases hs : s < n
    · rw [Ends_ite, if_pos (by simpa using hs), wr _ (by omega) (by omega)]
      refine loop2 n hn f (2 * s) (by omega) ?_ (by simpa [Sp.size, hs] using hq)
      rw [Int.pow_succ] at h; rw [Int.mul_comm 2 s, Int.mul_assoc, Int.mul_comm 2]; exact h
    · rw [Ends_ite, if_neg (by simpa using hs), Ends_leaf]
      simpa [Sp.size, hs] using hq
theorem ok2 : SpecOk C7p 95 cSize2 := by
  refine spec7 (X := X70) rfl hallX70 (d := 9) (by kernel_rfl) (by kernel_rfl) (by kernel_rfl) (fun (n : Int) hn => ?_) (isSome_ex (by kernel_rfl))
  have hn : n ≤ 256 := by simpa [cSize2] using hn
  refine Ends.eq (T_eq n) ?_
  exact loop2 n hn 8 1 (by omega) (by omega) (Gives.of rfl rfl rfl)
end T95
/-- one more contract in front -/
theorem sp_cons {C : Ctx} {g0 : FuncId} {s0 : PSpec} {l : List (FuncId × PSpec)} (h0 : SpecOk C g0 s0) (hl : ∀ g sp, spOf l g = some sp → SpecOk C g sp) : ∀ g sp, spOf ((g0, s0) :: l) g = some sp → SpecOk C g sp := by
  intro g sp h
  unfold spOf at h
  cases h1 : Nat.beq g0 g with
  | true => rw [h1] at h; cases h; have := Nat.eq_of_beq_eq_true h1; subst this; exact h0
  | false => rw [h1] at h; exact hl g sp h
theorem hallX83 : ∀ g sp, X83.sp g = some sp → SpecOk C7p g sp := sp_cons T95.ok2 hallX80
theorem has_mem {l : List (List UInt8)} {x : List UInt8} : Sp.has l x = true ↔ x ∈ l := by simp [Sp.has]
namespace T39
variable {Q : PV → Ob → Prop}
theorem L3_ends (l q : List (List UInt8)) (hl : l.length ≤ 300) (hql : q.length ≤ 300) : ∀ (r : List (List UInt8)) (i : Nat), l.drop i = r → i ≤ l.length → r.length % 2 = 0 → Q (.dat i64 (Sp.openE q r)) [] → Ends X83 (L3 l q l.length i) Q
  | [], i, h, hi, _, hq => by
    have := drop_nil h hi
    exact Ends.steq (L3_eq ..) (Ends.ff (by simp <;> omega) (Ends.leaf (by simpa [Sp.openE] using hq)))
  | [_], _, _, _, h2, _ => by simp at h2
  | a :: b :: r, i, h, hi, he, hq => by
    obtain ⟨h1, h2, h3⟩ := drop_cons (d := []) h
    obtain ⟨g1, g2, g3⟩ := drop_cons (d := []) h3
    refine Ends.steq (L3_eq ..) (Ends.tt (by simp <;> omega) ?_)
    rw [wr ((i : Int) + 1) (by omega) (by omega), wr ((i : Int) + 2) (by omega) (by omega)]
    have ei : ((i : Int) + 1).toNat = i + 1 := by omega
    refine Ends.tt (by simp <;> omega) (Ends.tt (by simp <;> omega) ?_)
    simp only [ei, Int.toNat_natCast, h2, g2]
    have rest : ¬ (Sp.stays q a = true ∧ Sp.stays q b = true) → Ends X83 (L3 l q l.length ((i : Int) + 2)) Q := by
      intro hn
      have e : ((i : Int) + 2) = ((i + 2 : Nat) : Int) := by push_cast; rfl
      rw [e]
      refine L3_ends l q hl hql r (i + 2) g3 (by omega) (by simp at he; omega) ?_
      simpa only [Sp.openE, if_neg hn] using hq
    have bad : Sp.stays q a = true ∧ Sp.stays q b = true → Q (.dat i64 19) [] := by
      intro hn; simpa only [Sp.openE, if_pos hn] using hq
    by_cases hs : Sp.stays q a = true ∧ Sp.stays q b = true
    · have k1 : (¬ a = [] ∧ Sp.has q a = false) ∧ (¬ b = [] ∧ Sp.has q b = false) := by
        simpa [Sp.stays, Sp.has] using hs
      obtain ⟨⟨k1, k2⟩, k3, k4⟩ := k1
      refine Ends.tt (by simpa using k1) (Ends.tt (by simpa using k3) (Ends.tt (by simp <;> omega) (Ends.tt (by simp [k2]) (Ends.tt (by simp <;> omega) (Ends.tt (by simp [k4]) (Ends.leaf (bad hs)))))))
    · have k1 : ¬ ((¬ a = [] ∧ Sp.has q a = false) ∧ (¬ b = [] ∧ Sp.has q b = false)) := fun h => hs (by simpa [Sp.stays, Sp.has] using h)
      have go := rest hs
      refine Ends.ite (fun c1 => Ends.ite (fun c2 => Ends.tt (by simp <;> omega) (Ends.ite (fun c3 => Ends.tt (by simp <;> omega) (Ends.ite (fun c4 => ?_) (fun _ => go))) (fun _ => go))) (fun _ => go)) (fun _ => go)
      exact absurd ⟨⟨by simpa using c1, by simpa using c3⟩, by simpa using c2, by simpa using c4⟩ k1
theorem L2_ends (l q : List (List UInt8)) (hl : l.length ≤ 300) (hql : q.length ≤ 300) (he : l.length % 2 = 0) : ∀ (r : List (List UInt8)) (i : Nat), q.drop i = r → i ≤ q.length → Q (.dat i64 (Sp.orE (Sp.losersE l (q.take i) r) (Sp.openE q l))) [] → Ends X83 (L2 l q l.length i) Q
  | [], i, h, hi, hq => by
    have := drop_nil h hi
    refine Ends.steq (L2_eq ..) (Ends.ff (by simp <;> omega) ?_)
    exact L3_ends l q hl hql l 0 rfl (Nat.zero_le _) he (by simpa [Sp.losersE, Sp.orE_0] using hq)
  | x :: r, i, h, hi, hq => by
    obtain ⟨h1, h2, h3⟩ := drop_cons (d := []) h
    refine Ends.steq (L2_eq ..) (Ends.tt (by simp <;> omega) (Ends.tt (by simp <;> omega) ?_))
    simp only [Int.toNat_natCast, h2]
    rw [wr ((i : Int) + 1) (by omega) (by omega)]
    simp only [Sp.losersE] at hq
    by_cases hx : x = []
    · refine Ends.tt (by simpa using hx) (Ends.leaf ?_)
      rw [if_pos (.inl hx)] at hq; exact hq
    · refine Ends.ff (by simpa using hx) (Ends.tt (by simp <;> omega) (Ends.tt (by simp <;> omega) ?_))
      by_cases hm : x ∈ l
      · have hm2 := has_mem.2 hm
        refine Ends.ff (by simp [hm2]) (Ends.tt (by simp <;> omega) (Ends.tt (by simp <;> omega) (Ends.tt (by simp; omega) ?_)))
        rw [if_neg (by simp [hx, hm])] at hq
        by_cases hs : x ∈ q.take i
        · rw [if_pos hs] at hq
          exact Ends.tt (has_mem.2 hs) (Ends.leaf hq)
        · rw [if_neg hs] at hq
          refine Ends.ff (by simpa [Sp.has] using hs) ?_
          exact L2_ends l q hl hql he r (i + 1) h3 h1 (by rw [take_next h]; exact hq)
      · refine Ends.tt (by simpa [Sp.has] using hm) (Ends.leaf ?_)
        rw [if_pos (.inr hm)] at hq; exact hq
/-- names among the slots in front -/
theorem L1_ends (l q : List (List UInt8)) (hol : Sp.okN l = true) (hql : q.length ≤ 300) (he : l.length % 2 = 0) (tail : Int) (ht : tail = Sp.orE (Sp.losersE l [] q) (Sp.openE q l)) : ∀ (r seen : List (List UInt8)) (i : Nat), l.drop i = r → i ≤ l.length → (∀ y, y ≠ [] → (y ∈ seen ↔ y ∈ l.take i)) →
    Q (.dat i64 (Sp.orE (Sp.slotsE seen r) tail)) [] → Ends X83 (L1 l q l.length i) Q
  | [], seen, i, h, hi, hs, hq => by
    have := drop_nil h hi
    have hl := okN_len hol
    refine Ends.steq (L1_eq ..) (Ends.ff (by simp <;> omega) ?_)
    refine L2_ends l q hl hql he q 0 rfl (Nat.zero_le _) ?_
    simp only [Sp.slotsE, Sp.orE_0] at hq
    rw [ht] at hq
    simpa using hq
  | x :: r, seen, i, h, hi, hs, hq => by
    obtain ⟨h1, h2, h3⟩ := drop_cons (d := []) h
    have hl := okN_len hol
    have hx40 := okN_mem hol (mem_drop h)
    refine Ends.steq (L1_eq ..) (Ends.tt (by simp <;> omega) (Ends.tt (by simp <;> omega) ?_))
    simp only [Int.toNat_natCast, h2]
    rw [wr ((i : Int) + 1) (by omega) (by omega)]
    simp only [Sp.slotsE] at hq
    by_cases hx : x = []
    · rw [if_pos hx] at hq
      refine Ends.tt (by simpa using hx) ?_
      refine L1_ends l q hol hql he tail ht r seen (i + 1) h3 h1 (fun y hy => ?_) hq
      rw [take_next h, hs y hy]
      simp [hx, hy]
    · rw [if_neg hx] at hq
      refine Ends.ff (by simpa using hx) (Ends.tt (by simp <;> omega) (Ends.tt (by simp; omega) ?_))
      cases hn : Sp.isName x with
      | false =>
        have e : Sp.nameErr seen x = 8 := by simp [Sp.nameErr, hn]
        rw [e] at hq
        exact Ends.tt (by simp) (Ends.leaf hq)
      | true =>
        refine Ends.ff (by simp) (Ends.tt (by simp <;> omega) (Ends.tt (by simp <;> omega) (Ends.tt (by simp; omega) ?_)))
        by_cases hm : x ∈ l.take i
        · have e : Sp.nameErr seen x = 9 := by simp [Sp.nameErr, hn, (hs x hx).2 hm]
          rw [e] at hq
          exact Ends.tt (has_mem.2 hm) (Ends.leaf hq)
        · have hm2 : x ∉ seen := fun h => hm ((hs x hx).1 h)
          have e : Sp.nameErr seen x = 0 := by simp [Sp.nameErr, hn, hm2]
          rw [e] at hq
          refine Ends.ff (by simpa [Sp.has] using hm) ?_
          refine L1_ends l q hol hql he tail ht r (seen ++ [x]) (i + 1) h3 h1 (fun y hy => ?_) (by simpa using hq)
          rw [take_next h, List.mem_append, List.mem_append, hs y hy]
theorem ok : SpecOk C7p 39 cRoundE := by
  refine spec7 (X := X83) rfl hallX83 (d := 9) (by kernel_rfl) (by kernel_rfl) (by kernel_rfl) (fun (i : List (List UInt8) × List (List UInt8)) hl => ?_) (isSome_ex (by kernel_rfl))
  obtain ⟨l, q⟩ := i
  have hl0 : (Sp.okN l && Sp.okN q) = true := hl
  clear hl
  simp only [Bool.and_eq_true] at hl0
  obtain ⟨hl, hql⟩ := hl0
  have hQ : ∀ x, x = Sp.roundE l q → Gives cRoundE (l, q) (.dat i64 x) [] := fun x hx => Gives.of rfl rfl hx
  have hll := okN_len hl
  refine Ends.eq (T_eq l q) ?_
  by_cases h1 : l.length < 2
  · exact Ends.tt (by simp <;> omega) (Ends.leaf (hQ _ (by rw [Sp.roundE, if_pos (slots2_out (.inl h1))])))
  refine Ends.ff (by simp <;> omega) ?_
  by_cases h2 : 256 < l.length
  · exact Ends.tt (by simp <;> omega) (Ends.leaf (hQ _ (by rw [Sp.roundE, if_pos (slots2_out (.inr h2))])))
  refine Ends.ff (by simp <;> omega) (Ends.tt (by simp <;> omega) ?_)
  have hsz := (size_slots2 ⟨l.length, by omega⟩).resolve_left h1
  by_cases h3 : Sp.slots2 l.length = true
  · refine Ends.ff (by simpa using hsz.2 h3) ?_
    have he := slots2_even ⟨l.length, by omega⟩ h3
    refine L1_ends l q hl (okN_len hql) he _ rfl l [] 0 rfl (Nat.zero_le _) (by simp) (hQ _ ?_)
    rw [Sp.roundE, if_neg (by simp [h3])]
  · refine Ends.tt (by simp only [bne_iff_ne, ne_eq]; exact fun h => h3 (hsz.1 h)) (Ends.leaf (hQ _ ?_))
    rw [Sp.roundE, if_pos (by simpa using h3)]
end T39
end Go.Pe
end
section
/- Who goes on: contracts. -/
namespace Go.Pe
open Go.Det
theorem stays_iff {q : List (List UInt8)} {a : List UInt8} : Sp.stays q a = true ↔ ¬ a = [] ∧ Sp.has q a = false := by simp [Sp.stays, Sp.has]
theorem stays_false {q : List (List UInt8)} {a : List UInt8} (h : ¬ Sp.stays q a = true) : Sp.stays q a = false := by simpa using h
namespace T41
variable {Q : PV → Ob → Prop}
theorem L2_step (l q : List (List UInt8)) (hl : l.length ≤ 300) (hql : q.length ≤ 300)  {i k : Nat} {w a : List UInt8} {r : List (List UInt8)} (h : l.drop k = a :: r) (hk : i ≤ k ∧ k < i + 2) (hq : Ends X81 (L2 l q (i : Int) (if Sp.stays q a = true then a else w) ((k : Int) + 1)) Q) :
    Ends X81 (L2 l q (i : Int) w k) Q := by
  obtain ⟨h1, h2, h3⟩ := drop_cons (d := []) h
  obtain ⟨hik, hk⟩ := hk
  refine Ends.steq (L2_eq ..) ?_
  rw [wr ((i : Int) + 2) (by omega) (by omega), wr ((k : Int) + 1) (by omega) (by omega)]
  refine Ends.tt (by simp <;> omega) (Ends.tt (by simp <;> omega) ?_)
  simp only [Int.toNat_natCast, h2]
  by_cases hs : Sp.stays q a = true
  · rw [if_pos hs] at hq
    obtain ⟨k1, k2⟩ := stays_iff.1 hs
    exact Ends.tt (by simpa using k1) (Ends.tt (by simp <;> omega) (Ends.tt (by simp <;> omega) (Ends.tt (by simp [k2]) (Ends.tt (by simp <;> omega) hq))))
  · rw [if_neg hs] at hq
    refine Ends.ite (fun c1 => Ends.tt (by simp <;> omega) (Ends.tt (by simp <;> omega) (Ends.ite (fun c2 => ?_) (fun _ => hq)))) (fun _ => hq)
    exact absurd (stays_iff.2 ⟨by simpa using c1, by simpa using c2⟩) hs
theorem L4_step (l q : List (List UInt8)) (hl : l.length ≤ 300) (hql : q.length ≤ 300) (n : Nat) (acc : List (List UInt8)) {i k : Nat} {w a : List UInt8} {r : List (List UInt8)} (h : l.drop k = a :: r) (hk : i ≤ k ∧ k < i + 2) (hq : Ends X81 (L4 l q n (i : Int) (if Sp.stays q a = true then a else w) ((k : Int) + 1) acc) Q) :
    Ends X81 (L4 l q n (i : Int) w k acc) Q := by
  obtain ⟨h1, h2, h3⟩ := drop_cons (d := []) h
  obtain ⟨hik, hk⟩ := hk
  refine Ends.steq (L4_eq ..) ?_
  rw [wr ((i : Int) + 2) (by omega) (by omega), wr ((k : Int) + 1) (by omega) (by omega)]
  refine Ends.tt (by simp <;> omega) (Ends.tt (by simp <;> omega) ?_)
  simp only [Int.toNat_natCast, h2]
  by_cases hs : Sp.stays q a = true
  · rw [if_pos hs] at hq
    obtain ⟨k1, k2⟩ := stays_iff.1 hs
    exact Ends.tt (by simpa using k1) (Ends.tt (by simp <;> omega) (Ends.tt (by simp <;> omega) (Ends.tt (by simp [k2]) (Ends.tt (by simp <;> omega) hq))))
  · rw [if_neg hs] at hq
    refine Ends.ite (fun c1 => Ends.tt (by simp <;> omega) (Ends.tt (by simp <;> omega) (Ends.ite (fun c2 => ?_) (fun _ => hq)))) (fun _ => hq)
    exact absurd (stays_iff.2 ⟨by simpa using c1, by simpa using c2⟩) hs
theorem win2 (q : List (List UInt8)) (a b : List UInt8) : (if Sp.stays q b = true then b else if Sp.stays q a = true then a else []) = (Sp.winnersR q [a, b]).headD [] := rfl
theorem L3_ends (l q : List (List UInt8)) (hl : l.length ≤ 300) (hql : q.length ≤ 300) : ∀ (r : List (List UInt8)) (i : Nat) (acc : List (List UInt8)), l.drop i = r → i ≤ l.length → r.length % 2 = 0 → acc.length ≤ i →
    Q (.sl 0 1 0 (acc ++ Sp.winnersR q r).length none) [(0, .arr false 9 .str (acc ++ Sp.winnersR q r))] → Ends X81 (L3 l q acc.length i acc) Q
  | [], i, acc, h, hi, _, _, hq => by
    have := drop_nil h hi
    exact Ends.steq (L3_eq ..) (Ends.ff (by simp <;> omega) (Ends.leaf (by simpa [Sp.winnersR] using hq)))
  | [_], _, _, _, _, h2, _, _ => by simp at h2
  | a :: b :: r, i, acc, h, hi, he, ha, hq => by
    obtain ⟨h1, h2, h3⟩ := drop_cons (d := []) h
    obtain ⟨g1, g2, g3⟩ := drop_cons (d := []) h3
    refine Ends.steq (L3_eq ..) (Ends.tt (by simp <;> omega) ?_)
    refine L4_step l q hl hql acc.length acc h (by omega) ?_
    have e1 : ((i : Int) + 1) = ((i + 1 : Nat) : Int) := by push_cast; rfl
    rw [e1]
    refine L4_step l q hl hql acc.length acc h3 (by omega) ?_
    refine Ends.steq (L4_eq ..) ?_
    rw [wr ((i : Int) + 2) (by omega) (by omega)]
    refine Ends.ff (by simp; omega) (Ends.tt (by simp; omega) ?_)
    have e2 : ((i : Int) + 2) = ((i + 2 : Nat) : Int) := by push_cast; rfl
    rw [e2]
    generalize hw : (if Sp.stays q b = true then b else if Sp.stays q a = true then a else []) = w
    have e3 : Nat.add acc.length 1 = (acc ++ [w]).length := by simp
    rw [e3]
    refine L3_ends l q hl hql r (i + 2) _ g3 (by omega) (by simp at he; omega) (by simp; omega) ?_
    simp only [Sp.winnersR, hw] at hq
    simpa using hq
theorem ok : SpecOk C7p 41 cAdvR := by
  refine spec7 (X := X81) rfl hallX81 (d := 9) (by kernel_rfl) (by kernel_rfl) (by kernel_rfl) (fun (i : List (List UInt8) × List (List UInt8)) hl => ?_) (isSome_ex (by kernel_rfl))
  obtain ⟨l, q⟩ := i
  have hl0 : (Sp.okN l && Sp.okN q && decide (l.length % 2 = 0)) = true := hl
  clear hl
  simp only [Bool.and_eq_true, decide_eq_true_eq] at hl0
  obtain ⟨⟨hl, hq⟩, he⟩ := hl0
  have hl := okN_len hl
  have hq := okN_len hq
  refine Ends.eq (T_eq l q) ?_
  refine Ends.steq (L1_eq ..) ?_
  cases hc : l with
  | nil => exact Ends.ff (by simp <;> omega) (Ends.leaf ⟨[], rfl, rfl⟩)
  | cons a l1 =>
    cases l1 with
    | nil => rw [hc] at he; simp at he
    | cons b r =>
      rw [← hc]
      have h : l.drop 0 = a :: b :: r := by rw [hc]; rfl
      obtain ⟨h1, h2, h3⟩ := drop_cons (d := []) h
      obtain ⟨g1, g2, g3⟩ := drop_cons (d := []) h3
      refine Ends.tt (by simp <;> omega) ?_
      refine L2_step l q hl hq (i := 0) (k := 0) h (by omega) ?_
      have e1 : (((0 : Nat) : Int) + 1) = ((0 + 1 : Nat) : Int) := rfl
      rw [e1]
      refine L2_step l q hl hq (i := 0) (k := 0 + 1) h3 (by omega) ?_
      refine Ends.steq (L2_eq ..) ?_
      rw [wr (((0 : Nat) : Int) + 2) (by omega) (by omega)]
      refine Ends.ff (by simp) (Ends.tt (by simp <;> omega) ?_)
      have e2 : (((0 : Nat) : Int) + 2) = ((0 + 2 : Nat) : Int) := rfl
      rw [e2]
      generalize hw : (if Sp.stays q b = true then b else if Sp.stays q a = true then a else []) = w
      refine L3_ends l q hl hq r (0 + 2) [w] g3 (by omega) (by rw [hc] at he; simp at he; omega) (by simp) ?_
      refine ⟨Sp.winnersR q l, ?_, rfl⟩
      have : Sp.winnersR q l = [w] ++ Sp.winnersR q r := by rw [hc]; simp only [Sp.winnersR, hw]; rfl
      rw [this]
      exact res1_sl rfl rfl
end T41
end Go.Pe
end
