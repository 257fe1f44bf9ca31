import Derived.Test.YtnbinppdjnlhpaaGreatDoorX23
/- A part of the proofs of the laws of one chapter (no law is stated here). Made by program out of texts by AI agents. -/
section
/- EventBallots: the law. -/
namespace Go.Pe
open Go.Det
theorem meetE_eq (n a b : Int) : Sp.meetE n a b = if Sp.out n 1 200 ≠ 0 then Sp.out n 1 200 else if a < 1 ∨ a > n ∨ b < 1 ∨ b > n then 10 else if a = b then 9 else 0 := by
  have h1 : (decide (imin a b < 1) || decide (imax a b > n)) = decide (a < 1 ∨ a > n ∨ b < 1 ∨ b > n) := by
    rw [Bool.eq_iff_iff]
    simp only [Bool.or_eq_true, decide_eq_true_eq]
    unfold imin imax
    split <;> split <;> omega
  unfold Sp.meetE
  rw [h1]
  generalize Sp.out n 1 200 = o
  by_cases h : o = 0
  · subst h
    by_cases h2 : a < 1 ∨ a > n ∨ b < 1 ∨ b > n
    · rw [decide_eq_true h2, if_pos h2]; simp [Sp.first, Sp.whn]
    · rw [decide_eq_false h2, if_neg h2]
      by_cases h3 : a = b
      · subst h3; simp [Sp.first, Sp.whn]
      · have h4 : (a == b) = false := by simpa using h3
        simp [Sp.first, Sp.whn, h3, h4]
  · simp [Sp.first, h]
namespace T3
theorem L1_ends {Q : PV → Ob → Prop} (n key a b : Int) (hq : ∀ e, e = Sp.meetE n a b → Ends X73 (L2 n key (Sp.Ballot n key).1 (Sp.Ballot n key).2 (Sp.Bracket n).1 (Sp.Bracket n).2 (Sp.Meet n a b).1 (Sp.Meet n a b).2 (Sp.ballotE n key) (Sp.out n 1 200) e a b) Q) : Ends X73 (L1 n key a b) Q := by
  have hq : ∀ e, e = Sp.meetE n a b → Ends X73 (L2 n key (Sp.Ballot n key).1 (Sp.Ballot n key).2 (Sp.Bracket n).1 (Sp.Bracket n).2 (Sp.Meet n a b).1 (Sp.Meet n a b).2 (Sp.first [Sp.out n 0 200, Sp.out key 1 2147483646]) (Sp.out n 1 200) e a b) Q := hq
  have me := meetE_eq n a b
  refine Ends.steq (L1_eq ..) ?_
  iterate 9 refine Ends.tt (by simp) ?_
  rw [Ends_ite]
  by_cases h : Sp.out n 1 200 = 0
  · rw [if_pos (by simpa using h)]
    rw [if_neg (by simpa using h)] at me
    refine Ends.tt rfl ?_
    rw [Ends_ite]
    by_cases h1 : a < 1
    · rw [if_pos (by simpa using h1)]; exact hq _ (by rw [me, if_pos (.inl h1)])
    rw [if_neg (by simpa using h1)]
    refine Ends.tt rfl ?_
    rw [Ends_ite]
    by_cases h2 : a > n
    · rw [if_pos (by simpa using h2)]; exact hq _ (by rw [me, if_pos (.inr (.inl h2))])
    rw [if_neg (by simpa using h2)]
    refine Ends.tt rfl ?_
    rw [Ends_ite]
    by_cases h3 : b < 1
    · rw [if_pos (by simpa using h3)]; exact hq _ (by rw [me, if_pos (.inr (.inr (.inl h3)))])
    rw [if_neg (by simpa using h3)]
    refine Ends.tt rfl ?_
    rw [Ends_ite]
    by_cases h4 : b > n
    · rw [if_pos (by simpa using h4)]; exact hq _ (by rw [me, if_pos (.inr (.inr (.inr h4)))])
    rw [if_neg (by simpa using h4), Ends_ite, if_pos (by simpa using h)]
    rw [if_neg (by omega)] at me
    refine Ends.tt rfl (Ends.tt rfl ?_)
    rw [Ends_ite]
    by_cases h5 : a = b
    · rw [if_pos (by simpa using h5)]; exact hq _ (by rw [me, if_pos h5])
    · rw [if_neg (by simpa using h5)]; exact hq _ (by rw [me, if_neg h5, h])
  · rw [if_neg (by simpa using h), Ends_ite, if_neg (by simpa using h)]
    exact hq _ (by rw [me, if_pos h])

theorem last {X : PCtx} {Q : PV → Ob → Prop} {v7 v16 v9 v17 : List Int} {v8 v10 v11 v12 v13 v14 v15 v18 : Int} (hq : Q (.dat .bool true) []) (e8 : v8 = v13) (e7 : v7 = v16) (e10 : v10 = v14) (e9 : v9 = v17) (e12 : v12 = v15) (e11 : v11 = v18) (h7 : v7.length ≤ 1000000) (h9 : v9.length ≤ 1000000) :
    Ends X (.ite (v8 == v13) (.ite (decide (v7.length ≤ 1000000)) (.ite (v7 == v16) (.ite (v10 == v14) (.ite (decide (v9.length ≤ 1000000)) (.ite (v9 == v17) (.ite (v12 == v15) (.ite (v11 == v18) (.ite true (.leaf (.dat .bool true) []) .fail)
      (.leaf (.bl false) [])) (.leaf (.bl false) [])) (.leaf (.bl false) [])) .fail) (.leaf (.bl false) [])) (.leaf (.bl false) [])) .fail) (.leaf (.bl false) [])) Q := by
  subst e8 e7 e10 e9 e12 e11
  exact Ends.tt (by simp) (Ends.tt (by simpa using h7) (Ends.tt (by simp) (Ends.tt (by simp) (Ends.tt (by simpa using h9) (Ends.tt (by simp) (Ends.tt (by simp) (Ends.tt (by simp) (Ends.tt rfl (Ends.leaf hq)))))))))
theorem ok : SpecOk C7p 3 cEventBallots := by
  refine spec7 (X := X73) rfl hall73 (d := 9) (by kernel_rfl) (by kernel_rfl) (by kernel_rfl) (fun (i : Int × Int × Int × Int) _ => ?_) (isSome_ex (by kernel_rfl))
  obtain ⟨n, key, a, b⟩ := i
  have hQ : ∀ ob, Gives cEventBallots (n, key, a, b) (.dat .bool true) ob := fun ob => Gives.of rfl rfl rfl
  have main : (n > 70 → n > 200) → Ends X73 (L1 n key a b) (Gives cEventBallots (n, key, a, b)) := by
    intro hn
    refine L1_ends n key a b ?_
    rintro e rfl
    have hB2 : (Sp.Ballot n key).2 = Sp.ballotE n key := by
      unfold Sp.Ballot; split
      · rfl
      · rename_i h; simp at h; simp [h]
    have hK2 : (Sp.Bracket n).2 = Sp.out n 1 200 := by
      unfold Sp.Bracket; split
      · rfl
      · rename_i h; simp at h; simp [h]
    have hM2 : (Sp.Meet n a b).2 = Sp.meetE n a b := by
      unfold Sp.Meet; split
      · rfl
      · rename_i h; simp at h; simp [h]
    -- the ballot
    have hB : Sp.ballotE n key = 0 → (Sp.Ballot n key).1 = Sp.ballot n key := fun h => by simp [Sp.Ballot, h]
    have hB' : ¬ Sp.ballotE n key = 0 → (Sp.Ballot n key).1 = [] := fun h => by simp [Sp.Ballot, h]
    have hK : Sp.out n 1 200 = 0 → (Sp.Bracket n).1 = Sp.bracket n := fun h => by simp [Sp.Bracket, h]
    have hK' : ¬ Sp.out n 1 200 = 0 → (Sp.Bracket n).1 = [] := fun h => by simp [Sp.Bracket, h]
    have hM : Sp.meetE n a b = 0 → (Sp.Meet n a b).1 = Sp.meetR n a b := fun h => by
      have h1 := h
      rw [meetE_eq] at h1
      have h0 : Sp.out n 1 200 = 0 := by
        by_cases h2 : Sp.out n 1 200 = 0
        · exact h2
        · rw [if_pos h2] at h1; exact h1
      rw [if_neg (by simpa using h0)] at h1
      have h3 : ¬ (a < 1 ∨ a > n ∨ b < 1 ∨ b > n) := fun h2 => by rw [if_pos h2] at h1; cases h1
      have := out_0 h0
      have hn70 : n ≤ 70 := by
        rcases Int.lt_or_le 70 n with h4 | h4
        · have := hn h4; omega
        · exact h4
      simp only [Sp.Meet, h, Sp.meetR]
      rw [if_neg (by simp), place hn70 (by omega) (by omega), place hn70 (by omega) (by omega)]
    have hM' : ¬ Sp.meetE n a b = 0 → (Sp.Meet n a b).1 = 0 := fun h => by simp [Sp.Meet, h]
    have oB : Sp.ballotE n key = 0 → (0 ≤ n ∧ n ≤ 200) ∧ 1 ≤ key ∧ key ≤ 2147483646 := fun h =>
      ⟨out_0 (first_0 (l := [Sp.out n 0 200, Sp.out key 1 2147483646]) h (Sp.out n 0 200) (by simp)), out_0 (first_0 (l := [Sp.out n 0 200, Sp.out key 1 2147483646]) h (Sp.out key 1 2147483646) (by simp))⟩
    have oM : Sp.meetE n a b = 0 → 1 ≤ n ∧ n ≤ 200 := fun h => out_0 (first_0 (l := [Sp.out n 1 200, _, _]) h (Sp.out n 1 200) (by simp))
    have lB : (Sp.Ballot n key).1.length ≤ 1000000 := by
      by_cases h : Sp.ballotE n key = 0
      · rw [hB h]; have := oB h; simp [Sp.ballot, shuffle_len, iota_len]; omega
      · rw [hB' h]; simp
    have lK : (Sp.Bracket n).1.length ≤ 1000000 := by
      by_cases h : Sp.out n 1 200 = 0
      · rw [hK h]; have := bracket_len (out_0 h).2; omega
      · rw [hK' h]; simp
    refine Ends.steq (L2_eq ..) ?_
    rw [Ends_ite]
    by_cases h1 : Sp.ballotE n key = 0
    · rw [if_pos (by simpa using h1)]
      refine Ends.tt (by have := oB h1; simp; omega) (Ends.steq (L3_eq ..) ?_)
      rw [Ends_ite]
      by_cases h2 : Sp.out n 1 200 = 0
      · rw [if_pos (by simpa using h2)]
        refine Ends.tt (by have := out_0 h2; simp; omega) (Ends.steq (L5_eq ..) ?_)
        rw [Ends_ite]
        by_cases h3 : Sp.meetE n a b = 0
        · rw [if_pos (by simpa using h3)]
          exact Ends.tt rfl (Ends.tt rfl (Ends.tt (by have := oM h3; simp; omega) (Ends.steq (L9_eq ..) (last (hQ _) hB2 (hB h1) hK2 (hK h2) hM2 (hM h3) lB lK))))
        · rw [if_neg (by simpa using h3)]
          exact Ends.steq (L9_eq ..) (last (hQ _) hB2 (hB h1) hK2 (hK h2) hM2 (hM' h3) lB lK)
      · rw [if_neg (by simpa using h2)]
        refine Ends.steq (L6_eq ..) ?_
        rw [Ends_ite]
        by_cases h3 : Sp.meetE n a b = 0
        · rw [if_pos (by simpa using h3)]
          exact Ends.tt rfl (Ends.tt rfl (Ends.tt (by have := oM h3; simp; omega) (Ends.steq (L10_eq ..) (last (hQ _) hB2 (hB h1) hK2 (hK' h2) hM2 (hM h3) lB lK))))
        · rw [if_neg (by simpa using h3)]
          exact Ends.steq (L10_eq ..) (last (hQ _) hB2 (hB h1) hK2 (hK' h2) hM2 (hM' h3) lB lK)
    · rw [if_neg (by simpa using h1)]
      refine Ends.steq (L4_eq ..) ?_
      rw [Ends_ite]
      by_cases h2 : Sp.out n 1 200 = 0
      · rw [if_pos (by simpa using h2)]
        refine Ends.tt (by have := out_0 h2; simp; omega) (Ends.steq (L7_eq ..) ?_)
        rw [Ends_ite]
        by_cases h3 : Sp.meetE n a b = 0
        · rw [if_pos (by simpa using h3)]
          exact Ends.tt rfl (Ends.tt rfl (Ends.tt (by have := oM h3; simp; omega) (Ends.steq (L11_eq ..) (last (hQ _) hB2 (hB' h1) hK2 (hK h2) hM2 (hM h3) lB lK))))
        · rw [if_neg (by simpa using h3)]
          exact Ends.steq (L11_eq ..) (last (hQ _) hB2 (hB' h1) hK2 (hK h2) hM2 (hM' h3) lB lK)
      · rw [if_neg (by simpa using h2)]
        refine Ends.steq (L8_eq ..) ?_
        rw [Ends_ite]
        by_cases h3 : Sp.meetE n a b = 0
        · rw [if_pos (by simpa using h3)]
          exact Ends.tt rfl (Ends.tt rfl (Ends.tt (by have := oM h3; simp; omega) (Ends.steq (L12_eq ..) (last (hQ _) hB2 (hB' h1) hK2 (hK' h2) hM2 (hM h3) lB lK))))
        · rw [if_neg (by simpa using h3)]
          exact Ends.steq (L12_eq ..) (last (hQ _) hB2 (hB' h1) hK2 (hK' h2) hM2 (hM' h3) lB lK)
  refine Ends.eq (T_eq n key (a, b)) ?_
  rw [Ends_ite]
  by_cases h : n > 70
  · rw [if_pos (by simpa using h), Ends_ite]
    by_cases h2 : n ≤ 200
    · rw [if_pos (by simpa using h2)]
      exact Ends.tt rfl (Ends.leaf (hQ _))
    · rw [if_neg (by simpa using h2)]
      exact main (fun _ => by omega)
  · rw [if_neg (by simpa using h)]
    exact main (fun h' => absurd h' h)
end T3
end Go.Pe
end
