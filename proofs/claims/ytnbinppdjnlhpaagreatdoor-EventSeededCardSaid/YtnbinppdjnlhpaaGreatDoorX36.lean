import Derived.Test.YtnbinppdjnlhpaaGreatDoorX35
/- A part of the proofs of the laws of one chapter (no law is stated here). Made by program out of texts by AI agents. -/
section
/- EventSeeded: the law, as a contract. -/
namespace Go.Pe
open Go.Det
theorem fdiv_pow (p j : Nat) (hj : j ≤ 64) : Int.fdiv (p : Int) ((2 : Int) ^ Min.min ((j : Int).toNat) (IntKind.bits .i64)) = ((p / 2 ^ j : Nat) : Int) := by
  have e : Min.min ((j : Int).toNat) (IntKind.bits .i64) = j := by
    rw [Int.toNat_natCast]
    exact Nat.min_eq_left hj
  rw [e, Int.fdiv_eq_ediv_of_nonneg _ (by exact_mod_cast Nat.zero_le _)]
  push_cast
  rfl
namespace T9
set_option maxRecDepth 10000 in
theorem ok : SpecOk C7p 9 cEventSeeded := by
  refine spec7 (X := X74) rfl hall74 (d := 9) (by kernel_rfl) (by kernel_rfl) (by kernel_rfl) (fun (i : Int × Int × Int) hn => ?_) (isSome_ex (by kernel_rfl))
  obtain ⟨n, a, b⟩ := i
  have hQ : ∀ ob, Gives cEventSeeded (n, a, b) (.dat .bool true) ob := fun ob => Gives.of rfl rfl rfl
  have hab : ((0 ≤ a ∧ a ≤ 255) ∧ 0 ≤ b) ∧ b ≤ 255 := by simpa [cEventSeeded] using hn
  refine Ends.eq (T_eq n a b) ?_
  rw [Ends_ite]
  by_cases h1 : n < 2
  · rw [if_pos (by simpa using h1)]; exact Ends.tt rfl (Ends.leaf (hQ _))
  rw [if_neg (by simpa using h1), Ends_ite]
  by_cases h2 : n > 70
  · rw [if_pos (by simpa using h2)]; exact Ends.tt rfl (Ends.leaf (hQ _))
  rw [if_neg (by simpa using h2)]
  have hall := Sp.all_ok (n := n.toNat) (by omega) (by omega)
  rw [show ((n.toNat : Nat) : Int) = n by omega] at hall
  have ho : Sp.out n 1 200 = 0 := by unfold Sp.out; rw [if_neg (by omega), if_neg (by omega)]
  have hB : Sp.Bracket n = (Sp.bracket n, 0) := by unfold Sp.Bracket; rw [if_neg (by simpa using ho)]
  have hBm : ∀ x y, Sp.Meet n x y = if Sp.meetE n x y ≠ 0 then (0, Sp.meetE n x y) else (Sp.rnd 10 (Sp.index (Sp.bracket n) x 0) (Sp.index (Sp.bracket n) y 0) 0, 0) := fun _ _ => rfl
  generalize Sp.bracket n = l at hall hB hBm
  simp only [Sp.allOk, Bool.and_eq_true, beq_iff_eq] at hall
  obtain ⟨⟨⟨⟨⟨⟨k1, k2⟩, k3⟩, k4⟩, k5⟩, k6⟩, k7⟩ := hall
  have k3 := Nat.le_of_ble_eq_true k3
  have k4 := Nat.le_of_ble_eq_true k4
  have k5 := Nat.le_of_ble_eq_true k5
  have k6 := Nat.le_of_ble_eq_true k6
  refine Ends.steq (L1_eq ..) (Ends.tt rfl ?_)
  rw [hB]
  have k7' : (IntKind.wrap IntKind.i64 ((Nat.bitwise Bool.and (BitVec.toNat (BitVec.ofInt (IntKind.bits IntKind.i64) (Int.ofNat (List.length l)))) (BitVec.toNat (BitVec.ofInt (IntKind.bits IntKind.i64) (IntKind.wrap IntKind.i64 (Int.ofNat (List.length l) - (1 : Int))))) : Nat) : Int)) = 0 := k7
  refine Ends.ff (by simp) (Ends.ff (by simp; omega) (Ends.ff (by rw [wr _ (by omega) (by omega)]; simp; omega) (Ends.ff (by simp only [k7']; rfl) ?_)))
  have hn0 : n ≠ 0 := by omega
  refine Ends.steq (L2_eq ..) (Ends.tt (by simpa using hn0) (Ends.tt (by simpa using hn0) (Ends.tt (by simp; omega) ?_)))
  have hm : ∀ c, 0 ≤ c → c ≤ 255 → 1 ≤ 1 + Int.tmod c n ∧ 1 + Int.tmod c n ≤ n := fun c g1 g2 => by
    have := Int.tmod_nonneg n g1
    have := Int.tmod_lt_of_pos c (show 0 < n by omega)
    omega
  have hx := hm a hab.1.1.1 hab.1.1.2
  have hy := hm b hab.1.2 hab.2
  rw [wr a (by omega) (by omega), wr b (by omega) (by omega), wr _ (by omega) (by omega), wr _ (by omega) (by omega)]
  generalize 1 + Int.tmod a n = x at hx
  generalize 1 + Int.tmod b n = y at hy
  have e0 : Nat.add 0 l.length = ([] ++ l : List Int).length := by simp
  rw [e0]
  have px := Sp.posOk_of k1 x hx.1 (by omega)
  have py := Sp.posOk_of k1 y hy.1 (by omega)
  refine rounds (l := l) (nn := n.toNat) k1 hx.1 (by omega) hy.1 (by omega) (fun met rd o hmet hol => ?_) 9 1 (Sp.zipI l 0) 0 k2 (Sp.At.all l) (.inl rfl) (by
    have := congrArg List.length (Sp.zipI_fst l 0)
    simp only [List.length_map] at this
    omega) (by omega) (by omega) _ (Sp.zipI_fst l 0).symm
  have hM2 : ∀ c, Sp.meetE n x y = c → (Sp.Meet n x y).2 = c := fun c h => by
    rw [hBm]; split
    · exact h
    · rename_i h'; simp only [ne_eq, Decidable.not_not] at h'; exact h'.symm.trans h
  have hE := meetE_eq n x y
  rw [if_neg (by simpa using ho), if_neg (by omega)] at hE
  refine Ends.steq (L3_eq ..) (Ends.ff (by simp; omega) ?_)
  rw [Ends_ite]
  by_cases hxy : x = y
  · rw [if_pos (by simpa using hxy)]
    rw [if_pos hxy] at hE
    exact Ends.tt rfl (Ends.tt (by rw [hM2 9 hE]; rfl) (Ends.tt rfl (Ends.leaf (hQ _))))
  rw [if_neg (by simpa using hxy)]
  rw [if_neg hxy] at hE
  obtain ⟨p, p1, p2, p3⟩ := Sp.index_at (l := l) (Int.le_refl 0) px.2
  obtain ⟨q, q1, q2, q3⟩ := Sp.index_at (l := l) (Int.le_refl 0) py.2
  simp only [Int.zero_add] at p1 q1
  have hpq : p ≠ q := fun h => hxy (by rw [← p3, ← q3, h])
  obtain ⟨j, j1, j2, j3, j4, j5⟩ := Sp.meets (a := p) (b := q) (by omega) (by omega) hpq
  have hM1 : (Sp.Meet n x y).1 = j := by rw [hBm, if_neg (by simpa using hE), p1, q1]; exact j1
  rw [p1, q1, j1] at hmet
  refine Ends.steq (L5_eq ..) (Ends.tt rfl (Ends.ff (by rw [hM2 0 hE]; rfl) ?_))
  rw [hM1]
  refine Ends.ff (by simp; omega) ?_
  have main : Ends X74 (L8 l x y j) (Gives cEventSeeded (n, a, b)) := by
    refine Ends.steq (L8_eq ..) (places x y j l (by omega) l 0 0 0 rfl (by omega) ?_)
    have e1 : Sp.lastIdx l x ((0 : Nat) : Int) 0 = p := px.1.symm.trans p1
    have e2 : Sp.lastIdx l y ((0 : Nat) : Int) 0 = q := py.1.symm.trans q1
    rw [e1, e2]
    refine Ends.steq (L11_eq ..) (Ends.ff (by simp) (Ends.tt (by simp; omega) (Ends.tt (by simp) (Ends.tt (by simp) ?_))))
    rw [wr _ (by omega) (by omega), show ((j : Int) - 1) = ((j - 1 : Nat) : Int) by omega, fdiv_pow _ _ (by omega), fdiv_pow _ _ (by omega), fdiv_pow _ _ (by omega), fdiv_pow _ _ (by omega)]
    exact Ends.tt (by rw [j4]; simp) (Ends.tt (by simp) (Ends.tt (by simp) (Ends.tt (by simp only [bne_iff_ne, ne_eq]; exact_mod_cast j5) (Ends.tt rfl (Ends.leaf (hQ _))))))
  rw [Ends_ite]
  by_cases hm0 : met > 0
  · rw [if_pos (by simpa using hm0)]
    rcases hmet with h | h
    · omega
    · exact Ends.ff (by rw [h]; simp) main
  · rw [if_neg (by simpa using hm0)]
    exact main
end T9
end Go.Pe
end
