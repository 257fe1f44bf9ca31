import Derived.Test.YtnbinppdjnlhpaaGreatDoorX22
/- A part of the proofs of the laws of one chapter (no law is stated here). Made by program out of texts by AI agents. -/
section
/- EventBallots. -/
namespace Go.Pe
open Go.Det
/-! places in a bracket -/
def Gk : Nat → List Int
  | 0 => [1]
  | k + 1 => Sp.expand (Gk k)
theorem Gk_len : ∀ k, (Gk k).length = 2 ^ k
  | 0 => rfl
  | k + 1 => by unfold Gk Sp.expand; rw [exp_len, Gk_len k, Nat.pow_succ, Nat.mul_comm]
theorem Gk_place : ∀ k : Fin 8, ∀ x : Fin 129, x.1 < 1 ∨ 2 ^ k.1 < x.1 ∨ Sp.index (Gk k.1) x.1 0 = Sp.lastIdx (Gk k.1) x.1 0 0 := by decide +kernel
theorem grow_Gk {n : Int} (hn : n ≤ 128) : ∀ (f j : Nat), j ≤ 7 → ∃ k, k ≤ 7 ∧ Sp.grow f n (Gk j) = Gk k ∧ (n ≤ 2 ^ k ∨ k = j + f)
  | 0, j, hj => ⟨j, hj, rfl, .inr rfl⟩
  | f + 1, j, hj => by
    unfold Sp.grow
    have hc : (((Gk j).length : Nat) : Int) = 2 ^ j := by rw [Gk_len]; simp
    rw [hc]
    split
    · rename_i h
      have hj7 : j < 7 := by
        rcases Nat.lt_or_ge j 7 with h1 | h1
        · exact h1
        · obtain rfl : j = 7 := by omega
          omega
      obtain ⟨k, h1, h2, h3⟩ := grow_Gk hn f (j + 1) (by omega)
      exact ⟨k, h1, h2, by omega⟩
    · rename_i h
      exact ⟨j, hj, rfl, .inl (by omega)⟩
theorem index_strike {n x : Int} (h1 : 1 ≤ x) (h2 : x ≤ n) : ∀ (l : List Int) (i : Int), Sp.index (Sp.strike n l) x i = Sp.index l x i
  | [], _ => rfl
  | y :: l, i => by
    show Sp.index ((if y > n then 0 else y) :: Sp.strike n l) x i = _
    unfold Sp.index
    rw [index_strike h1 h2 l]
    by_cases hy : y > n
    · rw [if_pos hy, if_neg (show ¬ x = 0 by omega), if_neg (show ¬ x = y by omega)]
    · rw [if_neg hy]
theorem lastIdx_strike {n x : Int} (h1 : 1 ≤ x) (h2 : x ≤ n) : ∀ (l : List Int) (i r : Int), Sp.lastIdx (Sp.strike n l) x i r = Sp.lastIdx l x i r
  | [], _, _ => rfl
  | y :: l, i, r => by
    show Sp.lastIdx ((if y > n then 0 else y) :: Sp.strike n l) x i r = _
    unfold Sp.lastIdx
    rw [lastIdx_strike h1 h2 l]
    by_cases hy : y > n
    · rw [if_pos hy, if_neg (show ¬ (0 : Int) = x by omega), if_neg (show ¬ y = x by omega)]
    · rw [if_neg hy]
theorem place {n x : Int} (hn : n ≤ 70) (h1 : 1 ≤ x) (h2 : x ≤ n) : Sp.index (Sp.bracket n) x 0 = Sp.lastIdx (Sp.bracket n) x 0 0 := by
  unfold Sp.bracket
  rw [index_strike h1 h2, lastIdx_strike h1 h2]
  obtain ⟨k, g1, g2, g3⟩ := grow_Gk (n := n) (by omega) 8 0 (by omega)
  have g2 : Sp.grow 8 n [1] = Gk k := g2
  rw [g2]
  have hp := Gk_place ⟨k, by omega⟩ ⟨x.toNat, by omega⟩
  simp only at hp
  rw [show ((x.toNat : Nat) : Int) = x by omega] at hp
  rcases hp with hp | hp | hp
  · omega
  · have : n ≤ 2 ^ k := by omega
    have e : ((2 ^ k : Nat) : Int) = (2 : Int) ^ k := by simp
    omega
  · exact hp
theorem awake_ok : SpecOk C7p 17 cAwake := by
  refine ⟨by kernel_rfl, isSome_ex (by kernel_rfl), fun F h args i _ hlt hargs _ => ?_⟩
  have ha : args = [] := by
    have := hargs (fun _ => none) 0
    simpa [valsOf, cAwake] using this
  subst ha
  refine ⟨[(.bool true, h)], 1, fun m hm => ?_, fun _ => ⟨_, rfl⟩, fun x hx => ?_⟩
  · obtain ⟨m', rfl⟩ : ∃ m', m = m' + 1 := ⟨m - 1, by omega⟩
    rw [ecall]
    rfl
  · cases List.mem_singleton.1 hx
    exact ⟨Nat.le_refl _, fun _ _ => rfl, hlt, F, fun _ _ h => h, fun _ _ h => .inl h, by assumption, fun ρ N => mk_bool _⟩
theorem hall73 : ∀ g sp, X73.sp g = some sp → SpecOk C7p g sp := spOf_ok fun x hx => by
  simp only [List.mem_cons, List.mem_nil_iff, or_false] at hx
  rcases hx with rfl | rfl | rfl | rfl | rfl | rfl | rfl | rfl | rfl | rfl | rfl | rfl | rfl | rfl | rfl | rfl | rfl | rfl | rfl | rfl
  · exact awake_ok
  · exact T18.ok
  · exact T19.ok
  · exact T20.ok
  · exact T26.ok
  · exact T89.ok
  · exact T23.ok
  · exact T25.ok
  · exact T87.ok
  · exact T88.ok
  · exact T92.ok
  · exact T93.ok
  · exact T95.ok
  · exact T21.ok
  · exact T22.ok
  · exact T94.ok
  · exact T27.ok
  · exact T90.ok
  · exact T91.ok
  · exact T24.ok
noncomputable def cEventBallots : PSpec := ⟨[i64, i64, .pair i64 i64], fun _ => true, [.bool], fun _ => true, false⟩
end Go.Pe
end
