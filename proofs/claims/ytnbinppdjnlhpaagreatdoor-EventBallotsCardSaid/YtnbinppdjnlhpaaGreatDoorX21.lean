import Derived.Test.YtnbinppdjnlhpaaGreatDoorX20
/- A part of the proofs of the laws of one chapter (no law is stated here). Made by program out of texts by AI agents. -/
section
/- Contracts of functions of chapter 7: ballots, brackets. -/
namespace Go.Pe
open Go.Det
theorem nkey_bd {key : Int} (h0 : 0 ≤ key) : 0 ≤ Sp.nkey key ∧ Sp.nkey key ≤ 2147483646 := by
  unfold Sp.nkey
  rw [Int.tmod_eq_emod_of_nonneg (by omega)]
  omega
theorem tmod_bd {a b : Int} (ha : 0 ≤ a) (hb : 0 < b) : 0 ≤ Int.tmod a b ∧ Int.tmod a b < b := ⟨Int.tmod_nonneg _ ha, Int.tmod_lt_of_pos _ hb⟩
theorem swp_len (l : List Int) (i k : Nat) : (Sp.swp l i k).length = l.length := by simp [Sp.swp]
theorem shuffle_len : ∀ (i : Nat) (key : Int) (l : List Int), (Sp.shuffle i key l).length = l.length
  | 0, _, _ => rfl
  | i + 1, key, l => by unfold Sp.shuffle; rw [shuffle_len, swp_len]
theorem iota_succ (i : Nat) : Sp.iota (i + 1) = Sp.iota i ++ [(i : Int)] := by simp [Sp.iota, List.range_succ]
theorem iota_len (i : Nat) : (Sp.iota i).length = i := by simp [Sp.iota]
namespace T90
set_option maxRecDepth 10000 in
theorem L2_ends {Q : PV → Ob → Prop} (N : Nat) (hN : N ≤ 1000) : ∀ (i : Nat) (key v : Int) (l : List Int), v.toNat = i → v < N → l.length = N → 0 ≤ key → key ≤ 2147483646 → Q (.sl 0 1 0 N none) [(0, .arr false 3 i64 (Sp.shuffle i key l))] → Ends X70 (L2 key N v l) Q
  | 0, key, v, l, hv, hlt, hl, k0, k1, hq => by
    refine Ends.steq (L2_eq ..) (Ends.ff (by simp; omega) ?_)
    simpa [Sp.shuffle] using hq
  | i + 1, key, v, l, hv, hlt, hl, k0, k1, hq => by
    obtain rfl : v = (i : Int) + 1 := by omega
    have hnk := nkey_bd k0
    have hk := tmod_bd hnk.1 (show (0 : Int) < (i : Int) + 1 + 1 by omega)
    have e1 : ((i : Int) + 1).toNat = i + 1 := by omega
    have e2 : (i : Int) + 1 + 1 = (i : Int) + 2 := by omega
    refine Ends.steq (L2_eq ..) ?_
    rw [wr (48271 * key) (by omega) (by omega), wr ((i : Int) + 1 + 1) (by omega) (by omega), wr ((i : Int) + 1 - 1) (by omega) (by omega), e1]
    rw [show Int.tmod (48271 * key) 2147483647 = Sp.nkey key from rfl]
    generalize hkk : Int.tmod (Sp.nkey key) ((i : Int) + 1 + 1) = kk at hk ⊢
    have hq' : Q (.sl 0 1 0 N none) [(0, .arr false 3 i64 (Sp.shuffle i (Sp.nkey key) (Sp.swp l (i + 1) kk.toNat)))] := by
      rw [← hkk, e2]; exact hq
    clear hq
    refine Ends.tt (by simp <;> omega) (Ends.tt (by simp) (Ends.tt (by simp <;> omega) (Ends.tt (by simp <;> omega) (Ends.tt (by simp <;> omega) (Ends.tt (by simp <;> omega) (Ends.tt (by simp <;> omega) (Ends.tt (by simp <;> omega) (Ends.tt (by simp <;> omega) (Ends.tt (by simp <;> omega) (Ends.tt (by simp <;> omega) ?_))))))))))
    exact L2_ends N hN i _ _ _ (by omega) (by omega) (by simp [hl]) hnk.1 hnk.2 hq'
theorem L1_ends {Q : PV → Ob → Prop} (n key : Int) (N : Nat) (hN : N ≤ 1000) (hn : n = N) : ∀ (k i : Nat), i + k = N → Ends X70 (L2 key N (n - 1) (Sp.iota N)) Q → Ends X70 (L1 n key N N i (Sp.iota i ++ List.replicate k 0)) Q
  | 0, i, h, hq => by
    obtain rfl : i = N := by omega
    refine Ends.steq (L1_eq ..) (Ends.ff (by simp) ?_)
    rw [wr _ (by omega) (by omega)]
    simpa using hq
  | k + 1, i, h, hq => by
    refine Ends.steq (L1_eq ..) ?_
    refine Ends.tt (by simp <;> omega) (Ends.tt (by simp <;> omega) (Ends.tt (by simp [iota_len] <;> omega) ?_))
    have e : (Sp.iota i ++ List.replicate (k + 1) (0 : Int)).set i (i : Int) = Sp.iota (i + 1) ++ List.replicate k 0 := by
      rw [iota_succ, List.replicate_succ, List.set_append_right _ _ (by rw [iota_len]; exact Nat.le_refl _), iota_len]
      simp
    rw [Int.toNat_natCast, e, wr _ (by omega) (by omega)]
    exact L1_ends n key N hN hn k (i + 1) (by omega) hq
theorem ok : SpecOk C7p 90 cballot := by
  refine spec7 (X := X70) rfl hall70 (d := 9) (by kernel_rfl) (by kernel_rfl) rfl (fun (i : Int × Int) hn => ?_) (isSome_ex (by kernel_rfl))
  obtain ⟨n, key⟩ := i
  have hn : ((0 ≤ n ∧ n ≤ 200) ∧ 1 ≤ key) ∧ key ≤ 2147483646 := by simpa [cballot] using hn
  refine Ends.eq (T_eq n key) (Ends.tt (by simp; omega) ?_)
  have := L1_ends (Q := Gives cballot (n, key)) n key n.toNat (by omega) (by omega) n.toNat 0 (by omega) (L2_ends n.toNat (by omega) (n.toNat - 1) key (n - 1) _ (by omega) (by omega) (iota_len _) (by omega) (by omega) ?_)
  · simpa [Sp.iota] using this
  · have hlen : n.toNat = (Sp.ballot n key).length := by simp [Sp.ballot, shuffle_len, iota_len]
    show Gives cballot (n, key) (.sl 0 1 0 n.toNat none) [(0, .arr false 3 i64 (Sp.ballot n key))]
    rw [hlen]
    exact Gives.of rfl (by simp) (by simp [cballot])
end T90
namespace T24
set_option maxRecDepth 10000 in
theorem L4_ends {Q : PV → Ob → Prop} (N : Nat) (hN : N ≤ 1000) : ∀ (i : Nat) (key v : Int) (l : List Int), v.toNat = i → v < N → l.length = N → 0 ≤ key → key ≤ 2147483646 → Q (.sl 0 1 0 N none) [(0, .arr false 3 i64 (Sp.shuffle i key l))] → Ends X70 (L4 N key v l) Q
  | 0, key, v, l, hv, hlt, hl, k0, k1, hq => by
    refine Ends.steq (L4_eq ..) (Ends.ff (by simp; omega) ?_)
    simpa [Sp.shuffle] using hq
  | i + 1, key, v, l, hv, hlt, hl, k0, k1, hq => by
    obtain rfl : v = (i : Int) + 1 := by omega
    have hnk := nkey_bd k0
    have hk := tmod_bd hnk.1 (show (0 : Int) < (i : Int) + 1 + 1 by omega)
    have e1 : ((i : Int) + 1).toNat = i + 1 := by omega
    have e2 : (i : Int) + 1 + 1 = (i : Int) + 2 := by omega
    refine Ends.steq (L4_eq ..) ?_
    rw [wr (48271 * key) (by omega) (by omega), wr ((i : Int) + 1 + 1) (by omega) (by omega), wr ((i : Int) + 1 - 1) (by omega) (by omega), e1]
    rw [show Int.tmod (48271 * key) 2147483647 = Sp.nkey key from rfl]
    generalize hkk : Int.tmod (Sp.nkey key) ((i : Int) + 1 + 1) = kk at hk ⊢
    have hq' : Q (.sl 0 1 0 N none) [(0, .arr false 3 i64 (Sp.shuffle i (Sp.nkey key) (Sp.swp l (i + 1) kk.toNat)))] := by
      rw [← hkk, e2]; exact hq
    clear hq
    refine Ends.tt (by simp <;> omega) (Ends.tt (by simp) (Ends.tt (by simp <;> omega) (Ends.tt (by simp <;> omega) (Ends.tt (by simp <;> omega) (Ends.tt (by simp <;> omega) (Ends.tt (by simp <;> omega) (Ends.tt (by simp <;> omega) (Ends.tt (by simp <;> omega) (Ends.tt (by simp <;> omega) (Ends.tt (by simp <;> omega) ?_))))))))))
    exact L4_ends N hN i _ _ _ (by omega) (by omega) (by simp [hl]) hnk.1 hnk.2 hq'

theorem L2_ends {Q : PV → Ob → Prop} (n key : Int) (N : Nat) (hN : N ≤ 1000) (hn : n = N) : ∀ (k i : Nat), i + k = N → Ends X70 (L4 N key (n - 1) (Sp.iota N)) Q → Ends X70 (L2 n key i i (Sp.iota i)) Q
  | 0, i, h, hq => by
    obtain rfl : i = N := by omega
    refine Ends.steq (L2_eq ..) (Ends.ff (by simp; omega) ?_)
    rw [wr _ (by omega) (by omega)]
    exact hq
  | k + 1, i, h, hq => by
    refine Ends.steq (L2_eq ..) ?_
    refine Ends.tt (by simp <;> omega) (Ends.tt (by simp [iota_len] <;> omega) ?_)
    rw [show Nat.add i 1 = i + 1 from rfl, ← iota_succ, wr _ (by omega) (by omega)]
    exact L2_ends n key N hN hn k (i + 1) (by omega) hq
theorem ok : SpecOk C7p 24 cballot := by
  refine spec7 (X := X70) rfl hall70 (d := 9) (by kernel_rfl) (by kernel_rfl) rfl (fun (i : Int × Int) hn => ?_) (isSome_ex (by kernel_rfl))
  obtain ⟨n, key⟩ := i
  have hn : ((0 ≤ n ∧ n ≤ 200) ∧ 1 ≤ key) ∧ key ≤ 2147483646 := by simpa [cballot] using hn
  refine Ends.eq (T_eq n key) (Ends.steq (L1_eq ..) ?_)
  by_cases h0 : n = 0
  · subst h0
    refine Ends.ff (by simp) (Ends.steq (L3_eq ..) ?_)
    rw [wr _ (by omega) (by omega)]
    refine Ends.ff (by simp) (Ends.leaf (Gives.of rfl rfl ?_))
    simp [cballot, Sp.ballot, Sp.shuffle, Sp.iota]
  · refine Ends.tt (by simp; omega) (Ends.tt (by simp) ?_)
    rw [wr _ (by omega) (by omega)]
    refine L2_ends (Q := Gives cballot (n, key)) n key n.toNat (by omega) (by omega) (n.toNat - 1) 1 (by omega) (L4_ends n.toNat (by omega) (n.toNat - 1) key (n - 1) _ (by omega) (by omega) (iota_len _) (by omega) (by omega) ?_)
    have hlen : n.toNat = (Sp.ballot n key).length := by simp [Sp.ballot, shuffle_len, iota_len]
    show Gives cballot (n, key) (.sl 0 1 0 n.toNat none) [(0, .arr false 3 i64 (Sp.ballot n key))]
    rw [hlen]
    exact Gives.of rfl (by simp) (by simp [cballot])
end T24
/-- the first contracts -/
theorem hall71 : ∀ g sp, X71.sp g = some sp → SpecOk C7p g sp := spOf_ok fun x hx => by
  simp only [List.mem_cons, List.mem_nil_iff, or_false] at hx
  rcases hx with rfl | rfl | rfl | rfl | rfl | rfl | rfl | rfl | rfl | rfl | rfl | rfl
  · exact T87.ok
  · exact T88.ok
  · exact T92.ok
  · exact T93.ok
  · exact T95.ok
  · exact T21.ok
  · exact T22.ok
  · exact T94.ok
  · exact T27.ok
  · exact T90.ok
  · exact T91.ok
  · exact T24.ok
theorem T89.ok : SpecOk C7p 89 cKey :=
  spec7 (X := X71) rfl hall71 (d := 9) (by kernel_rfl) (by kernel_rfl) (by kernel_rfl) (fun (k : Int) _ => Ends.eq (T89.T_eq k) (Ends.tt rfl (Ends.leaf (Gives.of rfl rfl rfl)))) (isSome_ex (by kernel_rfl))
theorem T23.ok : SpecOk C7p 23 cKey :=
  spec7 (X := X71) rfl hall71 (d := 9) (by kernel_rfl) (by kernel_rfl) (by kernel_rfl) (fun (k : Int) _ => Ends.eq (T23.T_eq k) (Ends.tt rfl (Ends.leaf (Gives.of rfl rfl rfl)))) (isSome_ex (by kernel_rfl))
end Go.Pe
end
