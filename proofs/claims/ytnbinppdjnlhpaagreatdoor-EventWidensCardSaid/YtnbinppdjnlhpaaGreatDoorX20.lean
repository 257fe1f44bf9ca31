import Derived.Test.YtnbinppdjnlhpaaGreatDoorX19
import Derived.Test.YtnbinppdjnlhpaaGreatDoorX18
/- A part of the proofs of the laws of one chapter (no law is stated here). Made by program out of texts by AI agents. -/
section
namespace Go.Pe
open Go.Det
theorem mark_iff (c : Int) : Sp.mark c = true ↔ (97 ≤ c ∧ c ≤ 122) ∨ (65 ≤ c ∧ c ≤ 90) ∨ (48 ≤ c ∧ c ≤ 57) ∨ c = 95 := by
  simp [Sp.mark, Sp.letter, or_assoc]
theorem letter_iff (c : Int) : Sp.letter c = true ↔ (97 ≤ c ∧ c ≤ 122) ∨ (65 ≤ c ∧ c ≤ 90) := by
  simp [Sp.letter]
namespace T158
variable {Q : PV → Ob → Prop}
theorem loop (s : List UInt8) (hne : s ≠ []) : ∀ (r : List UInt8) (i : Nat), s.drop i = r → i ≤ s.length → 1 ≤ i →
    ((r.all fun c => Sp.mark (c.toNat : Int)) = false → ∀ ob, Q (.bl false) ob) → ((r.all fun c => Sp.mark (c.toNat : Int)) = true → ∀ ob, Q (.dat .bool (decide ((s.length : Int) ≤ 24))) ob) → Ends X70 (L2 s s i) Q
  | [], i, h, hi, h1, hf, ht => by
    have := drop_nil h hi
    refine Ends.steq (L2_eq ..) (Ends.ff (by simp; omega) (Ends.tt (by simpa using hne) ?_))
    exact Ends.leaf (ht rfl _)
  | x :: r, i, h, hi, h1, hf, ht => by
    obtain ⟨g1, g2, g3⟩ := drop_cons (d := 0) h
    refine Ends.steq (L2_eq ..) (Ends.tt (by simpa using g1) ?_)
    have hn : ((i : Int) == 0) = false := by simp; omega
    simp only [Ends_ite, Ends_leaf, hn, Bool.false_eq_true, if_false, decide_eq_true_eq, Bool.not_eq_true', decide_eq_false_iff_not, bne_iff_ne, ne_eq]
    have step : Sp.mark (x.toNat : Int) = true → runeW s i = 1 → Ends X70 (L2 s s (Nat.add i (runeW s i))) Q := by
      intro hm hw
      rw [hw]
      refine loop s hne r (i + 1) g3 g1 (by omega) (fun e => hf (by simp [e])) (fun e => ht (by simp [e]; exact hm))
    have no : Sp.mark (x.toNat : Int) = false → ∀ ob, Q (.bl false) ob := fun hm => hf (by simp [hm])
    by_cases hl : (s.getD i 0).toNat < 128
    · obtain ⟨e1, e2⟩ := rune_low g1 hl
      rw [e1, g2]
      have mi := mark_iff (x.toNat : Int)
      generalize ((x.toNat : Nat) : Int) = c at mi step no ⊢
      by_cases hm : Sp.mark c = true
      · have := mi.1 hm
        repeat' split
        all_goals first | exact step hm e2 | (exfalso; omega)
      · have hm2 : Sp.mark c = false := by simpa using hm
        have : ¬ _ := fun h => hm (mi.2 h)
        repeat' split
        all_goals first | exact no hm2 _ | (exfalso; omega)
    · have hr := rune_high g1 (by omega)
      have hx : Sp.mark (x.toNat : Int) = false := by
        have : ¬ Sp.mark (x.toNat : Int) = true := fun h => by
          have := (mark_iff _).1 h
          rw [g2] at hl
          omega
        simpa using this
      repeat' split
      all_goals first | exact no hx _ | (exfalso; omega)
end T158
end Go.Pe
end
section
namespace Go.Pe
open Go.Det
theorem nkey_bd {key : Int} (h0 : 0 ≤ key) : 0 ≤ Sp.nkey key ∧ Sp.nkey key ≤ 2147483646 := by
  unfold Sp.nkey
  rw [Int.tmod_eq_emod_of_nonneg (by omega)]
  omega
theorem tmod_bd {a b : Int} (ha : 0 ≤ a) (hb : 0 < b) : 0 ≤ Int.tmod a b ∧ Int.tmod a b < b := ⟨Int.tmod_nonneg _ ha, Int.tmod_lt_of_pos _ hb⟩
theorem swp_len (l : List Int) (i k : Nat) : (Sp.swp l i k).length = l.length := by simp [Sp.swp]
theorem shuffle_len : ∀ (i : Nat) (key : Int) (l : List Int), (Sp.shuffle i key l).length = l.length
  | 0, _, _ => rfl
  | i + 1, key, l => by unfold Sp.shuffle; rw [shuffle_len, swp_len]
theorem iota_succ (i : Nat) : Sp.iota (i + 1) = Sp.iota i ++ [(i : Int)] := by simp [Sp.iota, List.range_succ]
theorem iota_len (i : Nat) : (Sp.iota i).length = i := by simp [Sp.iota]
namespace T90
set_option maxRecDepth 10000 in
theorem L2_ends {Q : PV → Ob → Prop} (N : Nat) (hN : N ≤ 1000) : ∀ (i : Nat) (key v : Int) (l : List Int), v.toNat = i → v < N → l.length = N → 0 ≤ key → key ≤ 2147483646 → Q (.sl 0 1 0 N none) [(0, .arr false 3 i64 (Sp.shuffle i key l))] → Ends X70 (L2 key N v l) Q
  | 0, key, v, l, hv, hlt, hl, k0, k1, hq => by
    refine Ends.steq (L2_eq ..) (Ends.ff (by simp; omega) ?_)
    simpa [Sp.shuffle] using hq
  | i + 1, key, v, l, hv, hlt, hl, k0, k1, hq => by
    obtain rfl : v = (i : Int) + 1 := by omega
    have hnk := nkey_bd k0
    have hk := tmod_bd hnk.1 (show (0 : Int) < (i : Int) + 1 + 1 by omega)
    have e1 : ((i : Int) + 1).toNat = i + 1 := by omega
    have e2 : (i : Int) + 1 + 1 = (i : Int) + 2 := by omega
    refine Ends.steq (L2_eq ..) ?_
    rw [wr (48271 * key) (by omega) (by omega), wr ((i : Int) + 1 + 1) (by omega) (by omega), wr ((i : Int) + 1 - 1) (by omega) (by omega), e1]
    rw [show Int.tmod (48271 * key) 2147483647 = Sp.nkey key from rfl]
    generalize hkk : Int.tmod (Sp.nkey key) ((i : Int) + 1 + 1) = kk at hk ⊢
    have hq' : Q (.sl 0 1 0 N none) [(0, .arr false 3 i64 (Sp.shuffle i (Sp.nkey key) (Sp.swp l (i + 1) kk.toNat)))] := by
      rw [← hkk, e2]; exact hq
    clear hq
    refine Ends.tt (by simp <;> omega) (Ends.tt (by simp) (Ends.tt (by simp <;> omega) (Ends.tt (by simp <;> omega) (Ends.tt (by simp <;> omega) (Ends.tt (by simp <;> omega) (Ends.tt (by simp <;> omega) (Ends.tt (by simp <;> omega) (Ends.tt (by simp <;> omega) (Ends.tt (by simp <;> omega) (Ends.tt (by simp <;> omega) ?_))))))))))
    exact L2_ends N hN i _ _ _ (by omega) (by omega) (by simp [hl]) hnk.1 hnk.2 hq'
theorem L1_ends {Q : PV → Ob → Prop} (n key : Int) (N : Nat) (hN : N ≤ 1000) (hn : n = N) : ∀ (k i : Nat), i + k = N → Ends X70 (L2 key N (n - 1) (Sp.iota N)) Q → Ends X70 (L1 n key N N i (Sp.iota i ++ List.replicate k 0)) Q
  | 0, i, h, hq => by
    obtain rfl : i = N := by omega
    refine Ends.steq (L1_eq ..) (Ends.ff (by simp) ?_)
    rw [wr _ (by omega) (by omega)]
    simpa using hq
  | k + 1, i, h, hq => by
    refine Ends.steq (L1_eq ..) ?_
    refine Ends.tt (by simp <;> omega) (Ends.tt (by simp <;> omega) (Ends.tt (by simp [iota_len] <;> omega) ?_))
    have e : (Sp.iota i ++ List.replicate (k + 1) (0 : Int)).set i (i : Int) = Sp.iota (i + 1) ++ List.replicate k 0 := by
      rw [iota_succ, List.replicate_succ, List.set_append_right _ _ (by rw [iota_len]; exact Nat.le_refl _), iota_len]
      simp
    rw [Int.toNat_natCast, e, wr _ (by omega) (by omega)]
    exact L1_ends n key N hN hn k (i + 1) (by omega) hq
theorem ok : SpecOk C7p 90 cballot := by
  refine spec7 (X := X70) rfl hall70 (d := 9) (by kernel_rfl) (by kernel_rfl) rfl (fun (i : Int × Int) hn => ?_) (isSome_ex (by kernel_rfl))
  obtain ⟨n, key⟩ := i
  have hn : ((0 ≤ n ∧ n ≤ 200) ∧ 1 ≤ key) ∧ key ≤ 2147483646 := by simpa [cballot] using hn
  refine Ends.eq (T_eq n key) (Ends.tt (by simp; omega) ?_)
  have := L1_ends (Q := Gives cballot (n, key)) n key n.toNat (by omega) (by omega) n.toNat 0 (by omega) (L2_ends n.toNat (by omega) (n.toNat - 1) key (n - 1) _ (by omega) (by omega) (iota_len _) (by omega) (by omega) ?_)
  · simpa [Sp.iota] using this
  · have hlen : n.toNat = (Sp.ballot n key).length := by simp [Sp.ballot, shuffle_len, iota_len]
    show Gives cballot (n, key) (.sl 0 1 0 n.toNat none) [(0, .arr false 3 i64 (Sp.ballot n key))]
    rw [hlen]
    exact Gives.of rfl (by simp) (by simp [cballot])
end T90
namespace T24
set_option maxRecDepth 10000 in
theorem L4_ends {Q : PV → Ob → Prop} (N : Nat) (hN : N ≤ 1000) : ∀ (i : Nat) (key v : Int) (l : List Int), v.toNat = i → v < N → l.length = N → 0 ≤ key → key ≤ 2147483646 → Q (.sl 0 1 0 N none) [(0, .arr false 3 i64 (Sp.shuffle i key l))] → Ends X70 (L4 N key v l) Q
  | 0, key, v, l, hv, hlt, hl, k0, k1, hq => by
    refine Ends.steq (L4_eq ..) (Ends.ff (by simp; omega) ?_)
    simpa [Sp.shuffle] using hq
  | i + 1, key, v, l, hv, hlt, hl, k0, k1, hq => by
    obtain rfl : v = (i : Int) + 1 := by omega
    have hnk := nkey_bd k0
    have hk := tmod_bd hnk.1 (show (0 : Int) < (i : Int) + 1 + 1 by omega)
    have e1 : ((i : Int) + 1).toNat = i + 1 := by omega
    have e2 : (i : Int) + 1 + 1 = (i : Int) + 2 := by omega
    refine Ends.steq (L4_eq ..) ?_
    rw [wr (48271 * key) (by omega) (by omega), wr ((i : Int) + 1 + 1) (by omega) (by omega), wr ((i : Int) + 1 - 1) (by omega) (by omega), e1]
    rw [show Int.tmod (48271 * key) 2147483647 = Sp.nkey key from rfl]
    generalize hkk : Int.tmod (Sp.nkey key) ((i : Int) + 1 + 1) = kk at hk ⊢
    have hq' : Q (.sl 0 1 0 N none) [(0, .arr false 3 i64 (Sp.shuffle i (Sp.nkey key) (Sp.swp l (i + 1) kk.toNat)))] := by
      rw [← hkk, e2]; exact hq
    clear hq
    refine Ends.tt (by simp <;> omega) (Ends.tt (by simp) (Ends.tt (by simp <;> omega) (Ends.tt (by simp <;> omega) (Ends.tt (by simp <;> omega) (Ends.tt (by simp <;> omega) (Ends.tt (by simp <;> omega) (Ends.tt (by simp <;> omega) (Ends.tt (by simp <;> omega) (Ends.tt (by simp <;> omega) (Ends.tt (by simp <;> omega) ?_))))))))))
    exact L4_ends N hN i _ _ _ (by omega) (by omega) (by simp [hl]) hnk.1 hnk.2 hq'
theorem L2_ends {Q : PV → Ob → Prop} (n key : Int) (N : Nat) (hN : N ≤ 1000) (hn : n = N) : ∀ (k i : Nat), i + k = N → Ends X70 (L4 N key (n - 1) (Sp.iota N)) Q → Ends X70 (L2 n key i i (Sp.iota i)) Q
  | 0, i, h, hq => by
    obtain rfl : i = N := by omega
    refine Ends.steq (L2_eq ..) (Ends.ff (by simp; omega) ?_)
    rw [wr _ (by omega) (by omega)]
    exact hq
  | k + 1, i, h, hq => by
    refine Ends.steq (L2_eq ..) ?_
    refine Ends.tt (by simp <;> omega) (Ends.tt (by simp [iota_len] <;> omega) ?_)
    rw [show Nat.add i 1 = i + 1 from rfl, ← iota_succ, wr _ (by omega) (by omega)]
    exact L2_ends n key N hN hn k (i + 1) (by omega) hq
theorem ok : SpecOk C7p 24 cballot := by
  refine spec7 (X := X70) rfl hall70 (d := 9) (by kernel_rfl) (by kernel_rfl) rfl (fun (i : Int × Int) hn => ?_) (isSome_ex (by kernel_rfl))
  obtain ⟨n, key⟩ := i
  have hn : ((0 ≤ n ∧ n ≤ 200) ∧ 1 ≤ key) ∧ key ≤ 2147483646 := by simpa [cballot] using hn
  refine Ends.eq (T_eq n key) (Ends.steq (L1_eq ..) ?_)
  by_cases h0 : n = 0
  · subst h0
    refine Ends.ff (by simp) (Ends.steq (L3_eq ..) ?_)
    rw [wr _ (by omega) (by omega)]
    refine Ends.ff (by simp) (Ends.leaf (Gives.of rfl rfl ?_))
    simp [cballot, Sp.ballot, Sp.shuffle, Sp.iota]
  · refine Ends.tt (by simp; omega) (Ends.tt (by simp) ?_)
    rw [wr _ (by omega) (by omega)]
    refine L2_ends (Q := Gives cballot (n, key)) n key n.toNat (by omega) (by omega) (n.toNat - 1) 1 (by omega) (L4_ends n.toNat (by omega) (n.toNat - 1) key (n - 1) _ (by omega) (by omega) (iota_len _) (by omega) (by omega) ?_)
    have hlen : n.toNat = (Sp.ballot n key).length := by simp [Sp.ballot, shuffle_len, iota_len]
    show Gives cballot (n, key) (.sl 0 1 0 n.toNat none) [(0, .arr false 3 i64 (Sp.ballot n key))]
    rw [hlen]
    exact Gives.of rfl (by simp) (by simp [cballot])
end T24
/-- the first contracts -/
theorem hall71 : ∀ g sp, X71.sp g = some sp → SpecOk C7p g sp := spOf_ok fun x hx => by
  simp only [List.mem_cons, List.mem_nil_iff, or_false] at hx
  rcases hx with rfl | rfl | rfl | rfl | rfl | rfl | rfl | rfl | rfl | rfl | rfl | rfl
  · exact T87.ok
  · exact T88.ok
  · exact T92.ok
  · exact T93.ok
  · exact T95.ok
  · exact T21.ok
  · exact T22.ok
  · exact T94.ok
  · exact T27.ok
  · exact T90.ok
  · exact T91.ok
  · exact T24.ok
end Go.Pe
end
section
namespace Go.Pe
open Go.Det
theorem size_tab : ∀ n : Fin 201, ∀ j : Fin 9, decide ((2 ^ j.1 : Int) < Sp.size 8 n.1 1) = decide ((2 ^ j.1 : Int) < (n.1 : Int)) := by decide +kernel
theorem size_lt {n : Int} (h1 : 1 ≤ n) (h2 : n ≤ 200) {j : Nat} (hj : j ≤ 8) : ((2 ^ j : Int) < Sp.size 8 n 1 ↔ (2 ^ j : Int) < n) := by
  have h := size_tab ⟨n.toNat, by omega⟩ ⟨j, by omega⟩
  simp only at h
  rw [show ((n.toNat : Nat) : Int) = n by omega] at h
  simpa using h
namespace T25
set_option maxRecDepth 10000 in
theorem L4_ends {Q : PV → Ob → Prop} (n : Int) (l : List Int) (hl : l.length ≤ 400) (hb : Bd l) : ∀ (r : List Int) (i : Nat) (acc : List Int), l.drop i = r → i ≤ l.length → acc.length ≤ 2 * i → Ends X71 (L1 n (acc ++ exp l.length r).length (acc ++ exp l.length r)) Q →
    Ends X71 (L4 n l.length acc.length i acc l) Q
  | [], i, acc, h, hi, ha, hq => by
    have := drop_nil h hi
    refine Ends.steq (L4_eq ..) (Ends.ff (by simp; omega) ?_)
    simpa [exp] using hq
  | x :: r, i, acc, h, hi, ha, hq => by
    obtain ⟨h1, h2, h3⟩ := drop_cons (d := 0) h
    have hx := hb x (mem_drop h)
    refine Ends.steq (L4_eq ..) ?_
    refine Ends.tt (by simp <;> omega) (Ends.tt (by simp <;> omega) (Ends.tt (by simp <;> omega) (Ends.tt (by simp <;> omega) (Ends.tt (by simp <;> omega) (Ends.tt (by simp <;> omega) ?_)))))
    simp only [Int.toNat_natCast, h2]
    rw [wr (2 * (l.length : Int)) (by omega) (by omega), wr (2 * (l.length : Int) + 1) (by omega) (by omega), wr (2 * (l.length : Int) + 1 - x) (by omega) (by omega), wr _ (by omega) (by omega)]
    rw [show Nat.add acc.length 2 = (acc ++ [x, 2 * (l.length : Int) + 1 - x]).length from by simp]
    refine L4_ends n l hl hb r (i + 1) _ h3 h1 (by simp; omega) ?_
    simpa [exp] using hq
theorem L2_ends {Q : PV → Ob → Prop} (n : Int) (l : List Int) (h1 : 1 ≤ l.length) (hl : l.length ≤ 400) (hb : Bd l) (hq : Ends X71 (L1 n (exp l.length l).length (exp l.length l)) Q) : Ends X71 (L2 n l.length 0 l) Q := by
  cases hc : l with
  | nil => rw [hc] at h1; cases h1
  | cons x r =>
    rw [← hc]
    have hd : l.drop 0 = x :: r := by rw [hc]; rfl
    obtain ⟨g1, g2, g3⟩ := drop_cons (d := 0) hd
    have hx := hb x (mem_drop hd)
    refine Ends.steq (L2_eq ..) ?_
    refine Ends.tt (by simp <;> omega) (Ends.tt (by simp <;> omega) (Ends.tt (by simp <;> omega) (Ends.tt (by simp <;> omega) (Ends.tt (by simp <;> omega) (Ends.tt (by simp <;> omega) ?_)))))
    simp only [Int.toNat_zero, g2]
    rw [wr (2 * (l.length : Int)) (by omega) (by omega), wr (2 * (l.length : Int) + 1) (by omega) (by omega), wr (2 * (l.length : Int) + 1 - x) (by omega) (by omega), wr _ (by omega) (by omega)]
    refine L4_ends n l hl hb r 1 [x, 2 * (l.length : Int) + 1 - x] g3 g1 (by simp) ?_
    have : [x, 2 * (l.length : Int) + 1 - x] ++ exp l.length r = exp l.length l := by
      rw [show exp l.length l = exp l.length (x :: r) by rw [hc]]
      simp [exp]
    rw [this]; exact hq
theorem L3_ends {Q : PV → Ob → Prop} (n : Int) (m : Nat) (hm : m ≤ 1000) : ∀ (r done : List Int), (done ++ r).length = m → Q (.sl 0 1 0 m none) [(0, .arr false 3 i64 (done ++ Sp.strike n r))] → Ends X71 (L3 n m done.length (done ++ r)) Q
  | [], done, h, hq => by
    refine Ends.steq (L3_eq ..) (Ends.ff (by simp at h ⊢; omega) ?_)
    simpa [Sp.strike] using hq
  | x :: r, done, h, hq => by
    simp at h
    have hg : (done ++ x :: r).getD done.length 0 = x := by simp
    have hs : (done ++ x :: r).set done.length 0 = done ++ 0 :: r := by simp
    refine Ends.steq (L3_eq ..) ?_
    refine Ends.tt (by simp <;> omega) (Ends.tt (by simp <;> omega) (Ends.tt (by simp <;> omega) ?_))
    simp only [Int.toNat_natCast, hg, hs]
    rw [wr _ (by omega) (by omega), Ends_ite]
    by_cases hx : x > n
    · rw [if_pos (by simpa using hx)]
      refine Ends.tt (by simp <;> omega) (Ends.tt (by simp <;> omega) ?_)
      have := L3_ends (Q := Q) n m hm r (done ++ [0]) (by simp; omega) (by simpa [Sp.strike, hx] using hq)
      simpa using this
    · rw [if_neg (by simpa using hx)]
      have := L3_ends (Q := Q) n m hm r (done ++ [x]) (by simp; omega) (by simpa [Sp.strike, hx] using hq)
      simpa using this
theorem L1_ends {Q : PV → Ob → Prop} (n : Int) (hn1 : 1 ≤ n) (hn : n ≤ 200) : ∀ (f j : Nat) (l : List Int), l.length = 2 ^ j → f + j = 8 → Bd l → (Q (.sl 0 1 0 (Sp.grow f n l).length none) [(0, .arr false 3 i64 (Sp.strike n (Sp.grow f n l)))]) → Ends X71 (L1 n l.length l) Q
  | 0, j, l, h1, h2, hb, hq => by
    obtain rfl : j = 8 := by omega
    have hs := size_lt hn1 hn (Nat.le_refl 8)
    refine Ends.steq (L1_eq ..) (Ends.tt (by simpa using hn) (Ends.ff ?_ ?_))
    · rw [h1]
      have : ¬ ((2 ^ 8 : Int) < Sp.size 8 n 1) := by rw [hs]; omega
      simpa using this
    · have := L3_ends (Q := Q) n l.length (by rw [h1]; omega) l [] rfl (by simpa [Sp.grow] using hq)
      simpa using this
  | f + 1, j, l, h1, h2, hb, hq => by
    have hs := size_lt hn1 hn (show j ≤ 8 by omega)
    have hp : 1 ≤ 2 ^ j := Nat.one_le_two_pow
    have hp2 : 2 ^ j ≤ 2 ^ 8 := Nat.pow_le_pow_right (by omega) (by omega)
    refine Ends.steq (L1_eq ..) (Ends.tt (by simpa using hn) ?_)
    rw [Ends_ite]
    have hcast : ((l.length : Nat) : Int) = (2 ^ j : Int) := by rw [h1]; simp
    rw [hcast]
    by_cases hc : (2 ^ j : Int) < n
    · rw [if_pos (by simpa using hs.2 hc)]
      refine L2_ends n l (by omega) (by omega) hb (L1_ends n hn1 hn f (j + 1) _ (by rw [exp_len, h1, Nat.pow_succ, Nat.mul_comm]) (by omega) (hb.exp (by omega)) ?_)
      have e : Sp.grow (f + 1) n l = Sp.grow f n (exp l.length l) := by
        rw [Sp.grow, if_pos (by rw [hcast]; exact hc)]; rfl
      rw [e] at hq; exact hq
    · rw [if_neg (by simpa using fun h => hc (hs.1 h))]
      have := L3_ends (Q := Q) n l.length (by omega) l [] rfl (by simpa [Sp.grow, hcast, hc] using hq)
      simpa using this
theorem ok : SpecOk C7p 25 cbracket := by
  refine spec7 (X := X71) rfl hall71 (d := 9) (by kernel_rfl) (by kernel_rfl) (by kernel_rfl) (fun (n : Int) hn => ?_) (isSome_ex (by kernel_rfl))
  have hn : 1 ≤ n ∧ n ≤ 200 := by simpa [cbracket] using hn
  refine Ends.eq (T_eq n) ?_
  refine L1_ends n hn.1 hn.2 8 0 [1] (by simp) (by omega) (by intro s hs; simp at hs; subst hs; simp) ?_
  have hlen : (Sp.grow 8 n [1]).length = (Sp.strike n (Sp.grow 8 n [1])).length := by simp [Sp.strike]
  rw [hlen]
  exact Gives.of rfl (by simp) (by simp [cbracket, Sp.bracket])
end T25
end Go.Pe
end
section
namespace Go.Pe
open Go.Det
def Gk : Nat → List Int
  | 0 => [1]
  | k + 1 => Sp.expand (Gk k)
theorem Gk_len : ∀ k, (Gk k).length = 2 ^ k
  | 0 => rfl
  | k + 1 => by unfold Gk Sp.expand; rw [exp_len, Gk_len k, Nat.pow_succ, Nat.mul_comm]
theorem Gk_place : ∀ k : Fin 8, ∀ x : Fin 129, x.1 < 1 ∨ 2 ^ k.1 < x.1 ∨ Sp.index (Gk k.1) x.1 0 = Sp.lastIdx (Gk k.1) x.1 0 0 := by decide +kernel
theorem grow_Gk {n : Int} (hn : n ≤ 128) : ∀ (f j : Nat), j ≤ 7 → ∃ k, k ≤ 7 ∧ Sp.grow f n (Gk j) = Gk k ∧ (n ≤ 2 ^ k ∨ k = j + f)
  | 0, j, hj => ⟨j, hj, rfl, .inr rfl⟩
  | f + 1, j, hj => by
    unfold Sp.grow
    have hc : (((Gk j).length : Nat) : Int) = 2 ^ j := by rw [Gk_len]; simp
    rw [hc]
    split
    · rename_i h
      have hj7 : j < 7 := by
        rcases Nat.lt_or_ge j 7 with h1 | h1
        · exact h1
        · obtain rfl : j = 7 := by omega
          omega
      obtain ⟨k, h1, h2, h3⟩ := grow_Gk hn f (j + 1) (by omega)
      exact ⟨k, h1, h2, by omega⟩
    · rename_i h
      exact ⟨j, hj, rfl, .inl (by omega)⟩
theorem index_strike {n x : Int} (h1 : 1 ≤ x) (h2 : x ≤ n) : ∀ (l : List Int) (i : Int), Sp.index (Sp.strike n l) x i = Sp.index l x i
  | [], _ => rfl
  | y :: l, i => by
    show Sp.index ((if y > n then 0 else y) :: Sp.strike n l) x i = _
    unfold Sp.index
    rw [index_strike h1 h2 l]
    by_cases hy : y > n
    · rw [if_pos hy, if_neg (show ¬ x = 0 by omega), if_neg (show ¬ x = y by omega)]
    · rw [if_neg hy]
theorem lastIdx_strike {n x : Int} (h1 : 1 ≤ x) (h2 : x ≤ n) : ∀ (l : List Int) (i r : Int), Sp.lastIdx (Sp.strike n l) x i r = Sp.lastIdx l x i r
  | [], _, _ => rfl
  | y :: l, i, r => by
    show Sp.lastIdx ((if y > n then 0 else y) :: Sp.strike n l) x i r = _
    unfold Sp.lastIdx
    rw [lastIdx_strike h1 h2 l]
    by_cases hy : y > n
    · rw [if_pos hy, if_neg (show ¬ (0 : Int) = x by omega), if_neg (show ¬ y = x by omega)]
    · rw [if_neg hy]
theorem place {n x : Int} (hn : n ≤ 70) (h1 : 1 ≤ x) (h2 : x ≤ n) : Sp.index (Sp.bracket n) x 0 = Sp.lastIdx (Sp.bracket n) x 0 0 := by
  unfold Sp.bracket
  rw [index_strike h1 h2, lastIdx_strike h1 h2]
  obtain ⟨k, g1, g2, g3⟩ := grow_Gk (n := n) (by omega) 8 0 (by omega)
  have g2 : Sp.grow 8 n [1] = Gk k := g2
  rw [g2]
  have hp := Gk_place ⟨k, by omega⟩ ⟨x.toNat, by omega⟩
  simp only at hp
  rw [show ((x.toNat : Nat) : Int) = x by omega] at hp
  rcases hp with hp | hp | hp
  · omega
  · have : n ≤ 2 ^ k := by omega
    have e : ((2 ^ k : Nat) : Int) = (2 : Int) ^ k := by simp
    omega
  · exact hp
theorem awake_ok : SpecOk C7p 17 cAwake := by
  refine ⟨by kernel_rfl, isSome_ex (by kernel_rfl), fun F h args i _ hlt hargs _ => ?_⟩
  have ha : args = [] := by
    have := hargs (fun _ => none) 0
    simpa [valsOf, cAwake] using this
  subst ha
  refine ⟨[(.bool true, h)], 1, fun m hm => ?_, fun _ => ⟨_, rfl⟩, fun x hx => ?_⟩
  · obtain ⟨m', rfl⟩ : ∃ m', m = m' + 1 := ⟨m - 1, by omega⟩
    rw [ecall]
    rfl
  · cases List.mem_singleton.1 hx
    exact ⟨Nat.le_refl _, fun _ _ => rfl, hlt, F, fun _ _ h => h, fun _ _ h => .inl h, by assumption, fun ρ N => mk_bool _⟩
end Go.Pe
end
section
namespace Go.Pe
open Go.Det
end Go.Pe
end
section
namespace Go.Pe
open Go.Det
theorem T158.ok : SpecOk C7p 158 cIsName := by
  refine spec7 (X := X70) rfl hall70 (d := 9) (by kernel_rfl) (by kernel_rfl) rfl (fun (s : List UInt8) hl => ?_) (isSome_ex (by kernel_rfl))
  have hl : s.length ≤ 1000000 := by simpa [cIsName] using hl
  have hQ : ∀ v b, v = .bl b ∨ v = .dat .bool b → b = Sp.isName s → ∀ ob, Gives cIsName s v ob := by
    rintro v b (rfl | rfl) hb ob
    · exact Gives.of rfl rfl hb
    · exact Gives.of rfl rfl hb
  refine Ends.eq (T158.T_eq s) ?_
  refine Ends.steq (T158.L1_eq ..) ?_
  cases s with
  | nil =>
    refine Ends.ff (by simp) (Ends.ff (by simp) ?_)
    exact Ends.leaf (hQ _ _ (.inl rfl) rfl _)
  | cons x r =>
    refine Ends.tt (by simp) ?_
    simp only [Ends_ite, Ends_leaf, decide_eq_true_eq, Bool.not_eq_true', decide_eq_false_iff_not, bne_iff_ne, ne_eq, if_true]
    have step : Sp.letter (x.toNat : Int) = true → runeW (x :: r) 0 = 1 → Ends X70 (T158.L2 (x :: r) (x :: r) (Nat.add 0 (runeW (x :: r) 0))) (Gives cIsName (x :: r)) := by
      intro hm hw
      rw [hw]
      refine T158.loop (x :: r) (by simp) r 1 rfl (by simp) (by omega) (fun e => hQ _ _ (.inl rfl) ?_) (fun e => hQ _ _ (.inr rfl) ?_)
      · simp [Sp.isName, e]
      · simp only [Sp.isName, e, hm, Bool.and_true, List.length_cons]
        congr 1
        apply propext; push_cast; omega
    have no : Sp.letter (x.toNat : Int) = false → ∀ ob, Gives cIsName (x :: r) (.bl false) ob := fun hm => hQ _ _ (.inl rfl) (by simp [Sp.isName, hm])
    have g0 : (x :: r).getD 0 0 = x := rfl
    by_cases hl : ((x :: r).getD 0 0).toNat < 128
    · obtain ⟨e1, e2⟩ := rune_low (s := x :: r) (i := 0) (by simp) hl
      rw [e1, g0]
      have mi := letter_iff (x.toNat : Int)
      generalize ((x.toNat : Nat) : Int) = c at mi step no ⊢
      by_cases hm : Sp.letter c = true
      · have := mi.1 hm
        repeat' split
        all_goals first | exact step hm e2 | (exfalso; omega)
      · have hm2 : Sp.letter c = false := by simpa using hm
        have : ¬ _ := fun h => hm (mi.2 h)
        repeat' split
        all_goals first | exact no hm2 _ | (exfalso; omega)
    · have hr := rune_high (s := x :: r) (i := 0) (by simp) (by omega)
      have hx : Sp.letter (x.toNat : Int) = false := by
        have : ¬ Sp.letter (x.toNat : Int) = true := fun h => by
          have := (letter_iff _).1 h
          rw [g0] at hl
          omega
        simpa using this
      repeat' split
      all_goals first | exact no hx _ | (exfalso; omega)
namespace T113
variable {Q : PV → Ob → Prop}
theorem loop (s : List UInt8) (hl : s.length ≤ 24) : ∀ (r : List UInt8) (i : Nat), s.drop i = r → i ≤ s.length →
    (((decide (1 ≤ i) || Sp.letter ((r.headD 97).toNat : Int)) && (r.all fun c => Sp.mark (c.toNat : Int))) = false → Q (.bl false) []) → (((decide (1 ≤ i) || Sp.letter ((r.headD 97).toNat : Int)) && (r.all fun c => Sp.mark (c.toNat : Int))) = true → Q (.bl true) []) → Ends X70 (L1 s i) Q
  | [], i, h, hi, hf, ht => by
    have := drop_nil h hi
    refine Ends.steq (L1_eq ..) (Ends.ff (by simp; omega) ?_)
    exact Ends.leaf (ht (by simp; exact .inr (by decide)))
  | x :: r, i, h, hi, hf, ht => by
    obtain ⟨g1, g2, g3⟩ := drop_cons (d := 0) h
    refine Ends.steq (L1_eq ..) ?_
    simp only [Int.toNat_natCast, g2]
    rw [wr _ (by omega) (by omega)]
    have mi := mark_iff (x.toNat : Int)
    have li := letter_iff (x.toNat : Int)
    have step : (1 ≤ i ∨ Sp.letter (x.toNat : Int) = true) → Sp.mark (x.toNat : Int) = true → Ends X70 (L1 s ((i : Int) + 1)) Q := by
      intro hm hk
      have e : ((i : Int) + 1) = ((i + 1 : Nat) : Int) := by push_cast; rfl
      rw [e]
      refine loop s hl r (i + 1) g3 g1 (fun e => hf ?_) (fun e => ht ?_)
      · simp only [List.all_cons, hk, Bool.true_and]
        have : (r.all fun c => Sp.mark (c.toNat : Int)) = false := by simpa using e
        rw [this, Bool.and_false]
      · have : (r.all fun c => Sp.mark (c.toNat : Int)) = true := by simpa using e
        simp only [List.all_cons, hk, this, Bool.and_true, Bool.or_eq_true, decide_eq_true_eq, List.headD_cons]
        exact hm
    have no : (¬ (1 ≤ i ∨ Sp.letter (x.toNat : Int) = true) ∨ Sp.mark (x.toNat : Int) = false) → Q (.bl false) [] := by
      intro hm
      refine hf ?_
      simp only [List.headD_cons, List.all_cons]
      rcases hm with hm | hm
      · have : (decide (1 ≤ i) || Sp.letter (x.toNat : Int)) = false := by
          rw [Bool.eq_false_iff]; intro h; apply hm; simpa using h
        rw [this, Bool.false_and]
      · rw [hm, Bool.false_and, Bool.and_false]
    generalize ((x.toNat : Nat) : Int) = c at mi li step no ⊢
    by_cases hm : Sp.mark c = true
    · have hm1 := mi.1 hm
      by_cases hlt : 1 ≤ i ∨ Sp.letter c = true
      · have hl2 : 1 ≤ i ∨ (97 ≤ c ∧ c ≤ 122) ∨ (65 ≤ c ∧ c ≤ 90) := hlt.imp id li.1
        repeat' (with_reducible refine Ends.ite (fun _ => ?_) (fun _ => ?_))
        all_goals first | with_reducible exact step hlt hm | (exfalso; simp only [decide_eq_true_eq, decide_eq_false_iff_not, Bool.not_eq_true', Bool.and_eq_true, Bool.and_eq_false_iff, beq_iff_eq, beq_eq_false_iff_ne, ne_eq] at *; omega)
      · have hl2 : ¬ (1 ≤ i ∨ (97 ≤ c ∧ c ≤ 122) ∨ (65 ≤ c ∧ c ≤ 90)) := fun h => hlt (h.imp id li.2)
        repeat' (with_reducible refine Ends.ite (fun _ => ?_) (fun _ => ?_))
        all_goals first | with_reducible exact Ends.leaf (no (.inl hlt)) | (exfalso; simp only [decide_eq_true_eq, decide_eq_false_iff_not, Bool.not_eq_true', Bool.and_eq_true, Bool.and_eq_false_iff, beq_iff_eq, beq_eq_false_iff_ne, ne_eq, Bool.not_eq_false'] at *; omega)
    · have hm2 : Sp.mark c = false := by simpa using hm
      have hm1 : ¬ _ := fun h => hm (mi.2 h)
      repeat' (with_reducible refine Ends.ite (fun _ => ?_) (fun _ => ?_))
      all_goals first | with_reducible exact Ends.leaf (no (.inr hm2)) | (exfalso; simp only [decide_eq_true_eq, decide_eq_false_iff_not, Bool.not_eq_true', Bool.and_eq_true, Bool.and_eq_false_iff, beq_iff_eq, beq_eq_false_iff_ne, ne_eq, Bool.not_eq_false'] at *; omega)
theorem ok : SpecOk C7p 113 cIsName := by
  refine spec7 (X := X70) rfl hall70 (d := 9) (by kernel_rfl) (by kernel_rfl) rfl (fun (s : List UInt8) hl => ?_) (isSome_ex (by kernel_rfl))
  have hQ : ∀ b, b = Sp.isName s → Gives cIsName s (.bl b) [] := fun b hb => Gives.of rfl rfl hb
  refine Ends.eq (T_eq s) ?_
  rw [Ends_ite]
  cases s with
  | nil => rw [if_pos (by simp), Ends_leaf]; exact hQ _ rfl
  | cons x r =>
    rw [if_neg (by simp; omega), Ends_ite]
    by_cases h : (x :: r).length ≤ 24
    · rw [if_neg (by simp at h ⊢; omega)]
      have h23 : decide (r.length ≤ 23) = true := by simp at h ⊢; omega
      have key : Sp.isName (x :: r) = ((decide (1 ≤ 0) || Sp.letter (((x :: r).headD 97).toNat : Int)) && ((x :: r).all fun c => Sp.mark (c.toNat : Int))) := by
        simp only [Sp.isName, h23, List.headD_cons, List.all_cons, Bool.true_and]
        cases hlx : Sp.letter (x.toNat : Int) with
        | false => simp
        | true =>
          have : Sp.mark (x.toNat : Int) = true := by unfold Sp.mark; rw [hlx]; rfl
          simp [this]
      exact loop (x :: r) h (x :: r) 0 rfl (by simp) (fun e => hQ _ (by rw [key]; exact e.symm)) (fun e => hQ _ (by rw [key]; exact e.symm))
    · rw [if_pos (by simp at h ⊢; omega), Ends_leaf]
      exact hQ _ (by simp only [Sp.isName]; rw [decide_eq_false (by simp at h; omega)]; rfl)
end T113
namespace T84
theorem loop {Q : PV → Ob → Prop} (l : List (List UInt8)) (s : List UInt8) (hl : l.length ≤ 1000000) : ∀ (r : List (List UInt8)) (i : Nat), l.drop i = r → i ≤ l.length → Q (.bl (Sp.has r s)) [] → Ends X70 (L1 l s i) Q
  | [], i, h, hi, hq => by
    have := drop_nil h hi
    exact Ends.steq (L1_eq ..) (Ends.ff (by simp; omega) (Ends.leaf (by simpa [Sp.has] using hq)))
  | x :: r, i, h, hi, hq => by
    obtain ⟨h1, h2, h3⟩ := drop_cons (d := []) h
    refine Ends.steq (L1_eq ..) (Ends.tt (by simp <;> omega) (Ends.tt (by simp <;> omega) ?_))
    simp only [Int.toNat_natCast, h2, Ends_ite, Ends_leaf, beq_iff_eq]
    rw [wr _ (by omega) (by omega)]
    split
    · rename_i e; subst e; simpa [Sp.has] using hq
    · rename_i e; exact loop l s hl r (i + 1) h3 h1 (by simpa [Sp.has, Ne.symm e] using hq)
theorem ok : SpecOk C7p 84 cHas := by
  refine spec7 (X := X70) rfl hall70 (d := 9) (by kernel_rfl) (by kernel_rfl) rfl (fun ⟨l, s⟩ hl => ?_) (isSome_ex (by kernel_rfl))
  exact Ends.eq (T_eq l s) (loop l s (by simpa [cHas] using hl) l 0 rfl (Nat.zero_le _) (Gives.of rfl rfl rfl))
end T84
namespace T42
theorem loop {Q : PV → Ob → Prop} (a b : List (List UInt8)) (hl : a.length ≤ 1000000) (he : a.length = b.length) : ∀ (r q : List (List UInt8)) (i : Nat), a.drop i = r → b.drop i = q → i ≤ a.length → Q (.bl (decide (r = q))) [] → Ends X70 (L1 a b i) Q
  | [], q, i, h, h', hi, hq => by
    have := drop_nil h hi
    have hq0 : q = [] := by rw [← h']; exact List.drop_eq_nil_of_le (by omega)
    subst hq0
    exact Ends.steq (L1_eq ..) (Ends.ff (by simp; omega) (Ends.leaf (by simpa using hq)))
  | x :: r, q, i, h, h', hi, hq => by
    obtain ⟨h1, h2, h3⟩ := drop_cons (d := []) h
    cases q with
    | nil =>
      have := congrArg List.length h'
      simp at this; omega
    | cons y q =>
      obtain ⟨g1, g2, g3⟩ := drop_cons (d := []) h'
      refine Ends.steq (L1_eq ..) (Ends.tt (by simp <;> omega) (Ends.tt (by simp <;> omega) (Ends.tt (by simp <;> omega) ?_)))
      simp only [Int.toNat_natCast, h2, g2, Ends_ite, Ends_leaf, Bool.not_eq_true', beq_eq_false_iff_ne, ne_eq]
      rw [wr _ (by omega) (by omega)]
      split
      · rename_i e; simpa [e] using hq
      · rename_i e
        have e : x = y := by simpa using e
        subst e
        exact loop a b hl he r q (i + 1) h3 g3 h1 (by simpa using hq)
theorem ok : SpecOk C7p 42 cSameN := by
  refine spec7 (X := X70) rfl hall70 (d := 9) (by kernel_rfl) (by kernel_rfl) rfl (fun ⟨a, b⟩ hl => ?_) (isSome_ex (by kernel_rfl))
  refine Ends.eq (T_eq a b) ?_
  rw [Ends_ite]
  by_cases h : a.length = b.length
  · rw [if_neg (by simp [h])]
    exact loop a b (by simpa [cSameN] using hl) h a b 0 rfl rfl (Nat.zero_le _) (Gives.of rfl rfl rfl)
  · rw [if_pos (by simp; omega), Ends_leaf]
    refine Gives.of rfl rfl ?_
    have : a ≠ b := fun e => h (by rw [e])
    simp [cSameN, Sp.sameN, this]
end T42
namespace T35
theorem loop {Q : PV → Ob → Prop} (l : List (List UInt8)) (hl : l.length ≤ 300) : ∀ (r : List (List UInt8)) (i : Nat), l.drop i = r → i ≤ l.length → Q (.bl (r.all fun s => decide (s.length ≤ 40))) [] → Ends X70 (L1 l i) Q
  | [], i, h, hi, hq => by
    have := drop_nil h hi
    exact Ends.steq (L1_eq ..) (Ends.ff (by simp; omega) (Ends.leaf (by simpa using hq)))
  | x :: r, i, h, hi, hq => by
    obtain ⟨h1, h2, h3⟩ := drop_cons (d := []) h
    refine Ends.steq (L1_eq ..) (Ends.tt (by simp <;> omega) (Ends.tt (by simp <;> omega) ?_))
    simp only [Int.toNat_natCast, h2, Ends_ite, Ends_leaf, decide_eq_true_eq]
    rw [wr _ (by omega) (by omega)]
    split
    · rename_i e
      have : decide (x.length ≤ 40) = false := decide_eq_false (by omega)
      simpa [this] using hq
    · rename_i e
      have : decide (x.length ≤ 40) = true := decide_eq_true (by omega)
      exact loop l hl r (i + 1) h3 h1 (by simpa [this] using hq)
theorem ok : SpecOk C7p 35 cShortN := by
  refine spec7 (X := X70) rfl hall70 (d := 9) (by kernel_rfl) (by kernel_rfl) rfl (fun (i : List (List UInt8) × Int) _ => ?_) (isSome_ex (by kernel_rfl))
  obtain ⟨l, n⟩ := i
  refine Ends.eq (T_eq l n) ?_
  have hQ : ∀ b, b = Sp.shortNames l n → Gives cShortN (l, n) (.bl b) [] := fun b hb => Gives.of rfl rfl hb
  have go : ¬ ((l.length : Int) > 300) → ¬ ((l.length : Int) > n ∧ (l.length : Int) ≤ 200) → Ends X70 (L1 l 0) (Gives cShortN (l, n)) := by
    intro h1 h2
    refine loop l (by omega) l 0 rfl (Nat.zero_le _) (hQ _ ?_)
    unfold Sp.shortNames
    have : ((decide ((l.length : Int) > n) && decide (l.length ≤ 200)) || decide (300 < l.length)) = false := by
      rw [Bool.or_eq_false_iff, Bool.and_eq_false_iff]
      refine ⟨?_, decide_eq_false (by omega)⟩
      by_cases h : (l.length : Int) > n
      · exact .inr (decide_eq_false (by omega))
      · exact .inl (decide_eq_false h)
    rw [this]; rfl
  have bad : ((l.length : Int) > 300) ∨ ((l.length : Int) > n ∧ (l.length : Int) ≤ 200) → Gives cShortN (l, n) (.bl false) [] := by
    intro h
    refine hQ _ ?_
    unfold Sp.shortNames
    have : ((decide ((l.length : Int) > n) && decide (l.length ≤ 200)) || decide (300 < l.length)) = true := by
      rw [Bool.or_eq_true, Bool.and_eq_true]
      rcases h with h | ⟨h1, h2⟩
      · exact .inr (decide_eq_true (by omega))
      · exact .inl ⟨decide_eq_true h1, decide_eq_true (by omega)⟩
    rw [this]; rfl
  simp only [Ends_ite, Ends_leaf, decide_eq_true_eq]
  repeat' split
  all_goals first | exact go (by omega) (by omega) | exact bad (by omega)
end T35
end Go.Pe
end
section
namespace Go.Pe
open Go.Det
theorem okN_len {l : List (List UInt8)} (h : Sp.okN l = true) : l.length ≤ 300 := by simp [Sp.okN] at h; exact h.1
theorem okN_mem {l : List (List UInt8)} (h : Sp.okN l = true) {x : List UInt8} (hx : x ∈ l) : x.length ≤ 40 := by simp [Sp.okN] at h; exact h.2 x hx
theorem take_next {α : Type} {l r : List α} {x : α} {i : Nat} (h : l.drop i = x :: r) : l.take (i + 1) = l.take i ++ [x] := by
  have h1 := (drop_cons (d := x) h).1
  have h2 := (drop_cons (d := x) h).2.1
  rw [List.take_add_one]
  congr 1
  have : l[i]? = some x := by
    have e := List.getElem?_eq_getElem h1
    rw [e]
    simp only [List.getD, e, Option.getD_some] at h2
    rw [h2]
  rw [this]; rfl
theorem hallX80 : ∀ g sp, X80.sp g = some sp → SpecOk C7p g sp := spOf_ok fun x hx => by
  simp only [l80, List.mem_cons, List.mem_nil_iff, or_false] at hx
  rcases hx with rfl | rfl | rfl | rfl | rfl | rfl | rfl | rfl | rfl | rfl | rfl | rfl | rfl | rfl | rfl | rfl
  · exact T158.ok
  · exact T113.ok
  · exact T84.ok
  · exact T42.ok
  · exact T35.ok
  · exact T87.ok
  · exact T88.ok
  · exact T92.ok
  · exact T93.ok
  · exact T95.ok
  · exact T21.ok
  · exact T22.ok
  · exact T94.ok
  · exact T27.ok
  · exact T91.ok
  · exact T25.ok
theorem nameErr_first {m : List (List UInt8 × Bool)} {seen : List (List UInt8)} (hm : SetS m (fun y => y ∈ seen)) (x : List UInt8) :
    Sp.first [Sp.whn (!Sp.isName x) 8, Sp.whn ((mget .str .bool x m).getD false) 9] = Sp.nameErr seen x := by
  unfold Sp.nameErr
  have h := hm x
  cases hn : Sp.isName x with
  | false => simp [Sp.first, Sp.whn]
  | true =>
    cases hg : (mget .str .bool x m).getD false with
    | false => rw [hg] at h; simp at h; simp [Sp.first, Sp.whn, h]
    | true => rw [hg] at h; simp at h; simp [Sp.first, Sp.whn, h]
theorem SetS.next {m : List (List UInt8 × Bool)} {seen : List (List UInt8)} (hm : SetS m (fun y => y ∈ seen)) (x : List UInt8) : SetS (mset .str .bool x true m) (fun y => y ∈ seen ++ [x]) :=
  (hm.add x).congr fun y => by simp [or_comm]
namespace T112
theorem loop {Q : PV → Ob → Prop} (l : List (List UInt8)) (n : Nat) (hl : Sp.okN l = true) (hn : n < l.length) : ∀ (r : List (List UInt8)) (i : Nat), (l.take n).drop i = r → i ≤ n → Q (.dat i64 (if l.getD n [] ∈ r then 9 else 0)) [] → Ends X80 (L1 l n i) Q
  | [], i, h, hi, hq => by
    have := drop_nil h (by simp; omega)
    simp at this
    exact Ends.steq (L1_eq ..) (Ends.ff (by simp; omega) (Ends.leaf (by simpa using hq)))
  | x :: r, i, h, hi, hq => by
    obtain ⟨h1, h2, h3⟩ := drop_cons (d := []) h
    have h1 : i < n := by simp at h1; omega
    have hll := okN_len hl
    have e : l.getD i [] = x := by
      rw [← h2]
      simp [List.getD, List.getElem?_take_of_lt h1]
    refine Ends.steq (L1_eq ..) (Ends.tt (by simp <;> omega) (Ends.tt (by simp; omega) (Ends.tt (by simp; omega) ?_)))
    simp only [Int.toNat_natCast, e, Ends_ite, Ends_leaf, beq_iff_eq]
    rw [wr _ (by omega) (by omega)]
    split
    · rename_i e2; simpa [e2] using hq
    · rename_i e2
      refine loop l n hl hn r (i + 1) h3 (by omega) ?_
      have e3 : ¬ l.getD n [] = x := fun h => e2 h.symm
      simpa only [List.mem_cons, e3, false_or] using hq
theorem ok : SpecOk C7p 112 cCheckName := by
  refine spec7 (X := X80) rfl hallX80 (d := 9) (by kernel_rfl) (by kernel_rfl) (by kernel_rfl) (fun (i : List (List UInt8) × Int) hl => ?_) (isSome_ex (by kernel_rfl))
  obtain ⟨l, k⟩ := i
  have hl0 : (Sp.okN l && decide (0 ≤ k) && decide (k < (l.length : Int))) = true := hl
  clear hl
  simp only [Bool.and_eq_true, decide_eq_true_eq] at hl0
  obtain ⟨⟨hl, h1⟩, h2⟩ := hl0
  obtain ⟨n, rfl⟩ := Int.eq_ofNat_of_zero_le h1
  have h2 : n < l.length := by omega
  have hmem : l.getD n [] ∈ l := by
    have : l.getD n [] = l[n] := by simp [List.getD, h2]
    rw [this]; exact List.getElem_mem _
  have hx := okN_mem hl hmem
  have hQ : ∀ x, x = Sp.nameErr (l.take n) (l.getD n []) → Gives cCheckName (l, (n : Int)) (.dat i64 x) [] := fun x hx => Gives.of rfl rfl (by simpa [cCheckName] using hx)
  refine Ends.eq (T_eq l n) (Ends.tt (by simp; omega) ?_)
  simp only [Int.toNat_natCast]
  refine Ends.tt (decide_eq_true (by omega)) ?_
  rw [Ends_ite, Ends_leaf]
  by_cases hi : Sp.isName (l.getD n []) = true
  · rw [if_neg (by rw [hi]; decide)]
    refine loop l n hl h2 _ 0 rfl (Nat.zero_le _) (hQ _ ?_)
    rw [Sp.nameErr, if_pos hi]; rfl
  · rw [if_pos (by rw [Bool.not_eq_true _ |>.mp hi]; rfl)]
    exact hQ _ (by rw [Sp.nameErr, if_neg hi])
end T112
end Go.Pe
end
section
namespace Go.Pe
open Go.Det
theorem res_sl {s : Sh} (hs : s.sz = 1) {id n : Nat} {tail : Ob} {fz : Bool} {t : TypeId} {o : List s.T} (hn : n = o.length) : argOf ⟨0, .leaf, (id, .arr fz t s o) :: tail, 0⟩ (.list s) (.sl id 1 0 n none) = some (true, o) := by
  subst hn
  have h1 : obGet ((id, Obj.arr fz t s o) :: tail) id = some (.arr fz t s o) := by unfold obGet; rw [Nat.beq_refl]; rfl
  unfold argOf
  have h2 : byVals ⟨0, .leaf, (id, .arr fz t s o) :: tail, 0⟩ (PV.cells (.sl id 1 0 o.length none)) = some (true, [.dat (.list s) o]) := by
    show (match byVal ⟨0, .leaf, (id, .arr fz t s o) :: tail, 0⟩ (.sl id 1 0 o.length none), some (true, []) with | some (c, x), some (d, xs) => some (c && d, x :: xs) | _, _ => none) = _
    have : byVal ⟨0, .leaf, (id, .arr fz t s o) :: tail, 0⟩ (.sl id 1 0 o.length none) = some (true, .dat (.list s) o) := by
      unfold byVal PSt.obj
      simp only [h1, hs, Nat.beq_refl, cond_true]
      simp
    rw [this]; rfl
  simp only [isAg, Sh.isP]
  show (match byVals ⟨0, .leaf, (id, .arr fz t s o) :: tail, 0⟩ (PV.cells (.sl id 1 0 o.length none)) with | some (c, cs) => _ | none => none) = _
  rw [h2]
  have : unflat1 (.list s) [PV.dat (.list s) o] = some o := by
    unfold unflat1 unflat asD castD
    simp
  simp only [coers_list, this, Bool.true_and]
theorem res1_sl {s : Sh} (hs : s.sz = 1) {id n : Nat} {tail : Ob} {fz : Bool} {t : TypeId} {o : List s.T} (hn : n = o.length) : resOf [.list s] (.sl id 1 0 n none) ((id, .arr fz t s o) :: tail) = some (true, o) := res_sl hs hn
end Go.Pe
end
section
namespace Go.Pe
open Go.Det
end Go.Pe
end
section
namespace Go.Pe
open Go.Det
/-- one more contract in front -/
theorem sp_cons {C : Ctx} {g0 : FuncId} {s0 : PSpec} {l : List (FuncId × PSpec)} (h0 : SpecOk C g0 s0) (hl : ∀ g sp, spOf l g = some sp → SpecOk C g sp) : ∀ g sp, spOf ((g0, s0) :: l) g = some sp → SpecOk C g sp := by
  intro g sp h
  unfold spOf at h
  cases h1 : Nat.beq g0 g with
  | true => rw [h1] at h; cases h; have := Nat.eq_of_beq_eq_true h1; subst this; exact h0
  | false => rw [h1] at h; exact hl g sp h
end Go.Pe
end
section
namespace Go.Sp
def memI (l : List Int) (x : Int) : Bool := decide (x ∈ l)
def stay (g l : List Int) : List Int := l.filter fun x => !decide (x ∈ g)
end Go.Sp
namespace Go.Pe
open Go.Det
noncomputable section
noncomputable def cMemI : PSpec := ⟨[li64, i64], fun i => decide (i.1.length ≤ 1000000), [.bool], fun i => Sp.memI i.1 i.2, false⟩
noncomputable def X87 : PCtx := X7f [(29, [16, 27, 29, 30, 31])] [] [(29, [(16, [0, 1, 2, 9]), (27, [0, 1, 15]), (29, [0, 1, 19, 20]), (30, [0, 20, 21]), (31, [20, 21, 22]), (26, [0, 1, 9, 15, 61, 62, 63]), (25, [0, 1, 9, 15, 17, 61, 62, 63]), (21, [0, 1, 9, 15, 61, 62, 63]), (20, [0, 1, 9, 15, 61, 62, 63]), (18, [0, 1, 2, 9]), (15, [0, 1, 2, 9, 26, 27, 28]), (14, [0, 1, 2, 9, 26, 27, 28, 35, 36, 37]), (13, [0, 1, 2, 9, 13, 26, 27, 28, 35, 36, 37]), (9, [0, 1, 2, 9, 26, 27, 28, 35, 36, 37]), (8, [0, 1, 2, 9, 26, 27, 28, 35, 36, 37]), (7, [0, 1, 2, 9, 11, 26, 27, 28]), (4, [0, 1, 2, 9, 26, 27, 28]), (3, [0, 1, 2, 9, 26, 27, 28])])] [(17, cAwake), (92, cWhen), (87, cFirst)]
end
end Go.Pe
end
section
namespace Go.Pe
open Go.Det
namespace T73
noncomputable def T (l : List Int) (x : Int) : Tr := tree X87 false 9 73 (valsOf ([Sh.list (Sh.int IntKind.i64), Sh.int IntKind.i64]) (l, x))
/-- function 73, region 2 -/
noncomputable def L1 (v0 : List Int) (v1 : Int) (v5 : Int) : Tr := re ((T [] (0 : Int))) (mkSt (18) [(0, PV.dat (Sh.list (Sh.int IntKind.i64)) v0), (1, PV.dat (Sh.int IntKind.i64) v1), (5, PV.dat (Sh.int IntKind.i64) v5)] [] (0))
theorem T_eq (l : List Int) (x : Int) : T l x = L1 l x ((0 : Int)) := by kernel_rfl
theorem L1_eq (v0 : List Int) (v1 : Int) (v5 : Int) : stepT X87 (L1 v0 v1 v5) = .ite (decide (v5 < (↑(List.length v0) : Int)))
 (.ite (decide ((0 : Int) ≤ v5) && decide (v5 < (↑(List.length v0) : Int)))
  (.ite (List.getD v0 (Int.toNat v5) (0 : Int) == v1)
   (.leaf (PV.bl true) ([]))
   (L1 v0 v1 (IntKind.wrap IntKind.i64 (v5 + (1 : Int)))))
  (.fail))
 (.leaf (PV.bl false) ([])) := by kernel_rfl
end T73
end Go.Pe
end
section
namespace Go.Pe
open Go.Det
end Go.Pe
end
section
namespace Go.Pe
open Go.Det
end Go.Pe
end
section
namespace Go.Sp
end Go.Sp
namespace Go.Pe
open Go.Det
end Go.Pe
end
section
namespace Go.Pe
open Go.Det
end Go.Pe
end
section
namespace Go.Pe
open Go.Det
theorem arg_sl {s : Sh} (hs : s.sz = 1) {ob : Ob} {id off n : Nat} {c : Option Nat} {fz : Bool} {t : TypeId} {o : List s.T} (hg : obGet ob id = some (.arr fz t s o)) (hle : off + n ≤ o.length) :
    argOf ⟨0, .leaf, ob, 0⟩ (.list s) (.sl id 1 off n c) = some (true, (o.drop off).take n) := by
  unfold argOf
  have h2 : byVals ⟨0, .leaf, ob, 0⟩ (PV.cells (.sl id 1 off n c)) = some (true, [.dat (.list s) ((o.drop off).take n)]) := by
    show (match byVal ⟨0, .leaf, ob, 0⟩ (.sl id 1 off n c), some (true, []) with | some (c, x), some (d, xs) => some (c && d, x :: xs) | _, _ => none) = _
    have : byVal ⟨0, .leaf, ob, 0⟩ (.sl id 1 off n c) = some (true, .dat (.list s) ((o.drop off).take n)) := by
      unfold byVal PSt.obj
      simp only [hg, hs, Nat.beq_refl, cond_true]
      rw [decide_eq_true hle]
    rw [this]; rfl
  simp only [isAg, Sh.isP]
  show (match byVals ⟨0, .leaf, ob, 0⟩ (PV.cells (.sl id 1 off n c)) with | some (c, cs) => _ | none => none) = _
  rw [h2]
  have : unflat1 (.list s) [PV.dat (.list s) ((o.drop off).take n)] = some ((o.drop off).take n) := by
    unfold unflat1 unflat asD castD
    simp
  simp only [coers_list, this, Bool.true_and]
theorem arg_sl0 {s : Sh} (hs : s.sz = 1) {ob : Ob} {id n : Nat} {c : Option Nat} {fz : Bool} {t : TypeId} {o : List s.T} (hg : obGet ob id = some (.arr fz t s o)) (hle : n = o.length) :
    argOf ⟨0, .leaf, ob, 0⟩ (.list s) (.sl id 1 0 n c) = some (true, o) := by
  rw [arg_sl hs hg (by omega), hle, List.drop_zero, List.take_length]
theorem args_two {st : PSt} {a b : Sh} {l : List Sh} {p : PV} {ps : List PV} {x : a.T} {y : (prodS (b :: l)).T} (h1 : argOf st a p = some (true, x)) (h2 : argsOf st (b :: l) ps = some (true, y)) : argsOf st (a :: b :: l) (p :: ps) = some (true, (x, y)) := by
  show (match argOf st a p, argsOf st (b :: l) ps with | some (c, x), some (d, y) => some (c && d, (x, y)) | _, _ => none) = _
  rw [h1, h2]; rfl
theorem hallX87 : ∀ g sp, X87.sp g = some sp → SpecOk C7p g sp := sp_cons awake_ok (sp_cons T92.ok (sp_cons T87.ok (fun g sp h => by cases h)))
namespace T73
theorem loop {Q : PV → Ob → Prop} (l : List Int) (s : Int) (hl : l.length ≤ 1000000) : ∀ (r : List Int) (i : Nat), l.drop i = r → i ≤ l.length → Q (.bl (Sp.memI r s)) [] → Ends X87 (L1 l s i) Q
  | [], i, h, hi, hq => by
    have := drop_nil h hi
    exact Ends.steq (L1_eq ..) (Ends.ff (by simp; omega) (Ends.leaf (by simpa [Sp.memI] using hq)))
  | x :: r, i, h, hi, hq => by
    obtain ⟨h1, h2, h3⟩ := drop_cons (d := 0) h
    refine Ends.steq (L1_eq ..) (Ends.tt (by simp <;> omega) (Ends.tt (by simp <;> omega) ?_))
    simp only [Int.toNat_natCast, h2, Ends_ite, Ends_leaf, beq_iff_eq]
    rw [wr _ (by omega) (by omega)]
    split
    · rename_i e; subst e; simpa [Sp.memI] using hq
    · rename_i e; exact loop l s hl r (i + 1) h3 h1 (by simpa [Sp.memI, Ne.symm e] using hq)
theorem ok : SpecOk C7p 73 cMemI := by
  refine spec7 (X := X87) rfl hallX87 (d := 9) (by kernel_rfl) (by kernel_rfl) rfl (fun ⟨l, s⟩ hl => ?_) (isSome_ex (by kernel_rfl))
  exact Ends.eq (T_eq l s) (loop l s (by simpa [cMemI] using hl) l 0 rfl (Nat.zero_le _) (Gives.of rfl rfl rfl))
end T73
end Go.Pe
namespace Go.Sp
end Go.Sp
namespace Go.Pe
open Go.Det
end Go.Pe
end
section
namespace Go.Sp
end Go.Sp
namespace Go.Pe
open Go.Det
end Go.Pe
end
section
namespace Go.Pe
open Go.Det
section gen
variable {X : PCtx} {Q : PV → Ob → Prop}
end gen
end Go.Pe
end
section
namespace Go.Pe
open Go.Det
theorem three {ob : Ob} {p q : PV} {a b a' b' : List Int} (h1 : argOf ⟨0, .leaf, ob, 0⟩ li64 p = some (true, a)) (h2 : argOf ⟨0, .leaf, ob, 0⟩ li64 q = some (true, b)) (ha : a = a') (hb : b = b') :
    argsOf ⟨0, .leaf, ob, 0⟩ [li64, li64, i64] (resVals [li64, li64, i64] (.tup [p, q, .dat i64 0])) = some (true, (a', b', 0)) := by
  subst ha hb
  exact args_two h1 (args_two h2 rfl)
end Go.Pe
end
section
namespace Go.Sp
abbrev LineT := List UInt8 × Bool × List Int × List UInt8
abbrev PlaceT := Int × Int × Int
def compare (a b : Int) : Int := if a < b then -1 else if a > b then 1 else 0
def sumW (l : List Int) : Int := l.foldl (fun a x => IntKind.wrap .i64 (a + x)) 0
def lnames (l : List LineT) : List (List UInt8) := l.map (·.1)
def okLine (x : LineT) : Bool := decide (x.1.length ≤ 40) && decide (x.2.2.1.length ≤ 12) && decide (x.2.2.2.length ≤ 40)
def okF (l : List LineT) : Bool := decide (l.length ≤ 205) && l.all okLine
def shortF (l : List LineT) (n : Int) : Bool := !((decide ((l.length : Int) > n) && decide (l.length ≤ 200)) || decide (205 < l.length)) && l.all okLine
def far (l : List Int) : Bool := l.any fun x => decide (x < 1) || decide (x > 9999)
def sOut : List UInt8 := [111, 117, 116]
def sDis : List UInt8 := [100, 105, 115]
def sCut : List UInt8 := [99, 117, 116]
def known (s : List UInt8) : Bool := decide (s = []) || decide (s = sOut) || decide (s = sDis) || decide (s = sCut)
def lineE (seen : List (List UInt8)) (x : LineT) : Int := orE (nameErr seen x.1) (orE (if 8 < x.2.2.1.length then 5 else 0) (orE (if far x.2.2.1 = true then 3 else 0) (if known x.2.2.2 = true then 0 else 13)))
def linesE (seen : List (List UInt8)) : List LineT → Int
  | [] => 0
  | x :: r => orE (lineE seen x) (linesE (seen ++ [x.1]) r)
def fieldE (l : List LineT) : Int := if 200 < l.length then 5 else linesE [] l
def ranked (x : LineT) : Bool := !decide (x.2.2.2 = sOut) && !decide (x.2.2.2 = sDis)
def better (a b : LineT) : Bool := if a.2.2.1.length ≠ b.2.2.1.length then decide (b.2.2.1.length < a.2.2.1.length) else decide (sumW (a.2.2.1.take 8) < sumW (b.2.2.1.take 8))
def want (p : Bool) (x : LineT) : Bool := ranked x && !(p && x.2.1)
def rankOf (p : Bool) (l : List LineT) (x : LineT) : Int := if want p x = true then 1 + ((l.filter fun y => want p y && better y x).length : Int) else 0
def ents (l : List LineT) (i : Nat) : List LineT → List PlaceT
  | [] => []
  | x :: r => if rankOf false l x > 0 then ((i : Int), rankOf false l x, sumW (x.2.2.1.take 8)) :: ents l (i + 1) r else ents l (i + 1) r
def places (l : List LineT) : List PlaceT := (List.range l.length).flatMap fun (r : Nat) => (ents l 0 l).filter fun e => decide (e.2.1 = Int.ofNat (r + 1))
def okB (l : List LineT) : Bool := okF l && (decide (l.length ≤ 10) || decide (200 < l.length))
def okS (x : LineT) : Bool := decide (x.2.2.1.length ≤ 12)
end Go.Sp
namespace Go.Pe
open Go.Det
noncomputable section
abbrev shLine : Sh := .pair .str (.pair .bool (.pair (.list (.int .i64)) .str))
noncomputable def cCompare : PSpec := ⟨[i64, i64], fun _ => true, [i64], fun i => Sp.compare i.1 i.2, false⟩
noncomputable def cTotal : PSpec := ⟨[shLine, i64], fun i => Sp.okS i.1 && decide (0 ≤ (i.2 : Int)) && decide ((i.2 : Int) ≤ (i.1.2.2.1 : List Int).length), [i64], fun i => Sp.sumW ((i.1.2.2.1 : List Int).take (i.2 : Int).toNat), false⟩
noncomputable def cShortF : PSpec := ⟨[.list shLine, i64], fun _ => true, [.bool], fun i => Sp.shortF i.1 i.2, false⟩
noncomputable def cField : PSpec := ⟨[.list shLine], fun l => Sp.okF l, [.list shLine], fun l => l, false⟩
noncomputable def cSum : PSpec := ⟨[li64, i64], fun i => decide (i.1.length ≤ 1000000), [i64], fun i => Sp.sumW ((i.1 : List Int).take (i.2 : Int).toNat), false⟩
noncomputable def cLNames : PSpec := ⟨[.list shLine], fun l => Sp.okF l, [lstr], fun l => Sp.lnames l, false⟩
noncomputable def cCheckF : PSpec := ⟨[.list shLine], fun l => Sp.okF l, [i64], fun l => Sp.fieldE l, false⟩
/-- never called -/
noncomputable def cNever : PSpec := ⟨[i64], fun _ => false, [i64], fun _ => 0, false⟩
noncomputable def l90 : List (FuncId × PSpec) := [(87, cFirst), (92, cWhen), (94, cOut), (158, cIsName), (113, cIsName), (84, cHas), (112, cCheckName), (200, cFirst), (119, cCompare)]
noncomputable def X90 : PCtx := X7 l90
noncomputable def X91 : PCtx := X7f [(123, [1])] [(123, [(1, [(2, shLine)])])] [(123, [(1, [1, 2])])] ((125, cHas) :: (116, cTotal) :: (58, cSum) :: (120, cLNames) :: l90)
end
end Go.Pe
end
