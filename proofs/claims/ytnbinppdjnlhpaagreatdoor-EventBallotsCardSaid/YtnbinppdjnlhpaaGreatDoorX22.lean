import Derived.Test.YtnbinppdjnlhpaaGreatDoorX21
/- A part of the proofs of the laws of one chapter (no law is stated here). Made by program out of texts by AI agents. -/
section
/- Contracts of functions of chapter 7: brackets, meetings. -/
namespace Go.Pe
open Go.Det
theorem size_tab : ∀ n : Fin 201, ∀ j : Fin 9, decide ((2 ^ j.1 : Int) < Sp.size 8 n.1 1) = decide ((2 ^ j.1 : Int) < (n.1 : Int)) := by decide +kernel
theorem size_lt {n : Int} (h1 : 1 ≤ n) (h2 : n ≤ 200) {j : Nat} (hj : j ≤ 8) : ((2 ^ j : Int) < Sp.size 8 n 1 ↔ (2 ^ j : Int) < n) := by
  have h := size_tab ⟨n.toNat, by omega⟩ ⟨j, by omega⟩
  simp only at h
  rw [show ((n.toNat : Nat) : Int) = n by omega] at h
  simpa using h
namespace T25
set_option maxRecDepth 10000 in
theorem L4_ends {Q : PV → Ob → Prop} (n : Int) (l : List Int) (hl : l.length ≤ 400) (hb : Bd l) : ∀ (r : List Int) (i : Nat) (acc : List Int), l.drop i = r → i ≤ l.length → acc.length ≤ 2 * i → Ends X71 (L1 n (acc ++ exp l.length r).length (acc ++ exp l.length r)) Q →
    Ends X71 (L4 n l.length acc.length i acc l) Q
  | [], i, acc, h, hi, ha, hq => by
    have := drop_nil h hi
    refine Ends.steq (L4_eq ..) (Ends.ff (by simp; omega) ?_)
    simpa [exp] using hq
  | x :: r, i, acc, h, hi, ha, hq => by
    obtain ⟨h1, h2, h3⟩ := drop_cons (d := 0) h
    have hx := hb x (mem_drop h)
    refine Ends.steq (L4_eq ..) ?_
    refine Ends.tt (by simp <;> omega) (Ends.tt (by simp <;> omega) (Ends.tt (by simp <;> omega) (Ends.tt (by simp <;> omega) (Ends.tt (by simp <;> omega) (Ends.tt (by simp <;> omega) ?_)))))
    simp only [Int.toNat_natCast, h2]
    rw [wr (2 * (l.length : Int)) (by omega) (by omega), wr (2 * (l.length : Int) + 1) (by omega) (by omega), wr (2 * (l.length : Int) + 1 - x) (by omega) (by omega), wr _ (by omega) (by omega)]
    rw [show Nat.add acc.length 2 = (acc ++ [x, 2 * (l.length : Int) + 1 - x]).length from by simp]
    refine L4_ends n l hl hb r (i + 1) _ h3 h1 (by simp; omega) ?_
    simpa [exp] using hq
theorem L2_ends {Q : PV → Ob → Prop} (n : Int) (l : List Int) (h1 : 1 ≤ l.length) (hl : l.length ≤ 400) (hb : Bd l) (hq : Ends X71 (L1 n (exp l.length l).length (exp l.length l)) Q) : Ends X71 (L2 n l.length 0 l) Q := by
  cases hc : l with
  | nil => rw [hc] at h1; cases h1
  | cons x r =>
    rw [← hc]
    have hd : l.drop 0 = x :: r := by rw [hc]; rfl
    obtain ⟨g1, g2, g3⟩ := drop_cons (d := 0) hd
    have hx := hb x (mem_drop hd)
    refine Ends.steq (L2_eq ..) ?_
    refine Ends.tt (by simp <;> omega) (Ends.tt (by simp <;> omega) (Ends.tt (by simp <;> omega) (Ends.tt (by simp <;> omega) (Ends.tt (by simp <;> omega) (Ends.tt (by simp <;> omega) ?_)))))
    simp only [Int.toNat_zero, g2]
    rw [wr (2 * (l.length : Int)) (by omega) (by omega), wr (2 * (l.length : Int) + 1) (by omega) (by omega), wr (2 * (l.length : Int) + 1 - x) (by omega) (by omega), wr _ (by omega) (by omega)]
    refine L4_ends n l hl hb r 1 [x, 2 * (l.length : Int) + 1 - x] g3 g1 (by simp) ?_
    have : [x, 2 * (l.length : Int) + 1 - x] ++ exp l.length r = exp l.length l := by
      rw [show exp l.length l = exp l.length (x :: r) by rw [hc]]
      simp [exp]
    rw [this]; exact hq
theorem L3_ends {Q : PV → Ob → Prop} (n : Int) (m : Nat) (hm : m ≤ 1000) : ∀ (r done : List Int), (done ++ r).length = m → Q (.sl 0 1 0 m none) [(0, .arr false 3 i64 (done ++ Sp.strike n r))] → Ends X71 (L3 n m done.length (done ++ r)) Q
  | [], done, h, hq => by
    refine Ends.steq (L3_eq ..) (Ends.ff (by simp at h ⊢; omega) ?_)
    simpa [Sp.strike] using hq
  | x :: r, done, h, hq => by
    simp at h
    have hg : (done ++ x :: r).getD done.length 0 = x := by simp
    have hs : (done ++ x :: r).set done.length 0 = done ++ 0 :: r := by simp
    refine Ends.steq (L3_eq ..) ?_
    refine Ends.tt (by simp <;> omega) (Ends.tt (by simp <;> omega) (Ends.tt (by simp <;> omega) ?_))
    simp only [Int.toNat_natCast, hg, hs]
    rw [wr _ (by omega) (by omega), Ends_ite]
    by_cases hx : x > n
    · rw [if_pos (by simpa using hx)]
      refine Ends.tt (by simp <;> omega) (Ends.tt (by simp <;> omega) ?_)
      have := L3_ends (Q := Q) n m hm r (done ++ [0]) (by simp; omega) (by simpa [Sp.strike, hx] using hq)
      simpa using this
    · rw [if_neg (by simpa using hx)]
      have := L3_ends (Q := Q) n m hm r (done ++ [x]) (by simp; omega) (by simpa [Sp.strike, hx] using hq)
      simpa using this
theorem L1_ends {Q : PV → Ob → Prop} (n : Int) (hn1 : 1 ≤ n) (hn : n ≤ 200) : ∀ (f j : Nat) (l : List Int), l.length = 2 ^ j → f + j = 8 → Bd l → (Q (.sl 0 1 0 (Sp.grow f n l).length none) [(0, .arr false 3 i64 (Sp.strike n (Sp.grow f n l)))]) → Ends X71 (L1 n l.length l) Q
  | 0, j, l, h1, h2, hb, hq => by
    obtain rfl : j = 8 := by omega
    have hs := size_lt hn1 hn (Nat.le_refl 8)
    refine Ends.steq (L1_eq ..) (Ends.tt (by simpa using hn) (Ends.ff ?_ ?_))
    · rw [h1]
      have : ¬ ((2 ^ 8 : Int) < Sp.size 8 n 1) := by rw [hs]; omega
      simpa using this
    · have := L3_ends (Q := Q) n l.length (by rw [h1]; omega) l [] rfl (by simpa [Sp.grow] using hq)
      simpa using this
  | f + 1, j, l, h1, h2, hb, hq => by
    have hs := size_lt hn1 hn (show j ≤ 8 by omega)
    have hp : 1 ≤ 2 ^ j := Nat.one_le_two_pow
    have hp2 : 2 ^ j ≤ 2 ^ 8 := Nat.pow_le_pow_right (by omega) (by omega)
    refine Ends.steq (L1_eq ..) (Ends.tt (by simpa using hn) ?_)
    rw [Ends_ite]
    have hcast : ((l.length : Nat) : Int) = (2 ^ j : Int) := by rw [h1]; simp
    rw [hcast]
    by_cases hc : (2 ^ j : Int) < n
    · rw [if_pos (by simpa using hs.2 hc)]
      refine L2_ends n l (by omega) (by omega) hb (L1_ends n hn1 hn f (j + 1) _ (by rw [exp_len, h1, Nat.pow_succ, Nat.mul_comm]) (by omega) (hb.exp (by omega)) ?_)
      have e : Sp.grow (f + 1) n l = Sp.grow f n (exp l.length l) := by
        rw [Sp.grow, if_pos (by rw [hcast]; exact hc)]; rfl
      rw [e] at hq; exact hq
    · rw [if_neg (by simpa using fun h => hc (hs.1 h))]
      have := L3_ends (Q := Q) n l.length (by omega) l [] rfl (by simpa [Sp.grow, hcast, hc] using hq)
      simpa using this
theorem ok : SpecOk C7p 25 cbracket := by
  refine spec7 (X := X71) rfl hall71 (d := 9) (by kernel_rfl) (by kernel_rfl) (by kernel_rfl) (fun (n : Int) hn => ?_) (isSome_ex (by kernel_rfl))
  have hn : 1 ≤ n ∧ n ≤ 200 := by simpa [cbracket] using hn
  refine Ends.eq (T_eq n) ?_
  refine L1_ends n hn.1 hn.2 8 0 [1] (by simp) (by omega) (by intro s hs; simp at hs; subst hs; simp) ?_
  have hlen : (Sp.grow 8 n [1]).length = (Sp.strike n (Sp.grow 8 n [1])).length := by simp [Sp.strike]
  rw [hlen]
  exact Gives.of rfl (by simp) (by simp [cbracket, Sp.bracket])
end T25
theorem hall72 : ∀ g sp, X72.sp g = some sp → SpecOk C7p g sp := spOf_ok fun x hx => by
  simp only [List.mem_cons, List.mem_nil_iff, or_false] at hx
  rcases hx with rfl | rfl | rfl | rfl | rfl | rfl | rfl | rfl | rfl | rfl | rfl | rfl | rfl | rfl | rfl
  · exact T89.ok
  · exact T23.ok
  · exact T25.ok
  · exact T87.ok
  · exact T88.ok
  · exact T92.ok
  · exact T93.ok
  · exact T95.ok
  · exact T21.ok
  · exact T22.ok
  · exact T94.ok
  · exact T27.ok
  · exact T90.ok
  · exact T91.ok
  · exact T24.ok
theorem out_0 {n a b : Int} (h : Sp.out n a b = 0) : a ≤ n ∧ n ≤ b := by
  unfold Sp.out at h
  split at h
  · cases h
  · split at h
    · cases h
    · omega
theorem first_0 : ∀ {l : List Int}, Sp.first l = 0 → ∀ x ∈ l, x = 0
  | [], _, x, hx => by cases hx
  | y :: l, h, x, hx => by
    unfold Sp.first at h
    by_cases hy : y = 0
    · rw [if_neg (by simpa using hy)] at h
      rcases List.mem_cons.1 hx with rfl | hx
      · exact hy
      · exact first_0 h x hx
    · rw [if_pos hy] at h; exact absurd h hy
theorem T18.ok : SpecOk C7p 18 cBallot := by
  refine spec7 (X := X72) rfl hall72 (d := 9) (by kernel_rfl) (by kernel_rfl) (by kernel_rfl) (fun (i : Int × Int) _ => ?_) (isSome_ex (by kernel_rfl))
  obtain ⟨n, key⟩ := i
  refine Ends.eq (T18.T_eq n key) (Ends.tt rfl (Ends.tt rfl (Ends.tt rfl ?_)))
  rw [Ends_ite]
  by_cases h : Sp.ballotE n key = 0
  · have h1 := first_0 (l := [Sp.out n 0 200, Sp.out key 1 2147483646]) h
    have h2 := out_0 (h1 (Sp.out n 0 200) (by simp))
    have h3 := out_0 (h1 (Sp.out key 1 2147483646) (by simp))
    rw [if_neg (by simpa [Sp.ballotE] using h)]
    refine Ends.tt (by simp; omega) (Ends.leaf (Gives.of rfl rfl ?_))
    simp [cBallot, Sp.Ballot, h]
  · rw [if_pos (by simpa [Sp.ballotE] using h)]
    refine Ends.leaf (Gives.of rfl rfl ?_)
    show ([], Sp.ballotE n key) = Sp.Ballot n key
    simp [Sp.Ballot, h]
theorem T19.ok : SpecOk C7p 19 cBracket := by
  refine spec7 (X := X72) rfl hall72 (d := 9) (by kernel_rfl) (by kernel_rfl) (by kernel_rfl) (fun (n : Int) _ => ?_) (isSome_ex (by kernel_rfl))
  refine Ends.eq (T19.T_eq n) (Ends.tt rfl ?_)
  rw [Ends_ite]
  by_cases h : Sp.out n 1 200 = 0
  · have h2 := out_0 h
    rw [if_neg (by simpa using h)]
    refine Ends.tt (by simp; omega) (Ends.leaf (Gives.of rfl rfl ?_))
    simp [cBracket, Sp.Bracket, h]
  · rw [if_pos (by simpa using h)]
    refine Ends.leaf (Gives.of rfl rfl ?_)
    simp [cBracket, Sp.Bracket, h]
theorem half_bd {i : Int} {f : Nat} (h1 : -1 ≤ i) (h2 : i < 2 ^ (f + 1)) : 0 ≤ Int.tdiv i 2 ∧ Int.tdiv i 2 < 2 ^ f := by
  rw [Int.pow_succ] at h2
  by_cases h : 0 ≤ i
  · rw [Int.tdiv_eq_ediv_of_nonneg h]; omega
  · obtain rfl : i = -1 := by omega
    have : (0 : Int) < 2 ^ f := Int.pow_pos (by omega)
    exact ⟨by decide, by simpa using this⟩
theorem half_le {i : Int} (h1 : -1 ≤ i) (h2 : i ≤ 1000) : Int.tdiv i 2 ≤ 1000 := by
  by_cases h : 0 ≤ i
  · rw [Int.tdiv_eq_ediv_of_nonneg h]; omega
  · obtain rfl : i = -1 := by omega
    decide
theorem lastIdx_bd : ∀ (l : List Int) (x i r : Int), 0 ≤ i → 0 ≤ r → r ≤ i → 0 ≤ Sp.lastIdx l x i r ∧ Sp.lastIdx l x i r ≤ i + l.length
  | [], x, i, r, h1, h2, h3 => by simp [Sp.lastIdx]; omega
  | y :: l, x, i, r, h1, h2, h3 => by
    unfold Sp.lastIdx
    have := lastIdx_bd l x (i + 1) (if y = x then i else r) (by omega) (by split <;> omega) (by split <;> omega)
    simp; omega
theorem grow_len {n : Int} (hn : n ≤ 200) : ∀ (f : Nat) (l : List Int), l.length ≤ 400 → (Sp.grow f n l).length ≤ 400
  | 0, l, h => h
  | f + 1, l, h => by
    unfold Sp.grow
    split
    · exact grow_len hn f _ (by unfold Sp.expand; rw [exp_len]; omega)
    · exact h
theorem bracket_len {n : Int} (hn : n ≤ 200) : (Sp.bracket n).length ≤ 400 := by
  have := grow_len hn 8 [1] (by simp)
  simpa [Sp.bracket, Sp.strike] using this
theorem index_bd : ∀ (l : List Int) (x i : Int), 0 ≤ i → -1 ≤ Sp.index l x i ∧ Sp.index l x i < i + l.length ∨ Sp.index l x i = -1
  | [], x, i, h => .inr rfl
  | y :: l, x, i, h => by
    unfold Sp.index
    split
    · left; constructor
      · omega
      · simp; omega
    · rcases index_bd l x (i + 1) (by omega) with h1 | h1
      · left; simp; omega
      · exact .inr h1
namespace T20
theorem L1_ends {Q : PV → Ob → Prop} : ∀ (f : Nat) (i k r : Int), -1 ≤ i → i < 2 ^ f → i ≤ 1000 → -1 ≤ k → k < 2 ^ f → k ≤ 1000 → (f = 0 → i = k) → 0 ≤ r → r + f ≤ 100 → Q (.tup [.dat i64 (Sp.rnd f i k r), .dat i64 (0 : Int)]) [] → Ends X72 (L1 i k r) Q
  | 0, i, k, r, h1, h2, h2', h3, h4, h4', h5, h6, h7, hq => by
    obtain rfl := h5 rfl
    exact Ends.steq (L1_eq ..) (Ends.tt (by simp) (Ends.leaf hq))
  | f + 1, i, k, r, h1, h2, h2', h3, h4, h4', h5, h6, h7, hq => by
    refine Ends.steq (L1_eq ..) ?_
    rw [Ends_ite]
    by_cases h : i = k
    · subst h
      rw [if_pos (by simp)]
      exact Ends.leaf (by simpa [Sp.rnd] using hq)
    · rw [if_neg (by simpa using h)]
      have g1 := half_bd h1 h2
      have g2 := half_bd h3 h4
      have g1' := half_le h1 h2'
      have g2' := half_le h3 h4'
      rw [wr _ (by omega) (by omega), wr _ (by omega) (by omega), wr _ (by omega) (by omega)]
      refine Ends.tt rfl (Ends.tt rfl (L1_ends f _ _ _ (by omega) g1.2 g1' (by omega) g2.2 g2' ?_ (by omega) (by omega) (by simpa [Sp.rnd, h] using hq)))
      intro hf
      subst hf
      have := g1.2; have := g2.2
      simp at *
      omega
theorem ok : SpecOk C7p 20 cMeet := by
  refine spec7 (X := X72) rfl hall72 (d := 9) (by kernel_rfl) (by kernel_rfl) (by kernel_rfl) (fun (i : Int × Int × Int) _ => ?_) (isSome_ex (by kernel_rfl))
  obtain ⟨n, a, b⟩ := i
  have main : Sp.meetE n a b = 0 → Ends X72 (L1 (Sp.index (Sp.bracket n) a 0) (Sp.index (Sp.bracket n) b 0) 0) (Gives cMeet (n, a, b)) := by
    intro h
    have h1 := out_0 (first_0 (l := [Sp.out n 1 200, _, _]) h (Sp.out n 1 200) (by simp))
    have hl := bracket_len h1.2
    have hi : ∀ x, -1 ≤ Sp.index (Sp.bracket n) x 0 ∧ Sp.index (Sp.bracket n) x 0 ≤ 400 := by
      intro x
      rcases index_bd (Sp.bracket n) x 0 (by omega) with h | h <;> omega
    have ha := hi a
    have hb := hi b
    refine L1_ends 10 _ _ 0 (by omega) (by omega) (by omega) (by omega) (by omega) (by omega) (by omega) (by omega) (by omega) (Gives.of rfl rfl ?_)
    simp [cMeet, Sp.Meet, h]
  have part : Sp.meetE n a b = 0 → 1 ≤ n ∧ n ≤ 200 ∧ (Sp.bracket n).length ≤ 1000000 := by
    intro h
    have h1 := out_0 (first_0 (l := [Sp.out n 1 200, _, _]) h (Sp.out n 1 200) (by simp))
    have hl := bracket_len h1.2
    omega
  have err : ∀ ob, ¬ Sp.meetE n a b = 0 → Gives cMeet (n, a, b) (.tup [.dat i64 (0 : Int), .dat i64 (Sp.meetE n a b)]) ob := by
    intro ob h
    exact Gives.of rfl rfl (by simp [cMeet, Sp.Meet, h])
  refine Ends.eq (T_eq n a b) (Ends.tt rfl ?_)
  rw [Ends_ite]
  by_cases hm : imin a b < 1
  · have e : Sp.first [Sp.out n 1 200, Sp.whn true 10, Sp.whn (a == b) 9] = Sp.meetE n a b := by simp [Sp.meetE, hm]
    rw [if_pos (by simpa using hm), e]
    refine Ends.tt rfl (Ends.tt rfl (Ends.tt rfl ?_))
    rw [Ends_ite]
    by_cases h : Sp.meetE n a b = 0
    · rw [if_neg (by simpa using h)]
      have := part h
      exact Ends.tt (by simp; omega) (Ends.tt (by simp; omega) (Ends.tt (by simp; omega) (main h)))
    · rw [if_pos (by simpa using h)]
      exact Ends.leaf (err _ h)
  · have e : Sp.first [Sp.out n 1 200, Sp.whn (decide (imax a b > n)) 10, Sp.whn (a == b) 9] = Sp.meetE n a b := by simp [Sp.meetE, hm]
    rw [if_neg (by simpa using hm), e]
    refine Ends.tt rfl (Ends.tt rfl (Ends.tt rfl ?_))
    rw [Ends_ite]
    by_cases h : Sp.meetE n a b = 0
    · rw [if_neg (by simpa using h)]
      have := part h
      exact Ends.tt (by simp; omega) (Ends.tt (by simp; omega) (Ends.tt (by simp; omega) (main h)))
    · rw [if_pos (by simpa using h)]
      exact Ends.leaf (err _ h)
end T20
namespace T26
theorem L2_ends {Q : PV → Ob → Prop} : ∀ (f : Nat) (i k r : Int), -1 ≤ i → i < 2 ^ f → i ≤ 1000 → -1 ≤ k → k < 2 ^ f → k ≤ 1000 → (f = 0 → i = k) → 0 ≤ r → r + f ≤ 100 → Q (.dat i64 (Sp.rnd f i k r)) [] → Ends X72 (L2 i k r) Q
  | 0, i, k, r, h1, h2, h2', h3, h4, h4', h5, h6, h7, hq => by
    obtain rfl := h5 rfl
    exact Ends.steq (L2_eq ..) (Ends.ff (by simp) (Ends.leaf hq))
  | f + 1, i, k, r, h1, h2, h2', h3, h4, h4', h5, h6, h7, hq => by
    refine Ends.steq (L2_eq ..) ?_
    rw [Ends_ite]
    by_cases h : i = k
    · subst h
      rw [if_neg (by simp)]
      exact Ends.leaf (by simpa [Sp.rnd] using hq)
    · rw [if_pos (by simpa using h)]
      have g1 := half_bd h1 h2
      have g2 := half_bd h3 h4
      have g1' := half_le h1 h2'
      have g2' := half_le h3 h4'
      rw [wr _ (by omega) (by omega), wr _ (by omega) (by omega), wr _ (by omega) (by omega)]
      refine Ends.tt rfl (Ends.tt rfl (L2_ends f _ _ _ (by omega) g1.2 g1' (by omega) g2.2 g2' ?_ (by omega) (by omega) (by simpa [Sp.rnd, h] using hq)))
      intro hf
      subst hf
      have := g1.2; have := g2.2
      simp at *
      omega
set_option maxRecDepth 10000 in
theorem L1_ends {Q : PV → Ob → Prop} (a b : Int) (l : List Int) (hl : l.length ≤ 400) : ∀ (r : List Int) (i : Nat) (x y : Int), l.drop i = r → i ≤ l.length → Ends X72 (L2 (Sp.lastIdx r a i x) (Sp.lastIdx r b i y) 0) Q → Ends X72 (L1 a b l x y i) Q
  | [], i, x, y, h, hi, hq => by
    have := drop_nil h hi
    exact Ends.steq (L1_eq ..) (Ends.ff (by simp; omega) hq)
  | z :: r, i, x, y, h, hi, hq => by
    obtain ⟨h1, h2, h3⟩ := drop_cons (d := 0) h
    refine Ends.steq (L1_eq ..) (Ends.tt (by simp <;> omega) (Ends.tt (by simp <;> omega) ?_))
    simp only [Int.toNat_natCast, h2]
    rw [wr _ (by omega) (by omega), Ends_ite]
    have ih := fun x y => L1_ends (Q := Q) a b l hl r (i + 1) x y h3 h1
    simp only [Sp.lastIdx] at hq
    by_cases ha : z = a
    · rw [if_pos (by simpa using ha)]
      refine Ends.tt (by simp <;> omega) ?_
      rw [if_pos ha] at hq
      rw [Ends_ite]
      by_cases hb : z = b
      · rw [if_pos hb] at hq; rw [if_pos (by simpa using hb)]; exact ih _ _ hq
      · rw [if_neg hb] at hq; rw [if_neg (by simpa using hb)]; exact ih _ _ hq
    · rw [if_neg (by simpa using ha)]
      refine Ends.tt (by simp <;> omega) ?_
      rw [if_neg ha] at hq
      rw [Ends_ite]
      by_cases hb : z = b
      · rw [if_pos hb] at hq; rw [if_pos (by simpa using hb)]; exact ih _ _ hq
      · rw [if_neg hb] at hq; rw [if_neg (by simpa using hb)]; exact ih _ _ hq
theorem ok : SpecOk C7p 26 cMeetR := by
  refine spec7 (X := X72) rfl hall72 (d := 9) (by kernel_rfl) (by kernel_rfl) (by kernel_rfl) (fun (i : Int × Int × Int) hn => ?_) (isSome_ex (by kernel_rfl))
  obtain ⟨n, a, b⟩ := i
  have hn : 1 ≤ n ∧ n ≤ 200 := by simpa [cMeetR] using hn
  have hl := bracket_len hn.2
  refine Ends.eq (T_eq n a b) (Ends.tt (by simpa using hn) ?_)
  refine L1_ends a b _ hl _ 0 0 0 rfl (Nat.zero_le _) ?_
  have hi := fun x => lastIdx_bd (Sp.bracket n) x 0 0 (by omega) (by omega) (by omega)
  have ha := hi a
  have hb := hi b
  exact L2_ends 10 _ _ 0 (by simp; omega) (by simp; omega) (by simp; omega) (by simp; omega) (by simp; omega) (by simp; omega) (by omega) (by omega) (by omega) (Gives.of rfl rfl rfl)
end T26
end Go.Pe
end
