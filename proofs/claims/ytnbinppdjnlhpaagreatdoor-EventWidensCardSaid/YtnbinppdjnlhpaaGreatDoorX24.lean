import Derived.Test.YtnbinppdjnlhpaaGreatDoorX23
import Derived.Test.YtnbinppdjnlhpaaGreatDoorX22
/- A part of the proofs of the laws of one chapter (no law is stated here). Made by program out of texts by AI agents. -/
section
namespace Go.Pe
open Go.Det
abbrev RuleT := Sp.RuleT
theorem hallXC1 : ∀ g sp, XC1.sp g = some sp → SpecOk C7p g sp :=
  sp_cons (never_ok (by kernel_rfl) (isSome_ex (by kernel_rfl))) (sp_cons (never_ok (by kernel_rfl) (isSome_ex (by kernel_rfl))) (sp_cons (never_ok (by kernel_rfl) (isSome_ex (by kernel_rfl))) (sp_cons (never_ok (by kernel_rfl) (isSome_ex (by kernel_rfl))) (sp_cons (never_ok (by kernel_rfl) (isSome_ex (by kernel_rfl))) (sp_cons (never_ok (by kernel_rfl) (isSome_ex (by kernel_rfl))) (sp_cons T27.ok (sp_cons T93.ok (sp_cons T88.ok (sp_cons T116.ok (sp_cons T58.ok hallX90))))))))))
theorem out_3 (n a b : Int) : Sp.out n a b = 0 ∨ Sp.out n a b = 3 := by
  unfold Sp.out
  by_cases h1 : n < a
  · rw [if_pos h1]; exact .inr rfl
  · rw [if_neg h1]
    by_cases h2 : n > b
    · rw [if_pos h2]; exact .inr rfl
    · rw [if_neg h2]; exact .inl rfl
namespace T67
theorem ok : SpecOk C7p 67 cRuleE := by
  refine spec7 (X := XC1) rfl hallXC1 (d := 9) (by kernel_rfl) (by kernel_rfl) (by kernel_rfl) (fun (r : RuleT) _ => ?_) (isSome_ex (by kernel_rfl))
  have hQ : ∀ n ob, n = Sp.ruleE r → Gives cRuleE r (.dat i64 n) ob := fun n ob h => Gives.of rfl rfl h
  have e1 := out_3 r.1 1 8
  have e2 := out_3 r.2.1 1 200
  have e3 := out_3 r.2.2 (-1) 999
  refine Ends.eq (T_eq r) (Ends.tt rfl (Ends.ite (fun c => Ends.leaf (hQ _ _ ?_)) (fun c => Ends.tt rfl (Ends.ite (fun c2 => Ends.leaf (hQ _ _ ?_)) (fun c2 => Ends.tt rfl (Ends.ite (fun c3 => Ends.leaf (hQ _ _ ?_)) (fun c3 => Ends.leaf (hQ _ _ ?_))))))))
  · have c : Sp.out r.1 1 8 ≠ 0 := by simpa using c
    unfold Sp.ruleE
    rcases e1 with h | h
    · exact absurd h c
    · rw [h]; rfl
  · have c : Sp.out r.1 1 8 = 0 := by simpa using c
    have c2 : Sp.out r.2.1 1 200 ≠ 0 := by simpa using c2
    unfold Sp.ruleE
    rcases e2 with h | h
    · exact absurd h c2
    · rw [c, h]; rfl
  · have c : Sp.out r.1 1 8 = 0 := by simpa using c
    have c2 : Sp.out r.2.1 1 200 = 0 := by simpa using c2
    have c3 : Sp.out r.2.2 (-1) 999 ≠ 0 := by simpa using c3
    unfold Sp.ruleE
    rcases e3 with h | h
    · exact absurd h c3
    · rw [c, c2, h]; rfl
  · have c : Sp.out r.1 1 8 = 0 := by simpa using c
    have c2 : Sp.out r.2.1 1 200 = 0 := by simpa using c2
    have c3 : Sp.out r.2.2 (-1) 999 = 0 := by simpa using c3
    unfold Sp.ruleE
    rw [c, c2, c3]; rfl
end T67
theorem cand_eq (x : LineT) : (x.2.2.2 == []) = Sp.cand x := by
  unfold Sp.cand
  by_cases h : x.2.2.2 = [] <;> simp [h]
theorem cands_len : ∀ (l : List LineT) (i : Nat), (Sp.cands i l).length ≤ l.length
  | [], _ => Nat.le_refl _
  | x :: l, i => by
    have := cands_len l (i + 1)
    unfold Sp.cands
    split <;> simp <;> omega
namespace T144
variable {Q : PV → Ob → Prop}
theorem L2_ends (l : List LineT) (hl : l.length ≤ 300) (w : List Int) (hq : ∀ ob tail, ob = (0, Obj.arr false 3 (.int .i64) w) :: tail → Q (.sl 0 1 0 w.length none) ob) : ∀ (s : List LineT) (i : Nat) (acc : List Int), l.drop i = s → i ≤ l.length → acc.length ≤ i → acc ++ Sp.cands i s = w → Ends XC1 (L2 l acc.length i acc) Q
  | [], i, acc, h, hi, ha, hw => by
    have := drop_nil h hi
    have hw : acc = w := by simpa [Sp.cands] using hw
    subst hw
    exact Ends.steq (L2_eq ..) (Ends.ff (by simp; omega) (Ends.leaf (hq _ [] rfl)))
  | x :: s, i, acc, h, hi, ha, hw => by
    obtain ⟨h1, h2, h3⟩ := drop_cons (d := DL) h
    have h2' : l.getD i ([], false, [], []) = x := h2
    refine Ends.steq (L2_eq ..) (Ends.tt (by simp <;> omega) (Ends.tt (by simp <;> omega) ?_))
    simp only [Int.toNat_natCast, h2']
    rw [wr ((i : Int) + 1) (by omega) (by omega), cand_eq]
    unfold Sp.cands at hw
    refine Ends.ite (fun c => Ends.tt (by simp; omega) ?_) (fun c => ?_)
    · rw [if_pos c] at hw
      have e : Nat.add acc.length 1 = (acc ++ [(i : Int)]).length := by simp
      rw [e]
      exact L2_ends l hl w hq s (i + 1) _ h3 h1 (by simp; omega) (by rw [List.append_assoc]; exact hw)
    · rw [if_neg (by rw [c]; simp)] at hw
      exact L2_ends l hl w hq s (i + 1) acc h3 h1 (by omega) hw
theorem L1_ends (l : List LineT) (hl : l.length ≤ 300) (w : List Int) (hq0 : w = [] → ∀ ob, Q .nil ob) (hq : ∀ ob tail, ob = (0, Obj.arr false 3 (.int .i64) w) :: tail → Q (.sl 0 1 0 w.length none) ob) : ∀ (s : List LineT) (i : Nat), l.drop i = s → i ≤ l.length → Sp.cands i s = w → Ends XC1 (L1 l i) Q
  | [], i, h, hi, hw => by
    have := drop_nil h hi
    exact Ends.steq (L1_eq ..) (Ends.ff (by simp; omega) (Ends.leaf (hq0 hw.symm _)))
  | x :: s, i, h, hi, hw => by
    obtain ⟨h1, h2, h3⟩ := drop_cons (d := DL) h
    have h2' : l.getD i ([], false, [], []) = x := h2
    refine Ends.steq (L1_eq ..) (Ends.tt (by simp <;> omega) (Ends.tt (by simp <;> omega) ?_))
    simp only [Int.toNat_natCast, h2']
    rw [wr ((i : Int) + 1) (by omega) (by omega), cand_eq]
    unfold Sp.cands at hw
    refine Ends.ite (fun c => Ends.tt (by simp) ?_) (fun c => ?_)
    · rw [if_pos c] at hw
      exact L2_ends l hl w hq s (i + 1) [(i : Int)] h3 h1 (by simp) hw
    · rw [if_neg (by rw [c]; simp)] at hw
      exact L1_ends l hl w hq0 hq s (i + 1) h3 h1 hw
theorem ok : SpecOk C7p 144 cCands := by
  refine spec7 (X := XC1) rfl hallXC1 (d := 9) (by kernel_rfl) (by kernel_rfl) (by kernel_rfl) (fun (l : List LineT) hl => ?_) (isSome_ex (by kernel_rfl))
  have hok : Sp.okF l = true := hl
  have h205 := (okF_of hok).1
  refine Ends.eq (T_eq l) (L1_ends l (by omega) (Sp.cands 0 l) (fun h ob => ⟨[], rfl, (show [] = Sp.cands 0 l by rw [h])⟩) ?_ l 0 rfl (Nat.zero_le _) rfl)
  · rintro ob tail rfl
    exact ⟨Sp.cands 0 l, res1_sl rfl rfl, rfl⟩
end T144
theorem index_ge : ∀ (l : List Int) (x : Int) (i : Int), 0 ≤ i → (decide (Sp.index l x i ≥ 0)) = decide (x ∈ l)
  | [], x, i, hi => rfl
  | y :: l, x, i, hi => by
    unfold Sp.index
    by_cases h : x = y
    · rw [if_pos h, decide_eq_true (by omega), decide_eq_true (by simp [h])]
    · rw [if_neg h, index_ge l x (i + 1) (by omega)]
      by_cases h2 : x ∈ l
      · rw [decide_eq_true h2, decide_eq_true (by simp [h2])]
      · rw [decide_eq_false h2, decide_eq_false (by simp [h, h2])]
namespace T143
theorem ok : SpecOk C7p 143 cMemI := by
  refine spec7 (X := XC1) rfl hallXC1 (d := 9) (by kernel_rfl) (by kernel_rfl) (by kernel_rfl) (fun (i : List Int × Int) hi => ?_) (isSome_ex (by kernel_rfl))
  obtain ⟨l, x⟩ := i
  exact Ends.eq (T_eq l x) (Ends.tt hi (Ends.leaf (Gives.of rfl rfl (index_ge l x 0 (by omega)))))
end T143
namespace T83
theorem ok : SpecOk C7p 83 cSameLine := by
  refine spec7 (X := XC1) rfl hallXC1 (d := 9) (by kernel_rfl) (by kernel_rfl) (by kernel_rfl) (fun (i : LineT × LineT) hi => ?_) (isSome_ex (by kernel_rfl))
  obtain ⟨x, y⟩ := i
  have hi : (Sp.okS x && Sp.okS y) = true := hi
  rw [Bool.and_eq_true] at hi
  have hx := okS_of hi.1
  have hQ : ∀ b ob, b = decide (x = y) → Gives cSameLine (x, y) (.bl b) ob := fun b ob h => Gives.of rfl rfl h
  have hQ2 : ∀ b ob, b = decide (x = y) → Gives cSameLine (x, y) (.dat .bool b) ob := fun b ob h => Gives.of rfl rfl h
  refine Ends.eq (T_eq x y) (Ends.ite (fun c => Ends.ite (fun c2 => Ends.ite (fun c3 => Ends.tt (by simp; omega) (Ends.leaf (hQ2 _ _ ?_))) (fun c3 => Ends.leaf (hQ _ _ ?_))) (fun c2 => Ends.leaf (hQ _ _ ?_))) (fun c => Ends.leaf (hQ _ _ ?_)))
  · have c : x.1 = y.1 := by simpa using c
    have c2 : x.2.1 = y.2.1 := by simpa using c2
    have c3 : x.2.2.2 = y.2.2.2 := by simpa using c3
    by_cases h : x.2.2.1 = y.2.2.1
    · have : x = y := Prod.ext c (Prod.ext c2 (Prod.ext h c3))
      rw [decide_eq_true this]; simpa using h
    · rw [decide_eq_false (fun e => h (by rw [e]))]; simpa using h
  · have c3 : x.2.2.2 ≠ y.2.2.2 := by simpa using c3
    rw [decide_eq_false (fun e => c3 (by rw [e]))]
  · have c2 : x.2.1 ≠ y.2.1 := by simpa using c2
    rw [decide_eq_false (fun e => c2 (by rw [e]))]
  · have c : x.1 ≠ y.1 := by simpa using c
    rw [decide_eq_false (fun e => c (by rw [e]))]
end T83
namespace T72
variable {Q : PV → Ob → Prop}
theorem L2_ends (l : List LineT) (hl : l.length ≤ 300) (hq : ∀ ob tail, ob = (0, Obj.arr false 97 shLine l) :: tail → Q (.sl 0 4 0 l.length none) ob) : ∀ (s : List LineT) (i : Nat), l.drop i = s → i ≤ l.length → Ends XC1 (L2 i l l.length i (l.take i)) Q
  | [], i, h, hi => by
    have := drop_nil h hi
    subst this
    rw [List.take_length]
    exact Ends.steq (L2_eq ..) (Ends.ff (by simp) (Ends.leaf (hq _ [] rfl)))
  | x :: s, i, h, hi => by
    obtain ⟨h1, h2, h3⟩ := drop_cons (d := DL) h
    have h2' : l.getD i ([], false, [], []) = x := h2
    have ht := take_next h
    have hn : (l.take i).length = i := by simp; omega
    refine Ends.steq (L2_eq ..) (Ends.tt (by simp <;> omega) (Ends.tt (by simp <;> omega) (Ends.tt (by rw [hn]; simp; omega) ?_)))
    simp only [Int.toNat_natCast, h2']
    rw [wr ((i : Int) + 1) (by omega) (by omega)]
    have := L2_ends l hl hq s (i + 1) h3 h1
    rw [ht] at this
    exact this
theorem ok : SpecOk C7p 72 cOwn := by
  refine spec7 (X := XC1) rfl hallXC1 (d := 9) (by kernel_rfl) (by kernel_rfl) (by kernel_rfl) (fun (l : List LineT) hl => ?_) (isSome_ex (by kernel_rfl))
  have h205 := (okF_of (l := l) hl).1
  refine Ends.eq (T_eq l) ?_
  cases l with
  | nil => exact Ends.steq (L1_eq ..) (Ends.ff (by simp) (Ends.leaf ⟨[], rfl, rfl⟩))
  | cons x r =>
    refine Ends.steq (L1_eq ..) (Ends.tt (by simp <;> omega) (Ends.tt (by simp <;> omega) (Ends.tt rfl ?_)))
    refine L2_ends (x :: r) (by omega) ?_ r 1 rfl (by simp)
    rintro ob tail rfl
    exact ⟨x :: r, res1_slz (s := shLine) rfl rfl, rfl⟩
end T72
end Go.Pe
end
section
namespace Go.Pe
open Go.Det
theorem okT_of {l : List Int} {r : RuleT} (h : Sp.okT l r = true) : 1 ≤ l.length ∧ l.length ≤ 10 ∧ 1 ≤ r.2.1 ∧ r.2.1 ≤ 200 ∧ -1 ≤ r.2.2 ∧ r.2.2 ≤ 999 ∧ ∀ t ∈ l, 0 ≤ t ∧ t ≤ 100000 := by
  unfold Sp.okT at h
  simp only [Bool.and_eq_true, decide_eq_true_eq, List.all_eq_true] at h
  obtain ⟨⟨⟨⟨⟨⟨h1, h2⟩, h3⟩, h4⟩, h5⟩, h6⟩, h7⟩ := h
  exact ⟨h1, h2, h3, h4, h5, h6, h7⟩
theorem getD_mem {l : List Int} {i : Nat} (h : i < l.length) : l.getD i 0 ∈ l := Sp.getD_mem h
theorem lowL_bd : ∀ (r : List Int) (a : Int), 0 ≤ a → a ≤ 100000 → (∀ t ∈ r, 0 ≤ t ∧ t ≤ 100000) → 0 ≤ Sp.lowL r a ∧ Sp.lowL r a ≤ 100000
  | [], a, h0, h1, _ => ⟨h0, h1⟩
  | t :: r, a, h0, h1, h => by
    have ht := h t (by simp)
    unfold Sp.lowL
    refine lowL_bd r _ ?_ ?_ (fun u hu => h u (by simp [hu])) <;> rw [Sp.imin_def] <;> omega
namespace T145
variable {Q : PV → Ob → Prop}
theorem L2_ends (l : List Int) (hl : l.length ≤ 300) (a m : Int) (i : Nat) (hi : i < l.length) (r : RuleT) (n0 : Int)
    (h1 : n0 < r.2.1 → Ends XC1 (L1 l (imax a (l.getD i 0)) m ((i : Int) + 1) r.1 r.2.1 r.2.2) Q) (h2 : ¬ n0 < r.2.1 → Ends XC1 (L1 l a m ((i : Int) + 1) r.1 r.2.1 r.2.2) Q) : ∀ (s : List Int) (k n : Nat), l.drop k = s → k ≤ l.length → n ≤ k → ((n + Sp.below s (l.getD i 0) : Nat) : Int) = n0 → Ends XC1 (L2 l a m i n k r.1 r.2.1 r.2.2) Q
  | [], k, n, h, hk, hn, hw => by
    have := drop_nil h hk
    have hw : (n : Int) = n0 := by simpa [Sp.below] using hw
    refine Ends.steq (L2_eq ..) (Ends.ff (by simp; omega) ?_)
    rw [wr ((i : Int) + 1) (by omega) (by omega), hw]
    simp only [Int.toNat_natCast]
    exact Ends.ite (fun c => Ends.tt (by simp; omega) (h1 (of_decide_eq_true c))) (fun c => h2 (of_decide_eq_false c))
  | x :: s, k, n, h, hk, hn, hw => by
    obtain ⟨g1, g2, g3⟩ := drop_cons (d := 0) h
    refine Ends.steq (L2_eq ..) (Ends.tt (by simp <;> omega) (Ends.tt (by simp <;> omega) (Ends.tt (by simp; omega) ?_)))
    simp only [Int.toNat_natCast, g2]
    rw [wr ((n : Int) + 1) (by omega) (by omega), wr ((k : Int) + 1) (by omega) (by omega)]
    refine Ends.ite (fun c => ?_) (fun c => ?_)
    · refine L2_ends l hl a m i hi r n0 h1 h2 s (k + 1) (n + 1) g3 g1 (by omega) ?_
      rw [← hw]; unfold Sp.below; rw [List.filter_cons_of_pos (by exact c)]; simp; omega
    · refine L2_ends l hl a m i hi r n0 h1 h2 s (k + 1) n g3 g1 (by omega) ?_
      rw [← hw]; unfold Sp.below; rw [List.filter_cons_of_neg (by rw [c]; simp)]
theorem L1_ends (l : List Int) (hl : l.length ≤ 300) (r : RuleT) (A M : Int) (hM : 0 ≤ M ∧ M ≤ 100000) (h5 : -1 ≤ r.2.2) (h6 : r.2.2 ≤ 999) (hq : ∀ ob, Q (.dat i64 (if r.2.2 ≥ 0 then imax A (M + r.2.2) else A)) ob) : ∀ (s : List Int) (i : Nat) (a m : Int), l.drop i = s → i ≤ l.length → Sp.topL l r.2.1 s a = A → Sp.lowL s m = M → Ends XC1 (L1 l a m i r.1 r.2.1 r.2.2) Q
  | [], i, a, m, h, hi, hA, hM' => by
    have := drop_nil h hi
    have hA : a = A := hA
    have hM' : m = M := hM'
    subst hA hM'
    refine Ends.steq (L1_eq ..) (Ends.ff (by simp; omega) (Ends.ite (fun c => Ends.leaf ?_) (fun c => Ends.leaf ?_)))
    · have c := of_decide_eq_true c
      rw [wr (m + r.2.2) (by omega) (by omega)]
      have := hq [(0, Obj.box [PV.dat i64 r.1, PV.dat i64 r.2.1, PV.dat i64 r.2.2])]
      rw [if_pos c] at this; exact this
    · have c := of_decide_eq_false c
      have := hq [(0, Obj.box [PV.dat i64 r.1, PV.dat i64 r.2.1, PV.dat i64 r.2.2])]
      rw [if_neg c] at this; exact this
  | x :: s, i, a, m, h, hi, hA, hM' => by
    obtain ⟨g1, g2, g3⟩ := drop_cons (d := 0) h
    refine Ends.steq (L1_eq ..) (Ends.tt (by simp <;> omega) (Ends.tt (by simp <;> omega) ?_))
    simp only [Int.toNat_natCast, g2]
    unfold Sp.topL at hA
    unfold Sp.lowL at hM'
    refine L2_ends l hl a (imin m x) i g1 r (Sp.below l x : Nat) (fun hb => ?_) (fun hb => ?_) l 0 0 rfl (Nat.zero_le _) (Nat.le_refl _) (by rw [g2]; simp)
    · rw [if_pos hb] at hA
      rw [g2]
      exact L1_ends l hl r A M hM h5 h6 hq s (i + 1) (imax a x) (imin m x) g3 g1 hA hM'
    · rw [if_neg hb] at hA
      exact L1_ends l hl r A M hM h5 h6 hq s (i + 1) a (imin m x) g3 g1 hA hM'
theorem ok : SpecOk C7p 145 cLineR := by
  refine spec7 (X := XC1) rfl hallXC1 (d := 9) (by kernel_rfl) (by kernel_rfl) (by kernel_rfl) (fun (i : List Int × RuleT) hi => ?_) (isSome_ex (by kernel_rfl))
  obtain ⟨l, r⟩ := i
  obtain ⟨k1, k2, k3, k4, k5, k6, k7⟩ := okT_of (l := l) (r := r) hi
  have h0 : 0 ≤ l.getD 0 0 ∧ l.getD 0 0 ≤ 100000 := k7 _ (getD_mem (by omega))
  refine Ends.eq (T_eq l r) (Ends.tt (by simp; omega) ?_)
  refine L1_ends l (by omega) r (Sp.topL l r.2.1 l 0) (Sp.lowL l (l.getD 0 0)) (lowL_bd l _ h0.1 h0.2 k7) k5 k6 (fun ob => Gives.of rfl rfl rfl) l 0 0 (l.getD 0 0) rfl (Nat.zero_le _) rfl rfl
end T145
/-- the lines that are candidates, by their numbers -/
theorem cands_get (l : List LineT) : ∀ (s : List LineT) (i : Nat), l.drop i = s → i ≤ l.length → ∀ c ∈ Sp.cands i s, ∃ j : Nat, c = (j : Int) ∧ j < l.length ∧ Sp.cand (l.getD j DL) = true
  | [], i, h, hi, c, hc => by cases hc
  | x :: s, i, h, hi, c, hc => by
    obtain ⟨h1, h2, h3⟩ := drop_cons (d := DL) h
    unfold Sp.cands at hc
    split at hc
    · rename_i hx
      rcases List.mem_cons.1 hc with rfl | hc
      · exact ⟨i, rfl, h1, by rw [h2]; exact hx⟩
      · exact cands_get l s (i + 1) h3 h1 c hc
    · exact cands_get l s (i + 1) h3 h1 c hc
theorem cands_map (l : List LineT) : ∀ (s : List LineT) (i : Nat), l.drop i = s → i ≤ l.length → (Sp.cands i s).map (fun c => l.getD c.toNat DL) = s.filter Sp.cand
  | [], i, h, hi => rfl
  | x :: s, i, h, hi => by
    obtain ⟨h1, h2, h3⟩ := drop_cons (d := DL) h
    have ih := cands_map l s (i + 1) h3 h1
    unfold Sp.cands
    by_cases hx : Sp.cand x = true
    · rw [if_pos hx, List.filter_cons_of_pos hx, List.map_cons, ih, Int.toNat_natCast, h2]
    · rw [if_neg hx, List.filter_cons_of_neg hx, ih]
theorem short_filter (a : Int) (l : List LineT) : Sp.short a l = (l.filter Sp.cand).any fun x => decide ((x.2.2.1.length : Int) < a) := by
  unfold Sp.short
  rw [List.any_filter]
theorem hallXC3 : ∀ g sp, XC3.sp g = some sp → SpecOk C7p g sp := sp_cons T144.ok (sp_cons T145.ok (sp_cons T83.ok (sp_cons T73.ok (sp_cons T58.ok (fun g sp h => by cases h)))))
namespace T68
variable {Q : PV → Ob → Prop}
theorem L1_ends (l : List LineT) (hl : l.length ≤ 300) (r : RuleT) (hq : ∀ ob, Q (.dat i64 (if ((Sp.cands 0 l).any fun c => decide (((l.getD c.toNat DL).2.2.1.length : Int) < r.1)) = true then 19 else 0)) ob) : ∀ (s : List Int) (i : Nat), (Sp.cands 0 l).drop i = s → i ≤ (Sp.cands 0 l).length → ((Sp.cands 0 l).any fun c => decide (((l.getD c.toNat DL).2.2.1.length : Int) < r.1)) = (s.any fun c => decide (((l.getD c.toNat DL).2.2.1.length : Int) < r.1)) → Ends XC3 (L1 l (Sp.cands 0 l) i r.1 r.2.1 r.2.2) Q
  | [], i, h, hi, hs => by
    have := drop_nil h hi
    refine Ends.steq (L1_eq ..) (Ends.ff (by simp; omega) (Ends.leaf ?_))
    rw [hs] at hq
    exact hq _
  | c :: s, i, h, hi, hs => by
    obtain ⟨g1, g2, g3⟩ := drop_cons (d := 0) h
    have hc := cands_len l 0
    obtain ⟨j, rfl, hj, _⟩ := cands_get l l 0 rfl (Nat.zero_le _) c (mem_drop h)
    refine Ends.steq (L1_eq ..) (Ends.tt (by simp <;> omega) (Ends.tt (by simp <;> omega) ?_))
    simp only [Int.toNat_natCast, g2]
    rw [wr ((i : Int) + 1) (by omega) (by omega)]
    rw [List.any_cons] at hs
    refine Ends.tt (by simp; omega) (Ends.ite (fun cc => Ends.leaf ?_) (fun cc => ?_))
    · have : decide (((l.getD (j : Int).toNat DL).2.2.1.length : Int) < r.1) = true := by rw [Int.toNat_natCast]; exact cc
      rw [this] at hs
      rw [hs] at hq
      exact hq _
    · have : decide (((l.getD (j : Int).toNat DL).2.2.1.length : Int) < r.1) = false := by rw [Int.toNat_natCast]; exact cc
      rw [this] at hs
      exact L1_ends l hl r hq s (i + 1) g3 g1 (by rw [hs]; rfl)
theorem short_cands (l : List LineT) (a : Int) : ((Sp.cands 0 l).any fun c => decide (((l.getD c.toNat DL).2.2.1.length : Int) < a)) = Sp.short a l := by
  rw [short_filter, ← cands_map l l 0 rfl (Nat.zero_le _), List.any_map]; rfl
theorem ok : SpecOk C7p 68 cCutE2 := by
  refine spec7 (X := XC3) rfl hallXC3 (d := 9) (by kernel_rfl) (by kernel_rfl) (by kernel_rfl) (fun (i : List LineT × RuleT) hi => ?_) (isSome_ex (by kernel_rfl))
  obtain ⟨l, r⟩ := i
  have hok : Sp.okF l = true := hi
  have h205 := (okF_of hok).1
  refine Ends.eq (T_eq l r) (Ends.tt hok (Ends.ite (fun c => Ends.leaf (Gives.of rfl rfl ?_)) (fun c => ?_)))
  · have c : Sp.cands 0 l = [] := by
      have : (Sp.cands 0 l).length = 0 := by simpa using c
      exact List.length_eq_zero_iff.1 this
    show (12 : Int) = Sp.cutE2 l r
    unfold Sp.cutE2; rw [if_pos c]
  · have c : Sp.cands 0 l ≠ [] := by
      rintro e; rw [e] at c; simp at c
    refine L1_ends l (by omega) r (fun ob => Gives.of rfl rfl ?_) (Sp.cands 0 l) 0 rfl (Nat.zero_le _) rfl
    show _ = Sp.cutE2 l r
    unfold Sp.cutE2
    rw [if_neg c, short_cands]
end T68
namespace T71
variable {Q : PV → Ob → Prop}
theorem L1_ends (a b : List LineT) (hl : a.length ≤ 300) (ha : ∀ x ∈ a, Sp.okS x = true) (hb : ∀ x ∈ b, Sp.okS x = true) (hlen : a.length = b.length) : ∀ (s t : List LineT) (i : Nat), a.drop i = s → b.drop i = t → i ≤ a.length → (∀ ob, Q (.bl (decide (s = t))) ob) → Ends XC3 (L1 a b i) Q
  | [], t, i, h, h', hi, hq => by
    have := drop_nil h hi
    have : t = [] := by rw [← h', List.drop_eq_nil_of_le (by omega)]
    subst this
    exact Ends.steq (L1_eq ..) (Ends.ff (by simp; omega) (Ends.leaf (hq _)))
  | x :: s, t, i, h, h', hi, hq => by
    obtain ⟨h1, h2, h3⟩ := drop_cons (d := DL) h
    cases t with
    | nil => have := drop_nil h' (by omega); omega
    | cons y t =>
      obtain ⟨g1, g2, g3⟩ := drop_cons (d := DL) h'
      have h2' : a.getD i ([], false, [], []) = x := h2
      have g2' : b.getD i ([], false, [], []) = y := g2
      have hx := ha x (mem_drop h)
      have hy := hb y (mem_drop h')
      refine Ends.steq (L1_eq ..) (Ends.tt (by simp <;> omega) (Ends.tt (by simp <;> omega) (Ends.tt (by simp; omega) ?_)))
      simp only [Int.toNat_natCast, h2', g2']
      rw [wr ((i : Int) + 1) (by omega) (by omega)]
      refine Ends.tt (show (Sp.okS x && Sp.okS y) = true by rw [hx, hy]; rfl) (Ends.ite (fun c => Ends.leaf ?_) (fun c => ?_))
      · have c : ¬ x = y := by
          have : (!decide (x = y)) = true := c
          simpa using this
        have := hq []
        rw [decide_eq_false (by simp [c])] at this
        exact this
      · have c : x = y := by
          have : (!decide (x = y)) = false := c
          simpa using this
        refine L1_ends a b hl ha hb hlen s t (i + 1) h3 g3 h1 (fun ob => ?_)
        have := hq ob
        subst c
        have e : decide (x :: s = x :: t) = decide (s = t) := by by_cases e : s = t <;> simp [e]
        rw [e] at this; exact this
theorem ok : SpecOk C7p 71 cSameF := by
  refine spec7 (X := XC3) rfl hallXC3 (d := 9) (by kernel_rfl) (by kernel_rfl) (by kernel_rfl) (fun (i : List LineT × List LineT) hi => ?_) (isSome_ex (by kernel_rfl))
  obtain ⟨a, b⟩ := i
  have hi : (Sp.okF a && Sp.okF b) = true := hi
  rw [Bool.and_eq_true] at hi
  obtain ⟨a1, a2⟩ := okF_of hi.1
  obtain ⟨b1, b2⟩ := okF_of hi.2
  have sok : ∀ x : LineT, Sp.okLine x = true → Sp.okS x = true := fun x hx => decide_eq_true (okLine_of hx).2.1
  refine Ends.eq (T_eq a b) (Ends.ite (fun c => Ends.leaf (Gives.of rfl rfl ?_)) (fun c => ?_))
  · have c : a.length ≠ b.length := by simp at c; omega
    show false = decide (a = b)
    rw [decide_eq_false (fun e => c (by rw [e]))]
  · have c : a.length = b.length := by simp at c; omega
    exact L1_ends a b (by omega) (fun x hx => sok x (a2 x hx)) (fun x hx => sok x (b2 x hx)) c a b 0 rfl rfl (Nat.zero_le _) (fun ob => Gives.of rfl rfl rfl)
end T71
end Go.Pe
end
section
namespace Go.Pe
open Go.Det
namespace T192
noncomputable def T (n : Int) : Tr := tree XC1 false 9 192 (valsOf ([Sh.int IntKind.u64]) n)
theorem T_eq (n : Int) : T n = .ite (decide (n ≥ (4294967296 : Int)))
 (.ite (true)
  (.ite (decide (Int.fdiv n ((2 : Int) ^ (32 : Nat)) ≥ (65536 : Int)))
   (.ite (true)
    (.ite (decide (Int.fdiv (Int.fdiv n ((2 : Int) ^ (32 : Nat))) ((2 : Int) ^ (16 : Nat)) ≥ (256 : Int)))
     (.ite (true)
      (.ite (decide ((0 : Sh.T (Sh.int IntKind.u8)) ≤ IntKind.wrap IntKind.u8 (Int.fdiv (Int.fdiv (Int.fdiv n ((2 : Int) ^ (32 : Nat))) ((2 : Int) ^ (16 : Nat))) ((2 : Int) ^ (8 : Nat)))) && decide (IntKind.wrap IntKind.u8 (Int.fdiv (Int.fdiv (Int.fdiv n ((2 : Int) ^ (32 : Nat))) ((2 : Int) ^ (16 : Nat))) ((2 : Int) ^ (8 : Nat))) < (↑(256 : Nat) : Int)))
       (.leaf (PV.dat (Sh.int IntKind.i64) (IntKind.wrap IntKind.i64 (IntKind.wrap IntKind.i64 (IntKind.wrap IntKind.i64 ((32 : Int) + (16 : Int)) + (8 : Int)) + IntKind.wrap IntKind.i64 (↑(UInt8.toNat (List.getD [(0 : UInt8), (1 : UInt8), (2 : UInt8), (2 : UInt8), (3 : UInt8), (3 : UInt8), (3 : UInt8), (3 : UInt8), (4 : UInt8), (4 : UInt8), (4 : UInt8), (4 : UInt8), (4 : UInt8), (4 : UInt8), (4 : UInt8), (4 : UInt8), (5 : UInt8), (5 : UInt8), (5 : UInt8), (5 : UInt8), (5 : UInt8), (5 : UInt8), (5 : UInt8), (5 : UInt8), (5 : UInt8), (5 : UInt8), (5 : UInt8), (5 : UInt8), (5 : UInt8), (5 : UInt8), (5 : UInt8), (5 : UInt8), (6 : UInt8), (6 : UInt8), (6 : UInt8), (6 : UInt8), (6 : UInt8), (6 : UInt8), (6 : UInt8), (6 : UInt8), (6 : UInt8), (6 : UInt8), (6 : UInt8), (6 : UInt8), (6 : UInt8), (6 : UInt8), (6 : UInt8), (6 : UInt8), (6 : UInt8), (6 : UInt8), (6 : UInt8), (6 : UInt8), (6 : UInt8), (6 : UInt8), (6 : UInt8), (6 : UInt8), (6 : UInt8), (6 : UInt8), (6 : UInt8), (6 : UInt8), (6 : UInt8), (6 : UInt8), (6 : UInt8), (6 : UInt8), (7 : UInt8), (7 : UInt8), (7 : UInt8), (7 : UInt8), (7 : UInt8), (7 : UInt8), (7 : UInt8), (7 : UInt8), (7 : UInt8), (7 : UInt8), (7 : UInt8), (7 : UInt8), (7 : UInt8), (7 : UInt8), (7 : UInt8), (7 : UInt8), (7 : UInt8), (7 : UInt8), (7 : UInt8), (7 : UInt8), (7 : UInt8), (7 : UInt8), (7 : UInt8), (7 : UInt8), (7 : UInt8), (7 : UInt8), (7 : UInt8), (7 : UInt8), (7 : UInt8), (7 : UInt8), (7 : UInt8), (7 : UInt8), (7 : UInt8), (7 : UInt8), (7 : UInt8), (7 : UInt8), (7 : UInt8), (7 : UInt8), (7 : UInt8), (7 : UInt8), (7 : UInt8), (7 : UInt8), (7 : UInt8), (7 : UInt8), (7 : UInt8), (7 : UInt8), (7 : UInt8), (7 : UInt8), (7 : UInt8), (7 : UInt8), (7 : UInt8), (7 : UInt8), (7 : UInt8), (7 : UInt8), (7 : UInt8), (7 : UInt8), (7 : UInt8), (7 : UInt8), (7 : UInt8), (7 : UInt8), (7 : UInt8), (7 : UInt8), (7 : UInt8), (7 : UInt8), (8 : UInt8), (8 : UInt8), (8 : UInt8), (8 : UInt8), (8 : UInt8), (8 : UInt8), (8 : UInt8), (8 : UInt8), (8 : UInt8), (8 : UInt8), (8 : UInt8), (8 : UInt8), (8 : UInt8), (8 : UInt8), (8 : UInt8), (8 : UInt8), (8 : UInt8), (8 : UInt8), (8 : UInt8), (8 : UInt8), (8 : UInt8), (8 : UInt8), (8 : UInt8), (8 : UInt8), (8 : UInt8), (8 : UInt8), (8 : UInt8), (8 : UInt8), (8 : UInt8), (8 : UInt8), (8 : UInt8), (8 : UInt8), (8 : UInt8), (8 : UInt8), (8 : UInt8), (8 : UInt8), (8 : UInt8), (8 : UInt8), (8 : UInt8), (8 : UInt8), (8 : UInt8), (8 : UInt8), (8 : UInt8), (8 : UInt8), (8 : UInt8), (8 : UInt8), (8 : UInt8), (8 : UInt8), (8 : UInt8), (8 : UInt8), (8 : UInt8), (8 : UInt8), (8 : UInt8), (8 : UInt8), (8 : UInt8), (8 : UInt8), (8 : UInt8), (8 : UInt8), (8 : UInt8), (8 : UInt8), (8 : UInt8), (8 : UInt8), (8 : UInt8), (8 : UInt8), (8 : UInt8), (8 : UInt8), (8 : UInt8), (8 : UInt8), (8 : UInt8), (8 : UInt8), (8 : UInt8), (8 : UInt8), (8 : UInt8), (8 : UInt8), (8 : UInt8), (8 : UInt8), (8 : UInt8), (8 : UInt8), (8 : UInt8), (8 : UInt8), (8 : UInt8), (8 : UInt8), (8 : UInt8), (8 : UInt8), (8 : UInt8), (8 : UInt8), (8 : UInt8), (8 : UInt8), (8 : UInt8), (8 : UInt8), (8 : UInt8), (8 : UInt8), (8 : UInt8), (8 : UInt8), (8 : UInt8), (8 : UInt8), (8 : UInt8), (8 : UInt8), (8 : UInt8), (8 : UInt8), (8 : UInt8), (8 : UInt8), (8 : UInt8), (8 : UInt8), (8 : UInt8), (8 : UInt8), (8 : UInt8), (8 : UInt8), (8 : UInt8), (8 : UInt8), (8 : UInt8), (8 : UInt8), (8 : UInt8), (8 : UInt8), (8 : UInt8), (8 : UInt8), (8 : UInt8), (8 : UInt8), (8 : UInt8), (8 : UInt8), (8 : UInt8), (8 : UInt8), (8 : UInt8), (8 : UInt8), (8 : UInt8), (8 : UInt8), (8 : UInt8), (8 : UInt8)] (Int.toNat (IntKind.wrap IntKind.u8 (Int.fdiv (Int.fdiv (Int.fdiv n ((2 : Int) ^ (32 : Nat))) ((2 : Int) ^ (16 : Nat))) ((2 : Int) ^ (8 : Nat))))) (0 : UInt8))) : Int)))) ([]))
       (.fail))
      (.fail))
     (.ite (decide ((0 : Sh.T (Sh.int IntKind.u8)) ≤ IntKind.wrap IntKind.u8 (Int.fdiv (Int.fdiv n ((2 : Int) ^ (32 : Nat))) ((2 : Int) ^ (16 : Nat)))) && decide (IntKind.wrap IntKind.u8 (Int.fdiv (Int.fdiv n ((2 : Int) ^ (32 : Nat))) ((2 : Int) ^ (16 : Nat))) < (↑(256 : Nat) : Int)))
      (.leaf (PV.dat (Sh.int IntKind.i64) (IntKind.wrap IntKind.i64 (IntKind.wrap IntKind.i64 ((32 : Int) + (16 : Int)) + IntKind.wrap IntKind.i64 (↑(UInt8.toNat (List.getD [(0 : UInt8), (1 : UInt8), (2 : UInt8), (2 : UInt8), (3 : UInt8), (3 : UInt8), (3 : UInt8), (3 : UInt8), (4 : UInt8), (4 : UInt8), (4 : UInt8), (4 : UInt8), (4 : UInt8), (4 : UInt8), (4 : UInt8), (4 : UInt8), (5 : UInt8), (5 : UInt8), (5 : UInt8), (5 : UInt8), (5 : UInt8), (5 : UInt8), (5 : UInt8), (5 : UInt8), (5 : UInt8), (5 : UInt8), (5 : UInt8), (5 : UInt8), (5 : UInt8), (5 : UInt8), (5 : UInt8), (5 : UInt8), (6 : UInt8), (6 : UInt8), (6 : UInt8), (6 : UInt8), (6 : UInt8), (6 : UInt8), (6 : UInt8), (6 : UInt8), (6 : UInt8), (6 : UInt8), (6 : UInt8), (6 : UInt8), (6 : UInt8), (6 : UInt8), (6 : UInt8), (6 : UInt8), (6 : UInt8), (6 : UInt8), (6 : UInt8), (6 : UInt8), (6 : UInt8), (6 : UInt8), (6 : UInt8), (6 : UInt8), (6 : UInt8), (6 : UInt8), (6 : UInt8), (6 : UInt8), (6 : UInt8), (6 : UInt8), (6 : UInt8), (6 : UInt8), (7 : UInt8), (7 : UInt8), (7 : UInt8), (7 : UInt8), (7 : UInt8), (7 : UInt8), (7 : UInt8), (7 : UInt8), (7 : UInt8), (7 : UInt8), (7 : UInt8), (7 : UInt8), (7 : UInt8), (7 : UInt8), (7 : UInt8), (7 : UInt8), (7 : UInt8), (7 : UInt8), (7 : UInt8), (7 : UInt8), (7 : UInt8), (7 : UInt8), (7 : UInt8), (7 : UInt8), (7 : UInt8), (7 : UInt8), (7 : UInt8), (7 : UInt8), (7 : UInt8), (7 : UInt8), (7 : UInt8), (7 : UInt8), (7 : UInt8), (7 : UInt8), (7 : UInt8), (7 : UInt8), (7 : UInt8), (7 : UInt8), (7 : UInt8), (7 : UInt8), (7 : UInt8), (7 : UInt8), (7 : UInt8), (7 : UInt8), (7 : UInt8), (7 : UInt8), (7 : UInt8), (7 : UInt8), (7 : UInt8), (7 : UInt8), (7 : UInt8), (7 : UInt8), (7 : UInt8), (7 : UInt8), (7 : UInt8), (7 : UInt8), (7 : UInt8), (7 : UInt8), (7 : UInt8), (7 : UInt8), (7 : UInt8), (7 : UInt8), (7 : UInt8), (7 : UInt8), (8 : UInt8), (8 : UInt8), (8 : UInt8), (8 : UInt8), (8 : UInt8), (8 : UInt8), (8 : UInt8), (8 : UInt8), (8 : UInt8), (8 : UInt8), (8 : UInt8), (8 : UInt8), (8 : UInt8), (8 : UInt8), (8 : UInt8), (8 : UInt8), (8 : UInt8), (8 : UInt8), (8 : UInt8), (8 : UInt8), (8 : UInt8), (8 : UInt8), (8 : UInt8), (8 : UInt8), (8 : UInt8), (8 : UInt8), (8 : UInt8), (8 : UInt8), (8 : UInt8), (8 : UInt8), (8 : UInt8), (8 : UInt8), (8 : UInt8), (8 : UInt8), (8 : UInt8), (8 : UInt8), (8 : UInt8), (8 : UInt8), (8 : UInt8), (8 : UInt8), (8 : UInt8), (8 : UInt8), (8 : UInt8), (8 : UInt8), (8 : UInt8), (8 : UInt8), (8 : UInt8), (8 : UInt8), (8 : UInt8), (8 : UInt8), (8 : UInt8), (8 : UInt8), (8 : UInt8), (8 : UInt8), (8 : UInt8), (8 : UInt8), (8 : UInt8), (8 : UInt8), (8 : UInt8), (8 : UInt8), (8 : UInt8), (8 : UInt8), (8 : UInt8), (8 : UInt8), (8 : UInt8), (8 : UInt8), (8 : UInt8), (8 : UInt8), (8 : UInt8), (8 : UInt8), (8 : UInt8), (8 : UInt8), (8 : UInt8), (8 : UInt8), (8 : UInt8), (8 : UInt8), (8 : UInt8), (8 : UInt8), (8 : UInt8), (8 : UInt8), (8 : UInt8), (8 : UInt8), (8 : UInt8), (8 : UInt8), (8 : UInt8), (8 : UInt8), (8 : UInt8), (8 : UInt8), (8 : UInt8), (8 : UInt8), (8 : UInt8), (8 : UInt8), (8 : UInt8), (8 : UInt8), (8 : UInt8), (8 : UInt8), (8 : UInt8), (8 : UInt8), (8 : UInt8), (8 : UInt8), (8 : UInt8), (8 : UInt8), (8 : UInt8), (8 : UInt8), (8 : UInt8), (8 : UInt8), (8 : UInt8), (8 : UInt8), (8 : UInt8), (8 : UInt8), (8 : UInt8), (8 : UInt8), (8 : UInt8), (8 : UInt8), (8 : UInt8), (8 : UInt8), (8 : UInt8), (8 : UInt8), (8 : UInt8), (8 : UInt8), (8 : UInt8), (8 : UInt8), (8 : UInt8), (8 : UInt8), (8 : UInt8), (8 : UInt8), (8 : UInt8), (8 : UInt8)] (Int.toNat (IntKind.wrap IntKind.u8 (Int.fdiv (Int.fdiv n ((2 : Int) ^ (32 : Nat))) ((2 : Int) ^ (16 : Nat))))) (0 : UInt8))) : Int)))) ([]))
      (.fail)))
    (.fail))
   (.ite (decide (Int.fdiv n ((2 : Int) ^ (32 : Nat)) ≥ (256 : Int)))
    (.ite (true)
     (.ite (decide ((0 : Sh.T (Sh.int IntKind.u8)) ≤ IntKind.wrap IntKind.u8 (Int.fdiv (Int.fdiv n ((2 : Int) ^ (32 : Nat))) ((2 : Int) ^ (8 : Nat)))) && decide (IntKind.wrap IntKind.u8 (Int.fdiv (Int.fdiv n ((2 : Int) ^ (32 : Nat))) ((2 : Int) ^ (8 : Nat))) < (↑(256 : Nat) : Int)))
      (.leaf (PV.dat (Sh.int IntKind.i64) (IntKind.wrap IntKind.i64 (IntKind.wrap IntKind.i64 ((32 : Int) + (8 : Int)) + IntKind.wrap IntKind.i64 (↑(UInt8.toNat (List.getD [(0 : UInt8), (1 : UInt8), (2 : UInt8), (2 : UInt8), (3 : UInt8), (3 : UInt8), (3 : UInt8), (3 : UInt8), (4 : UInt8), (4 : UInt8), (4 : UInt8), (4 : UInt8), (4 : UInt8), (4 : UInt8), (4 : UInt8), (4 : UInt8), (5 : UInt8), (5 : UInt8), (5 : UInt8), (5 : UInt8), (5 : UInt8), (5 : UInt8), (5 : UInt8), (5 : UInt8), (5 : UInt8), (5 : UInt8), (5 : UInt8), (5 : UInt8), (5 : UInt8), (5 : UInt8), (5 : UInt8), (5 : UInt8), (6 : UInt8), (6 : UInt8), (6 : UInt8), (6 : UInt8), (6 : UInt8), (6 : UInt8), (6 : UInt8), (6 : UInt8), (6 : UInt8), (6 : UInt8), (6 : UInt8), (6 : UInt8), (6 : UInt8), (6 : UInt8), (6 : UInt8), (6 : UInt8), (6 : UInt8), (6 : UInt8), (6 : UInt8), (6 : UInt8), (6 : UInt8), (6 : UInt8), (6 : UInt8), (6 : UInt8), (6 : UInt8), (6 : UInt8), (6 : UInt8), (6 : UInt8), (6 : UInt8), (6 : UInt8), (6 : UInt8), (6 : UInt8), (7 : UInt8), (7 : UInt8), (7 : UInt8), (7 : UInt8), (7 : UInt8), (7 : UInt8), (7 : UInt8), (7 : UInt8), (7 : UInt8), (7 : UInt8), (7 : UInt8), (7 : UInt8), (7 : UInt8), (7 : UInt8), (7 : UInt8), (7 : UInt8), (7 : UInt8), (7 : UInt8), (7 : UInt8), (7 : UInt8), (7 : UInt8), (7 : UInt8), (7 : UInt8), (7 : UInt8), (7 : UInt8), (7 : UInt8), (7 : UInt8), (7 : UInt8), (7 : UInt8), (7 : UInt8), (7 : UInt8), (7 : UInt8), (7 : UInt8), (7 : UInt8), (7 : UInt8), (7 : UInt8), (7 : UInt8), (7 : UInt8), (7 : UInt8), (7 : UInt8), (7 : UInt8), (7 : UInt8), (7 : UInt8), (7 : UInt8), (7 : UInt8), (7 : UInt8), (7 : UInt8), (7 : UInt8), (7 : UInt8), (7 : UInt8), (7 : UInt8), (7 : UInt8), (7 : UInt8), (7 : UInt8), (7 : UInt8), (7 : UInt8), (7 : UInt8), (7 : UInt8), (7 : UInt8), (7 : UInt8), (7 : UInt8), (7 : UInt8), (7 : UInt8), (7 : UInt8), (8 : UInt8), (8 : UInt8), (8 : UInt8), (8 : UInt8), (8 : UInt8), (8 : UInt8), (8 : UInt8), (8 : UInt8), (8 : UInt8), (8 : UInt8), (8 : UInt8), (8 : UInt8), (8 : UInt8), (8 : UInt8), (8 : UInt8), (8 : UInt8), (8 : UInt8), (8 : UInt8), (8 : UInt8), (8 : UInt8), (8 : UInt8), (8 : UInt8), (8 : UInt8), (8 : UInt8), (8 : UInt8), (8 : UInt8), (8 : UInt8), (8 : UInt8), (8 : UInt8), (8 : UInt8), (8 : UInt8), (8 : UInt8), (8 : UInt8), (8 : UInt8), (8 : UInt8), (8 : UInt8), (8 : UInt8), (8 : UInt8), (8 : UInt8), (8 : UInt8), (8 : UInt8), (8 : UInt8), (8 : UInt8), (8 : UInt8), (8 : UInt8), (8 : UInt8), (8 : UInt8), (8 : UInt8), (8 : UInt8), (8 : UInt8), (8 : UInt8), (8 : UInt8), (8 : UInt8), (8 : UInt8), (8 : UInt8), (8 : UInt8), (8 : UInt8), (8 : UInt8), (8 : UInt8), (8 : UInt8), (8 : UInt8), (8 : UInt8), (8 : UInt8), (8 : UInt8), (8 : UInt8), (8 : UInt8), (8 : UInt8), (8 : UInt8), (8 : UInt8), (8 : UInt8), (8 : UInt8), (8 : UInt8), (8 : UInt8), (8 : UInt8), (8 : UInt8), (8 : UInt8), (8 : UInt8), (8 : UInt8), (8 : UInt8), (8 : UInt8), (8 : UInt8), (8 : UInt8), (8 : UInt8), (8 : UInt8), (8 : UInt8), (8 : UInt8), (8 : UInt8), (8 : UInt8), (8 : UInt8), (8 : UInt8), (8 : UInt8), (8 : UInt8), (8 : UInt8), (8 : UInt8), (8 : UInt8), (8 : UInt8), (8 : UInt8), (8 : UInt8), (8 : UInt8), (8 : UInt8), (8 : UInt8), (8 : UInt8), (8 : UInt8), (8 : UInt8), (8 : UInt8), (8 : UInt8), (8 : UInt8), (8 : UInt8), (8 : UInt8), (8 : UInt8), (8 : UInt8), (8 : UInt8), (8 : UInt8), (8 : UInt8), (8 : UInt8), (8 : UInt8), (8 : UInt8), (8 : UInt8), (8 : UInt8), (8 : UInt8), (8 : UInt8), (8 : UInt8), (8 : UInt8), (8 : UInt8), (8 : UInt8), (8 : UInt8), (8 : UInt8), (8 : UInt8)] (Int.toNat (IntKind.wrap IntKind.u8 (Int.fdiv (Int.fdiv n ((2 : Int) ^ (32 : Nat))) ((2 : Int) ^ (8 : Nat))))) (0 : UInt8))) : Int)))) ([]))
      (.fail))
     (.fail))
    (.ite (decide ((0 : Sh.T (Sh.int IntKind.u8)) ≤ IntKind.wrap IntKind.u8 (Int.fdiv n ((2 : Int) ^ (32 : Nat)))) && decide (IntKind.wrap IntKind.u8 (Int.fdiv n ((2 : Int) ^ (32 : Nat))) < (↑(256 : Nat) : Int)))
     (.leaf (PV.dat (Sh.int IntKind.i64) (IntKind.wrap IntKind.i64 ((32 : Int) + IntKind.wrap IntKind.i64 (↑(UInt8.toNat (List.getD [(0 : UInt8), (1 : UInt8), (2 : UInt8), (2 : UInt8), (3 : UInt8), (3 : UInt8), (3 : UInt8), (3 : UInt8), (4 : UInt8), (4 : UInt8), (4 : UInt8), (4 : UInt8), (4 : UInt8), (4 : UInt8), (4 : UInt8), (4 : UInt8), (5 : UInt8), (5 : UInt8), (5 : UInt8), (5 : UInt8), (5 : UInt8), (5 : UInt8), (5 : UInt8), (5 : UInt8), (5 : UInt8), (5 : UInt8), (5 : UInt8), (5 : UInt8), (5 : UInt8), (5 : UInt8), (5 : UInt8), (5 : UInt8), (6 : UInt8), (6 : UInt8), (6 : UInt8), (6 : UInt8), (6 : UInt8), (6 : UInt8), (6 : UInt8), (6 : UInt8), (6 : UInt8), (6 : UInt8), (6 : UInt8), (6 : UInt8), (6 : UInt8), (6 : UInt8), (6 : UInt8), (6 : UInt8), (6 : UInt8), (6 : UInt8), (6 : UInt8), (6 : UInt8), (6 : UInt8), (6 : UInt8), (6 : UInt8), (6 : UInt8), (6 : UInt8), (6 : UInt8), (6 : UInt8), (6 : UInt8), (6 : UInt8), (6 : UInt8), (6 : UInt8), (6 : UInt8), (7 : UInt8), (7 : UInt8), (7 : UInt8), (7 : UInt8), (7 : UInt8), (7 : UInt8), (7 : UInt8), (7 : UInt8), (7 : UInt8), (7 : UInt8), (7 : UInt8), (7 : UInt8), (7 : UInt8), (7 : UInt8), (7 : UInt8), (7 : UInt8), (7 : UInt8), (7 : UInt8), (7 : UInt8), (7 : UInt8), (7 : UInt8), (7 : UInt8), (7 : UInt8), (7 : UInt8), (7 : UInt8), (7 : UInt8), (7 : UInt8), (7 : UInt8), (7 : UInt8), (7 : UInt8), (7 : UInt8), (7 : UInt8), (7 : UInt8), (7 : UInt8), (7 : UInt8), (7 : UInt8), (7 : UInt8), (7 : UInt8), (7 : UInt8), (7 : UInt8), (7 : UInt8), (7 : UInt8), (7 : UInt8), (7 : UInt8), (7 : UInt8), (7 : UInt8), (7 : UInt8), (7 : UInt8), (7 : UInt8), (7 : UInt8), (7 : UInt8), (7 : UInt8), (7 : UInt8), (7 : UInt8), (7 : UInt8), (7 : UInt8), (7 : UInt8), (7 : UInt8), (7 : UInt8), (7 : UInt8), (7 : UInt8), (7 : UInt8), (7 : UInt8), (7 : UInt8), (8 : UInt8), (8 : UInt8), (8 : UInt8), (8 : UInt8), (8 : UInt8), (8 : UInt8), (8 : UInt8), (8 : UInt8), (8 : UInt8), (8 : UInt8), (8 : UInt8), (8 : UInt8), (8 : UInt8), (8 : UInt8), (8 : UInt8), (8 : UInt8), (8 : UInt8), (8 : UInt8), (8 : UInt8), (8 : UInt8), (8 : UInt8), (8 : UInt8), (8 : UInt8), (8 : UInt8), (8 : UInt8), (8 : UInt8), (8 : UInt8), (8 : UInt8), (8 : UInt8), (8 : UInt8), (8 : UInt8), (8 : UInt8), (8 : UInt8), (8 : UInt8), (8 : UInt8), (8 : UInt8), (8 : UInt8), (8 : UInt8), (8 : UInt8), (8 : UInt8), (8 : UInt8), (8 : UInt8), (8 : UInt8), (8 : UInt8), (8 : UInt8), (8 : UInt8), (8 : UInt8), (8 : UInt8), (8 : UInt8), (8 : UInt8), (8 : UInt8), (8 : UInt8), (8 : UInt8), (8 : UInt8), (8 : UInt8), (8 : UInt8), (8 : UInt8), (8 : UInt8), (8 : UInt8), (8 : UInt8), (8 : UInt8), (8 : UInt8), (8 : UInt8), (8 : UInt8), (8 : UInt8), (8 : UInt8), (8 : UInt8), (8 : UInt8), (8 : UInt8), (8 : UInt8), (8 : UInt8), (8 : UInt8), (8 : UInt8), (8 : UInt8), (8 : UInt8), (8 : UInt8), (8 : UInt8), (8 : UInt8), (8 : UInt8), (8 : UInt8), (8 : UInt8), (8 : UInt8), (8 : UInt8), (8 : UInt8), (8 : UInt8), (8 : UInt8), (8 : UInt8), (8 : UInt8), (8 : UInt8), (8 : UInt8), (8 : UInt8), (8 : UInt8), (8 : UInt8), (8 : UInt8), (8 : UInt8), (8 : UInt8), (8 : UInt8), (8 : UInt8), (8 : UInt8), (8 : UInt8), (8 : UInt8), (8 : UInt8), (8 : UInt8), (8 : UInt8), (8 : UInt8), (8 : UInt8), (8 : UInt8), (8 : UInt8), (8 : UInt8), (8 : UInt8), (8 : UInt8), (8 : UInt8), (8 : UInt8), (8 : UInt8), (8 : UInt8), (8 : UInt8), (8 : UInt8), (8 : UInt8), (8 : UInt8), (8 : UInt8), (8 : UInt8), (8 : UInt8), (8 : UInt8), (8 : UInt8), (8 : UInt8), (8 : UInt8), (8 : UInt8), (8 : UInt8)] (Int.toNat (IntKind.wrap IntKind.u8 (Int.fdiv n ((2 : Int) ^ (32 : Nat))))) (0 : UInt8))) : Int)))) ([]))
     (.fail))))
  (.fail))
 (.ite (decide (n ≥ (65536 : Int)))
  (.ite (true)
   (.ite (decide (Int.fdiv n ((2 : Int) ^ (16 : Nat)) ≥ (256 : Int)))
    (.ite (true)
     (.ite (decide ((0 : Sh.T (Sh.int IntKind.u8)) ≤ IntKind.wrap IntKind.u8 (Int.fdiv (Int.fdiv n ((2 : Int) ^ (16 : Nat))) ((2 : Int) ^ (8 : Nat)))) && decide (IntKind.wrap IntKind.u8 (Int.fdiv (Int.fdiv n ((2 : Int) ^ (16 : Nat))) ((2 : Int) ^ (8 : Nat))) < (↑(256 : Nat) : Int)))
      (.leaf (PV.dat (Sh.int IntKind.i64) (IntKind.wrap IntKind.i64 (IntKind.wrap IntKind.i64 (IntKind.wrap IntKind.i64 ((0 : Int) + (16 : Int)) + (8 : Int)) + IntKind.wrap IntKind.i64 (↑(UInt8.toNat (List.getD [(0 : UInt8), (1 : UInt8), (2 : UInt8), (2 : UInt8), (3 : UInt8), (3 : UInt8), (3 : UInt8), (3 : UInt8), (4 : UInt8), (4 : UInt8), (4 : UInt8), (4 : UInt8), (4 : UInt8), (4 : UInt8), (4 : UInt8), (4 : UInt8), (5 : UInt8), (5 : UInt8), (5 : UInt8), (5 : UInt8), (5 : UInt8), (5 : UInt8), (5 : UInt8), (5 : UInt8), (5 : UInt8), (5 : UInt8), (5 : UInt8), (5 : UInt8), (5 : UInt8), (5 : UInt8), (5 : UInt8), (5 : UInt8), (6 : UInt8), (6 : UInt8), (6 : UInt8), (6 : UInt8), (6 : UInt8), (6 : UInt8), (6 : UInt8), (6 : UInt8), (6 : UInt8), (6 : UInt8), (6 : UInt8), (6 : UInt8), (6 : UInt8), (6 : UInt8), (6 : UInt8), (6 : UInt8), (6 : UInt8), (6 : UInt8), (6 : UInt8), (6 : UInt8), (6 : UInt8), (6 : UInt8), (6 : UInt8), (6 : UInt8), (6 : UInt8), (6 : UInt8), (6 : UInt8), (6 : UInt8), (6 : UInt8), (6 : UInt8), (6 : UInt8), (6 : UInt8), (7 : UInt8), (7 : UInt8), (7 : UInt8), (7 : UInt8), (7 : UInt8), (7 : UInt8), (7 : UInt8), (7 : UInt8), (7 : UInt8), (7 : UInt8), (7 : UInt8), (7 : UInt8), (7 : UInt8), (7 : UInt8), (7 : UInt8), (7 : UInt8), (7 : UInt8), (7 : UInt8), (7 : UInt8), (7 : UInt8), (7 : UInt8), (7 : UInt8), (7 : UInt8), (7 : UInt8), (7 : UInt8), (7 : UInt8), (7 : UInt8), (7 : UInt8), (7 : UInt8), (7 : UInt8), (7 : UInt8), (7 : UInt8), (7 : UInt8), (7 : UInt8), (7 : UInt8), (7 : UInt8), (7 : UInt8), (7 : UInt8), (7 : UInt8), (7 : UInt8), (7 : UInt8), (7 : UInt8), (7 : UInt8), (7 : UInt8), (7 : UInt8), (7 : UInt8), (7 : UInt8), (7 : UInt8), (7 : UInt8), (7 : UInt8), (7 : UInt8), (7 : UInt8), (7 : UInt8), (7 : UInt8), (7 : UInt8), (7 : UInt8), (7 : UInt8), (7 : UInt8), (7 : UInt8), (7 : UInt8), (7 : UInt8), (7 : UInt8), (7 : UInt8), (7 : UInt8), (8 : UInt8), (8 : UInt8), (8 : UInt8), (8 : UInt8), (8 : UInt8), (8 : UInt8), (8 : UInt8), (8 : UInt8), (8 : UInt8), (8 : UInt8), (8 : UInt8), (8 : UInt8), (8 : UInt8), (8 : UInt8), (8 : UInt8), (8 : UInt8), (8 : UInt8), (8 : UInt8), (8 : UInt8), (8 : UInt8), (8 : UInt8), (8 : UInt8), (8 : UInt8), (8 : UInt8), (8 : UInt8), (8 : UInt8), (8 : UInt8), (8 : UInt8), (8 : UInt8), (8 : UInt8), (8 : UInt8), (8 : UInt8), (8 : UInt8), (8 : UInt8), (8 : UInt8), (8 : UInt8), (8 : UInt8), (8 : UInt8), (8 : UInt8), (8 : UInt8), (8 : UInt8), (8 : UInt8), (8 : UInt8), (8 : UInt8), (8 : UInt8), (8 : UInt8), (8 : UInt8), (8 : UInt8), (8 : UInt8), (8 : UInt8), (8 : UInt8), (8 : UInt8), (8 : UInt8), (8 : UInt8), (8 : UInt8), (8 : UInt8), (8 : UInt8), (8 : UInt8), (8 : UInt8), (8 : UInt8), (8 : UInt8), (8 : UInt8), (8 : UInt8), (8 : UInt8), (8 : UInt8), (8 : UInt8), (8 : UInt8), (8 : UInt8), (8 : UInt8), (8 : UInt8), (8 : UInt8), (8 : UInt8), (8 : UInt8), (8 : UInt8), (8 : UInt8), (8 : UInt8), (8 : UInt8), (8 : UInt8), (8 : UInt8), (8 : UInt8), (8 : UInt8), (8 : UInt8), (8 : UInt8), (8 : UInt8), (8 : UInt8), (8 : UInt8), (8 : UInt8), (8 : UInt8), (8 : UInt8), (8 : UInt8), (8 : UInt8), (8 : UInt8), (8 : UInt8), (8 : UInt8), (8 : UInt8), (8 : UInt8), (8 : UInt8), (8 : UInt8), (8 : UInt8), (8 : UInt8), (8 : UInt8), (8 : UInt8), (8 : UInt8), (8 : UInt8), (8 : UInt8), (8 : UInt8), (8 : UInt8), (8 : UInt8), (8 : UInt8), (8 : UInt8), (8 : UInt8), (8 : UInt8), (8 : UInt8), (8 : UInt8), (8 : UInt8), (8 : UInt8), (8 : UInt8), (8 : UInt8), (8 : UInt8), (8 : UInt8), (8 : UInt8), (8 : UInt8), (8 : UInt8), (8 : UInt8), (8 : UInt8), (8 : UInt8), (8 : UInt8), (8 : UInt8)] (Int.toNat (IntKind.wrap IntKind.u8 (Int.fdiv (Int.fdiv n ((2 : Int) ^ (16 : Nat))) ((2 : Int) ^ (8 : Nat))))) (0 : UInt8))) : Int)))) ([]))
      (.fail))
     (.fail))
    (.ite (decide ((0 : Sh.T (Sh.int IntKind.u8)) ≤ IntKind.wrap IntKind.u8 (Int.fdiv n ((2 : Int) ^ (16 : Nat)))) && decide (IntKind.wrap IntKind.u8 (Int.fdiv n ((2 : Int) ^ (16 : Nat))) < (↑(256 : Nat) : Int)))
     (.leaf (PV.dat (Sh.int IntKind.i64) (IntKind.wrap IntKind.i64 (IntKind.wrap IntKind.i64 ((0 : Int) + (16 : Int)) + IntKind.wrap IntKind.i64 (↑(UInt8.toNat (List.getD [(0 : UInt8), (1 : UInt8), (2 : UInt8), (2 : UInt8), (3 : UInt8), (3 : UInt8), (3 : UInt8), (3 : UInt8), (4 : UInt8), (4 : UInt8), (4 : UInt8), (4 : UInt8), (4 : UInt8), (4 : UInt8), (4 : UInt8), (4 : UInt8), (5 : UInt8), (5 : UInt8), (5 : UInt8), (5 : UInt8), (5 : UInt8), (5 : UInt8), (5 : UInt8), (5 : UInt8), (5 : UInt8), (5 : UInt8), (5 : UInt8), (5 : UInt8), (5 : UInt8), (5 : UInt8), (5 : UInt8), (5 : UInt8), (6 : UInt8), (6 : UInt8), (6 : UInt8), (6 : UInt8), (6 : UInt8), (6 : UInt8), (6 : UInt8), (6 : UInt8), (6 : UInt8), (6 : UInt8), (6 : UInt8), (6 : UInt8), (6 : UInt8), (6 : UInt8), (6 : UInt8), (6 : UInt8), (6 : UInt8), (6 : UInt8), (6 : UInt8), (6 : UInt8), (6 : UInt8), (6 : UInt8), (6 : UInt8), (6 : UInt8), (6 : UInt8), (6 : UInt8), (6 : UInt8), (6 : UInt8), (6 : UInt8), (6 : UInt8), (6 : UInt8), (6 : UInt8), (7 : UInt8), (7 : UInt8), (7 : UInt8), (7 : UInt8), (7 : UInt8), (7 : UInt8), (7 : UInt8), (7 : UInt8), (7 : UInt8), (7 : UInt8), (7 : UInt8), (7 : UInt8), (7 : UInt8), (7 : UInt8), (7 : UInt8), (7 : UInt8), (7 : UInt8), (7 : UInt8), (7 : UInt8), (7 : UInt8), (7 : UInt8), (7 : UInt8), (7 : UInt8), (7 : UInt8), (7 : UInt8), (7 : UInt8), (7 : UInt8), (7 : UInt8), (7 : UInt8), (7 : UInt8), (7 : UInt8), (7 : UInt8), (7 : UInt8), (7 : UInt8), (7 : UInt8), (7 : UInt8), (7 : UInt8), (7 : UInt8), (7 : UInt8), (7 : UInt8), (7 : UInt8), (7 : UInt8), (7 : UInt8), (7 : UInt8), (7 : UInt8), (7 : UInt8), (7 : UInt8), (7 : UInt8), (7 : UInt8), (7 : UInt8), (7 : UInt8), (7 : UInt8), (7 : UInt8), (7 : UInt8), (7 : UInt8), (7 : UInt8), (7 : UInt8), (7 : UInt8), (7 : UInt8), (7 : UInt8), (7 : UInt8), (7 : UInt8), (7 : UInt8), (7 : UInt8), (8 : UInt8), (8 : UInt8), (8 : UInt8), (8 : UInt8), (8 : UInt8), (8 : UInt8), (8 : UInt8), (8 : UInt8), (8 : UInt8), (8 : UInt8), (8 : UInt8), (8 : UInt8), (8 : UInt8), (8 : UInt8), (8 : UInt8), (8 : UInt8), (8 : UInt8), (8 : UInt8), (8 : UInt8), (8 : UInt8), (8 : UInt8), (8 : UInt8), (8 : UInt8), (8 : UInt8), (8 : UInt8), (8 : UInt8), (8 : UInt8), (8 : UInt8), (8 : UInt8), (8 : UInt8), (8 : UInt8), (8 : UInt8), (8 : UInt8), (8 : UInt8), (8 : UInt8), (8 : UInt8), (8 : UInt8), (8 : UInt8), (8 : UInt8), (8 : UInt8), (8 : UInt8), (8 : UInt8), (8 : UInt8), (8 : UInt8), (8 : UInt8), (8 : UInt8), (8 : UInt8), (8 : UInt8), (8 : UInt8), (8 : UInt8), (8 : UInt8), (8 : UInt8), (8 : UInt8), (8 : UInt8), (8 : UInt8), (8 : UInt8), (8 : UInt8), (8 : UInt8), (8 : UInt8), (8 : UInt8), (8 : UInt8), (8 : UInt8), (8 : UInt8), (8 : UInt8), (8 : UInt8), (8 : UInt8), (8 : UInt8), (8 : UInt8), (8 : UInt8), (8 : UInt8), (8 : UInt8), (8 : UInt8), (8 : UInt8), (8 : UInt8), (8 : UInt8), (8 : UInt8), (8 : UInt8), (8 : UInt8), (8 : UInt8), (8 : UInt8), (8 : UInt8), (8 : UInt8), (8 : UInt8), (8 : UInt8), (8 : UInt8), (8 : UInt8), (8 : UInt8), (8 : UInt8), (8 : UInt8), (8 : UInt8), (8 : UInt8), (8 : UInt8), (8 : UInt8), (8 : UInt8), (8 : UInt8), (8 : UInt8), (8 : UInt8), (8 : UInt8), (8 : UInt8), (8 : UInt8), (8 : UInt8), (8 : UInt8), (8 : UInt8), (8 : UInt8), (8 : UInt8), (8 : UInt8), (8 : UInt8), (8 : UInt8), (8 : UInt8), (8 : UInt8), (8 : UInt8), (8 : UInt8), (8 : UInt8), (8 : UInt8), (8 : UInt8), (8 : UInt8), (8 : UInt8), (8 : UInt8), (8 : UInt8), (8 : UInt8), (8 : UInt8), (8 : UInt8), (8 : UInt8), (8 : UInt8), (8 : UInt8), (8 : UInt8), (8 : UInt8), (8 : UInt8)] (Int.toNat (IntKind.wrap IntKind.u8 (Int.fdiv n ((2 : Int) ^ (16 : Nat))))) (0 : UInt8))) : Int)))) ([]))
     (.fail)))
   (.fail))
  (.ite (decide (n ≥ (256 : Int)))
   (.ite (true)
    (.ite (decide ((0 : Sh.T (Sh.int IntKind.u8)) ≤ IntKind.wrap IntKind.u8 (Int.fdiv n ((2 : Int) ^ (8 : Nat)))) && decide (IntKind.wrap IntKind.u8 (Int.fdiv n ((2 : Int) ^ (8 : Nat))) < (↑(256 : Nat) : Int)))
     (.leaf (PV.dat (Sh.int IntKind.i64) (IntKind.wrap IntKind.i64 (IntKind.wrap IntKind.i64 ((0 : Int) + (8 : Int)) + IntKind.wrap IntKind.i64 (↑(UInt8.toNat (List.getD [(0 : UInt8), (1 : UInt8), (2 : UInt8), (2 : UInt8), (3 : UInt8), (3 : UInt8), (3 : UInt8), (3 : UInt8), (4 : UInt8), (4 : UInt8), (4 : UInt8), (4 : UInt8), (4 : UInt8), (4 : UInt8), (4 : UInt8), (4 : UInt8), (5 : UInt8), (5 : UInt8), (5 : UInt8), (5 : UInt8), (5 : UInt8), (5 : UInt8), (5 : UInt8), (5 : UInt8), (5 : UInt8), (5 : UInt8), (5 : UInt8), (5 : UInt8), (5 : UInt8), (5 : UInt8), (5 : UInt8), (5 : UInt8), (6 : UInt8), (6 : UInt8), (6 : UInt8), (6 : UInt8), (6 : UInt8), (6 : UInt8), (6 : UInt8), (6 : UInt8), (6 : UInt8), (6 : UInt8), (6 : UInt8), (6 : UInt8), (6 : UInt8), (6 : UInt8), (6 : UInt8), (6 : UInt8), (6 : UInt8), (6 : UInt8), (6 : UInt8), (6 : UInt8), (6 : UInt8), (6 : UInt8), (6 : UInt8), (6 : UInt8), (6 : UInt8), (6 : UInt8), (6 : UInt8), (6 : UInt8), (6 : UInt8), (6 : UInt8), (6 : UInt8), (6 : UInt8), (7 : UInt8), (7 : UInt8), (7 : UInt8), (7 : UInt8), (7 : UInt8), (7 : UInt8), (7 : UInt8), (7 : UInt8), (7 : UInt8), (7 : UInt8), (7 : UInt8), (7 : UInt8), (7 : UInt8), (7 : UInt8), (7 : UInt8), (7 : UInt8), (7 : UInt8), (7 : UInt8), (7 : UInt8), (7 : UInt8), (7 : UInt8), (7 : UInt8), (7 : UInt8), (7 : UInt8), (7 : UInt8), (7 : UInt8), (7 : UInt8), (7 : UInt8), (7 : UInt8), (7 : UInt8), (7 : UInt8), (7 : UInt8), (7 : UInt8), (7 : UInt8), (7 : UInt8), (7 : UInt8), (7 : UInt8), (7 : UInt8), (7 : UInt8), (7 : UInt8), (7 : UInt8), (7 : UInt8), (7 : UInt8), (7 : UInt8), (7 : UInt8), (7 : UInt8), (7 : UInt8), (7 : UInt8), (7 : UInt8), (7 : UInt8), (7 : UInt8), (7 : UInt8), (7 : UInt8), (7 : UInt8), (7 : UInt8), (7 : UInt8), (7 : UInt8), (7 : UInt8), (7 : UInt8), (7 : UInt8), (7 : UInt8), (7 : UInt8), (7 : UInt8), (7 : UInt8), (8 : UInt8), (8 : UInt8), (8 : UInt8), (8 : UInt8), (8 : UInt8), (8 : UInt8), (8 : UInt8), (8 : UInt8), (8 : UInt8), (8 : UInt8), (8 : UInt8), (8 : UInt8), (8 : UInt8), (8 : UInt8), (8 : UInt8), (8 : UInt8), (8 : UInt8), (8 : UInt8), (8 : UInt8), (8 : UInt8), (8 : UInt8), (8 : UInt8), (8 : UInt8), (8 : UInt8), (8 : UInt8), (8 : UInt8), (8 : UInt8), (8 : UInt8), (8 : UInt8), (8 : UInt8), (8 : UInt8), (8 : UInt8), (8 : UInt8), (8 : UInt8), (8 : UInt8), (8 : UInt8), (8 : UInt8), (8 : UInt8), (8 : UInt8), (8 : UInt8), (8 : UInt8), (8 : UInt8), (8 : UInt8), (8 : UInt8), (8 : UInt8), (8 : UInt8), (8 : UInt8), (8 : UInt8), (8 : UInt8), (8 : UInt8), (8 : UInt8), (8 : UInt8), (8 : UInt8), (8 : UInt8), (8 : UInt8), (8 : UInt8), (8 : UInt8), (8 : UInt8), (8 : UInt8), (8 : UInt8), (8 : UInt8), (8 : UInt8), (8 : UInt8), (8 : UInt8), (8 : UInt8), (8 : UInt8), (8 : UInt8), (8 : UInt8), (8 : UInt8), (8 : UInt8), (8 : UInt8), (8 : UInt8), (8 : UInt8), (8 : UInt8), (8 : UInt8), (8 : UInt8), (8 : UInt8), (8 : UInt8), (8 : UInt8), (8 : UInt8), (8 : UInt8), (8 : UInt8), (8 : UInt8), (8 : UInt8), (8 : UInt8), (8 : UInt8), (8 : UInt8), (8 : UInt8), (8 : UInt8), (8 : UInt8), (8 : UInt8), (8 : UInt8), (8 : UInt8), (8 : UInt8), (8 : UInt8), (8 : UInt8), (8 : UInt8), (8 : UInt8), (8 : UInt8), (8 : UInt8), (8 : UInt8), (8 : UInt8), (8 : UInt8), (8 : UInt8), (8 : UInt8), (8 : UInt8), (8 : UInt8), (8 : UInt8), (8 : UInt8), (8 : UInt8), (8 : UInt8), (8 : UInt8), (8 : UInt8), (8 : UInt8), (8 : UInt8), (8 : UInt8), (8 : UInt8), (8 : UInt8), (8 : UInt8), (8 : UInt8), (8 : UInt8), (8 : UInt8), (8 : UInt8), (8 : UInt8), (8 : UInt8), (8 : UInt8), (8 : UInt8), (8 : UInt8)] (Int.toNat (IntKind.wrap IntKind.u8 (Int.fdiv n ((2 : Int) ^ (8 : Nat))))) (0 : UInt8))) : Int)))) ([]))
     (.fail))
    (.fail))
   (.ite (decide ((0 : Sh.T (Sh.int IntKind.u8)) ≤ IntKind.wrap IntKind.u8 n) && decide (IntKind.wrap IntKind.u8 n < (↑(256 : Nat) : Int)))
    (.leaf (PV.dat (Sh.int IntKind.i64) (IntKind.wrap IntKind.i64 ((0 : Int) + IntKind.wrap IntKind.i64 (↑(UInt8.toNat (List.getD [(0 : UInt8), (1 : UInt8), (2 : UInt8), (2 : UInt8), (3 : UInt8), (3 : UInt8), (3 : UInt8), (3 : UInt8), (4 : UInt8), (4 : UInt8), (4 : UInt8), (4 : UInt8), (4 : UInt8), (4 : UInt8), (4 : UInt8), (4 : UInt8), (5 : UInt8), (5 : UInt8), (5 : UInt8), (5 : UInt8), (5 : UInt8), (5 : UInt8), (5 : UInt8), (5 : UInt8), (5 : UInt8), (5 : UInt8), (5 : UInt8), (5 : UInt8), (5 : UInt8), (5 : UInt8), (5 : UInt8), (5 : UInt8), (6 : UInt8), (6 : UInt8), (6 : UInt8), (6 : UInt8), (6 : UInt8), (6 : UInt8), (6 : UInt8), (6 : UInt8), (6 : UInt8), (6 : UInt8), (6 : UInt8), (6 : UInt8), (6 : UInt8), (6 : UInt8), (6 : UInt8), (6 : UInt8), (6 : UInt8), (6 : UInt8), (6 : UInt8), (6 : UInt8), (6 : UInt8), (6 : UInt8), (6 : UInt8), (6 : UInt8), (6 : UInt8), (6 : UInt8), (6 : UInt8), (6 : UInt8), (6 : UInt8), (6 : UInt8), (6 : UInt8), (6 : UInt8), (7 : UInt8), (7 : UInt8), (7 : UInt8), (7 : UInt8), (7 : UInt8), (7 : UInt8), (7 : UInt8), (7 : UInt8), (7 : UInt8), (7 : UInt8), (7 : UInt8), (7 : UInt8), (7 : UInt8), (7 : UInt8), (7 : UInt8), (7 : UInt8), (7 : UInt8), (7 : UInt8), (7 : UInt8), (7 : UInt8), (7 : UInt8), (7 : UInt8), (7 : UInt8), (7 : UInt8), (7 : UInt8), (7 : UInt8), (7 : UInt8), (7 : UInt8), (7 : UInt8), (7 : UInt8), (7 : UInt8), (7 : UInt8), (7 : UInt8), (7 : UInt8), (7 : UInt8), (7 : UInt8), (7 : UInt8), (7 : UInt8), (7 : UInt8), (7 : UInt8), (7 : UInt8), (7 : UInt8), (7 : UInt8), (7 : UInt8), (7 : UInt8), (7 : UInt8), (7 : UInt8), (7 : UInt8), (7 : UInt8), (7 : UInt8), (7 : UInt8), (7 : UInt8), (7 : UInt8), (7 : UInt8), (7 : UInt8), (7 : UInt8), (7 : UInt8), (7 : UInt8), (7 : UInt8), (7 : UInt8), (7 : UInt8), (7 : UInt8), (7 : UInt8), (7 : UInt8), (8 : UInt8), (8 : UInt8), (8 : UInt8), (8 : UInt8), (8 : UInt8), (8 : UInt8), (8 : UInt8), (8 : UInt8), (8 : UInt8), (8 : UInt8), (8 : UInt8), (8 : UInt8), (8 : UInt8), (8 : UInt8), (8 : UInt8), (8 : UInt8), (8 : UInt8), (8 : UInt8), (8 : UInt8), (8 : UInt8), (8 : UInt8), (8 : UInt8), (8 : UInt8), (8 : UInt8), (8 : UInt8), (8 : UInt8), (8 : UInt8), (8 : UInt8), (8 : UInt8), (8 : UInt8), (8 : UInt8), (8 : UInt8), (8 : UInt8), (8 : UInt8), (8 : UInt8), (8 : UInt8), (8 : UInt8), (8 : UInt8), (8 : UInt8), (8 : UInt8), (8 : UInt8), (8 : UInt8), (8 : UInt8), (8 : UInt8), (8 : UInt8), (8 : UInt8), (8 : UInt8), (8 : UInt8), (8 : UInt8), (8 : UInt8), (8 : UInt8), (8 : UInt8), (8 : UInt8), (8 : UInt8), (8 : UInt8), (8 : UInt8), (8 : UInt8), (8 : UInt8), (8 : UInt8), (8 : UInt8), (8 : UInt8), (8 : UInt8), (8 : UInt8), (8 : UInt8), (8 : UInt8), (8 : UInt8), (8 : UInt8), (8 : UInt8), (8 : UInt8), (8 : UInt8), (8 : UInt8), (8 : UInt8), (8 : UInt8), (8 : UInt8), (8 : UInt8), (8 : UInt8), (8 : UInt8), (8 : UInt8), (8 : UInt8), (8 : UInt8), (8 : UInt8), (8 : UInt8), (8 : UInt8), (8 : UInt8), (8 : UInt8), (8 : UInt8), (8 : UInt8), (8 : UInt8), (8 : UInt8), (8 : UInt8), (8 : UInt8), (8 : UInt8), (8 : UInt8), (8 : UInt8), (8 : UInt8), (8 : UInt8), (8 : UInt8), (8 : UInt8), (8 : UInt8), (8 : UInt8), (8 : UInt8), (8 : UInt8), (8 : UInt8), (8 : UInt8), (8 : UInt8), (8 : UInt8), (8 : UInt8), (8 : UInt8), (8 : UInt8), (8 : UInt8), (8 : UInt8), (8 : UInt8), (8 : UInt8), (8 : UInt8), (8 : UInt8), (8 : UInt8), (8 : UInt8), (8 : UInt8), (8 : UInt8), (8 : UInt8), (8 : UInt8), (8 : UInt8), (8 : UInt8), (8 : UInt8), (8 : UInt8), (8 : UInt8), (8 : UInt8), (8 : UInt8)] (Int.toNat (IntKind.wrap IntKind.u8 n)) (0 : UInt8))) : Int)))) ([]))
    (.fail)))) := by kernel_rfl
end T192
end Go.Pe
end
