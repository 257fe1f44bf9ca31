import Derived.Test.YtnbinppdjnlhpaaGreatDoorX25
import Derived.Test.YtnbinppdjnlhpaaGreatDoorX22
/- A part of the proofs of the laws of one chapter (no law is stated here). Made by program out of texts by AI agents. -/
section
namespace Go.Pe
open Go.Det
theorem hallXC5 : ∀ g sp, XC5.sp g = some sp → SpecOk C7p g sp := sp_cons T48.ok (sp_cons T187.ok (sp_cons T88.ok (sp_cons T116.ok (sp_cons T87.ok (sp_cons T92.ok (fun g sp h => by cases h))))))
structure Half (l : List LineT) (r : RuleT) : Prop where
  n10 : l.length ≤ 10
  field : Sp.fieldE l = 0
  rule : (1 ≤ r.1 ∧ r.1 ≤ 8) ∧ (1 ≤ r.2.1 ∧ r.2.1 ≤ 200) ∧ (-1 ≤ r.2.2 ∧ r.2.2 ≤ 999)
theorem first_cons' (a : Int) (l : List Int) : Sp.first (a :: l) = Sp.orE a (Sp.first l) := by
  unfold Sp.orE
  by_cases h : a = 0 <;> simp [Sp.first, h]
theorem orE_assoc3 (a b c : Int) : Sp.orE a (Sp.orE b c) = Sp.orE (Sp.orE a b) c := by
  unfold Sp.orE
  by_cases h : a = 0 <;> by_cases h2 : b = 0 <;> simp [h, h2]
theorem first19 {n : Nat} (h : n ≠ 0) : Sp.first [Sp.whn ((n : Int) == 0) 12, Sp.whn true 19] = 19 := by
  have : ((n : Int) == 0) = false := by simp; omega
  rw [this]; rfl
theorem first00 {n : Nat} (h : n ≠ 0) : Sp.first [Sp.whn ((n : Int) == 0) 12, Sp.whn false 19] = 0 := by
  have : ((n : Int) == 0) = false := by simp; omega
  rw [this]; rfl
theorem short_cons (a : Int) (x : LineT) (s : List LineT) : Sp.short a (x :: s) = ((Sp.cand x && decide ((x.2.2.1.length : Int) < a)) || Sp.short a s) := by unfold Sp.short; rw [List.any_cons]
theorem cands_cons (i : Nat) (x : LineT) (s : List LineT) : Sp.cands i (x :: s) = if Sp.cand x = true then (i : Int) :: Sp.cands (i + 1) s else Sp.cands (i + 1) s := rfl
theorem ctots_cons (a : Int) (x : LineT) (s : List LineT) : Sp.ctots a (x :: s) = if Sp.cand x = true then Sp.tot a x :: Sp.ctots a s else Sp.ctots a s := by
  unfold Sp.ctots
  by_cases h : Sp.cand x = true
  · rw [if_pos h, List.filter_cons_of_pos h, List.map_cons]
  · rw [if_neg h, List.filter_cons_of_neg h]
namespace T141
variable {Q : PV → Ob → Prop}
theorem L5_ends (l : List LineT) (r : RuleT) (H : Half l r) (hq : ∀ ob, Q (.tup [.nil, .dat i64 0, .dat i64 19]) ob) : ∀ (s : List LineT) (i : Nat) (C T : List Int), l.drop i = s → i ≤ l.length → C.length ≤ i → T.length ≤ i → C ≠ [] → Ends XC5 (L5 C.length T.length l l.length i T C r.1 r.2.1 r.2.2) Q
  | [], i, C, T, h, hi, hC, hT, hne => by
    have := drop_nil h hi
    have hl : C.length ≠ 0 := fun e => hne (List.length_eq_zero_iff.1 e)
    refine Ends.steq (L5_eq ..) (Ends.ff (by simp; omega) ?_)
    rw [first19 hl]
    exact Ends.tt rfl (Ends.tt rfl (Ends.tt rfl (Ends.tt rfl (Ends.leaf (hq _)))))
  | x :: s, i, C, T, h, hi, hC, hT, hne => by
    obtain ⟨h1, h2, h3⟩ := drop_cons (d := DL) h
    have h2' : l.getD i ([], false, [], []) = x := h2
    have hn := H.n10
    obtain ⟨⟨a1, a2⟩, _⟩ := H.rule
    have h8 := (fieldE_zero H.field).2 x (mem_drop h)
    have sx : Sp.okS x = true := decide_eq_true (by omega)
    have sx' : Sp.okS (x.1, x.2.1, x.2.2.1, x.2.2.2) = true := sx
    refine Ends.steq (L5_eq ..) (Ends.tt (by simp <;> omega) (Ends.tt (by simp <;> omega) ?_))
    simp only [Int.toNat_natCast, h2']
    rw [wr ((i : Int) + 1) (by omega) (by omega), cand_eq]
    have eC : Nat.add C.length 1 = (C ++ [(i : Int)]).length := by simp
    refine Ends.ite (fun c => L5_ends l r H hq s (i + 1) C T h3 h1 (by omega) (by omega) hne) (fun c => Ends.tt (by simp; omega) (Ends.ite (fun c2 => ?_) (fun c2 => ?_)))
    · rw [eC]; exact L5_ends l r H hq s (i + 1) _ T h3 h1 (by simp; omega) (by omega) (by simp)
    · have c2 := of_decide_eq_false c2
      refine Ends.tt (by rw [sx']; simp; omega) (Ends.tt (by simp; omega) ?_)
      have eT : Nat.add T.length 1 = (T ++ [Sp.sumW (List.take r.1.toNat x.2.2.1)]).length := by simp
      rw [eC, eT]
      exact L5_ends l r H hq s (i + 1) _ _ h3 h1 (by simp; omega) (by simp; omega) (by simp)
theorem L2_ends (l : List LineT) (r : RuleT) (H : Half l r) (hq : ∀ ob, Q (.tup [.nil, .dat i64 0, .dat i64 19]) ob) : ∀ (s : List LineT) (i : Nat) (C : List Int), l.drop i = s → i ≤ l.length → C.length ≤ i → C ≠ [] → Ends XC5 (L2 C.length l l.length i C r.1 r.2.1 r.2.2) Q
  | [], i, C, h, hi, hC, hne => by
    have := drop_nil h hi
    have hl : C.length ≠ 0 := fun e => hne (List.length_eq_zero_iff.1 e)
    refine Ends.steq (L2_eq ..) (Ends.ff (by simp; omega) ?_)
    rw [first19 hl]
    exact Ends.tt rfl (Ends.tt rfl (Ends.tt rfl (Ends.tt rfl (Ends.leaf (hq _)))))
  | x :: s, i, C, h, hi, hC, hne => by
    obtain ⟨h1, h2, h3⟩ := drop_cons (d := DL) h
    have h2' : l.getD i ([], false, [], []) = x := h2
    have hn := H.n10
    obtain ⟨⟨a1, a2⟩, _⟩ := H.rule
    have h8 := (fieldE_zero H.field).2 x (mem_drop h)
    have sx : Sp.okS x = true := decide_eq_true (by omega)
    have sx' : Sp.okS (x.1, x.2.1, x.2.2.1, x.2.2.2) = true := sx
    refine Ends.steq (L2_eq ..) (Ends.tt (by simp <;> omega) (Ends.tt (by simp <;> omega) ?_))
    simp only [Int.toNat_natCast, h2']
    rw [wr ((i : Int) + 1) (by omega) (by omega), cand_eq]
    have eC : Nat.add C.length 1 = (C ++ [(i : Int)]).length := by simp
    refine Ends.ite (fun c => L2_ends l r H hq s (i + 1) C h3 h1 (by omega) hne) (fun c => Ends.tt (by simp; omega) (Ends.ite (fun c2 => ?_) (fun c2 => ?_)))
    · rw [eC]; exact L2_ends l r H hq s (i + 1) _ h3 h1 (by simp; omega) (by simp)
    · have c2 := of_decide_eq_false c2
      refine Ends.tt (by rw [sx']; simp; omega) (Ends.tt (by simp) ?_)
      rw [eC]
      exact L5_ends l r H hq s (i + 1) _ [Sp.sumW (List.take r.1.toNat x.2.2.1)] h3 h1 (by simp; omega) (by simp) (by simp)
theorem L3_ends (l : List LineT) (r : RuleT) (H : Half l r) (hq19 : Sp.short r.1 l = true → ∀ ob, Q (.tup [.nil, .dat i64 0, .dat i64 19]) ob) (hqG : Good l r → Ends XC5 (L7 (Sp.ctots r.1 l).length (Sp.cutLine l r) (Sp.cands 0 l).length (Sp.cands 0 l).length 0 (Sp.cands 0 l) (Sp.ctots r.1 l)) Q) :
    ∀ (s : List LineT) (i : Nat) (C T : List Int), l.drop i = s → i ≤ l.length → C.length ≤ i → T.length ≤ i → C ≠ [] → C ++ Sp.cands i s = Sp.cands 0 l → T ++ Sp.ctots r.1 s = Sp.ctots r.1 l → Sp.short r.1 l = Sp.short r.1 s → Ends XC5 (L3 C.length T.length l l.length i T C r.1 r.2.1 r.2.2) Q
  | [], i, C, T, h, hi, hC, hT, hne, hc, ht, hs => by
    have := drop_nil h hi
    have hl : C.length ≠ 0 := fun e => hne (List.length_eq_zero_iff.1 e)
    have hc : C = Sp.cands 0 l := by simpa [Sp.cands] using hc
    have ht : T = Sp.ctots r.1 l := by simpa [Sp.ctots] using ht
    have g : Good l r := ⟨H.n10, H.field, H.rule, by rw [← hc]; exact hne, by rw [hs]; rfl⟩
    have hTT := g.okT
    have hG := hqG g
    refine Ends.steq (L3_eq ..) (Ends.ff (by simp; omega) ?_)
    rw [first00 hl]
    subst hc ht
    refine Ends.tt rfl (Ends.tt rfl (Ends.tt rfl (Ends.ff rfl ?_)))
    rw [List.take_length]
    exact Ends.tt (by rw [show (r.1, r.2.1, r.2.2) = r from rfl, hTT]; simp) hG
  | x :: s, i, C, T, h, hi, hC, hT, hne, hc, ht, hs => by
    obtain ⟨h1, h2, h3⟩ := drop_cons (d := DL) h
    have h2' : l.getD i ([], false, [], []) = x := h2
    have hn := H.n10
    obtain ⟨⟨a1, a2⟩, _⟩ := H.rule
    have h8 := (fieldE_zero H.field).2 x (mem_drop h)
    have sx : Sp.okS x = true := decide_eq_true (by omega)
    have sx' : Sp.okS (x.1, x.2.1, x.2.2.1, x.2.2.2) = true := sx
    rw [short_cons] at hs
    rw [cands_cons] at hc
    rw [ctots_cons] at ht
    refine Ends.steq (L3_eq ..) (Ends.tt (by simp <;> omega) (Ends.tt (by simp <;> omega) ?_))
    simp only [Int.toNat_natCast, h2']
    rw [wr ((i : Int) + 1) (by omega) (by omega), cand_eq]
    have eC : Nat.add C.length 1 = (C ++ [(i : Int)]).length := by simp
    refine Ends.ite (fun c => ?_) (fun c => Ends.tt (by simp; omega) (Ends.ite (fun c2 => ?_) (fun c2 => ?_)))
    · have c : Sp.cand x = false := by simpa using c
      rw [if_neg (by rw [c]; simp)] at hc
      rw [if_neg (by rw [c]; simp)] at ht
      exact L3_ends l r H hq19 hqG s (i + 1) C T h3 h1 (by omega) (by omega) hne hc ht (by rw [hs, c]; rfl)
    · have c : Sp.cand x = true := by simpa using c
      rw [eC]
      exact L5_ends l r H (hq19 (by rw [hs, c, c2]; rfl)) s (i + 1) _ T h3 h1 (by simp; omega) (by omega) (by simp)
    · have c : Sp.cand x = true := by simpa using c
      rw [if_pos c] at hc
      rw [if_pos c] at ht
      have hs' : Sp.short r.1 l = Sp.short r.1 s := by rw [hs, c, c2]; rfl
      have c2 := of_decide_eq_false c2
      refine Ends.tt (by rw [sx']; simp; omega) (Ends.tt (by simp; omega) ?_)
      have eT : Nat.add T.length 1 = (T ++ [Sp.sumW (List.take r.1.toNat x.2.2.1)]).length := by simp
      rw [eC, eT]
      exact L3_ends l r H hq19 hqG s (i + 1) _ _ h3 h1 (by simp; omega) (by simp; omega) (by simp) (by rw [List.append_assoc]; exact hc) (by rw [List.append_assoc]; exact ht) hs'
theorem L1_ends (l : List LineT) (r : RuleT) (H : Half l r) (hq12 : Sp.cands 0 l = [] → ∀ ob, Q (.tup [.nil, .dat i64 0, .dat i64 12]) ob) (hq19 : Sp.cands 0 l ≠ [] → Sp.short r.1 l = true → ∀ ob, Q (.tup [.nil, .dat i64 0, .dat i64 19]) ob) (hqG : Good l r → Ends XC5 (L7 (Sp.ctots r.1 l).length (Sp.cutLine l r) (Sp.cands 0 l).length (Sp.cands 0 l).length 0 (Sp.cands 0 l) (Sp.ctots r.1 l)) Q) :
    ∀ (s : List LineT) (i : Nat), l.drop i = s → i ≤ l.length → Sp.cands i s = Sp.cands 0 l → Sp.ctots r.1 s = Sp.ctots r.1 l → Sp.short r.1 l = Sp.short r.1 s → Ends XC5 (L1 l l.length i r.1 r.2.1 r.2.2) Q
  | [], i, h, hi, hc, ht, hs => by
    have := drop_nil h hi
    exact Ends.steq (L1_eq ..) (Ends.ff (by simp; omega) (Ends.tt rfl (Ends.tt rfl (Ends.tt rfl (Ends.tt rfl (Ends.leaf (hq12 hc.symm _)))))))
  | x :: s, i, h, hi, hc, ht, hs => by
    obtain ⟨h1, h2, h3⟩ := drop_cons (d := DL) h
    have h2' : l.getD i ([], false, [], []) = x := h2
    have hn := H.n10
    obtain ⟨⟨a1, a2⟩, _⟩ := H.rule
    have h8 := (fieldE_zero H.field).2 x (mem_drop h)
    have sx : Sp.okS x = true := decide_eq_true (by omega)
    have sx' : Sp.okS (x.1, x.2.1, x.2.2.1, x.2.2.2) = true := sx
    rw [short_cons] at hs
    rw [cands_cons] at hc
    rw [ctots_cons] at ht
    refine Ends.steq (L1_eq ..) (Ends.tt (by simp <;> omega) (Ends.tt (by simp <;> omega) ?_))
    simp only [Int.toNat_natCast, h2']
    rw [wr ((i : Int) + 1) (by omega) (by omega), cand_eq]
    refine Ends.ite (fun c => ?_) (fun c => Ends.tt (by simp) (Ends.ite (fun c2 => ?_) (fun c2 => ?_)))
    · have c : Sp.cand x = false := by simpa using c
      rw [if_neg (by rw [c]; simp)] at hc
      rw [if_neg (by rw [c]; simp)] at ht
      exact L1_ends l r H hq12 hq19 hqG s (i + 1) h3 h1 hc ht (by rw [hs, c]; rfl)
    · have c : Sp.cand x = true := by simpa using c
      rw [if_pos c] at hc
      exact L2_ends l r H (hq19 (by rw [← hc]; simp) (by rw [hs, c, c2]; rfl)) s (i + 1) [(i : Int)] h3 h1 (by simp) (by simp)
    · have c : Sp.cand x = true := by simpa using c
      rw [if_pos c] at hc
      rw [if_pos c] at ht
      have hs' : Sp.short r.1 l = Sp.short r.1 s := by rw [hs, c, c2]; rfl
      have c2 := of_decide_eq_false c2
      refine Ends.tt (by rw [sx']; simp; omega) (Ends.tt (by simp) ?_)
      exact L3_ends l r H (hq19 (by rw [← hc]; simp)) hqG s (i + 1) [(i : Int)] [Sp.sumW (List.take r.1.toNat x.2.2.1)] h3 h1 (by simp) (by simp) (by simp) hc ht hs'
theorem L8_ends (C TT : List Int) (hC : C.length ≤ 300) (hlen : TT.length = C.length) (t : Int) (w : List Int) (hq : ∀ o2 o0, Q (.tup [.sl 1 1 0 w.length none, .dat i64 t, .dat i64 0]) [(2, o2), (1, .arr false 3 i64 w), (0, o0)]) : ∀ (s u : List Int) (i : Nat) (acc : List Int), C.drop i = s → TT.drop i = u → i ≤ C.length → acc.length ≤ i → acc ++ pickL t s u = w → Ends XC5 (L8 TT.length t acc.length C.length C.length i C acc TT) Q
  | [], u, i, acc, h, h', hi, ha, hw => by
    have := drop_nil h hi
    have hw : acc = w := by rw [← hw]; cases u <;> simp [pickL]
    subst hw
    exact Ends.steq (L8_eq ..) (Ends.ff (by simp; omega) (Ends.leaf (hq _ _)))
  | c :: s, u, i, acc, h, h', hi, ha, hw => by
    obtain ⟨h1, h2, h3⟩ := drop_cons (d := 0) h
    cases u with
    | nil => have := drop_nil h' (by omega); omega
    | cons y u =>
      obtain ⟨g1, g2, g3⟩ := drop_cons (d := 0) h'
      refine Ends.steq (L8_eq ..) (Ends.tt (by simp <;> omega) (Ends.tt (by simp <;> omega) (Ends.tt (by simp; omega) (Ends.tt (by simp; omega) (Ends.tt (by simp; omega) ?_)))))
      simp only [Int.toNat_natCast, h2, g2]
      rw [wr ((i : Int) + 1) (by omega) (by omega)]
      have hw' : acc ++ (if y ≤ t then c :: pickL t s u else pickL t s u) = w := hw
      refine Ends.ite (fun cc => Ends.tt (by simp; omega) ?_) (fun cc => ?_)
      · rw [if_pos (of_decide_eq_true cc)] at hw'
        have e : Nat.add acc.length 1 = (acc ++ [c]).length := by simp
        rw [e]
        exact L8_ends C TT hC hlen t w hq s u (i + 1) _ h3 g3 h1 (by simp; omega) (by rw [List.append_assoc]; exact hw')
      · rw [if_neg (of_decide_eq_false cc)] at hw'
        exact L8_ends C TT hC hlen t w hq s u (i + 1) acc h3 g3 h1 (by omega) hw'
theorem L7_ends (C TT : List Int) (hC : C.length ≤ 300) (hlen : TT.length = C.length) (t : Int) (w : List Int) (hq0 : w = [] → ∀ ob, Q (.tup [.nil, .dat i64 t, .dat i64 0]) ob) (hq : ∀ o2 o0, Q (.tup [.sl 1 1 0 w.length none, .dat i64 t, .dat i64 0]) [(2, o2), (1, .arr false 3 i64 w), (0, o0)]) : ∀ (s u : List Int) (i : Nat), C.drop i = s → TT.drop i = u → i ≤ C.length → pickL t s u = w → Ends XC5 (L7 TT.length t C.length C.length i C TT) Q
  | [], u, i, h, h', hi, hw => by
    have := drop_nil h hi
    have hw : w = [] := by rw [← hw]; cases u <;> simp [pickL]
    exact Ends.steq (L7_eq ..) (Ends.ff (by simp; omega) (Ends.leaf (hq0 hw _)))
  | c :: s, u, i, h, h', hi, hw => by
    obtain ⟨h1, h2, h3⟩ := drop_cons (d := 0) h
    cases u with
    | nil => have := drop_nil h' (by omega); omega
    | cons y u =>
      obtain ⟨g1, g2, g3⟩ := drop_cons (d := 0) h'
      refine Ends.steq (L7_eq ..) (Ends.tt (by simp <;> omega) (Ends.tt (by simp <;> omega) (Ends.tt (by simp; omega) (Ends.tt (by simp; omega) (Ends.tt (by simp; omega) ?_)))))
      simp only [Int.toNat_natCast, h2, g2]
      rw [wr ((i : Int) + 1) (by omega) (by omega)]
      have hw' : (if y ≤ t then c :: pickL t s u else pickL t s u) = w := hw
      refine Ends.ite (fun cc => Ends.tt (by simp) ?_) (fun cc => ?_)
      · rw [if_pos (of_decide_eq_true cc)] at hw'
        exact L8_ends C TT hC hlen t w hq s u (i + 1) [c] h3 g3 h1 (by simp) hw'
      · rw [if_neg (of_decide_eq_false cc)] at hw'
        exact L7_ends C TT hC hlen t w hq0 hq s u (i + 1) h3 g3 h1 hw'
theorem cut_err {l : List LineT} {r : RuleT} {e : Int} (he : e ≠ 0) (h : Sp.cutE l r = e) : ([], 0, e) = Sp.Cut l r := by
  unfold Sp.Cut; rw [if_pos (by rw [h]; exact he), h]
theorem ok : SpecOk C7p 141 cCutP := by
  refine spec7 (X := XC5) rfl hallXC5 (d := 9) (by kernel_rfl) (by kernel_rfl) (by kernel_rfl) (fun (i : RuleT × List LineT) hi => ?_) (isSome_ex (by kernel_rfl))
  obtain ⟨r, l⟩ := i
  have hb : Sp.okB l = true := hi
  have hb2 := hb
  unfold Sp.okB at hb2
  rw [Bool.and_eq_true, Bool.or_eq_true, decide_eq_true_eq, decide_eq_true_eq] at hb2
  obtain ⟨hok, hlen⟩ := hb2
  have eF : Sp.first [Sp.fieldE l, Sp.out r.1 1 8, Sp.out r.2.1 1 200, Sp.out r.2.2 (-1) 999] = Sp.orE (Sp.fieldE l) (Sp.ruleE r) := by rw [first_cons']; rfl
  have eC : Sp.cutE l r = Sp.orE (Sp.orE (Sp.fieldE l) (Sp.ruleE r)) (Sp.cutE2 l r) := by unfold Sp.cutE; rw [orE_assoc3]
  refine Ends.eq (T_eq r l) ?_
  rw [eF]
  refine Ends.tt hok (Ends.tt rfl (Ends.tt rfl (Ends.tt rfl (Ends.tt rfl (Ends.ite (fun c => Ends.leaf ⟨([], 0, Sp.orE (Sp.fieldE l) (Sp.ruleE r)), rfl, ?_⟩) (fun c => ?_))))))
  · have c : Sp.orE (Sp.fieldE l) (Sp.ruleE r) ≠ 0 := by simpa using c
    refine cut_err c ?_
    rw [eC, Sp.orE_ne _ c]
  · have c : Sp.orE (Sp.fieldE l) (Sp.ruleE r) = 0 := by simpa using c
    obtain ⟨f0, r0⟩ := orE_zero c
    have eC2 : Sp.cutE l r = Sp.cutE2 l r := by rw [eC, c]; rfl
    have := (fieldE_zero f0).1
    have H : Half l r := ⟨by omega, f0, ruleE_0 r0⟩
    refine L1_ends l r H (fun hc ob => ⟨([], 0, 12), rfl, cut_err (by decide) (by rw [eC2]; unfold Sp.cutE2; rw [if_pos hc])⟩) (fun hc hs ob => ⟨([], 0, 19), rfl, cut_err (by decide) (by rw [eC2]; unfold Sp.cutE2; rw [if_neg hc, if_pos hs])⟩) (fun g => ?_) l 0 rfl (Nat.zero_le _) rfl rfl rfl
    · have hcl := cands_len l 0
      have hn := g.n10
      have e0 : Sp.cutE l r = 0 := by rw [eC2]; unfold Sp.cutE2; rw [if_neg g.cne, if_neg (by rw [g.nsh]; simp)]
      have hcut : Sp.Cut l r = (Sp.remain r.1 (Sp.cutLine l r) 0 l, Sp.cutLine l r, 0) := by unfold Sp.Cut; rw [if_neg (by simp [e0])]
      refine L7_ends (Sp.cands 0 l) (Sp.ctots r.1 l) (by omega) (ctots_len r.1 l) (Sp.cutLine l r) (Sp.remain r.1 (Sp.cutLine l r) 0 l) (fun hw ob => ⟨([], Sp.cutLine l r, 0), rfl, ?_⟩) (fun o2 o0 => ⟨(Sp.remain r.1 (Sp.cutLine l r) 0 l, Sp.cutLine l r, 0), res_li3 rfl rfl, ?_⟩) (Sp.cands 0 l) (Sp.ctots r.1 l) 0 rfl rfl (Nat.zero_le _) (pick_remain r.1 (Sp.cutLine l r) l 0)
      · show _ = Sp.Cut l r
        rw [hcut, hw]
      · show _ = Sp.Cut l r
        rw [hcut]
end T141
theorem hallXC6 : ∀ g sp, XC6.sp g = some sp → SpecOk C7p g sp := sp_cons T141.ok (sp_cons T143.ok (fun g sp h => by cases h))
namespace T65
theorem ok : SpecOk C7p 65 cCut := by
  refine spec7 (X := XC6) rfl hallXC6 (d := 9) (by kernel_rfl) (by kernel_rfl) (by kernel_rfl) (fun (i : List LineT × RuleT) hi => ?_) (isSome_ex (by kernel_rfl))
  obtain ⟨l, r⟩ := i
  exact Ends.eq (T_eq l r) (Ends.tt hi (Ends.leaf ⟨Sp.Cut l r, rfl, rfl⟩))
end T65
end Go.Pe
end
section
namespace Go.Pe
open Go.Det
namespace T66
noncomputable def T (l : List (List UInt8 × Bool × List Int × List UInt8)) (r : Int × Int × Int) : Tr := tree XC6 false 9 66 (valsOf ([Sh.list (Sh.pair Sh.str (Sh.pair Sh.bool (Sh.pair (Sh.list (Sh.int IntKind.i64)) Sh.str))), Sh.pair (Sh.int IntKind.i64) (Sh.pair (Sh.int IntKind.i64) (Sh.int IntKind.i64))]) (l, r))
/-- function 66, region 6 -/
noncomputable def L1 (v6 : List Int) (v24 : List (List UInt8 × Bool × List Int × List UInt8)) (v25 : Int) (v26 : Int) (o0 : Int) (o0_1 : Int) (o0_2 : Int) : Tr := re ((T [] ((0 : Int), ((0 : Int), (0 : Int)))).L.R) (mkSt (59) [(3, PV.ptr (0 : Nat) (0 : Nat)), (6, PV.dat (Sh.list (Sh.int IntKind.i64)) v6), (9, PV.nil), (24, PV.dat (Sh.list (Sh.pair Sh.str (Sh.pair Sh.bool (Sh.pair (Sh.list (Sh.int IntKind.i64)) Sh.str)))) v24), (25, PV.dat (Sh.int IntKind.i64) v25), (26, PV.dat (Sh.int IntKind.i64) v26)] [(0, Obj.box [PV.dat (Sh.int IntKind.i64) o0, PV.dat (Sh.int IntKind.i64) o0_1, PV.dat (Sh.int IntKind.i64) o0_2])] (1))
theorem T_eq (l : List (List UInt8 × Bool × List Int × List UInt8)) (r : Int × Int × Int) : T l r = .ite (Sp.okB l)
 (.ite (Prod.snd (Prod.snd (Sp.Cut l (Prod.fst r, Prod.fst (Prod.snd r), Prod.snd (Prod.snd r)))) != (0 : Int))
  (.leaf (PV.tup [PV.nil, PV.dat (Sh.int IntKind.i64) (Prod.snd (Prod.snd (Sp.Cut l (Prod.fst r, Prod.fst (Prod.snd r), Prod.snd (Prod.snd r)))))]) ([((0 : Nat), Obj.box [PV.dat (Sh.int IntKind.i64) (Prod.fst r), PV.dat (Sh.int IntKind.i64) (Prod.fst (Prod.snd r)), PV.dat (Sh.int IntKind.i64) (Prod.snd (Prod.snd r))])]))
  (L1 (Prod.fst (Sp.Cut l (Prod.fst r, Prod.fst (Prod.snd r), Prod.snd (Prod.snd r)))) l ((↑(List.length l) : Int)) ((0 : Int)) (Prod.fst r) (Prod.fst (Prod.snd r)) (Prod.snd (Prod.snd r))))
 (.fail) := by kernel_rfl
/-- function 66, region 6 -/
noncomputable def L2 (v6 : List Int) (v9n : Nat) (v24 : List (List UInt8 × Bool × List Int × List UInt8)) (v25 : Int) (v26 : Int) (o1 : List (List UInt8 × Bool × List Int × List UInt8)) (o0 : Int) (o0_1 : Int) (o0_2 : Int) : Tr := re ((stepT XC6 (L1 [] [] (0 : Int) (0 : Int) (0 : Int) (0 : Int) (0 : Int))).L.L.L.L.L.L.L.L.L.L) (mkSt (59) [(3, PV.ptr (0 : Nat) (0 : Nat)), (6, PV.dat (Sh.list (Sh.int IntKind.i64)) v6), (9, PV.sl (1) (4) (0) v9n none), (24, PV.dat (Sh.list (Sh.pair Sh.str (Sh.pair Sh.bool (Sh.pair (Sh.list (Sh.int IntKind.i64)) Sh.str)))) v24), (25, PV.dat (Sh.int IntKind.i64) v25), (26, PV.dat (Sh.int IntKind.i64) v26)] [(1, Obj.arr false (126) (Sh.pair Sh.str (Sh.pair Sh.bool (Sh.pair (Sh.list (Sh.int IntKind.i64)) Sh.str))) o1), (0, Obj.box [PV.dat (Sh.int IntKind.i64) o0, PV.dat (Sh.int IntKind.i64) o0_1, PV.dat (Sh.int IntKind.i64) o0_2])] (2))
theorem L1_eq (v6 : List Int) (v24 : List (List UInt8 × Bool × List Int × List UInt8)) (v25 : Int) (v26 : Int) (o0 : Int) (o0_1 : Int) (o0_2 : Int) : stepT XC6 (L1 v6 v24 v25 v26 o0 o0_1 o0_2) = .ite (decide (v26 < v25))
 (.ite (decide ((0 : Int) ≤ v26) && decide (v26 < (↑(List.length v24) : Int)))
  (.ite (decide ((0 : Nat) < List.length (Prod.fst (Prod.snd (Prod.snd (List.getD v24 (Int.toNat v26) ([], false, [], [])))))))
   (.ite (decide (((2 : Nat) * ((0 : Nat) + List.length (Prod.fst (Prod.snd (Prod.snd (List.getD v24 (Int.toNat v26) ([], false, [], [])))))) + (1000 : Nat)) * (8 : Nat) ≤ (281474976710656 : Nat)))
    (.ite (Prod.snd (Prod.snd (Prod.snd (List.getD v24 (Int.toNat v26) ([], false, [], [])))) == [])
     (.ite (decide (List.length v6 ≤ (1000000 : Nat)))
      (.ite (!Sp.memI v6 v26)
       (.ite (decide ((0 : Int) ≤ o0) && decide ((0 : Int) ≤ o0) && decide ((0 : Nat) ≤ Int.toNat o0) && decide (Int.toNat o0 ≤ Int.toNat o0) && decide (Int.toNat o0 ≤ Option.getD none (Nat.add (0 : Nat) (List.length (Prod.fst (Prod.snd (Prod.snd (List.getD v24 (Int.toNat v26) ([], false, [], [])))))))) && decide ((0 : Nat) < Option.getD none (Nat.add (0 : Nat) (List.length (Prod.fst (Prod.snd (Prod.snd (List.getD v24 (Int.toNat v26) ([], false, [], [])))))))))
        (.ite (decide ((0 : Nat) + Int.toNat o0 ≤ List.length ([] ++ Prod.fst (Prod.snd (Prod.snd (List.getD v24 (Int.toNat v26) ([], false, [], [])))))) && true)
         (.ite (decide ((1 : Nat) ≤ (1 : Nat)) && decide ((0 : Nat) < (1 : Nat)) && decide (((2 : Nat) * (1 : Nat) + (1000 : Nat)) * (64 : Nat) ≤ (281474976710656 : Nat)))
          (L2 v6 ((1 : Nat)) v24 v25 (IntKind.wrap IntKind.i64 (v26 + (1 : Int))) ([(Prod.fst (List.getD v24 (Int.toNat v26) ([], false, [], [])), Prod.fst (Prod.snd (List.getD v24 (Int.toNat v26) ([], false, [], []))), List.take (Int.toNat o0) ([] ++ Prod.fst (Prod.snd (Prod.snd (List.getD v24 (Int.toNat v26) ([], false, [], []))))), [(99 : UInt8), (117 : UInt8), (116 : UInt8)])]) o0 o0_1 o0_2)
          (.fail))
         (.fail))
        (.fail))
       (.ite (decide ((0 : Nat) + Nat.add (0 : Nat) (List.length (Prod.fst (Prod.snd (Prod.snd (List.getD v24 (Int.toNat v26) ([], false, [], [])))))) ≤ List.length ([] ++ Prod.fst (Prod.snd (Prod.snd (List.getD v24 (Int.toNat v26) ([], false, [], [])))))) && true)
        (.ite (decide ((1 : Nat) ≤ (1 : Nat)) && decide ((0 : Nat) < (1 : Nat)) && decide (((2 : Nat) * (1 : Nat) + (1000 : Nat)) * (64 : Nat) ≤ (281474976710656 : Nat)))
         (L2 v6 ((1 : Nat)) v24 v25 (IntKind.wrap IntKind.i64 (v26 + (1 : Int))) ([(Prod.fst (List.getD v24 (Int.toNat v26) ([], false, [], [])), Prod.fst (Prod.snd (List.getD v24 (Int.toNat v26) ([], false, [], []))), List.take (Nat.add (0 : Nat) (List.length (Prod.fst (Prod.snd (Prod.snd (List.getD v24 (Int.toNat v26) ([], false, [], []))))))) ([] ++ Prod.fst (Prod.snd (Prod.snd (List.getD v24 (Int.toNat v26) ([], false, [], []))))), Prod.snd (Prod.snd (Prod.snd (List.getD v24 (Int.toNat v26) ([], false, [], [])))))]) o0 o0_1 o0_2)
         (.fail))
        (.fail)))
      (.fail))
     (.ite (decide ((0 : Nat) + Nat.add (0 : Nat) (List.length (Prod.fst (Prod.snd (Prod.snd (List.getD v24 (Int.toNat v26) ([], false, [], [])))))) ≤ List.length ([] ++ Prod.fst (Prod.snd (Prod.snd (List.getD v24 (Int.toNat v26) ([], false, [], [])))))) && true)
      (.ite (decide ((1 : Nat) ≤ (1 : Nat)) && decide ((0 : Nat) < (1 : Nat)) && decide (((2 : Nat) * (1 : Nat) + (1000 : Nat)) * (64 : Nat) ≤ (281474976710656 : Nat)))
       (L2 v6 ((1 : Nat)) v24 v25 (IntKind.wrap IntKind.i64 (v26 + (1 : Int))) ([(Prod.fst (List.getD v24 (Int.toNat v26) ([], false, [], [])), Prod.fst (Prod.snd (List.getD v24 (Int.toNat v26) ([], false, [], []))), List.take (Nat.add (0 : Nat) (List.length (Prod.fst (Prod.snd (Prod.snd (List.getD v24 (Int.toNat v26) ([], false, [], []))))))) ([] ++ Prod.fst (Prod.snd (Prod.snd (List.getD v24 (Int.toNat v26) ([], false, [], []))))), Prod.snd (Prod.snd (Prod.snd (List.getD v24 (Int.toNat v26) ([], false, [], [])))))]) o0 o0_1 o0_2)
       (.fail))
      (.fail)))
    (.fail))
   (.both
    (.ite (Prod.snd (Prod.snd (Prod.snd (List.getD v24 (Int.toNat v26) ([], false, [], [])))) == [])
     (.ite (decide (List.length v6 ≤ (1000000 : Nat)))
      (.ite (!Sp.memI v6 v26)
       (.fail)
       (.ite (decide ((1 : Nat) ≤ (1 : Nat)) && decide ((0 : Nat) < (1 : Nat)) && decide (((2 : Nat) * (1 : Nat) + (1000 : Nat)) * (64 : Nat) ≤ (281474976710656 : Nat)))
        (L2 v6 ((1 : Nat)) v24 v25 (IntKind.wrap IntKind.i64 (v26 + (1 : Int))) ([(Prod.fst (List.getD v24 (Int.toNat v26) ([], false, [], [])), Prod.fst (Prod.snd (List.getD v24 (Int.toNat v26) ([], false, [], []))), [], Prod.snd (Prod.snd (Prod.snd (List.getD v24 (Int.toNat v26) ([], false, [], [])))))]) o0 o0_1 o0_2)
        (.fail)))
      (.fail))
     (.ite (decide ((1 : Nat) ≤ (1 : Nat)) && decide ((0 : Nat) < (1 : Nat)) && decide (((2 : Nat) * (1 : Nat) + (1000 : Nat)) * (64 : Nat) ≤ (281474976710656 : Nat)))
      (L2 v6 ((1 : Nat)) v24 v25 (IntKind.wrap IntKind.i64 (v26 + (1 : Int))) ([(Prod.fst (List.getD v24 (Int.toNat v26) ([], false, [], [])), Prod.fst (Prod.snd (List.getD v24 (Int.toNat v26) ([], false, [], []))), [], Prod.snd (Prod.snd (Prod.snd (List.getD v24 (Int.toNat v26) ([], false, [], [])))))]) o0 o0_1 o0_2)
      (.fail)))
    (.ite (decide (((2 : Nat) * ((0 : Nat) + List.length (Prod.fst (Prod.snd (Prod.snd (List.getD v24 (Int.toNat v26) ([], false, [], [])))))) + (1000 : Nat)) * (8 : Nat) ≤ (281474976710656 : Nat)))
     (.ite (Prod.snd (Prod.snd (Prod.snd (List.getD v24 (Int.toNat v26) ([], false, [], [])))) == [])
      (.ite (decide (List.length v6 ≤ (1000000 : Nat)))
       (.ite (!Sp.memI v6 v26)
        (.ite (decide ((0 : Int) ≤ o0) && decide ((0 : Int) ≤ o0) && decide ((0 : Nat) ≤ Int.toNat o0) && decide (Int.toNat o0 ≤ Int.toNat o0) && decide (Int.toNat o0 ≤ Option.getD none (Nat.add (0 : Nat) (List.length (Prod.fst (Prod.snd (Prod.snd (List.getD v24 (Int.toNat v26) ([], false, [], [])))))))) && decide ((0 : Nat) < Option.getD none (Nat.add (0 : Nat) (List.length (Prod.fst (Prod.snd (Prod.snd (List.getD v24 (Int.toNat v26) ([], false, [], [])))))))))
         (.ite (decide ((0 : Nat) + Int.toNat o0 ≤ List.length ([] ++ Prod.fst (Prod.snd (Prod.snd (List.getD v24 (Int.toNat v26) ([], false, [], [])))))) && true)
          (.ite (decide ((1 : Nat) ≤ (1 : Nat)) && decide ((0 : Nat) < (1 : Nat)) && decide (((2 : Nat) * (1 : Nat) + (1000 : Nat)) * (64 : Nat) ≤ (281474976710656 : Nat)))
           (L2 v6 ((1 : Nat)) v24 v25 (IntKind.wrap IntKind.i64 (v26 + (1 : Int))) ([(Prod.fst (List.getD v24 (Int.toNat v26) ([], false, [], [])), Prod.fst (Prod.snd (List.getD v24 (Int.toNat v26) ([], false, [], []))), List.take (Int.toNat o0) ([] ++ Prod.fst (Prod.snd (Prod.snd (List.getD v24 (Int.toNat v26) ([], false, [], []))))), [(99 : UInt8), (117 : UInt8), (116 : UInt8)])]) o0 o0_1 o0_2)
           (.fail))
          (.fail))
         (.fail))
        (.ite (decide ((0 : Nat) + Nat.add (0 : Nat) (List.length (Prod.fst (Prod.snd (Prod.snd (List.getD v24 (Int.toNat v26) ([], false, [], [])))))) ≤ List.length ([] ++ Prod.fst (Prod.snd (Prod.snd (List.getD v24 (Int.toNat v26) ([], false, [], [])))))) && true)
         (.ite (decide ((1 : Nat) ≤ (1 : Nat)) && decide ((0 : Nat) < (1 : Nat)) && decide (((2 : Nat) * (1 : Nat) + (1000 : Nat)) * (64 : Nat) ≤ (281474976710656 : Nat)))
          (L2 v6 ((1 : Nat)) v24 v25 (IntKind.wrap IntKind.i64 (v26 + (1 : Int))) ([(Prod.fst (List.getD v24 (Int.toNat v26) ([], false, [], [])), Prod.fst (Prod.snd (List.getD v24 (Int.toNat v26) ([], false, [], []))), List.take (Nat.add (0 : Nat) (List.length (Prod.fst (Prod.snd (Prod.snd (List.getD v24 (Int.toNat v26) ([], false, [], []))))))) ([] ++ Prod.fst (Prod.snd (Prod.snd (List.getD v24 (Int.toNat v26) ([], false, [], []))))), Prod.snd (Prod.snd (Prod.snd (List.getD v24 (Int.toNat v26) ([], false, [], [])))))]) o0 o0_1 o0_2)
          (.fail))
         (.fail)))
       (.fail))
      (.ite (decide ((0 : Nat) + Nat.add (0 : Nat) (List.length (Prod.fst (Prod.snd (Prod.snd (List.getD v24 (Int.toNat v26) ([], false, [], [])))))) ≤ List.length ([] ++ Prod.fst (Prod.snd (Prod.snd (List.getD v24 (Int.toNat v26) ([], false, [], [])))))) && true)
       (.ite (decide ((1 : Nat) ≤ (1 : Nat)) && decide ((0 : Nat) < (1 : Nat)) && decide (((2 : Nat) * (1 : Nat) + (1000 : Nat)) * (64 : Nat) ≤ (281474976710656 : Nat)))
        (L2 v6 ((1 : Nat)) v24 v25 (IntKind.wrap IntKind.i64 (v26 + (1 : Int))) ([(Prod.fst (List.getD v24 (Int.toNat v26) ([], false, [], [])), Prod.fst (Prod.snd (List.getD v24 (Int.toNat v26) ([], false, [], []))), List.take (Nat.add (0 : Nat) (List.length (Prod.fst (Prod.snd (Prod.snd (List.getD v24 (Int.toNat v26) ([], false, [], []))))))) ([] ++ Prod.fst (Prod.snd (Prod.snd (List.getD v24 (Int.toNat v26) ([], false, [], []))))), Prod.snd (Prod.snd (Prod.snd (List.getD v24 (Int.toNat v26) ([], false, [], [])))))]) o0 o0_1 o0_2)
        (.fail))
       (.fail)))
     (.fail))))
  (.fail))
 (.leaf (PV.tup [PV.nil, PV.dat (Sh.int IntKind.i64) (0 : Int)]) ([(0, Obj.box [PV.dat (Sh.int IntKind.i64) o0, PV.dat (Sh.int IntKind.i64) o0_1, PV.dat (Sh.int IntKind.i64) o0_2])])) := by kernel_rfl
theorem L2_eq (v6 : List Int) (v9n : Nat) (v24 : List (List UInt8 × Bool × List Int × List UInt8)) (v25 : Int) (v26 : Int) (o1 : List (List UInt8 × Bool × List Int × List UInt8)) (o0 : Int) (o0_1 : Int) (o0_2 : Int) : stepT XC6 (L2 v6 v9n v24 v25 v26 o1 o0 o0_1 o0_2) = .ite (decide (v26 < v25))
 (.ite (decide ((0 : Int) ≤ v26) && decide (v26 < (↑(List.length v24) : Int)))
  (.ite (decide ((0 : Nat) < List.length (Prod.fst (Prod.snd (Prod.snd (List.getD v24 (Int.toNat v26) ([], false, [], [])))))))
   (.ite (decide (((2 : Nat) * ((0 : Nat) + List.length (Prod.fst (Prod.snd (Prod.snd (List.getD v24 (Int.toNat v26) ([], false, [], [])))))) + (1000 : Nat)) * (8 : Nat) ≤ (281474976710656 : Nat)))
    (.ite (Prod.snd (Prod.snd (Prod.snd (List.getD v24 (Int.toNat v26) ([], false, [], [])))) == [])
     (.ite (decide (List.length v6 ≤ (1000000 : Nat)))
      (.ite (!Sp.memI v6 v26)
       (.ite (decide ((0 : Int) ≤ o0) && decide ((0 : Int) ≤ o0) && decide ((0 : Nat) ≤ Int.toNat o0) && decide (Int.toNat o0 ≤ Int.toNat o0) && decide (Int.toNat o0 ≤ Option.getD none (Nat.add (0 : Nat) (List.length (Prod.fst (Prod.snd (Prod.snd (List.getD v24 (Int.toNat v26) ([], false, [], [])))))))) && decide ((0 : Nat) < Option.getD none (Nat.add (0 : Nat) (List.length (Prod.fst (Prod.snd (Prod.snd (List.getD v24 (Int.toNat v26) ([], false, [], [])))))))))
        (.ite (decide ((0 : Nat) + Int.toNat o0 ≤ List.length ([] ++ Prod.fst (Prod.snd (Prod.snd (List.getD v24 (Int.toNat v26) ([], false, [], [])))))) && true)
         (.ite (decide ((1 : Nat) ≤ (1 : Nat)) && true && decide (v9n = List.length o1) && decide (((2 : Nat) * (v9n + (1 : Nat)) + (1000 : Nat)) * (64 : Nat) ≤ (281474976710656 : Nat)))
          (L2 v6 (Nat.add v9n (1 : Nat)) v24 v25 (IntKind.wrap IntKind.i64 (v26 + (1 : Int))) (o1 ++ [(Prod.fst (List.getD v24 (Int.toNat v26) ([], false, [], [])), Prod.fst (Prod.snd (List.getD v24 (Int.toNat v26) ([], false, [], []))), List.take (Int.toNat o0) ([] ++ Prod.fst (Prod.snd (Prod.snd (List.getD v24 (Int.toNat v26) ([], false, [], []))))), [(99 : UInt8), (117 : UInt8), (116 : UInt8)])]) o0 o0_1 o0_2)
          (.fail))
         (.fail))
        (.fail))
       (.ite (decide ((0 : Nat) + Nat.add (0 : Nat) (List.length (Prod.fst (Prod.snd (Prod.snd (List.getD v24 (Int.toNat v26) ([], false, [], [])))))) ≤ List.length ([] ++ Prod.fst (Prod.snd (Prod.snd (List.getD v24 (Int.toNat v26) ([], false, [], [])))))) && true)
        (.ite (decide ((1 : Nat) ≤ (1 : Nat)) && true && decide (v9n = List.length o1) && decide (((2 : Nat) * (v9n + (1 : Nat)) + (1000 : Nat)) * (64 : Nat) ≤ (281474976710656 : Nat)))
         (L2 v6 (Nat.add v9n (1 : Nat)) v24 v25 (IntKind.wrap IntKind.i64 (v26 + (1 : Int))) (o1 ++ [(Prod.fst (List.getD v24 (Int.toNat v26) ([], false, [], [])), Prod.fst (Prod.snd (List.getD v24 (Int.toNat v26) ([], false, [], []))), List.take (Nat.add (0 : Nat) (List.length (Prod.fst (Prod.snd (Prod.snd (List.getD v24 (Int.toNat v26) ([], false, [], []))))))) ([] ++ Prod.fst (Prod.snd (Prod.snd (List.getD v24 (Int.toNat v26) ([], false, [], []))))), Prod.snd (Prod.snd (Prod.snd (List.getD v24 (Int.toNat v26) ([], false, [], [])))))]) o0 o0_1 o0_2)
         (.fail))
        (.fail)))
      (.fail))
     (.ite (decide ((0 : Nat) + Nat.add (0 : Nat) (List.length (Prod.fst (Prod.snd (Prod.snd (List.getD v24 (Int.toNat v26) ([], false, [], [])))))) ≤ List.length ([] ++ Prod.fst (Prod.snd (Prod.snd (List.getD v24 (Int.toNat v26) ([], false, [], [])))))) && true)
      (.ite (decide ((1 : Nat) ≤ (1 : Nat)) && true && decide (v9n = List.length o1) && decide (((2 : Nat) * (v9n + (1 : Nat)) + (1000 : Nat)) * (64 : Nat) ≤ (281474976710656 : Nat)))
       (L2 v6 (Nat.add v9n (1 : Nat)) v24 v25 (IntKind.wrap IntKind.i64 (v26 + (1 : Int))) (o1 ++ [(Prod.fst (List.getD v24 (Int.toNat v26) ([], false, [], [])), Prod.fst (Prod.snd (List.getD v24 (Int.toNat v26) ([], false, [], []))), List.take (Nat.add (0 : Nat) (List.length (Prod.fst (Prod.snd (Prod.snd (List.getD v24 (Int.toNat v26) ([], false, [], []))))))) ([] ++ Prod.fst (Prod.snd (Prod.snd (List.getD v24 (Int.toNat v26) ([], false, [], []))))), Prod.snd (Prod.snd (Prod.snd (List.getD v24 (Int.toNat v26) ([], false, [], [])))))]) o0 o0_1 o0_2)
       (.fail))
      (.fail)))
    (.fail))
   (.both
    (.ite (Prod.snd (Prod.snd (Prod.snd (List.getD v24 (Int.toNat v26) ([], false, [], [])))) == [])
     (.ite (decide (List.length v6 ≤ (1000000 : Nat)))
      (.ite (!Sp.memI v6 v26)
       (.fail)
       (.ite (decide ((1 : Nat) ≤ (1 : Nat)) && true && decide (v9n = List.length o1) && decide (((2 : Nat) * (v9n + (1 : Nat)) + (1000 : Nat)) * (64 : Nat) ≤ (281474976710656 : Nat)))
        (L2 v6 (Nat.add v9n (1 : Nat)) v24 v25 (IntKind.wrap IntKind.i64 (v26 + (1 : Int))) (o1 ++ [(Prod.fst (List.getD v24 (Int.toNat v26) ([], false, [], [])), Prod.fst (Prod.snd (List.getD v24 (Int.toNat v26) ([], false, [], []))), [], Prod.snd (Prod.snd (Prod.snd (List.getD v24 (Int.toNat v26) ([], false, [], [])))))]) o0 o0_1 o0_2)
        (.fail)))
      (.fail))
     (.ite (decide ((1 : Nat) ≤ (1 : Nat)) && true && decide (v9n = List.length o1) && decide (((2 : Nat) * (v9n + (1 : Nat)) + (1000 : Nat)) * (64 : Nat) ≤ (281474976710656 : Nat)))
      (L2 v6 (Nat.add v9n (1 : Nat)) v24 v25 (IntKind.wrap IntKind.i64 (v26 + (1 : Int))) (o1 ++ [(Prod.fst (List.getD v24 (Int.toNat v26) ([], false, [], [])), Prod.fst (Prod.snd (List.getD v24 (Int.toNat v26) ([], false, [], []))), [], Prod.snd (Prod.snd (Prod.snd (List.getD v24 (Int.toNat v26) ([], false, [], [])))))]) o0 o0_1 o0_2)
      (.fail)))
    (.ite (decide (((2 : Nat) * ((0 : Nat) + List.length (Prod.fst (Prod.snd (Prod.snd (List.getD v24 (Int.toNat v26) ([], false, [], [])))))) + (1000 : Nat)) * (8 : Nat) ≤ (281474976710656 : Nat)))
     (.ite (Prod.snd (Prod.snd (Prod.snd (List.getD v24 (Int.toNat v26) ([], false, [], [])))) == [])
      (.ite (decide (List.length v6 ≤ (1000000 : Nat)))
       (.ite (!Sp.memI v6 v26)
        (.ite (decide ((0 : Int) ≤ o0) && decide ((0 : Int) ≤ o0) && decide ((0 : Nat) ≤ Int.toNat o0) && decide (Int.toNat o0 ≤ Int.toNat o0) && decide (Int.toNat o0 ≤ Option.getD none (Nat.add (0 : Nat) (List.length (Prod.fst (Prod.snd (Prod.snd (List.getD v24 (Int.toNat v26) ([], false, [], [])))))))) && decide ((0 : Nat) < Option.getD none (Nat.add (0 : Nat) (List.length (Prod.fst (Prod.snd (Prod.snd (List.getD v24 (Int.toNat v26) ([], false, [], [])))))))))
         (.ite (decide ((0 : Nat) + Int.toNat o0 ≤ List.length ([] ++ Prod.fst (Prod.snd (Prod.snd (List.getD v24 (Int.toNat v26) ([], false, [], [])))))) && true)
          (.ite (decide ((1 : Nat) ≤ (1 : Nat)) && true && decide (v9n = List.length o1) && decide (((2 : Nat) * (v9n + (1 : Nat)) + (1000 : Nat)) * (64 : Nat) ≤ (281474976710656 : Nat)))
           (L2 v6 (Nat.add v9n (1 : Nat)) v24 v25 (IntKind.wrap IntKind.i64 (v26 + (1 : Int))) (o1 ++ [(Prod.fst (List.getD v24 (Int.toNat v26) ([], false, [], [])), Prod.fst (Prod.snd (List.getD v24 (Int.toNat v26) ([], false, [], []))), List.take (Int.toNat o0) ([] ++ Prod.fst (Prod.snd (Prod.snd (List.getD v24 (Int.toNat v26) ([], false, [], []))))), [(99 : UInt8), (117 : UInt8), (116 : UInt8)])]) o0 o0_1 o0_2)
           (.fail))
          (.fail))
         (.fail))
        (.ite (decide ((0 : Nat) + Nat.add (0 : Nat) (List.length (Prod.fst (Prod.snd (Prod.snd (List.getD v24 (Int.toNat v26) ([], false, [], [])))))) ≤ List.length ([] ++ Prod.fst (Prod.snd (Prod.snd (List.getD v24 (Int.toNat v26) ([], false, [], [])))))) && true)
         (.ite (decide ((1 : Nat) ≤ (1 : Nat)) && true && decide (v9n = List.length o1) && decide (((2 : Nat) * (v9n + (1 : Nat)) + (1000 : Nat)) * (64 : Nat) ≤ (281474976710656 : Nat)))
          (L2 v6 (Nat.add v9n (1 : Nat)) v24 v25 (IntKind.wrap IntKind.i64 (v26 + (1 : Int))) (o1 ++ [(Prod.fst (List.getD v24 (Int.toNat v26) ([], false, [], [])), Prod.fst (Prod.snd (List.getD v24 (Int.toNat v26) ([], false, [], []))), List.take (Nat.add (0 : Nat) (List.length (Prod.fst (Prod.snd (Prod.snd (List.getD v24 (Int.toNat v26) ([], false, [], []))))))) ([] ++ Prod.fst (Prod.snd (Prod.snd (List.getD v24 (Int.toNat v26) ([], false, [], []))))), Prod.snd (Prod.snd (Prod.snd (List.getD v24 (Int.toNat v26) ([], false, [], [])))))]) o0 o0_1 o0_2)
          (.fail))
         (.fail)))
       (.fail))
      (.ite (decide ((0 : Nat) + Nat.add (0 : Nat) (List.length (Prod.fst (Prod.snd (Prod.snd (List.getD v24 (Int.toNat v26) ([], false, [], [])))))) ≤ List.length ([] ++ Prod.fst (Prod.snd (Prod.snd (List.getD v24 (Int.toNat v26) ([], false, [], [])))))) && true)
       (.ite (decide ((1 : Nat) ≤ (1 : Nat)) && true && decide (v9n = List.length o1) && decide (((2 : Nat) * (v9n + (1 : Nat)) + (1000 : Nat)) * (64 : Nat) ≤ (281474976710656 : Nat)))
        (L2 v6 (Nat.add v9n (1 : Nat)) v24 v25 (IntKind.wrap IntKind.i64 (v26 + (1 : Int))) (o1 ++ [(Prod.fst (List.getD v24 (Int.toNat v26) ([], false, [], [])), Prod.fst (Prod.snd (List.getD v24 (Int.toNat v26) ([], false, [], []))), List.take (Nat.add (0 : Nat) (List.length (Prod.fst (Prod.snd (Prod.snd (List.getD v24 (Int.toNat v26) ([], false, [], []))))))) ([] ++ Prod.fst (Prod.snd (Prod.snd (List.getD v24 (Int.toNat v26) ([], false, [], []))))), Prod.snd (Prod.snd (Prod.snd (List.getD v24 (Int.toNat v26) ([], false, [], [])))))]) o0 o0_1 o0_2)
        (.fail))
       (.fail)))
     (.fail))))
  (.fail))
 (.leaf (PV.tup [PV.sl (1) (4) (0) v9n none, PV.dat (Sh.int IntKind.i64) (0 : Int)]) ([(1, Obj.arr false (126) (Sh.pair Sh.str (Sh.pair Sh.bool (Sh.pair (Sh.list (Sh.int IntKind.i64)) Sh.str))) o1), (0, Obj.box [PV.dat (Sh.int IntKind.i64) o0, PV.dat (Sh.int IntKind.i64) o0_1, PV.dat (Sh.int IntKind.i64) o0_2])])) := by kernel_rfl
end T66
end Go.Pe
end
section
namespace Go.Pe
open Go.Det
theorem mem_remain (a t : Int) : ∀ (s : List LineT) (j c : Nat), ((c : Int) ∈ Sp.remain a t j s) ↔ ∃ k, c = j + k ∧ k < s.length ∧ (Sp.cand (s.getD k DL) && decide (Sp.tot a (s.getD k DL) ≤ t)) = true
  | [], j, c => by
    constructor
    · intro h; cases h
    · rintro ⟨k, _, h, _⟩; cases h
  | x :: s, j, c => by
    have ih := mem_remain a t s (j + 1) c
    unfold Sp.remain
    have tail : ((c : Int) ∈ Sp.remain a t (j + 1) s) ↔ ∃ k, c = j + (k + 1) ∧ k + 1 < (x :: s).length ∧ (Sp.cand ((x :: s).getD (k + 1) DL) && decide (Sp.tot a ((x :: s).getD (k + 1) DL) ≤ t)) = true := by
      rw [ih]
      constructor
      · rintro ⟨k, h1, h2, h3⟩; exact ⟨k, by omega, by simp; omega, h3⟩
      · rintro ⟨k, h1, h2, h3⟩; exact ⟨k, by omega, by simp at h2; omega, h3⟩
    by_cases hx : (Sp.cand x && decide (Sp.tot a x ≤ t)) = true
    · rw [if_pos hx, List.mem_cons, tail]
      constructor
      · rintro (h | ⟨k, h1, h2, h3⟩)
        · exact ⟨0, by omega, by simp, hx⟩
        · exact ⟨k + 1, h1, h2, h3⟩
      · rintro ⟨k, h1, h2, h3⟩
        cases k with
        | zero => left; omega
        | succ k => right; exact ⟨k, h1, h2, h3⟩
    · rw [if_neg hx, tail]
      constructor
      · rintro ⟨k, h1, h2, h3⟩; exact ⟨k + 1, h1, h2, h3⟩
      · rintro ⟨k, h1, h2, h3⟩
        cases k with
        | zero => exact absurd h3 hx
        | succ k => exact ⟨k, h1, h2, h3⟩
theorem memI_remain (a t : Int) {l s : List LineT} {x : LineT} {i : Nat} (h : l.drop i = x :: s) : Sp.memI (Sp.remain a t 0 l) (i : Int) = (Sp.cand x && decide (Sp.tot a x ≤ t)) := by
  obtain ⟨h1, h2, _⟩ := drop_cons (d := DL) h
  have := mem_remain a t l 0 i
  unfold Sp.memI
  cases hb : (Sp.cand x && decide (Sp.tot a x ≤ t)) with
  | true => exact decide_eq_true (this.2 ⟨i, by omega, h1, by rw [h2]; exact hb⟩)
  | false =>
    refine decide_eq_false (fun hm => ?_)
    obtain ⟨k, e1, e2, e3⟩ := this.1 hm
    have : k = i := by omega
    subst this
    rw [h2, hb] at e3; cases e3
theorem remain_len (a t : Int) : ∀ (s : List LineT) (i : Nat), (Sp.remain a t i s).length ≤ s.length
  | [], _ => Nat.le_refl _
  | x :: s, i => by
    have := remain_len a t s (i + 1)
    unfold Sp.remain
    split <;> simp <;> omega
/-- a candidate has scores enough -/
theorem Good.long {l : List LineT} {r : RuleT} (g : Good l r) {x : LineT} (hx : x ∈ l) (hc : Sp.cand x = true) : r.1 ≤ (x.2.2.1.length : Int) := by
  have h := g.nsh
  unfold Sp.short at h
  rw [List.any_eq_false] at h
  have := h x hx
  rw [hc, Bool.true_and, decide_eq_true_eq] at this
  omega
theorem hallXC4 : ∀ g sp, XC4.sp g = some sp → SpecOk C7p g sp := sp_cons T69.ok (sp_cons T73.ok (fun g sp h => by cases h))
theorem res_l1 {ob : Ob} {id n : Nat} {fz : Bool} {t : TypeId} {o : List LineT} (hg : obGet ob id = some (.arr fz t shLine o)) (hn : n = o.length) : resOf [.list shLine] (.sl id 4 0 n none) ob = some (true, o) := by
  show argsOf ⟨0, .leaf, ob, 0⟩ [.list shLine] [.sl id 4 0 n none] = _
  exact arg_slz (s := shLine) rfl hg hn
namespace T70
variable {Q : PV → Ob → Prop}
theorem L1_ends (l : List LineT) (r : RuleT) (g : Good l r) (t : Int) (hq : ∀ o0, Q (.sl 1 4 0 l.length none) [(1, .arr false 97 shLine (l.map (Sp.miss1 r.1 t))), (0, o0)]) : ∀ (s : List LineT) (i : Nat), l.drop i = s → i ≤ l.length → Ends XC4 (L1 (Sp.remain r.1 t 0 l) l.length i ((l.take i).map (Sp.miss1 r.1 t) ++ s) r.1 r.2.1 r.2.2) Q
  | [], i, h, hi => by
    have := drop_nil h hi
    subst this
    rw [List.take_length, List.append_nil]
    exact Ends.steq (L1_eq ..) (Ends.ff (by simp) (Ends.leaf (hq _)))
  | x :: s, i, h, hi => by
    obtain ⟨h1, h2, h3⟩ := drop_cons (d := DL) h
    have hn := g.n10
    have hm := memI_remain r.1 t h
    have hrl := remain_len r.1 t l 0
    have hA : ((l.take i).map (Sp.miss1 r.1 t)).length = i := by simp; omega
    have hs : s.length = l.length - (i + 1) := by rw [← h3]; simp
    have gA : ∀ y : LineT, ((l.take i).map (Sp.miss1 r.1 t) ++ y :: s).getD i ([], false, [], []) = y := fun y => getD_mid _ _ _ _ hA
    have sA : ∀ y z : LineT, ((l.take i).map (Sp.miss1 r.1 t) ++ y :: s).set i z = (l.take i).map (Sp.miss1 r.1 t) ++ z :: s := fun y z => set_mid _ _ _ _ hA
    have lA : ∀ y : LineT, ((l.take i).map (Sp.miss1 r.1 t) ++ y :: s).length = l.length := fun y => by simp; omega
    have go := L1_ends l r g t hq s (i + 1) h3 h1
    rw [take_next h, List.map_append, List.map_cons, List.map_nil, List.append_assoc, List.singleton_append] at go
    refine Ends.steq (L1_eq ..) ?_
    simp only [Int.toNat_natCast, gA, sA, lA]
    rw [wr ((i : Int) + 1) (by omega) (by omega), cand_eq, hm]
    have ib : (decide ((0 : Int) ≤ (i : Int)) && decide ((i : Int) < (l.length : Int))) = true := by simp; omega
    have il : decide (i < l.length) = true := decide_eq_true h1
    have same : Sp.miss1 r.1 t x = x → Ends XC4 (L1 (Sp.remain r.1 t 0 l) l.length ((i : Int) + 1) ((l.take i).map (Sp.miss1 r.1 t) ++ x :: s) r.1 r.2.1 r.2.2) Q := fun e => by rw [e] at go; exact go
    refine Ends.tt (by simp; omega) (Ends.tt ib (Ends.tt il (Ends.ite (fun c => Ends.tt (decide_eq_true (by omega)) (Ends.ite (fun c2 => Ends.tt ib (Ends.tt il (Ends.tt ib (Ends.tt il (Ends.tt ?_ (Ends.tt ib (Ends.tt il ?_))))))) (fun c2 => same ?_))) (fun c => same ?_))))
    · have := g.long (mem_drop h) c
      have := g.rule.1.1
      simp; omega
    · have e : Sp.miss1 r.1 t x = (x.1, x.2.1, List.take r.1.toNat x.2.2.1, Sp.sCut) := by
        unfold Sp.miss1
        rw [c] at c2 ⊢
        simp at c2
        rw [if_pos (by simp; omega)]
      rw [e] at go
      exact go
    · unfold Sp.miss1
      rw [c] at c2 ⊢
      simp at c2
      rw [if_neg (by simp; omega)]
    · unfold Sp.miss1
      rw [c]; rfl
theorem ok : SpecOk C7p 70 cMissR := by
  refine spec7 (X := XC4) rfl hallXC4 (d := 9) (by kernel_rfl) (by kernel_rfl) (by kernel_rfl) (fun (i : List LineT × RuleT) hi => ?_) (isSome_ex (by kernel_rfl))
  obtain ⟨l, r⟩ := i
  have hc : Sp.okC l r = true := hi
  have hc2 : (Sp.okB l && decide (Sp.cutE l r = 0)) = true := hi
  rw [Bool.and_eq_true, decide_eq_true_eq] at hc2
  have g := good_of hc2.1 hc2.2
  have hn := g.n10
  refine Ends.eq (T_eq l r) (Ends.tt hc (Ends.tt (by simp; omega) ?_))
  have e1 : Nat.add 0 l.length = l.length := Nat.zero_add _
  rw [e1]
  exact L1_ends l r g (Sp.cutLine l r) (fun o0 => ⟨l.map (Sp.miss1 r.1 (Sp.cutLine l r)), res_l1 rfl (by simp), rfl⟩) l 0 rfl (Nat.zero_le _)
end T70
namespace T66
variable {Q : PV → Ob → Prop}
/-- a line is copied, and is cut or not -/
def stepTree (v6 : List Int) (x : LineT) (v26 o0 : Int) (K : LineT → Tr) : Tr :=
 .ite (decide (0 < x.2.2.1.length))
  (.ite (decide ((2 * (0 + x.2.2.1.length) + 1000) * 8 ≤ 281474976710656))
   (.ite (x.2.2.2 == [])
    (.ite (decide (v6.length ≤ 1000000))
     (.ite (!Sp.memI v6 v26)
      (.ite (decide (0 ≤ o0) && decide (0 ≤ o0) && decide (0 ≤ Int.toNat o0) && decide (Int.toNat o0 ≤ Int.toNat o0) && decide (Int.toNat o0 ≤ Option.getD none (Nat.add 0 x.2.2.1.length)) && decide (0 < Option.getD none (Nat.add 0 x.2.2.1.length)))
       (.ite (decide (0 + Int.toNat o0 ≤ ([] ++ x.2.2.1).length) && true)
        (K (x.1, x.2.1, List.take (Int.toNat o0) ([] ++ x.2.2.1), [(99 : UInt8), (117 : UInt8), (116 : UInt8)]))
        .fail)
       .fail)
      (.ite (decide (0 + Nat.add 0 x.2.2.1.length ≤ ([] ++ x.2.2.1).length) && true) (K (x.1, x.2.1, List.take (Nat.add 0 x.2.2.1.length) ([] ++ x.2.2.1), x.2.2.2)) .fail))
     .fail)
    (.ite (decide (0 + Nat.add 0 x.2.2.1.length ≤ ([] ++ x.2.2.1).length) && true) (K (x.1, x.2.1, List.take (Nat.add 0 x.2.2.1.length) ([] ++ x.2.2.1), x.2.2.2)) .fail))
   .fail)
  (.both
   (.ite (x.2.2.2 == [])
    (.ite (decide (v6.length ≤ 1000000))
     (.ite (!Sp.memI v6 v26) .fail (K (x.1, x.2.1, [], x.2.2.2)))
     .fail)
    (K (x.1, x.2.1, [], x.2.2.2)))
   (.ite (decide ((2 * (0 + x.2.2.1.length) + 1000) * 8 ≤ 281474976710656))
    (.ite (x.2.2.2 == [])
     (.ite (decide (v6.length ≤ 1000000))
      (.ite (!Sp.memI v6 v26)
       (.ite (decide (0 ≤ o0) && decide (0 ≤ o0) && decide (0 ≤ Int.toNat o0) && decide (Int.toNat o0 ≤ Int.toNat o0) && decide (Int.toNat o0 ≤ Option.getD none (Nat.add 0 x.2.2.1.length)) && decide (0 < Option.getD none (Nat.add 0 x.2.2.1.length)))
        (.ite (decide (0 + Int.toNat o0 ≤ ([] ++ x.2.2.1).length) && true)
         (K (x.1, x.2.1, List.take (Int.toNat o0) ([] ++ x.2.2.1), [(99 : UInt8), (117 : UInt8), (116 : UInt8)]))
         .fail)
        .fail)
       (.ite (decide (0 + Nat.add 0 x.2.2.1.length ≤ ([] ++ x.2.2.1).length) && true) (K (x.1, x.2.1, List.take (Nat.add 0 x.2.2.1.length) ([] ++ x.2.2.1), x.2.2.2)) .fail))
      .fail)
     (.ite (decide (0 + Nat.add 0 x.2.2.1.length ≤ ([] ++ x.2.2.1).length) && true) (K (x.1, x.2.1, List.take (Nat.add 0 x.2.2.1.length) ([] ++ x.2.2.1), x.2.2.2)) .fail))
    .fail))
theorem step_ends (l : List LineT) (r : RuleT) (g : Good l r) (t : Int) {x : LineT} {s : List LineT} {i : Nat} (h : l.drop i = x :: s) (K : LineT → Tr) (hK : Ends XC6 (K (Sp.miss1 r.1 t x)) Q) : Ends XC6 (stepTree (Sp.remain r.1 t 0 l) x i r.1 K) Q := by
  have hn := g.n10
  have hm := memI_remain r.1 t h
  have hrl := remain_len r.1 t l 0
  have h8 := (fieldE_zero g.field).2 x (mem_drop h)
  have ha := g.rule.1.1
  have ml : decide ((Sp.remain r.1 t 0 l).length ≤ 1000000) = true := decide_eq_true (by omega)
  have cap : decide ((2 * (0 + x.2.2.1.length) + 1000) * 8 ≤ 281474976710656) = true := decide_eq_true (by omega)
  have e0 : List.take (Nat.add 0 x.2.2.1.length) ([] ++ x.2.2.1) = x.2.2.1 := by simp
  have sm : (decide (0 + Nat.add 0 x.2.2.1.length ≤ ([] ++ x.2.2.1).length) && true) = true := by simp
  have same : Sp.miss1 r.1 t x = x → Ends XC6 (K (x.1, x.2.1, x.2.2.1, x.2.2.2)) Q := fun e => by rw [e] at hK; exact hK
  have memc : Sp.cand x = true → (!Sp.memI (Sp.remain r.1 t 0 l) (i : Int)) = false → Sp.miss1 r.1 t x = x := fun c c2 => by
    unfold Sp.miss1
    rw [hm, c] at c2
    rw [c]
    simp at c2
    rw [if_neg (by simp; omega)]
  have nocand : Sp.cand x = false → Sp.miss1 r.1 t x = x := fun c => by unfold Sp.miss1; rw [c]; rfl
  have cutc : Sp.cand x = true → (!Sp.memI (Sp.remain r.1 t 0 l) (i : Int)) = true → Ends XC6 (K (x.1, x.2.1, List.take r.1.toNat ([] ++ x.2.2.1), [(99 : UInt8), (117 : UInt8), (116 : UInt8)])) Q := fun c c2 => by
    have e : Sp.miss1 r.1 t x = (x.1, x.2.1, List.take r.1.toNat ([] ++ x.2.2.1), [(99 : UInt8), (117 : UInt8), (116 : UInt8)]) := by
      unfold Sp.miss1
      rw [hm, c] at c2
      rw [c]
      simp at c2
      rw [if_pos (by simp; omega)]; rfl
    rw [e] at hK; exact hK
  have lng : Sp.cand x = true → r.1 ≤ (x.2.2.1.length : Int) := g.long (mem_drop h)
  have bnd : Sp.cand x = true → (decide (0 ≤ r.1) && decide (0 ≤ r.1) && decide (0 ≤ Int.toNat r.1) && decide (Int.toNat r.1 ≤ Int.toNat r.1) && decide (Int.toNat r.1 ≤ Option.getD none (Nat.add 0 x.2.2.1.length)) && decide (0 < Option.getD none (Nat.add 0 x.2.2.1.length))) = true := fun c => by
    have := lng c
    have e : Option.getD (none : Option Nat) (Nat.add 0 x.2.2.1.length) = x.2.2.1.length := by simp
    rw [e]; simp; omega
  have bnd2 : Sp.cand x = true → (decide (0 + Int.toNat r.1 ≤ ([] ++ x.2.2.1).length) && true) = true := fun c => by
    have := lng c
    simp; omega
  unfold stepTree
  rw [cand_eq]
  refine Ends.ite (fun hl => Ends.tt cap (Ends.ite (fun c => Ends.tt ml (Ends.ite (fun c2 => Ends.tt (bnd c) (Ends.tt (bnd2 c) (cutc c c2))) (fun c2 => Ends.tt sm ?_))) (fun c => Ends.tt sm ?_))) (fun hl => ?_)
  · rw [e0]; exact same (memc c c2)
  · rw [e0]; exact same (nocand c)
  · have hl : x.2.2.1 = [] := by
      have := of_decide_eq_false hl
      exact List.length_eq_zero_iff.1 (by omega)
    have nc : Sp.cand x = false := by
      cases c : Sp.cand x with
      | false => rfl
      | true => have := lng c; rw [hl] at this; simp at this; omega
    have same' := same (nocand nc)
    rw [nc]
    refine Ends.both (Ends.ff rfl ?_) (Ends.tt cap (Ends.ff rfl (Ends.tt sm ?_)))
    · rw [hl] at same'; exact same'
    · rw [e0]; exact same'
theorem L2_ends (l : List LineT) (r : RuleT) (g : Good l r) (t : Int) (hq : ∀ o0, Q (.tup [.sl 1 4 0 l.length none, .dat i64 0]) [(1, .arr false 126 shLine (l.map (Sp.miss1 r.1 t))), (0, o0)]) : ∀ (s : List LineT) (i : Nat), l.drop i = s → i ≤ l.length → Ends XC6 (L2 (Sp.remain r.1 t 0 l) i l l.length i ((l.take i).map (Sp.miss1 r.1 t)) r.1 r.2.1 r.2.2) Q
  | [], i, h, hi => by
    have := drop_nil h hi
    subst this
    rw [List.take_length]
    exact Ends.steq (L2_eq ..) (Ends.ff (by simp) (Ends.leaf (hq _)))
  | x :: s, i, h, hi => by
    obtain ⟨h1, h2, h3⟩ := drop_cons (d := DL) h
    have h2' : l.getD i ([], false, [], []) = x := h2
    have hn := g.n10
    have hA : ((l.take i).map (Sp.miss1 r.1 t)).length = i := by simp; omega
    have go := L2_ends l r g t hq s (i + 1) h3 h1
    rw [take_next h, List.map_append, List.map_cons, List.map_nil] at go
    refine Ends.steq (L2_eq ..) (Ends.tt (by simp <;> omega) (Ends.tt (by simp <;> omega) ?_))
    simp only [Int.toNat_natCast, h2']
    rw [wr ((i : Int) + 1) (by omega) (by omega)]
    refine step_ends l r g t h (fun y => .ite (decide (1 ≤ 1) && true && decide (i = ((l.take i).map (Sp.miss1 r.1 t)).length) && decide ((2 * (i + 1) + 1000) * 64 ≤ 281474976710656)) (L2 (Sp.remain r.1 t 0 l) (Nat.add i 1) l l.length ((i : Int) + 1) ((l.take i).map (Sp.miss1 r.1 t) ++ [y]) r.1 r.2.1 r.2.2) .fail) ?_
    exact Ends.tt (by rw [hA]; simp; omega) go
theorem ok : SpecOk C7p 66 cMiss := by
  refine spec7 (X := XC6) rfl hallXC6 (d := 9) (by kernel_rfl) (by kernel_rfl) (by kernel_rfl) (fun (i : List LineT × RuleT) hi => ?_) (isSome_ex (by kernel_rfl))
  obtain ⟨l, r⟩ := i
  have hb : Sp.okB l = true := hi
  have e2 : (Sp.Cut l r).2.2 = Sp.cutE l r := by
    unfold Sp.Cut
    by_cases e : Sp.cutE l r ≠ 0
    · rw [if_pos e]
    · rw [if_neg e]; exact (Classical.not_not.1 e).symm
  refine Ends.eq (T_eq l r) (Ends.tt hb (Ends.ite (fun c => Ends.leaf ⟨([], Sp.cutE l r), by rw [← e2]; rfl, ?_⟩) (fun c => ?_)))
  · have c : (Sp.Cut l r).2.2 ≠ 0 := by
      have : ((Sp.Cut l r).2.2 != 0) = true := c
      simpa using this
    rw [e2] at c
    show _ = Sp.Miss l r
    unfold Sp.Miss; rw [if_pos c]
  · have c : (Sp.Cut l r).2.2 = 0 := by
      have : ((Sp.Cut l r).2.2 != 0) = false := c
      simpa using this
    rw [e2] at c
    have g := good_of hb c
    have hn := g.n10
    have hcut : Sp.Cut l r = (Sp.remain r.1 (Sp.cutLine l r) 0 l, Sp.cutLine l r, 0) := by unfold Sp.Cut; rw [if_neg (by simp [c])]
    have hM : Sp.Miss l r = (l.map (Sp.miss1 r.1 (Sp.cutLine l r)), 0) := by unfold Sp.Miss; rw [if_neg (by simp [c])]
    have e1 : (Sp.Cut l (r.1, r.2.1, r.2.2)).1 = Sp.remain r.1 (Sp.cutLine l r) 0 l := by rw [show (r.1, r.2.1, r.2.2) = r from rfl, hcut]
    rw [e1]
    have hq : ∀ o0, Gives cMiss (l, r) (.tup [.sl 1 4 0 l.length none, .dat i64 0]) [(1, .arr false 126 shLine (l.map (Sp.miss1 r.1 (Sp.cutLine l r)))), (0, o0)] := fun o0 => by
      refine ⟨(l.map (Sp.miss1 r.1 (Sp.cutLine l r)), 0), ?_, hM.symm⟩
      show argsOf ⟨0, .leaf, [(1, .arr false 126 shLine (l.map (Sp.miss1 r.1 (Sp.cutLine l r)))), (0, o0)], 0⟩ [.list shLine, i64] [.sl 1 4 0 l.length none, .dat i64 0] = _
      exact args_two (arg_slz (s := shLine) rfl (show obGet [(1, .arr false 126 shLine (l.map (Sp.miss1 r.1 (Sp.cutLine l r)))), (0, o0)] 1 = _ from rfl) (by simp)) rfl
    cases l with
    | nil => exact absurd rfl g.cne
    | cons x s =>
      refine Ends.steq (L1_eq ..) (Ends.tt (by simp <;> omega) (Ends.tt (by simp <;> omega) ?_))
      rw [wr ((0 : Int) + 1) (by omega) (by omega)]
      refine step_ends (x :: s) r g (Sp.cutLine (x :: s) r) (i := 0) (s := s) rfl (fun y => .ite (decide (1 ≤ 1) && decide (0 < 1) && decide ((2 * 1 + 1000) * 64 ≤ 281474976710656)) (L2 (Sp.remain r.1 (Sp.cutLine (x :: s) r) 0 (x :: s)) 1 (x :: s) (x :: s).length ((0 : Int) + 1) [y] r.1 r.2.1 r.2.2) .fail) ?_
      exact Ends.tt rfl (L2_ends (x :: s) r g (Sp.cutLine (x :: s) r) hq s 1 rfl (by simp))
end T66
end Go.Pe
end
