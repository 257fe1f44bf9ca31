import Derived.Test.YtnbinppdjnlhpaaGreatDoorX39
/- A part of the proofs of the laws of one chapter (no law is stated here). Made by program out of texts by AI agents. -/
section
/- The program's Substitute, and the law EventSubstitutes. -/
namespace Go.Pe
open Go.Det
theorem three {ob : Ob} {p q : PV} {a b a' b' : List Int} (h1 : argOf ⟨0, .leaf, ob, 0⟩ li64 p = some (true, a)) (h2 : argOf ⟨0, .leaf, ob, 0⟩ li64 q = some (true, b)) (ha : a = a') (hb : b = b') :
    argsOf ⟨0, .leaf, ob, 0⟩ [li64, li64, i64] (resVals [li64, li64, i64] (.tup [p, q, .dat i64 0])) = some (true, (a', b', 0)) := by
  subst ha hb
  exact args_two h1 (args_two h2 rfl)
theorem stay_of {l g : List Int} {m : List (Int × Bool)} (hm : SetI m (fun x => x ∈ g)) : (l.filter fun x => !T29.Pm m x) = Sp.stay g l := by
  unfold Sp.stay
  congr 1; funext x
  have := hm x
  unfold T29.Pm
  cases h : (mget (.int .i64) .bool x m).getD false with
  | true => rw [decide_eq_true (this.1 h)]
  | false => rw [decide_eq_false (fun e => by rw [this.2 e] at h; cases h)]
theorem stay_all {l g : List Int} {m : List (Int × Bool)} (hm : SetI m (fun x => x ∈ g)) (h : ∀ x ∈ l, T29.Pm m x = false) : Sp.stay g l = l := by
  rw [← stay_of hm]
  exact List.filter_eq_self.2 (fun x hx => by rw [h x hx]; rfl)
theorem first2 (a b : Bool) (x y : Int) (hx : x ≠ 0) : Sp.first [Sp.whn a x, Sp.whn b y] = if a = true then x else if b = true then y else 0 := by
  cases a <;> cases b <;> simp [Sp.first, Sp.whn, hx]
  all_goals (by_cases h : y = 0 <;> simp [h])
theorem take_take' {T arr : List Int} {n : Nat} (h : arr.take n = T) {k : Nat} (hk : k ≤ n) : arr.take k = T.take k := by
  rw [← h, List.take_take, Nat.min_eq_left hk]
theorem drop_take' {T arr : List Int} {n : Nat} (h : arr.take n = T) (k : Nat) : (arr.drop k).take (n - k) = T.drop k := by
  rw [← h, List.drop_take]
namespace T29
variable {Q : PV → Ob → Prop}
def Q3 (Q : PV → Ob → Prop) (f e : List Int) (d : Nat) : Prop := ∀ v ob, argsOf ⟨0, .leaf, ob, 0⟩ [li64, li64, i64] (resVals [li64, li64, i64] v) = some (true, (f ++ e.take d, e.drop d, 0)) → Q v ob
theorem imin_eq (a b c : Nat) (h : b ≤ a) (ha : a ≤ 300) : imin (IntKind.wrap .i64 ((a : Int) - (b : Int))) (c : Int) = ((min (a - b) c : Nat) : Int) := by
  rw [_root_.Go.Pe.wr _ (by omega) (by omega)]
  unfold imin
  split <;> omega
theorem min_td (d : Nat) (e : List Int) : e.take (min d e.length) = e.take d ∧ e.drop (min d e.length) = e.drop d := by
  rcases Nat.le_total d e.length with h | h
  · rw [Nat.min_eq_left h]; exact ⟨rfl, rfl⟩
  · rw [Nat.min_eq_right h, List.take_of_length_le (Nat.le_refl _), List.take_of_length_le h, List.drop_of_length_le (Nat.le_refl _), List.drop_of_length_le h]; exact ⟨rfl, rfl⟩
theorem f21 (l f e : List Int) (hl : l.length ≤ 300) (hf : f.length ≤ l.length) (he : e.length ≤ 300) (hq : Q3 Q f e (l.length - f.length)) : Ends X87 (L21 l f.length e.length e f) Q := by
  refine Ends.steq (L21_eq ..) ?_
  rw [imin_eq _ _ _ hf hl]
  have hk : min (l.length - f.length) e.length ≤ e.length := Nat.min_le_right _ _
  obtain ⟨t1, t2⟩ := min_td (l.length - f.length) e
  generalize min (l.length - f.length) e.length = k at *
  refine Ends.steq (L34_eq ..) (Ends.tt (by simp; omega) (Ends.tt (by simp; omega) (Ends.tt (by simp; omega) (Ends.leaf (hq _ _ ?_)))))
  refine three (arg_sl0 rfl rfl (by simp)) (arg_sl rfl rfl (by simp; omega)) ?_ ?_
  · rw [Int.toNat_natCast, t1]
  · rw [Int.toNat_natCast, na]; show (e.drop k).take (e.length - k) = _; rw [List.take_of_length_le (by simp), t2]
theorem f35 (l f e o : List Int) (c : Nat) (hl : l.length ≤ 300) (hf : f.length ≤ l.length) (he : e.length ≤ 300) (ho : o.take e.length = e) (hc : e.length ≤ c) (hoc : o.length = c) (hq : Q3 Q f e (l.length - f.length)) : Ends X87 (L35 l f.length e.length c o f) Q := by
  refine Ends.steq (L35_eq ..) ?_
  rw [imin_eq _ _ _ hf hl]
  have hk : min (l.length - f.length) e.length ≤ e.length := Nat.min_le_right _ _
  obtain ⟨t1, t2⟩ := min_td (l.length - f.length) e
  generalize min (l.length - f.length) e.length = k at *
  refine Ends.steq (L45_eq ..) (Ends.tt (by simp; omega) (Ends.tt (by simp; omega) (Ends.tt (by simp; omega) (Ends.leaf (hq _ _ ?_)))))
  refine three (arg_sl0 rfl rfl (by simp)) (arg_sl rfl rfl (by simp; omega)) ?_ ?_
  · rw [Int.toNat_natCast, take_take' ho hk, t1]
  · rw [Int.toNat_natCast, na]; show (o.drop k).take (e.length - k) = _; rw [drop_take' ho, t2]
theorem f23 (l f : List Int) (hl : l.length ≤ 300) (hf : f.length ≤ l.length) (hq : Q3 Q f [] (l.length - f.length)) : Ends X87 (L23 l f.length f) Q := by
  refine Ends.steq (L23_eq ..) ?_
  have := imin_eq _ _ 0 hf hl
  rw [show ((0 : Nat) : Int) = 0 from rfl] at this
  rw [this, Nat.min_zero]
  refine Ends.steq (L36_eq ..) (Ends.tt (by simp) (Ends.tt (by simp) (Ends.tt (by simp; omega) (Ends.leaf (hq _ _ ?_)))))
  exact three (arg_sl0 rfl rfl (by simp)) arg_nil (by simp) (by simp)
theorem f29 (e : List Int) (hq : Q3 Q [] e 0) : Ends X87 (L29 [] e.length e) Q := by
  refine Ends.steq (L29_eq ..) ?_
  have := imin_eq 0 0 e.length (Nat.le_refl _) (by omega)
  have e0 : imin (IntKind.wrap .i64 ((([] : List Int).length : Int) - 0)) (e.length : Int) = 0 := by
    rw [show ((([] : List Int).length : Int) - 0) = ((0 : Nat) : Int) - ((0 : Nat) : Int) from rfl, this]; simp
  rw [e0]
  refine Ends.steq (L42_eq ..) (Ends.tt (by simp) (Ends.tt (by simp) (Ends.ff (by simp) (Ends.tt (by simp) (Ends.leaf (hq _ _ ?_))))))
  refine three arg_nil (arg_sl rfl rfl (by simp)) (by simp) ?_
  show (e.drop 0).take (e.length - 0) = _; simp
theorem f43 (e o : List Int) (c : Nat) (ho : o.take e.length = e) (hc : e.length ≤ c) (hoc : o.length = c) (hq : Q3 Q [] e 0) : Ends X87 (L43 [] e.length c o) Q := by
  refine Ends.steq (L43_eq ..) ?_
  have := imin_eq 0 0 e.length (Nat.le_refl _) (by omega)
  have e0 : imin (IntKind.wrap .i64 ((([] : List Int).length : Int) - 0)) (e.length : Int) = 0 := by
    rw [show ((([] : List Int).length : Int) - 0) = ((0 : Nat) : Int) - ((0 : Nat) : Int) from rfl, this]; simp
  rw [e0]
  refine Ends.steq (L49_eq ..) (Ends.tt (by simp) (Ends.tt (by simp; omega) (Ends.ff (by simp) (Ends.tt (by simp) (Ends.leaf (hq _ _ ?_))))))
  refine three arg_nil (arg_sl rfl rfl (by simp; omega)) (by simp) ?_
  show (o.drop 0).take (e.length - 0) = _; simpa using ho
theorem f31 (hq : Q3 Q [] [] 0) : Ends X87 (L31 []) Q := by
  refine Ends.steq (L31_eq ..) ?_
  have e0 : imin (IntKind.wrap .i64 ((([] : List Int).length : Int) - 0)) 0 = 0 := by rfl
  rw [e0]
  exact Ends.steq (L44_eq ..) (Ends.tt (by simp) (Ends.tt (by simp) (Ends.leaf (hq _ _ (three arg_nil arg_nil (by simp) (by simp))))))
theorem inplace {f a T : List Int} (ha : a.take f.length = f) (n : Nat) (hn : n = f.length + T.length) (s : List Int) : ((a.take (0 + f.length) ++ (T ++ s)).drop 0).take n = f ++ T := by
  subst hn
  rw [Nat.zero_add, ha, List.drop_zero, ← List.append_assoc, List.take_append_of_le_length (by simp), List.take_of_length_le (by simp)]
theorem f37 (l f e a : List Int) (c : Nat) (hl : l.length ≤ 300) (hf : f.length ≤ l.length) (_he : e.length ≤ 300) (ha : a.take f.length = f) (hac : a.length = c) (hc : c = l.length) (hq : Q3 Q f e (l.length - f.length)) : Ends X87 (L37 l f.length c e.length e a) Q := by
  refine Ends.steq (L37_eq ..) ?_
  rw [imin_eq _ _ _ hf hl]
  have hk : min (l.length - f.length) e.length ≤ e.length := Nat.min_le_right _ _
  have hk2 : min (l.length - f.length) e.length ≤ l.length - f.length := Nat.min_le_left _ _
  obtain ⟨t1, t2⟩ := min_td (l.length - f.length) e
  generalize min (l.length - f.length) e.length = k at *
  refine Ends.steq (L46_eq ..) (Ends.tt (by simp; omega) (Ends.tt (by simp; omega) (Ends.tt (by simp; omega) (Ends.leaf (hq _ _ ?_)))))
  refine three (arg_sl rfl rfl (by simp; omega)) (arg_sl rfl rfl (by simp; omega)) ?_ ?_
  · refine (inplace ha _ rfl _).trans ?_
    rw [Int.toNat_natCast, t1]
  · rw [Int.toNat_natCast, na]; show (e.drop k).take (e.length - k) = _; rw [List.take_of_length_le (by simp), t2]
theorem f47 (l f e a o : List Int) (c c2 : Nat) (hl : l.length ≤ 300) (hf : f.length ≤ l.length) (_he : e.length ≤ 300) (ha : a.take f.length = f) (hac : a.length = c) (hc : c = l.length) (ho : o.take e.length = e) (hc2 : e.length ≤ c2) (hoc : o.length = c2) (hq : Q3 Q f e (l.length - f.length)) : Ends X87 (L47 l f.length c e.length c2 o a) Q := by
  refine Ends.steq (L47_eq ..) ?_
  rw [imin_eq _ _ _ hf hl]
  have hk : min (l.length - f.length) e.length ≤ e.length := Nat.min_le_right _ _
  have hk2 : min (l.length - f.length) e.length ≤ l.length - f.length := Nat.min_le_left _ _
  obtain ⟨t1, t2⟩ := min_td (l.length - f.length) e
  generalize min (l.length - f.length) e.length = k at *
  refine Ends.steq (L50_eq ..) (Ends.tt (by simp; omega) (Ends.tt (by simp; omega) (Ends.tt (by simp; omega) (Ends.leaf (hq _ _ ?_)))))
  refine three (arg_sl rfl rfl (by simp; omega)) (arg_sl rfl rfl (by simp; omega)) ?_ ?_
  · refine (inplace ha _ rfl _).trans ?_
    rw [Int.toNat_natCast, take_take' ho hk, t1]
  · rw [Int.toNat_natCast, na]; show (o.drop k).take (e.length - k) = _; rw [drop_take' ho, t2]
theorem f39 (l f a : List Int) (c : Nat) (hl : l.length ≤ 300) (hf : f.length ≤ l.length) (ha : a.take f.length = f) (hac : a.length = c) (hc : c = l.length) (hq : Q3 Q f [] (l.length - f.length)) : Ends X87 (L39 l f.length c a) Q := by
  refine Ends.steq (L39_eq ..) ?_
  have := imin_eq _ _ 0 hf hl
  rw [show ((0 : Nat) : Int) = 0 from rfl] at this
  rw [this, Nat.min_zero]
  refine Ends.steq (L48_eq ..) (Ends.tt (by simp) (Ends.tt (by simp) (Ends.tt (by simp; omega) (Ends.leaf (hq _ _ ?_)))))
  refine three (arg_sl rfl rfl (by simp; omega)) arg_nil ?_ (by simp)
  rw [inplace ha _ (by simp)]; simp
/-- from the deleting on -/
theorem L5_ends (l r g : List Int) (m : List (Int × Bool)) (hm : SetI m (fun x => x ∈ g)) (hl : l.length ≤ 300) (hr : r.length ≤ 300) (hq : Q3 Q (Sp.stay g l) (Sp.stay g r) (l.length - (Sp.stay g l).length)) : Ends X87 (L5 l r m) Q := by
  have sl := Sp.stay_len g l
  have sr := Sp.stay_len g r
  refine c1 l r m hl (fun hn => ?_) (fun a ha ht => ?_) (fun h => ?_)
  · -- none of the field is gone
    have hs := stay_all hm hn
    rw [hs] at hq
    refine c2 l r m l.length l hr (fun hn2 => ?_) (fun o ho ht2 => ?_) (fun h => ?_)
    · rw [stay_all hm hn2] at hq
      exact f21 l l r hl (Nat.le_refl _) hr hq
    · rw [stay_of hm] at ht2 ⊢
      exact f35 l l (Sp.stay g r) o r.length hl (Nat.le_refl _) (by omega) ht2 sr ho hq
    · subst h
      exact f23 l l hl (Nat.le_refl _) hq
  · rw [stay_of hm] at ht ⊢
    refine c4 l r m (Sp.stay g l).length l.length a hr (fun hn2 => ?_) (fun o ho ht2 => ?_) (fun h => ?_)
    · rw [stay_all hm hn2] at hq
      exact f37 l (Sp.stay g l) r a l.length hl sl hr ht ha rfl hq
    · rw [stay_of hm] at ht2 ⊢
      exact f47 l (Sp.stay g l) (Sp.stay g r) a o l.length r.length hl sl (by omega) ht ha rfl ht2 sr ho hq
    · subst h
      exact f39 l (Sp.stay g l) a l.length hl sl ht ha rfl hq
  · subst h
    have e0 : Sp.stay g [] = [] := rfl
    rw [e0] at hq
    refine c3 [] r m hr (fun hn2 => ?_) (fun o ho ht2 => ?_) (fun h => ?_)
    · rw [stay_all hm hn2] at hq
      exact f29 r hq
    · rw [stay_of hm] at ht2 ⊢
      exact f43 (Sp.stay g r) o r.length ht2 sr ho hq
    · subst h
      exact f31 hq
set_option maxRecDepth 10000 in
theorem L4_ends (l r g : List Int) (m0 : List (Int × Bool)) (hm0 : SetI m0 (fun x => x ∈ l ++ r)) (hg : g.length ≤ 300) (w : Int) (hE : w ≠ 0 → ∀ ob, Q (.tup [.nil, .nil, .dat i64 w]) ob) (hC : w = 0 → ∀ m, SetI m (fun x => x ∈ g) → Ends X87 (L5 l r m) Q) :
    ∀ (s : List Int) (i : Nat) (m : List (Int × Bool)), g.drop i = s → i ≤ g.length → SetI m (fun x => x ∈ g.take i) → Sp.goneE (l ++ r) (g.take i) s = w → Ends X87 (L4 l r g g.length i m m0) Q
  | [], i, m, h, hi, hm, hw => by
    have hi := drop_nil h hi
    subst hi
    rw [List.take_length] at hm
    exact Ends.steq (L4_eq ..) (Ends.ff (by simp) (hC hw.symm m hm))
  | x :: s, i, m, h, hi, hm, hw => by
    obtain ⟨h1, h2, h3⟩ := drop_cons (d := 0) h
    refine Ends.steq (L4_eq ..) (Ends.tt (by simp; omega) (Ends.tt (by simp; omega) (Ends.tt rfl (Ends.tt rfl (Ends.tt rfl ?_)))))
    simp only [Int.toNat_natCast, h2]
    rw [_root_.Go.Pe.wr ((i : Int) + 1) (by omega) (by omega), first2 _ _ _ _ (by decide)]
    unfold Sp.goneE at hw
    have k0 := hm0 x
    have k1 := hm x
    by_cases hx : x ∈ l ++ r
    · rw [if_neg (fun h => h hx)] at hw
      rw [if_neg (by rw [k0.2 hx]; simp)]
      by_cases hy : x ∈ g.take i
      · rw [if_pos hy] at hw
        subst hw
        rw [if_pos (k1.2 hy)]
        exact Ends.tt rfl (Ends.leaf (hE (by decide) _))
      · rw [if_neg hy] at hw
        rw [if_neg (fun e => hy (k1.1 e))]
        refine Ends.ff rfl (L4_ends l r g m0 hm0 hg w hE hC s (i + 1) _ h3 h1 ?_ (by rw [take_next h]; exact hw))
        refine (hm.add x).congr fun y => ?_
        rw [take_next h]; simp; exact Or.comm
    · rw [if_pos hx] at hw
      subst hw
      have : (mget (.int .i64) .bool x m0).getD false = false := by
        cases hh : (mget (.int .i64) .bool x m0).getD false with
        | true => exact absurd (k0.1 hh) hx
        | false => rfl
      rw [if_pos (by rw [this]; rfl)]
      exact Ends.tt rfl (Ends.leaf (hE (by decide) _))
theorem L3_ends (l r g : List Int) (m0 : List (Int × Bool)) (hm0 : SetI m0 (fun x => x ∈ l ++ r)) (hg : g.length ≤ 300) (w : Int) (hw : (if g.length > 200 then 5 else Sp.goneE (l ++ r) [] g) = w) (hE : w ≠ 0 → ∀ ob, Q (.tup [.nil, .nil, .dat i64 w]) ob) (hC : w = 0 → ∀ m, SetI m (fun x => x ∈ g) → Ends X87 (L5 l r m) Q) :
    Ends X87 (L3 l r g m0) Q := by
  refine Ends.steq (L3_eq ..) (Ends.ite (fun c => ?_) (fun c => ?_))
  · rw [if_pos (by simp at c; omega)] at hw
    subst hw
    exact Ends.leaf (hE (by decide) _)
  · rw [if_neg (by simp at c; omega)] at hw
    exact L4_ends l r g m0 hm0 hg w hE hC g 0 [] rfl (by omega) (SetI.nil.congr fun y => by simp) hw
set_option maxRecDepth 10000 in
theorem L2_ends (l r g : List Int) (k : Nat) (a seen : List Int) (ha : a.length ≤ 300) (w : Int) (hw : Sp.intsE seen a = w) (hE : w ≠ 0 → ∀ ob, Q (.tup [.nil, .nil, .dat i64 w]) ob) (hC : w = 0 → ∀ m, SetI m (fun x => x ∈ seen ++ a) → Ends X87 (L1 l r g 2 2 (IntKind.wrap .i64 ((k : Int) + 1)) [l, r] m) Q) :
    ∀ (s : List Int) (i : Nat) (m : List (Int × Bool)), a.drop i = s → i ≤ a.length → SetI m (fun x => x ∈ seen ++ a.take i) → Sp.intsE (seen ++ a.take i) s = w → Ends X87 (L2 l r g 2 2 k a a.length i [l, r] m) Q
  | [], i, m, h, hi, hm, hw => by
    have hi := drop_nil h hi
    subst hi
    rw [List.take_length] at hm
    exact Ends.steq (L2_eq ..) (Ends.ff (by simp) (hC hw.symm m hm))
  | x :: s, i, m, h, hi, hm, hw' => by
    obtain ⟨h1, h2, h3⟩ := drop_cons (d := 0) h
    refine Ends.steq (L2_eq ..) (Ends.tt (by simp; omega) (Ends.tt (by simp; omega) (Ends.tt rfl (Ends.tt rfl (Ends.tt rfl ?_)))))
    simp only [Int.toNat_natCast, h2]
    rw [_root_.Go.Pe.wr ((i : Int) + 1) (by omega) (by omega), first2 _ _ _ _ (by decide)]
    have e2 : Sp.intsE (seen ++ a.take i) (x :: s) = if x < 0 then 3 else if x ∈ seen ++ a.take i then 9 else Sp.intsE (seen ++ a.take i ++ [x]) s := rfl
    rw [e2] at hw'
    have k1 := hm x
    by_cases hx : x < 0
    · rw [if_pos hx] at hw'
      subst hw'
      rw [if_pos (by simpa using hx)]
      exact Ends.tt rfl (Ends.leaf (hE (by decide) _))
    · rw [if_neg hx] at hw'
      rw [if_neg (by simpa using hx)]
      by_cases hy : x ∈ seen ++ a.take i
      · rw [if_pos hy] at hw'
        subst hw'
        rw [if_pos (k1.2 hy)]
        exact Ends.tt rfl (Ends.leaf (hE (by decide) _))
      · rw [if_neg hy] at hw'
        rw [if_neg (fun e => hy (k1.1 e))]
        refine Ends.ff rfl (L2_ends l r g k a seen ha w hw hE hC s (i + 1) _ h3 h1 ?_ (by rw [take_next h, ← List.append_assoc]; exact hw'))
        refine (hm.add x).congr fun y => ?_
        rw [take_next h]; simp; grind
theorem ok : SpecOk C7p 29 cSub := by
  refine spec7 (X := X87) rfl hallX87 (d := 9) (by kernel_rfl) (by kernel_rfl) (by kernel_rfl) (fun (i : List Int × List Int × List Int) hi => ?_) (isSome_ex (by kernel_rfl))
  obtain ⟨l, r, g⟩ := i
  obtain ⟨hl, hr, hg⟩ := okL_of (l := l) (r := r) (g := g) hi
  refine Ends.eq (T_eq l r g) ?_
  have hsub : ∀ w, w = Sp.subE l r g → w ≠ 0 → ∀ ob, Gives cSub (l, r, g) (.tup [.nil, .nil, .dat i64 w]) ob := by
    rintro w rfl hw ob
    exact ⟨([], [], Sp.subE l r g), rfl, by show _ = Sp.Sub l r g; unfold Sp.Sub; rw [if_pos hw]⟩
  have hfin : Sp.subE l r g = 0 → Q3 (Gives cSub (l, r, g)) (Sp.stay g l) (Sp.stay g r) (l.length - (Sp.stay g l).length) := by
    intro h0 v ob h
    exact ⟨_, h, by show _ = Sp.Sub l r g; unfold Sp.Sub; rw [if_neg (by simpa using h0)]; rfl⟩
  have e0 : ([l, r] : List (List Int)).getD (0 : Int).toNat [] = l := rfl
  have e1 : ([l, r] : List (List Int)).getD (1 : Int).toNat [] = r := rfl
  refine Ends.steq (L1_eq ..) (Ends.tt rfl (Ends.tt rfl (Ends.tt rfl ?_)))
  rw [e0]
  unfold Sp.subE at hsub hfin
  refine Ends.ite (fun c => ?_) (fun c => ?_)
  · rw [if_pos (by simp at c; omega)] at hsub
    exact Ends.leaf (hsub 5 rfl (by decide) _)
  rw [if_neg (by simp at c; omega)] at hsub hfin
  refine L2_ends l r g 0 l [] hl (Sp.intsE [] l) rfl (fun hw => hsub _ (by rw [if_pos hw]) hw) (fun hw m hm => ?_) l 0 [] rfl (by omega) (SetI.nil.congr fun y => by simp) rfl
  rw [if_neg (by simpa using hw)] at hsub hfin
  refine Ends.steq (L1_eq ..) (Ends.tt rfl (Ends.tt rfl (Ends.tt rfl ?_)))
  have e1' : ([l, r] : List (List Int)).getD (IntKind.wrap .i64 (((0 : Nat) : Int) + 1)).toNat [] = r := rfl
  rw [e1']
  refine Ends.ite (fun c => ?_) (fun c => ?_)
  · rw [if_pos (by simp at c; omega)] at hsub
    exact Ends.leaf (hsub 5 rfl (by decide) _)
  rw [if_neg (by simp at c; omega)] at hsub hfin
  refine L2_ends l r g 1 r l hr (Sp.intsE l r) rfl (fun hw => hsub _ (by rw [if_pos hw]) hw) (fun hw m hm => ?_) r 0 m rfl (by omega) (hm.congr fun y => by simp) (by simp)
  rw [if_neg (by simpa using hw)] at hsub hfin
  refine Ends.steq (L1_eq ..) (Ends.ff rfl ?_)
  exact L3_ends l r g m hm hg _ rfl (fun hw => hsub _ rfl hw) (fun hw m hm => L5_ends l r g m hm hl hr (hfin hw))
end T29
theorem hallX89 : ∀ g sp, X89.sp g = some sp → SpecOk C7p g sp :=
  sp_cons awake_ok (sp_cons T28.ok (sp_cons T29.ok (sp_cons T30.ok (sp_cons T31.ok (sp_cons T27.ok (fun g sp h => by cases h))))))
noncomputable def cEventSubstitutes : PSpec := ⟨[li64, li64, li64], fun _ => true, [.bool], fun _ => true, false⟩
theorem notlong {l : List Int} (h : Sp.longL l = false) : l.length ≤ 300 := by
  unfold Sp.longL at h
  simp only [Bool.and_eq_false_iff, Bool.or_eq_false_iff, decide_eq_false_iff_not] at h
  omega
namespace T4
theorem ok : SpecOk C7p 4 cEventSubstitutes := by
  refine spec7 (X := X89) rfl hallX89 (d := 9) (by kernel_rfl) (by kernel_rfl) (by kernel_rfl) (fun (i : List Int × List Int × List Int) _ => ?_) (isSome_ex (by kernel_rfl))
  obtain ⟨l, r, g⟩ := i
  have hQ : ∀ ob, Gives cEventSubstitutes (l, r, g) (.dat .bool true) ob := fun ob => Gives.of rfl rfl rfl
  refine Ends.eq (T_eq l r g) (Ends.tt rfl ?_)
  cases h1 : Sp.longL l with
  | true => exact Ends.tt rfl (Ends.tt rfl (Ends.leaf (hQ _)))
  | false =>
  refine Ends.ff rfl (Ends.tt rfl ?_)
  cases h2 : Sp.longL r with
  | true => exact Ends.tt rfl (Ends.tt rfl (Ends.leaf (hQ _)))
  | false =>
  refine Ends.ff rfl (Ends.tt rfl ?_)
  cases h3 : Sp.longL g with
  | true => exact Ends.tt rfl (Ends.tt rfl (Ends.leaf (hQ _)))
  | false =>
  have b1 := notlong h1
  have b2 := notlong h2
  have b3 := notlong h3
  have hok : Sp.okL l r g = true := by unfold Sp.okL; rw [decide_eq_true b1, decide_eq_true b2, decide_eq_true b3]; rfl
  refine Ends.ff rfl (Ends.tt hok (Ends.tt hok ?_))
  have s1 := Sp.stay_len g l
  have s2 := Sp.stay_len g r
  by_cases he : Sp.subE l r g = 0
  · have hs : Sp.Sub l r g = (Sp.subIn l r g, Sp.subOut l r g, 0) := by unfold Sp.Sub; rw [if_neg (by simpa using he)]
    rw [hs, he]
    have l1 : (Sp.subIn l r g).length ≤ 1000000 := by unfold Sp.subIn; simp; omega
    have l2 : (Sp.subOut l r g).length ≤ 1000000 := by unfold Sp.subOut; simp; omega
    exact Ends.tt rfl (Ends.tt hok (Ends.tt (by simp) (Ends.tt (decide_eq_true l1) (Ends.tt (by simp) (Ends.tt (decide_eq_true l2) (Ends.tt (by simp) (Ends.tt rfl (Ends.leaf (hQ _)))))))))
  · have hs : Sp.Sub l r g = ([], [], Sp.subE l r g) := by unfold Sp.Sub; rw [if_pos he]
    rw [hs]
    exact Ends.ff (by simpa using he) (Ends.tt (by simp) (Ends.tt (by simp) (Ends.tt (by simp) (Ends.tt (by simp) (Ends.tt (by simp) (Ends.tt rfl (Ends.leaf (hQ _))))))))
end T4
end Go.Pe
end
