import Derived.Test.YtnbinppdjnlhpaaGreatDoorX38
import Derived.Test.YtnbinppdjnlhpaaGreatDoorX24
/- A part of the proofs of the laws of one chapter (no law is stated here). Made by program out of texts by AI agents. -/
section
/- Lists of numbers; the reference's Substitute; the law EventSubstitutes. -/
namespace Go.Pe
open Go.Det
theorem arg_sl {s : Sh} (hs : s.sz = 1) {ob : Ob} {id off n : Nat} {c : Option Nat} {fz : Bool} {t : TypeId} {o : List s.T} (hg : obGet ob id = some (.arr fz t s o)) (hle : off + n ≤ o.length) :
    argOf ⟨0, .leaf, ob, 0⟩ (.list s) (.sl id 1 off n c) = some (true, (o.drop off).take n) := by
  unfold argOf
  have h2 : byVals ⟨0, .leaf, ob, 0⟩ (PV.cells (.sl id 1 off n c)) = some (true, [.dat (.list s) ((o.drop off).take n)]) := by
    show (match byVal ⟨0, .leaf, ob, 0⟩ (.sl id 1 off n c), some (true, []) with | some (c, x), some (d, xs) => some (c && d, x :: xs) | _, _ => none) = _
    have : byVal ⟨0, .leaf, ob, 0⟩ (.sl id 1 off n c) = some (true, .dat (.list s) ((o.drop off).take n)) := by
      unfold byVal PSt.obj
      simp only [hg, hs, Nat.beq_refl, cond_true]
      rw [decide_eq_true hle]
    rw [this]; rfl
  simp only [isAg, Sh.isP]
  show (match byVals ⟨0, .leaf, ob, 0⟩ (PV.cells (.sl id 1 off n c)) with | some (c, cs) => _ | none => none) = _
  rw [h2]
  have : unflat1 (.list s) [PV.dat (.list s) ((o.drop off).take n)] = some ((o.drop off).take n) := by
    unfold unflat1 unflat asD castD
    simp
  simp only [this]
theorem arg_sl0 {s : Sh} (hs : s.sz = 1) {ob : Ob} {id n : Nat} {c : Option Nat} {fz : Bool} {t : TypeId} {o : List s.T} (hg : obGet ob id = some (.arr fz t s o)) (hle : n = o.length) :
    argOf ⟨0, .leaf, ob, 0⟩ (.list s) (.sl id 1 0 n c) = some (true, o) := by
  rw [arg_sl hs hg (by omega), hle, List.drop_zero, List.take_length]
theorem args_two {st : PSt} {a b : Sh} {l : List Sh} {p : PV} {ps : List PV} {x : a.T} {y : (prodS (b :: l)).T} (h1 : argOf st a p = some (true, x)) (h2 : argsOf st (b :: l) ps = some (true, y)) : argsOf st (a :: b :: l) (p :: ps) = some (true, (x, y)) := by
  show (match argOf st a p, argsOf st (b :: l) ps with | some (c, x), some (d, y) => some (c && d, (x, y)) | _, _ => none) = _
  rw [h1, h2]; rfl
theorem arg_nil {st : PSt} {s : Sh} : argOf st (.list s) .nil = some (true, []) := rfl
theorem take_snoc {α : Type} {l r : List α} {x : α} {i : Nat} (h : l.drop i = x :: r) : l.take (i + 1) = l.take i ++ [x] := take_next h
namespace T28
theorem ok : SpecOk C7p 28 cLong := by
  refine spec7 (X := X87) rfl (fun g sp h => ?_) (d := 9) (by kernel_rfl) (by kernel_rfl) rfl (fun (l : List Int) _ => ?_) (isSome_ex (by kernel_rfl))
  · exact sp_cons awake_ok (sp_cons T92.ok (sp_cons T87.ok (fun g sp h => by cases h))) g sp h
  · have hQ : ∀ v ob, resOf cLong.outs v ob = some (true, Sp.longL l) → Gives cLong l v ob := fun v ob h => ⟨_, h, rfl⟩
    refine Ends.eq (T_eq l) (Ends.ite (fun c => Ends.ite (fun c2 => Ends.leaf (hQ _ _ ?_)) (fun c2 => Ends.leaf (hQ _ _ ?_))) (fun c => Ends.leaf (hQ _ _ ?_)))
    all_goals
      simp only [decide_eq_true_eq, decide_eq_false_iff_not] at *
      unfold Sp.longL
    · rw [decide_eq_true (by omega), decide_eq_true (show l.length ≤ 200 by omega)]; rfl
    · rw [decide_eq_true (show l.length > 20 by omega), decide_eq_false (show ¬ l.length ≤ 200 by omega)]
      simp only [Bool.true_and, Bool.false_or]
      have : decide ((l.length : Int) > 205) = decide (l.length > 205) := by congr 1; apply propext; omega
      rw [this]; rfl
    · rw [decide_eq_false (show ¬ l.length > 20 by omega), decide_eq_false (by omega)]; rfl
end T28
theorem hallX87 : ∀ g sp, X87.sp g = some sp → SpecOk C7p g sp := sp_cons awake_ok (sp_cons T92.ok (sp_cons T87.ok (fun g sp h => by cases h)))
namespace T73
theorem loop {Q : PV → Ob → Prop} (l : List Int) (s : Int) (hl : l.length ≤ 1000000) : ∀ (r : List Int) (i : Nat), l.drop i = r → i ≤ l.length → Q (.bl (Sp.memI r s)) [] → Ends X87 (L1 l s i) Q
  | [], i, h, hi, hq => by
    have := drop_nil h hi
    exact Ends.steq (L1_eq ..) (Ends.ff (by simp; omega) (Ends.leaf (by simpa [Sp.memI] using hq)))
  | x :: r, i, h, hi, hq => by
    obtain ⟨h1, h2, h3⟩ := drop_cons (d := 0) h
    refine Ends.steq (L1_eq ..) (Ends.tt (by simp <;> omega) (Ends.tt (by simp <;> omega) ?_))
    simp only [Int.toNat_natCast, h2, Ends_ite, Ends_leaf, beq_iff_eq]
    rw [wr _ (by omega) (by omega)]
    split
    · rename_i e; subst e; simpa [Sp.memI] using hq
    · rename_i e; exact loop l s hl r (i + 1) h3 h1 (by simpa [Sp.memI, Ne.symm e] using hq)
theorem ok : SpecOk C7p 73 cMemI := by
  refine spec7 (X := X87) rfl hallX87 (d := 9) (by kernel_rfl) (by kernel_rfl) rfl (fun ⟨l, s⟩ hl => ?_) (isSome_ex (by kernel_rfl))
  exact Ends.eq (T_eq l s) (loop l s (by simpa [cMemI] using hl) l 0 rfl (Nat.zero_le _) (Gives.of rfl rfl rfl))
end T73
theorem hallX88 : ∀ g sp, X88.sp g = some sp → SpecOk C7p g sp := sp_cons T73.ok (fun g sp h => by cases h)
theorem okL_of {l r g : List Int} (h : Sp.okL l r g = true) : l.length ≤ 300 ∧ r.length ≤ 300 ∧ g.length ≤ 300 := by
  unfold Sp.okL at h
  simp only [Bool.and_eq_true, decide_eq_true_eq] at h
  exact ⟨h.1.1, h.1.2, h.2⟩
end Go.Pe
namespace Go.Sp
/-- the reference's way to the error -/
def lpE (l r g : List Int) : Nat → List Int → Int
  | _, [] => if g.length > 200 then 5 else goneE (l ++ r) [] g
  | i, x :: s => if (i = 0 ∧ l.length > 200) ∨ (i = l.length ∧ r.length > 200) then 5 else if x < 0 then 3 else if x ∈ (l ++ r).take i then 9 else lpE l r g (i + 1) s
theorem lpE_B (l r g : List Int) (hl : l.length ≤ 200) (hr : r.length ≤ 200) : ∀ (s : List Int) (j : Nat), r.drop j = s → lpE l r g (l.length + j) s = if intsE (l ++ r.take j) s ≠ 0 then intsE (l ++ r.take j) s else if g.length > 200 then 5 else goneE (l ++ r) [] g
  | [], j, h => by simp [lpE, intsE]
  | x :: s, j, h => by
    obtain ⟨h1, h2, h3⟩ := Go.Pe.drop_cons (d := 0) h
    have e : (l ++ r).take (l.length + j) = l ++ r.take j := by rw [List.take_append, List.take_of_length_le (by omega)]; simp
    have e1 : lpE l r g (l.length + j) (x :: s) = if (l.length + j = 0 ∧ l.length > 200) ∨ (l.length + j = l.length ∧ r.length > 200) then 5 else if x < 0 then 3 else if x ∈ (l ++ r).take (l.length + j) then 9 else lpE l r g (l.length + j + 1) s := rfl
    have e2 : intsE (l ++ r.take j) (x :: s) = if x < 0 then 3 else if x ∈ l ++ r.take j then 9 else intsE (l ++ r.take j ++ [x]) s := rfl
    rw [e1, e2, if_neg (by omega), e]
    split
    · simp
    · split
      · simp
      · rw [Nat.add_assoc, lpE_B l r g hl hr s (j + 1) h3, Go.Pe.take_next h, ← List.append_assoc]
theorem lpE_A (l r g : List Int) (hl : l.length ≤ 200) : ∀ (s : List Int) (i : Nat), l.drop i = s → i ≤ l.length → lpE l r g i (s ++ r) = if intsE (l.take i) s ≠ 0 then intsE (l.take i) s else
    if r.length > 200 then 5 else if intsE l r ≠ 0 then intsE l r else if g.length > 200 then 5 else goneE (l ++ r) [] g
  | [], i, h, hi => by
    have hi := Go.Pe.drop_nil h hi
    subst hi
    have e0 : intsE (l.take l.length) [] = 0 := rfl
    rw [e0, if_neg (by simp), List.nil_append]
    by_cases hr : r.length > 200
    · rw [if_pos hr]
      cases r with
      | nil => simp at hr
      | cons x s => unfold lpE; rw [if_pos (by right; exact ⟨rfl, hr⟩)]
    · rw [if_neg hr]
      have := lpE_B l r g hl (by omega) r 0 rfl
      simpa using this
  | x :: s, i, h, hi => by
    obtain ⟨h1, h2, h3⟩ := Go.Pe.drop_cons (d := 0) h
    rw [List.cons_append]
    have e : (l ++ r).take i = l.take i := by rw [List.take_append, show i - l.length = 0 by omega]; simp
    have e1 : lpE l r g i (x :: (s ++ r)) = if (i = 0 ∧ l.length > 200) ∨ (i = l.length ∧ r.length > 200) then 5 else if x < 0 then 3 else if x ∈ (l ++ r).take i then 9 else lpE l r g (i + 1) (s ++ r) := rfl
    have e2 : intsE (l.take i) (x :: s) = if x < 0 then 3 else if x ∈ l.take i then 9 else intsE (l.take i ++ [x]) s := rfl
    rw [e1, e2, if_neg (by omega), e]
    split
    · simp
    · split
      · simp
      · rw [lpE_A l r g hl s (i + 1) h3 h1, Go.Pe.take_next h]
theorem lpE_0 (l r g : List Int) : lpE l r g 0 (l ++ r) = subE l r g := by
  unfold subE
  by_cases hl : l.length > 200
  · rw [if_pos hl]
    cases l with
    | nil => simp at hl
    | cons x s => rw [List.cons_append]; unfold lpE; rw [if_pos (.inl ⟨rfl, hl⟩)]
  · rw [if_neg hl, lpE_A l r g (by omega) l 0 rfl (by omega)]; rfl
end Go.Sp
namespace Go.Pe
open Go.Det
namespace T30
variable {Q : PV → Ob → Prop}
theorem L2_ends (g o : List Int) (hg : g.length ≤ 300) (ho : o.length ≤ 1000) (w : Int) (hq : ∀ ob, Q (.dat i64 w) ob) : ∀ (r : List Int) (i : Nat), g.drop i = r → i ≤ g.length → Sp.goneE o (g.take i) r = w → Ends X88 (L2 g o.length i o) Q
  | [], i, h, hi, he => by
    have := drop_nil h hi
    exact Ends.steq (L2_eq ..) (Ends.ff (by simp; omega) (Ends.leaf (by rw [show (0 : Int) = w from he]; exact hq _)))
  | x :: r, i, h, hi, he => by
    obtain ⟨h1, h2, h3⟩ := drop_cons (d := 0) h
    refine Ends.steq (L2_eq ..) (Ends.tt (by simp; omega) (Ends.tt (by simp; omega) (Ends.tt (by simp; omega) ?_)))
    simp only [Int.toNat_natCast, h2]
    rw [wr ((i : Int) + 1) (by omega) (by omega), List.take_length]
    unfold Sp.goneE at he
    refine Ends.ite (fun c => ?_) (fun c => Ends.tt (by simp; omega) (Ends.tt (by simp; omega) (Ends.tt (by simp; omega) (Ends.ite (fun c2 => ?_) (fun c2 => ?_)))))
    · rw [if_pos (by simpa [Sp.memI] using c)] at he
      rw [he]; exact Ends.leaf (hq _)
    · rw [if_neg (by simpa [Sp.memI] using c), if_pos (by simpa [Sp.memI] using c2)] at he
      rw [he]; exact Ends.leaf (hq _)
    · rw [if_neg (by simpa [Sp.memI] using c), if_neg (by simpa [Sp.memI] using c2)] at he
      exact L2_ends g o hg ho w hq r (i + 1) h3 h1 (by rw [take_next h]; exact he)
set_option maxRecDepth 10000 in
theorem L1_ends (l r g : List Int) (hl : l.length ≤ 300) (hr : r.length ≤ 300) (hg : g.length ≤ 300) (w : Int) (hq : ∀ ob, Q (.dat i64 w) ob) : ∀ (s : List Int) (i : Nat), (l ++ r).drop i = s → i ≤ (l ++ r).length → Sp.lpE l r g i s = w → Ends X88 (L1 l r g (l ++ r).length i (l ++ r)) Q
  | [], i, h, hi, he => by
    have := drop_nil h hi
    refine Ends.steq (L1_eq ..) (Ends.ff (by simp; simp at this; omega) ?_)
    unfold Sp.lpE at he
    refine Ends.ite (fun c => ?_) (fun c => ?_)
    · rw [if_pos (by simp at c; omega)] at he
      rw [he]; exact Ends.leaf (hq _)
    · rw [if_neg (by simp at c; omega)] at he
      exact L2_ends g (l ++ r) hg (by simp; omega) w hq g 0 rfl (by omega) he
  | x :: s, i, h, hi, he => by
    obtain ⟨h1, h2, h3⟩ := drop_cons (d := 0) h
    have hlen : (l ++ r).length = l.length + r.length := by simp
    refine Ends.steq (L1_eq ..) (Ends.tt (by simp; simp at h1; omega) ?_)
    have go := L1_ends l r g hl hr hg w hq s (i + 1) h3 h1
    unfold Sp.lpE at he
    generalize l ++ r = o at *
    simp only [Int.toNat_natCast, h2]
    rw [wr ((i : Int) + 1) (by omega) (by omega)]
    have q5 : ((i = 0 ∧ l.length > 200) ∨ (i = l.length ∧ r.length > 200)) → ∀ ob, Q (.dat i64 5) ob := fun hc ob => by rw [if_pos hc] at he; rw [he]; exact hq ob
    have q3 : ¬ ((i = 0 ∧ l.length > 200) ∨ (i = l.length ∧ r.length > 200)) → x < 0 → ∀ ob, Q (.dat i64 3) ob := fun hc h0 ob => by rw [if_neg hc, if_pos h0] at he; rw [he]; exact hq ob
    have q9 : ¬ ((i = 0 ∧ l.length > 200) ∨ (i = l.length ∧ r.length > 200)) → ¬ x < 0 → Sp.memI (o.take i) x = true → ∀ ob, Q (.dat i64 9) ob := fun hc h0 hm ob => by
      rw [if_neg hc, if_neg h0, if_pos (by simpa [Sp.memI] using hm)] at he; rw [he]; exact hq ob
    have qg : ¬ ((i = 0 ∧ l.length > 200) ∨ (i = l.length ∧ r.length > 200)) → ¬ x < 0 → Sp.memI (o.take i) x = false → Ends X88 (L1 l r g o.length ((i + 1 : Nat) : Int) o) Q := fun hc h0 hm => by
      rw [if_neg hc, if_neg h0, if_neg (by simpa [Sp.memI] using hm)] at he; exact go he
    generalize Sp.memI (o.take i) x = m at *
    have e1 : ((i : Int) + 1) = ((i + 1 : Nat) : Int) := by push_cast; rfl
    rw [e1]
    clear go he hq h2 h3 h
    have b1 : (decide ((0 : Int) ≤ (i : Int)) && decide ((i : Int) < (o.length : Int))) = true := by simp; omega
    have b2 : decide (i < o.length) = true := by simp; omega
    have b3 : (decide ((0 : Int) ≤ (i : Int)) && true && decide (0 ≤ i) && decide (i ≤ Option.getD none o.length) && decide (Option.getD none o.length ≤ Option.getD none o.length) && true) = true := by simp; omega
    have b4 : (decide (0 + i ≤ o.length) && true && true && decide ((o.take i).length ≤ 1000000)) = true := by simp; omega
    simp only [b1, b2, b3, b4]
    have bd : ∀ (hc : ¬ ((i = 0 ∧ l.length > 200) ∨ (i = l.length ∧ r.length > 200))), Ends X88 (.ite true (.ite true (.ite (decide (x < 0)) (.leaf (.dat i64 3) [(0, .arr false 3 (.int .i64) o)]) (.ite true (.ite true (.ite true (.ite true (.ite m (.leaf (.dat i64 9) [(0, .arr false 3 (.int .i64) o)]) (L1 l r g o.length ((i + 1 : Nat) : Int) o)) .fail) .fail) .fail) .fail)) .fail) .fail) Q := fun hc =>
      Ends.tt rfl (Ends.tt rfl (Ends.ite (fun c => Ends.leaf (q3 hc (of_decide_eq_true c) _)) (fun c => Ends.tt rfl (Ends.tt rfl (Ends.tt rfl (Ends.tt rfl (Ends.ite (fun c2 => Ends.leaf (q9 hc (of_decide_eq_false c) c2 _)) (fun c2 => qg hc (of_decide_eq_false c) c2))))))))
    refine Ends.ite (fun c => Ends.ite (fun c2 => Ends.leaf (q5 ?_ _)) (fun c2 => Ends.ite (fun c3 => Ends.ite (fun c4 => Ends.leaf (q5 ?_ _)) (fun c4 => bd ?_)) (fun c3 => bd ?_))) (fun c => Ends.ite (fun c3 => Ends.ite (fun c4 => Ends.leaf (q5 ?_ _)) (fun c4 => bd ?_)) (fun c3 => bd ?_))
    all_goals simp only [beq_iff_eq, beq_eq_false_iff_ne, decide_eq_true_eq, decide_eq_false_iff_not] at *; omega
theorem ok : SpecOk C7p 30 cLists := by
  refine spec7 (X := X88) rfl hallX88 (d := 9) (by kernel_rfl) (by kernel_rfl) (by kernel_rfl) (fun (i : List Int × List Int × List Int) hi => ?_) (isSome_ex (by kernel_rfl))
  obtain ⟨l, r, g⟩ := i
  obtain ⟨hl, hr, hg⟩ := okL_of (l := l) (r := r) (g := g) hi
  refine Ends.eq (T_eq l r g) (Ends.tt (by simp; omega) (Ends.tt (by simp; omega) ?_))
  have e : Nat.add (Nat.add 0 l.length) r.length = (l ++ r).length := by simp
  rw [e, List.nil_append]
  exact L1_ends l r g hl hr hg (Sp.subE l r g) (fun ob => ⟨Sp.subE l r g, rfl, rfl⟩) (l ++ r) 0 rfl (by omega) (Sp.lpE_0 l r g)
end T30
end Go.Pe
end
section
/- The reference's Substitute; the law EventSubstitutes. -/
namespace Go.Sp
theorem stay_cons (g : List Int) (x : Int) (s : List Int) : stay g (x :: s) = if x ∈ g then stay g s else x :: stay g s := by
  unfold stay
  by_cases h : x ∈ g <;> simp [h]
/-- out and rest, reserve by reserve -/
def fold2 (n : Nat) (g : List Int) : List Int → List Int → List Int → List Int × List Int
  | a, b, [] => (a, b)
  | a, b, x :: s => if x ∈ g then fold2 n g a b s else if a.length < n then fold2 n g (a ++ [x]) b s else fold2 n g a (b ++ [x]) s
theorem fold2_eq (n : Nat) (g : List Int) : ∀ (s a b : List Int), fold2 n g a b s = (a ++ (stay g s).take (n - a.length), b ++ (stay g s).drop (n - a.length))
  | [], a, b => by simp [fold2, stay]
  | x :: s, a, b => by
    unfold fold2
    rw [stay_cons]
    split
    · exact fold2_eq n g s a b
    · split
      · rename_i h
        rw [fold2_eq n g s (a ++ [x]) b]
        have e : n - a.length = (n - (a ++ [x]).length) + 1 := by simp; omega
        rw [e, List.take_succ_cons, List.drop_succ_cons, List.append_assoc]; rfl
      · rename_i h
        rw [fold2_eq n g s a (b ++ [x])]
        have e : n - a.length = 0 := by omega
        rw [e]; simp
theorem stay_len (g l : List Int) : (stay g l).length ≤ l.length := List.length_filter_le _ _
theorem fold2_0 (l r g : List Int) : fold2 l.length g (stay g l) [] r = (subIn l r g, subOut l r g) := by
  rw [fold2_eq]; rfl
end Go.Sp
namespace Go.Pe
open Go.Det
namespace T31
variable {Q : PV → Ob → Prop}
def Two (Q : PV → Ob → Prop) (w : List Int × List Int) : Prop := ∀ v ob, argsOf ⟨0, .leaf, ob, 0⟩ [li64, li64] (resVals [li64, li64] v) = some (true, w) → Q v ob
theorem L6_ends (l r g : List Int) (w : List Int × List Int) (hl : l.length ≤ 300) (hr : r.length ≤ 300) (hg : g.length ≤ 300) (hq : Two Q w) : ∀ (s : List Int) (i : Nat) (a b : List Int), r.drop i = s → i ≤ r.length → a.length ≤ 300 + i → b.length ≤ i → Sp.fold2 l.length g a b s = w →
    Ends X88 (L6 l r g a.length b.length i b a) Q
  | [], i, a, b, h, hi, ha, hb, hw => by
    have := drop_nil h hi
    refine Ends.steq (L6_eq ..) (Ends.ff (by simp; omega) (Ends.leaf (hq _ _ ?_)))
    rw [← hw]
    exact args_two (arg_sl0 rfl rfl rfl) (arg_sl0 rfl rfl rfl)
  | x :: s, i, a, b, h, hi, ha, hb, hw => by
    obtain ⟨h1, h2, h3⟩ := drop_cons (d := 0) h
    refine Ends.steq (L6_eq ..) (Ends.tt (by simp; omega) (Ends.tt (by simp; omega) (Ends.tt (by simp; omega) ?_)))
    simp only [Int.toNat_natCast, h2]
    rw [wr ((i : Int) + 1) (by omega) (by omega)]
    unfold Sp.fold2 at hw
    refine Ends.ite (fun c => ?_) (fun c => Ends.ite (fun c2 => Ends.tt (by simp; omega) (Ends.tt (by simp; omega) ?_)) (fun c2 => Ends.tt (by simp; omega) (Ends.tt (by simp; omega) ?_)))
    · rw [if_pos (by simpa [Sp.memI] using c)] at hw
      exact L6_ends l r g w hl hr hg hq s (i + 1) a b h3 h1 (by omega) (by omega) hw
    · rw [if_neg (by simpa [Sp.memI] using c), if_pos (by simpa using c2)] at hw
      have e : Nat.add a.length 1 = (a ++ [x]).length := by simp
      rw [e]
      exact L6_ends l r g w hl hr hg hq s (i + 1) (a ++ [x]) b h3 h1 (by simp; omega) (by omega) hw
    · rw [if_neg (by simpa [Sp.memI] using c), if_neg (by simpa using c2)] at hw
      have e : Nat.add b.length 1 = (b ++ [x]).length := by simp
      rw [e]
      exact L6_ends l r g w hl hr hg hq s (i + 1) a (b ++ [x]) h3 h1 (by omega) (by simp; omega) hw
theorem L5_ends (l r g : List Int) (w : List Int × List Int) (hl : l.length ≤ 300) (hr : r.length ≤ 300) (hg : g.length ≤ 300) (hq : Two Q w) : ∀ (s : List Int) (i : Nat) (b : List Int), r.drop i = s → i ≤ r.length → b.length ≤ i → Sp.fold2 l.length g [] b s = w →
    Ends X88 (L5 l r g b.length i b) Q
  | [], i, b, h, hi, hb, hw => by
    have := drop_nil h hi
    refine Ends.steq (L5_eq ..) (Ends.ff (by simp; omega) (Ends.leaf (hq _ _ ?_)))
    rw [← hw]
    exact args_two arg_nil (arg_sl0 rfl rfl rfl)
  | x :: s, i, b, h, hi, hb, hw => by
    obtain ⟨h1, h2, h3⟩ := drop_cons (d := 0) h
    refine Ends.steq (L5_eq ..) (Ends.tt (by simp; omega) (Ends.tt (by simp; omega) (Ends.tt (by simp; omega) ?_)))
    simp only [Int.toNat_natCast, h2]
    rw [wr ((i : Int) + 1) (by omega) (by omega)]
    unfold Sp.fold2 at hw
    refine Ends.ite (fun c => ?_) (fun c => Ends.ite (fun c2 => Ends.tt (by simp; omega) (Ends.tt (by simp) ?_)) (fun c2 => Ends.tt (by simp; omega) (Ends.tt (by simp; omega) ?_)))
    · rw [if_pos (by simpa [Sp.memI] using c)] at hw
      exact L5_ends l r g w hl hr hg hq s (i + 1) b h3 h1 (by omega) hw
    · rw [if_neg (by simpa [Sp.memI] using c), if_pos (by simpa using c2)] at hw
      exact L6_ends l r g w hl hr hg hq s (i + 1) [x] b h3 h1 (by simp; omega) (by omega) hw
    · rw [if_neg (by simpa [Sp.memI] using c), if_neg (by simpa using c2)] at hw
      have e : Nat.add b.length 1 = (b ++ [x]).length := by simp
      rw [e]
      exact L5_ends l r g w hl hr hg hq s (i + 1) (b ++ [x]) h3 h1 (by simp; omega) hw
theorem L4_ends (l r g : List Int) (w : List Int × List Int) (hl : l.length ≤ 300) (hr : r.length ≤ 300) (hg : g.length ≤ 300) (hq : Two Q w) : ∀ (s : List Int) (i : Nat) (a : List Int), r.drop i = s → i ≤ r.length → a.length ≤ 300 + i → Sp.fold2 l.length g a [] s = w →
    Ends X88 (L4 l r g a.length i a) Q
  | [], i, a, h, hi, ha, hw => by
    have := drop_nil h hi
    refine Ends.steq (L4_eq ..) (Ends.ff (by simp; omega) (Ends.leaf (hq _ _ ?_)))
    rw [← hw]
    exact args_two (arg_sl0 rfl rfl rfl) arg_nil
  | x :: s, i, a, h, hi, ha, hw => by
    obtain ⟨h1, h2, h3⟩ := drop_cons (d := 0) h
    refine Ends.steq (L4_eq ..) (Ends.tt (by simp; omega) (Ends.tt (by simp; omega) (Ends.tt (by simp; omega) ?_)))
    simp only [Int.toNat_natCast, h2]
    rw [wr ((i : Int) + 1) (by omega) (by omega)]
    unfold Sp.fold2 at hw
    refine Ends.ite (fun c => ?_) (fun c => Ends.ite (fun c2 => Ends.tt (by simp; omega) (Ends.tt (by simp; omega) ?_)) (fun c2 => Ends.tt (by simp; omega) (Ends.tt (by simp) ?_)))
    · rw [if_pos (by simpa [Sp.memI] using c)] at hw
      exact L4_ends l r g w hl hr hg hq s (i + 1) a h3 h1 (by omega) hw
    · rw [if_neg (by simpa [Sp.memI] using c), if_pos (by simpa using c2)] at hw
      have e : Nat.add a.length 1 = (a ++ [x]).length := by simp
      rw [e]
      exact L4_ends l r g w hl hr hg hq s (i + 1) (a ++ [x]) h3 h1 (by simp; omega) hw
    · rw [if_neg (by simpa [Sp.memI] using c), if_neg (by simpa using c2)] at hw
      exact L6_ends l r g w hl hr hg hq s (i + 1) a [x] h3 h1 (by omega) (by simp) hw
theorem L3_ends (l r g : List Int) (w : List Int × List Int) (hl : l.length ≤ 300) (hr : r.length ≤ 300) (hg : g.length ≤ 300) (hq : Two Q w) : ∀ (s : List Int) (i : Nat), r.drop i = s → i ≤ r.length → Sp.fold2 l.length g [] [] s = w →
    Ends X88 (L3 l r g i) Q
  | [], i, h, hi, hw => by
    have := drop_nil h hi
    refine Ends.steq (L3_eq ..) (Ends.ff (by simp; omega) (Ends.leaf (hq _ _ ?_)))
    rw [← hw]
    exact args_two arg_nil arg_nil
  | x :: s, i, h, hi, hw => by
    obtain ⟨h1, h2, h3⟩ := drop_cons (d := 0) h
    refine Ends.steq (L3_eq ..) (Ends.tt (by simp; omega) (Ends.tt (by simp; omega) (Ends.tt (by simp; omega) ?_)))
    simp only [Int.toNat_natCast, h2]
    rw [wr ((i : Int) + 1) (by omega) (by omega)]
    unfold Sp.fold2 at hw
    refine Ends.ite (fun c => ?_) (fun c => Ends.ite (fun c2 => Ends.tt (by simp; omega) (Ends.tt (by simp) ?_)) (fun c2 => Ends.tt (by simp; omega) (Ends.tt (by simp) ?_)))
    · rw [if_pos (by simpa [Sp.memI] using c)] at hw
      exact L3_ends l r g w hl hr hg hq s (i + 1) h3 h1 hw
    · rw [if_neg (by simpa [Sp.memI] using c), if_pos (by simpa using c2)] at hw
      exact L4_ends l r g w hl hr hg hq s (i + 1) [x] h3 h1 (by simp; omega) hw
    · rw [if_neg (by simpa [Sp.memI] using c), if_neg (by simpa using c2)] at hw
      exact L5_ends l r g w hl hr hg hq s (i + 1) [x] h3 h1 (by simp) hw
theorem L2_ends (l r g : List Int) (w : List Int × List Int) (hl : l.length ≤ 300) (hr : r.length ≤ 300) (hg : g.length ≤ 300) (hq : Two Q w) : ∀ (s : List Int) (i : Nat) (a : List Int), l.drop i = s → i ≤ l.length → a.length ≤ i → Sp.fold2 l.length g (a ++ Sp.stay g s) [] r = w →
    Ends X88 (L2 l r g a.length i a) Q
  | [], i, a, h, hi, ha, hw => by
    have := drop_nil h hi
    refine Ends.steq (L2_eq ..) (Ends.ff (by simp; omega) ?_)
    exact L4_ends l r g w hl hr hg hq r 0 a rfl (by omega) (by omega) (by simpa [Sp.stay] using hw)
  | x :: s, i, a, h, hi, ha, hw => by
    obtain ⟨h1, h2, h3⟩ := drop_cons (d := 0) h
    refine Ends.steq (L2_eq ..) (Ends.tt (by simp; omega) (Ends.tt (by simp; omega) (Ends.tt (by simp; omega) ?_)))
    simp only [Int.toNat_natCast, h2]
    rw [wr ((i : Int) + 1) (by omega) (by omega)]
    rw [Sp.stay_cons] at hw
    refine Ends.ite (fun c => Ends.tt (by simp; omega) (Ends.tt (by simp; omega) ?_)) (fun c => ?_)
    · rw [if_neg (by simpa [Sp.memI] using c)] at hw
      have e : Nat.add a.length 1 = (a ++ [x]).length := by simp
      rw [e]
      exact L2_ends l r g w hl hr hg hq s (i + 1) (a ++ [x]) h3 h1 (by simp; omega) (by rw [List.append_assoc]; exact hw)
    · rw [if_pos (by simpa [Sp.memI] using c)] at hw
      exact L2_ends l r g w hl hr hg hq s (i + 1) a h3 h1 (by omega) hw
theorem L1_ends (l r g : List Int) (w : List Int × List Int) (hl : l.length ≤ 300) (hr : r.length ≤ 300) (hg : g.length ≤ 300) (hq : Two Q w) : ∀ (s : List Int) (i : Nat), l.drop i = s → i ≤ l.length → Sp.fold2 l.length g (Sp.stay g s) [] r = w →
    Ends X88 (L1 l r g i) Q
  | [], i, h, hi, hw => by
    have := drop_nil h hi
    refine Ends.steq (L1_eq ..) (Ends.ff (by simp; omega) ?_)
    exact L3_ends l r g w hl hr hg hq r 0 rfl (by omega) (by simpa [Sp.stay] using hw)
  | x :: s, i, h, hi, hw => by
    obtain ⟨h1, h2, h3⟩ := drop_cons (d := 0) h
    refine Ends.steq (L1_eq ..) (Ends.tt (by simp; omega) (Ends.tt (by simp; omega) (Ends.tt (by simp; omega) ?_)))
    simp only [Int.toNat_natCast, h2]
    rw [wr ((i : Int) + 1) (by omega) (by omega)]
    rw [Sp.stay_cons] at hw
    refine Ends.ite (fun c => Ends.tt (by simp; omega) (Ends.tt (by simp) ?_)) (fun c => ?_)
    · rw [if_neg (by simpa [Sp.memI] using c)] at hw
      exact L2_ends l r g w hl hr hg hq s (i + 1) [x] h3 h1 (by simp) hw
    · rw [if_pos (by simpa [Sp.memI] using c)] at hw
      exact L1_ends l r g w hl hr hg hq s (i + 1) h3 h1 hw
theorem ok : SpecOk C7p 31 cSubR := by
  refine spec7 (X := X88) rfl hallX88 (d := 9) (by kernel_rfl) (by kernel_rfl) (by kernel_rfl) (fun (i : List Int × List Int × List Int) hi => ?_) (isSome_ex (by kernel_rfl))
  obtain ⟨l, r, g⟩ := i
  obtain ⟨hl, hr, hg⟩ := okL_of (l := l) (r := r) (g := g) hi
  refine Ends.eq (T_eq l r g) ?_
  refine L1_ends l r g (Sp.subIn l r g, Sp.subOut l r g) hl hr hg (fun v ob h => ⟨(Sp.subIn l r g, Sp.subOut l r g), h, rfl⟩) l 0 rfl (by omega) (Sp.fold2_0 l r g)
end T31
end Go.Pe
end
section
/- The program's Substitute. -/
namespace Go.Pe
open Go.Det
section gen
variable {X : PCtx} {Q : PV → Ob → Prop}
theorem idx_gen (l : List Int) (p : Int → Bool) (F : Int → Tr) (no : Tr) (yes : Int → Tr)
    (hstep : ∀ (i : Nat) (x : Int), i < l.length → l.getD i 0 = x → (p x = true → Ends X (yes i) Q) → (p x = false → Ends X (F ((i + 1 : Nat) : Int)) Q) → Ends X (F i) Q)
    (hend : Ends X no Q → Ends X (F l.length) Q) (hn : (∀ x ∈ l, p x = false) → Ends X no Q)
    (hs : ∀ i : Nat, i < l.length → (∀ x ∈ l.take i, p x = false) → p (l.getD i 0) = true → Ends X (yes i) Q) : ∀ (s : List Int) (i : Nat), l.drop i = s → i ≤ l.length → (∀ x ∈ l.take i, p x = false) → Ends X (F i) Q
  | [], i, h, hi, ht => by
    have hi := drop_nil h hi
    subst hi
    rw [List.take_length] at ht
    exact hend (hn ht)
  | x :: s, i, h, hi, ht => by
    obtain ⟨h1, h2, h3⟩ := drop_cons (d := 0) h
    refine hstep i x h1 h2 (fun hp => hs i h1 ht (by rw [h2]; exact hp)) (fun hp => ?_)
    refine idx_gen l p F no yes hstep hend hn hs s (i + 1) h3 h1 ?_
    rw [take_next h]
    intro y hy
    rcases List.mem_append.1 hy with h | h
    · exact ht y h
    · rw [List.mem_singleton.1 h]; exact hp
theorem del_gen (l : List Int) (p : Int → Bool) (D : Int → Int → List Int → Tr)
    (hstep : ∀ (w i : Nat) (arr : List Int) (x : Int), w < i → i < l.length → arr.length = l.length → arr.getD i 0 = x → (p x = true → Ends X (D w ((i + 1 : Nat) : Int) arr) Q) → (p x = false → Ends X (D ((w + 1 : Nat) : Int) ((i + 1 : Nat) : Int) (arr.set w x)) Q) → Ends X (D w i arr) Q)
    (hfin : ∀ arr, arr.length = l.length → arr.take (l.filter fun x => !p x).length = (l.filter fun x => !p x) → Ends X (D (l.filter fun x => !p x).length l.length arr) Q) :
    ∀ (s : List Int) (w i : Nat) (arr : List Int), l.drop i = s → i ≤ l.length → w < i → arr.length = l.length → arr.drop i = s → arr.take w = (l.take i).filter (fun x => !p x) → w = ((l.take i).filter (fun x => !p x)).length → Ends X (D w i arr) Q
  | [], w, i, arr, h, hi, hw, ha, hd, ht, hwl => by
    have hi := drop_nil h hi
    subst hi
    rw [List.take_length] at ht hwl
    subst hwl
    exact hfin arr ha ht
  | x :: s, w, i, arr, h, hi, hw, ha, hd, ht, hwl => by
    obtain ⟨h1, h2, h3⟩ := drop_cons (d := 0) h
    obtain ⟨g1, g2, g3⟩ := drop_cons (d := 0) hd
    refine hstep w i arr x hw h1 ha g2 (fun hp => ?_) (fun hp => ?_)
    · refine del_gen l p D hstep hfin s w (i + 1) arr h3 h1 (by omega) ha g3 ?_ ?_
      · rw [take_next h, List.filter_append, ht]; simp [hp]
      · rw [take_next h, List.filter_append, List.length_append, ← hwl]; simp [hp]
    · refine del_gen l p D hstep hfin s (w + 1) (i + 1) (arr.set w x) h3 h1 (by omega) (by simpa using ha) ?_ ?_ ?_
      · rw [List.drop_set, if_pos (by omega)]; exact g3
      · rw [take_next h, List.filter_append, ← ht]
        have hwa : w < arr.length := by omega
        have e : (arr.set w x).take (w + 1) = arr.take w ++ [x] := by
          rw [List.take_add_one, List.getElem?_set_self hwa, List.take_set_of_le (by omega)]; rfl
        rw [e]; simp [hp]
      · rw [take_next h, List.filter_append, List.length_append, ← hwl]; simp [hp]
end gen
theorem na (n : Nat) : Nat.add 0 n = n := Nat.zero_add n
namespace T29
variable {Q : PV → Ob → Prop}
/-- what the map says of a number -/
def Pm (m : List (Int × Bool)) (x : Int) : Bool := (mget (.int .i64) .bool x m).getD false
theorem c1 (l r : List Int) (m : List (Int × Bool)) (hs : l.length ≤ 300) (hN : (∀ x ∈ l, Pm m x = false) → Ends X87 (L9 l r l.length m l) Q)
    (hF : ∀ arr, arr.length = l.length → arr.take (l.filter fun x => !Pm m x).length = (l.filter fun x => !Pm m x) → Ends X87 (L17 l r (l.filter fun x => !Pm m x).length l.length m arr) Q)
    (h0 : l = [] → Ends X87 (L11 l r m) Q) : Ends X87 (L5 l r m) Q := by
  refine Ends.steq (L5_eq ..) ?_
  rw [na, List.nil_append]
  refine Ends.ite (fun c => Ends.tt (by simp; omega) ?_) (fun c => Ends.both ?_ (Ends.tt (by simp; omega) ?_))
  · refine idx_gen l (Pm m) (fun i => L6 l r m l.length l.length i l m) (L9 l r l.length m l) (fun i => L10 l r m l.length i (i + 1) l m) ?_ ?_ hN ?_ l 0 rfl (by omega) (by simp)
    · intro i x h1 h2 hy hn
      refine Ends.steq (L6_eq ..) (Ends.tt (by simp; omega) (Ends.tt (by simp; omega) (Ends.tt (by simp; omega) ?_)))
      simp only [Int.toNat_natCast, h2, na]
      rw [_root_.Go.Pe.wr ((i : Int) + 1) (by omega) (by omega)]
      exact Ends.ite (fun c => Ends.ff (by simp <;> omega) (hy c)) (fun c => by have := hn c; push_cast at this; exact this)
    · intro h
      refine Ends.steq (L6_eq ..) (Ends.ff (by simp) (Ends.tt rfl ?_))
      rw [na]; exact h
    · intro i h1 ht hp
      have hsp : l.drop i = l.getD i 0 :: l.drop (i + 1) := by
        rw [List.drop_eq_getElem_cons h1]; congr 1; simp [List.getD, List.getElem?_eq_getElem h1]
      have hfi : (l.take i).filter (fun x => !Pm m x) = l.take i := List.filter_eq_self.2 (fun x hx => by rw [ht x hx]; rfl)
      have hfi1 : (l.take (i + 1)).filter (fun x => !Pm m x) = l.take i := by
        rw [take_next hsp, List.filter_append, hfi, List.filter_cons_of_neg (by show ¬ (!Pm m (l.getD i 0)) = true; rw [hp]; simp)]; simp
      refine del_gen l (Pm m) (fun w i a => L10 l r m l.length w i a m) ?_ ?_ (l.drop (i + 1)) i (i + 1) l rfl (by omega) (by omega) rfl rfl hfi1.symm (by rw [hfi1]; simp; omega)
      · intro w k arr x h1 h2 h3 h4 hy hn
        refine Ends.steq (L10_eq ..) (Ends.tt (by simp; omega) (Ends.tt (by simp; omega) (Ends.tt (by simp; omega) ?_)))
        simp only [Int.toNat_natCast, h4]
        rw [_root_.Go.Pe.wr ((k : Int) + 1) (by omega) (by omega), _root_.Go.Pe.wr ((w : Int) + 1) (by omega) (by omega)]
        refine Ends.ite (fun c => Ends.tt (by simp; omega) (Ends.tt (by simp; omega) ?_)) (fun c => ?_)
        · have := hn (by simpa [Pm] using c); push_cast at this; exact this
        · have := hy (by simpa [Pm] using c); push_cast at this; exact this
      · intro arr ha ht2
        have hle : (l.filter fun x => !Pm m x).length ≤ l.length := List.length_filter_le _ _
        generalize (l.filter fun x => !Pm m x) = f at *
        refine Ends.steq (L10_eq ..) (Ends.ff (by simp) (Ends.tt (by simp; omega) (Ends.tt (by simp; omega) (Ends.tt (by simp; omega) ?_))))
        refine hF _ ?_ ?_
        · simp; omega
        · simp only [Int.toNat_natCast, na]
          rw [List.take_append_of_le_length (by simp; omega), List.take_take, Nat.min_self, ht2]
  · have e : l = [] := List.length_eq_zero_iff.1 (by have := of_decide_eq_false c; omega)
    exact Ends.steq (L7_eq ..) (Ends.ff (by simp) (Ends.tt rfl (h0 e)))
  · have e : l = [] := List.length_eq_zero_iff.1 (by have := of_decide_eq_false c; omega)
    refine Ends.steq (L8_eq ..) (Ends.ff (by simp [e]) (Ends.tt rfl ?_))
    rw [na]; exact hN (by rw [e]; simp)
theorem c2 (l r : List Int) (m : List (Int × Bool)) (k : Nat) (o : List Int) (hs : r.length ≤ 300) (hN : (∀ x ∈ r, Pm m x = false) → Ends X87 (L21 l k r.length r o) Q)
    (hF : ∀ arr, arr.length = r.length → arr.take (r.filter fun x => !Pm m x).length = (r.filter fun x => !Pm m x) → Ends X87 (L35 l k (r.filter fun x => !Pm m x).length r.length arr o) Q)
    (h0 : r = [] → Ends X87 (L23 l k o) Q) : Ends X87 (L9 l r k m o) Q := by
  refine Ends.steq (L9_eq ..) ?_
  rw [na, List.nil_append]
  refine Ends.ite (fun c => Ends.tt (by simp; omega) ?_) (fun c => Ends.both ?_ (Ends.tt (by simp; omega) ?_))
  · refine idx_gen r (Pm m) (fun i => L14 l r k m o r.length r.length i r m o) (L21 l k r.length r o) (fun i => L22 l r k m o r.length i (i + 1) r m o) ?_ ?_ hN ?_ r 0 rfl (by omega) (by simp)
    · intro i x h1 h2 hy hn
      refine Ends.steq (L14_eq ..) (Ends.tt (by simp; omega) (Ends.tt (by simp; omega) (Ends.tt (by simp; omega) ?_)))
      simp only [Int.toNat_natCast, h2, na]
      rw [_root_.Go.Pe.wr ((i : Int) + 1) (by omega) (by omega)]
      exact Ends.ite (fun c => Ends.ff (by simp <;> omega) (hy c)) (fun c => by have := hn c; push_cast at this; exact this)
    · intro h
      refine Ends.steq (L14_eq ..) (Ends.ff (by simp) (Ends.tt rfl ?_))
      rw [na]; exact h
    · intro i h1 ht hp
      have hsp : r.drop i = r.getD i 0 :: r.drop (i + 1) := by
        rw [List.drop_eq_getElem_cons h1]; congr 1; simp [List.getD, List.getElem?_eq_getElem h1]
      have hfi : (r.take i).filter (fun x => !Pm m x) = r.take i := List.filter_eq_self.2 (fun x hx => by rw [ht x hx]; rfl)
      have hfi1 : (r.take (i + 1)).filter (fun x => !Pm m x) = r.take i := by
        rw [take_next hsp, List.filter_append, hfi, List.filter_cons_of_neg (by show ¬ (!Pm m (r.getD i 0)) = true; rw [hp]; simp)]; simp
      refine del_gen r (Pm m) (fun w i a => L22 l r k m o r.length w i a m o) ?_ ?_ (r.drop (i + 1)) i (i + 1) r rfl (by omega) (by omega) rfl rfl hfi1.symm (by rw [hfi1]; simp; omega)
      · intro w k arr x h1 h2 h3 h4 hy hn
        refine Ends.steq (L22_eq ..) (Ends.tt (by simp; omega) (Ends.tt (by simp; omega) (Ends.tt (by simp; omega) ?_)))
        simp only [Int.toNat_natCast, h4]
        rw [_root_.Go.Pe.wr ((k : Int) + 1) (by omega) (by omega), _root_.Go.Pe.wr ((w : Int) + 1) (by omega) (by omega)]
        refine Ends.ite (fun c => Ends.tt (by simp; omega) (Ends.tt (by simp; omega) ?_)) (fun c => ?_)
        · have := hn (by simpa [Pm] using c); push_cast at this; exact this
        · have := hy (by simpa [Pm] using c); push_cast at this; exact this
      · intro arr ha ht2
        have hle : (r.filter fun x => !Pm m x).length ≤ r.length := List.length_filter_le _ _
        generalize (r.filter fun x => !Pm m x) = f at *
        refine Ends.steq (L22_eq ..) (Ends.ff (by simp) (Ends.tt (by simp; omega) (Ends.tt (by simp; omega) (Ends.tt (by simp; omega) ?_))))
        refine hF _ ?_ ?_
        · simp; omega
        · simp only [Int.toNat_natCast, na]
          rw [List.take_append_of_le_length (by simp; omega), List.take_take, Nat.min_self, ht2]
  · have e : r = [] := List.length_eq_zero_iff.1 (by have := of_decide_eq_false c; omega)
    exact Ends.steq (L15_eq ..) (Ends.ff (by simp) (Ends.tt rfl (h0 e)))
  · have e : r = [] := List.length_eq_zero_iff.1 (by have := of_decide_eq_false c; omega)
    refine Ends.steq (L16_eq ..) (Ends.ff (by simp [e]) (Ends.tt rfl ?_))
    rw [na]; exact hN (by rw [e]; simp)
theorem c3 (l r : List Int) (m : List (Int × Bool)) (hs : r.length ≤ 300) (hN : (∀ x ∈ r, Pm m x = false) → Ends X87 (L29 l r.length r) Q)
    (hF : ∀ arr, arr.length = r.length → arr.take (r.filter fun x => !Pm m x).length = (r.filter fun x => !Pm m x) → Ends X87 (L43 l (r.filter fun x => !Pm m x).length r.length arr) Q)
    (h0 : r = [] → Ends X87 (L31 l) Q) : Ends X87 (L11 l r m) Q := by
  refine Ends.steq (L11_eq ..) ?_
  rw [na, List.nil_append]
  refine Ends.ite (fun c => Ends.tt (by simp; omega) ?_) (fun c => Ends.both ?_ (Ends.tt (by simp; omega) ?_))
  · refine idx_gen r (Pm m) (fun i => L18 l r m r.length r.length i r m) (L29 l r.length r) (fun i => L30 l r m r.length i (i + 1) r m) ?_ ?_ hN ?_ r 0 rfl (by omega) (by simp)
    · intro i x h1 h2 hy hn
      refine Ends.steq (L18_eq ..) (Ends.tt (by simp; omega) (Ends.tt (by simp; omega) (Ends.tt (by simp; omega) ?_)))
      simp only [Int.toNat_natCast, h2, na]
      rw [_root_.Go.Pe.wr ((i : Int) + 1) (by omega) (by omega)]
      exact Ends.ite (fun c => Ends.ff (by simp <;> omega) (hy c)) (fun c => by have := hn c; push_cast at this; exact this)
    · intro h
      refine Ends.steq (L18_eq ..) (Ends.ff (by simp) (Ends.tt rfl ?_))
      rw [na]; exact h
    · intro i h1 ht hp
      have hsp : r.drop i = r.getD i 0 :: r.drop (i + 1) := by
        rw [List.drop_eq_getElem_cons h1]; congr 1; simp [List.getD, List.getElem?_eq_getElem h1]
      have hfi : (r.take i).filter (fun x => !Pm m x) = r.take i := List.filter_eq_self.2 (fun x hx => by rw [ht x hx]; rfl)
      have hfi1 : (r.take (i + 1)).filter (fun x => !Pm m x) = r.take i := by
        rw [take_next hsp, List.filter_append, hfi, List.filter_cons_of_neg (by show ¬ (!Pm m (r.getD i 0)) = true; rw [hp]; simp)]; simp
      refine del_gen r (Pm m) (fun w i a => L30 l r m r.length w i a m) ?_ ?_ (r.drop (i + 1)) i (i + 1) r rfl (by omega) (by omega) rfl rfl hfi1.symm (by rw [hfi1]; simp; omega)
      · intro w k arr x h1 h2 h3 h4 hy hn
        refine Ends.steq (L30_eq ..) (Ends.tt (by simp; omega) (Ends.tt (by simp; omega) (Ends.tt (by simp; omega) ?_)))
        simp only [Int.toNat_natCast, h4]
        rw [_root_.Go.Pe.wr ((k : Int) + 1) (by omega) (by omega), _root_.Go.Pe.wr ((w : Int) + 1) (by omega) (by omega)]
        refine Ends.ite (fun c => Ends.tt (by simp; omega) (Ends.tt (by simp; omega) ?_)) (fun c => ?_)
        · have := hn (by simpa [Pm] using c); push_cast at this; exact this
        · have := hy (by simpa [Pm] using c); push_cast at this; exact this
      · intro arr ha ht2
        have hle : (r.filter fun x => !Pm m x).length ≤ r.length := List.length_filter_le _ _
        generalize (r.filter fun x => !Pm m x) = f at *
        refine Ends.steq (L30_eq ..) (Ends.ff (by simp) (Ends.tt (by simp; omega) (Ends.tt (by simp; omega) (Ends.tt (by simp; omega) ?_))))
        refine hF _ ?_ ?_
        · simp; omega
        · simp only [Int.toNat_natCast, na]
          rw [List.take_append_of_le_length (by simp; omega), List.take_take, Nat.min_self, ht2]
  · have e : r = [] := List.length_eq_zero_iff.1 (by have := of_decide_eq_false c; omega)
    exact Ends.steq (L19_eq ..) (Ends.ff (by simp) (Ends.tt rfl (h0 e)))
  · have e : r = [] := List.length_eq_zero_iff.1 (by have := of_decide_eq_false c; omega)
    refine Ends.steq (L20_eq ..) (Ends.ff (by simp [e]) (Ends.tt rfl ?_))
    rw [na]; exact hN (by rw [e]; simp)
theorem c4 (l r : List Int) (m : List (Int × Bool)) (k cc : Nat) (o : List Int) (hs : r.length ≤ 300) (hN : (∀ x ∈ r, Pm m x = false) → Ends X87 (L37 l k cc r.length r o) Q)
    (hF : ∀ arr, arr.length = r.length → arr.take (r.filter fun x => !Pm m x).length = (r.filter fun x => !Pm m x) → Ends X87 (L47 l k cc (r.filter fun x => !Pm m x).length r.length arr o) Q)
    (h0 : r = [] → Ends X87 (L39 l k cc o) Q) : Ends X87 (L17 l r k cc m o) Q := by
  refine Ends.steq (L17_eq ..) ?_
  rw [na, List.nil_append]
  refine Ends.ite (fun c => Ends.tt (by simp; omega) ?_) (fun c => Ends.both ?_ (Ends.tt (by simp; omega) ?_))
  · refine idx_gen r (Pm m) (fun i => L26 l r k cc m o r.length r.length i r m o) (L37 l k cc r.length r o) (fun i => L38 l r k cc m o r.length i (i + 1) r m o) ?_ ?_ hN ?_ r 0 rfl (by omega) (by simp)
    · intro i x h1 h2 hy hn
      refine Ends.steq (L26_eq ..) (Ends.tt (by simp; omega) (Ends.tt (by simp; omega) (Ends.tt (by simp; omega) ?_)))
      simp only [Int.toNat_natCast, h2, na]
      rw [_root_.Go.Pe.wr ((i : Int) + 1) (by omega) (by omega)]
      exact Ends.ite (fun c => Ends.ff (by simp <;> omega) (hy c)) (fun c => by have := hn c; push_cast at this; exact this)
    · intro h
      refine Ends.steq (L26_eq ..) (Ends.ff (by simp) (Ends.tt rfl ?_))
      rw [na]; exact h
    · intro i h1 ht hp
      have hsp : r.drop i = r.getD i 0 :: r.drop (i + 1) := by
        rw [List.drop_eq_getElem_cons h1]; congr 1; simp [List.getD, List.getElem?_eq_getElem h1]
      have hfi : (r.take i).filter (fun x => !Pm m x) = r.take i := List.filter_eq_self.2 (fun x hx => by rw [ht x hx]; rfl)
      have hfi1 : (r.take (i + 1)).filter (fun x => !Pm m x) = r.take i := by
        rw [take_next hsp, List.filter_append, hfi, List.filter_cons_of_neg (by show ¬ (!Pm m (r.getD i 0)) = true; rw [hp]; simp)]; simp
      refine del_gen r (Pm m) (fun w i a => L38 l r k cc m o r.length w i a m o) ?_ ?_ (r.drop (i + 1)) i (i + 1) r rfl (by omega) (by omega) rfl rfl hfi1.symm (by rw [hfi1]; simp; omega)
      · intro w k arr x h1 h2 h3 h4 hy hn
        refine Ends.steq (L38_eq ..) (Ends.tt (by simp; omega) (Ends.tt (by simp; omega) (Ends.tt (by simp; omega) ?_)))
        simp only [Int.toNat_natCast, h4]
        rw [_root_.Go.Pe.wr ((k : Int) + 1) (by omega) (by omega), _root_.Go.Pe.wr ((w : Int) + 1) (by omega) (by omega)]
        refine Ends.ite (fun c => Ends.tt (by simp; omega) (Ends.tt (by simp; omega) ?_)) (fun c => ?_)
        · have := hn (by simpa [Pm] using c); push_cast at this; exact this
        · have := hy (by simpa [Pm] using c); push_cast at this; exact this
      · intro arr ha ht2
        have hle : (r.filter fun x => !Pm m x).length ≤ r.length := List.length_filter_le _ _
        generalize (r.filter fun x => !Pm m x) = f at *
        refine Ends.steq (L38_eq ..) (Ends.ff (by simp) (Ends.tt (by simp; omega) (Ends.tt (by simp; omega) (Ends.tt (by simp; omega) ?_))))
        refine hF _ ?_ ?_
        · simp; omega
        · simp only [Int.toNat_natCast, na]
          rw [List.take_append_of_le_length (by simp; omega), List.take_take, Nat.min_self, ht2]
  · have e : r = [] := List.length_eq_zero_iff.1 (by have := of_decide_eq_false c; omega)
    exact Ends.steq (L27_eq ..) (Ends.ff (by simp) (Ends.tt rfl (h0 e)))
  · have e : r = [] := List.length_eq_zero_iff.1 (by have := of_decide_eq_false c; omega)
    refine Ends.steq (L28_eq ..) (Ends.ff (by simp [e]) (Ends.tt rfl ?_))
    rw [na]; exact hN (by rw [e]; simp)
end T29
end Go.Pe
end
