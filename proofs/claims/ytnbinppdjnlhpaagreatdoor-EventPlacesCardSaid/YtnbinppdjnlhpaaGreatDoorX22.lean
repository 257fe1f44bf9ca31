import Derived.Test.YtnbinppdjnlhpaaGreatDoorX21
import Derived.Test.YtnbinppdjnlhpaaGreatDoorX20
/- A part of the proofs of the laws of one chapter (no law is stated here). Made by program out of texts by AI agents. -/
section
namespace Go.Pe
open Go.Det
abbrev LineT := Sp.LineT
namespace T119
theorem ok : SpecOk C7p 119 cCompare := by
  refine spec7 (X := X70) rfl hall70 (d := 9) (by kernel_rfl) (by kernel_rfl) rfl (fun (i : Int × Int) _ => ?_) (isSome_ex (by kernel_rfl))
  obtain ⟨a, b⟩ := i
  have hQ : ∀ n, n = Sp.compare a b → ∀ ob, Gives cCompare (a, b) (.dat i64 n) ob := fun n hn ob => Gives.of rfl rfl hn
  refine Ends.eq (T_eq a b) (Ends.ff (by simp) (Ends.ff (by simp) (Ends.ite (fun c => Ends.leaf (hQ _ ?_ _)) (fun c => Ends.ite (fun c2 => Ends.leaf (hQ _ ?_ _)) (fun c2 => Ends.leaf (hQ _ ?_ _))))))
  · unfold Sp.compare; rw [if_pos (of_decide_eq_true c)]
  · unfold Sp.compare; rw [if_neg (of_decide_eq_false c), if_pos (of_decide_eq_true c2)]
  · unfold Sp.compare; rw [if_neg (of_decide_eq_false c), if_neg (of_decide_eq_false c2)]
end T119
namespace T200
theorem loop {Q : PV → Ob → Prop} (l : List Int) (hl : l.length ≤ 1000000) : ∀ (r : List Int) (i : Nat), l.drop i = r → i ≤ l.length → Q (.dat i64 (Sp.first r)) [] → Ends X70 (L1 0 l l.length i) Q
  | [], i, h, hi, hq => by
    have := drop_nil h hi
    exact Ends.steq (L1_eq ..) (Ends.ff (by simp; omega) (Ends.leaf hq))
  | x :: r, i, h, hi, hq => by
    obtain ⟨h1, h2, h3⟩ := drop_cons (d := 0) h
    refine Ends.steq (L1_eq ..) (Ends.tt (by simp <;> omega) (Ends.tt (by simp <;> omega) ?_))
    simp only [Int.toNat_natCast, h2]
    rw [wr ((i : Int) + 1) (by omega) (by omega)]
    by_cases e : x = 0
    · subst e
      exact Ends.ff rfl (loop l hl r (i + 1) h3 h1 (by simpa [Sp.first] using hq))
    · exact Ends.tt (by simpa using e) (Ends.leaf (by simpa [Sp.first, e] using hq))
theorem ok : SpecOk C7p 200 cFirst := by
  refine spec7 (X := X70) rfl hall70 (d := 9) (by kernel_rfl) (by kernel_rfl) rfl (fun (l : List Int) hl => ?_) (isSome_ex (by kernel_rfl))
  exact Ends.eq (T_eq l) (loop l (by simpa [cFirst] using hl) l 0 rfl (Nat.zero_le _) (Gives.of rfl rfl rfl))
end T200
theorem hallX90 : ∀ g sp, X90.sp g = some sp → SpecOk C7p g sp :=
  sp_cons T87.ok (sp_cons T92.ok (sp_cons T94.ok (sp_cons T158.ok (sp_cons T113.ok (sp_cons T84.ok (sp_cons T112.ok (sp_cons T200.ok (sp_cons T119.ok (fun g sp h => by cases h)))))))))
theorem arg_slz {s : Sh} {sz : Nat} (hs : s.sz = sz) {ob : Ob} {id n : Nat} {c : Option Nat} {fz : Bool} {t : TypeId} {o : List s.T} (hg : obGet ob id = some (.arr fz t s o)) (hle : n = o.length) :
    argOf ⟨0, .leaf, ob, 0⟩ (.list s) (.sl id sz 0 n c) = some (true, o) := by
  subst hs hle
  unfold argOf
  have h2 : byVals ⟨0, .leaf, ob, 0⟩ (PV.cells (.sl id s.sz 0 o.length c)) = some (true, [.dat (.list s) o]) := by
    show (match byVal ⟨0, .leaf, ob, 0⟩ (.sl id s.sz 0 o.length c), some (true, []) with | some (c, x), some (d, xs) => some (c && d, x :: xs) | _, _ => none) = _
    have : byVal ⟨0, .leaf, ob, 0⟩ (.sl id s.sz 0 o.length c) = some (true, .dat (.list s) o) := by
      unfold byVal PSt.obj
      simp only [hg, Nat.beq_refl, cond_true]
      simp
    rw [this]; rfl
  simp only [isAg, Sh.isP]
  show (match byVals ⟨0, .leaf, ob, 0⟩ (PV.cells (.sl id s.sz 0 o.length c)) with | some (c, cs) => _ | none => none) = _
  rw [h2]
  have : unflat1 (.list s) [PV.dat (.list s) o] = some o := by
    unfold unflat1 unflat asD castD
    simp
  simp only [coers_list, this, Bool.true_and]
theorem res1_slz {s : Sh} {sz : Nat} (hs : s.sz = sz) {id n : Nat} {tail : Ob} {fz : Bool} {t : TypeId} {o : List s.T} (hn : n = o.length) : resOf [.list s] (.sl id sz 0 n none) ((id, .arr fz t s o) :: tail) = some (true, o) :=
  arg_slz hs (by unfold obGet; rw [Nat.beq_refl]; rfl) hn
theorem okF_of {l : List LineT} (h : Sp.okF l = true) : l.length ≤ 205 ∧ ∀ x ∈ l, Sp.okLine x = true := by
  unfold Sp.okF at h
  simp only [Bool.and_eq_true, decide_eq_true_eq, List.all_eq_true] at h
  exact h
theorem okLine_of {x : LineT} (h : Sp.okLine x = true) : x.1.length ≤ 40 ∧ x.2.2.1.length ≤ 12 ∧ x.2.2.2.length ≤ 40 := by
  unfold Sp.okLine at h
  simp only [Bool.and_eq_true, decide_eq_true_eq] at h
  exact ⟨h.1.1, h.1.2, h.2⟩
namespace T43
variable {Q : PV → Ob → Prop}
theorem L1_ends (l : List LineT) (hl : l.length ≤ 205) : ∀ (r : List LineT) (i : Nat), l.drop i = r → i ≤ l.length → Q (.bl (r.all Sp.okLine)) [] → Ends X90 (L1 l i) Q
  | [], i, h, hi, hq => by
    have := drop_nil h hi
    exact Ends.steq (L1_eq ..) (Ends.ff (by simp; omega) (Ends.leaf (by simpa using hq)))
  | x :: r, i, h, hi, hq => by
    obtain ⟨h1, h2, h3⟩ := drop_cons (d := ([], false, [], [])) h
    refine Ends.steq (L1_eq ..) (Ends.tt (by simp <;> omega) (Ends.tt (by simp <;> omega) ?_))
    simp only [Int.toNat_natCast, h2]
    rw [wr ((i : Int) + 1) (by omega) (by omega)]
    rw [List.all_cons] at hq
    have no : Sp.okLine x = false → Q (.bl false) [] := fun e => by rw [e] at hq; exact hq
    refine Ends.ite (fun c => Ends.leaf (no ?_)) (fun c => Ends.tt (by simp; omega) (Ends.ite (fun c2 => Ends.leaf (no ?_)) (fun c2 => Ends.tt (by simp; omega) (Ends.ite (fun c3 => Ends.leaf (no ?_)) (fun c3 => ?_)))))
    · have := of_decide_eq_true c
      unfold Sp.okLine; rw [decide_eq_false (show ¬ x.1.length ≤ 40 by omega)]; rfl
    · have := of_decide_eq_true c2
      unfold Sp.okLine; rw [decide_eq_false (show ¬ x.2.2.1.length ≤ 12 by omega)]; simp
    · have := of_decide_eq_true c3
      unfold Sp.okLine; rw [decide_eq_false (show ¬ x.2.2.2.length ≤ 40 by omega)]; simp
    · have e1 := of_decide_eq_false c
      have e2 := of_decide_eq_false c2
      have e3 := of_decide_eq_false c3
      have : Sp.okLine x = true := by
        unfold Sp.okLine
        rw [decide_eq_true (show x.1.length ≤ 40 by omega), decide_eq_true (show x.2.2.1.length ≤ 12 by omega), decide_eq_true (show x.2.2.2.length ≤ 40 by omega)]; rfl
      exact L1_ends l hl r (i + 1) h3 h1 (by rw [this] at hq; exact hq)
theorem ok : SpecOk C7p 43 cShortF := by
  refine spec7 (X := X90) rfl hallX90 (d := 9) (by kernel_rfl) (by kernel_rfl) rfl (fun (i : List LineT × Int) _ => ?_) (isSome_ex (by kernel_rfl))
  obtain ⟨l, n⟩ := i
  have hQ : ∀ b, Sp.shortF l n = b → Gives cShortF (l, n) (.bl b) [] := fun b hb => Gives.of rfl rfl hb.symm
  have go : l.length ≤ 205 → ((l.length : Int) ≤ n ∨ 200 < l.length) → Ends X90 (L1 l 0) (Gives cShortF (l, n)) := fun h1 h2 =>
    L1_ends l h1 l 0 rfl (Nat.zero_le _) (hQ _ (by
      unfold Sp.shortF
      rw [decide_eq_false (show ¬ 205 < l.length by omega)]
      have : (decide ((l.length : Int) > n) && decide (l.length ≤ 200)) = false := by
        rcases h2 with h | h
        · rw [decide_eq_false (show ¬ (l.length : Int) > n by omega)]; rfl
        · rw [decide_eq_false (show ¬ l.length ≤ 200 by omega), Bool.and_false]
      rw [this]; rfl))
  refine Ends.eq (T_eq l n) (Ends.ite (fun c => Ends.ite (fun c2 => Ends.leaf (hQ _ ?_)) (fun c2 => Ends.ite (fun c3 => Ends.leaf (hQ _ ?_)) (fun c3 => go ?_ ?_))) (fun c => Ends.ite (fun c3 => Ends.leaf (hQ _ ?_)) (fun c3 => go ?_ ?_)))
  · have e1 := of_decide_eq_true c
    have e2 := of_decide_eq_true c2
    unfold Sp.shortF; rw [decide_eq_true e1, decide_eq_true (show l.length ≤ 200 by omega)]; rfl
  · have e2 := of_decide_eq_true c3
    unfold Sp.shortF; rw [decide_eq_true (show 205 < l.length by omega)]; simp
  · have := of_decide_eq_false c3; omega
  · have := of_decide_eq_false c2; omega
  · have e2 := of_decide_eq_true c3
    unfold Sp.shortF; rw [decide_eq_true (show 205 < l.length by omega)]; simp
  · have := of_decide_eq_false c3; omega
  · have := of_decide_eq_false c; omega
end T43
namespace T45
variable {Q : PV → Ob → Prop}
theorem L2_ends (l : List LineT) (hl : ∀ x ∈ l, Sp.okLine x = true) (h205 : l.length ≤ 205) (hq : ∀ ob tail, ob = (0, Obj.arr false 126 shLine l) :: tail → Q (.sl 0 4 0 l.length none) ob) : ∀ (r : List LineT) (i : Nat) (acc : List LineT), l.drop i = r → i ≤ l.length → acc.length ≤ i → acc ++ r = l →
    Ends X90 (L2 acc.length l l.length i acc) Q
  | [], i, acc, h, hi, ha, he => by
    have := drop_nil h hi
    rw [List.append_nil] at he
    subst he
    exact Ends.steq (L2_eq ..) (Ends.ff (by simp; omega) (Ends.leaf (hq _ [] rfl)))
  | x :: r, i, acc, h, hi, ha, he => by
    obtain ⟨h1, h2, h3⟩ := drop_cons (d := ([], false, [], [])) h
    have hx := okLine_of (hl x (mem_drop h))
    refine Ends.steq (L2_eq ..) (Ends.tt (by simp <;> omega) (Ends.tt (by simp <;> omega) ?_))
    simp only [Int.toNat_natCast, h2]
    rw [wr ((i : Int) + 1) (by omega) (by omega)]
    refine Ends.tt (by simp; omega) (Ends.tt (by simp) (Ends.tt (by simp; omega) ?_))
    have e : Nat.add acc.length 1 = (acc ++ [x]).length := by simp
    have ex : (x.1, x.2.1, List.take (Nat.add 0 x.2.2.1.length) ([] ++ x.2.2.1), x.2.2.2) = x := by simp
    rw [ex, e]
    exact L2_ends l hl h205 hq r (i + 1) (acc ++ [x]) h3 h1 (by simp; omega) (by rw [List.append_assoc]; exact he)
theorem ok : SpecOk C7p 45 cField := by
  refine spec7 (X := X90) rfl hallX90 (d := 9) (by kernel_rfl) (by kernel_rfl) rfl (fun (l : List LineT) hl => ?_) (isSome_ex (by kernel_rfl))
  obtain ⟨h205, hok⟩ := okF_of (l := l) hl
  refine Ends.eq (T_eq l) ?_
  cases l with
  | nil => exact Ends.steq (L1_eq ..) (Ends.ff (by simp) (Ends.leaf ⟨[], rfl, rfl⟩))
  | cons x r =>
    have hx := okLine_of (hok x (by simp))
    refine Ends.steq (L1_eq ..) (Ends.tt (by simp <;> omega) (Ends.tt (by simp <;> omega) ?_))
    have e0 : (x :: r).getD (0 : Int).toNat ([], false, [], []) = x := rfl
    simp only [e0]
    rw [wr ((0 : Int) + 1) (by omega) (by omega)]
    refine Ends.tt (by simp; omega) (Ends.tt (by simp) (Ends.tt (by simp) ?_))
    have ex : (x.1, x.2.1, List.take (Nat.add 0 x.2.2.1.length) ([] ++ x.2.2.1), x.2.2.2) = x := by simp
    rw [ex]
    refine L2_ends (x :: r) hok h205 ?_ r 1 [x] rfl (by simp) (by simp) rfl
    rintro ob tail rfl
    exact ⟨x :: r, res1_slz (s := shLine) rfl rfl, rfl⟩
end T45
namespace T49
theorem loop {Q : PV → Ob → Prop} (a b : List Sp.PlaceT) (hl : a.length ≤ 1000000) (he : a.length = b.length) : ∀ (r q : List Sp.PlaceT) (i : Nat), a.drop i = r → b.drop i = q → i ≤ a.length → Q (.bl (decide (r = q))) [] → Ends X90 (L1 a b i) Q
  | [], q, i, h, h', hi, hq => by
    have := drop_nil h hi
    have hq0 : q = [] := by rw [← h']; exact List.drop_eq_nil_of_le (by omega)
    subst hq0
    exact Ends.steq (L1_eq ..) (Ends.ff (by simp; omega) (Ends.leaf (by simpa using hq)))
  | x :: r, q, i, h, h', hi, hq => by
    obtain ⟨h1, h2, h3⟩ := drop_cons (d := (0, 0, 0)) h
    cases q with
    | nil =>
      have := congrArg List.length h'
      simp at this; omega
    | cons y q =>
      obtain ⟨g1, g2, g3⟩ := drop_cons (d := (0, 0, 0)) h'
      refine Ends.steq (L1_eq ..) (Ends.tt (by simp <;> omega) (Ends.tt (by simp <;> omega) (Ends.tt (by simp <;> omega) ?_)))
      simp only [Int.toNat_natCast, h2, g2]
      rw [wr ((i : Int) + 1) (by omega) (by omega)]
      have key : (!(x.1 == y.1 && (x.2.1 == y.2.1 && (x.2.2 == y.2.2 && true)))) = !decide (x = y) := by
        obtain ⟨x1, x2, x3⟩ := x
        obtain ⟨y1, y2, y3⟩ := y
        simp only [Bool.and_true, Prod.mk.injEq]
        by_cases c1 : x1 = y1 <;> by_cases c2 : x2 = y2 <;> by_cases c3 : x3 = y3 <;> simp [c1, c2, c3]
      rw [key]
      by_cases e : x = y
      · subst e
        exact Ends.ff (by simp) (loop a b hl he r q (i + 1) h3 g3 h1 (by simpa using hq))
      · exact Ends.tt (by simpa using e) (Ends.leaf (by simpa [e] using hq))
theorem ok : SpecOk C7p 49 cSameP := by
  refine spec7 (X := X90) rfl hallX90 (d := 9) (by kernel_rfl) (by kernel_rfl) rfl (fun (i : List Sp.PlaceT × List Sp.PlaceT) hl => ?_) (isSome_ex (by kernel_rfl))
  obtain ⟨a, b⟩ := i
  refine Ends.eq (T_eq a b) ?_
  by_cases h : a.length = b.length
  · refine Ends.ff (by simp [h]) ?_
    exact loop a b (by simpa [cSameP] using hl) h a b 0 rfl rfl (Nat.zero_le _) (Gives.of rfl rfl rfl)
  · refine Ends.tt (by simp; omega) (Ends.leaf ?_)
    refine Gives.of rfl rfl ?_
    have : a ≠ b := fun e => h (by rw [e])
    simp [cSameP, this]
end T49
theorem sumW_app (l : List Int) (x : Int) : Sp.sumW (l ++ [x]) = IntKind.wrap .i64 (Sp.sumW l + x) := by unfold Sp.sumW; rw [List.foldl_append]; rfl
namespace T58
theorem loop {Q : PV → Ob → Prop} (l : List Int) (n : Int) (hl : l.length ≤ 1000000) (hq : Q (.dat i64 (Sp.sumW (l.take n.toNat))) []) : ∀ (r : List Int) (i : Nat), l.drop i = r → i ≤ l.length → ((i : Int) ≤ n ∨ i = 0) → Ends X90 (L1 l n (Sp.sumW (l.take i)) i) Q
  | [], i, h, hi, hn => by
    have := drop_nil h hi
    have e : l.take n.toNat = l.take i := by rw [List.take_of_length_le (by omega), List.take_of_length_le (by omega)]
    rw [e] at hq
    exact Ends.steq (L1_eq ..) (Ends.ff (by simp; omega) (Ends.leaf hq))
  | x :: r, i, h, hi, hn => by
    obtain ⟨h1, h2, h3⟩ := drop_cons (d := 0) h
    refine Ends.steq (L1_eq ..) (Ends.tt (by simp <;> omega) (Ends.ite (fun c => Ends.tt (by simp <;> omega) ?_) (fun c => ?_)))
    · simp only [Int.toNat_natCast, h2]
      rw [wr ((i : Int) + 1) (by omega) (by omega), ← sumW_app, ← take_next h]
      have := of_decide_eq_true c
      exact loop l n hl hq r (i + 1) h3 h1 (by omega)
    · have := of_decide_eq_false c
      have e : n.toNat = i := by omega
      rw [e] at hq
      exact Ends.leaf hq
theorem ok : SpecOk C7p 58 cSum := by
  refine spec7 (X := X90) rfl hallX90 (d := 9) (by kernel_rfl) (by kernel_rfl) rfl (fun (i : List Int × Int) hl => ?_) (isSome_ex (by kernel_rfl))
  obtain ⟨l, n⟩ := i
  exact Ends.eq (T_eq l n) (loop l n (by simpa [cSum] using hl) (Gives.of rfl rfl rfl) l 0 rfl (Nat.zero_le _) (.inr rfl))
end T58
namespace T120
variable {Q : PV → Ob → Prop}
theorem L2_ends (l : List LineT) (h205 : l.length ≤ 205) (hq : ∀ ob tail, ob = (0, Obj.arr false 9 .str (Sp.lnames l)) :: tail → Q (.sl 0 1 0 (Sp.lnames l).length none) ob) : ∀ (r : List LineT) (i : Nat) (acc : List (List UInt8)), l.drop i = r → i ≤ l.length → acc.length ≤ i → acc ++ Sp.lnames r = Sp.lnames l →
    Ends X90 (L2 l acc.length i acc) Q
  | [], i, acc, h, hi, ha, he => by
    have := drop_nil h hi
    have he : acc = Sp.lnames l := by simpa [Sp.lnames] using he
    subst he
    exact Ends.steq (L2_eq ..) (Ends.ff (by simp; omega) (Ends.leaf (hq _ [] rfl)))
  | x :: r, i, acc, h, hi, ha, he => by
    obtain ⟨h1, h2, h3⟩ := drop_cons (d := ([], false, [], [])) h
    refine Ends.steq (L2_eq ..) (Ends.tt (by simp <;> omega) (Ends.tt (by simp <;> omega) (Ends.tt (by simp; omega) ?_)))
    simp only [Int.toNat_natCast, h2]
    rw [wr ((i : Int) + 1) (by omega) (by omega)]
    have e : Nat.add acc.length 1 = (acc ++ [x.1]).length := by simp
    rw [e]
    exact L2_ends l h205 hq r (i + 1) (acc ++ [x.1]) h3 h1 (by simp; omega) (by rw [List.append_assoc]; exact he)
theorem ok : SpecOk C7p 120 cLNames := by
  refine spec7 (X := X90) rfl hallX90 (d := 9) (by kernel_rfl) (by kernel_rfl) rfl (fun (l : List LineT) hl => ?_) (isSome_ex (by kernel_rfl))
  obtain ⟨h205, hok⟩ := okF_of (l := l) hl
  refine Ends.eq (T_eq l) ?_
  cases l with
  | nil => exact Ends.steq (L1_eq ..) (Ends.ff (by simp) (Ends.leaf ⟨[], rfl, rfl⟩))
  | cons x r =>
    refine Ends.steq (L1_eq ..) (Ends.tt (by simp <;> omega) (Ends.tt (by simp <;> omega) (Ends.tt (by simp) ?_)))
    have e0 : (x :: r).getD (0 : Int).toNat ([], false, [], []) = x := rfl
    simp only [e0]
    rw [wr ((0 : Int) + 1) (by omega) (by omega)]
    refine L2_ends (x :: r) h205 ?_ r 1 [x.1] rfl (by simp) (by simp) rfl
    rintro ob tail rfl
    exact ⟨Sp.lnames (x :: r), res1_sl rfl rfl, rfl⟩
end T120
namespace T116
theorem loop {Q : PV → Ob → Prop} (l : List Int) (hl : l.length ≤ 1000000) (hq : Q (.dat i64 (Sp.sumW l)) []) : ∀ (r : List Int) (i : Nat), l.drop i = r → i ≤ l.length → Ends X90 (L1 (Sp.sumW (l.take i)) l l.length i) Q
  | [], i, h, hi => by
    have := drop_nil h hi
    rw [List.take_of_length_le (by omega)]
    exact Ends.steq (L1_eq ..) (Ends.ff (by simp; omega) (Ends.leaf hq))
  | x :: r, i, h, hi => by
    obtain ⟨h1, h2, h3⟩ := drop_cons (d := 0) h
    refine Ends.steq (L1_eq ..) (Ends.tt (by simp <;> omega) (Ends.tt (by simp <;> omega) ?_))
    simp only [Int.toNat_natCast, h2]
    rw [wr ((i : Int) + 1) (by omega) (by omega), ← sumW_app, ← take_next h]
    exact loop l hl hq r (i + 1) h3 h1
theorem ok : SpecOk C7p 116 cTotal := by
  refine spec7 (X := X90) rfl hallX90 (d := 9) (by kernel_rfl) (by kernel_rfl) rfl (fun (i : LineT × Int) hi => ?_) (isSome_ex (by kernel_rfl))
  obtain ⟨x, n⟩ := i
  have hi : (Sp.okS x && decide (0 ≤ n) && decide (n ≤ (x.2.2.1.length : Int))) = true := hi
  simp only [Bool.and_eq_true, decide_eq_true_eq, Sp.okS] at hi
  refine Ends.eq (T_eq x n) (Ends.tt (by simp; omega) ?_)
  refine loop (x.2.2.1.take n.toNat) (by simp; omega) (Gives.of rfl rfl rfl) _ 0 rfl (Nat.zero_le _)
end T116
namespace T118
theorem ok : SpecOk C7p 118 cCmpP := by
  refine spec7 (X := X90) rfl hallX90 (d := 9) (by kernel_rfl) (by kernel_rfl) rfl (fun (i : Sp.PlaceT × Sp.PlaceT) _ => ?_) (isSome_ex (by kernel_rfl))
  obtain ⟨a, b⟩ := i
  exact Ends.eq (T_eq a b) (Ends.tt rfl (Ends.leaf (Gives.of rfl rfl rfl)))
end T118
end Go.Pe
end
section
namespace Go.Pe
open Go.Det
namespace T125
theorem loop {Q : PV → Ob → Prop} (a l : List (List UInt8)) (y s : List UInt8) (hl : l.length ≤ 1000000) (hq : ∀ b, b = Sp.has l s → Q (.dat .bool b) []) : ∀ (r : List (List UInt8)) (i : Nat), l.drop i = r → i ≤ l.length → (Sp.has l s = Sp.has r s) → Ends X90 (L1 a y l s l.length i) Q
  | [], i, h, hi, he => by
    have := drop_nil h hi
    exact Ends.steq (L1_eq ..) (Ends.ff (by simp; omega) (Ends.leaf (hq _ (by rw [he]; rfl))))
  | x :: r, i, h, hi, he => by
    obtain ⟨h1, h2, h3⟩ := drop_cons (d := []) h
    refine Ends.steq (L1_eq ..) (Ends.tt (by simp <;> omega) (Ends.tt (by simp <;> omega) ?_))
    simp only [Int.toNat_natCast, h2]
    rw [wr ((i : Int) + 1) (by omega) (by omega)]
    by_cases e : s = x
    · subst e
      refine Ends.tt (by simp) (Ends.leaf (hq _ ?_))
      rw [he]
      have : Sp.has (s :: r) s = true := by simp [Sp.has]
      rw [this]; simp
    · refine Ends.ff (by simpa using e) (loop a l y s hl hq r (i + 1) h3 h1 ?_)
      rw [he]; simp [Sp.has, e]
theorem ok : SpecOk C7p 125 cHas := by
  refine spec7 (X := X90) rfl hallX90 (d := 9) (by kernel_rfl) (by kernel_rfl) rfl (fun (i : List (List UInt8) × List UInt8) hl => ?_) (isSome_ex (by kernel_rfl))
  obtain ⟨l, s⟩ := i
  exact Ends.eq (T_eq l s) (loop l l s s (by simpa [cHas] using hl) (fun b hb => Gives.of rfl rfl hb) l 0 rfl (Nat.zero_le _) rfl)
end T125
theorem hallX91 : ∀ g sp, X91.sp g = some sp → SpecOk C7p g sp := sp_cons T125.ok (sp_cons T116.ok (sp_cons T58.ok (sp_cons T120.ok hallX90)))
abbrev DL : LineT := ([], false, [], [])
theorem orE0 (b : Int) : Sp.orE 0 b = b := rfl
theorem lnames_drop {l r : List LineT} {x : LineT} {i : Nat} (h : l.drop i = x :: r) : (Sp.lnames l).drop i = x.1 :: Sp.lnames r := by
  unfold Sp.lnames; rw [← List.map_drop, h]; rfl
theorem lnames_len (l : List LineT) : (Sp.lnames l).length = l.length := by simp [Sp.lnames]
theorem lnames_okN {l : List LineT} (h : Sp.okF l = true) : Sp.okN (Sp.lnames l) = true := by
  obtain ⟨h1, h2⟩ := okF_of h
  unfold Sp.okN
  rw [lnames_len, decide_eq_true (show l.length ≤ 300 by omega), Bool.true_and, List.all_eq_true]
  intro s hs
  unfold Sp.lnames at hs
  obtain ⟨x, hx, rfl⟩ := List.mem_map.1 hs
  exact decide_eq_true (okLine_of (h2 x hx)).1
theorem out_far (y : Int) (r : List Int) : Sp.orE (Sp.out y 1 9999) (if Sp.far r = true then 3 else 0) = if Sp.far (y :: r) = true then 3 else 0 := by
  unfold Sp.out Sp.far
  rw [List.any_cons]
  by_cases h1 : y < 1
  · rw [if_pos h1, decide_eq_true h1]; rfl
  · rw [if_neg h1, decide_eq_false h1]
    by_cases h2 : y > 9999
    · rw [if_pos h2, decide_eq_true h2]; rfl
    · rw [if_neg h2, decide_eq_false h2]; rfl
theorem orE_assoc (a b c : Int) : Sp.orE (Sp.orE a b) c = Sp.orE a (Sp.orE b c) := by
  unfold Sp.orE
  by_cases h : a = 0
  · rw [if_pos h, if_pos h]
  · rw [if_neg h, if_neg h, if_neg h]
namespace T46
variable {Q : PV → Ob → Prop}
theorem L2_ends (l : List LineT) (ns : List (List UInt8)) (i : Nat) (x : LineT) (hx : l.getD i DL = x) (hi : i < l.length) (h205 : l.length ≤ 205) (h12 : x.2.2.1.length ≤ 12) (w : Int) (hq : w ≠ 0 → ∀ ob, Q (.dat i64 w) ob) (hgo : w = 0 → Ends X91 (L1 l ns ((i : Int) + 1)) Q) :
    ∀ (r : List Int) (k : Nat) (e : Int), x.2.2.1.drop k = r → k ≤ x.2.2.1.length → Sp.orE e (Sp.orE (if Sp.far r = true then 3 else 0) (if Sp.known x.2.2.2 = true then 0 else 13)) = w → Ends X91 (L2 l ns i e k) Q
  | r, k, e, h, hk, hw => by
    refine Ends.steq (L2_eq ..) ?_
    have hx' : l.getD i ([], false, [], []) = x := hx
    simp only [Int.toNat_natCast, hx']
    rw [wr ((i : Int) + 1) (by omega) (by omega), wr ((k : Int) + 1) (by omega) (by omega)]
    have ir : (decide ((0 : Int) ≤ (i : Int)) && decide ((i : Int) < (l.length : Int))) = true := by simp; omega
    refine Ends.tt ir ?_
    by_cases he : e = 0
    · subst he
      rw [orE0] at hw
      cases r with
      | nil =>
        have hk := drop_nil h hk
        refine Ends.ff (by simp; omega) (Ends.tt ir (Ends.tt rfl ?_))
        have hw : (if Sp.known x.2.2.2 = true then (0 : Int) else 13) = w := hw
        have yes : Sp.known x.2.2.2 = true → Ends X91 (L1 l ns ((i : Int) + 1)) Q := fun e => hgo (by rw [if_pos e] at hw; exact hw.symm)
        refine Ends.ite (fun c1 => Ends.ite (fun c2 => Ends.ite (fun c3 => Ends.ite (fun c4 => Ends.tt rfl (Ends.leaf ?_)) (fun c4 => Ends.ff rfl (yes ?_))) (fun c3 => Ends.ff rfl (yes ?_))) (fun c2 => Ends.ff rfl (yes ?_))) (fun c1 => Ends.ff rfl (yes ?_))
        · have hn : Sp.known x.2.2.2 = false := by
            simp only [Bool.not_eq_true', beq_eq_false_iff_ne, ne_eq] at c1 c2 c3 c4
            unfold Sp.known
            rw [decide_eq_false c1, decide_eq_false (show ¬ _ = Sp.sOut from c3), decide_eq_false (show ¬ _ = Sp.sDis from c4), decide_eq_false (show ¬ _ = Sp.sCut from c2)]; rfl
          rw [hn, if_neg (by simp)] at hw
          subst hw
          exact hq (by decide) _
        all_goals simp only [Bool.not_eq_false', beq_iff_eq] at *
        · rw [c4]; rfl
        · rw [c3]; rfl
        · rw [c2]; rfl
        · rw [c1]; rfl
      | cons y r =>
        obtain ⟨g1, g2, g3⟩ := drop_cons (d := 0) h
        refine Ends.tt (by simp; omega) (Ends.tt rfl (Ends.tt ir (Ends.tt (by simp; omega) (Ends.tt rfl ?_))))
        rw [g2]
        refine L2_ends l ns i x hx hi h205 h12 w hq hgo r (k + 1) _ g3 g1 ?_
        rw [← orE_assoc, out_far]; exact hw
    · have hw : e = w := by unfold Sp.orE at hw; rw [if_neg he] at hw; exact hw
      subst hw
      have b0 : (e == 0) = false := by simpa using he
      have b1 : (e != 0) = true := by simpa using he
      exact Ends.ite (fun _ => Ends.ff b0 (Ends.tt ir (Ends.ff b0 (Ends.tt b1 (Ends.leaf (hq he _)))))) (fun _ => Ends.tt ir (Ends.ff b0 (Ends.tt b1 (Ends.leaf (hq he _)))))
  termination_by r => r.length
theorem L1_ends (l : List LineT) (hok : Sp.okF l = true) (w : Int) (hq : ∀ ob, Q (.dat i64 w) ob) : ∀ (r : List LineT) (i : Nat), l.drop i = r → i ≤ l.length → Sp.linesE ((Sp.lnames l).take i) r = w → Ends X91 (L1 l (Sp.lnames l) i) Q
  | [], i, h, hi, hw => by
    have := drop_nil h hi
    refine Ends.steq (L1_eq ..) (Ends.ff (by simp; omega) (Ends.leaf ?_))
    rw [show (0 : Int) = w from hw]; exact hq _
  | x :: r, i, h, hi, hw => by
    obtain ⟨h1, h2, h3⟩ := drop_cons (d := DL) h
    obtain ⟨h205, hall⟩ := okF_of hok
    have hx := okLine_of (hall x (mem_drop h))
    obtain ⟨n1, n2, n3⟩ := drop_cons (d := []) (lnames_drop h)
    refine Ends.steq (L1_eq ..) (Ends.tt (by simp <;> omega) (Ends.tt (by rw [lnames_okN hok, lnames_len]; simp; omega) ?_))
    have h2' : l.getD i ([], false, [], []) = x := h2
    simp only [Int.toNat_natCast, h2', n2]
    have hw' : Sp.orE (Sp.lineE ((Sp.lnames l).take i) x) (Sp.linesE ((Sp.lnames l).take (i + 1)) r) = w := by rw [take_next (lnames_drop h)]; exact hw
    have go : Sp.lineE ((Sp.lnames l).take i) x = 0 → Ends X91 (L1 l (Sp.lnames l) ((i : Int) + 1)) Q := fun e => by
      rw [e, orE0] at hw'
      exact L1_ends l hok w hq r (i + 1) h3 h1 hw'
    have er : Sp.lineE ((Sp.lnames l).take i) x ≠ 0 → ∀ ob, Q (.dat i64 (Sp.lineE ((Sp.lnames l).take i) x)) ob := fun e ob => by
      unfold Sp.orE at hw'; rw [if_neg e] at hw'; rw [hw']; exact hq ob
    have L2' := L2_ends l (Sp.lnames l) i x h2 h1 h205 hx.2.1 _ er go x.2.2.1 0
    by_cases hn : Sp.nameErr ((Sp.lnames l).take i) x.1 = 0
    · rw [hn]
      refine Ends.tt rfl (Ends.tt (by simp; omega) (Ends.ite (fun c => ?_) (fun c => ?_)))
      · refine L2' 5 rfl (Nat.zero_le _) ?_
        unfold Sp.lineE; rw [hn, if_pos (show 8 < x.2.2.1.length by have := of_decide_eq_true c; omega)]; rfl
      · refine L2' 0 rfl (Nat.zero_le _) ?_
        unfold Sp.lineE; rw [hn, if_neg (show ¬ 8 < x.2.2.1.length by have := of_decide_eq_false c; omega)]; rfl
    · refine Ends.ff (by simpa using hn) (L2' _ rfl (Nat.zero_le _) ?_)
      unfold Sp.lineE Sp.orE; rw [if_neg hn, if_neg hn]
theorem ok : SpecOk C7p 46 cCheckF := by
  refine spec7 (X := X91) rfl hallX91 (d := 9) (by kernel_rfl) (by kernel_rfl) rfl (fun (l : List LineT) hl => ?_) (isSome_ex (by kernel_rfl))
  have hl : Sp.okF l = true := hl
  refine Ends.eq (T_eq l) (Ends.ite (fun c => ?_) (fun c => Ends.tt hl ?_))
  · refine Ends.leaf (Gives.of rfl rfl ?_)
    show _ = Sp.fieldE l
    unfold Sp.fieldE; rw [if_pos (by have := of_decide_eq_true c; omega)]
  · refine L1_ends l hl (Sp.fieldE l) (fun ob => Gives.of rfl rfl rfl) l 0 rfl (Nat.zero_le _) ?_
    unfold Sp.fieldE; rw [if_neg (by have := of_decide_eq_false c; omega)]; rfl
end T46
end Go.Pe
end
section
namespace Go.Sp
theorem flatMap_congr' {α β : Type} {f g : α → List β} : ∀ {l : List α}, (∀ a ∈ l, f a = g a) → l.flatMap f = l.flatMap g
  | [], _ => rfl
  | a :: l, h => by rw [List.flatMap_cons, List.flatMap_cons, h a (by simp), flatMap_congr' (fun b hb => h b (by simp [hb]))]
/-- the places of one rank, from line i on -/
def row (l : List LineT) (r : Int) (i : Nat) : List LineT → List PlaceT
  | [] => []
  | x :: s => if rankOf false l x = r then ((i : Int), r, sumW (x.2.2.1.take 8)) :: row l r (i + 1) s else row l r (i + 1) s
theorem ents_row (l : List LineT) (r : Int) (hr : r > 0) : ∀ (s : List LineT) (i : Nat), (ents l i s).filter (fun e => decide (e.2.1 = r)) = row l r i s
  | [], i => rfl
  | x :: s, i => by
    unfold ents row
    by_cases h : rankOf false l x = r
    · rw [if_pos (by omega), if_pos h, List.filter_cons_of_pos (by simpa using h), ents_row l r hr s (i + 1), h]
    · rw [if_neg h]
      split
      · rw [List.filter_cons_of_neg (by simpa using h)]; exact ents_row l r hr s (i + 1)
      · exact ents_row l r hr s (i + 1)
/-- the places of k ranks, from rank r on -/
def rowsF (l : List LineT) : Nat → Nat → List PlaceT
  | 0, _ => []
  | k + 1, r => row l r 0 l ++ rowsF l k (r + 1)
theorem rowsF_range (l : List LineT) : ∀ k r, rowsF l k r = (List.range' r k).flatMap fun (j : Nat) => row l j 0 l
  | 0, r => rfl
  | k + 1, r => by rw [rowsF, List.range'_succ, List.flatMap_cons, rowsF_range l k (r + 1)]
theorem places_range (l : List LineT) : places l = (List.range' 1 l.length).flatMap fun (j : Nat) => (ents l 0 l).filter fun e => decide (e.2.1 = (j : Int)) := by
  unfold places
  rw [List.range'_eq_map_range, List.flatMap_map]
  congr 1; funext r
  rw [Nat.add_comm]; rfl
theorem places_rows (l : List LineT) : places l = rowsF l l.length 1 := by
  rw [places_range, rowsF_range]
  have : ∀ j ∈ List.range' 1 l.length, ((ents l 0 l).filter fun e => decide (e.2.1 = (j : Int))) = row l j 0 l := by
    intro j hj
    have := List.mem_range'_1.1 hj
    exact ents_row l j (by omega) l 0
  exact flatMap_congr' this
/-- a place is put into places, from the right -/
def insL (x : PlaceT) : List PlaceT → List PlaceT
  | [] => [x]
  | y :: r => if x.2.1 < y.2.1 then y :: insL x r else x :: y :: r
def sortP (l : List PlaceT) : List PlaceT := (l.foldl (fun acc x => insL x acc) []).reverse
theorem insL_app (x : PlaceT) : ∀ (b p : List PlaceT), (∀ y ∈ b, x.2.1 < y.2.1) → (∀ y ∈ p, ¬ x.2.1 < y.2.1) → insL x (b ++ p) = b ++ x :: p
  | [], p, _, hp => by
    cases p with
    | nil => rfl
    | cons y r => show insL x (y :: r) = _; unfold insL; rw [if_neg (hp y (by simp))]; rfl
  | y :: b, p, hb, hp => by
    show insL x (y :: (b ++ p)) = _
    unfold insL
    rw [if_pos (hb y (by simp)), insL_app x b p (fun z hz => hb z (by simp [hz])) hp]; rfl
/-- the places, rank by rank -/
def byRank (n : Nat) (l : List PlaceT) : List PlaceT := (List.range' 1 n).flatMap fun (j : Nat) => l.filter fun e => decide (e.2.1 = (j : Int))
theorem byRank_snoc (l : List PlaceT) (x : PlaceT) (n k : Nat) (hk : x.2.1 = (k : Int)) (h1 : 1 ≤ k) (h2 : k ≤ n) : insL x (byRank n l).reverse = (byRank n (l ++ [x])).reverse := by
  have e : List.range' 1 n = List.range' 1 (k - 1) ++ (k :: List.range' (k + 1) (n - k)) := by
    have h3 : List.range' 1 n = List.range' 1 (k - 1) ++ List.range' (1 + (k - 1)) (n - (k - 1)) := by rw [List.range'_append_1]; congr 1; omega
    rw [h3, show 1 + (k - 1) = k by omega, show n - (k - 1) = (n - k) + 1 by omega, List.range'_succ]
  unfold byRank
  rw [e]
  simp only [List.flatMap_append, List.flatMap_cons, List.reverse_append]
  have same : ∀ (r : List Nat), (∀ j ∈ r, j ≠ k) → (r.flatMap fun (j : Nat) => (l ++ [x]).filter fun e => decide (e.2.1 = (j : Int))) = r.flatMap fun (j : Nat) => l.filter fun e => decide (e.2.1 = (j : Int)) := by
    intro r hr
    refine flatMap_congr' fun j hj => ?_
    rw [List.filter_append, List.filter_cons_of_neg (by simp only [decide_eq_true_eq]; have := hr j hj; omega)]; simp
  rw [same _ (fun j hj => by have := List.mem_range'_1.1 hj; omega), same _ (fun j hj => by have := List.mem_range'_1.1 hj; omega)]
  have ek : ((l ++ [x]).filter fun e => decide (e.2.1 = (k : Int))) = (l.filter fun e => decide (e.2.1 = (k : Int))) ++ [x] := by
    rw [List.filter_append, List.filter_cons_of_pos (by simpa using hk)]; rfl
  rw [ek]
  rw [List.append_assoc, insL_app]
  · simp
  · intro y hy
    rw [List.mem_reverse] at hy
    obtain ⟨j, hj, hy⟩ := List.mem_flatMap.1 hy
    have := List.mem_range'_1.1 hj
    have := of_decide_eq_true (List.mem_filter.1 hy).2
    omega
  · intro y hy
    rcases List.mem_append.1 hy with hy | hy
    · rw [List.mem_reverse] at hy
      have := of_decide_eq_true (List.mem_filter.1 hy).2
      omega
    · rw [List.mem_reverse] at hy
      obtain ⟨j, hj, hy⟩ := List.mem_flatMap.1 hy
      have := List.mem_range'_1.1 hj
      have := of_decide_eq_true (List.mem_filter.1 hy).2
      omega
theorem sortP_byRank (n : Nat) : ∀ (l acc : List PlaceT), (∀ x ∈ l, 1 ≤ x.2.1 ∧ x.2.1 ≤ (n : Int)) → (l.foldl (fun a x => insL x a) (byRank n acc).reverse) = (byRank n (acc ++ l)).reverse
  | [], acc, _ => by simp
  | x :: l, acc, h => by
    have hx := h x (by simp)
    rw [List.foldl_cons, byRank_snoc acc x n x.2.1.toNat (by omega) (by omega) (by omega), sortP_byRank n l (acc ++ [x]) (fun y hy => h y (by simp [hy])), List.append_assoc]; rfl
theorem byRank_nil (n : Nat) : byRank n [] = [] := by unfold byRank; simp
theorem sortP_eq (n : Nat) (l : List PlaceT) (h : ∀ x ∈ l, 1 ≤ x.2.1 ∧ x.2.1 ≤ (n : Int)) : sortP l = byRank n l := by
  have := sortP_byRank n l [] h
  rw [byRank_nil] at this
  unfold sortP
  rw [show ([] : List PlaceT) = ([] : List PlaceT).reverse from rfl, this, List.reverse_reverse, List.nil_append]
theorem rank_bd (p : Bool) (l : List LineT) (x : LineT) (hx : x ∈ l) : rankOf p l x ≤ l.length := by
  unfold rankOf
  split
  · have h1 : (l.filter fun y => want p y && better y x).length < l.length := by
      have hb : better x x = false := by unfold better; rw [if_neg (by simp)]; exact decide_eq_false (by omega)
      rcases Nat.lt_or_ge (l.filter fun y => want p y && better y x).length l.length with h | h
      · exact h
      · have := List.length_filter_eq_length_iff.1 (Nat.le_antisymm (List.length_filter_le _ _) h) x hx
        rw [hb, Bool.and_false] at this; cases this
    omega
  · omega
theorem ents_bd (l : List LineT) : ∀ (s : List LineT) (i : Nat), (∀ x ∈ s, x ∈ l) → ∀ e ∈ ents l i s, 1 ≤ e.2.1 ∧ e.2.1 ≤ (l.length : Int)
  | [], i, _, e, he => by cases he
  | x :: s, i, h, e, he => by
    unfold ents at he
    split at he
    · rename_i h0
      rcases List.mem_cons.1 he with rfl | he
      · exact ⟨by show 1 ≤ rankOf false l x; omega, rank_bd false l x (h x (by simp))⟩
      · exact ents_bd l s (i + 1) (fun y hy => h y (by simp [hy])) e he
    · exact ents_bd l s (i + 1) (fun y hy => h y (by simp [hy])) e he
theorem sort_places (l : List LineT) : sortP (ents l 0 l) = places l := by
  rw [places_range, sortP_eq l.length _ (ents_bd l l 0 (fun _ h => h))]; rfl
end Go.Sp
end
section
namespace Go.Pe
open Go.Det
theorem hallX91b : ∀ g sp, X91.sp g = some sp → SpecOk C7p g sp := hallX91
namespace T115
theorem ok : SpecOk C7p 115 cRanked := by
  refine spec7 (X := X91) rfl hallX91b (d := 9) (by kernel_rfl) (by kernel_rfl) rfl (fun (x : LineT) _ => ?_) (isSome_ex (by kernel_rfl))
  refine Ends.eq (T_eq x) (Ends.ite (fun c => Ends.leaf (Gives.of rfl rfl ?_)) (fun c => Ends.leaf (Gives.of rfl rfl ?_)))
  · show _ = Sp.ranked x
    simp only [Bool.not_eq_true', beq_eq_false_iff_ne, ne_eq] at c
    unfold Sp.ranked
    rw [decide_eq_false (show ¬ x.2.2.2 = Sp.sOut from c)]
    show (!(x.2.2.2 == Sp.sDis)) = _
    rw [Bool.not_false, Bool.true_and]
    by_cases h : x.2.2.2 = Sp.sDis <;> simp [h]
  · show _ = Sp.ranked x
    simp only [Bool.not_eq_false', beq_iff_eq] at c
    unfold Sp.ranked
    rw [decide_eq_true (show x.2.2.2 = Sp.sOut from c)]; rfl
end T115
namespace T163
theorem ok : SpecOk C7p 163 cRanked := by
  refine spec7 (X := X91) rfl hallX91b (d := 9) (by kernel_rfl) (by kernel_rfl) rfl (fun (x : LineT) _ => ?_) (isSome_ex (by kernel_rfl))
  refine Ends.eq (T_eq x) (Ends.ite (fun c => Ends.leaf (Gives.of rfl rfl ?_)) (fun c => Ends.leaf (Gives.of rfl rfl ?_)))
  · show _ = Sp.ranked x
    simp only [Bool.not_eq_true', beq_eq_false_iff_ne, ne_eq] at c
    unfold Sp.ranked
    rw [decide_eq_false (show ¬ x.2.2.2 = Sp.sOut from c)]
    show (!(x.2.2.2 == Sp.sDis)) = _
    rw [Bool.not_false, Bool.true_and]
    by_cases h : x.2.2.2 = Sp.sDis <;> simp [h]
  · show _ = Sp.ranked x
    simp only [Bool.not_eq_false', beq_iff_eq] at c
    unfold Sp.ranked
    rw [decide_eq_true (show x.2.2.2 = Sp.sOut from c)]; rfl
end T163
theorem okS_of {x : LineT} (h : Sp.okS x = true) : x.2.2.1.length ≤ 12 := by unfold Sp.okS at h; exact of_decide_eq_true h
namespace T164
theorem ok : SpecOk C7p 164 cBetter := by
  refine spec7 (X := X91) rfl hallX91b (d := 9) (by kernel_rfl) (by kernel_rfl) rfl (fun (i : LineT × LineT) hi => ?_) (isSome_ex (by kernel_rfl))
  obtain ⟨x, y⟩ := i
  have hi : (Sp.okS x && Sp.okS y) = true := hi
  rw [Bool.and_eq_true] at hi
  have hx := okS_of hi.1
  have hy := okS_of hi.2
  refine Ends.eq (T_eq x y) (Ends.ite (fun c => Ends.leaf (Gives.of rfl rfl ?_)) (fun c => Ends.tt (by simp; omega) (Ends.tt (by simp; omega) (Ends.leaf (Gives.of rfl rfl ?_)))))
  · show decide ((x.2.2.1.length : Int) > (y.2.2.1.length : Int)) = Sp.better x y
    have c : x.2.2.1.length ≠ y.2.2.1.length := by simp at c; omega
    unfold Sp.better
    rw [if_pos c]
    by_cases h : y.2.2.1.length < x.2.2.1.length
    · rw [decide_eq_true h, decide_eq_true (by omega)]
    · rw [decide_eq_false h, decide_eq_false (by omega)]
  · show _ = Sp.better x y
    have c : ¬ x.2.2.1.length ≠ y.2.2.1.length := by simp at c; omega
    unfold Sp.better
    rw [if_neg c]; rfl
end T164
namespace T160
theorem ok : SpecOk C7p 160 cCmpL := by
  refine spec7 (X := X91) rfl hallX91b (d := 9) (by kernel_rfl) (by kernel_rfl) rfl (fun (i : LineT × LineT) hi => ?_) (isSome_ex (by kernel_rfl))
  obtain ⟨x, y⟩ := i
  have hi : (Sp.okS x && Sp.okS y) = true := hi
  rw [Bool.and_eq_true] at hi
  have hx : Sp.okS (x.1, x.2.1, x.2.2.1, x.2.2.2) = true := hi.1
  have hy : Sp.okS (y.1, y.2.1, y.2.2.1, y.2.2.2) = true := hi.2
  refine Ends.eq (T_eq x y) (Ends.tt rfl (Ends.tt (by rw [hx]; simp) (Ends.tt (by rw [hy]; simp) (Ends.tt rfl (Ends.tt rfl (Ends.leaf (Gives.of rfl rfl ?_)))))))
  show _ = Sp.cmpL x y
  unfold Sp.cmpL
  simp
end T160
end Go.Pe
end
section
namespace Go.Pe
open Go.Det
theorem hallX95 : ∀ g sp, X95.sp g = some sp → SpecOk C7p g sp := sp_cons T163.ok (sp_cons T164.ok hallX90)
namespace T121
variable {Q : PV → Ob → Prop}
def P (p : Bool) (x y : LineT) : Bool := Sp.want p y && Sp.better y x
theorem L4_ends (l : List LineT) (hok : Sp.okF l = true) (p : Bool) (i : Nat) (x : LineT) (hx : l.getD i DL = x) (hi : i < l.length) (acc : List Int) (ha : acc.length ≤ 300) (w : Int)
    (hq : Ends X95 (L3 l p (acc ++ [w]).length ((i : Int) + 1) (acc ++ [w])) Q) : ∀ (r : List LineT) (k n : Nat), l.drop k = r → k ≤ l.length → n ≤ k + 1 → ((n + (r.filter (P p x)).length : Nat) : Int) = w → Ends X95 (L4 l p acc.length i n k acc) Q
  | [], k, n, h, hk, hn, hw => by
    have h205 := (okF_of hok).1
    have := drop_nil h hk
    refine Ends.steq (L4_eq ..) (Ends.ff (by simp; omega) (Ends.tt (by simp; omega) ?_))
    rw [wr ((i : Int) + 1) (by omega) (by omega)]
    have e : (n : Int) = w := by simpa using hw
    have e2 : Nat.add acc.length 1 = (acc ++ [w]).length := by simp
    rw [e, e2]; exact hq
  | y :: r, k, n, h, hk, hn, hw => by
    obtain ⟨h205, hall⟩ := okF_of hok
    obtain ⟨h1, h2, h3⟩ := drop_cons (d := DL) h
    have hy := okLine_of (hall y (mem_drop h))
    have hxm : x ∈ l := by
      rw [← hx]; unfold List.getD; rw [List.getElem?_eq_getElem hi]; exact List.getElem_mem hi
    have hxl := okLine_of (hall x hxm)
    have sy : Sp.okS y = true := decide_eq_true hy.2.1
    have sx : Sp.okS x = true := decide_eq_true hxl.2.1
    refine Ends.steq (L4_eq ..) (Ends.tt (by simp <;> omega) (Ends.tt (by simp <;> omega) (Ends.tt rfl ?_)))
    have h2' : l.getD k ([], false, [], []) = y := h2
    have hx' : l.getD i ([], false, [], []) = x := hx
    simp only [Int.toNat_natCast, h2', hx']
    rw [wr ((k : Int) + 1) (by omega) (by omega), wr ((n : Int) + 1) (by omega) (by omega)]
    have ir : (decide ((0 : Int) ≤ (k : Int)) && decide ((k : Int) < (l.length : Int))) = true := by simp; omega
    have ii : (decide ((0 : Int) ≤ (i : Int)) && decide ((i : Int) < (l.length : Int))) = true := by simp; omega
    have same : P p x y = false → Ends X95 (L4 l p acc.length i n ((k : Int) + 1) acc) Q := fun e => by
      refine L4_ends l hok p i x hx hi acc ha w hq r (k + 1) n h3 h1 (by omega) ?_
      rw [← hw, List.filter_cons_of_neg (by rw [e]; simp)]
    have inc : P p x y = true → Ends X95 (L4 l p acc.length i ((n : Int) + 1) ((k : Int) + 1) acc) Q := fun e => by
      refine L4_ends l hok p i x hx hi acc ha w hq r (k + 1) (n + 1) h3 h1 (by omega) ?_
      rw [← hw, List.filter_cons_of_pos e, List.length_cons]; congr 1; omega
    have bet : Sp.want p y = true → Ends X95 (.ite (Sp.okS (y.1, y.2.1, y.2.2.1, y.2.2.2) && Sp.okS (x.1, x.2.1, x.2.2.1, x.2.2.2)) (.ite (Sp.better (y.1, y.2.1, y.2.2.1, y.2.2.2) (x.1, x.2.1, x.2.2.1, x.2.2.2)) (L4 l p acc.length i ((n : Int) + 1) ((k : Int) + 1) acc) (L4 l p acc.length i n ((k : Int) + 1) acc)) .fail) Q := fun hwn => by
      have hb : (Sp.okS (y.1, y.2.1, y.2.2.1, y.2.2.2) && Sp.okS (x.1, x.2.1, x.2.2.1, x.2.2.2)) = true := by show (Sp.okS y && Sp.okS x) = true; rw [sy, sx]; rfl
      exact Ends.tt hb (Ends.ite (fun c => inc (by unfold P; rw [hwn]; exact c)) (fun c => same (by unfold P; rw [hwn]; exact c)))
    refine Ends.ite (fun c => ?_) (fun c => same ?_)
    · have c : Sp.ranked y = true := c
      refine Ends.ite (fun cp => Ends.tt ir (Ends.ite (fun ca => Ends.tt ir (Ends.tt ii (bet ?_))) (fun ca => same ?_))) (fun cp => Ends.tt ir (Ends.tt ii (bet ?_)))
      · unfold Sp.want; rw [c, cp]; simpa using ca
      · unfold P Sp.want; rw [c, cp]; simp at ca; simp [ca]
      · unfold Sp.want; rw [c, cp]; rfl
    · have c : Sp.ranked y = false := c
      unfold P Sp.want; rw [c]; rfl
theorem L2_ends (l : List LineT) (hok : Sp.okF l = true) (p : Bool) (i : Nat) (x : LineT) (hx : l.getD i DL = x) (hi : i < l.length) (w : Int)
    (hq : Ends X95 (L3 l p 1 ((i : Int) + 1) [w]) Q) : ∀ (r : List LineT) (k n : Nat), l.drop k = r → k ≤ l.length → n ≤ k + 1 → ((n + (r.filter (P p x)).length : Nat) : Int) = w → Ends X95 (L2 l p i n k) Q
  | [], k, n, h, hk, hn, hw => by
    have h205 := (okF_of hok).1
    have := drop_nil h hk
    refine Ends.steq (L2_eq ..) (Ends.ff (by simp; omega) (Ends.tt (by simp) ?_))
    rw [wr ((i : Int) + 1) (by omega) (by omega)]
    have e : (n : Int) = w := by simpa using hw
    rw [e]; exact hq
  | y :: r, k, n, h, hk, hn, hw => by
    obtain ⟨h205, hall⟩ := okF_of hok
    obtain ⟨h1, h2, h3⟩ := drop_cons (d := DL) h
    have hy := okLine_of (hall y (mem_drop h))
    have hxm : x ∈ l := by
      rw [← hx]; unfold List.getD; rw [List.getElem?_eq_getElem hi]; exact List.getElem_mem hi
    have hxl := okLine_of (hall x hxm)
    have sy : Sp.okS y = true := decide_eq_true hy.2.1
    have sx : Sp.okS x = true := decide_eq_true hxl.2.1
    refine Ends.steq (L2_eq ..) (Ends.tt (by simp <;> omega) (Ends.tt (by simp <;> omega) (Ends.tt rfl ?_)))
    have h2' : l.getD k ([], false, [], []) = y := h2
    have hx' : l.getD i ([], false, [], []) = x := hx
    simp only [Int.toNat_natCast, h2', hx']
    rw [wr ((k : Int) + 1) (by omega) (by omega), wr ((n : Int) + 1) (by omega) (by omega)]
    have ir : (decide ((0 : Int) ≤ (k : Int)) && decide ((k : Int) < (l.length : Int))) = true := by simp; omega
    have ii : (decide ((0 : Int) ≤ (i : Int)) && decide ((i : Int) < (l.length : Int))) = true := by simp; omega
    have same : P p x y = false → Ends X95 (L2 l p i n ((k : Int) + 1)) Q := fun e => by
      refine L2_ends l hok p i x hx hi w hq r (k + 1) n h3 h1 (by omega) ?_
      rw [← hw, List.filter_cons_of_neg (by rw [e]; simp)]
    have inc : P p x y = true → Ends X95 (L2 l p i ((n : Int) + 1) ((k : Int) + 1)) Q := fun e => by
      refine L2_ends l hok p i x hx hi w hq r (k + 1) (n + 1) h3 h1 (by omega) ?_
      rw [← hw, List.filter_cons_of_pos e, List.length_cons]; congr 1; omega
    have bet : Sp.want p y = true → Ends X95 (.ite (Sp.okS (y.1, y.2.1, y.2.2.1, y.2.2.2) && Sp.okS (x.1, x.2.1, x.2.2.1, x.2.2.2)) (.ite (Sp.better (y.1, y.2.1, y.2.2.1, y.2.2.2) (x.1, x.2.1, x.2.2.1, x.2.2.2)) (L2 l p i ((n : Int) + 1) ((k : Int) + 1)) (L2 l p i n ((k : Int) + 1))) .fail) Q := fun hwn => by
      have hb : (Sp.okS (y.1, y.2.1, y.2.2.1, y.2.2.2) && Sp.okS (x.1, x.2.1, x.2.2.1, x.2.2.2)) = true := by show (Sp.okS y && Sp.okS x) = true; rw [sy, sx]; rfl
      exact Ends.tt hb (Ends.ite (fun c => inc (by unfold P; rw [hwn]; exact c)) (fun c => same (by unfold P; rw [hwn]; exact c)))
    refine Ends.ite (fun c => ?_) (fun c => same ?_)
    · have c : Sp.ranked y = true := c
      refine Ends.ite (fun cp => Ends.tt ir (Ends.ite (fun ca => Ends.tt ir (Ends.tt ii (bet ?_))) (fun ca => same ?_))) (fun cp => Ends.tt ir (Ends.tt ii (bet ?_)))
      · unfold Sp.want; rw [c, cp]; simpa using ca
      · unfold P Sp.want; rw [c, cp]; simp at ca; simp [ca]
      · unfold Sp.want; rw [c, cp]; rfl
    · have c : Sp.ranked y = false := c
      unfold P Sp.want; rw [c]; rfl
theorem rank_yes {p : Bool} {l : List LineT} {x : LineT} (h : Sp.want p x = true) : ((1 + (l.filter (P p x)).length : Nat) : Int) = Sp.rankOf p l x := by
  unfold Sp.rankOf; rw [if_pos h]; push_cast; rfl
theorem rank_no {p : Bool} {l : List LineT} {x : LineT} (h : Sp.want p x = false) : (0 : Int) = Sp.rankOf p l x := by
  unfold Sp.rankOf; rw [if_neg (by rw [h]; simp)]
set_option maxRecDepth 10000 in
theorem L3_ends (l : List LineT) (hok : Sp.okF l = true) (p : Bool) (hq : ∀ ob tail, ob = (0, Obj.arr false 3 (.int .i64) (Sp.ranks l p)) :: tail → Q (.sl 0 1 0 (Sp.ranks l p).length none) ob) : ∀ (r : List LineT) (i : Nat) (acc : List Int), l.drop i = r → i ≤ l.length → acc.length ≤ i → acc ++ r.map (Sp.rankOf p l) = Sp.ranks l p → Ends X95 (L3 l p acc.length i acc) Q
  | [], i, acc, h, hi, ha, he => by
    have h205 := (okF_of hok).1
    have := drop_nil h hi
    have he : acc = Sp.ranks l p := by simpa using he
    subst he
    exact Ends.steq (L3_eq ..) (Ends.ff (by simp; omega) (Ends.leaf (hq _ [] rfl)))
  | x :: r, i, acc, h, hi, ha, he => by
    obtain ⟨h205, hall⟩ := okF_of hok
    obtain ⟨h1, h2, h3⟩ := drop_cons (d := DL) h
    refine Ends.steq (L3_eq ..) (Ends.tt (by simp <;> omega) (Ends.tt (by simp <;> omega) (Ends.tt rfl ?_)))
    have h2' : l.getD i ([], false, [], []) = x := h2
    simp only [Int.toNat_natCast, h2']
    rw [wr ((i : Int) + 1) (by omega) (by omega)]
    have ir : (decide ((0 : Int) ≤ (i : Int)) && decide ((i : Int) < (l.length : Int))) = true := by simp; omega
    have go : ∀ w, w = Sp.rankOf p l x → Ends X95 (L3 l p (acc ++ [w]).length ((i : Int) + 1) (acc ++ [w])) Q := by
      rintro w rfl
      exact L3_ends l hok p hq r (i + 1) (acc ++ [Sp.rankOf p l x]) h3 h1 (by simp; omega) (by rw [List.append_assoc]; exact he)
    have yes : Sp.want p x = true → Ends X95 (L4 l p acc.length i 1 0 acc) Q := fun hw =>
      L4_ends l hok p i x h2 h1 acc (by omega) _ (go _ rfl) l 0 1 rfl (Nat.zero_le _) (by omega) (rank_yes hw)
    have no : Sp.want p x = false → Ends X95 (.ite (decide True && decide ((2 * (acc.length + 1) + 1000) * 8 ≤ 281474976710656)) (L3 l p (Nat.add acc.length 1) ((i : Int) + 1) (acc ++ [0])) .fail) Q := fun hw => by
      refine Ends.tt (by simp; omega) ?_
      have e2 : Nat.add acc.length 1 = (acc ++ [(0 : Int)]).length := by simp
      rw [e2]
      exact go 0 (rank_no hw)
    refine Ends.ite (fun c => ?_) (fun c => no ?_)
    · have c : Sp.ranked x = true := c
      refine Ends.ite (fun cp => Ends.tt ir (Ends.ite (fun ca => yes ?_) (fun ca => no ?_))) (fun cp => yes ?_)
      · unfold Sp.want; rw [c, cp]; simpa using ca
      · unfold Sp.want; rw [c, cp]; simp at ca; simp [ca]
      · unfold Sp.want; rw [c, cp]; rfl
    · have c : Sp.ranked x = false := c
      unfold Sp.want; rw [c]; rfl
set_option maxRecDepth 10000 in
theorem ok : SpecOk C7p 121 cRanks := by
  refine spec7 (X := X95) rfl hallX95 (d := 9) (by kernel_rfl) (by kernel_rfl) (by kernel_rfl) (fun (i : List LineT × Bool) hl => ?_) (isSome_ex (by kernel_rfl))
  obtain ⟨l, p⟩ := i
  have hok : Sp.okF l = true := hl
  refine Ends.eq (T_eq l p) ?_
  cases l with
  | nil => exact Ends.steq (L1_eq ..) (Ends.ff (by simp) (Ends.leaf ⟨[], rfl, rfl⟩))
  | cons x r =>
    refine Ends.steq (L1_eq ..) (Ends.tt (by simp <;> omega) (Ends.tt (by simp <;> omega) (Ends.tt rfl ?_)))
    have e0 : (x :: r).getD (0 : Int).toNat ([], false, [], []) = x := rfl
    simp only [e0]
    rw [wr ((0 : Int) + 1) (by omega) (by omega)]
    have go : ∀ w, w = Sp.rankOf p (x :: r) x → Ends X95 (L3 (x :: r) p 1 ((0 : Int) + 1) [w]) (Gives cRanks (x :: r, p)) := by
      rintro w rfl
      refine L3_ends (x :: r) hok p ?_ r 1 [Sp.rankOf p (x :: r) x] rfl (by simp) (by simp) rfl
      rintro ob tail rfl
      exact ⟨Sp.ranks (x :: r) p, res1_sl rfl rfl, rfl⟩
    have yes : Sp.want p x = true → Ends X95 (L2 (x :: r) p 0 1 0) (Gives cRanks (x :: r, p)) := fun hw =>
      L2_ends (x :: r) hok p 0 x rfl (by simp) _ (go _ rfl) (x :: r) 0 1 rfl (Nat.zero_le _) (by omega) (rank_yes hw)
    have no : Sp.want p x = false → Ends X95 (L3 (x :: r) p 1 ((0 : Int) + 1) [0]) (Gives cRanks (x :: r, p)) := fun hw => go 0 (rank_no hw)
    have ir : (decide ((0 : Int) ≤ (0 : Int)) && decide ((0 : Int) < ((x :: r).length : Int))) = true := by simp <;> omega
    refine Ends.ite (fun c => ?_) (fun c => Ends.tt rfl (no ?_))
    · have c : Sp.ranked x = true := c
      refine Ends.ite (fun cp => Ends.tt ir (Ends.ite (fun ca => yes ?_) (fun ca => Ends.tt rfl (no ?_)))) (fun cp => yes ?_)
      · unfold Sp.want; rw [c, cp]; simpa using ca
      · unfold Sp.want; rw [c, cp]; simp at ca; simp [ca]
      · unfold Sp.want; rw [c, cp]; rfl
    · have c : Sp.ranked x = false := c
      unfold Sp.want; rw [c]; rfl
end T121
end Go.Pe
end
section
namespace Go.Pe
open Go.Det
theorem hallX94 : ∀ g sp, X94.sp g = some sp → SpecOk C7p g sp := sp_cons T121.ok (sp_cons T58.ok (fun g sp h => by cases h))
theorem row_len (l : List LineT) (r : Int) : ∀ (s : List LineT) (i : Nat), (Sp.row l r i s).length ≤ s.length
  | [], i => Nat.le_refl _
  | x :: s, i => by
    have := row_len l r s (i + 1)
    unfold Sp.row
    split <;> simp <;> omega
namespace T47
variable {Q : PV → Ob → Prop}
theorem ranks_get {l : List LineT} {x : LineT} {i : Nat} {s : List LineT} (h : l.drop i = x :: s) : (Sp.ranks l false).getD i 0 = Sp.rankOf false l x := by
  have hd : (Sp.ranks l false).drop i = Sp.rankOf false l x :: s.map (Sp.rankOf false l) := by unfold Sp.ranks; rw [← List.map_drop, h]; rfl
  exact (drop_cons (d := 0) hd).2.1
theorem ranks_len (l : List LineT) : (Sp.ranks l false).length = l.length := by simp [Sp.ranks]
theorem L3_ends (l : List LineT) (hok : Sp.okF l = true) (r : Nat) (hr : r ≤ 300) (w : List Sp.PlaceT) (hn : Ends X94 (L4 l (Sp.ranks l false) w.length ((r : Int) + 1) w) Q) : ∀ (s : List LineT) (i : Nat) (acc : List Sp.PlaceT), l.drop i = s → i ≤ l.length → acc.length + (l.length - i) ≤ 1000000 → acc ++ Sp.row l r i s = w → Ends X94 (L3 l (Sp.ranks l false) acc.length r i acc) Q
  | [], i, acc, h, hi, ha, hw => by
    have h205 := (okF_of hok).1
    have := drop_nil h hi
    have hw : acc = w := by simpa [Sp.row] using hw
    subst hw
    refine Ends.steq (L3_eq ..) (Ends.ff (by simp; omega) ?_)
    rw [wr ((r : Int) + 1) (by omega) (by omega)]; exact hn
  | x :: s, i, acc, h, hi, ha, hw => by
    obtain ⟨h205, hall⟩ := okF_of hok
    obtain ⟨h1, h2, h3⟩ := drop_cons (d := DL) h
    have hx := okLine_of (hall x (mem_drop h))
    have h2' : l.getD i ([], false, [], []) = x := h2
    have hg := ranks_get h
    refine Ends.steq (L3_eq ..) (Ends.tt (by simp <;> omega) (Ends.tt (by rw [ranks_len]; simp; omega) ?_))
    simp only [Int.toNat_natCast, h2', hg]
    rw [wr ((i : Int) + 1) (by omega) (by omega)]
    unfold Sp.row at hw
    refine Ends.ite (fun c => Ends.tt (by simp; omega) (Ends.tt (by simp; omega) (Ends.tt (by simp; omega) ?_))) (fun c => ?_)
    · rw [if_pos (by simpa using c)] at hw
      have e2 : Nat.add acc.length 1 = (acc ++ [((i : Int), (r : Int), Sp.sumW (List.take 8 x.2.2.1))]).length := by simp
      have e8 : (8 : Int).toNat = 8 := rfl
      rw [e8, e2]
      exact L3_ends l hok r hr w hn s (i + 1) _ h3 h1 (by simp; omega) (by rw [List.append_assoc]; exact hw)
    · rw [if_neg (by simpa using c)] at hw
      exact L3_ends l hok r hr w hn s (i + 1) acc h3 h1 (by omega) hw
theorem L4_ends (l : List LineT) (hok : Sp.okF l = true) (w : List Sp.PlaceT) (hq : ∀ ob tail, ob = (0, Obj.arr false 74 shPlace w) :: tail → Q (.sl 0 3 0 w.length none) ob) : ∀ (k r : Nat) (acc : List Sp.PlaceT), r + k = l.length + 1 → 1 ≤ r → acc.length ≤ 205 * r → acc ++ Sp.rowsF l k r = w → Ends X94 (L4 l (Sp.ranks l false) acc.length r acc) Q
  | 0, r, acc, hk, h1, ha, hw => by
    have hw : acc = w := by simpa [Sp.rowsF] using hw
    subst hw
    exact Ends.steq (L4_eq ..) (Ends.ff (by simp; omega) (Ends.leaf (hq _ [] rfl)))
  | k + 1, r, acc, hk, h1, ha, hw => by
    have h205 := (okF_of hok).1
    have hl := row_len l r l 0
    refine Ends.steq (L4_eq ..) (Ends.tt (by simp; omega) ?_)
    refine L3_ends l hok r (by omega) (acc ++ Sp.row l r 0 l) ?_ l 0 acc rfl (Nat.zero_le _) (by omega) rfl
    have := L4_ends l hok w hq k (r + 1) (acc ++ Sp.row l r 0 l) (by omega) (by omega) (by simp; omega) (by rw [List.append_assoc]; exact hw)
    push_cast at this
    exact this
theorem L2_ends (l : List LineT) (hok : Sp.okF l = true) (r : Nat) (hr : r ≤ 300) (w : List Sp.PlaceT) (hn : w ≠ [] → Ends X94 (L4 l (Sp.ranks l false) w.length ((r : Int) + 1) w) Q) (hn0 : w = [] → Ends X94 (L1 l (Sp.ranks l false) ((r : Int) + 1)) Q) : ∀ (s : List LineT) (i : Nat), l.drop i = s → i ≤ l.length → Sp.row l r i s = w → Ends X94 (L2 l (Sp.ranks l false) r i) Q
  | [], i, h, hi, hw => by
    have h205 := (okF_of hok).1
    have := drop_nil h hi
    refine Ends.steq (L2_eq ..) (Ends.ff (by simp; omega) ?_)
    rw [wr ((r : Int) + 1) (by omega) (by omega)]; exact hn0 hw.symm
  | x :: s, i, h, hi, hw => by
    obtain ⟨h205, hall⟩ := okF_of hok
    obtain ⟨h1, h2, h3⟩ := drop_cons (d := DL) h
    have hx := okLine_of (hall x (mem_drop h))
    have h2' : l.getD i ([], false, [], []) = x := h2
    have hg := ranks_get h
    refine Ends.steq (L2_eq ..) (Ends.tt (by simp <;> omega) (Ends.tt (by rw [ranks_len]; simp; omega) ?_))
    simp only [Int.toNat_natCast, h2', hg]
    rw [wr ((i : Int) + 1) (by omega) (by omega)]
    unfold Sp.row at hw
    refine Ends.ite (fun c => Ends.tt (by simp; omega) (Ends.tt (by simp; omega) (Ends.tt (by simp) ?_))) (fun c => ?_)
    · rw [if_pos (by simpa using c)] at hw
      have e8 : (8 : Int).toNat = 8 := rfl
      rw [e8]
      exact L3_ends l hok r hr w (hn (by rw [← hw]; simp)) s (i + 1) [((i : Int), (r : Int), Sp.sumW (List.take 8 x.2.2.1))] h3 h1 (by simp; omega) hw
    · rw [if_neg (by simpa using c)] at hw
      exact L2_ends l hok r hr w hn hn0 s (i + 1) h3 h1 hw
theorem L1_ends (l : List LineT) (hok : Sp.okF l = true) (w : List Sp.PlaceT) (hq0 : w = [] → ∀ ob, Q .nil ob) (hq : ∀ ob tail, ob = (0, Obj.arr false 74 shPlace w) :: tail → Q (.sl 0 3 0 w.length none) ob) : ∀ (k r : Nat), r + k = l.length + 1 → 1 ≤ r → Sp.rowsF l k r = w → Ends X94 (L1 l (Sp.ranks l false) r) Q
  | 0, r, hk, h1, hw => Ends.steq (L1_eq ..) (Ends.ff (by simp; omega) (Ends.leaf (hq0 hw.symm _)))
  | k + 1, r, hk, h1, hw => by
    have h205 := (okF_of hok).1
    have hl := row_len l r l 0
    refine Ends.steq (L1_eq ..) (Ends.tt (by simp; omega) ?_)
    refine L2_ends l hok r (by omega) (Sp.row l r 0 l) (fun _ => ?_) (fun he => ?_) l 0 rfl (Nat.zero_le _) rfl
    · have := L4_ends l hok w hq k (r + 1) (Sp.row l r 0 l) (by omega) (by omega) (by omega) hw
      push_cast at this
      exact this
    · have hw' : Sp.rowsF l k (r + 1) = w := by rw [← hw, Sp.rowsF, he]; rfl
      have := L1_ends l hok w hq0 hq k (r + 1) (by omega) (by omega) hw'
      push_cast at this
      exact this
theorem ok : SpecOk C7p 47 cPlacesR := by
  refine spec7 (X := X94) rfl hallX94 (d := 9) (by kernel_rfl) (by kernel_rfl) (by kernel_rfl) (fun (l : List LineT) hl => ?_) (isSome_ex (by kernel_rfl))
  have hok : Sp.okF l = true := hl
  refine Ends.eq (T_eq l) (Ends.tt hok ?_)
  refine L1_ends l hok (Sp.places l) ?_ ?_ l.length 1 (by omega) (by omega) (Sp.places_rows l).symm
  · intro h ob
    exact ⟨[], rfl, by show [] = Sp.places l; rw [h]⟩
  · rintro ob tail rfl
    exact ⟨Sp.places l, res1_slz (s := shPlace) rfl rfl, rfl⟩
end T47
end Go.Pe
end
