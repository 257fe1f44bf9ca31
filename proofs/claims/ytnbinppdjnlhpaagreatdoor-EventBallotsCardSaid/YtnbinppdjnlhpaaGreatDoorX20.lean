import Derived.Test.YtnbinppdjnlhpaaGreatDoorX19
import Derived.IntWalk
/- A part of the proofs of the laws of one chapter (no law is stated here). Made by program out of texts by AI agents. -/
section
/- Contracts of functions of chapter 7. -/
namespace Go.Pe
open Go.Det
section
variable {X : PCtx} {Q : PV → Ob → Prop}
@[simp] theorem Ends_fail : Ends X .fail Q ↔ False := ⟨fun ⟨_, h⟩ => Ev.not_fail h, fun h => h.elim⟩
@[simp] theorem Ends_leaf {v : PV} {ob : Ob} : Ends X (.leaf v ob) Q ↔ Q v ob := ⟨fun ⟨_, h⟩ => h.of_leaf, fun h => .leaf h⟩
@[simp] theorem Ends_ite {c : Bool} {a b : Tr} : Ends X (.ite c a b) Q ↔ if c = true then Ends X a Q else Ends X b Q := by
  constructor
  · rintro ⟨n, h⟩
    rcases h.ite_iff with ⟨hc, h⟩ | ⟨hc, h⟩
    · rw [if_pos hc]; exact ⟨n, h⟩
    · rw [if_neg (by simp [hc])]; exact ⟨n, h⟩
  · intro h
    refine .ite (fun hc => ?_) (fun hc => ?_)
    · rwa [if_pos hc] at h
    · rwa [if_neg (by simp [hc])] at h
theorem Gives.of {sp : PSpec} {i : (prodS sp.ins).T} {v : PV} {ob : Ob} {c : Bool} {y : (prodS sp.outs).T} (h : resOf sp.outs v ob = some (c, y)) (hc : c = true) (hy : y = sp.f i) : Gives sp i v ob := ⟨y, by rw [h, hc], hy⟩
theorem wr (x : Int) (h1 : -9223372036854775808 ≤ x) (h2 : x ≤ 9223372036854775807) : IntKind.wrap .i64 x = x := IntWalk.i64_in x ⟨h1, h2⟩
theorem drop_cons {α : Type} {l r : List α} {x d : α} {i : Nat} (h : l.drop i = x :: r) : i < l.length ∧ l.getD i d = x ∧ l.drop (i + 1) = r := by
  have hlt : i < l.length := by
    rcases Nat.lt_or_ge i l.length with h1 | h1
    · exact h1
    · rw [List.drop_eq_nil_of_le h1] at h; cases h
  have h2 := List.drop_eq_getElem_cons hlt
  rw [h] at h2
  simp only [List.cons.injEq] at h2
  exact ⟨hlt, by simp [hlt, h2.1], h2.2.symm⟩
end
theorem hall70 : ∀ g sp, X70.sp g = some sp → SpecOk C7p g sp := fun g sp h => by cases h
/-- what a contract wants of its function -/
theorem spec7 {X : PCtx} (hX : X.C = C7p) (hall : ∀ g sp, X.sp g = some sp → SpecOk C7p g sp) {f : FuncId} {sp : PSpec} {d : Nat} (hsp : C7p.spec f = none) (hprim : C7p.prim f = none) (hno : X.sp f = none)
    (hev : ∀ i, sp.pre i = true → Ends X (tree X sp.nd d f (valsOf sp.ins i)) (Gives sp i)) (hfn : ∃ i, C7p.fn f = some i) : SpecOk C7p f sp := by
  have hmg : X.C.mg = false := by rw [hX]; rfl
  rw [← hX] at *
  exact specOk_of hmg hall hsp hprim hno hev hfn
theorem isSome_ex {α : Type} {o : Option α} (h : o.isSome = true) : ∃ i, o = some i := Option.isSome_iff_exists.1 h
namespace T87
theorem loop {Q : PV → Ob → Prop} (l : List Int) (hl : l.length ≤ 1000000) : ∀ (r : List Int) (i : Nat), l.drop i = r → i ≤ l.length → Q (.dat i64 (Sp.first r)) [] → Ends X70 (L1 l ((l.length : Int)) i) Q
  | [], i, h, hi, hq => by
    refine Ends.steq (L1_eq ..) ?_
    have : ¬ i < l.length := by
      intro h1
      have := List.drop_eq_getElem_cons h1
      rw [h] at this; cases this
    have he : i = l.length := by omega
    subst he
    simpa [Sp.first] using hq
  | x :: r, i, h, hi, hq => by
    obtain ⟨h1, h2, h3⟩ := drop_cons (d := 0) h
    refine Ends.steq (L1_eq ..) ?_
    rw [Ends_ite, if_pos (by simp; omega), Ends_ite, if_pos (by simp; omega), Ends_ite]
    simp only [Int.toNat_natCast, h2]
    by_cases hx : x = 0
    · subst hx
      rw [if_neg (by simp), wr _ (by omega) (by omega)]
      exact loop l hl r (i + 1) h3 h1 (by simpa [Sp.first] using hq)
    · rw [if_pos (by simpa using hx)]
      simpa [Sp.first, hx] using hq
theorem ok : SpecOk C7p 87 cFirst := by
  refine spec7 (X := X70) rfl hall70 (d := 9) (by kernel_rfl) (by kernel_rfl) rfl (fun l hl => ?_) (isSome_ex (by kernel_rfl))
  refine Ends.eq (T_eq l) ?_
  exact loop l (by simpa [cFirst] using hl) l 0 rfl (Nat.zero_le _) (Gives.of rfl rfl rfl)
end T87

namespace T21
theorem loop {Q : PV → Ob → Prop} (l : List Int) (hl : l.length ≤ 1000000) : ∀ (r : List Int) (i : Nat), l.drop i = r → i ≤ l.length → Q (.dat i64 (Sp.first r)) [] → Ends X70 (L1 l ((l.length : Int)) i) Q
  | [], i, h, hi, hq => by
    refine Ends.steq (L1_eq ..) ?_
    have : ¬ i < l.length := by
      intro h1
      have := List.drop_eq_getElem_cons h1
      rw [h] at this; cases this
    have he : i = l.length := by omega
    subst he
    simpa [Sp.first] using hq
  | x :: r, i, h, hi, hq => by
    obtain ⟨h1, h2, h3⟩ := drop_cons (d := 0) h
    refine Ends.steq (L1_eq ..) ?_
    rw [Ends_ite, if_pos (by simp; omega), Ends_ite, if_pos (by simp; omega), Ends_ite]
    simp only [Int.toNat_natCast, h2]
    by_cases hx : x = 0
    · subst hx
      rw [if_neg (by simp), wr _ (by omega) (by omega)]
      exact loop l hl r (i + 1) h3 h1 (by simpa [Sp.first] using hq)
    · rw [if_pos (by simpa using hx)]
      simpa [Sp.first, hx] using hq
theorem ok : SpecOk C7p 21 cFirst := by
  refine spec7 (X := X70) rfl hall70 (d := 9) (by kernel_rfl) (by kernel_rfl) rfl (fun l hl => ?_) (isSome_ex (by kernel_rfl))
  refine Ends.eq (T_eq l) ?_
  exact loop l (by simpa [cFirst] using hl) l 0 rfl (Nat.zero_le _) (Gives.of rfl rfl rfl)
end T21
theorem out_ends {X : PCtx} {n a b : Int} : Ends X (.ite (decide (n < a)) (.leaf (.dat i64 (3 : Int)) []) (.ite (decide (n > b)) (.leaf (.dat i64 (3 : Int)) []) (.leaf (.dat i64 (0 : Int)) []))) (Gives cOut (n, a, b)) := by
  simp only [Ends_ite, Ends_leaf]
  have key : ∀ x : Int, x = Sp.out n a b → Gives cOut (n, a, b) (.dat i64 x) [] := fun x hx => Gives.of rfl rfl hx
  split
  · rename_i h; exact key _ (by simp at h; simp [Sp.out, h])
  · rename_i h
    split
    · rename_i h2; exact key _ (by simp at h h2; simp only [Sp.out]; rw [if_neg (by omega), if_pos (by omega)])
    · rename_i h2; exact key _ (by simp at h h2; simp only [Sp.out]; rw [if_neg (by omega), if_neg (by omega)])
theorem T88.ok : SpecOk C7p 88 cOut :=
  spec7 (X := X70) rfl hall70 (d := 9) (by kernel_rfl) (by kernel_rfl) rfl (fun ⟨n, a, b⟩ _ => Ends.eq (T88.T_eq n a b) out_ends) (isSome_ex (by kernel_rfl))
theorem T22.ok : SpecOk C7p 22 cOut :=
  spec7 (X := X70) rfl hall70 (d := 9) (by kernel_rfl) (by kernel_rfl) rfl (fun ⟨n, a, b⟩ _ => Ends.eq (T22.T_eq n a b) out_ends) (isSome_ex (by kernel_rfl))
theorem T94.ok : SpecOk C7p 94 cOut :=
  spec7 (X := X70) rfl hall70 (d := 9) (by kernel_rfl) (by kernel_rfl) rfl (fun ⟨n, a, b⟩ _ => Ends.eq (T94.T_eq n a b) out_ends) (isSome_ex (by kernel_rfl))
theorem T92.ok : SpecOk C7p 92 cWhen := by
  refine spec7 (X := X70) rfl hall70 (d := 9) (by kernel_rfl) (by kernel_rfl) rfl (fun ⟨c, e⟩ _ => ?_) (isSome_ex (by kernel_rfl))
  refine Ends.eq (T92.T_eq c e) ?_
  have key : ∀ x : Int, x = Sp.whn c e → Gives cWhen (c, e) (.dat i64 x) [] := fun x hx => Gives.of rfl rfl hx
  simp only [Ends_ite, Ends_leaf]
  cases c
  · exact key _ rfl
  · exact key _ rfl
namespace T93
theorem loop {Q : PV → Ob → Prop} (l : List Int) (x : Int) (hl : l.length ≤ 1000000) : ∀ (r : List Int) (i : Nat), l.drop i = r → i ≤ l.length → Q (.dat i64 (Sp.index r x i)) [] → Ends X70 (L1 l x ((l.length : Int)) i) Q
  | [], i, h, hi, hq => by
    refine Ends.steq (L1_eq ..) ?_
    have : ¬ i < l.length := by
      intro h1
      have := List.drop_eq_getElem_cons h1
      rw [h] at this; cases this
    have he : i = l.length := by omega
    subst he
    simpa [Sp.index] using hq
  | y :: r, i, h, hi, hq => by
    obtain ⟨h1, h2, h3⟩ := drop_cons (d := 0) h
    refine Ends.steq (L1_eq ..) ?_
    rw [Ends_ite, if_pos (by simp; omega), Ends_ite, if_pos (by simp; omega), Ends_ite]
    simp only [Int.toNat_natCast, h2]
    by_cases hx : x = y
    · rw [if_pos (by simpa using hx)]
      simpa [Sp.index, hx] using hq
    · rw [if_neg (by simpa using hx), wr _ (by omega) (by omega)]
      exact loop l x hl r (i + 1) h3 h1 (by simpa [Sp.index, hx] using hq)
theorem ok : SpecOk C7p 93 cIndex := by
  refine spec7 (X := X70) rfl hall70 (d := 9) (by kernel_rfl) (by kernel_rfl) rfl (fun ⟨l, x⟩ hl => ?_) (isSome_ex (by kernel_rfl))
  refine Ends.eq (T_eq l x) ?_
  exact loop l x (by simpa [cIndex] using hl) l 0 rfl (Nat.zero_le _) (Gives.of rfl rfl rfl)
end T93
namespace T95
theorem loop {Q : PV → Ob → Prop} (n : Int) (hn : n ≤ 200) : ∀ (f : Nat) (s : Int), 1 ≤ s → n ≤ s * 2 ^ f → Q (.dat i64 (Sp.size f n s)) [] → Ends X70 (L1 n s) Q
  | 0, s, h1, h, hq => by
    refine Ends.steq (L1_eq ..) ?_
    rw [Ends_ite, if_neg (by simp at h ⊢; omega), Ends_leaf]
    exact hq
  | f + 1, s, h1, h, hq => by
    refine Ends.steq (L1_eq ..) ?_
    by_cases hs : s < n
    · rw [Ends_ite, if_pos (by simpa using hs), wr _ (by omega) (by omega)]
      refine loop n hn f (2 * s) (by omega) ?_ (by simpa [Sp.size, hs] using hq)
      rw [Int.pow_succ] at h; rw [Int.mul_comm 2 s, Int.mul_assoc, Int.mul_comm 2]; exact h
    · rw [Ends_ite, if_neg (by simpa using hs), Ends_leaf]
      simpa [Sp.size, hs] using hq
theorem ok : SpecOk C7p 95 cSize := by
  refine spec7 (X := X70) rfl hall70 (d := 9) (by kernel_rfl) (by kernel_rfl) rfl (fun (n : Int) hn => ?_) (isSome_ex (by kernel_rfl))
  have hn : n ≤ 200 := by simpa [cSize] using hn
  refine Ends.eq (T_eq n) ?_
  exact loop n hn 8 1 (by omega) (by omega) (Gives.of rfl rfl rfl)
end T95
namespace T27
theorem loop {Q : PV → Ob → Prop} (a b : List Int) (hl : a.length ≤ 1000000) (he : a.length = b.length) : ∀ (r q : List Int) (i : Nat), a.drop i = r → b.drop i = q → i ≤ a.length → Q (.bl (r == q)) [] → Ends X70 (L1 a b i) Q
  | [], q, i, h, h', hi, hq => by
    have hla : i = a.length := by
      have := congrArg List.length h
      simp at this; omega
    have hq0 : q = [] := by
      rw [← h']; exact List.drop_eq_nil_of_le (by omega)
    subst hq0
    refine Ends.steq (L1_eq ..) ?_
    rw [Ends_ite, if_neg (by simp; omega), Ends_leaf]
    exact hq
  | x :: r, q, i, h, h', hi, hq => by
    obtain ⟨h1, h2, h3⟩ := drop_cons (d := 0) h
    cases q with
    | nil =>
      have := congrArg List.length h'
      simp at this; omega
    | cons y q =>
      obtain ⟨g1, g2, g3⟩ := drop_cons (d := 0) h'
      refine Ends.steq (L1_eq ..) ?_
      refine Ends.tt (by simp <;> omega) (Ends.tt (by simp <;> omega) (Ends.tt (by simp <;> omega) ?_))
      simp only [Int.toNat_natCast, h2, g2, Ends_ite]
      by_cases hx : x = y
      · subst hx
        rw [if_neg (by simp), wr _ (by omega) (by omega)]
        exact loop a b hl he r q (i + 1) h3 g3 h1 (by simpa using hq)
      · rw [if_pos (by simpa using hx), Ends_leaf]
        have : ((x :: r) == (y :: q)) = false := by simp [hx]
        rw [this] at hq; exact hq
theorem ok : SpecOk C7p 27 cSame := by
  refine spec7 (X := X70) rfl hall70 (d := 9) (by kernel_rfl) (by kernel_rfl) rfl (fun ⟨a, b⟩ hl => ?_) (isSome_ex (by kernel_rfl))
  refine Ends.eq (T_eq a b) ?_
  have key : ∀ c : Bool, c = (a == b) → Gives cSame (a, b) (.bl c) [] := fun c hc => Gives.of rfl rfl hc
  rw [Ends_ite]
  by_cases h : a.length = b.length
  · rw [if_neg (by simp [h])]
    exact loop a b (by simpa [cSame] using hl) h a b 0 rfl rfl (Nat.zero_le _) (key _ rfl)
  · rw [if_pos (by simp; omega), Ends_leaf]
    refine key _ ?_
    have : a ≠ b := fun e => h (by rw [e])
    simp [this]
end T27
abbrev exp (m : Nat) (r : List Int) : List Int := r.flatMap fun s => [s, 2 * (m : Int) + 1 - s]
theorem drop_nil {α : Type} {l : List α} {i : Nat} (h : l.drop i = []) (hi : i ≤ l.length) : i = l.length := by
  have := congrArg List.length h
  simp at this; omega
theorem mem_drop {α : Type} {l r : List α} {x : α} {i : Nat} (h : l.drop i = x :: r) : x ∈ l := by
  have : x ∈ l.drop i := by rw [h]; simp
  exact List.mem_of_mem_drop this
/-- the elements of a bracket in the making -/
def Bd (l : List Int) : Prop := ∀ s ∈ l, 0 ≤ s ∧ s ≤ 2 * l.length
theorem exp_len (m : Nat) (l : List Int) : (exp m l).length = 2 * l.length := by
  induction l with
  | nil => rfl
  | cons a l ih => simp [exp] at ih ⊢; omega
theorem Bd.exp {l : List Int} (h : Bd l) (h1 : 1 ≤ l.length) : Bd (exp l.length l) := by
  intro s hs
  rw [exp_len]
  obtain ⟨a, ha, hs⟩ := List.mem_flatMap.1 hs
  have := h a ha
  simp at hs
  rcases hs with rfl | rfl <;> constructor <;> push_cast <;> omega
namespace T91
set_option maxRecDepth 10000 in
theorem L4_ends {Q : PV → Ob → Prop} (n : Int) (l : List Int) (hl : l.length ≤ 400) (hb : Bd l) : ∀ (r : List Int) (i : Nat) (acc : List Int), l.drop i = r → i ≤ l.length → acc.length ≤ 2 * i → Ends X70 (L1 n (acc ++ exp l.length r).length (acc ++ exp l.length r)) Q →
    Ends X70 (L4 n l.length acc.length l.length ((l.length : Int)) i acc l) Q
  | [], i, acc, h, hi, ha, hq => by
    have := drop_nil h hi
    refine Ends.steq (L4_eq ..) (Ends.ff (by simp; omega) ?_)
    simpa [exp] using hq
  | x :: r, i, acc, h, hi, ha, hq => by
    obtain ⟨h1, h2, h3⟩ := drop_cons (d := 0) h
    have hx := hb x (mem_drop h)
    refine Ends.steq (L4_eq ..) ?_
    refine Ends.tt (by simp <;> omega) (Ends.tt (by simp <;> omega) (Ends.tt (by simp <;> omega) (Ends.tt (by simp <;> omega) ?_)))
    simp only [Int.toNat_natCast, h2]
    rw [wr (2 * (l.length : Int)) (by omega) (by omega), wr (2 * (l.length : Int) + 1) (by omega) (by omega), wr (2 * (l.length : Int) + 1 - x) (by omega) (by omega), wr _ (by omega) (by omega)]
    rw [show Nat.add acc.length 2 = (acc ++ [x, 2 * (l.length : Int) + 1 - x]).length from by simp]
    refine L4_ends n l hl hb r (i + 1) _ h3 h1 (by simp; omega) ?_
    simpa [exp] using hq
theorem L2_ends {Q : PV → Ob → Prop} (n : Int) (l : List Int) (h1 : 1 ≤ l.length) (hl : l.length ≤ 400) (hb : Bd l) (hq : Ends X70 (L1 n (exp l.length l).length (exp l.length l)) Q) : Ends X70 (L2 n l.length l.length ((l.length : Int)) 0 l) Q := by
  cases hc : l with
  | nil => rw [hc] at h1; cases h1
  | cons x r =>
    rw [← hc]
    have hd : l.drop 0 = x :: r := by rw [hc]; rfl
    obtain ⟨g1, g2, g3⟩ := drop_cons (d := 0) hd
    have hx := hb x (mem_drop hd)
    refine Ends.steq (L2_eq ..) ?_
    refine Ends.tt (by simp <;> omega) (Ends.tt (by simp <;> omega) (Ends.tt (by simp <;> omega) (Ends.tt (by simp <;> omega) ?_)))
    simp only [Int.toNat_zero, g2]
    rw [wr (2 * (l.length : Int)) (by omega) (by omega), wr (2 * (l.length : Int) + 1) (by omega) (by omega), wr (2 * (l.length : Int) + 1 - x) (by omega) (by omega), wr _ (by omega) (by omega)]
    refine L4_ends n l hl hb r 1 [x, 2 * (l.length : Int) + 1 - x] g3 g1 (by simp) ?_
    have : [x, 2 * (l.length : Int) + 1 - x] ++ exp l.length r = exp l.length l := by
      rw [show exp l.length l = exp l.length (x :: r) by rw [hc]]
      simp [exp]
    rw [this]; exact hq
theorem L3_ends {Q : PV → Ob → Prop} (n : Int) (m : Nat) (hm : m ≤ 1000) : ∀ (r done : List Int), (done ++ r).length = m → Q (.sl 0 1 0 m none) [(0, .arr false 3 i64 (done ++ Sp.strike n r))] → Ends X70 (L3 n m m (m : Int) done.length (done ++ r)) Q
  | [], done, h, hq => by
    refine Ends.steq (L3_eq ..) (Ends.ff (by simp at h ⊢; omega) ?_)
    simpa [Sp.strike] using hq
  | x :: r, done, h, hq => by
    simp at h
    have hg : (done ++ x :: r).getD done.length 0 = x := by simp
    have hs : (done ++ x :: r).set done.length 0 = done ++ 0 :: r := by simp
    refine Ends.steq (L3_eq ..) ?_
    refine Ends.tt (by simp <;> omega) (Ends.tt (by simp <;> omega) (Ends.tt (by simp <;> omega) ?_))
    simp only [Int.toNat_natCast, hg, hs]
    rw [wr _ (by omega) (by omega), Ends_ite]
    by_cases hx : x > n
    · rw [if_pos (by simpa using hx)]
      refine Ends.tt (by simp <;> omega) (Ends.tt (by simp <;> omega) ?_)
      have := L3_ends (Q := Q) n m hm r (done ++ [0]) (by simp; omega) (by simpa [Sp.strike, hx] using hq)
      simpa using this
    · rw [if_neg (by simpa using hx)]
      have := L3_ends (Q := Q) n m hm r (done ++ [x]) (by simp; omega) (by simpa [Sp.strike, hx] using hq)
      simpa using this
theorem L1_ends {Q : PV → Ob → Prop} (n : Int) (hn : n ≤ 200) : ∀ (f : Nat) (l : List Int), 1 ≤ l.length → l.length ≤ 400 → n ≤ l.length * 2 ^ f → Bd l → (Q (.sl 0 1 0 (Sp.grow f n l).length none) [(0, .arr false 3 i64 (Sp.strike n (Sp.grow f n l)))]) → Ends X70 (L1 n l.length l) Q
  | 0, l, h1, h2, h3, hb, hq => by
    refine Ends.steq (L1_eq ..) (Ends.ff (by simp at h3 ⊢; omega) ?_)
    have := L3_ends (Q := Q) n l.length (by omega) l [] rfl (by simpa [Sp.grow] using hq)
    simpa using this
  | f + 1, l, h1, h2, h3, hb, hq => by
    refine Ends.steq (L1_eq ..) ?_
    rw [Ends_ite]
    by_cases hc : (l.length : Int) < n
    · rw [if_pos (by simpa using hc)]
      refine L2_ends n l h1 h2 hb (L1_ends n hn f _ (by rw [exp_len]; omega) (by rw [exp_len]; omega) ?_ (hb.exp h1) ?_)
      · rw [exp_len]; rw [Int.pow_succ] at h3; push_cast; rw [Int.mul_comm 2 (l.length : Int), Int.mul_assoc, Int.mul_comm 2]; exact h3
      · simpa [Sp.grow, hc, Sp.expand] using hq
    · rw [if_neg (by simpa using hc)]
      have := L3_ends (Q := Q) n l.length (by omega) l [] rfl (by simpa [Sp.grow, hc] using hq)
      simpa using this
theorem ok : SpecOk C7p 91 cbracket := by
  refine spec7 (X := X70) rfl hall70 (d := 9) (by kernel_rfl) (by kernel_rfl) rfl (fun (n : Int) hn => ?_) (isSome_ex (by kernel_rfl))
  have hn : 1 ≤ n ∧ n ≤ 200 := by simpa [cbracket] using hn
  refine Ends.eq (T_eq n) ?_
  refine L1_ends n hn.2 8 [1] (by simp) (by simp) (by simp; omega) (by intro s hs; simp at hs; subst hs; simp) ?_
  have hlen : (Sp.grow 8 n [1]).length = (Sp.strike n (Sp.grow 8 n [1])).length := by simp [Sp.strike]
  rw [hlen]
  exact Gives.of rfl (by simp) (by simp [cbracket, Sp.bracket])
end T91
end Go.Pe
end
