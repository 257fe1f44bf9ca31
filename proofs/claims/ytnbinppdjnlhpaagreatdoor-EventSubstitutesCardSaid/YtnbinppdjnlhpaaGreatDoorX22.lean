import Derived.Test.YtnbinppdjnlhpaaGreatDoorX21
import Derived.IntWalk
import Derived.Test.YtnbinppdjnlhpaaGreatDoorX20
import Derived.Test.YtnbinppdjnlhpaaGreatDoorX19
/- A part of the proofs of the laws of one chapter (no law is stated here). Made by program out of texts by AI agents. -/
section
/- Contracts of functions of chapter 7. -/
namespace Go.Pe
open Go.Det
section
variable {X : PCtx} {Q : PV → Ob → Prop}
@[simp] theorem Ends_fail : Ends X .fail Q ↔ False := ⟨fun ⟨_, h⟩ => Ev.not_fail h, fun h => h.elim⟩
@[simp] theorem Ends_leaf {v : PV} {ob : Ob} : Ends X (.leaf v ob) Q ↔ Q v ob := ⟨fun ⟨_, h⟩ => h.of_leaf, fun h => .leaf h⟩
@[simp] theorem Ends_ite {c : Bool} {a b : Tr} : Ends X (.ite c a b) Q ↔ if c = true then Ends X a Q else Ends X b Q := by
  constructor
  · rintro ⟨n, h⟩
    rcases h.ite_iff with ⟨hc, h⟩ | ⟨hc, h⟩
    · rw [if_pos hc]; exact ⟨n, h⟩
    · rw [if_neg (by simp [hc])]; exact ⟨n, h⟩
  · intro h
    refine .ite (fun hc => ?_) (fun hc => ?_)
    · rwa [if_pos hc] at h
    · rwa [if_neg (by simp [hc])] at h
theorem Gives.of {sp : PSpec} {i : (prodS sp.ins).T} {v : PV} {ob : Ob} {c : Bool} {y : (prodS sp.outs).T} (h : resOf sp.outs v ob = some (c, y)) (hc : c = true) (hy : y = sp.f i) : Gives sp i v ob := ⟨y, by rw [h, hc], hy⟩
theorem wr (x : Int) (h1 : -9223372036854775808 ≤ x) (h2 : x ≤ 9223372036854775807) : IntKind.wrap .i64 x = x := IntWalk.i64_in x ⟨h1, h2⟩
theorem drop_cons {α : Type} {l r : List α} {x d : α} {i : Nat} (h : l.drop i = x :: r) : i < l.length ∧ l.getD i d = x ∧ l.drop (i + 1) = r := by
  have hlt : i < l.length := by
    rcases Nat.lt_or_ge i l.length with h1 | h1
    · exact h1
    · rw [List.drop_eq_nil_of_le h1] at h; cases h
  have h2 := List.drop_eq_getElem_cons hlt
  rw [h] at h2
  simp only [List.cons.injEq] at h2
  exact ⟨hlt, by simp [hlt, h2.1], h2.2.symm⟩
end
theorem hall70 : ∀ g sp, X70.sp g = some sp → SpecOk C7p g sp := fun g sp h => by cases h
/-- what a contract wants of its function -/
theorem spec7 {X : PCtx} (hX : X.C = C7p) (hall : ∀ g sp, X.sp g = some sp → SpecOk C7p g sp) {f : FuncId} {sp : PSpec} {d : Nat} (hsp : C7p.spec f = none) (hprim : C7p.prim f = none) (hno : X.sp f = none)
    (hev : ∀ i, sp.pre i = true → Ends X (tree X sp.nd d f (valsOf sp.ins i)) (Gives sp i)) (hfn : ∃ i, C7p.fn f = some i) : SpecOk C7p f sp := by
  have hmg : X.C.mg = false := by rw [hX]; rfl
  rw [← hX] at *
  exact specOk_of hmg hall hsp hprim hno hev hfn
theorem isSome_ex {α : Type} {o : Option α} (h : o.isSome = true) : ∃ i, o = some i := Option.isSome_iff_exists.1 h
namespace T87
theorem loop {Q : PV → Ob → Prop} (l : List Int) (hl : l.length ≤ 1000000) : ∀ (r : List Int) (i : Nat), l.drop i = r → i ≤ l.length → Q (.dat i64 (Sp.first r)) [] → Ends X70 (L1 l ((l.length : Int)) i) Q
  | [], i, h, hi, hq => by
    refine Ends.steq (L1_eq ..) ?_
    have : ¬ i < l.length := by
      intro h1
      have := List.drop_eq_getElem_cons h1
      rw [h] at this; cases this
    have he : i = l.length := by omega
    subst he
    simpa [Sp.first] using hq
  | x :: r, i, h, hi, hq => by
    obtain ⟨h1, h2, h3⟩ := drop_cons (d := 0) h
    refine Ends.steq (L1_eq ..) ?_
    rw [Ends_ite, if_pos (by simp; omega), Ends_ite, if_pos (by simp; omega), Ends_ite]
    simp only [Int.toNat_natCast, h2]
    by_cases hx : x = 0
    · subst hx
      rw [if_neg (by simp), wr _ (by omega) (by omega)]
      exact loop l hl r (i + 1) h3 h1 (by simpa [Sp.first] using hq)
    · rw [if_pos (by simpa using hx)]
      simpa [Sp.first, hx] using hq
theorem ok : SpecOk C7p 87 cFirst := by
  refine spec7 (X := X70) rfl hall70 (d := 9) (by kernel_rfl) (by kernel_rfl) rfl (fun l hl => ?_) (isSome_ex (by kernel_rfl))
  refine Ends.eq (T_eq l) ?_
  exact loop l (by simpa [cFirst] using hl) l 0 rfl (Nat.zero_le _) (Gives.of rfl rfl rfl)
end T87

namespace T21
theorem loop {Q : PV → Ob → Prop} (l : List Int) (hl : l.length ≤ 1000000) : ∀ (r : List Int) (i : Nat), l.drop i = r → i ≤ l.length → Q (.dat i64 (Sp.first r)) [] → Ends X70 (L1 l ((l.length : Int)) i) Q
  | [], i, h, hi, hq => by
    refine Ends.steq (L1_eq ..) ?_
    have : ¬ i < l.length := by
      intro h1
      have := List.drop_eq_getElem_cons h1
      rw [h] at this; cases this
    have he : i = l.length := by omega
    subst he
    simpa [Sp.first] using hq
  | x :: r, i, h, hi, hq => by
    obtain ⟨h1, h2, h3⟩ := drop_cons (d := 0) h
    refine Ends.steq (L1_eq ..) ?_
    rw [Ends_ite, if_pos (by simp; omega), Ends_ite, if_pos (by simp; omega), Ends_ite]
    simp only [Int.toNat_natCast, h2]
    by_cases hx : x = 0
    · subst hx
      rw [if_neg (by simp), wr _ (by omega) (by omega)]
      exact loop l hl r (i + 1) h3 h1 (by simpa [Sp.first] using hq)
    · rw [if_pos (by simpa using hx)]
      simpa [Sp.first, hx] using hq
theorem ok : SpecOk C7p 21 cFirst := by
  refine spec7 (X := X70) rfl hall70 (d := 9) (by kernel_rfl) (by kernel_rfl) rfl (fun l hl => ?_) (isSome_ex (by kernel_rfl))
  refine Ends.eq (T_eq l) ?_
  exact loop l (by simpa [cFirst] using hl) l 0 rfl (Nat.zero_le _) (Gives.of rfl rfl rfl)
end T21
theorem out_ends {X : PCtx} {n a b : Int} : Ends X (.ite (decide (n < a)) (.leaf (.dat i64 (3 : Int)) []) (.ite (decide (n > b)) (.leaf (.dat i64 (3 : Int)) []) (.leaf (.dat i64 (0 : Int)) []))) (Gives cOut (n, a, b)) := by
  simp only [Ends_ite, Ends_leaf]
  have key : ∀ x : Int, x = Sp.out n a b → Gives cOut (n, a, b) (.dat i64 x) [] := fun x hx => Gives.of rfl rfl hx
  split
  · rename_i h; exact key _ (by simp at h; simp [Sp.out, h])
  · rename_i h
    split
    · rename_i h2; exact key _ (by simp at h h2; simp only [Sp.out]; rw [if_neg (by omega), if_pos (by omega)])
    · rename_i h2; exact key _ (by simp at h h2; simp only [Sp.out]; rw [if_neg (by omega), if_neg (by omega)])
theorem T88.ok : SpecOk C7p 88 cOut :=
  spec7 (X := X70) rfl hall70 (d := 9) (by kernel_rfl) (by kernel_rfl) rfl (fun ⟨n, a, b⟩ _ => Ends.eq (T88.T_eq n a b) out_ends) (isSome_ex (by kernel_rfl))
theorem T22.ok : SpecOk C7p 22 cOut :=
  spec7 (X := X70) rfl hall70 (d := 9) (by kernel_rfl) (by kernel_rfl) rfl (fun ⟨n, a, b⟩ _ => Ends.eq (T22.T_eq n a b) out_ends) (isSome_ex (by kernel_rfl))
theorem T94.ok : SpecOk C7p 94 cOut :=
  spec7 (X := X70) rfl hall70 (d := 9) (by kernel_rfl) (by kernel_rfl) rfl (fun ⟨n, a, b⟩ _ => Ends.eq (T94.T_eq n a b) out_ends) (isSome_ex (by kernel_rfl))
theorem T92.ok : SpecOk C7p 92 cWhen := by
  refine spec7 (X := X70) rfl hall70 (d := 9) (by kernel_rfl) (by kernel_rfl) rfl (fun ⟨c, e⟩ _ => ?_) (isSome_ex (by kernel_rfl))
  refine Ends.eq (T92.T_eq c e) ?_
  have key : ∀ x : Int, x = Sp.whn c e → Gives cWhen (c, e) (.dat i64 x) [] := fun x hx => Gives.of rfl rfl hx
  simp only [Ends_ite, Ends_leaf]
  cases c
  · exact key _ rfl
  · exact key _ rfl
namespace T93
theorem loop {Q : PV → Ob → Prop} (l : List Int) (x : Int) (hl : l.length ≤ 1000000) : ∀ (r : List Int) (i : Nat), l.drop i = r → i ≤ l.length → Q (.dat i64 (Sp.index r x i)) [] → Ends X70 (L1 l x ((l.length : Int)) i) Q
  | [], i, h, hi, hq => by
    refine Ends.steq (L1_eq ..) ?_
    have : ¬ i < l.length := by
      intro h1
      have := List.drop_eq_getElem_cons h1
      rw [h] at this; cases this
    have he : i = l.length := by omega
    subst he
    simpa [Sp.index] using hq
  | y :: r, i, h, hi, hq => by
    obtain ⟨h1, h2, h3⟩ := drop_cons (d := 0) h
    refine Ends.steq (L1_eq ..) ?_
    rw [Ends_ite, if_pos (by simp; omega), Ends_ite, if_pos (by simp; omega), Ends_ite]
    simp only [Int.toNat_natCast, h2]
    by_cases hx : x = y
    · rw [if_pos (by simpa using hx)]
      simpa [Sp.index, hx] using hq
    · rw [if_neg (by simpa using hx), wr _ (by omega) (by omega)]
      exact loop l x hl r (i + 1) h3 h1 (by simpa [Sp.index, hx] using hq)
theorem ok : SpecOk C7p 93 cIndex := by
  refine spec7 (X := X70) rfl hall70 (d := 9) (by kernel_rfl) (by kernel_rfl) rfl (fun ⟨l, x⟩ hl => ?_) (isSome_ex (by kernel_rfl))
  refine Ends.eq (T_eq l x) ?_
  exact loop l x (by simpa [cIndex] using hl) l 0 rfl (Nat.zero_le _) (Gives.of rfl rfl rfl)
end T93
namespace T95
theorem loop {Q : PV → Ob → Prop} (n : Int) (hn : n ≤ 200) : ∀ (f : Nat) (s : Int), 1 ≤ s → n ≤ s * 2 ^ f → Q (.dat i64 (Sp.size f n s)) [] → Ends X70 (L1 n s) Q
  | 0, s, h1, h, hq => by
    refine Ends.steq (L1_eq ..) ?_
    rw [Ends_ite, if_neg (by simp at h ⊢; omega), Ends_leaf]
    exact hq
  | f + 1, s, h1, h, hq => by
    refine Ends.steq (L1_eq ..) ?_
    by_cases hs : s < n
    · rw [Ends_ite, if_pos (by simpa using hs), wr _ (by omega) (by omega)]
      refine loop n hn f (2 * s) (by omega) ?_ (by simpa [Sp.size, hs] using hq)
      rw [Int.pow_succ] at h; rw [Int.mul_comm 2 s, Int.mul_assoc, Int.mul_comm 2]; exact h
    · rw [Ends_ite, if_neg (by simpa using hs), Ends_leaf]
      simpa [Sp.size, hs] using hq
theorem ok : SpecOk C7p 95 cSize := by
  refine spec7 (X := X70) rfl hall70 (d := 9) (by kernel_rfl) (by kernel_rfl) rfl (fun (n : Int) hn => ?_) (isSome_ex (by kernel_rfl))
  have hn : n ≤ 200 := by simpa [cSize] using hn
  refine Ends.eq (T_eq n) ?_
  exact loop n hn 8 1 (by omega) (by omega) (Gives.of rfl rfl rfl)
end T95
namespace T27
theorem loop {Q : PV → Ob → Prop} (a b : List Int) (hl : a.length ≤ 1000000) (he : a.length = b.length) : ∀ (r q : List Int) (i : Nat), a.drop i = r → b.drop i = q → i ≤ a.length → Q (.bl (r == q)) [] → Ends X70 (L1 a b i) Q
  | [], q, i, h, h', hi, hq => by
    have hla : i = a.length := by
      have := congrArg List.length h
      simp at this; omega
    have hq0 : q = [] := by
      rw [← h']; exact List.drop_eq_nil_of_le (by omega)
    subst hq0
    refine Ends.steq (L1_eq ..) ?_
    rw [Ends_ite, if_neg (by simp; omega), Ends_leaf]
    exact hq
  | x :: r, q, i, h, h', hi, hq => by
    obtain ⟨h1, h2, h3⟩ := drop_cons (d := 0) h
    cases q with
    | nil =>
      have := congrArg List.length h'
      simp at this; omega
    | cons y q =>
      obtain ⟨g1, g2, g3⟩ := drop_cons (d := 0) h'
      refine Ends.steq (L1_eq ..) ?_
      refine Ends.tt (by simp <;> omega) (Ends.tt (by simp <;> omega) (Ends.tt (by simp <;> omega) ?_))
      simp only [Int.toNat_natCast, h2, g2, Ends_ite]
      by_cases hx : x = y
      · subst hx
        rw [if_neg (by simp), wr _ (by omega) (by omega)]
        exact loop a b hl he r q (i + 1) h3 g3 h1 (by simpa using hq)
      · rw [if_pos (by simpa using hx), Ends_leaf]
        have : ((x :: r) == (y :: q)) = false := by simp [hx]
        rw [this] at hq; exact hq
theorem ok : SpecOk C7p 27 cSame := by
  refine spec7 (X := X70) rfl hall70 (d := 9) (by kernel_rfl) (by kernel_rfl) rfl (fun ⟨a, b⟩ hl => ?_) (isSome_ex (by kernel_rfl))
  refine Ends.eq (T_eq a b) ?_
  have key : ∀ c : Bool, c = (a == b) → Gives cSame (a, b) (.bl c) [] := fun c hc => Gives.of rfl rfl hc
  rw [Ends_ite]
  by_cases h : a.length = b.length
  · rw [if_neg (by simp [h])]
    exact loop a b (by simpa [cSame] using hl) h a b 0 rfl rfl (Nat.zero_le _) (key _ rfl)
  · rw [if_pos (by simp; omega), Ends_leaf]
    refine key _ ?_
    have : a ≠ b := fun e => h (by rw [e])
    simp [this]
end T27
abbrev exp (m : Nat) (r : List Int) : List Int := r.flatMap fun s => [s, 2 * (m : Int) + 1 - s]
theorem drop_nil {α : Type} {l : List α} {i : Nat} (h : l.drop i = []) (hi : i ≤ l.length) : i = l.length := by
  have := congrArg List.length h
  simp at this; omega
theorem mem_drop {α : Type} {l r : List α} {x : α} {i : Nat} (h : l.drop i = x :: r) : x ∈ l := by
  have : x ∈ l.drop i := by rw [h]; simp
  exact List.mem_of_mem_drop this
/-- the elements of a bracket in the making -/
def Bd (l : List Int) : Prop := ∀ s ∈ l, 0 ≤ s ∧ s ≤ 2 * l.length
theorem exp_len (m : Nat) (l : List Int) : (exp m l).length = 2 * l.length := by
  induction l with
  | nil => rfl
  | cons a l ih => simp [exp] at ih ⊢; omega
theorem Bd.exp {l : List Int} (h : Bd l) (h1 : 1 ≤ l.length) : Bd (exp l.length l) := by
  intro s hs
  rw [exp_len]
  obtain ⟨a, ha, hs⟩ := List.mem_flatMap.1 hs
  have := h a ha
  simp at hs
  rcases hs with rfl | rfl <;> constructor <;> push_cast <;> omega
namespace T91
set_option maxRecDepth 10000 in
theorem L4_ends {Q : PV → Ob → Prop} (n : Int) (l : List Int) (hl : l.length ≤ 400) (hb : Bd l) : ∀ (r : List Int) (i : Nat) (acc : List Int), l.drop i = r → i ≤ l.length → acc.length ≤ 2 * i → Ends X70 (L1 n (acc ++ exp l.length r).length (acc ++ exp l.length r)) Q →
    Ends X70 (L4 n l.length acc.length l.length ((l.length : Int)) i acc l) Q
  | [], i, acc, h, hi, ha, hq => by
    have := drop_nil h hi
    refine Ends.steq (L4_eq ..) (Ends.ff (by simp; omega) ?_)
    simpa [exp] using hq
  | x :: r, i, acc, h, hi, ha, hq => by
    obtain ⟨h1, h2, h3⟩ := drop_cons (d := 0) h
    have hx := hb x (mem_drop h)
    refine Ends.steq (L4_eq ..) ?_
    refine Ends.tt (by simp <;> omega) (Ends.tt (by simp <;> omega) (Ends.tt (by simp <;> omega) (Ends.tt (by simp <;> omega) ?_)))
    simp only [Int.toNat_natCast, h2]
    rw [wr (2 * (l.length : Int)) (by omega) (by omega), wr (2 * (l.length : Int) + 1) (by omega) (by omega), wr (2 * (l.length : Int) + 1 - x) (by omega) (by omega), wr _ (by omega) (by omega)]
    rw [show Nat.add acc.length 2 = (acc ++ [x, 2 * (l.length : Int) + 1 - x]).length from by simp]
    refine L4_ends n l hl hb r (i + 1) _ h3 h1 (by simp; omega) ?_
    simpa [exp] using hq
theorem L2_ends {Q : PV → Ob → Prop} (n : Int) (l : List Int) (h1 : 1 ≤ l.length) (hl : l.length ≤ 400) (hb : Bd l) (hq : Ends X70 (L1 n (exp l.length l).length (exp l.length l)) Q) : Ends X70 (L2 n l.length l.length ((l.length : Int)) 0 l) Q := by
  cases hc : l with
  | nil => rw [hc] at h1; cases h1
  | cons x r =>
    rw [← hc]
    have hd : l.drop 0 = x :: r := by rw [hc]; rfl
    obtain ⟨g1, g2, g3⟩ := drop_cons (d := 0) hd
    have hx := hb x (mem_drop hd)
    refine Ends.steq (L2_eq ..) ?_
    refine Ends.tt (by simp <;> omega) (Ends.tt (by simp <;> omega) (Ends.tt (by simp <;> omega) (Ends.tt (by simp <;> omega) ?_)))
    simp only [Int.toNat_zero, g2]
    rw [wr (2 * (l.length : Int)) (by omega) (by omega), wr (2 * (l.length : Int) + 1) (by omega) (by omega), wr (2 * (l.length : Int) + 1 - x) (by omega) (by omega), wr _ (by omega) (by omega)]
    refine L4_ends n l hl hb r 1 [x, 2 * (l.length : Int) + 1 - x] g3 g1 (by simp) ?_
    have : [x, 2 * (l.length : Int) + 1 - x] ++ exp l.length r = exp l.length l := by
      rw [show exp l.length l = exp l.length (x :: r) by rw [hc]]
      simp [exp]
    rw [this]; exact hq
theorem L3_ends {Q : PV → Ob → Prop} (n : Int) (m : Nat) (hm : m ≤ 1000) : ∀ (r done : List Int), (done ++ r).length = m → Q (.sl 0 1 0 m none) [(0, .arr false 3 i64 (done ++ Sp.strike n r))] → Ends X70 (L3 n m m (m : Int) done.length (done ++ r)) Q
  | [], done, h, hq => by
    refine Ends.steq (L3_eq ..) (Ends.ff (by simp at h ⊢; omega) ?_)
    simpa [Sp.strike] using hq
  | x :: r, done, h, hq => by
    simp at h
    have hg : (done ++ x :: r).getD done.length 0 = x := by simp
    have hs : (done ++ x :: r).set done.length 0 = done ++ 0 :: r := by simp
    refine Ends.steq (L3_eq ..) ?_
    refine Ends.tt (by simp <;> omega) (Ends.tt (by simp <;> omega) (Ends.tt (by simp <;> omega) ?_))
    simp only [Int.toNat_natCast, hg, hs]
    rw [wr _ (by omega) (by omega), Ends_ite]
    by_cases hx : x > n
    · rw [if_pos (by simpa using hx)]
      refine Ends.tt (by simp <;> omega) (Ends.tt (by simp <;> omega) ?_)
      have := L3_ends (Q := Q) n m hm r (done ++ [0]) (by simp; omega) (by simpa [Sp.strike, hx] using hq)
      simpa using this
    · rw [if_neg (by simpa using hx)]
      have := L3_ends (Q := Q) n m hm r (done ++ [x]) (by simp; omega) (by simpa [Sp.strike, hx] using hq)
      simpa using this
theorem L1_ends {Q : PV → Ob → Prop} (n : Int) (hn : n ≤ 200) : ∀ (f : Nat) (l : List Int), 1 ≤ l.length → l.length ≤ 400 → n ≤ l.length * 2 ^ f → Bd l → (Q (.sl 0 1 0 (Sp.grow f n l).length none) [(0, .arr false 3 i64 (Sp.strike n (Sp.grow f n l)))]) → Ends X70 (L1 n l.length l) Q
  | 0, l, h1, h2, h3, hb, hq => by
    refine Ends.steq (L1_eq ..) (Ends.ff (by simp at h3 ⊢; omega) ?_)
    have := L3_ends (Q := Q) n l.length (by omega) l [] rfl (by simpa [Sp.grow] using hq)
    simpa using this
  | f + 1, l, h1, h2, h3, hb, hq => by
    refine Ends.steq (L1_eq ..) ?_
    rw [Ends_ite]
    by_cases hc : (l.length : Int) < n
    · rw [if_pos (by simpa using hc)]
      refine L2_ends n l h1 h2 hb (L1_ends n hn f _ (by rw [exp_len]; omega) (by rw [exp_len]; omega) ?_ (hb.exp h1) ?_)
      · rw [exp_len]; rw [Int.pow_succ] at h3; push_cast; rw [Int.mul_comm 2 (l.length : Int), Int.mul_assoc, Int.mul_comm 2]; exact h3
      · simpa [Sp.grow, hc, Sp.expand] using hq
    · rw [if_neg (by simpa using hc)]
      have := L3_ends (Q := Q) n l.length (by omega) l [] rfl (by simpa [Sp.grow, hc] using hq)
      simpa using this
theorem ok : SpecOk C7p 91 cbracket := by
  refine spec7 (X := X70) rfl hall70 (d := 9) (by kernel_rfl) (by kernel_rfl) rfl (fun (n : Int) hn => ?_) (isSome_ex (by kernel_rfl))
  have hn : 1 ≤ n ∧ n ≤ 200 := by simpa [cbracket] using hn
  refine Ends.eq (T_eq n) ?_
  refine L1_ends n hn.2 8 [1] (by simp) (by simp) (by simp; omega) (by intro s hs; simp at hs; subst hs; simp) ?_
  have hlen : (Sp.grow 8 n [1]).length = (Sp.strike n (Sp.grow 8 n [1])).length := by simp [Sp.strike]
  rw [hlen]
  exact Gives.of rfl (by simp) (by simp [cbracket, Sp.bracket])
end T91
end Go.Pe
end
section
/- Names: contracts. -/
namespace Go.Pe
open Go.Det
theorem Ends_chk {X : PCtx} {Q : PV → Ob → Prop} {c : Bool} {a : Tr} : Ends X (.ite c a .fail) Q ↔ c = true ∧ Ends X a Q := by
  simp only [Ends_ite, Ends_fail]
  cases c <;> simp
theorem mark_iff (c : Int) : Sp.mark c = true ↔ (97 ≤ c ∧ c ≤ 122) ∨ (65 ≤ c ∧ c ≤ 90) ∨ (48 ≤ c ∧ c ≤ 57) ∨ c = 95 := by
  simp [Sp.mark, Sp.letter, or_assoc]
theorem letter_iff (c : Int) : Sp.letter c = true ↔ (97 ≤ c ∧ c ≤ 122) ∨ (65 ≤ c ∧ c ≤ 90) := by
  simp [Sp.letter]
namespace T158
variable {Q : PV → Ob → Prop}
theorem loop (s : List UInt8) (hne : s ≠ []) : ∀ (r : List UInt8) (i : Nat), s.drop i = r → i ≤ s.length → 1 ≤ i →
    ((r.all fun c => Sp.mark (c.toNat : Int)) = false → ∀ ob, Q (.bl false) ob) → ((r.all fun c => Sp.mark (c.toNat : Int)) = true → ∀ ob, Q (.dat .bool (decide ((s.length : Int) ≤ 24))) ob) → Ends X70 (L2 s s i) Q
  | [], i, h, hi, h1, hf, ht => by
    have := drop_nil h hi
    refine Ends.steq (L2_eq ..) (Ends.ff (by simp; omega) (Ends.tt (by simpa using hne) ?_))
    exact Ends.leaf (ht rfl _)
  | x :: r, i, h, hi, h1, hf, ht => by
    obtain ⟨g1, g2, g3⟩ := drop_cons (d := 0) h
    refine Ends.steq (L2_eq ..) (Ends.tt (by simpa using g1) ?_)
    have hn : ((i : Int) == 0) = false := by simp; omega
    simp only [Ends_ite, Ends_leaf, hn, Bool.false_eq_true, if_false, decide_eq_true_eq, Bool.not_eq_true', decide_eq_false_iff_not, bne_iff_ne, ne_eq]
    have step : Sp.mark (x.toNat : Int) = true → runeW s i = 1 → Ends X70 (L2 s s (Nat.add i (runeW s i))) Q := by
      intro hm hw
      rw [hw]
      refine loop s hne r (i + 1) g3 g1 (by omega) (fun e => hf (by simp [e])) (fun e => ht (by simp [e]; exact hm))
    have no : Sp.mark (x.toNat : Int) = false → ∀ ob, Q (.bl false) ob := fun hm => hf (by simp [hm])
    by_cases hl : (s.getD i 0).toNat < 128
    · obtain ⟨e1, e2⟩ := rune_low g1 hl
      rw [e1, g2]
      have mi := mark_iff (x.toNat : Int)
      generalize ((x.toNat : Nat) : Int) = c at mi step no ⊢
      by_cases hm : Sp.mark c = true
      · have := mi.1 hm
        repeat' split
        all_goals first | exact step hm e2 | (exfalso; omega)
      · have hm2 : Sp.mark c = false := by simpa using hm
        have : ¬ _ := fun h => hm (mi.2 h)
        repeat' split
        all_goals first | exact no hm2 _ | (exfalso; omega)
    · have hr := rune_high g1 (by omega)
      have hx : Sp.mark (x.toNat : Int) = false := by
        have : ¬ Sp.mark (x.toNat : Int) = true := fun h => by
          have := (mark_iff _).1 h
          rw [g2] at hl
          omega
        simpa using this
      repeat' split
      all_goals first | exact no hx _ | (exfalso; omega)
end T158
end Go.Pe
end
section
/- Contracts of functions of chapter 7: ballots, brackets. -/
namespace Go.Pe
open Go.Det
theorem nkey_bd {key : Int} (h0 : 0 ≤ key) : 0 ≤ Sp.nkey key ∧ Sp.nkey key ≤ 2147483646 := by
  unfold Sp.nkey
  rw [Int.tmod_eq_emod_of_nonneg (by omega)]
  omega
theorem tmod_bd {a b : Int} (ha : 0 ≤ a) (hb : 0 < b) : 0 ≤ Int.tmod a b ∧ Int.tmod a b < b := ⟨Int.tmod_nonneg _ ha, Int.tmod_lt_of_pos _ hb⟩
theorem swp_len (l : List Int) (i k : Nat) : (Sp.swp l i k).length = l.length := by simp [Sp.swp]
theorem shuffle_len : ∀ (i : Nat) (key : Int) (l : List Int), (Sp.shuffle i key l).length = l.length
  | 0, _, _ => rfl
  | i + 1, key, l => by unfold Sp.shuffle; rw [shuffle_len, swp_len]
theorem iota_succ (i : Nat) : Sp.iota (i + 1) = Sp.iota i ++ [(i : Int)] := by simp [Sp.iota, List.range_succ]
theorem iota_len (i : Nat) : (Sp.iota i).length = i := by simp [Sp.iota]
namespace T90
set_option maxRecDepth 10000 in
theorem L2_ends {Q : PV → Ob → Prop} (N : Nat) (hN : N ≤ 1000) : ∀ (i : Nat) (key v : Int) (l : List Int), v.toNat = i → v < N → l.length = N → 0 ≤ key → key ≤ 2147483646 → Q (.sl 0 1 0 N none) [(0, .arr false 3 i64 (Sp.shuffle i key l))] → Ends X70 (L2 key N v l) Q
  | 0, key, v, l, hv, hlt, hl, k0, k1, hq => by
    refine Ends.steq (L2_eq ..) (Ends.ff (by simp; omega) ?_)
    simpa [Sp.shuffle] using hq
  | i + 1, key, v, l, hv, hlt, hl, k0, k1, hq => by
    obtain rfl : v = (i : Int) + 1 := by omega
    have hnk := nkey_bd k0
    have hk := tmod_bd hnk.1 (show (0 : Int) < (i : Int) + 1 + 1 by omega)
    have e1 : ((i : Int) + 1).toNat = i + 1 := by omega
    have e2 : (i : Int) + 1 + 1 = (i : Int) + 2 := by omega
    refine Ends.steq (L2_eq ..) ?_
    rw [wr (48271 * key) (by omega) (by omega), wr ((i : Int) + 1 + 1) (by omega) (by omega), wr ((i : Int) + 1 - 1) (by omega) (by omega), e1]
    rw [show Int.tmod (48271 * key) 2147483647 = Sp.nkey key from rfl]
    generalize hkk : Int.tmod (Sp.nkey key) ((i : Int) + 1 + 1) = kk at hk ⊢
    have hq' : Q (.sl 0 1 0 N none) [(0, .arr false 3 i64 (Sp.shuffle i (Sp.nkey key) (Sp.swp l (i + 1) kk.toNat)))] := by
      rw [← hkk, e2]; exact hq
    clear hq
    refine Ends.tt (by simp <;> omega) (Ends.tt (by simp) (Ends.tt (by simp <;> omega) (Ends.tt (by simp <;> omega) (Ends.tt (by simp <;> omega) (Ends.tt (by simp <;> omega) (Ends.tt (by simp <;> omega) (Ends.tt (by simp <;> omega) (Ends.tt (by simp <;> omega) (Ends.tt (by simp <;> omega) (Ends.tt (by simp <;> omega) ?_))))))))))
    exact L2_ends N hN i _ _ _ (by omega) (by omega) (by simp [hl]) hnk.1 hnk.2 hq'
theorem L1_ends {Q : PV → Ob → Prop} (n key : Int) (N : Nat) (hN : N ≤ 1000) (hn : n = N) : ∀ (k i : Nat), i + k = N → Ends X70 (L2 key N (n - 1) (Sp.iota N)) Q → Ends X70 (L1 n key N N i (Sp.iota i ++ List.replicate k 0)) Q
  | 0, i, h, hq => by
    obtain rfl : i = N := by omega
    refine Ends.steq (L1_eq ..) (Ends.ff (by simp) ?_)
    rw [wr _ (by omega) (by omega)]
    simpa using hq
  | k + 1, i, h, hq => by
    refine Ends.steq (L1_eq ..) ?_
    refine Ends.tt (by simp <;> omega) (Ends.tt (by simp <;> omega) (Ends.tt (by simp [iota_len] <;> omega) ?_))
    have e : (Sp.iota i ++ List.replicate (k + 1) (0 : Int)).set i (i : Int) = Sp.iota (i + 1) ++ List.replicate k 0 := by
      rw [iota_succ, List.replicate_succ, List.set_append_right _ _ (by rw [iota_len]; exact Nat.le_refl _), iota_len]
      simp
    rw [Int.toNat_natCast, e, wr _ (by omega) (by omega)]
    exact L1_ends n key N hN hn k (i + 1) (by omega) hq
theorem ok : SpecOk C7p 90 cballot := by
  refine spec7 (X := X70) rfl hall70 (d := 9) (by kernel_rfl) (by kernel_rfl) rfl (fun (i : Int × Int) hn => ?_) (isSome_ex (by kernel_rfl))
  obtain ⟨n, key⟩ := i
  have hn : ((0 ≤ n ∧ n ≤ 200) ∧ 1 ≤ key) ∧ key ≤ 2147483646 := by simpa [cballot] using hn
  refine Ends.eq (T_eq n key) (Ends.tt (by simp; omega) ?_)
  have := L1_ends (Q := Gives cballot (n, key)) n key n.toNat (by omega) (by omega) n.toNat 0 (by omega) (L2_ends n.toNat (by omega) (n.toNat - 1) key (n - 1) _ (by omega) (by omega) (iota_len _) (by omega) (by omega) ?_)
  · simpa [Sp.iota] using this
  · have hlen : n.toNat = (Sp.ballot n key).length := by simp [Sp.ballot, shuffle_len, iota_len]
    show Gives cballot (n, key) (.sl 0 1 0 n.toNat none) [(0, .arr false 3 i64 (Sp.ballot n key))]
    rw [hlen]
    exact Gives.of rfl (by simp) (by simp [cballot])
end T90
namespace T24
set_option maxRecDepth 10000 in
theorem L4_ends {Q : PV → Ob → Prop} (N : Nat) (hN : N ≤ 1000) : ∀ (i : Nat) (key v : Int) (l : List Int), v.toNat = i → v < N → l.length = N → 0 ≤ key → key ≤ 2147483646 → Q (.sl 0 1 0 N none) [(0, .arr false 3 i64 (Sp.shuffle i key l))] → Ends X70 (L4 N key v l) Q
  | 0, key, v, l, hv, hlt, hl, k0, k1, hq => by
    refine Ends.steq (L4_eq ..) (Ends.ff (by simp; omega) ?_)
    simpa [Sp.shuffle] using hq
  | i + 1, key, v, l, hv, hlt, hl, k0, k1, hq => by
    obtain rfl : v = (i : Int) + 1 := by omega
    have hnk := nkey_bd k0
    have hk := tmod_bd hnk.1 (show (0 : Int) < (i : Int) + 1 + 1 by omega)
    have e1 : ((i : Int) + 1).toNat = i + 1 := by omega
    have e2 : (i : Int) + 1 + 1 = (i : Int) + 2 := by omega
    refine Ends.steq (L4_eq ..) ?_
    rw [wr (48271 * key) (by omega) (by omega), wr ((i : Int) + 1 + 1) (by omega) (by omega), wr ((i : Int) + 1 - 1) (by omega) (by omega), e1]
    rw [show Int.tmod (48271 * key) 2147483647 = Sp.nkey key from rfl]
    generalize hkk : Int.tmod (Sp.nkey key) ((i : Int) + 1 + 1) = kk at hk ⊢
    have hq' : Q (.sl 0 1 0 N none) [(0, .arr false 3 i64 (Sp.shuffle i (Sp.nkey key) (Sp.swp l (i + 1) kk.toNat)))] := by
      rw [← hkk, e2]; exact hq
    clear hq
    refine Ends.tt (by simp <;> omega) (Ends.tt (by simp) (Ends.tt (by simp <;> omega) (Ends.tt (by simp <;> omega) (Ends.tt (by simp <;> omega) (Ends.tt (by simp <;> omega) (Ends.tt (by simp <;> omega) (Ends.tt (by simp <;> omega) (Ends.tt (by simp <;> omega) (Ends.tt (by simp <;> omega) (Ends.tt (by simp <;> omega) ?_))))))))))
    exact L4_ends N hN i _ _ _ (by omega) (by omega) (by simp [hl]) hnk.1 hnk.2 hq'

theorem L2_ends {Q : PV → Ob → Prop} (n key : Int) (N : Nat) (hN : N ≤ 1000) (hn : n = N) : ∀ (k i : Nat), i + k = N → Ends X70 (L4 N key (n - 1) (Sp.iota N)) Q → Ends X70 (L2 n key i i (Sp.iota i)) Q
  | 0, i, h, hq => by
    obtain rfl : i = N := by omega
    refine Ends.steq (L2_eq ..) (Ends.ff (by simp; omega) ?_)
    rw [wr _ (by omega) (by omega)]
    exact hq
  | k + 1, i, h, hq => by
    refine Ends.steq (L2_eq ..) ?_
    refine Ends.tt (by simp <;> omega) (Ends.tt (by simp [iota_len] <;> omega) ?_)
    rw [show Nat.add i 1 = i + 1 from rfl, ← iota_succ, wr _ (by omega) (by omega)]
    exact L2_ends n key N hN hn k (i + 1) (by omega) hq
theorem ok : SpecOk C7p 24 cballot := by
  refine spec7 (X := X70) rfl hall70 (d := 9) (by kernel_rfl) (by kernel_rfl) rfl (fun (i : Int × Int) hn => ?_) (isSome_ex (by kernel_rfl))
  obtain ⟨n, key⟩ := i
  have hn : ((0 ≤ n ∧ n ≤ 200) ∧ 1 ≤ key) ∧ key ≤ 2147483646 := by simpa [cballot] using hn
  refine Ends.eq (T_eq n key) (Ends.steq (L1_eq ..) ?_)
  by_cases h0 : n = 0
  · subst h0
    refine Ends.ff (by simp) (Ends.steq (L3_eq ..) ?_)
    rw [wr _ (by omega) (by omega)]
    refine Ends.ff (by simp) (Ends.leaf (Gives.of rfl rfl ?_))
    simp [cballot, Sp.ballot, Sp.shuffle, Sp.iota]
  · refine Ends.tt (by simp; omega) (Ends.tt (by simp) ?_)
    rw [wr _ (by omega) (by omega)]
    refine L2_ends (Q := Gives cballot (n, key)) n key n.toNat (by omega) (by omega) (n.toNat - 1) 1 (by omega) (L4_ends n.toNat (by omega) (n.toNat - 1) key (n - 1) _ (by omega) (by omega) (iota_len _) (by omega) (by omega) ?_)
    have hlen : n.toNat = (Sp.ballot n key).length := by simp [Sp.ballot, shuffle_len, iota_len]
    show Gives cballot (n, key) (.sl 0 1 0 n.toNat none) [(0, .arr false 3 i64 (Sp.ballot n key))]
    rw [hlen]
    exact Gives.of rfl (by simp) (by simp [cballot])
end T24
/-- the first contracts -/
theorem hall71 : ∀ g sp, X71.sp g = some sp → SpecOk C7p g sp := spOf_ok fun x hx => by
  simp only [List.mem_cons, List.mem_nil_iff, or_false] at hx
  rcases hx with rfl | rfl | rfl | rfl | rfl | rfl | rfl | rfl | rfl | rfl | rfl | rfl
  · exact T87.ok
  · exact T88.ok
  · exact T92.ok
  · exact T93.ok
  · exact T95.ok
  · exact T21.ok
  · exact T22.ok
  · exact T94.ok
  · exact T27.ok
  · exact T90.ok
  · exact T91.ok
  · exact T24.ok
theorem T89.ok : SpecOk C7p 89 cKey :=
  spec7 (X := X71) rfl hall71 (d := 9) (by kernel_rfl) (by kernel_rfl) (by kernel_rfl) (fun (k : Int) _ => Ends.eq (T89.T_eq k) (Ends.tt rfl (Ends.leaf (Gives.of rfl rfl rfl)))) (isSome_ex (by kernel_rfl))
theorem T23.ok : SpecOk C7p 23 cKey :=
  spec7 (X := X71) rfl hall71 (d := 9) (by kernel_rfl) (by kernel_rfl) (by kernel_rfl) (fun (k : Int) _ => Ends.eq (T23.T_eq k) (Ends.tt rfl (Ends.leaf (Gives.of rfl rfl rfl)))) (isSome_ex (by kernel_rfl))
end Go.Pe
end
section
/- Contracts of functions of chapter 7: brackets, meetings. -/
namespace Go.Pe
open Go.Det
theorem size_tab : ∀ n : Fin 201, ∀ j : Fin 9, decide ((2 ^ j.1 : Int) < Sp.size 8 n.1 1) = decide ((2 ^ j.1 : Int) < (n.1 : Int)) := by decide +kernel
theorem size_lt {n : Int} (h1 : 1 ≤ n) (h2 : n ≤ 200) {j : Nat} (hj : j ≤ 8) : ((2 ^ j : Int) < Sp.size 8 n 1 ↔ (2 ^ j : Int) < n) := by
  have h := size_tab ⟨n.toNat, by omega⟩ ⟨j, by omega⟩
  simp only at h
  rw [show ((n.toNat : Nat) : Int) = n by omega] at h
  simpa using h
namespace T25
set_option maxRecDepth 10000 in
theorem L4_ends {Q : PV → Ob → Prop} (n : Int) (l : List Int) (hl : l.length ≤ 400) (hb : Bd l) : ∀ (r : List Int) (i : Nat) (acc : List Int), l.drop i = r → i ≤ l.length → acc.length ≤ 2 * i → Ends X71 (L1 n (acc ++ exp l.length r).length (acc ++ exp l.length r)) Q →
    Ends X71 (L4 n l.length acc.length i acc l) Q
  | [], i, acc, h, hi, ha, hq => by
    have := drop_nil h hi
    refine Ends.steq (L4_eq ..) (Ends.ff (by simp; omega) ?_)
    simpa [exp] using hq
  | x :: r, i, acc, h, hi, ha, hq => by
    obtain ⟨h1, h2, h3⟩ := drop_cons (d := 0) h
    have hx := hb x (mem_drop h)
    refine Ends.steq (L4_eq ..) ?_
    refine Ends.tt (by simp <;> omega) (Ends.tt (by simp <;> omega) (Ends.tt (by simp <;> omega) (Ends.tt (by simp <;> omega) (Ends.tt (by simp <;> omega) (Ends.tt (by simp <;> omega) ?_)))))
    simp only [Int.toNat_natCast, h2]
    rw [wr (2 * (l.length : Int)) (by omega) (by omega), wr (2 * (l.length : Int) + 1) (by omega) (by omega), wr (2 * (l.length : Int) + 1 - x) (by omega) (by omega), wr _ (by omega) (by omega)]
    rw [show Nat.add acc.length 2 = (acc ++ [x, 2 * (l.length : Int) + 1 - x]).length from by simp]
    refine L4_ends n l hl hb r (i + 1) _ h3 h1 (by simp; omega) ?_
    simpa [exp] using hq
theorem L2_ends {Q : PV → Ob → Prop} (n : Int) (l : List Int) (h1 : 1 ≤ l.length) (hl : l.length ≤ 400) (hb : Bd l) (hq : Ends X71 (L1 n (exp l.length l).length (exp l.length l)) Q) : Ends X71 (L2 n l.length 0 l) Q := by
  cases hc : l with
  | nil => rw [hc] at h1; cases h1
  | cons x r =>
    rw [← hc]
    have hd : l.drop 0 = x :: r := by rw [hc]; rfl
    obtain ⟨g1, g2, g3⟩ := drop_cons (d := 0) hd
    have hx := hb x (mem_drop hd)
    refine Ends.steq (L2_eq ..) ?_
    refine Ends.tt (by simp <;> omega) (Ends.tt (by simp <;> omega) (Ends.tt (by simp <;> omega) (Ends.tt (by simp <;> omega) (Ends.tt (by simp <;> omega) (Ends.tt (by simp <;> omega) ?_)))))
    simp only [Int.toNat_zero, g2]
    rw [wr (2 * (l.length : Int)) (by omega) (by omega), wr (2 * (l.length : Int) + 1) (by omega) (by omega), wr (2 * (l.length : Int) + 1 - x) (by omega) (by omega), wr _ (by omega) (by omega)]
    refine L4_ends n l hl hb r 1 [x, 2 * (l.length : Int) + 1 - x] g3 g1 (by simp) ?_
    have : [x, 2 * (l.length : Int) + 1 - x] ++ exp l.length r = exp l.length l := by
      rw [show exp l.length l = exp l.length (x :: r) by rw [hc]]
      simp [exp]
    rw [this]; exact hq
theorem L3_ends {Q : PV → Ob → Prop} (n : Int) (m : Nat) (hm : m ≤ 1000) : ∀ (r done : List Int), (done ++ r).length = m → Q (.sl 0 1 0 m none) [(0, .arr false 3 i64 (done ++ Sp.strike n r))] → Ends X71 (L3 n m done.length (done ++ r)) Q
  | [], done, h, hq => by
    refine Ends.steq (L3_eq ..) (Ends.ff (by simp at h ⊢; omega) ?_)
    simpa [Sp.strike] using hq
  | x :: r, done, h, hq => by
    simp at h
    have hg : (done ++ x :: r).getD done.length 0 = x := by simp
    have hs : (done ++ x :: r).set done.length 0 = done ++ 0 :: r := by simp
    refine Ends.steq (L3_eq ..) ?_
    refine Ends.tt (by simp <;> omega) (Ends.tt (by simp <;> omega) (Ends.tt (by simp <;> omega) ?_))
    simp only [Int.toNat_natCast, hg, hs]
    rw [wr _ (by omega) (by omega), Ends_ite]
    by_cases hx : x > n
    · rw [if_pos (by simpa using hx)]
      refine Ends.tt (by simp <;> omega) (Ends.tt (by simp <;> omega) ?_)
      have := L3_ends (Q := Q) n m hm r (done ++ [0]) (by simp; omega) (by simpa [Sp.strike, hx] using hq)
      simpa using this
    · rw [if_neg (by simpa using hx)]
      have := L3_ends (Q := Q) n m hm r (done ++ [x]) (by simp; omega) (by simpa [Sp.strike, hx] using hq)
      simpa using this
theorem L1_ends {Q : PV → Ob → Prop} (n : Int) (hn1 : 1 ≤ n) (hn : n ≤ 200) : ∀ (f j : Nat) (l : List Int), l.length = 2 ^ j → f + j = 8 → Bd l → (Q (.sl 0 1 0 (Sp.grow f n l).length none) [(0, .arr false 3 i64 (Sp.strike n (Sp.grow f n l)))]) → Ends X71 (L1 n l.length l) Q
  | 0, j, l, h1, h2, hb, hq => by
    obtain rfl : j = 8 := by omega
    have hs := size_lt hn1 hn (Nat.le_refl 8)
    refine Ends.steq (L1_eq ..) (Ends.tt (by simpa using hn) (Ends.ff ?_ ?_))
    · rw [h1]
      have : ¬ ((2 ^ 8 : Int) < Sp.size 8 n 1) := by rw [hs]; omega
      simpa using this
    · have := L3_ends (Q := Q) n l.length (by rw [h1]; omega) l [] rfl (by simpa [Sp.grow] using hq)
      simpa using this
  | f + 1, j, l, h1, h2, hb, hq => by
    have hs := size_lt hn1 hn (show j ≤ 8 by omega)
    have hp : 1 ≤ 2 ^ j := Nat.one_le_two_pow
    have hp2 : 2 ^ j ≤ 2 ^ 8 := Nat.pow_le_pow_right (by omega) (by omega)
    refine Ends.steq (L1_eq ..) (Ends.tt (by simpa using hn) ?_)
    rw [Ends_ite]
    have hcast : ((l.length : Nat) : Int) = (2 ^ j : Int) := by rw [h1]; simp
    rw [hcast]
    by_cases hc : (2 ^ j : Int) < n
    · rw [if_pos (by simpa using hs.2 hc)]
      refine L2_ends n l (by omega) (by omega) hb (L1_ends n hn1 hn f (j + 1) _ (by rw [exp_len, h1, Nat.pow_succ, Nat.mul_comm]) (by omega) (hb.exp (by omega)) ?_)
      have e : Sp.grow (f + 1) n l = Sp.grow f n (exp l.length l) := by
        rw [Sp.grow, if_pos (by rw [hcast]; exact hc)]; rfl
      rw [e] at hq; exact hq
    · rw [if_neg (by simpa using fun h => hc (hs.1 h))]
      have := L3_ends (Q := Q) n l.length (by omega) l [] rfl (by simpa [Sp.grow, hcast, hc] using hq)
      simpa using this
theorem ok : SpecOk C7p 25 cbracket := by
  refine spec7 (X := X71) rfl hall71 (d := 9) (by kernel_rfl) (by kernel_rfl) (by kernel_rfl) (fun (n : Int) hn => ?_) (isSome_ex (by kernel_rfl))
  have hn : 1 ≤ n ∧ n ≤ 200 := by simpa [cbracket] using hn
  refine Ends.eq (T_eq n) ?_
  refine L1_ends n hn.1 hn.2 8 0 [1] (by simp) (by omega) (by intro s hs; simp at hs; subst hs; simp) ?_
  have hlen : (Sp.grow 8 n [1]).length = (Sp.strike n (Sp.grow 8 n [1])).length := by simp [Sp.strike]
  rw [hlen]
  exact Gives.of rfl (by simp) (by simp [cbracket, Sp.bracket])
end T25
theorem hall72 : ∀ g sp, X72.sp g = some sp → SpecOk C7p g sp := spOf_ok fun x hx => by
  simp only [List.mem_cons, List.mem_nil_iff, or_false] at hx
  rcases hx with rfl | rfl | rfl | rfl | rfl | rfl | rfl | rfl | rfl | rfl | rfl | rfl | rfl | rfl | rfl
  · exact T89.ok
  · exact T23.ok
  · exact T25.ok
  · exact T87.ok
  · exact T88.ok
  · exact T92.ok
  · exact T93.ok
  · exact T95.ok
  · exact T21.ok
  · exact T22.ok
  · exact T94.ok
  · exact T27.ok
  · exact T90.ok
  · exact T91.ok
  · exact T24.ok
theorem out_0 {n a b : Int} (h : Sp.out n a b = 0) : a ≤ n ∧ n ≤ b := by
  unfold Sp.out at h
  split at h
  · cases h
  · split at h
    · cases h
    · omega
theorem first_0 : ∀ {l : List Int}, Sp.first l = 0 → ∀ x ∈ l, x = 0
  | [], _, x, hx => by cases hx
  | y :: l, h, x, hx => by
    unfold Sp.first at h
    by_cases hy : y = 0
    · rw [if_neg (by simpa using hy)] at h
      rcases List.mem_cons.1 hx with rfl | hx
      · exact hy
      · exact first_0 h x hx
    · rw [if_pos hy] at h; exact absurd h hy
theorem T18.ok : SpecOk C7p 18 cBallot := by
  refine spec7 (X := X72) rfl hall72 (d := 9) (by kernel_rfl) (by kernel_rfl) (by kernel_rfl) (fun (i : Int × Int) _ => ?_) (isSome_ex (by kernel_rfl))
  obtain ⟨n, key⟩ := i
  refine Ends.eq (T18.T_eq n key) (Ends.tt rfl (Ends.tt rfl (Ends.tt rfl ?_)))
  rw [Ends_ite]
  by_cases h : Sp.ballotE n key = 0
  · have h1 := first_0 (l := [Sp.out n 0 200, Sp.out key 1 2147483646]) h
    have h2 := out_0 (h1 (Sp.out n 0 200) (by simp))
    have h3 := out_0 (h1 (Sp.out key 1 2147483646) (by simp))
    rw [if_neg (by simpa [Sp.ballotE] using h)]
    refine Ends.tt (by simp; omega) (Ends.leaf (Gives.of rfl rfl ?_))
    simp [cBallot, Sp.Ballot, h]
  · rw [if_pos (by simpa [Sp.ballotE] using h)]
    refine Ends.leaf (Gives.of rfl rfl ?_)
    show ([], Sp.ballotE n key) = Sp.Ballot n key
    simp [Sp.Ballot, h]
theorem T19.ok : SpecOk C7p 19 cBracket := by
  refine spec7 (X := X72) rfl hall72 (d := 9) (by kernel_rfl) (by kernel_rfl) (by kernel_rfl) (fun (n : Int) _ => ?_) (isSome_ex (by kernel_rfl))
  refine Ends.eq (T19.T_eq n) (Ends.tt rfl ?_)
  rw [Ends_ite]
  by_cases h : Sp.out n 1 200 = 0
  · have h2 := out_0 h
    rw [if_neg (by simpa using h)]
    refine Ends.tt (by simp; omega) (Ends.leaf (Gives.of rfl rfl ?_))
    simp [cBracket, Sp.Bracket, h]
  · rw [if_pos (by simpa using h)]
    refine Ends.leaf (Gives.of rfl rfl ?_)
    simp [cBracket, Sp.Bracket, h]
theorem half_bd {i : Int} {f : Nat} (h1 : -1 ≤ i) (h2 : i < 2 ^ (f + 1)) : 0 ≤ Int.tdiv i 2 ∧ Int.tdiv i 2 < 2 ^ f := by
  rw [Int.pow_succ] at h2
  by_cases h : 0 ≤ i
  · rw [Int.tdiv_eq_ediv_of_nonneg h]; omega
  · obtain rfl : i = -1 := by omega
    have : (0 : Int) < 2 ^ f := Int.pow_pos (by omega)
    exact ⟨by decide, by simpa using this⟩
theorem half_le {i : Int} (h1 : -1 ≤ i) (h2 : i ≤ 1000) : Int.tdiv i 2 ≤ 1000 := by
  by_cases h : 0 ≤ i
  · rw [Int.tdiv_eq_ediv_of_nonneg h]; omega
  · obtain rfl : i = -1 := by omega
    decide
theorem lastIdx_bd : ∀ (l : List Int) (x i r : Int), 0 ≤ i → 0 ≤ r → r ≤ i → 0 ≤ Sp.lastIdx l x i r ∧ Sp.lastIdx l x i r ≤ i + l.length
  | [], x, i, r, h1, h2, h3 => by simp [Sp.lastIdx]; omega
  | y :: l, x, i, r, h1, h2, h3 => by
    unfold Sp.lastIdx
    have := lastIdx_bd l x (i + 1) (if y = x then i else r) (by omega) (by split <;> omega) (by split <;> omega)
    simp; omega
theorem grow_len {n : Int} (hn : n ≤ 200) : ∀ (f : Nat) (l : List Int), l.length ≤ 400 → (Sp.grow f n l).length ≤ 400
  | 0, l, h => h
  | f + 1, l, h => by
    unfold Sp.grow
    split
    · exact grow_len hn f _ (by unfold Sp.expand; rw [exp_len]; omega)
    · exact h
theorem bracket_len {n : Int} (hn : n ≤ 200) : (Sp.bracket n).length ≤ 400 := by
  have := grow_len hn 8 [1] (by simp)
  simpa [Sp.bracket, Sp.strike] using this
theorem index_bd : ∀ (l : List Int) (x i : Int), 0 ≤ i → -1 ≤ Sp.index l x i ∧ Sp.index l x i < i + l.length ∨ Sp.index l x i = -1
  | [], x, i, h => .inr rfl
  | y :: l, x, i, h => by
    unfold Sp.index
    split
    · left; constructor
      · omega
      · simp; omega
    · rcases index_bd l x (i + 1) (by omega) with h1 | h1
      · left; simp; omega
      · exact .inr h1
namespace T20
theorem L1_ends {Q : PV → Ob → Prop} : ∀ (f : Nat) (i k r : Int), -1 ≤ i → i < 2 ^ f → i ≤ 1000 → -1 ≤ k → k < 2 ^ f → k ≤ 1000 → (f = 0 → i = k) → 0 ≤ r → r + f ≤ 100 → Q (.tup [.dat i64 (Sp.rnd f i k r), .dat i64 (0 : Int)]) [] → Ends X72 (L1 i k r) Q
  | 0, i, k, r, h1, h2, h2', h3, h4, h4', h5, h6, h7, hq => by
    obtain rfl := h5 rfl
    exact Ends.steq (L1_eq ..) (Ends.tt (by simp) (Ends.leaf hq))
  | f + 1, i, k, r, h1, h2, h2', h3, h4, h4', h5, h6, h7, hq => by
    refine Ends.steq (L1_eq ..) ?_
    rw [Ends_ite]
    by_cases h : i = k
    · subst h
      rw [if_pos (by simp)]
      exact Ends.leaf (by simpa [Sp.rnd] using hq)
    · rw [if_neg (by simpa using h)]
      have g1 := half_bd h1 h2
      have g2 := half_bd h3 h4
      have g1' := half_le h1 h2'
      have g2' := half_le h3 h4'
      rw [wr _ (by omega) (by omega), wr _ (by omega) (by omega), wr _ (by omega) (by omega)]
      refine Ends.tt rfl (Ends.tt rfl (L1_ends f _ _ _ (by omega) g1.2 g1' (by omega) g2.2 g2' ?_ (by omega) (by omega) (by simpa [Sp.rnd, h] using hq)))
      intro hf
      subst hf
      have := g1.2; have := g2.2
      simp at *
      omega
theorem ok : SpecOk C7p 20 cMeet := by
  refine spec7 (X := X72) rfl hall72 (d := 9) (by kernel_rfl) (by kernel_rfl) (by kernel_rfl) (fun (i : Int × Int × Int) _ => ?_) (isSome_ex (by kernel_rfl))
  obtain ⟨n, a, b⟩ := i
  have main : Sp.meetE n a b = 0 → Ends X72 (L1 (Sp.index (Sp.bracket n) a 0) (Sp.index (Sp.bracket n) b 0) 0) (Gives cMeet (n, a, b)) := by
    intro h
    have h1 := out_0 (first_0 (l := [Sp.out n 1 200, _, _]) h (Sp.out n 1 200) (by simp))
    have hl := bracket_len h1.2
    have hi : ∀ x, -1 ≤ Sp.index (Sp.bracket n) x 0 ∧ Sp.index (Sp.bracket n) x 0 ≤ 400 := by
      intro x
      rcases index_bd (Sp.bracket n) x 0 (by omega) with h | h <;> omega
    have ha := hi a
    have hb := hi b
    refine L1_ends 10 _ _ 0 (by omega) (by omega) (by omega) (by omega) (by omega) (by omega) (by omega) (by omega) (by omega) (Gives.of rfl rfl ?_)
    simp [cMeet, Sp.Meet, h]
  have part : Sp.meetE n a b = 0 → 1 ≤ n ∧ n ≤ 200 ∧ (Sp.bracket n).length ≤ 1000000 := by
    intro h
    have h1 := out_0 (first_0 (l := [Sp.out n 1 200, _, _]) h (Sp.out n 1 200) (by simp))
    have hl := bracket_len h1.2
    omega
  have err : ∀ ob, ¬ Sp.meetE n a b = 0 → Gives cMeet (n, a, b) (.tup [.dat i64 (0 : Int), .dat i64 (Sp.meetE n a b)]) ob := by
    intro ob h
    exact Gives.of rfl rfl (by simp [cMeet, Sp.Meet, h])
  refine Ends.eq (T_eq n a b) (Ends.tt rfl ?_)
  rw [Ends_ite]
  by_cases hm : imin a b < 1
  · have e : Sp.first [Sp.out n 1 200, Sp.whn true 10, Sp.whn (a == b) 9] = Sp.meetE n a b := by simp [Sp.meetE, hm]
    rw [if_pos (by simpa using hm), e]
    refine Ends.tt rfl (Ends.tt rfl (Ends.tt rfl ?_))
    rw [Ends_ite]
    by_cases h : Sp.meetE n a b = 0
    · rw [if_neg (by simpa using h)]
      have := part h
      exact Ends.tt (by simp; omega) (Ends.tt (by simp; omega) (Ends.tt (by simp; omega) (main h)))
    · rw [if_pos (by simpa using h)]
      exact Ends.leaf (err _ h)
  · have e : Sp.first [Sp.out n 1 200, Sp.whn (decide (imax a b > n)) 10, Sp.whn (a == b) 9] = Sp.meetE n a b := by simp [Sp.meetE, hm]
    rw [if_neg (by simpa using hm), e]
    refine Ends.tt rfl (Ends.tt rfl (Ends.tt rfl ?_))
    rw [Ends_ite]
    by_cases h : Sp.meetE n a b = 0
    · rw [if_neg (by simpa using h)]
      have := part h
      exact Ends.tt (by simp; omega) (Ends.tt (by simp; omega) (Ends.tt (by simp; omega) (main h)))
    · rw [if_pos (by simpa using h)]
      exact Ends.leaf (err _ h)
end T20
namespace T26
theorem L2_ends {Q : PV → Ob → Prop} : ∀ (f : Nat) (i k r : Int), -1 ≤ i → i < 2 ^ f → i ≤ 1000 → -1 ≤ k → k < 2 ^ f → k ≤ 1000 → (f = 0 → i = k) → 0 ≤ r → r + f ≤ 100 → Q (.dat i64 (Sp.rnd f i k r)) [] → Ends X72 (L2 i k r) Q
  | 0, i, k, r, h1, h2, h2', h3, h4, h4', h5, h6, h7, hq => by
    obtain rfl := h5 rfl
    exact Ends.steq (L2_eq ..) (Ends.ff (by simp) (Ends.leaf hq))
  | f + 1, i, k, r, h1, h2, h2', h3, h4, h4', h5, h6, h7, hq => by
    refine Ends.steq (L2_eq ..) ?_
    rw [Ends_ite]
    by_cases h : i = k
    · subst h
      rw [if_neg (by simp)]
      exact Ends.leaf (by simpa [Sp.rnd] using hq)
    · rw [if_pos (by simpa using h)]
      have g1 := half_bd h1 h2
      have g2 := half_bd h3 h4
      have g1' := half_le h1 h2'
      have g2' := half_le h3 h4'
      rw [wr _ (by omega) (by omega), wr _ (by omega) (by omega), wr _ (by omega) (by omega)]
      refine Ends.tt rfl (Ends.tt rfl (L2_ends f _ _ _ (by omega) g1.2 g1' (by omega) g2.2 g2' ?_ (by omega) (by omega) (by simpa [Sp.rnd, h] using hq)))
      intro hf
      subst hf
      have := g1.2; have := g2.2
      simp at *
      omega
set_option maxRecDepth 10000 in
theorem L1_ends {Q : PV → Ob → Prop} (a b : Int) (l : List Int) (hl : l.length ≤ 400) : ∀ (r : List Int) (i : Nat) (x y : Int), l.drop i = r → i ≤ l.length → Ends X72 (L2 (Sp.lastIdx r a i x) (Sp.lastIdx r b i y) 0) Q → Ends X72 (L1 a b l x y i) Q
  | [], i, x, y, h, hi, hq => by
    have := drop_nil h hi
    exact Ends.steq (L1_eq ..) (Ends.ff (by simp; omega) hq)
  | z :: r, i, x, y, h, hi, hq => by
    obtain ⟨h1, h2, h3⟩ := drop_cons (d := 0) h
    refine Ends.steq (L1_eq ..) (Ends.tt (by simp <;> omega) (Ends.tt (by simp <;> omega) ?_))
    simp only [Int.toNat_natCast, h2]
    rw [wr _ (by omega) (by omega), Ends_ite]
    have ih := fun x y => L1_ends (Q := Q) a b l hl r (i + 1) x y h3 h1
    simp only [Sp.lastIdx] at hq
    by_cases ha : z = a
    · rw [if_pos (by simpa using ha)]
      refine Ends.tt (by simp <;> omega) ?_
      rw [if_pos ha] at hq
      rw [Ends_ite]
      by_cases hb : z = b
      · rw [if_pos hb] at hq; rw [if_pos (by simpa using hb)]; exact ih _ _ hq
      · rw [if_neg hb] at hq; rw [if_neg (by simpa using hb)]; exact ih _ _ hq
    · rw [if_neg (by simpa using ha)]
      refine Ends.tt (by simp <;> omega) ?_
      rw [if_neg ha] at hq
      rw [Ends_ite]
      by_cases hb : z = b
      · rw [if_pos hb] at hq; rw [if_pos (by simpa using hb)]; exact ih _ _ hq
      · rw [if_neg hb] at hq; rw [if_neg (by simpa using hb)]; exact ih _ _ hq
theorem ok : SpecOk C7p 26 cMeetR := by
  refine spec7 (X := X72) rfl hall72 (d := 9) (by kernel_rfl) (by kernel_rfl) (by kernel_rfl) (fun (i : Int × Int × Int) hn => ?_) (isSome_ex (by kernel_rfl))
  obtain ⟨n, a, b⟩ := i
  have hn : 1 ≤ n ∧ n ≤ 200 := by simpa [cMeetR] using hn
  have hl := bracket_len hn.2
  refine Ends.eq (T_eq n a b) (Ends.tt (by simpa using hn) ?_)
  refine L1_ends a b _ hl _ 0 0 0 rfl (Nat.zero_le _) ?_
  have hi := fun x => lastIdx_bd (Sp.bracket n) x 0 0 (by omega) (by omega) (by omega)
  have ha := hi a
  have hb := hi b
  exact L2_ends 10 _ _ 0 (by simp; omega) (by simp; omega) (by simp; omega) (by simp; omega) (by simp; omega) (by simp; omega) (by omega) (by omega) (by omega) (Gives.of rfl rfl rfl)
end T26
end Go.Pe
end
section
/- EventBallots. -/
namespace Go.Pe
open Go.Det
/-! places in a bracket -/
def Gk : Nat → List Int
  | 0 => [1]
  | k + 1 => Sp.expand (Gk k)
theorem Gk_len : ∀ k, (Gk k).length = 2 ^ k
  | 0 => rfl
  | k + 1 => by unfold Gk Sp.expand; rw [exp_len, Gk_len k, Nat.pow_succ, Nat.mul_comm]
theorem Gk_place : ∀ k : Fin 8, ∀ x : Fin 129, x.1 < 1 ∨ 2 ^ k.1 < x.1 ∨ Sp.index (Gk k.1) x.1 0 = Sp.lastIdx (Gk k.1) x.1 0 0 := by decide +kernel
theorem grow_Gk {n : Int} (hn : n ≤ 128) : ∀ (f j : Nat), j ≤ 7 → ∃ k, k ≤ 7 ∧ Sp.grow f n (Gk j) = Gk k ∧ (n ≤ 2 ^ k ∨ k = j + f)
  | 0, j, hj => ⟨j, hj, rfl, .inr rfl⟩
  | f + 1, j, hj => by
    unfold Sp.grow
    have hc : (((Gk j).length : Nat) : Int) = 2 ^ j := by rw [Gk_len]; simp
    rw [hc]
    split
    · rename_i h
      have hj7 : j < 7 := by
        rcases Nat.lt_or_ge j 7 with h1 | h1
        · exact h1
        · obtain rfl : j = 7 := by omega
          omega
      obtain ⟨k, h1, h2, h3⟩ := grow_Gk hn f (j + 1) (by omega)
      exact ⟨k, h1, h2, by omega⟩
    · rename_i h
      exact ⟨j, hj, rfl, .inl (by omega)⟩
theorem index_strike {n x : Int} (h1 : 1 ≤ x) (h2 : x ≤ n) : ∀ (l : List Int) (i : Int), Sp.index (Sp.strike n l) x i = Sp.index l x i
  | [], _ => rfl
  | y :: l, i => by
    show Sp.index ((if y > n then 0 else y) :: Sp.strike n l) x i = _
    unfold Sp.index
    rw [index_strike h1 h2 l]
    by_cases hy : y > n
    · rw [if_pos hy, if_neg (show ¬ x = 0 by omega), if_neg (show ¬ x = y by omega)]
    · rw [if_neg hy]
theorem lastIdx_strike {n x : Int} (h1 : 1 ≤ x) (h2 : x ≤ n) : ∀ (l : List Int) (i r : Int), Sp.lastIdx (Sp.strike n l) x i r = Sp.lastIdx l x i r
  | [], _, _ => rfl
  | y :: l, i, r => by
    show Sp.lastIdx ((if y > n then 0 else y) :: Sp.strike n l) x i r = _
    unfold Sp.lastIdx
    rw [lastIdx_strike h1 h2 l]
    by_cases hy : y > n
    · rw [if_pos hy, if_neg (show ¬ (0 : Int) = x by omega), if_neg (show ¬ y = x by omega)]
    · rw [if_neg hy]
theorem place {n x : Int} (hn : n ≤ 70) (h1 : 1 ≤ x) (h2 : x ≤ n) : Sp.index (Sp.bracket n) x 0 = Sp.lastIdx (Sp.bracket n) x 0 0 := by
  unfold Sp.bracket
  rw [index_strike h1 h2, lastIdx_strike h1 h2]
  obtain ⟨k, g1, g2, g3⟩ := grow_Gk (n := n) (by omega) 8 0 (by omega)
  have g2 : Sp.grow 8 n [1] = Gk k := g2
  rw [g2]
  have hp := Gk_place ⟨k, by omega⟩ ⟨x.toNat, by omega⟩
  simp only at hp
  rw [show ((x.toNat : Nat) : Int) = x by omega] at hp
  rcases hp with hp | hp | hp
  · omega
  · have : n ≤ 2 ^ k := by omega
    have e : ((2 ^ k : Nat) : Int) = (2 : Int) ^ k := by simp
    omega
  · exact hp
theorem awake_ok : SpecOk C7p 17 cAwake := by
  refine ⟨by kernel_rfl, isSome_ex (by kernel_rfl), fun F h args i _ hlt hargs _ => ?_⟩
  have ha : args = [] := by
    have := hargs (fun _ => none) 0
    simpa [valsOf, cAwake] using this
  subst ha
  refine ⟨[(.bool true, h)], 1, fun m hm => ?_, fun _ => ⟨_, rfl⟩, fun x hx => ?_⟩
  · obtain ⟨m', rfl⟩ : ∃ m', m = m' + 1 := ⟨m - 1, by omega⟩
    rw [ecall]
    rfl
  · cases List.mem_singleton.1 hx
    exact ⟨Nat.le_refl _, fun _ _ => rfl, hlt, F, fun _ _ h => h, fun _ _ h => .inl h, by assumption, fun ρ N => mk_bool _⟩
theorem hall73 : ∀ g sp, X73.sp g = some sp → SpecOk C7p g sp := spOf_ok fun x hx => by
  simp only [List.mem_cons, List.mem_nil_iff, or_false] at hx
  rcases hx with rfl | rfl | rfl | rfl | rfl | rfl | rfl | rfl | rfl | rfl | rfl | rfl | rfl | rfl | rfl | rfl | rfl | rfl | rfl | rfl
  · exact awake_ok
  · exact T18.ok
  · exact T19.ok
  · exact T20.ok
  · exact T26.ok
  · exact T89.ok
  · exact T23.ok
  · exact T25.ok
  · exact T87.ok
  · exact T88.ok
  · exact T92.ok
  · exact T93.ok
  · exact T95.ok
  · exact T21.ok
  · exact T22.ok
  · exact T94.ok
  · exact T27.ok
  · exact T90.ok
  · exact T91.ok
  · exact T24.ok
noncomputable def cEventBallots : PSpec := ⟨[i64, i64, .pair i64 i64], fun _ => true, [.bool], fun _ => true, false⟩
end Go.Pe
end
section
/- EventBallots: the law. -/
namespace Go.Pe
open Go.Det
theorem meetE_eq (n a b : Int) : Sp.meetE n a b = if Sp.out n 1 200 ≠ 0 then Sp.out n 1 200 else if a < 1 ∨ a > n ∨ b < 1 ∨ b > n then 10 else if a = b then 9 else 0 := by
  have h1 : (decide (imin a b < 1) || decide (imax a b > n)) = decide (a < 1 ∨ a > n ∨ b < 1 ∨ b > n) := by
    rw [Bool.eq_iff_iff]
    simp only [Bool.or_eq_true, decide_eq_true_eq]
    unfold imin imax
    split <;> split <;> omega
  unfold Sp.meetE
  rw [h1]
  generalize Sp.out n 1 200 = o
  by_cases h : o = 0
  · subst h
    by_cases h2 : a < 1 ∨ a > n ∨ b < 1 ∨ b > n
    · rw [decide_eq_true h2, if_pos h2]; simp [Sp.first, Sp.whn]
    · rw [decide_eq_false h2, if_neg h2]
      by_cases h3 : a = b
      · subst h3; simp [Sp.first, Sp.whn]
      · have h4 : (a == b) = false := by simpa using h3
        simp [Sp.first, Sp.whn, h3, h4]
  · simp [Sp.first, h]
namespace T3
theorem L1_ends {Q : PV → Ob → Prop} (n key a b : Int) (hq : ∀ e, e = Sp.meetE n a b → Ends X73 (L2 n key (Sp.Ballot n key).1 (Sp.Ballot n key).2 (Sp.Bracket n).1 (Sp.Bracket n).2 (Sp.Meet n a b).1 (Sp.Meet n a b).2 (Sp.ballotE n key) (Sp.out n 1 200) e a b) Q) : Ends X73 (L1 n key a b) Q := by
  have hq : ∀ e, e = Sp.meetE n a b → Ends X73 (L2 n key (Sp.Ballot n key).1 (Sp.Ballot n key).2 (Sp.Bracket n).1 (Sp.Bracket n).2 (Sp.Meet n a b).1 (Sp.Meet n a b).2 (Sp.first [Sp.out n 0 200, Sp.out key 1 2147483646]) (Sp.out n 1 200) e a b) Q := hq
  have me := meetE_eq n a b
  refine Ends.steq (L1_eq ..) ?_
  iterate 9 refine Ends.tt (by simp) ?_
  rw [Ends_ite]
  by_cases h : Sp.out n 1 200 = 0
  · rw [if_pos (by simpa using h)]
    rw [if_neg (by simpa using h)] at me
    refine Ends.tt rfl ?_
    rw [Ends_ite]
    by_cases h1 : a < 1
    · rw [if_pos (by simpa using h1)]; exact hq _ (by rw [me, if_pos (.inl h1)])
    rw [if_neg (by simpa using h1)]
    refine Ends.tt rfl ?_
    rw [Ends_ite]
    by_cases h2 : a > n
    · rw [if_pos (by simpa using h2)]; exact hq _ (by rw [me, if_pos (.inr (.inl h2))])
    rw [if_neg (by simpa using h2)]
    refine Ends.tt rfl ?_
    rw [Ends_ite]
    by_cases h3 : b < 1
    · rw [if_pos (by simpa using h3)]; exact hq _ (by rw [me, if_pos (.inr (.inr (.inl h3)))])
    rw [if_neg (by simpa using h3)]
    refine Ends.tt rfl ?_
    rw [Ends_ite]
    by_cases h4 : b > n
    · rw [if_pos (by simpa using h4)]; exact hq _ (by rw [me, if_pos (.inr (.inr (.inr h4)))])
    rw [if_neg (by simpa using h4), Ends_ite, if_pos (by simpa using h)]
    rw [if_neg (by omega)] at me
    refine Ends.tt rfl (Ends.tt rfl ?_)
    rw [Ends_ite]
    by_cases h5 : a = b
    · rw [if_pos (by simpa using h5)]; exact hq _ (by rw [me, if_pos h5])
    · rw [if_neg (by simpa using h5)]; exact hq _ (by rw [me, if_neg h5, h])
  · rw [if_neg (by simpa using h), Ends_ite, if_neg (by simpa using h)]
    exact hq _ (by rw [me, if_pos h])

theorem last {X : PCtx} {Q : PV → Ob → Prop} {v7 v16 v9 v17 : List Int} {v8 v10 v11 v12 v13 v14 v15 v18 : Int} (hq : Q (.dat .bool true) []) (e8 : v8 = v13) (e7 : v7 = v16) (e10 : v10 = v14) (e9 : v9 = v17) (e12 : v12 = v15) (e11 : v11 = v18) (h7 : v7.length ≤ 1000000) (h9 : v9.length ≤ 1000000) :
    Ends X (.ite (v8 == v13) (.ite (decide (v7.length ≤ 1000000)) (.ite (v7 == v16) (.ite (v10 == v14) (.ite (decide (v9.length ≤ 1000000)) (.ite (v9 == v17) (.ite (v12 == v15) (.ite (v11 == v18) (.ite true (.leaf (.dat .bool true) []) .fail)
      (.leaf (.bl false) [])) (.leaf (.bl false) [])) (.leaf (.bl false) [])) .fail) (.leaf (.bl false) [])) (.leaf (.bl false) [])) .fail) (.leaf (.bl false) [])) Q := by
  subst e8 e7 e10 e9 e12 e11
  exact Ends.tt (by simp) (Ends.tt (by simpa using h7) (Ends.tt (by simp) (Ends.tt (by simp) (Ends.tt (by simpa using h9) (Ends.tt (by simp) (Ends.tt (by simp) (Ends.tt (by simp) (Ends.tt rfl (Ends.leaf hq)))))))))
theorem ok : SpecOk C7p 3 cEventBallots := by
  refine spec7 (X := X73) rfl hall73 (d := 9) (by kernel_rfl) (by kernel_rfl) (by kernel_rfl) (fun (i : Int × Int × Int × Int) _ => ?_) (isSome_ex (by kernel_rfl))
  obtain ⟨n, key, a, b⟩ := i
  have hQ : ∀ ob, Gives cEventBallots (n, key, a, b) (.dat .bool true) ob := fun ob => Gives.of rfl rfl rfl
  have main : (n > 70 → n > 200) → Ends X73 (L1 n key a b) (Gives cEventBallots (n, key, a, b)) := by
    intro hn
    refine L1_ends n key a b ?_
    rintro e rfl
    have hB2 : (Sp.Ballot n key).2 = Sp.ballotE n key := by
      unfold Sp.Ballot; split
      · rfl
      · rename_i h; simp at h; simp [h]
    have hK2 : (Sp.Bracket n).2 = Sp.out n 1 200 := by
      unfold Sp.Bracket; split
      · rfl
      · rename_i h; simp at h; simp [h]
    have hM2 : (Sp.Meet n a b).2 = Sp.meetE n a b := by
      unfold Sp.Meet; split
      · rfl
      · rename_i h; simp at h; simp [h]
    -- the ballot
    have hB : Sp.ballotE n key = 0 → (Sp.Ballot n key).1 = Sp.ballot n key := fun h => by simp [Sp.Ballot, h]
    have hB' : ¬ Sp.ballotE n key = 0 → (Sp.Ballot n key).1 = [] := fun h => by simp [Sp.Ballot, h]
    have hK : Sp.out n 1 200 = 0 → (Sp.Bracket n).1 = Sp.bracket n := fun h => by simp [Sp.Bracket, h]
    have hK' : ¬ Sp.out n 1 200 = 0 → (Sp.Bracket n).1 = [] := fun h => by simp [Sp.Bracket, h]
    have hM : Sp.meetE n a b = 0 → (Sp.Meet n a b).1 = Sp.meetR n a b := fun h => by
      have h1 := h
      rw [meetE_eq] at h1
      have h0 : Sp.out n 1 200 = 0 := by
        by_cases h2 : Sp.out n 1 200 = 0
        · exact h2
        · rw [if_pos h2] at h1; exact h1
      rw [if_neg (by simpa using h0)] at h1
      have h3 : ¬ (a < 1 ∨ a > n ∨ b < 1 ∨ b > n) := fun h2 => by rw [if_pos h2] at h1; cases h1
      have := out_0 h0
      have hn70 : n ≤ 70 := by
        rcases Int.lt_or_le 70 n with h4 | h4
        · have := hn h4; omega
        · exact h4
      simp only [Sp.Meet, h, Sp.meetR]
      rw [if_neg (by simp), place hn70 (by omega) (by omega), place hn70 (by omega) (by omega)]
    have hM' : ¬ Sp.meetE n a b = 0 → (Sp.Meet n a b).1 = 0 := fun h => by simp [Sp.Meet, h]
    have oB : Sp.ballotE n key = 0 → (0 ≤ n ∧ n ≤ 200) ∧ 1 ≤ key ∧ key ≤ 2147483646 := fun h =>
      ⟨out_0 (first_0 (l := [Sp.out n 0 200, Sp.out key 1 2147483646]) h (Sp.out n 0 200) (by simp)), out_0 (first_0 (l := [Sp.out n 0 200, Sp.out key 1 2147483646]) h (Sp.out key 1 2147483646) (by simp))⟩
    have oM : Sp.meetE n a b = 0 → 1 ≤ n ∧ n ≤ 200 := fun h => out_0 (first_0 (l := [Sp.out n 1 200, _, _]) h (Sp.out n 1 200) (by simp))
    have lB : (Sp.Ballot n key).1.length ≤ 1000000 := by
      by_cases h : Sp.ballotE n key = 0
      · rw [hB h]; have := oB h; simp [Sp.ballot, shuffle_len, iota_len]; omega
      · rw [hB' h]; simp
    have lK : (Sp.Bracket n).1.length ≤ 1000000 := by
      by_cases h : Sp.out n 1 200 = 0
      · rw [hK h]; have := bracket_len (out_0 h).2; omega
      · rw [hK' h]; simp
    refine Ends.steq (L2_eq ..) ?_
    rw [Ends_ite]
    by_cases h1 : Sp.ballotE n key = 0
    · rw [if_pos (by simpa using h1)]
      refine Ends.tt (by have := oB h1; simp; omega) (Ends.steq (L3_eq ..) ?_)
      rw [Ends_ite]
      by_cases h2 : Sp.out n 1 200 = 0
      · rw [if_pos (by simpa using h2)]
        refine Ends.tt (by have := out_0 h2; simp; omega) (Ends.steq (L5_eq ..) ?_)
        rw [Ends_ite]
        by_cases h3 : Sp.meetE n a b = 0
        · rw [if_pos (by simpa using h3)]
          exact Ends.tt rfl (Ends.tt rfl (Ends.tt (by have := oM h3; simp; omega) (Ends.steq (L9_eq ..) (last (hQ _) hB2 (hB h1) hK2 (hK h2) hM2 (hM h3) lB lK))))
        · rw [if_neg (by simpa using h3)]
          exact Ends.steq (L9_eq ..) (last (hQ _) hB2 (hB h1) hK2 (hK h2) hM2 (hM' h3) lB lK)
      · rw [if_neg (by simpa using h2)]
        refine Ends.steq (L6_eq ..) ?_
        rw [Ends_ite]
        by_cases h3 : Sp.meetE n a b = 0
        · rw [if_pos (by simpa using h3)]
          exact Ends.tt rfl (Ends.tt rfl (Ends.tt (by have := oM h3; simp; omega) (Ends.steq (L10_eq ..) (last (hQ _) hB2 (hB h1) hK2 (hK' h2) hM2 (hM h3) lB lK))))
        · rw [if_neg (by simpa using h3)]
          exact Ends.steq (L10_eq ..) (last (hQ _) hB2 (hB h1) hK2 (hK' h2) hM2 (hM' h3) lB lK)
    · rw [if_neg (by simpa using h1)]
      refine Ends.steq (L4_eq ..) ?_
      rw [Ends_ite]
      by_cases h2 : Sp.out n 1 200 = 0
      · rw [if_pos (by simpa using h2)]
        refine Ends.tt (by have := out_0 h2; simp; omega) (Ends.steq (L7_eq ..) ?_)
        rw [Ends_ite]
        by_cases h3 : Sp.meetE n a b = 0
        · rw [if_pos (by simpa using h3)]
          exact Ends.tt rfl (Ends.tt rfl (Ends.tt (by have := oM h3; simp; omega) (Ends.steq (L11_eq ..) (last (hQ _) hB2 (hB' h1) hK2 (hK h2) hM2 (hM h3) lB lK))))
        · rw [if_neg (by simpa using h3)]
          exact Ends.steq (L11_eq ..) (last (hQ _) hB2 (hB' h1) hK2 (hK h2) hM2 (hM' h3) lB lK)
      · rw [if_neg (by simpa using h2)]
        refine Ends.steq (L8_eq ..) ?_
        rw [Ends_ite]
        by_cases h3 : Sp.meetE n a b = 0
        · rw [if_pos (by simpa using h3)]
          exact Ends.tt rfl (Ends.tt rfl (Ends.tt (by have := oM h3; simp; omega) (Ends.steq (L12_eq ..) (last (hQ _) hB2 (hB' h1) hK2 (hK' h2) hM2 (hM h3) lB lK))))
        · rw [if_neg (by simpa using h3)]
          exact Ends.steq (L12_eq ..) (last (hQ _) hB2 (hB' h1) hK2 (hK' h2) hM2 (hM' h3) lB lK)
  refine Ends.eq (T_eq n key (a, b)) ?_
  rw [Ends_ite]
  by_cases h : n > 70
  · rw [if_pos (by simpa using h), Ends_ite]
    by_cases h2 : n ≤ 200
    · rw [if_pos (by simpa using h2)]
      exact Ends.tt rfl (Ends.leaf (hQ _))
    · rw [if_neg (by simpa using h2)]
      exact main (fun _ => by omega)
  · rw [if_neg (by simpa using h)]
    exact main (fun h' => absurd h' h)
end T3
end Go.Pe
end
