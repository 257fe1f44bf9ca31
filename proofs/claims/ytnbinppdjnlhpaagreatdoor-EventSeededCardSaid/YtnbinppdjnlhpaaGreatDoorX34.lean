import Derived.Test.YtnbinppdjnlhpaaGreatDoorX32
import Derived.Test.YtnbinppdjnlhpaaGreatDoorX24
/- A part of the proofs of the laws of one chapter (no law is stated here). Made by program out of texts by AI agents. -/
section
/- EventSeeded: the plain law. -/
namespace Go.Sp
open Go.Pe (imin imax)
def better (s t : Int) : Int := if imin s t = 0 then imax s t else imin s t
def nextL : List Int → List Int
  | s :: t :: l => better s t :: nextL l
  | _ => []
def metL (x y rd : Int) : List Int → Int → Int
  | s :: t :: l, m => metL x y rd l (if (s = x ∧ t = y) ∨ (s = y ∧ t = x) then rd else m)
  | _, m => m
/-- a slot, and where in the bracket its seed lies -/
abbrev Z := List (Int × Int)
def nextZ : Z → Z
  | (s, p) :: (t, q) :: l => (better s t, if better s t = s then p else q) :: nextZ l
  | _ => []
def pairsOk (rd : Int) : Z → Bool
  | (s, p) :: (t, q) :: l => (s == 0 || t == 0 || (rnd 10 p q 0 == rd && rnd 10 q p 0 == rd)) && pairsOk rd l
  | _ => true
def seenOk (n : Nat) : List Int → List Bool → Bool
  | [], _ => true
  | s :: l, seen => decide (1 ≤ s) && decide (s ≤ n) && !(seen.getD s.toNat false) && seenOk n l (seen.set s.toNat true)
def chk : Nat → Int → Z → Bool
  | 0, _, _ => false
  | f + 1, rd, z => bif Nat.ble 2 z.length then pairsOk rd z && Nat.beq (z.length % 2) 0 && seenOk (nextZ z).length ((nextZ z).map (·.1)) (List.replicate ((nextZ z).length + 1) false) && chk f (rd + 1) (nextZ z) else true
def zipI : List Int → Int → Z
  | [], _ => []
  | s :: l, i => (s, i) :: zipI l (i + 1)
def posOk (l : List Int) : Nat → Bool
  | 0 => true
  | k + 1 => index l (k + 1 : Nat) 0 == lastIdx l (k + 1 : Nat) 0 0 && decide (0 ≤ index l (k + 1 : Nat) 0) && posOk l k
def bits (l : List Int) : Int := Go.IntKind.wrap .i64 ((Nat.land (BitVec.toNat (BitVec.ofInt 64 (Int.ofNat l.length))) (BitVec.toNat (BitVec.ofInt 64 (Go.IntKind.wrap .i64 (Int.ofNat l.length - 1)))) : Nat) : Int)
def allOk (n : Nat) (l : List Int) : Bool := posOk l n && chk 9 1 (zipI l 0) && Nat.ble n l.length && Nat.blt l.length (2 * n) && Nat.ble l.length 128 && Nat.ble 2 l.length &&
  (bits l == 0)
def sweep : Nat → Bool
  | 0 => true
  | k + 1 => allOk (k + 2) (bracket ((k + 2 : Nat) : Int)) && sweep k
theorem sweep69 : sweep 69 = true := by kernel_rfl
theorem sweep_of : ∀ {k n : Nat}, sweep k = true → 2 ≤ n → n < k + 2 → allOk n (bracket (n : Int)) = true
  | 0, n, _, h1, h2 => by omega
  | k + 1, n, h, h1, h2 => by
    simp only [sweep, Bool.and_eq_true] at h
    by_cases e : n = k + 2
    · subst e; exact h.1
    · exact sweep_of h.2 h1 (by omega)
theorem all_ok {n : Nat} (h1 : 2 ≤ n) (h2 : n ≤ 70) : allOk n (bracket (n : Int)) = true := sweep_of sweep69 h1 (by omega)

/-! places -/
theorem index_le : ∀ {l : List Int} {x i : Int} {p : Nat}, p < l.length → l.getD p 0 = x → index l x i ≤ i + p
  | y :: l, x, i, 0, _, h => by
    simp only [List.getD_cons_zero] at h
    simp [index, h]
  | y :: l, x, i, p + 1, hp, h => by
    simp only [List.getD_cons_succ] at h
    simp only [index]
    split
    · push_cast; omega
    · have := index_le (i := i + 1) (by simpa using hp) h
      push_cast; omega
theorem lastIdx_ge0 : ∀ {l : List Int} {x i r : Int}, lastIdx l x i r = r ∨ i ≤ lastIdx l x i r
  | [], _, _, _ => .inl rfl
  | y :: l, x, i, r => by
    simp only [lastIdx]
    rcases lastIdx_ge0 (l := l) (x := x) (i := i + 1) (r := if y = x then i else r) with h | h
    · rw [h]
      split
      · exact .inr (Int.le_refl _)
      · exact .inl rfl
    · exact .inr (by omega)
theorem lastIdx_ge : ∀ {l : List Int} {x i r : Int} {p : Nat}, p < l.length → l.getD p 0 = x → i + p ≤ lastIdx l x i r
  | y :: l, x, i, r, 0, _, h => by
    simp only [List.getD_cons_zero] at h
    subst h
    simp only [lastIdx, if_true]
    rcases lastIdx_ge0 (l := l) (x := y) (i := i + 1) (r := i) with h | h
    · rw [h]; simp
    · push_cast; omega
  | y :: l, x, i, r, p + 1, hp, h => by
    simp only [List.getD_cons_succ] at h
    simp only [lastIdx]
    have := lastIdx_ge (i := i + 1) (r := if y = x then i else r) (by simpa using hp) h
    push_cast; omega
theorem index_at : ∀ {l : List Int} {x i : Int}, 0 ≤ i → 0 ≤ index l x i → ∃ p : Nat, index l x i = i + p ∧ p < l.length ∧ l.getD p 0 = x
  | [], x, i, _, h => by simp [index] at h
  | y :: l, x, i, hi, h => by
    simp only [index] at h ⊢
    split
    · rename_i e; exact ⟨0, by simp, by simp, by simp [e]⟩
    · rename_i e
      rw [if_neg e] at h
      obtain ⟨p, h1, h2, h3⟩ := index_at (i := i + 1) (by omega) h
      exact ⟨p + 1, by rw [h1]; push_cast; omega, by simpa using h2, by simpa using h3⟩
theorem posOk_of {l : List Int} : ∀ {n : Nat}, posOk l n = true → ∀ x : Int, 1 ≤ x → x ≤ n → index l x 0 = lastIdx l x 0 0 ∧ 0 ≤ index l x 0
  | 0, _, x, h1, h2 => by omega
  | n + 1, h, x, h1, h2 => by
    simp only [posOk, Bool.and_eq_true, beq_iff_eq, decide_eq_true_eq] at h
    by_cases e : x = ((n + 1 : Nat) : Int)
    · subst e; exact h.1
    · exact posOk_of h.2 x h1 (by push_cast at e h2; omega)
/-- one place alone -/
theorem pos_one {l : List Int} {n : Nat} (hp : posOk l n = true) {x : Int} (h1 : 1 ≤ x) (h2 : x ≤ n) {p : Nat} (hl : p < l.length) (he : l.getD p 0 = x) : (p : Int) = index l x 0 := by
  obtain ⟨a, _⟩ := posOk_of hp x h1 h2
  have := index_le (i := 0) hl he
  have := lastIdx_ge (i := 0) (r := 0) hl he
  omega

/-! rounds -/
theorem better_or (s t : Int) : better s t = s ∨ better s t = t := by
  unfold better imin imax
  split <;> split <;> (try split) <;> omega
theorem nextZ_fst : ∀ z : Z, (nextZ z).map (·.1) = nextL (z.map (·.1))
  | [] => rfl
  | [_] => rfl
  | (s, p) :: (t, q) :: l => by simp [nextZ, nextL, nextZ_fst l]
/-- each slot's seed lies where it says -/
def At (l : List Int) (z : Z) : Prop := ∀ u ∈ z, ∃ p : Nat, u.2 = p ∧ p < l.length ∧ l.getD p 0 = u.1
theorem At.next {l : List Int} : ∀ {z : Z}, At l z → At l (nextZ z)
  | [], _ => fun u hu => by cases hu
  | [_], _ => fun u hu => by cases hu
  | (s, p) :: (t, q) :: z, h => by
    have ih : At l (nextZ z) := At.next (z := z) fun u hu => h u (by simp [hu])
    intro u hu
    simp only [nextZ, List.mem_cons] at hu
    rcases hu with rfl | hu
    · by_cases e : better s t = s
      · rw [if_pos e, e]; exact h (s, p) (by simp)
      · rw [if_neg e, (better_or s t).resolve_left e]; exact h (t, q) (by simp)
    · exact ih u hu
theorem At.zip {l : List Int} : ∀ {m : List Int} {k : Nat}, (∀ i, i < m.length → k + i < l.length ∧ l.getD (k + i) 0 = m.getD i 0) → At l (zipI m (k : Int))
  | [], _, _ => fun u hu => by cases hu
  | s :: m, k, h => by
    intro u hu
    simp only [zipI, List.mem_cons] at hu
    rcases hu with rfl | hu
    · exact ⟨k, rfl, by simpa using (h 0 (by simp)).1, by simpa using (h 0 (by simp)).2⟩
    · refine At.zip (k := k + 1) (fun i hi => ?_) u (by push_cast; exact hu)
      have := h (i + 1) (by simpa using hi)
      rw [show k + 1 + i = k + (i + 1) by omega]
      simpa using this
theorem zipI_fst : ∀ (m : List Int) (i : Int), (zipI m i).map (·.1) = m
  | [], _ => rfl
  | s :: m, i => by simp [zipI, zipI_fst m]
theorem At.all (l : List Int) : At l (zipI l 0) := At.zip (k := 0) fun i hi => by simpa using hi
/-- where two seeds meet in a round, it is the round in which their places say that they do -/
theorem metL_ok {l : List Int} {n : Nat} (hp : posOk l n = true) {x y rd : Int} (hx1 : 1 ≤ x) (hx2 : x ≤ n) (hy1 : 1 ≤ y) (hy2 : y ≤ n) : ∀ {z : Z} {m : Int}, At l z → pairsOk rd z = true → (m = 0 ∨ m = rnd 10 (index l x 0) (index l y 0) 0) →
    (metL x y rd (z.map (·.1)) m = 0 ∨ metL x y rd (z.map (·.1)) m = rnd 10 (index l x 0) (index l y 0) 0)
  | [], m, _, _, h => h
  | [_], m, _, _, h => h
  | (s, p) :: (t, q) :: z, m, ha, hk, h => by
    simp only [pairsOk, Bool.and_eq_true, Bool.or_eq_true, beq_iff_eq] at hk
    simp only [List.map_cons, metL]
    refine metL_ok hp hx1 hx2 hy1 hy2 (z := z) (fun u hu => ha u (by simp [hu])) hk.2 ?_
    obtain ⟨p', e1, l1, g1⟩ := ha (s, p) (by simp)
    obtain ⟨q', e2, l2, g2⟩ := ha (t, q) (by simp)
    simp only at e1 e2 g1 g2
    split
    · rename_i hc
      rcases hc with ⟨rfl, rfl⟩ | ⟨rfl, rfl⟩
      · rw [← pos_one hp hx1 hx2 l1 g1, ← pos_one hp hy1 hy2 l2 g2, ← e1, ← e2]
        rcases hk.1 with (h0 | h0) | h0
        · omega
        · omega
        · exact .inr h0.1.symm
      · rw [← pos_one hp hx1 hx2 l2 g2, ← pos_one hp hy1 hy2 l1 g1, ← e1, ← e2]
        rcases hk.1 with (h0 | h0) | h0
        · omega
        · omega
        · exact .inr h0.2.symm
    · exact h

/-! the round -/
theorem rnd_spec : ∀ (f i k : Nat) (r : Int), i < 2 ^ f → k < 2 ^ f → ∃ j : Nat, rnd f i k r = r + j ∧ i / 2 ^ j = k / 2 ^ j ∧ (0 < j → i / 2 ^ (j - 1) ≠ k / 2 ^ (j - 1))
  | 0, i, k, r, hi, hk => ⟨0, by simp [rnd], by simp at hi hk; simp [hi, hk], fun h => by omega⟩
  | f + 1, i, k, r, hi, hk => by
    by_cases e : i = k
    · subst e; exact ⟨0, by simp [rnd], rfl, fun h => by omega⟩
    · have t2 : ∀ a : Nat, Int.tdiv (a : Int) 2 = ((a / 2 : Nat) : Int) := fun a => by rw [Int.ofNat_tdiv a 2]; rfl
      obtain ⟨j, h1, h2, h3⟩ := rnd_spec f (i / 2) (k / 2) (r + 1) (by rw [Nat.pow_succ] at hi; omega) (by rw [Nat.pow_succ] at hk; omega)
      have p2 : ∀ a j : Nat, a / 2 ^ (j + 1) = a / 2 / 2 ^ j := fun a j => by rw [Nat.pow_succ', Nat.div_div_eq_div_mul]
      refine ⟨j + 1, ?_, by rw [p2, p2, h2], fun _ => ?_⟩
      · simp only [rnd]
        rw [if_neg (by omega), t2, t2, h1]; push_cast; omega
      · simp only [Nat.add_sub_cancel]
        cases j with
        | zero => simpa using e
        | succ j =>
          have := h3 (by omega)
          rw [p2, p2]
          simpa using this
theorem meets {a b : Nat} (ha : a < 128) (hb : b < 128) (hne : a ≠ b) : ∃ j : Nat, rnd 10 a b 0 = j ∧ 1 ≤ j ∧ j ≤ 7 ∧ a / 2 ^ j = b / 2 ^ j ∧ a / 2 ^ (j - 1) ≠ b / 2 ^ (j - 1) := by
  obtain ⟨j, h1, h2, h3⟩ := rnd_spec 10 a b 0 (by omega) (by omega)
  have hj : 0 < j := by
    rcases Nat.eq_zero_or_pos j with h | h
    · subst h; simp at h2; exact absurd h2 hne
    · exact h
  refine ⟨j, by simpa using h1, hj, ?_, h2, h3 hj⟩
  by_cases h : j ≤ 7
  · exact h
  · have z : ∀ c, c < 128 → c / 2 ^ (j - 1) = 0 := fun c hc => Nat.div_eq_of_lt (Nat.lt_of_lt_of_le hc (show 2 ^ 7 ≤ 2 ^ (j - 1) from Nat.pow_le_pow_right (by omega) (by omega)))
    exact absurd ((z a ha).trans (z b hb).symm) (h3 hj)
end Go.Sp
end
