import Derived.Test.YtnbinppdjnlhpaaGreatDoorX21
import Derived.Test.YtnbinppdjnlhpaaGreatDoorX20
import Derived.Test.YtnbinppdjnlhpaaGreatDoorX09
/- A part of the proofs of the laws of one chapter (no law is stated here). Made by program out of texts by AI agents. -/
section
namespace Go.Pe
open Go.Det
theorem first_orE (a b c d : Int) : Sp.first [a, b, c, d] = Sp.orE a (Sp.orE b (Sp.orE c d)) := by
  unfold Sp.orE
  simp only [Sp.first]
  by_cases h1 : a = 0 <;> by_cases h2 : b = 0 <;> by_cases h3 : c = 0 <;> by_cases h4 : d = 0 <;> simp [h1, h2, h3, h4]
theorem has_known (s : List UInt8) : Sp.has [[], Sp.sOut, Sp.sDis, Sp.sCut] s = Sp.known s := by
  unfold Sp.has Sp.known
  by_cases h1 : s = [] <;> by_cases h2 : s = Sp.sOut <;> by_cases h3 : s = Sp.sDis <;> by_cases h4 : s = Sp.sCut <;> simp [h1, h2, h3, h4]
theorem lineE_first {m : List (List UInt8 × Bool)} {seen : List (List UInt8)} (hm : SetS m (fun y => y ∈ seen)) (x : LineT) (f : Bool) (hf : f = Sp.far x.2.2.1) :
    Sp.first [Sp.first [Sp.whn (!Sp.isName x.1) 8, Sp.whn ((mget .str .bool x.1 m).getD false) 9], Sp.whn (decide ((x.2.2.1.length : Int) > 8)) 5, Sp.whn f 3, Sp.whn (!Sp.has [[], Sp.sOut, Sp.sDis, Sp.sCut] x.2.2.2) 13] = Sp.lineE seen x := by
  rw [nameErr_first hm, first_orE, has_known, hf]
  unfold Sp.lineE
  have e1 : Sp.whn (decide ((x.2.2.1.length : Int) > 8)) 5 = if 8 < x.2.2.1.length then 5 else 0 := by
    by_cases h : 8 < x.2.2.1.length
    · rw [if_pos h, decide_eq_true (by omega)]; rfl
    · rw [if_neg h, decide_eq_false (by omega)]; rfl
  have e2 : Sp.whn (Sp.far x.2.2.1) 3 = if Sp.far x.2.2.1 = true then 3 else 0 := by cases Sp.far x.2.2.1 <;> rfl
  have e3 : Sp.whn (!Sp.known x.2.2.2) 13 = if Sp.known x.2.2.2 = true then 0 else 13 := by cases Sp.known x.2.2.2 <;> rfl
  rw [e1, e2, e3]
namespace T48
variable {Q : PV → Ob → Prop}
set_option maxRecDepth 10000 in
theorem L3_ends (l : List LineT) (i : Nat) (hi : i ≤ 300) (o0 : List (List UInt8 × Bool)) (x : LineT) (a : List UInt8) (b : Bool) (c : List Int) (d : List UInt8) (a' : List UInt8) (b' : Bool) (c' : List Int) (d' : List UInt8) (o0' m : List (List UInt8 × Bool)) (seen : List (List UInt8)) (hm : SetS m (fun y => y ∈ seen)) (hx : Sp.okLine x = true)
    (hq : Sp.lineE seen x ≠ 0 → ∀ ob, Q (.dat i64 (Sp.lineE seen x)) ob) (hgo : Sp.lineE seen x = 0 → Ends X91 (L1 l l l.length ((i : Int) + 1) (mset .str .bool x.1 true m)) Q) :
    ∀ (r : List Int) (k : Nat), x.2.2.1.drop k = r → k ≤ x.2.2.1.length → Sp.far x.2.2.1 = Sp.far r → Ends X91 (L3 l l l.length i o0 x a b c d o0' x.2.2.1 x.2.2.1.length k a' b' c' d' m) Q := by
    have hxl := okLine_of hx
    have fin : ∀ f : Bool, f = Sp.far x.2.2.1 → Sp.first [Sp.first [Sp.whn (!Sp.isName x.1) 8, Sp.whn ((mget .str .bool x.1 m).getD false) 9], Sp.whn (decide ((x.2.2.1.length : Int) > 8)) 5, Sp.whn f 3, Sp.whn (!Sp.has [[], [111, 117, 116], [100, 105, 115], [99, 117, 116]] x.2.2.2) 13] = Sp.lineE seen x := fun f hf => lineE_first hm x f hf
    have ge : ((Sp.lineE seen x != 0) = true → Sp.lineE seen x ≠ 0) := fun e => by simpa using e
    have gf : ((Sp.lineE seen x != 0) = false → Sp.lineE seen x = 0) := fun e => by simpa using e
    have n40 : decide (x.1.length ≤ 1000000) = true := decide_eq_true (by omega)
    intro r
    induction r with
    | nil =>
      intro k h hk hf
      refine Ends.steq (L3_eq ..) ?_
      rw [wr ((i : Int) + 1) (by omega) (by omega), wr ((k : Int) + 1) (by omega) (by omega)]
      have := drop_nil h hk
      rw [fin false (by rw [hf]; rfl)]
      refine Ends.ff (by simp; omega) (Ends.tt rfl (Ends.tt n40 (Ends.tt rfl (Ends.tt rfl (Ends.tt rfl (Ends.tt rfl (Ends.tt rfl (Ends.tt rfl (Ends.tt rfl (Ends.ite (fun c => Ends.leaf (hq (ge c) _)) (fun c => hgo (gf c))))))))))))
    | cons y r ih =>
      intro k h hk hf
      refine Ends.steq (L3_eq ..) ?_
      rw [wr ((i : Int) + 1) (by omega) (by omega), wr ((k : Int) + 1) (by omega) (by omega)]
      have fk : decide ((k : Int) ≥ 0) = true := by simp
      obtain ⟨g1, g2, g3⟩ := drop_cons (d := 0) h
      simp only [Int.toNat_natCast, g2, fk]
      have hfar : Sp.far (y :: r) = (decide (y < 1) || decide (y > 9999) || Sp.far r) := by unfold Sp.far; rw [List.any_cons]
      rw [hfar] at hf
      refine Ends.tt (by simp; omega) (Ends.tt (by simp; omega) (Ends.ite (fun cx => ?_) (fun cx => Ends.ite (fun c2 => ?_) (fun c2 => ?_))))
      · rw [fin true (by rw [hf, cx]; rfl)]
        exact Ends.tt rfl (Ends.tt n40 (Ends.tt rfl (Ends.tt rfl (Ends.tt rfl (Ends.tt rfl (Ends.tt rfl (Ends.tt rfl (Ends.tt rfl (Ends.ite (fun c => Ends.leaf (hq (ge c) _)) (fun c => hgo (gf c)))))))))))
      · rw [fin true (by rw [hf, c2]; simp)]
        exact Ends.tt rfl (Ends.tt n40 (Ends.tt rfl (Ends.tt rfl (Ends.tt rfl (Ends.tt rfl (Ends.tt rfl (Ends.tt rfl (Ends.tt rfl (Ends.ite (fun c => Ends.leaf (hq (ge c) _)) (fun c => hgo (gf c)))))))))))
      · exact ih (k + 1) g3 g1 (by rw [hf, cx, c2]; rfl)
theorem L1_ends (l : List LineT) (hok : Sp.okF l = true) (w : Int) (hq : ∀ ob, Q (.dat i64 w) ob) : ∀ (s : List LineT) (i : Nat) (m : List (List UInt8 × Bool)) (seen : List (List UInt8)), l.drop i = s → i ≤ l.length → SetS m (fun y => y ∈ seen) → Sp.linesE seen s = w → Ends X91 (L1 l l l.length i m) Q
  | [], i, m, seen, h, hi, hm, hw => by
    have := drop_nil h hi
    have hw : w = 0 := by rw [← hw]; rfl
    subst hw
    exact Ends.steq (L1_eq ..) (Ends.ff (by simp; omega) (Ends.leaf (hq _)))
  | x :: s, i, m, seen, h, hi, hm, hw => by
    obtain ⟨h205, hall⟩ := okF_of hok
    obtain ⟨h1, h2, h3⟩ := drop_cons (d := DL) h
    have hx := hall x (mem_drop h)
    have h2' : l.getD i ([], false, [], []) = x := h2
    unfold Sp.linesE at hw
    refine Ends.steq (L1_eq ..) (Ends.tt (by simp <;> omega) (Ends.tt (by simp <;> omega) ?_))
    simp only [Int.toNat_natCast, h2']
    refine Ends.steq (L2_eq ..) ?_
    refine L3_ends l i (by omega) m x _ _ _ _ _ _ _ _ m m seen hm hx (fun he ob => ?_) (fun he => ?_) x.2.2.1 0 rfl (Nat.zero_le _) rfl
    · have : w = Sp.lineE seen x := by rw [← hw]; unfold Sp.orE; simp [he]
      rw [← this]; exact hq ob
    · refine L1_ends l hok w hq s (i + 1) _ (seen ++ [x.1]) h3 h1 (hm.next x.1) ?_
      rw [← hw]; unfold Sp.orE; simp [he]
theorem ok : SpecOk C7p 48 cCheckF := by
  refine spec7 (X := X91) rfl hallX91 (d := 9) (by kernel_rfl) (by kernel_rfl) (by kernel_rfl) (fun (l : List LineT) hl => ?_) (isSome_ex (by kernel_rfl))
  have hok : Sp.okF l = true := hl
  refine Ends.eq (T_eq l) (Ends.ite (fun c => Ends.leaf (Gives.of rfl rfl ?_)) (fun c => ?_))
  · have c : 200 < l.length := by simp at c; omega
    show _ = Sp.fieldE l
    unfold Sp.fieldE; rw [if_pos c]
  · have c : ¬ 200 < l.length := by simp at c; omega
    refine L1_ends l hok (Sp.fieldE l) (fun ob => Gives.of rfl rfl rfl) l 0 [] [] rfl (Nat.zero_le _) (SetS.nil.congr (by simp)) ?_
    unfold Sp.fieldE; rw [if_neg c]
end T48
end Go.Pe
end
section
namespace Go.Pe
open Go.Det
theorem never_ok {f : FuncId} {s t : List Sh} {g : (prodS s).T → (prodS t).T} {nd : Bool} (hprim : C7p.prim f = none) (hfn : ∃ i, C7p.fn f = some i) : SpecOk C7p f ⟨s, fun _ => false, t, g, nd⟩ :=
  ⟨hprim, hfn, fun F h args i _ _ _ hp => by cases hp⟩
theorem orE_zero {a b : Int} (h : Sp.orE a b = 0) : a = 0 ∧ b = 0 := by
  unfold Sp.orE at h
  by_cases e : a = 0
  · rw [if_pos e] at h; exact ⟨e, h⟩
  · rw [if_neg e] at h; exact absurd h e
theorem lineE_len {seen : List (List UInt8)} {x : LineT} (h : Sp.lineE seen x = 0) : x.2.2.1.length ≤ 8 := by
  unfold Sp.lineE at h
  have := (orE_zero (orE_zero h).2).1
  by_cases e : 8 < x.2.2.1.length
  · rw [if_pos e] at this; cases this
  · omega
theorem linesE_len : ∀ (l : List LineT) (seen : List (List UInt8)), Sp.linesE seen l = 0 → ∀ x ∈ l, x.2.2.1.length ≤ 8
  | [], _, _, x, hx => by cases hx
  | y :: l, seen, h, x, hx => by
    unfold Sp.linesE at h
    obtain ⟨h1, h2⟩ := orE_zero h
    rcases List.mem_cons.1 hx with rfl | hx
    · exact lineE_len h1
    · exact linesE_len l _ h2 x hx
theorem fieldE_zero {l : List LineT} (h : Sp.fieldE l = 0) : l.length ≤ 200 ∧ ∀ x ∈ l, x.2.2.1.length ≤ 8 := by
  unfold Sp.fieldE at h
  by_cases e : 200 < l.length
  · rw [if_pos e] at h; cases h
  · rw [if_neg e] at h; exact ⟨by omega, linesE_len l [] h⟩
theorem getD_mid {α : Type} (A B : List α) (x d : α) {n : Nat} (h : A.length = n) : (A ++ x :: B).getD n d = x := by
  subst h; simp [List.getD]
theorem set_mid {α : Type} (A B : List α) (x y : α) {n : Nat} (h : A.length = n) : (A ++ x :: B).set n y = A ++ y :: B := by
  subst h; simp
end Go.Pe
end
section
namespace Go.Pe
open Go.Det
theorem shortF_of {l : List LineT} {n : Int} (h : Sp.shortF l n = true) : Sp.okF l = true ∧ ((l.length : Int) ≤ n ∨ 200 < l.length) := by
  unfold Sp.shortF at h
  rw [Bool.and_eq_true, Bool.not_eq_true', Bool.or_eq_false_iff, Bool.and_eq_false_iff] at h
  obtain ⟨⟨h1, h2⟩, h3⟩ := h
  have h2 := of_decide_eq_false h2
  refine ⟨by unfold Sp.okF; rw [decide_eq_true (by omega), h3]; rfl, ?_⟩
  rcases h1 with h1 | h1
  · have := of_decide_eq_false h1; left; omega
  · have := of_decide_eq_false h1; right; omega
end Go.Pe
end
section
namespace Go.Sp
open Go.Pe (imin imax)
/-- a number is put into numbers, from the right -/
def insI (x : Int) : List Int → List Int
  | [] => [x]
  | y :: r => if x < y then y :: insI x r else x :: y :: r
def sortI (l : List Int) : List Int := (l.foldl (fun acc x => insI x acc) []).reverse
theorem insI_perm (x : Int) : ∀ l : List Int, (insI x l).Perm (x :: l)
  | [] => List.Perm.refl _
  | y :: r => by
    unfold insI
    split
    · exact ((insI_perm x r).cons y).trans (List.Perm.swap x y r)
    · exact List.Perm.refl _
theorem foldI_perm : ∀ (l acc : List Int), (l.foldl (fun a x => insI x a) acc).Perm (l ++ acc)
  | [], acc => List.Perm.refl _
  | x :: l, acc => by
    rw [List.foldl_cons]
    refine (foldI_perm l (insI x acc)).trans ?_
    refine ((List.Perm.refl l).append (insI_perm x acc)).trans ?_
    exact List.perm_middle
theorem sortI_perm (l : List Int) : (sortI l).Perm l := by
  unfold sortI
  refine (List.reverse_perm _).trans ?_
  have := foldI_perm l []
  rwa [List.append_nil] at this
theorem insI_desc (x : Int) : ∀ l : List Int, l.Pairwise (fun a b => b ≤ a) → (insI x l).Pairwise (fun a b => b ≤ a)
  | [], _ => by unfold insI; exact List.pairwise_singleton _ _
  | y :: r, h => by
    obtain ⟨h1, h2⟩ := List.pairwise_cons.1 h
    unfold insI
    split
    · rename_i hxy
      refine List.pairwise_cons.2 ⟨fun z hz => ?_, insI_desc x r h2⟩
      rcases List.mem_cons.1 ((insI_perm x r).mem_iff.1 hz) with rfl | hz
      · omega
      · exact h1 z hz
    · rename_i hxy
      refine List.pairwise_cons.2 ⟨fun z hz => ?_, h⟩
      rcases List.mem_cons.1 hz with rfl | hz
      · omega
      · have := h1 z hz; omega
theorem foldI_desc : ∀ (l acc : List Int), acc.Pairwise (fun a b => b ≤ a) → (l.foldl (fun a x => insI x a) acc).Pairwise (fun a b => b ≤ a)
  | [], acc, h => h
  | x :: l, acc, h => by rw [List.foldl_cons]; exact foldI_desc l _ (insI_desc x acc h)
theorem sortI_asc (l : List Int) : (sortI l).Pairwise (fun a b => a ≤ b) := by
  unfold sortI
  rw [List.pairwise_reverse]
  exact foldI_desc l [] List.Pairwise.nil
theorem sortI_len (l : List Int) : (sortI l).length = l.length := (sortI_perm l).length_eq
/-- how many are less -/
def below (l : List Int) (t : Int) : Nat := (l.filter fun u => decide (u < t)).length
theorem below_perm {l s : List Int} (h : l.Perm s) (t : Int) : below l t = below s t := by
  unfold below; exact (h.filter _).length_eq
theorem asc_get {s : List Int} (h : s.Pairwise (fun a b => a ≤ b)) {i j : Nat} (hj : j < s.length) (hij : i ≤ j) : s.getD i 0 ≤ s.getD j 0 := by
  have hi : i < s.length := by omega
  have e1 : s.getD i 0 = s[i] := by simp [List.getD, hi]
  have e2 : s.getD j 0 = s[j] := by simp [List.getD, hj]
  rw [e1, e2]
  rcases Nat.lt_or_eq_of_le hij with h1 | rfl
  · exact List.pairwise_iff_getElem.1 h i j hi hj h1
  · exact Int.le_refl _
/-- in an ascending list at most k are less than the one at place k -/
theorem below_le {s : List Int} (h : s.Pairwise (fun a b => a ≤ b)) {k : Nat} (hk : k < s.length) : below s (s.getD k 0) ≤ k := by
  have e : s = s.take k ++ s.drop k := (List.take_append_drop k s).symm
  have e2 : below s (s.getD k 0) = ((s.take k).filter fun u => decide (u < s.getD k 0)).length + ((s.drop k).filter fun u => decide (u < s.getD k 0)).length := by
    unfold below
    conv => lhs; rw [show (s.filter fun u => decide (u < s.getD k 0)) = ((s.take k ++ s.drop k).filter fun u => decide (u < s.getD k 0)) from by rw [← e]]
    rw [List.filter_append, List.length_append]
  have e3 : ((s.drop k).filter fun u => decide (u < s.getD k 0)) = [] := by
    rw [List.filter_eq_nil_iff]
    intro u hu
    obtain ⟨j, hj, rfl⟩ := List.mem_iff_getElem.1 hu
    rw [List.length_drop] at hj
    have := asc_get h (i := k) (j := k + j) (by omega) (by omega)
    rw [List.getElem_drop]
    have e4 : s.getD (k + j) 0 = s[k + j]'(by omega) := by simp [List.getD, show k + j < s.length by omega]
    rw [e4] at this
    rw [decide_eq_true_eq]; omega
  rw [e2, e3]
  have := List.length_filter_le (fun u => decide (u < s.getD k 0)) (s.take k)
  rw [List.length_take] at this
  rw [List.length_nil]; omega
/-- what is greater than the one at place k has more than k below -/
theorem below_gt {s : List Int} (h : s.Pairwise (fun a b => a ≤ b)) {k : Nat} (hk : k < s.length) {t : Int} (ht : s.getD k 0 < t) : k + 1 ≤ below s t := by
  have e2 : below s t = ((s.take (k + 1)).filter fun u => decide (u < t)).length + ((s.drop (k + 1)).filter fun u => decide (u < t)).length := by
    unfold below
    conv => lhs; rw [show (s.filter fun u => decide (u < t)) = ((s.take (k + 1) ++ s.drop (k + 1)).filter fun u => decide (u < t)) from by rw [List.take_append_drop]]
    rw [List.filter_append, List.length_append]
  have e3 : ((s.take (k + 1)).filter fun u => decide (u < t)) = s.take (k + 1) := by
    rw [List.filter_eq_self]
    intro u hu
    obtain ⟨j, hj, rfl⟩ := List.mem_iff_getElem.1 hu
    rw [List.length_take] at hj
    have := asc_get h (i := j) (j := k) hk (by omega)
    rw [List.getElem_take]
    have e4 : s.getD j 0 = s[j]'(by omega) := by simp [List.getD, show j < s.length by omega]
    rw [e4] at this
    rw [decide_eq_true_eq]; omega
  rw [e2, e3, List.length_take]; omega
/-- the program's line: of the sorted totals -/
def lineP (l : List Int) (p w : Int) : Int :=
  let s := sortI l
  let a := s.getD (imin p s.length - 1).toNat 0
  if w ≥ 0 then imax a (s.getD 0 0 + w) else a
/-- the reference's line: the greatest total that has fewer than the places below, from 0 on -/
def topL (l : List Int) (p : Int) : List Int → Int → Int
  | [], a => a
  | t :: r, a => topL l p r (if (below l t : Int) < p then imax a t else a)
def lowL : List Int → Int → Int
  | [], a => a
  | t :: r, a => lowL r (imin a t)
def lineR (l : List Int) (p w : Int) : Int := if w ≥ 0 then imax (topL l p l 0) (lowL l (l.getD 0 0) + w) else topL l p l 0
theorem imax_def (a b : Int) : imax a b = max a b := by unfold imax; split <;> omega
theorem imin_def (a b : Int) : imin a b = min a b := by unfold imin; split <;> omega
theorem topL_ge (l : List Int) (p : Int) : ∀ (r : List Int) (a : Int), a ≤ topL l p r a
  | [], a => Int.le_refl _
  | t :: r, a => by
    unfold topL
    split
    · have := topL_ge l p r (imax a t); rw [imax_def] at this ⊢; omega
    · exact topL_ge l p r a
theorem topL_mem (l : List Int) (p : Int) : ∀ (r : List Int) (a t : Int), t ∈ r → (below l t : Int) < p → t ≤ topL l p r a
  | [], a, t, h, _ => by cases h
  | u :: r, a, t, h, hb => by
    unfold topL
    rcases List.mem_cons.1 h with rfl | h
    · rw [if_pos hb]
      have := topL_ge l p r (imax a t); rw [imax_def] at this ⊢; omega
    · exact topL_mem l p r _ t h hb
theorem topL_le (l : List Int) (p m : Int) : ∀ (r : List Int) (a : Int), a ≤ m → (∀ t ∈ r, (below l t : Int) < p → t ≤ m) → topL l p r a ≤ m
  | [], a, ha, _ => ha
  | u :: r, a, ha, h => by
    unfold topL
    refine topL_le l p m r _ ?_ (fun t ht => h t (List.mem_cons_of_mem _ ht))
    split
    · rename_i hb
      have := h u List.mem_cons_self hb
      rw [imax_def]; omega
    · exact ha
theorem lowL_le : ∀ (r : List Int) (a : Int), lowL r a ≤ a ∧ ∀ t ∈ r, lowL r a ≤ t
  | [], a => ⟨Int.le_refl _, fun t h => by cases h⟩
  | u :: r, a => by
    unfold lowL
    obtain ⟨h1, h2⟩ := lowL_le r (imin a u)
    rw [imin_def] at h1 h2 ⊢
    refine ⟨by omega, fun t ht => ?_⟩
    rcases List.mem_cons.1 ht with rfl | ht
    · omega
    · exact h2 t ht
theorem lowL_mem : ∀ (r : List Int) (a : Int), lowL r a = a ∨ lowL r a ∈ r
  | [], a => .inl rfl
  | u :: r, a => by
    unfold lowL
    rcases lowL_mem r (imin a u) with h | h
    · rw [imin_def] at h ⊢
      rcases Int.le_total a u with h1 | h1
      · left; rw [h]; omega
      · right; rw [h, show min a u = u by omega]; exact List.mem_cons_self
    · right; exact List.mem_cons_of_mem _ h
theorem getD_mem {l : List Int} {i : Nat} (h : i < l.length) : l.getD i 0 ∈ l := by
  have : l.getD i 0 = l[i] := by simp [List.getD, h]
  rw [this]; exact List.getElem_mem h
theorem line_eq (l : List Int) (p w : Int) (hl : l ≠ []) (h0 : ∀ t ∈ l, 0 ≤ t) (hp : 1 ≤ p) : lineP l p w = lineR l p w := by
  have hlen : 0 < l.length := by cases l with | nil => exact absurd rfl hl | cons => simp
  have hs := sortI_len l
  have hasc := sortI_asc l
  have hperm := sortI_perm l
  have hk : (imin p (sortI l).length - 1).toNat < (sortI l).length := by rw [imin_def]; omega
  have e1 : (sortI l).getD (imin p (sortI l).length - 1).toNat 0 = topL l p l 0 := by
    generalize hkk : (imin p (sortI l).length - 1).toNat = k at hk
    have hk2 : k = (imin p (sortI l).length - 1).toNat := hkk.symm
    rw [imin_def] at hk2
    have hmem : (sortI l).getD k 0 ∈ l := hperm.mem_iff.1 (getD_mem hk)
    have hb := below_le hasc hk
    apply Int.le_antisymm
    · refine topL_mem l p l 0 _ hmem ?_
      rw [below_perm hperm.symm]; omega
    · refine topL_le l p _ l 0 (h0 _ hmem) (fun t ht hbt => ?_)
      rcases Int.lt_or_le ((sortI l).getD k 0) t with hlt | hle
      · exfalso
        have h1 := below_gt hasc hk hlt
        rw [below_perm hperm.symm] at hbt
        have h2 : below (sortI l) t < (sortI l).length := by
          unfold below
          rcases Nat.lt_or_ge ((sortI l).filter fun u => decide (u < t)).length (sortI l).length with h | h
          · exact h
          · have := List.length_filter_eq_length_iff.1 (Nat.le_antisymm (List.length_filter_le _ _) h) t (hperm.mem_iff.2 ht)
            simp at this
        omega
      · exact hle
  have e2 : (sortI l).getD 0 0 = lowL l (l.getD 0 0) := by
    have h00 : 0 < (sortI l).length := by omega
    obtain ⟨a1, a2⟩ := lowL_le l (l.getD 0 0)
    have hm : lowL l (l.getD 0 0) ∈ sortI l := by
      refine hperm.mem_iff.2 ?_
      rcases lowL_mem l (l.getD 0 0) with h | h
      · rw [h]; exact getD_mem hlen
      · exact h
    apply Int.le_antisymm
    · obtain ⟨j, hj, hje⟩ := List.mem_iff_getElem.1 hm
      have := asc_get hasc (i := 0) (j := j) hj (by omega)
      have e4 : (sortI l).getD j 0 = (sortI l)[j] := by simp [List.getD, hj]
      rw [e4, hje] at this; exact this
    · exact a2 _ (hperm.mem_iff.1 (getD_mem h00))
  unfold lineP lineR
  simp only [e1, e2]
end Go.Sp
end
section
namespace Go.Sp
abbrev RuleT := Int × Int × Int
def cand (x : LineT) : Bool := decide (x.2.2.2 = [])
def cands (i : Nat) : List LineT → List Int
  | [] => []
  | x :: r => if cand x = true then (i : Int) :: cands (i + 1) r else cands (i + 1) r
def tot (a : Int) (x : LineT) : Int := sumW (x.2.2.1.take a.toNat)
def ctots (a : Int) (l : List LineT) : List Int := (l.filter cand).map (tot a)
def short (a : Int) (l : List LineT) : Bool := l.any fun x => cand x && decide ((x.2.2.1.length : Int) < a)
def ruleE (r : RuleT) : Int := first [out r.1 1 8, out r.2.1 1 200, out r.2.2 (-1) 999]
def cutE2 (l : List LineT) (r : RuleT) : Int := if cands 0 l = [] then 12 else if short r.1 l = true then 19 else 0
def cutE (l : List LineT) (r : RuleT) : Int := orE (fieldE l) (orE (ruleE r) (cutE2 l r))
def cutLine (l : List LineT) (r : RuleT) : Int := lineP (ctots r.1 l) r.2.1 r.2.2
/-- the numbers of those that remain -/
def remain (a t : Int) (i : Nat) : List LineT → List Int
  | [] => []
  | x :: s => if (cand x && decide (tot a x ≤ t)) = true then (i : Int) :: remain a t (i + 1) s else remain a t (i + 1) s
def Cut (l : List LineT) (r : RuleT) : List Int × Int × Int := if cutE l r ≠ 0 then ([], 0, cutE l r) else (remain r.1 (cutLine l r) 0 l, cutLine l r, 0)
def miss1 (a t : Int) (x : LineT) : LineT := if (cand x && !decide (tot a x ≤ t)) = true then (x.1, x.2.1, x.2.2.1.take a.toNat, sCut) else x
def Miss (l : List LineT) (r : RuleT) : List LineT × Int := if cutE l r ≠ 0 then ([], cutE l r) else (l.map (miss1 r.1 (cutLine l r)), 0)
def okT (l : List Int) (r : RuleT) : Bool := decide (1 ≤ l.length) && decide (l.length ≤ 10) && decide (1 ≤ r.2.1) && decide (r.2.1 ≤ 200) && decide (-1 ≤ r.2.2) && decide (r.2.2 ≤ 999) && l.all fun t => decide (0 ≤ t) && decide (t ≤ 100000)
def len5 (n : Int) : Int := if n = 0 then 0 else if n < 2 then 1 else if n < 4 then 2 else if n < 8 then 3 else if n < 16 then 4 else 5
def okC (l : List LineT) (r : RuleT) : Bool := okB l && decide (cutE l r = 0)
end Go.Sp
namespace Go.Pe
open Go.Det
noncomputable section
abbrev shRule : Sh := .pair (.int .i64) (.pair (.int .i64) (.int .i64))
noncomputable def cRuleE : PSpec := ⟨[shRule], fun _ => true, [i64], fun r => Sp.ruleE r, false⟩
noncomputable def cCands : PSpec := ⟨[.list shLine], fun l => Sp.okF l, [li64], fun l => Sp.cands 0 l, false⟩
noncomputable def cCutE2 : PSpec := ⟨[.list shLine, shRule], fun i => Sp.okF i.1, [i64], fun i => Sp.cutE2 i.1 i.2, false⟩
noncomputable def cLineR : PSpec := ⟨[li64, shRule], fun i => Sp.okT i.1 i.2, [i64], fun i => Sp.lineR i.1 i.2.2.1 i.2.2.2, false⟩
noncomputable def cLineP : PSpec := ⟨[shRule, li64], fun i => Sp.okT i.2 i.1, [i64], fun i => Sp.lineP i.2 i.1.2.1 i.1.2.2, false⟩
noncomputable def cCutR : PSpec := ⟨[.list shLine, shRule], fun i => Sp.okC i.1 i.2, [li64, i64], fun i => (Sp.remain i.2.1 (Sp.cutLine i.1 i.2) 0 i.1, Sp.cutLine i.1 i.2), false⟩
noncomputable def cMissR : PSpec := ⟨[.list shLine, shRule], fun i => Sp.okC i.1 i.2, [.list shLine], fun i => (i.1 : List Sp.LineT).map (Sp.miss1 i.2.1 (Sp.cutLine i.1 i.2)), false⟩
noncomputable def cSameLine : PSpec := ⟨[shLine, shLine], fun i => Sp.okS i.1 && Sp.okS i.2, [.bool], fun i => decide (i.1 = i.2), false⟩
noncomputable def cSameF : PSpec := ⟨[.list shLine, .list shLine], fun i => Sp.okF i.1 && Sp.okF i.2, [.bool], fun i => decide (i.1 = i.2), false⟩
noncomputable def cCutP : PSpec := ⟨[shRule, .list shLine], fun i => Sp.okB i.2, [li64, i64, i64], fun i => Sp.Cut i.2 i.1, false⟩
noncomputable def cCut : PSpec := ⟨[.list shLine, shRule], fun i => Sp.okB i.1, [li64, i64, i64], fun i => Sp.Cut i.1 i.2, false⟩
noncomputable def cMiss : PSpec := ⟨[.list shLine, shRule], fun i => Sp.okB i.1, [.list shLine, i64], fun i => Sp.Miss i.1 i.2, false⟩
noncomputable def cOwn : PSpec := ⟨[.list shLine], fun l => Sp.okF l, [.list shLine], fun l => l, false⟩
noncomputable def XC1 : PCtx := X7 ((253, cNever) :: (254, cNever) :: (255, cNever) :: (256, cNever) :: (257, cNever) :: (258, cNever) :: (27, cSame) :: (93, cIndex) :: (88, cOut) :: (116, cTotal) :: (58, cSum) :: l90)
noncomputable def cLen5 : PSpec := ⟨[.int .u64], fun n => decide (0 ≤ (n : Int)) && decide ((n : Int) ≤ 20), [i64], fun n => Sp.len5 n, false⟩
noncomputable def XC2 : PCtx := X7 ((192, cLen5) :: (254, cNever) :: (255, cNever) :: (256, cNever) :: (257, cNever) :: (258, cNever) :: (260, cNever) :: (261, cNever) :: [])
noncomputable def XC3 : PCtx := X7 ((144, cCands) :: (145, cLineR) :: (83, cSameLine) :: (73, cMemI) :: (58, cSum) :: [])
noncomputable def XC4 : PCtx := X7 ((69, cCutR) :: (73, cMemI) :: [])
noncomputable def XC5 : PCtx := X7 ((48, cCheckF) :: (187, cLineP) :: (88, cOut) :: (116, cTotal) :: (87, cFirst) :: (92, cWhen) :: [])
noncomputable def XC6 : PCtx := X7 ((141, cCutP) :: (143, cMemI) :: [])
noncomputable def XC7 : PCtx := X7 [(17, cAwake), (43, cShortF), (45, cField), (46, cCheckF), (21, cFirst), (27, cSame), (65, cCut), (66, cMiss), (67, cRuleE), (68, cCutE2), (69, cCutR), (70, cMissR), (71, cSameF), (72, cOwn)]
end
end Go.Pe
end
