import Derived.Test.YtnbinppdjnlhpaaGreatDoorX22
import Derived.Test.YtnbinppdjnlhpaaGreatDoorX20
import Derived.Test.YtnbinppdjnlhpaaGreatDoorX07
import Derived.ChangeSame
import Derived.Below
import Derived.Test.YtnbinppdjnlhpaaGreatDoorX18
/- A part of the proofs of the laws of one chapter (no law is stated here). Made by program out of texts by AI agents. -/
section
namespace Go.Pe
open Go.Det
theorem first_orE (a b c d : Int) : Sp.first [a, b, c, d] = Sp.orE a (Sp.orE b (Sp.orE c d)) := by
  unfold Sp.orE
  simp only [Sp.first]
  by_cases h1 : a = 0 <;> by_cases h2 : b = 0 <;> by_cases h3 : c = 0 <;> by_cases h4 : d = 0 <;> simp [h1, h2, h3, h4]
theorem has_known (s : List UInt8) : Sp.has [[], Sp.sOut, Sp.sDis, Sp.sCut] s = Sp.known s := by
  unfold Sp.has Sp.known
  by_cases h1 : s = [] <;> by_cases h2 : s = Sp.sOut <;> by_cases h3 : s = Sp.sDis <;> by_cases h4 : s = Sp.sCut <;> simp [h1, h2, h3, h4]
theorem lineE_first {m : List (List UInt8 × Bool)} {seen : List (List UInt8)} (hm : SetS m (fun y => y ∈ seen)) (x : LineT) (f : Bool) (hf : f = Sp.far x.2.2.1) :
    Sp.first [Sp.first [Sp.whn (!Sp.isName x.1) 8, Sp.whn ((mget .str .bool x.1 m).getD false) 9], Sp.whn (decide ((x.2.2.1.length : Int) > 8)) 5, Sp.whn f 3, Sp.whn (!Sp.has [[], Sp.sOut, Sp.sDis, Sp.sCut] x.2.2.2) 13] = Sp.lineE seen x := by
  rw [nameErr_first hm, first_orE, has_known, hf]
  unfold Sp.lineE
  have e1 : Sp.whn (decide ((x.2.2.1.length : Int) > 8)) 5 = if 8 < x.2.2.1.length then 5 else 0 := by
    by_cases h : 8 < x.2.2.1.length
    · rw [if_pos h, decide_eq_true (by omega)]; rfl
    · rw [if_neg h, decide_eq_false (by omega)]; rfl
  have e2 : Sp.whn (Sp.far x.2.2.1) 3 = if Sp.far x.2.2.1 = true then 3 else 0 := by cases Sp.far x.2.2.1 <;> rfl
  have e3 : Sp.whn (!Sp.known x.2.2.2) 13 = if Sp.known x.2.2.2 = true then 0 else 13 := by cases Sp.known x.2.2.2 <;> rfl
  rw [e1, e2, e3]
namespace T48
variable {Q : PV → Ob → Prop}
set_option maxRecDepth 10000 in
theorem L3_ends (l : List LineT) (i : Nat) (hi : i ≤ 300) (o0 : List (List UInt8 × Bool)) (x : LineT) (a : List UInt8) (b : Bool) (c : List Int) (d : List UInt8) (a' : List UInt8) (b' : Bool) (c' : List Int) (d' : List UInt8) (o0' m : List (List UInt8 × Bool)) (seen : List (List UInt8)) (hm : SetS m (fun y => y ∈ seen)) (hx : Sp.okLine x = true)
    (hq : Sp.lineE seen x ≠ 0 → ∀ ob, Q (.dat i64 (Sp.lineE seen x)) ob) (hgo : Sp.lineE seen x = 0 → Ends X91 (L1 l l l.length ((i : Int) + 1) (mset .str .bool x.1 true m)) Q) :
    ∀ (r : List Int) (k : Nat), x.2.2.1.drop k = r → k ≤ x.2.2.1.length → Sp.far x.2.2.1 = Sp.far r → Ends X91 (L3 l l l.length i o0 x a b c d o0' x.2.2.1 x.2.2.1.length k a' b' c' d' m) Q := by
    have hxl := okLine_of hx
    have fin : ∀ f : Bool, f = Sp.far x.2.2.1 → Sp.first [Sp.first [Sp.whn (!Sp.isName x.1) 8, Sp.whn ((mget .str .bool x.1 m).getD false) 9], Sp.whn (decide ((x.2.2.1.length : Int) > 8)) 5, Sp.whn f 3, Sp.whn (!Sp.has [[], [111, 117, 116], [100, 105, 115], [99, 117, 116]] x.2.2.2) 13] = Sp.lineE seen x := fun f hf => lineE_first hm x f hf
    have ge : ((Sp.lineE seen x != 0) = true → Sp.lineE seen x ≠ 0) := fun e => by simpa using e
    have gf : ((Sp.lineE seen x != 0) = false → Sp.lineE seen x = 0) := fun e => by simpa using e
    have n40 : decide (x.1.length ≤ 1000000) = true := decide_eq_true (by omega)
    intro r
    induction r with
    | nil =>
      intro k h hk hf
      refine Ends.steq (L3_eq ..) ?_
      rw [wr ((i : Int) + 1) (by omega) (by omega), wr ((k : Int) + 1) (by omega) (by omega)]
      have := drop_nil h hk
      rw [fin false (by rw [hf]; rfl)]
      refine Ends.ff (by simp; omega) (Ends.tt rfl (Ends.tt n40 (Ends.tt rfl (Ends.tt rfl (Ends.tt rfl (Ends.tt rfl (Ends.tt rfl (Ends.tt rfl (Ends.tt rfl (Ends.ite (fun c => Ends.leaf (hq (ge c) _)) (fun c => hgo (gf c))))))))))))
    | cons y r ih =>
      intro k h hk hf
      refine Ends.steq (L3_eq ..) ?_
      rw [wr ((i : Int) + 1) (by omega) (by omega), wr ((k : Int) + 1) (by omega) (by omega)]
      have fk : decide ((k : Int) ≥ 0) = true := by simp
      obtain ⟨g1, g2, g3⟩ := drop_cons (d := 0) h
      simp only [Int.toNat_natCast, g2, fk]
      have hfar : Sp.far (y :: r) = (decide (y < 1) || decide (y > 9999) || Sp.far r) := by unfold Sp.far; rw [List.any_cons]
      rw [hfar] at hf
      refine Ends.tt (by simp; omega) (Ends.tt (by simp; omega) (Ends.ite (fun cx => ?_) (fun cx => Ends.ite (fun c2 => ?_) (fun c2 => ?_))))
      · rw [fin true (by rw [hf, cx]; rfl)]
        exact Ends.tt rfl (Ends.tt n40 (Ends.tt rfl (Ends.tt rfl (Ends.tt rfl (Ends.tt rfl (Ends.tt rfl (Ends.tt rfl (Ends.tt rfl (Ends.ite (fun c => Ends.leaf (hq (ge c) _)) (fun c => hgo (gf c)))))))))))
      · rw [fin true (by rw [hf, c2]; simp)]
        exact Ends.tt rfl (Ends.tt n40 (Ends.tt rfl (Ends.tt rfl (Ends.tt rfl (Ends.tt rfl (Ends.tt rfl (Ends.tt rfl (Ends.tt rfl (Ends.ite (fun c => Ends.leaf (hq (ge c) _)) (fun c => hgo (gf c)))))))))))
      · exact ih (k + 1) g3 g1 (by rw [hf, cx, c2]; rfl)
theorem L1_ends (l : List LineT) (hok : Sp.okF l = true) (w : Int) (hq : ∀ ob, Q (.dat i64 w) ob) : ∀ (s : List LineT) (i : Nat) (m : List (List UInt8 × Bool)) (seen : List (List UInt8)), l.drop i = s → i ≤ l.length → SetS m (fun y => y ∈ seen) → Sp.linesE seen s = w → Ends X91 (L1 l l l.length i m) Q
  | [], i, m, seen, h, hi, hm, hw => by
    have := drop_nil h hi
    have hw : w = 0 := by rw [← hw]; rfl
    subst hw
    exact Ends.steq (L1_eq ..) (Ends.ff (by simp; omega) (Ends.leaf (hq _)))
  | x :: s, i, m, seen, h, hi, hm, hw => by
    obtain ⟨h205, hall⟩ := okF_of hok
    obtain ⟨h1, h2, h3⟩ := drop_cons (d := DL) h
    have hx := hall x (mem_drop h)
    have h2' : l.getD i ([], false, [], []) = x := h2
    unfold Sp.linesE at hw
    refine Ends.steq (L1_eq ..) (Ends.tt (by simp <;> omega) (Ends.tt (by simp <;> omega) ?_))
    simp only [Int.toNat_natCast, h2']
    refine Ends.steq (L2_eq ..) ?_
    refine L3_ends l i (by omega) m x _ _ _ _ _ _ _ _ m m seen hm hx (fun he ob => ?_) (fun he => ?_) x.2.2.1 0 rfl (Nat.zero_le _) rfl
    · have : w = Sp.lineE seen x := by rw [← hw]; unfold Sp.orE; simp [he]
      rw [← this]; exact hq ob
    · refine L1_ends l hok w hq s (i + 1) _ (seen ++ [x.1]) h3 h1 (hm.next x.1) ?_
      rw [← hw]; unfold Sp.orE; simp [he]
theorem ok : SpecOk C7p 48 cCheckF := by
  refine spec7 (X := X91) rfl hallX91 (d := 9) (by kernel_rfl) (by kernel_rfl) (by kernel_rfl) (fun (l : List LineT) hl => ?_) (isSome_ex (by kernel_rfl))
  have hok : Sp.okF l = true := hl
  refine Ends.eq (T_eq l) (Ends.ite (fun c => Ends.leaf (Gives.of rfl rfl ?_)) (fun c => ?_))
  · have c : 200 < l.length := by simp at c; omega
    show _ = Sp.fieldE l
    unfold Sp.fieldE; rw [if_pos c]
  · have c : ¬ 200 < l.length := by simp at c; omega
    refine L1_ends l hok (Sp.fieldE l) (fun ob => Gives.of rfl rfl rfl) l 0 [] [] rfl (Nat.zero_le _) (SetS.nil.congr (by simp)) ?_
    unfold Sp.fieldE; rw [if_neg c]
end T48
end Go.Pe
end
section
namespace Go.Pe
open Go.Det
theorem never_ok {f : FuncId} {s t : List Sh} {g : (prodS s).T → (prodS t).T} {nd : Bool} (hprim : C7p.prim f = none) (hfn : ∃ i, C7p.fn f = some i) : SpecOk C7p f ⟨s, fun _ => false, t, g, nd⟩ :=
  ⟨hprim, hfn, fun F h args i _ _ _ hp => by cases hp⟩
theorem hallX92 : ∀ g sp, X92.sp g = some sp → SpecOk C7p g sp :=
  sp_cons T115.ok (sp_cons T163.ok (sp_cons T164.ok (sp_cons T160.ok (sp_cons T118.ok (sp_cons T48.ok (sp_cons (never_ok (by kernel_rfl) (isSome_ex (by kernel_rfl))) (sp_cons (never_ok (by kernel_rfl) (isSome_ex (by kernel_rfl))) (sp_cons T116.ok (sp_cons T58.ok hallX90)))))))))
theorem orE_zero {a b : Int} (h : Sp.orE a b = 0) : a = 0 ∧ b = 0 := by
  unfold Sp.orE at h
  by_cases e : a = 0
  · rw [if_pos e] at h; exact ⟨e, h⟩
  · rw [if_neg e] at h; exact absurd h e
theorem lineE_len {seen : List (List UInt8)} {x : LineT} (h : Sp.lineE seen x = 0) : x.2.2.1.length ≤ 8 := by
  unfold Sp.lineE at h
  have := (orE_zero (orE_zero h).2).1
  by_cases e : 8 < x.2.2.1.length
  · rw [if_pos e] at this; cases this
  · omega
theorem linesE_len : ∀ (l : List LineT) (seen : List (List UInt8)), Sp.linesE seen l = 0 → ∀ x ∈ l, x.2.2.1.length ≤ 8
  | [], _, _, x, hx => by cases hx
  | y :: l, seen, h, x, hx => by
    unfold Sp.linesE at h
    obtain ⟨h1, h2⟩ := orE_zero h
    rcases List.mem_cons.1 hx with rfl | hx
    · exact lineE_len h1
    · exact linesE_len l _ h2 x hx
theorem fieldE_zero {l : List LineT} (h : Sp.fieldE l = 0) : l.length ≤ 200 ∧ ∀ x ∈ l, x.2.2.1.length ≤ 8 := by
  unfold Sp.fieldE at h
  by_cases e : 200 < l.length
  · rw [if_pos e] at h; cases h
  · rw [if_neg e] at h; exact ⟨by omega, linesE_len l [] h⟩
theorem compare_neg (a b : Int) : decide (Sp.compare a b < 0) = decide (a < b) := by
  unfold Sp.compare
  by_cases h1 : a < b <;> by_cases h2 : a > b <;> simp [h1, h2]
theorem first_two (a b : Int) : Sp.first [a, b] = if a = 0 then b else a := by
  by_cases h : a = 0 <;> by_cases h2 : b = 0 <;> simp [Sp.first, h, h2]
theorem cmpL_better (y x : LineT) (hy : y.2.2.1.length ≤ 8) (hx : x.2.2.1.length ≤ 8) : decide (Sp.cmpL y x < 0) = Sp.better y x := by
  unfold Sp.cmpL Sp.better
  rw [List.take_of_length_le hy, List.take_of_length_le hx, first_two]
  by_cases e : y.2.2.1.length = x.2.2.1.length
  · have : Sp.compare x.2.2.1.length y.2.2.1.length = 0 := by unfold Sp.compare; rw [if_neg (by omega), if_neg (by omega)]
    rw [if_pos this, if_neg (by simpa using e)]
    exact compare_neg ..
  · have : Sp.compare x.2.2.1.length y.2.2.1.length ≠ 0 := by
      unfold Sp.compare
      by_cases h : x.2.2.1.length < y.2.2.1.length
      · rw [if_pos (by omega)]; decide
      · rw [if_neg (by omega), if_pos (by omega)]; decide
    rw [if_neg this, if_pos e, compare_neg]
    by_cases h : x.2.2.1.length < y.2.2.1.length
    · rw [decide_eq_true h, decide_eq_true (by omega)]
    · rw [decide_eq_false h, decide_eq_false (by omega)]
theorem getD_mid {α : Type} (A B : List α) (x d : α) {n : Nat} (h : A.length = n) : (A ++ x :: B).getD n d = x := by
  subst h; simp [List.getD]
theorem set_mid {α : Type} (A B : List α) (x y : α) {n : Nat} (h : A.length = n) : (A ++ x :: B).set n y = A ++ y :: B := by
  subst h; simp
theorem insL_len (x : Sp.PlaceT) : ∀ l : List Sp.PlaceT, (Sp.insL x l).length = l.length + 1
  | [] => rfl
  | y :: r => by
    unfold Sp.insL
    split
    · simp [insL_len x r]
    · simp
theorem foldl_len : ∀ (l acc : List Sp.PlaceT), (l.foldl (fun a x => Sp.insL x a) acc).length = acc.length + l.length
  | [], acc => rfl
  | x :: l, acc => by rw [List.foldl_cons, foldl_len l, insL_len]; simp; omega
theorem sortP_len (l : List Sp.PlaceT) : (Sp.sortP l).length = l.length := by unfold Sp.sortP; rw [List.length_reverse, foldl_len]; simp
theorem ents_len (l : List LineT) : ∀ (s : List LineT) (i : Nat), (Sp.ents l i s).length ≤ s.length
  | [], _ => Nat.le_refl _
  | x :: s, i => by
    have := ents_len l s (i + 1)
    unfold Sp.ents
    split <;> simp <;> omega
namespace T44
variable {Q : PV → Ob → Prop}
/-- the ranks of the first lines, 0 for the others -/
def RK (l : List LineT) (i : Nat) : List Int := (l.take i).map (Sp.rankOf false l) ++ List.replicate (l.length - i) (0 : Int)
theorem L2_ends (l : List LineT) (h205 : l.length ≤ 205) (h8 : ∀ x ∈ l, x.2.2.1.length ≤ 8) (i : Nat) (x : LineT) (hx : x ∈ l) (A B : List Int) (hA : A.length = i) (hB : i + 1 + B.length = l.length) (w : Int)
    (hq : Ends X92 (L1 l l l.length l l.length ((i : Int) + 1) (A ++ w :: B)) Q) : ∀ (r : List LineT) (k n : Nat), l.drop k = r → k ≤ l.length → n ≤ k + 1 → ((n + (r.filter (T121.P false x)).length : Nat) : Int) = w → Ends X92 (L2 l l l.length i l l.length i l l.length k x.1 x.2.1 x.2.2.1 x.2.2.2 (A ++ (n : Int) :: B)) Q
  | [], k, n, h, hk, hn, hw => by
    have := drop_nil h hk
    refine Ends.steq (L2_eq ..) (Ends.ff (by simp; omega) ?_)
    rw [wr ((i : Int) + 1) (by omega) (by omega)]
    have e : (n : Int) = w := by simpa using hw
    rw [e]; exact hq
  | y :: r, k, n, h, hk, hn, hw => by
    obtain ⟨h1, h2, h3⟩ := drop_cons (d := DL) h
    have hy8 := h8 y (mem_drop h)
    have hx8 := h8 x hx
    have sy : Sp.okS y = true := decide_eq_true (by omega)
    have sx : Sp.okS x = true := decide_eq_true (by omega)
    have h2' : l.getD k ([], false, [], []) = y := h2
    have gA : (A ++ (n : Int) :: B).getD i 0 = n := getD_mid A B _ _ hA
    have sA : ∀ z, (A ++ (n : Int) :: B).set i z = A ++ z :: B := fun z => set_mid A B _ z hA
    have lA : (A ++ (n : Int) :: B).length = l.length := by simp; omega
    refine Ends.steq (L2_eq ..) (Ends.tt (by simp <;> omega) (Ends.tt (by simp <;> omega) (Ends.tt rfl ?_)))
    simp only [Int.toNat_natCast, h2', gA, sA]
    rw [wr ((k : Int) + 1) (by omega) (by omega), wr ((n : Int) + 1) (by omega) (by omega)]
    have ii : (decide ((0 : Int) ≤ (i : Int)) && decide ((i : Int) < (l.length : Int))) = true := by simp; omega
    have il : decide (i < (A ++ (n : Int) :: B).length) = true := decide_eq_true (by omega)
    have same : T121.P false x y = false → Ends X92 (L2 l l l.length i l l.length i l l.length ((k : Int) + 1) x.1 x.2.1 x.2.2.1 x.2.2.2 (A ++ (n : Int) :: B)) Q := fun e => by
      refine L2_ends l h205 h8 i x hx A B hA hB w hq r (k + 1) n h3 h1 (by omega) ?_
      rw [← hw, List.filter_cons_of_neg (by rw [e]; simp)]
    have inc : T121.P false x y = true → Ends X92 (L2 l l l.length i l l.length i l l.length ((k : Int) + 1) x.1 x.2.1 x.2.2.1 x.2.2.2 (A ++ ((n : Int) + 1) :: B)) Q := fun e => by
      refine L2_ends l h205 h8 i x hx A B hA hB w hq r (k + 1) (n + 1) h3 h1 (by omega) ?_
      rw [← hw, List.filter_cons_of_pos e, List.length_cons]; congr 1; omega
    have hb : (Sp.okS (y.1, y.2.1, y.2.2.1, y.2.2.2) && Sp.okS (x.1, x.2.1, x.2.2.1, x.2.2.2)) = true := by show (Sp.okS y && Sp.okS x) = true; rw [sy, sx]; rfl
    refine Ends.ite (fun c => Ends.tt hb (Ends.ite (fun c2 => Ends.tt ii (Ends.tt il (Ends.tt ii (Ends.tt il (inc ?_))))) (fun c2 => same ?_))) (fun c => same ?_)
    · have c : Sp.ranked y = true := c
      have c2 : decide (Sp.cmpL y x < 0) = true := c2
      rw [cmpL_better y x hy8 hx8] at c2
      unfold T121.P Sp.want; rw [c, c2]; rfl
    · have c2 : decide (Sp.cmpL y x < 0) = false := c2
      rw [cmpL_better y x hy8 hx8] at c2
      unfold T121.P; rw [c2, Bool.and_false]
    · have c : Sp.ranked y = false := c
      unfold T121.P Sp.want; rw [c]; rfl
theorem L1_ends (l : List LineT) (h205 : l.length ≤ 205) (h8 : ∀ x ∈ l, x.2.2.1.length ≤ 8) (hq : Ends X92 (L3 l l.length l.length 0 (Sp.ranks l false)) Q) : ∀ (r : List LineT) (i : Nat), l.drop i = r → i ≤ l.length → Ends X92 (L1 l l l.length l l.length i (RK l i)) Q
  | [], i, h, hi => by
    have := drop_nil h hi
    subst this
    have e : RK l l.length = Sp.ranks l false := by unfold RK Sp.ranks; simp
    rw [e]
    exact Ends.steq (L1_eq ..) (Ends.ff (by simp) hq)
  | x :: r, i, h, hi => by
    obtain ⟨h1, h2, h3⟩ := drop_cons (d := DL) h
    have h2' : l.getD i ([], false, [], []) = x := h2
    have hA : ((l.take i).map (Sp.rankOf false l)).length = i := by simp; omega
    have eB : List.replicate (l.length - i) (0 : Int) = 0 :: List.replicate (l.length - (i + 1)) 0 := by
      rw [show l.length - i = (l.length - (i + 1)) + 1 by omega]; rfl
    have e0 : RK l i = (l.take i).map (Sp.rankOf false l) ++ 0 :: List.replicate (l.length - (i + 1)) 0 := by unfold RK; rw [eB]
    have e1 : RK l (i + 1) = (l.take i).map (Sp.rankOf false l) ++ Sp.rankOf false l x :: List.replicate (l.length - (i + 1)) 0 := by unfold RK; rw [take_next h]; simp
    have go := L1_ends l h205 h8 hq r (i + 1) h3 h1
    rw [e1] at go
    rw [e0]
    have sA : ∀ z, ((l.take i).map (Sp.rankOf false l) ++ (0 : Int) :: List.replicate (l.length - (i + 1)) 0).set i z = (l.take i).map (Sp.rankOf false l) ++ z :: List.replicate (l.length - (i + 1)) 0 := fun z => set_mid _ _ _ z hA
    have lA : ((l.take i).map (Sp.rankOf false l) ++ (0 : Int) :: List.replicate (l.length - (i + 1)) 0).length = l.length := by simp; omega
    refine Ends.steq (L1_eq ..) (Ends.tt (by simp <;> omega) (Ends.tt (by simp <;> omega) (Ends.tt rfl ?_)))
    simp only [Int.toNat_natCast, h2', sA]
    rw [wr ((i : Int) + 1) (by omega) (by omega)]
    have ii : (decide ((0 : Int) ≤ (i : Int)) && decide ((i : Int) < (l.length : Int))) = true := by simp; omega
    have il : decide (i < ((l.take i).map (Sp.rankOf false l) ++ (0 : Int) :: List.replicate (l.length - (i + 1)) 0).length) = true := decide_eq_true (by omega)
    refine Ends.ite (fun c => ?_) (fun c => Ends.tt ii (Ends.tt il ?_))
    · have c : Sp.ranked x = false := by simpa using c
      have : Sp.rankOf false l x = 0 := (T121.rank_no (by unfold Sp.want; rw [c]; rfl)).symm
      rw [this] at go
      exact go
    · have c : Sp.ranked x = true := by simpa using c
      refine L2_ends l h205 h8 i x (mem_drop h) _ _ hA (by simp; omega) (Sp.rankOf false l x) go l 0 1 rfl (Nat.zero_le _) (by omega) ?_
      exact T121.rank_yes (by unfold Sp.want; rw [c]; rfl)
theorem ranks_get {l : List LineT} {x : LineT} {i : Nat} {s : List LineT} (h : l.drop i = x :: s) : (Sp.ranks l false).getD i 0 = Sp.rankOf false l x := T47.ranks_get h
theorem L4_ends (l : List LineT) (h205 : l.length ≤ 205) (h8 : ∀ x ∈ l, x.2.2.1.length ≤ 8) (w : List Sp.PlaceT) (hq : Ends X92 (L6 l w.length l.length l.length l.length (Sp.ranks l false) w w.length w.length 20 0 20 (Sp.ranks l false) w) Q) : ∀ (s : List LineT) (i : Nat) (acc : List Sp.PlaceT), l.drop i = s → i ≤ l.length → acc.length ≤ i → acc ++ Sp.ents l i s = w → Ends X92 (L4 l acc.length l.length l.length i (Sp.ranks l false) acc) Q
  | [], i, acc, h, hi, ha, hw => by
    have := drop_nil h hi
    have hw : acc = w := by simpa [Sp.ents] using hw
    subst hw this
    exact Ends.steq (L4_eq ..) (Ends.ff (by simp) hq)
  | x :: s, i, acc, h, hi, ha, hw => by
    obtain ⟨h1, h2, h3⟩ := drop_cons (d := DL) h
    have hx8 := h8 x (mem_drop h)
    have sx : Sp.okS x = true := decide_eq_true (by omega)
    have h2' : l.getD i ([], false, [], []) = x := h2
    have hg := ranks_get h
    have ii : (decide ((0 : Int) ≤ (i : Int)) && decide ((i : Int) < (l.length : Int))) = true := by simp; omega
    refine Ends.steq (L4_eq ..) (Ends.tt (by simp <;> omega) (Ends.tt ii (Ends.tt (by rw [T47.ranks_len]; simp; omega) ?_)))
    simp only [Int.toNat_natCast, h2', hg]
    rw [wr ((i : Int) + 1) (by omega) (by omega)]
    unfold Sp.ents at hw
    have sx' : Sp.okS (x.1, x.2.1, x.2.2.1, x.2.2.2) = true := sx
    refine Ends.ite (fun c => Ends.tt ii (Ends.tt ii (Ends.tt (by rw [sx']; simp) (Ends.tt (by simp; omega) ?_)))) (fun c => ?_)
    · rw [if_pos (by simpa using c)] at hw
      have e8 : List.take x.2.2.1.length x.2.2.1 = List.take 8 x.2.2.1 := by rw [List.take_of_length_le hx8, List.take_length]
      rw [e8]
      have e2 : Nat.add acc.length 1 = (acc ++ [((i : Int), Sp.rankOf false l x, Sp.sumW (List.take 8 x.2.2.1))]).length := by simp
      rw [e2]
      exact L4_ends l h205 h8 w hq s (i + 1) _ h3 h1 (by simp; omega) (by rw [List.append_assoc]; exact hw)
    · rw [if_neg (by simpa using c)] at hw
      exact L4_ends l h205 h8 w hq s (i + 1) acc h3 h1 (by omega) hw
theorem L3_ends (l : List LineT) (h205 : l.length ≤ 205) (h8 : ∀ x ∈ l, x.2.2.1.length ≤ 8) (w : List Sp.PlaceT) (hq0 : w = [] → Ends X92 (L5 l l.length l.length l.length (Sp.ranks l false) 0 20 0 20 (Sp.ranks l false)) Q) (hq : w ≠ [] → Ends X92 (L6 l w.length l.length l.length l.length (Sp.ranks l false) w w.length w.length 20 0 20 (Sp.ranks l false) w) Q) : ∀ (s : List LineT) (i : Nat), l.drop i = s → i ≤ l.length → Sp.ents l i s = w → Ends X92 (L3 l l.length l.length i (Sp.ranks l false)) Q
  | [], i, h, hi, hw => by
    have := drop_nil h hi
    subst this
    exact Ends.steq (L3_eq ..) (Ends.ff (by simp) (hq0 hw.symm))
  | x :: s, i, h, hi, hw => by
    obtain ⟨h1, h2, h3⟩ := drop_cons (d := DL) h
    have hx8 := h8 x (mem_drop h)
    have sx : Sp.okS x = true := decide_eq_true (by omega)
    have h2' : l.getD i ([], false, [], []) = x := h2
    have hg := ranks_get h
    have ii : (decide ((0 : Int) ≤ (i : Int)) && decide ((i : Int) < (l.length : Int))) = true := by simp; omega
    refine Ends.steq (L3_eq ..) (Ends.tt (by simp <;> omega) (Ends.tt ii (Ends.tt (by rw [T47.ranks_len]; simp; omega) ?_)))
    simp only [Int.toNat_natCast, h2', hg]
    rw [wr ((i : Int) + 1) (by omega) (by omega)]
    unfold Sp.ents at hw
    have sx' : Sp.okS (x.1, x.2.1, x.2.2.1, x.2.2.2) = true := sx
    refine Ends.ite (fun c => Ends.tt ii (Ends.tt ii (Ends.tt (by rw [sx']; simp) (Ends.tt (by simp) ?_)))) (fun c => ?_)
    · rw [if_pos (by simpa using c)] at hw
      have e8 : List.take x.2.2.1.length x.2.2.1 = List.take 8 x.2.2.1 := by rw [List.take_of_length_le hx8, List.take_length]
      rw [e8]
      exact L4_ends l h205 h8 w (hq (by rw [← hw]; simp)) s (i + 1) [((i : Int), Sp.rankOf false l x, Sp.sumW (List.take 8 x.2.2.1))] h3 h1 (by simp) hw
    · rw [if_neg (by simpa using c)] at hw
      exact L3_ends l h205 h8 w hq0 hq s (i + 1) h3 h1 hw
section
variable (v0 : List LineT) (v5n v14n : Nat) (v15 v16 : Int) (o1 : List Int) (o0 : List Sp.PlaceT) (v0n : Nat) (v1 v6 v7 v8 : Int) (o1' : List Int) (o0' : List Sp.PlaceT) (o1'' : List Int) (n : Nat) (hn : n ≤ 300)
include hn
theorem L15_ends (x : Sp.PlaceT) (S : List Sp.PlaceT) (j : Nat) (hj : j ≤ 300) : ∀ (rev P2 : List Sp.PlaceT), rev.length + 1 + P2.length + S.length = n → (∀ arr, arr = (Sp.insL x rev).reverse ++ (P2 ++ S) → Ends X92 (L10 v0 v5n v14n v15 v16 o1 o0 v0n v1 v6 v7 v8 o1' o0' n 0 n ((j : Int) + 1) o1'' arr) Q) →
    Ends X92 (L15 v0 v5n v14n v15 v16 o1 o0 v0n v1 v6 v7 v8 o1' o0' n 0 n j rev.length o1'' (rev.reverse ++ x :: (P2 ++ S))) Q
  | [], P2, hl, hq => by
    refine Ends.steq (L15_eq ..) (Ends.ff (by simp) ?_)
    rw [wr ((j : Int) + 1) (by omega) (by omega)]
    exact hq _ rfl
  | y :: r, P2, hl, hq => by
    have hl' : r.length + 1 + 1 + P2.length + S.length = n := by simpa using hl
    have e1 : IntKind.wrap .i64 (((y :: r).length : Int) - 1) = (r.length : Int) := by rw [wr _ (by simp <;> omega) (by simp <;> omega)]; simp
    have e2 : (y :: r).reverse ++ x :: (P2 ++ S) = r.reverse ++ y :: x :: (P2 ++ S) := by simp
    have g1 : (r.reverse ++ y :: x :: (P2 ++ S)).getD (y :: r).length ((0 : Int), (0 : Int), (0 : Int)) = x := by
      rw [show r.reverse ++ y :: x :: (P2 ++ S) = (r.reverse ++ [y]) ++ x :: (P2 ++ S) by simp]
      exact getD_mid _ _ _ _ (by simp)
    have g2 : (r.reverse ++ y :: x :: (P2 ++ S)).getD r.length ((0 : Int), (0 : Int), (0 : Int)) = y := getD_mid _ _ _ _ (by simp)
    have s1 : ((r.reverse ++ y :: x :: (P2 ++ S)).set (y :: r).length (y.1, y.2.1, y.2.2)).set r.length (x.1, x.2.1, x.2.2) = r.reverse ++ x :: ((y :: P2) ++ S) := by
      rw [show r.reverse ++ y :: x :: (P2 ++ S) = (r.reverse ++ [y]) ++ x :: (P2 ++ S) by simp, set_mid (r.reverse ++ [y]) (P2 ++ S) x _ (by simp)]
      rw [show (r.reverse ++ [y]) ++ (y.1, y.2.1, y.2.2) :: (P2 ++ S) = r.reverse ++ y :: y :: (P2 ++ S) by simp]
      exact set_mid _ _ _ _ (by simp)
    have len : (r.reverse ++ y :: x :: (P2 ++ S)).length = n := by simp; omega
    rw [e2]
    refine Ends.steq (L15_eq ..) ?_
    simp only [e1, Int.toNat_natCast, g1, g2, s1, List.length_set]
    rw [wr ((j : Int) + 1) (by omega) (by omega)]
    have i1 : (decide ((0 : Int) ≤ ((y :: r).length : Int)) && decide (((y :: r).length : Int) < (n : Int))) = true := by simp; omega
    have i2 : (decide ((0 : Int) ≤ (r.length : Int)) && decide ((r.length : Int) < (n : Int))) = true := by simp; omega
    have l1 : decide ((y :: r).length < (r.reverse ++ y :: x :: (P2 ++ S)).length) = true := decide_eq_true (by rw [len]; simp; omega)
    have l2 : decide (r.length < (r.reverse ++ y :: x :: (P2 ++ S)).length) = true := decide_eq_true (by rw [len]; omega)
    refine Ends.tt (by simp <;> omega) (Ends.tt i1 (Ends.tt l1 (Ends.tt i2 (Ends.tt l2 (Ends.tt rfl (Ends.ite (fun c => Ends.tt i2 (Ends.tt l2 (Ends.tt i1 (Ends.tt l1 (Ends.tt i1 (Ends.tt l1 (Ends.tt i2 (Ends.tt l2 ?_)))))))) (fun c => ?_)))))))
    · rw [compare_neg] at c
      have c := of_decide_eq_true c
      refine L15_ends x S j hj r (y :: P2) (by simp; omega) (fun arr ha => hq arr ?_)
      rw [ha]; conv => rhs; unfold Sp.insL
      rw [if_pos c]; simp
    · rw [compare_neg] at c
      have c := of_decide_eq_false c
      refine hq _ ?_
      unfold Sp.insL
      rw [if_neg c]; simp
theorem L10_ends (w : List Sp.PlaceT) (hw : w.length = n) (hq : Ends X92 (L16 v0 v5n v14n v15 v16 o1 o0 v0n v1 v6 o1'' (Sp.sortP w)) Q) : ∀ (s : List Sp.PlaceT) (j : Nat) (rev : List Sp.PlaceT), w.drop j = s → j ≤ w.length → rev.length = j → Sp.sortP w = (s.foldl (fun a x => Sp.insL x a) rev).reverse →
    Ends X92 (L10 v0 v5n v14n v15 v16 o1 o0 v0n v1 v6 v7 v8 o1' o0' n 0 n j o1'' (rev.reverse ++ s)) Q
  | [], j, rev, h, hj, hr, he => by
    have := drop_nil h hj
    rw [List.append_nil]
    refine Ends.steq (L10_eq ..) (Ends.ff (by simp; omega) ?_)
    rw [he] at hq; exact hq
  | x :: s, j, rev, h, hj, hr, he => by
    obtain ⟨h1, _, h3⟩ := drop_cons (d := x) h
    have hs : s.length = w.length - (j + 1) := by rw [← h3]; simp
    refine Ends.steq (L10_eq ..) (Ends.tt (by simp; omega) ?_)
    have := L15_ends (Q := Q) v0 v5n v14n v15 v16 o1 o0 v0n v1 v6 v7 v8 o1' o0' o1'' n hn x s j (by omega) rev [] (by simp; omega) (fun arr ha => by
      subst ha
      exact L10_ends w hw hq s (j + 1) (Sp.insL x rev) h3 h1 (by rw [insL_len, hr]) he)
    rw [hr] at this
    exact this
end
theorem obGet_second {a b : Obj} : obGet [(1, a), (0, b)] 0 = some b := rfl
theorem res2_second {s : Sh} {sz : Nat} (hs : s.sz = sz) {n : Nat} {a : Obj} {fz : Bool} {t : TypeId} {o : List s.T} {e : Int} (hn : n = o.length) : resOf [.list s, i64] (.tup [.sl 0 sz 0 n none, .dat i64 e]) [(1, a), (0, .arr fz t s o)] = some (true, (o, e)) := by
  have := arg_slz hs (c := none) (obGet_second (a := a) (b := .arr fz t s o)) hn
  show argsOf ⟨0, .leaf, _, 0⟩ [.list s, i64] [.sl 0 sz 0 n none, .dat i64 e] = _
  exact args_two this rfl
theorem L6_ends (l : List LineT) (w : List Sp.PlaceT) (hw0 : w ≠ []) (hw : w.length ≤ 10) (rk : List Int) (hq : ∀ a, Q (.tup [.sl 0 3 0 w.length none, .dat i64 0]) [(1, a), (0, .arr false 73 shPlace (Sp.sortP w))]) : Ends X92 (L6 l w.length l.length l.length l.length rk w w.length w.length 20 0 20 rk w) Q := by
  refine Ends.steq (L6_eq ..) (Ends.ff (by simp; omega) ?_)
  rw [wr ((0 : Int) + 1) (by omega) (by omega)]
  cases w with
  | nil => exact absurd rfl hw0
  | cons x s =>
    refine L10_ends (Q := Q) l _ _ _ _ _ _ _ _ _ _ _ _ _ _ _ (by omega) (x :: s) rfl ?_ s 1 [x] rfl (by simp) rfl rfl
    exact Ends.steq (L16_eq ..) (Ends.ff (by simp at hw ⊢; omega) (Ends.leaf (hq _)))
theorem L5_ends (l : List LineT) (rk : List Int) (hq : ∀ ob, Q (.tup [.nil, .dat i64 0]) ob) : Ends X92 (L5 l l.length l.length l.length rk 0 20 0 20 rk) Q :=
  Ends.steq (L5_eq ..) (Ends.ff rfl (Ends.steq (L8_eq ..) (Ends.ff rfl (Ends.steq (L13_eq ..) (Ends.ff rfl (Ends.leaf (hq _)))))))
theorem ok : SpecOk C7p 44 cBoard := by
  refine spec7 (X := X92) rfl hallX92 (d := 9) (by kernel_rfl) (by kernel_rfl) (by kernel_rfl) (fun (l : List LineT) hl => ?_) (isSome_ex (by kernel_rfl))
  have hl : (Sp.okF l && (decide (l.length ≤ 10) || decide (200 < l.length))) = true := hl
  rw [Bool.and_eq_true, Bool.or_eq_true, decide_eq_true_eq, decide_eq_true_eq] at hl
  obtain ⟨hok, hlen⟩ := hl
  have h205 := (okF_of hok).1
  refine Ends.eq (T_eq l) (Ends.tt hok (Ends.ite (fun c => Ends.leaf ⟨([], Sp.fieldE l), rfl, ?_⟩) (fun c => Ends.tt (by simp; omega) ?_)))
  · have c : Sp.fieldE l ≠ 0 := by simpa using c
    show _ = Sp.Board l
    unfold Sp.Board; rw [if_pos c]
  · have c : Sp.fieldE l = 0 := by simpa using c
    have hB : Sp.Board l = (Sp.sortP (Sp.ents l 0 l), 0) := by unfold Sp.Board; rw [if_neg (by simp [c]), Sp.sort_places]
    obtain ⟨h200, h8⟩ := fieldE_zero c
    have hl10 : l.length ≤ 10 := by omega
    have he := ents_len l l 0
    have e0 : List.replicate l.length (0 : Int) = RK l 0 := by unfold RK; simp
    rw [Int.toNat_natCast, e0]
    refine L1_ends l h205 h8 (L3_ends l h205 h8 (Sp.ents l 0 l) (fun hw => L5_ends l _ (fun ob => ⟨([], 0), rfl, ?_⟩)) (fun hw => L6_ends l _ hw (by omega) _ (fun a => ⟨(Sp.sortP (Sp.ents l 0 l), 0), res2_second rfl ?_, ?_⟩)) l 0 rfl (Nat.zero_le _) rfl) l 0 rfl (Nat.zero_le _)
    · show _ = Sp.Board l
      rw [hB, hw]; rfl
    · exact (sortP_len _).symm
    · exact hB.symm
end T44
end Go.Pe
end
section
namespace Go.Pe
open Go.Det
theorem hallX93 : ∀ g sp, X93.sp g = some sp → SpecOk C7p g sp :=
  sp_cons awake_ok (sp_cons T43.ok (sp_cons T44.ok (sp_cons T45.ok (sp_cons T46.ok (sp_cons T47.ok (sp_cons T48.ok (sp_cons T49.ok (fun g sp h => by cases h))))))))
theorem places_len (l : List LineT) : (Sp.places l).length ≤ l.length := by
  rw [← Sp.sort_places, sortP_len]; exact ents_len l l 0
theorem shortF_of {l : List LineT} {n : Int} (h : Sp.shortF l n = true) : Sp.okF l = true ∧ ((l.length : Int) ≤ n ∨ 200 < l.length) := by
  unfold Sp.shortF at h
  rw [Bool.and_eq_true, Bool.not_eq_true', Bool.or_eq_false_iff, Bool.and_eq_false_iff] at h
  obtain ⟨⟨h1, h2⟩, h3⟩ := h
  have h2 := of_decide_eq_false h2
  refine ⟨by unfold Sp.okF; rw [decide_eq_true (by omega), h3]; rfl, ?_⟩
  rcases h1 with h1 | h1
  · have := of_decide_eq_false h1; left; omega
  · have := of_decide_eq_false h1; right; omega
namespace T7
variable {Q : PV → Ob → Prop}
theorem L3_ends (l : List LineT) (hok : Sp.okF l = true) (e : Int) (he : Sp.fieldE l = e) (w : List Sp.PlaceT) (hw : w.length ≤ 300) (hq : ∀ ob, Q (.dat .bool true) ob) : ∀ (r : List Sp.PlaceT) (i : Nat), w.drop i = r → i ≤ w.length → Ends X93 (L3 l e e w i w w.length i (w.take i)) Q
  | [], i, h, hi => by
    have := drop_nil h hi
    subst this
    refine Ends.steq (L3_eq ..) (Ends.ff (by simp) (Ends.tt hok (Ends.tt hok (Ends.tt (by simp [he]) (Ends.tt (by simp) (Ends.tt (by simp; omega) (Ends.tt (by simp) (Ends.tt rfl (Ends.leaf (hq _)))))))))) 
  | x :: r, i, h, hi => by
    obtain ⟨h1, h2, h3⟩ := drop_cons (d := ((0 : Int), (0 : Int), (0 : Int))) h
    have ht := take_next h
    have hl : (w.take i).length = i := by simp; omega
    refine Ends.steq (L3_eq ..) (Ends.tt (by simp <;> omega) (Ends.tt (by simp <;> omega) (Ends.tt (by rw [hl]; simp; omega) ?_)))
    simp only [Int.toNat_natCast, h2]
    rw [wr ((i : Int) + 1) (by omega) (by omega)]
    have := L3_ends l hok e he w hw hq r (i + 1) h3 h1
    rw [ht] at this
    exact this
theorem L1_ends (l : List LineT) (hok : Sp.okF l = true) (e : Int) (he : Sp.fieldE l = e) (w : List Sp.PlaceT) (hw : w.length ≤ 300) (hq : ∀ ob, Q (.dat .bool true) ob) : Ends X93 (L1 l e e w w w.length 0) Q := by
  cases w with
  | nil => exact Ends.steq (L1_eq ..) (Ends.ff (by simp) (Ends.tt hok (Ends.tt hok (Ends.tt (by simp [he]) (Ends.tt (by simp) (Ends.tt (by simp) (Ends.tt (by simp) (Ends.tt rfl (Ends.leaf (hq _)))))))))) 
  | cons x r =>
    refine Ends.steq (L1_eq ..) (Ends.tt (by simp <;> omega) (Ends.tt (by simp <;> omega) (Ends.tt rfl ?_)))
    exact L3_ends l hok e he (x :: r) hw hq r 1 rfl (by simp)
theorem L2_ends (l : List LineT) (hok : Sp.okF l = true) (e : Int) (he : Sp.fieldE l = e) (hq : ∀ ob, Q (.dat .bool true) ob) : Ends X93 (L2 l e e [] 0 0) Q :=
  Ends.steq (L2_eq ..) (Ends.ff rfl (Ends.tt hok (Ends.tt hok (Ends.tt (by simp [he]) (Ends.tt (by simp) (Ends.tt rfl (Ends.tt rfl (Ends.tt rfl (Ends.leaf (hq _)))))))))) 
end T7
noncomputable def cEventPlaces : PSpec := ⟨[.list shLine], fun _ => true, [.bool], fun _ => true, false⟩
namespace T7
theorem ok : SpecOk C7p 7 cEventPlaces := by
  refine spec7 (X := X93) rfl hallX93 (d := 9) (by kernel_rfl) (by kernel_rfl) (by kernel_rfl) (fun (l : List LineT) _ => ?_) (isSome_ex (by kernel_rfl))
  have hQ : ∀ ob, Gives cEventPlaces l (.dat .bool true) ob := fun ob => Gives.of rfl rfl rfl
  refine Ends.eq (T_eq l) (Ends.tt rfl (Ends.ite (fun c => Ends.tt rfl (Ends.leaf (hQ _))) (fun c => ?_)))
  have c : Sp.shortF l 10 = true := by simpa using c
  obtain ⟨hok, hlen⟩ := shortF_of c
  have h205 := (okF_of hok).1
  have hB : Sp.okB l = true := by
    unfold Sp.okB; rw [hok, Bool.true_and, Bool.or_eq_true, decide_eq_true_eq, decide_eq_true_eq]; omega
  refine Ends.tt hok (Ends.tt hB (Ends.tt hok (Ends.ite (fun c2 => Ends.tt hok ?_) (fun c2 => ?_))))
  · have c2 : Sp.fieldE l = 0 := by simpa using c2
    have eB : Sp.Board l = (Sp.places l, 0) := by unfold Sp.Board; rw [if_neg (by simp [c2])]
    have := places_len l
    rw [eB, c2]
    exact L1_ends l hok 0 c2 (Sp.places l) (by omega) hQ
  · have c2 : Sp.fieldE l ≠ 0 := by simpa using c2
    have eB : Sp.Board l = ([], Sp.fieldE l) := by unfold Sp.Board; rw [if_pos c2]
    rw [eB]
    exact L2_ends l hok (Sp.fieldE l) rfl hQ
end T7
end Go.Pe
end
section
namespace Go.Det
open Go.ChangeShapes Go.WideShapes Go.RowKit
theorem mapM_congr_some {α β : Type} {f g : α → Option β} : ∀ {l : List α} {ys : List β}, l.mapM f = some ys → (∀ a ∈ l, ∀ y ∈ ys, f a = some y → g a = some y) → l.mapM g = some ys
  | [], ys, h, _ => by simpa using h
  | a :: l, ys, h, hg => by
    rw [List.mapM_cons] at h ⊢
    cases hf : f a with
    | none => rw [hf] at h; cases h
    | some y =>
      rw [hf] at h
      cases hl : l.mapM f with
      | none => rw [hl] at h; cases h
      | some zs =>
        rw [hl] at h
        cases h
        rw [hg a (by simp) y (by simp) hf, mapM_congr_some hl (fun b hb z hz hfz => hg b (by simp [hb]) z (by simp [hz]) hfz)]
        rfl
/-- the types that are reached from these, and no slice's element is without cells -/
def kidsB (P : Program) (L : List TypeId) (t : TypeId) : Bool := match P.underlying t with
  | some (.pointer e) | some (.array _ e) | some (.map _ e) => L.contains e
  | some (.slice e) => L.contains e && Nat.ble 1 (P.cellsOf e)
  | some (.struct fs) => fs.toList.all fun f => L.contains f.type
  | _ => true
def closedB (P : Program) (L : List TypeId) : Bool := L.all (kidsB P L)
section
variable {H : Type} {enc : TypeId × Value → H} {P : Program} {W W' : World}
theorem kids_of {L : List TypeId} (h : closedB P L = true) {t : TypeId} (ht : t ∈ L) : kidsB P L t = true := List.all_eq_true.1 h t ht
theorem cell_below (hb : Below W.heap.size W W') {a : Addr} {v : Value} (h : W.cell? a = some v) : W'.cell? a = some v := by
  have hl : a.block < W.heap.size := by
    unfold World.cell? at h
    by_cases hh : a.block < W.heap.size
    · exact hh
    · rw [Array.getElem?_eq_none (by omega)] at h; cases h
  unfold World.cell? at h ⊢
  rw [hb.block _ hl]
  exact h
theorem cells_below (hb : Below W.heap.size W W') {a : Addr} {n : Nat} {cs : List Value} (h : W.cells? 0 a n = some cs) : W'.cells? 0 a n = some cs := by
  unfold World.cells? at h ⊢
  rw [if_pos (Nat.zero_le _)] at h ⊢
  exact mapM_congr_some h fun i _ v _ hv => cell_below hb hv
theorem bind_cells_below (hb : Below W.heap.size W W') {β : Type} {a : Addr} {n : Nat} {f g : List Value → Option β} {y : β} (h : (W.cells? 0 a n).bind f = some y) (hfg : ∀ cs, f cs = some y → g cs = some y) : (W'.cells? 0 a n).bind g = some y := by
  cases hc : W.cells? 0 a n with
  | none => rw [hc] at h; cases h
  | some cs =>
    rw [hc] at h
    rw [cells_below hb hc]
    exact hfg cs h
theorem trod_below (hb : Below W.heap.size W W') {L : List TypeId} (hz : closedB P L = true) {sp : Nat → Bool} : ∀ (fuel : Nat) (t : TypeId) (cs : List Value) (x : DataW H × List MemPlace), t ∈ L →
    DataW.trod enc P W 0 (fun _ => true) true fuel t cs = some x → (∀ p ∈ x.2, sp p.block = true) → DataW.trod enc P W' 0 sp true fuel t cs = some x
  | 0, _, _, _, _, h, _ => by cases h
  | fuel + 1, t, cs, x, ht, h, hs => by
    have ih := trod_below hb hz (sp := sp) fuel
    have hk := kids_of hz ht
    unfold kidsB at hk
    unfold DataW.trod at h ⊢
    split at h <;> try simp only [reduceCtorEq] at h
    all_goals try exact h
    case h_6 e a hu =>
      have hke : e ∈ L := by rw [hu] at hk; simpa using hk
      cases hm : (W.cells? 0 a (P.cellsOf e)).bind (DataW.trod enc P W 0 (fun _ => true) true fuel e) with
      | none => rw [hm] at h; cases h
      | some y =>
        rw [hm] at h
        cases h
        rw [bind_cells_below hb hm (g := DataW.trod enc P W' 0 sp true fuel e) (fun cs hc => ih e cs y hke hc (fun p hp => hs p (by simp [hp])))]
        rfl
    case h_8 e a len cap hu =>
      have hke : e ∈ L ∧ P.cellsOf e ≠ 0 := by
        rw [hu] at hk
        simp only [Bool.and_eq_true, List.contains_iff_mem] at hk
        have := Nat.le_of_ble_eq_true hk.2
        exact ⟨hk.1, by omega⟩
      by_cases hc : 0 ≤ a.block ∧ len ≤ cap ∧ cap ≤ maxLen
      · rw [if_pos hc] at h ⊢
        have step : ∀ (i : Nat) (y : DataW H × List MemPlace), (W.cells? 0 (a.add (i * P.cellsOf e)) (P.cellsOf e)).bind (DataW.trod enc P W 0 (fun _ => true) true fuel e) = some y → (∀ p ∈ y.2, sp p.block = true) →
            (W'.cells? 0 (a.add (i * P.cellsOf e)) (P.cellsOf e)).bind (DataW.trod enc P W' 0 sp true fuel e) = some y := fun i y hy hp => bind_cells_below hb hy fun cs hc => ih e cs y hke.1 hc hp
        cases h1 : (List.range len).mapM (fun i => (W.cells? 0 (a.add (i * P.cellsOf e)) (P.cellsOf e)).bind (DataW.trod enc P W 0 (fun _ => true) true fuel e)) with
        | none => rw [h1] at h; cases h
        | some ys =>
          rw [h1] at h
          simp only [if_true, Option.bind_some] at h
          cases h2 : (List.range (cap - len)).mapM (fun j => (W.cells? 0 (a.add ((len + j) * P.cellsOf e)) (P.cellsOf e)).bind (DataW.trod enc P W 0 (fun _ => true) true fuel e)) with
          | none => rw [h2] at h; cases h
          | some zs =>
            rw [h2] at h
            cases h
            rw [mapM_congr_some h1 fun i _ y hy hi => step i y hi fun p hp => hs p (List.mem_append_right _ (List.mem_flatMap.2 ⟨y, List.mem_append_left _ hy, hp⟩))]
            have h2' := mapM_congr_some h2 fun j _ y hy hj => step (len + j) y hj fun p hp => hs p (List.mem_append_right _ (List.mem_flatMap.2 ⟨y, List.mem_append_right _ hy, hp⟩))
            by_cases hsp : sp a.block = true
            · simp only [hsp, if_true, Option.bind_some]
              rw [h2']
              rfl
            · have e0 : (ys.length + zs.length) * P.cellsOf e = 0 := by
                rcases Nat.eq_zero_or_pos ((ys.length + zs.length) * P.cellsOf e) with h0 | h0
                · exact h0
                · refine absurd (hs (.cell a.block (a.off + 0)) (List.mem_append_left _ ?_)) hsp
                  simp only [MemPlace.row, List.mem_map, List.mem_range]
                  exact ⟨0, h0, rfl⟩
              have e1 : zs = [] := by
                rcases Nat.mul_eq_zero.1 e0 with h0 | h0
                · exact List.length_eq_zero_iff.1 (by omega)
                · exact absurd h0 hke.2
              subst e1
              simp only [hsp, Option.bind_some]
              rfl
      · rw [if_neg hc] at h; cases h
    case h_9 cs _ _ fs hu =>
      have hke : ∀ f ∈ fs.toList, f.type ∈ L := by
        rw [hu] at hk
        intro f hf
        have := List.all_eq_true.1 hk f hf
        simpa using this
      by_cases hc : cs.length = P.cellsOf t
      · rw [if_pos hc] at h ⊢
        cases h1 : fs.toList.mapM (fun f => DataW.trod enc P W 0 (fun _ => true) true fuel f.type ((cs.drop f.offset).take (P.cellsOf f.type))) with
        | none => rw [h1] at h; cases h
        | some ys =>
          rw [h1] at h
          cases h
          rw [mapM_congr_some h1 fun f hfm y hy hf => ih _ _ y (hke f hfm) hf fun p hp => hs p (List.mem_flatMap.2 ⟨y, hy, hp⟩)]
          rfl
      · rw [if_neg hc] at h; cases h
    case h_10 cs _ _ n e hu =>
      have hke : e ∈ L := by rw [hu] at hk; simpa using hk
      by_cases hc : cs.length = P.cellsOf t
      · rw [if_pos hc] at h ⊢
        cases h1 : (List.range n).mapM (fun i => DataW.trod enc P W 0 (fun _ => true) true fuel e ((cs.drop (i * P.cellsOf e)).take (P.cellsOf e))) with
        | none => rw [h1] at h; cases h
        | some ys =>
          rw [h1] at h
          cases h
          rw [mapM_congr_some h1 fun f _ y hy hf => ih _ _ y hke hf fun p hp => hs p (List.mem_flatMap.2 ⟨y, hy, hp⟩)]
          rfl
      · rw [if_neg hc] at h; cases h
    case h_14 k e b hu =>
      have hke : e ∈ L := by rw [hu] at hk; simpa using hk
      have hl : b < W.heap.size := by
        by_cases hh : b < W.heap.size
        · exact hh
        · rw [Array.getElem?_eq_none (by omega)] at h; cases h
      rw [hb.block _ hl]
      split at h
      case h_2 => cases h
      rename_i es clock hes
      simp only
      split at h
      case isFalse => cases h
      rename_i hcond
      rw [if_pos hcond]
      cases h1 : (es.toList.mapM fun x => (keyOf P k x.key).bind fun key => if x.val.formed P e then (DataW.trod enc P W 0 (fun _ => true) true fuel e x.val.cells.toList).map fun y => ((key, y.1), y.2) else none) with
      | none => rw [h1] at h; cases h
      | some ys =>
        rw [h1] at h
        simp only [Option.bind_some] at h
        split at h
        case isFalse => cases h
        rename_i hri
        cases h
        rw [mapM_congr_some h1 fun en _ y hy hf => ?_]
        · simp only [Option.bind_some]
          rw [if_pos hri]
        · cases hk : keyOf P k en.key with
          | none => rw [hk] at hf; cases hf
          | some key =>
            rw [hk] at hf
            simp only [Option.bind_some] at hf ⊢
            split at hf
            case isFalse => cases hf
            rename_i hfo
            rw [if_pos hfo]
            cases htt : DataW.trod enc P W 0 (fun _ => true) true fuel e en.val.cells.toList with
            | none => rw [htt] at hf; cases hf
            | some u =>
              rw [htt] at hf
              cases hf
              rw [ih _ _ u hke htt fun p hp => hs p (by simp only [List.mem_cons, List.mem_flatMap]; exact .inr ⟨_, hy, hp⟩)]
              rfl
theorem Trod_below (hb : Below W.heap.size W W') {L : List TypeId} (hz : closedB P L = true) {sp : Nat → Bool} {t : TypeId} {v : Value} {d : DataW H} {p : List MemPlace}
    (ht : t ∈ L) (h : DataW.Trod enc P W 0 (fun _ => true) true t v d p) (hs : ∀ q ∈ p, sp q.block = true) : DataW.Trod enc P W' 0 sp true t v d p := by
  obtain ⟨fuel, hf⟩ := h
  exact ⟨fuel, trod_below hb hz fuel t _ _ ht hf hs⟩
theorem TrodAll_below (hb : Below W.heap.size W W') {L : List TypeId} (hz : closedB P L = true) {sp : Nat → Bool} : ∀ {ts : List TypeId} {vs : List Value} {ds : List (DataW H)} {p : List MemPlace}, (∀ t ∈ ts, t ∈ L) →
    DataW.TrodAll enc P W 0 (fun _ => true) true ts vs ds p → (∀ q ∈ p, sp q.block = true) → DataW.TrodAll enc P W' 0 sp true ts vs ds p
  | [], vs, ds, p, _, h, _ => by
    obtain ⟨rfl, rfl, rfl⟩ := trodAll_nil h
    rfl
  | t :: ts, vs, ds, p, hl, h, hs => by
    obtain ⟨v, vs1, d, ds1, a, b, rfl, rfl, rfl, h1, h2⟩ := trodAll_cons h
    exact ⟨a, b, Trod_below hb hz (hl t (by simp)) h1 (fun q hq => hs q (by simp [hq])), TrodAll_below hb hz (fun u hu => hl u (by simp [hu])) h2 (fun q hq => hs q (by simp [hq])), rfl⟩
/-- the answer of a law: true, and what is read of the arguments is as it was -/
theorem post_true {f : Func} {s : ChangeSpec} {apart fresh handsOn again : Bool} {args : Array Value} {ds gs : List (DataW H)} {before : List MemPlace} {tb : TypeId}
    (hW : DataW.Whole enc P f.params.toList s.vars apart W args.toList ds gs before) (hv : s.vars = []) (hr : f.resultTypes = #[tb]) (ht : P.underlying tb = some .bool)
    (hfn : s.fn H ds = { results := [.lit (.bool true)], args := ds }) (hb : Below W.heap.size W W') {L : List TypeId} (hz : closedB P L = true) (hl : f.params.toList.all L.contains = true) :
    s.post enc P f apart fresh handsOn again W args (.bool true) W' := by
  have hlt := hW.lt
  have hl : ∀ t ∈ f.params.toList, t ∈ L := fun t ht => by have := List.all_eq_true.1 hl t ht; simpa using this
  obtain ⟨p, q, hA, hV, rfl, hfz, hnd⟩ := hW
  have hV' := hV
  rw [hv] at hV'
  obtain ⟨rfl, rfl⟩ := trodVars_none hV'
  simp only [List.append_nil] at hlt hfz hnd ⊢
  have hold : ∀ x ∈ p, (fun b => decide (b < W.heap.size)) x.block = true := fun x hx => by simpa using hlt x hx
  have hW0 : DataW.Whole enc P f.params.toList s.vars apart W args.toList ds [] p := ⟨p, [], hA, hV, by simp, hfz, hnd⟩
  have hres : ∀ (b : Nat) (sp : Nat → Bool) (hd : Bool), DataW.TrodAll enc P W' b sp hd f.resultTypes.toList ((Value.bool true).resultList f.resultTypes.size) [.lit (.bool true)] [] := by
    intro b sp hd
    rw [hr]
    exact ⟨[], [], shut_bool ht true, rfl, rfl⟩
  have hok : ∀ (j : Nat) (t : TypeId) (r : Value), f.resultTypes[j]? = some t → ((Value.bool true).resultList f.resultTypes.size)[j]? = some r → Value.okWide P W' .any 0 t r := by
    exact ok_one hr rfl (okWide_bool_mk ht true)
  have hvars : ∀ sp : Nat → Bool, DataW.TrodVars enc P W' sp s.vars [] [] := fun sp => by rw [hv]; rfl
  have hfn : s.fn H (ds ++ []) = { results := [.lit (.bool true)], args := ds } := by rw [List.append_nil]; exact hfn
  refine ⟨ds, [], p, [], p, [], hW0, ?_, ?_, ?_, World.keptBut_mono (fun x hx => ⟨hx, .inr (.inl hx)⟩) (hb.frame (· ∈ p)), fun _ => ?_⟩
  · rw [hfn]; exact hres _ _ _
  · rw [hfn]; exact TrodAll_below hb hz hl hA hold
  · rw [hfn]; exact hvars _
  · refine ⟨hok, _, _, ([] ++ p) ++ [], ⟨[] ++ p, [], trodAll_append (TrodAll_below hb hz hl hA (fun _ _ => rfl)) (hres _ _ _), hvars _, rfl, ?_, ?_⟩, ?_⟩
    · intro b off hp
      have hp : MemPlace.cell b off ∈ p := by simpa using hp
      rw [hb.frozen (show b < W.heap.size from hlt _ hp)]
      exact hfz b off hp
    · intro ha
      simpa using hnd ha
    · intro x hx _
      simpa using hx
end
end Go.Det
end
section
namespace Go.Pe
open Go.Det Go.RowKit
noncomputable section
open Go.Proofs.Tryz (prog)
theorem res_true {F' : Fz} {v : V} (h : PC F' (.dat .bool true) v) : v = .bool true := by
  have := h (fun _ => none) 0
  simp only [PR, DC] at this
  simpa using this
end
end Go.Pe
end
