import Derived.Test.YtnbinppdjnlhpaaGreatDoorX24
/- A part of the proofs of the laws of one chapter (no law is stated here). Made by program out of texts by AI agents. -/
section
/- What Run computes. -/
namespace Go.Sp
def runAcc : List (List (List UInt8)) → List (List UInt8) → List (List (List UInt8)) → List (List (List UInt8)) × Int
  | out, _, [] => (out, 0)
  | out, s, q :: r => if roundE s q = 0 then runAcc (out ++ [winners q s]) (winners q s) r else ([], roundE s q)
def Run (l : List (List UInt8)) (qs : List (List (List UInt8))) : List (List (List UInt8)) × Int :=
  if playersE l ≠ 0 then ([], playersE l) else
  if (Draw l).1.length / 2 ^ qs.length = 0 then ([], 20) else runAcc [(Draw l).1] (Draw l).1 qs
def okQ (l : List (List UInt8)) (qs : List (List (List UInt8))) : Bool := okN l && decide (qs.length ≤ 8) && qs.all okN
end Go.Sp
namespace Go.Pe
open Go.Det
noncomputable section
noncomputable def cRun : PSpec := ⟨[lstr, .list lstr], fun i => Sp.okQ i.1 i.2, [.list lstr, i64], fun i => Sp.Run i.1 i.2, false⟩
noncomputable def X85 : PCtx := X7 [(17, cAwake), (36, cDraw), (37, cAdv), (38, cPlayers), (39, cRoundE), (40, cDrawR), (41, cAdvR), (42, cSameN), (35, cShortN)]
noncomputable def X86 : PCtx := X7 [(17, cAwake), (63, cRun), (64, cRun), (42, cSameN), (35, cShortN)]
end
end Go.Pe
end
section
/- Decision trees, by program. -/
namespace Go.Pe
open Go.Det
namespace T63
noncomputable def T (l : List (List UInt8)) (q : List (List (List UInt8))) : Tr := tree X85 false 9 63 (valsOf ([Sh.list Sh.str, Sh.list (Sh.list Sh.str)]) (l, q))
/-- function 63, region 8 -/
noncomputable def L1 (v6 : List (List UInt8)) (v8n : Nat) (v27 : List (List (List UInt8))) (v28 : Int) (v29 : Int) (o0 : List (List (List UInt8))) : Tr := re ((T [] []).L.R.L.R) (mkSt (48) [(6, PV.dat (Sh.list Sh.str) v6), (8, PV.sl (0) (1) (0) v8n none), (27, PV.dat (Sh.list (Sh.list Sh.str)) v27), (28, PV.dat (Sh.int IntKind.i64) v28), (29, PV.dat (Sh.int IntKind.i64) v29)] [(0, Obj.arr false (51) (Sh.list Sh.str) o0)] (1))
theorem T_eq (l : List (List UInt8)) (q : List (List (List UInt8))) : T l q = .ite (Sp.okN l)
 (.ite (Prod.snd (Sp.Draw l) != (0 : Int))
  (.leaf (PV.tup [PV.nil, PV.dat (Sh.int IntKind.i64) (Prod.snd (Sp.Draw l))]) ([]))
  (.ite (decide ((0 : Int) ≤ (↑(List.length q) : Int)))
   (.ite (Int.fdiv (↑(List.length (Prod.fst (Sp.Draw l))) : Int) ((2 : Int) ^ Min.min (Int.toNat (↑(List.length q) : Int)) (64 : Nat)) == (0 : Int))
    (.leaf (PV.tup [PV.nil, PV.dat (Sh.int IntKind.i64) (20 : Int)]) ([]))
    (L1 (Prod.fst (Sp.Draw l)) ((1 : Nat)) q ((↑(List.length q) : Int)) ((0 : Int)) ([Prod.fst (Sp.Draw l)])))
   (.fail)))
 (.fail) := by kernel_rfl
theorem L1_eq (v6 : List (List UInt8)) (v8n : Nat) (v27 : List (List (List UInt8))) (v28 : Int) (v29 : Int) (o0 : List (List (List UInt8))) : stepT X85 (L1 v6 v8n v27 v28 v29 o0) = .ite (decide (v29 < v28))
 (.ite (decide ((0 : Int) ≤ v29) && decide (v29 < (↑(List.length v27) : Int)))
  (.ite (Sp.okN v6 && Sp.okN (List.getD v27 (Int.toNat v29) []))
   (.ite (Prod.snd (Sp.Advance v6 (List.getD v27 (Int.toNat v29) [])) != (0 : Int))
    (.leaf (PV.tup [PV.nil, PV.dat (Sh.int IntKind.i64) (Prod.snd (Sp.Advance v6 (List.getD v27 (Int.toNat v29) [])))]) ([(0, Obj.arr false (51) (Sh.list Sh.str) o0)]))
    (.ite (decide ((1 : Nat) ≤ (1 : Nat)) && true && decide (v8n = List.length o0) && decide (((2 : Nat) * (v8n + (1 : Nat)) + (1000 : Nat)) * (24 : Nat) ≤ (281474976710656 : Nat)))
     (L1 (Prod.fst (Sp.Advance v6 (List.getD v27 (Int.toNat v29) []))) (Nat.add v8n (1 : Nat)) v27 v28 (IntKind.wrap IntKind.i64 (v29 + (1 : Int))) (o0 ++ [Prod.fst (Sp.Advance v6 (List.getD v27 (Int.toNat v29) []))]))
     (.fail)))
   (.fail))
  (.fail))
 (.leaf (PV.tup [PV.sl (0) (1) (0) v8n none, PV.dat (Sh.int IntKind.i64) (0 : Int)]) ([(0, Obj.arr false (51) (Sh.list Sh.str) o0)])) := by kernel_rfl
end T63
namespace T64
noncomputable def T (l : List (List UInt8)) (q : List (List (List UInt8))) : Tr := tree X85 false 9 64 (valsOf ([Sh.list Sh.str, Sh.list (Sh.list Sh.str)]) (l, q))
/-- function 64, region 8 -/
noncomputable def L1 (v1 : List (List (List UInt8))) (v7 : List (List UInt8)) (v8n : Nat) (v9 : Int) (v10 : Int) (o0 : List (List (List UInt8))) : Tr := re ((T [] []).L.R.L) (mkSt (59) [(1, PV.dat (Sh.list (Sh.list Sh.str)) v1), (7, PV.dat (Sh.list Sh.str) v7), (8, PV.sl (0) (1) (0) v8n none), (9, PV.dat (Sh.int IntKind.i64) v9), (10, PV.dat (Sh.int IntKind.i64) v10)] [(0, Obj.arr false (51) (Sh.list Sh.str) o0)] (1))
theorem T_eq (l : List (List UInt8)) (q : List (List (List UInt8))) : T l q = .ite (Sp.okN l)
 (.ite (Sp.playersE l != (0 : Int))
  (.leaf (PV.tup [PV.nil, PV.dat (Sh.int IntKind.i64) (Sp.playersE l)]) ([]))
  (.ite (decide ((1 : Nat) ≤ List.length l) && decide (List.length l ≤ (200 : Nat)))
   (L1 q (List.map (Sp.seat l) (Sp.bracket (↑(List.length l) : Int))) ((1 : Nat)) ((0 : Int)) ((↑(List.length (List.map (Sp.seat l) (Sp.bracket (↑(List.length l) : Int)))) : Int)) ([List.map (Sp.seat l) (Sp.bracket (↑(List.length l) : Int))]))
   (.fail)))
 (.fail) := by kernel_rfl
/-- function 64, region 14 -/
noncomputable def L2 (v1 : List (List (List UInt8))) (v7 : List (List UInt8)) (v8n : Nat) (v11 : Int) (o0 : List (List (List UInt8))) : Tr := re ((stepT X85 (L1 [] [] 0 (0 : Int) (0 : Int) [])).R.R) (mkSt (59) [(1, PV.dat (Sh.list (Sh.list Sh.str)) v1), (7, PV.dat (Sh.list Sh.str) v7), (8, PV.sl (0) (1) (0) v8n none), (11, PV.dat (Sh.int IntKind.i64) v11)] [(0, Obj.arr false (51) (Sh.list Sh.str) o0)] (1))
theorem L1_eq (v1 : List (List (List UInt8))) (v7 : List (List UInt8)) (v8n : Nat) (v9 : Int) (v10 : Int) (o0 : List (List (List UInt8))) : stepT X85 (L1 v1 v7 v8n v9 v10 o0) = .ite (decide (v10 > (1 : Int)))
 (.ite (true)
  (L1 v1 v7 v8n (IntKind.wrap IntKind.i64 (v9 + (1 : Int))) (IntKind.wrap IntKind.i64 (Int.tdiv v10 (2 : Int))) o0)
  (.fail))
 (.ite (decide ((↑(List.length v1) : Int) > v9))
  (.leaf (PV.tup [PV.nil, PV.dat (Sh.int IntKind.i64) (20 : Int)]) ([(0, Obj.arr false (51) (Sh.list Sh.str) o0)]))
  (L2 v1 v7 v8n ((0 : Int)) o0)) := by kernel_rfl
theorem L2_eq (v1 : List (List (List UInt8))) (v7 : List (List UInt8)) (v8n : Nat) (v11 : Int) (o0 : List (List (List UInt8))) : stepT X85 (L2 v1 v7 v8n v11 o0) = .ite (decide (v11 < (↑(List.length v1) : Int)))
 (.ite (decide ((0 : Int) ≤ v11) && decide (v11 < (↑(List.length v1) : Int)))
  (.ite (Sp.okN v7 && Sp.okN (List.getD v1 (Int.toNat v11) []))
   (.ite (Sp.roundE v7 (List.getD v1 (Int.toNat v11) []) != (0 : Int))
    (.leaf (PV.tup [PV.nil, PV.dat (Sh.int IntKind.i64) (Sp.roundE v7 (List.getD v1 (Int.toNat v11) []))]) ([(0, Obj.arr false (51) (Sh.list Sh.str) o0)]))
    (.ite (decide ((0 : Int) ≤ v11) && decide (v11 < (↑(List.length v1) : Int)))
     (.ite (Sp.okN v7 && Sp.okN (List.getD v1 (Int.toNat v11) []) && decide (List.length v7 % (2 : Nat) = (0 : Nat)))
      (.ite (decide ((1 : Nat) ≤ (1 : Nat)) && true && decide (v8n = List.length o0) && decide (((2 : Nat) * (v8n + (1 : Nat)) + (1000 : Nat)) * (24 : Nat) ≤ (281474976710656 : Nat)))
       (L2 v1 (Sp.winnersR (List.getD v1 (Int.toNat v11) []) v7) (Nat.add v8n (1 : Nat)) (IntKind.wrap IntKind.i64 (v11 + (1 : Int))) (o0 ++ [Sp.winnersR (List.getD v1 (Int.toNat v11) []) v7]))
       (.fail))
      (.fail))
     (.fail)))
   (.fail))
  (.fail))
 (.leaf (PV.tup [PV.sl (0) (1) (0) v8n none, PV.dat (Sh.int IntKind.i64) (0 : Int)]) ([(0, Obj.arr false (51) (Sh.list Sh.str) o0)])) := by kernel_rfl
end T64
namespace T12
noncomputable def T (l : List (List UInt8)) (q : List (List (List UInt8))) : Tr := tree X86 false 9 12 (valsOf ([Sh.list Sh.str, Sh.list (Sh.list Sh.str)]) (l, q))
/-- function 12, region 4 -/
noncomputable def L1 (v0 : List (List UInt8)) (v1 : List (List (List UInt8))) (v21 : List (List (List UInt8))) (v22 : Int) (v23 : Int) : Tr := re ((T [] []).L.R.R) (mkSt (71) [(0, PV.dat (Sh.list Sh.str) v0), (1, PV.dat (Sh.list (Sh.list Sh.str)) v1), (21, PV.dat (Sh.list (Sh.list Sh.str)) v21), (22, PV.dat (Sh.int IntKind.i64) v22), (23, PV.dat (Sh.int IntKind.i64) v23)] [] (0))
theorem T_eq (l : List (List UInt8)) (q : List (List (List UInt8))) : T l q = .ite (true)
 (.ite (!Sp.shortNames l (12 : Int))
  (.ite (true)
   (.leaf (PV.dat Sh.bool true) ([]))
   (.fail))
  (.ite (decide ((↑(List.length q) : Int) > (8 : Int)))
   (.ite (true)
    (.leaf (PV.dat Sh.bool true) ([]))
    (.fail))
   (L1 l q q ((↑(List.length q) : Int)) ((0 : Int)))))
 (.fail) := by kernel_rfl
/-- function 12, region 14 -/
noncomputable def L2 (v7 : List (List (List UInt8))) (v9 : List (List (List UInt8))) (v55 : Int) (v56 : Int) : Tr := re ((stepT X86 (L1 [] [] [] (0 : Int) (0 : Int))).R.L.L.R.R) (mkSt (71) [(7, PV.dat (Sh.list (Sh.list Sh.str)) v7), (9, PV.dat (Sh.list (Sh.list Sh.str)) v9), (55, PV.dat (Sh.int IntKind.i64) v55), (56, PV.dat (Sh.int IntKind.i64) v56)] [] (0))
theorem L1_eq (v0 : List (List UInt8)) (v1 : List (List (List UInt8))) (v21 : List (List (List UInt8))) (v22 : Int) (v23 : Int) : stepT X86 (L1 v0 v1 v21 v22 v23) = .ite (decide (v23 < v22))
 (.ite (decide ((0 : Int) ≤ v23) && decide (v23 < (↑(List.length v21) : Int)))
  (.ite (true)
   (.ite (!Sp.shortNames (List.getD v21 (Int.toNat v23) []) (12 : Int))
    (.ite (true)
     (.leaf (PV.dat Sh.bool true) ([]))
     (.fail))
    (L1 v0 v1 v21 v22 (IntKind.wrap IntKind.i64 (v23 + (1 : Int)))))
   (.fail))
  (.fail))
 (.ite (Sp.okQ v0 v1)
  (.ite (Sp.okQ v0 v1)
   (.ite (Prod.snd (Sp.Run v0 v1) != Prod.snd (Sp.Run v0 v1))
    (.leaf (PV.bl false) ([]))
    (.ite ((↑(List.length (Prod.fst (Sp.Run v0 v1))) : Int) != (↑(List.length (Prod.fst (Sp.Run v0 v1))) : Int))
     (.leaf (PV.bl false) ([]))
     (L2 (Prod.fst (Sp.Run v0 v1)) (Prod.fst (Sp.Run v0 v1)) ((↑(List.length (Prod.fst (Sp.Run v0 v1))) : Int)) ((0 : Int)))))
   (.fail))
  (.fail)) := by kernel_rfl
theorem L2_eq (v7 : List (List (List UInt8))) (v9 : List (List (List UInt8))) (v55 : Int) (v56 : Int) : stepT X86 (L2 v7 v9 v55 v56) = .ite (decide (v56 < v55))
 (.ite (decide ((0 : Int) ≤ v56) && decide (v56 < (↑(List.length v7) : Int)))
  (.ite (decide ((0 : Int) ≤ v56) && decide (v56 < (↑(List.length v9) : Int)))
   (.ite (decide (List.length (List.getD v7 (Int.toNat v56) []) ≤ (1000000 : Nat)))
    (.ite (!Sp.sameN (List.getD v7 (Int.toNat v56) []) (List.getD v9 (Int.toNat v56) []))
     (.leaf (PV.bl false) ([]))
     (L2 v7 v9 v55 (IntKind.wrap IntKind.i64 (v56 + (1 : Int)))))
    (.fail))
   (.fail))
  (.fail))
 (.ite (true)
  (.leaf (PV.dat Sh.bool true) ([]))
  (.fail)) := by kernel_rfl
end T12
end Go.Pe
end
section
/- Run of both sides, and the law EventRuns. -/
namespace Go.Pe
open Go.Det
theorem hallX85 : ∀ g sp, X85.sp g = some sp → SpecOk C7p g sp := hallX84
theorem grow_pow {n : Int} : ∀ (f : Nat) (l : List Int), (∃ k, l.length = 2 ^ k) → ∃ k, (Sp.grow f n l).length = 2 ^ k
  | 0, l, h => h
  | f + 1, l, ⟨k, h⟩ => by
    unfold Sp.grow
    split
    · exact grow_pow f _ ⟨k + 1, by unfold Sp.expand; rw [exp_len, h, Nat.pow_succ]; omega⟩
    · exact ⟨k, h⟩
theorem bracket_256 {n : Int} (hn : n ≤ 200) : 1 ≤ (Sp.bracket n).length ∧ (Sp.bracket n).length ≤ 256 := by
  obtain ⟨k, h⟩ := grow_pow (n := n) 8 [1] ⟨0, rfl⟩
  have h2 := bracket_len hn
  have h3 : (Sp.bracket n).length = 2 ^ k := by rw [← h]; simp [Sp.bracket, Sp.strike]
  rw [h3] at h2 ⊢
  have hk : k ≤ 8 := by
    rcases Nat.lt_or_ge 8 k with h | h
    · have := Nat.pow_le_pow_right (n := 2) (by omega) h; omega
    · exact h
  exact ⟨Nat.one_le_two_pow, Nat.pow_le_pow_right (n := 2) (by omega) hk⟩
theorem all_seat {l : List (List UInt8)} (hl : l.all (fun s => decide (s.length ≤ 40)) = true) (s : Int) : (Sp.seat l s).length ≤ 40 := by
  unfold Sp.seat
  split
  · rcases Nat.lt_or_ge (s - 1).toNat l.length with h | h
    · have := List.all_eq_true.1 hl (l[(s - 1).toNat]'h) (List.getElem_mem h)
      unfold List.getD
      rw [List.getElem?_eq_getElem h]
      exact of_decide_eq_true this
    · unfold List.getD
      rw [List.getElem?_eq_none h]; simp
  · simp
theorem okN_draw {l : List (List UInt8)} (hl : Sp.okN l = true) (he : Sp.playersE l = 0) : Sp.okN (Sp.Draw l).1 = true := by
  rw [Draw_1 he]
  have h2 := playersE_len he
  have h3 := (bracket_256 (n := (l.length : Int)) (by omega)).2
  unfold Sp.okN at hl ⊢
  rw [Bool.and_eq_true] at hl ⊢
  refine ⟨by simp; omega, ?_⟩
  rw [List.all_map, List.all_eq_true]
  intro s _
  have := all_seat hl.2 s
  simpa using this
theorem winners_all (q : List (List UInt8)) : ∀ l : List (List UInt8), (l.all fun s => decide (s.length ≤ 40)) = true → ((Sp.winners q l).all fun s => decide (s.length ≤ 40)) = true
  | [], _ => rfl
  | [_], _ => rfl
  | a :: b :: r, h => by
    simp only [List.all_cons, Bool.and_eq_true, decide_eq_true_eq] at h
    have := winners_all q r h.2.2
    simp only [Sp.winners, List.all_cons, Bool.and_eq_true, decide_eq_true_eq]
    refine ⟨?_, this⟩
    split
    · exact h.1
    · split
      · exact h.2.1
      · simp
theorem okN_winners {q l : List (List UInt8)} (hl : Sp.okN l = true) : Sp.okN (Sp.winners q l) = true := by
  unfold Sp.okN at hl ⊢
  rw [Bool.and_eq_true] at hl ⊢
  have := winners_len q l
  exact ⟨by have := hl.1; simp at this ⊢; omega, winners_all q l hl.2⟩
theorem Adv_1w {l q : List (List UInt8)} (h : Sp.roundE l q = 0) : (Sp.Advance l q).1 = Sp.winners q l := by
  unfold Sp.Advance; rw [if_neg (by simpa using h)]
theorem okQ_of {l : List (List UInt8)} {qs : List (List (List UInt8))} (h : Sp.okQ l qs = true) : Sp.okN l = true ∧ qs.length ≤ 8 ∧ ∀ q ∈ qs, Sp.okN q = true := by
  unfold Sp.okQ at h
  simp only [Bool.and_eq_true, decide_eq_true_eq, List.all_eq_true] at h
  exact ⟨h.1.1, h.1.2, h.2⟩
theorem Run_1 {l : List (List UInt8)} {qs : List (List (List UInt8))} (h : ¬ Sp.playersE l = 0) : Sp.Run l qs = ([], Sp.playersE l) := by
  unfold Sp.Run; rw [if_pos h]
theorem Run_2 {l : List (List UInt8)} {qs : List (List (List UInt8))} (h : Sp.playersE l = 0) (h2 : (Sp.Draw l).1.length / 2 ^ qs.length = 0) : Sp.Run l qs = ([], 20) := by
  unfold Sp.Run; rw [if_neg (by simpa using h), if_pos h2]
theorem Run_3 {l : List (List UInt8)} {qs : List (List (List UInt8))} (h : Sp.playersE l = 0) (h2 : ¬ (Sp.Draw l).1.length / 2 ^ qs.length = 0) : Sp.Run l qs = Sp.runAcc [(Sp.Draw l).1] (Sp.Draw l).1 qs := by
  unfold Sp.Run; rw [if_neg (by simpa using h), if_neg h2]
namespace T63
variable {Q : PV → Ob → Prop}
theorem L1_ends (qs : List (List (List UInt8))) (hqs : ∀ q ∈ qs, Sp.okN q = true) (w : List (List (List UInt8)) × Int) (hl : qs.length ≤ 8)
    (hq0 : w.2 ≠ 0 → w.1 = [] → ∀ ob, Q (.tup [.nil, .dat i64 w.2]) ob)
    (hq1 : ∀ ob tail, w.2 = 0 → ob = (0, Obj.arr false 51 (.list .str) w.1) :: tail → Q (.tup [.sl 0 1 0 w.1.length none, .dat i64 0]) ob) :
    ∀ (r : List (List (List UInt8))) (i : Nat) (s : List (List UInt8)) (acc : List (List (List UInt8))), qs.drop i = r → i ≤ qs.length → Sp.okN s = true → acc.length ≤ i + 1 → Sp.runAcc acc s r = w →
      Ends X85 (L1 s acc.length qs qs.length i acc) Q
  | [], i, s, acc, h, hi, hs, ha, hw => by
    have := drop_nil h hi
    subst hw
    exact Ends.steq (L1_eq ..) (Ends.ff (by simp; omega) (Ends.leaf (hq1 _ [] rfl rfl)))
  | q :: r, i, s, acc, h, hi, hs, ha, hw => by
    obtain ⟨h1, h2, h3⟩ := drop_cons (d := []) h
    have hqo := hqs q (mem_drop h)
    refine Ends.steq (L1_eq ..) (Ends.tt (by simp; omega) (Ends.tt (by simp; omega) ?_))
    simp only [Int.toNat_natCast, h2]
    rw [wr ((i : Int) + 1) (by omega) (by omega)]
    refine Ends.tt (by rw [hs, hqo]; rfl) ?_
    unfold Sp.runAcc at hw
    by_cases he : Sp.roundE s q = 0
    · rw [if_pos he] at hw
      refine Ends.ff (by rw [Adv_2, he]; rfl) (Ends.tt (by simp; omega) ?_)
      rw [Adv_1w he]
      have e : Nat.add acc.length 1 = (acc ++ [Sp.winners q s]).length := by simp
      rw [e]
      exact L1_ends qs hqs w hl hq0 hq1 r (i + 1) _ _ h3 h1 (okN_winners hs) (by simp; omega) hw
    · rw [if_neg he] at hw
      subst hw
      rw [Adv_2]
      exact Ends.tt (by simpa using he) (Ends.leaf (hq0 he rfl _))
theorem ok : SpecOk C7p 63 cRun := by
  refine spec7 (X := X85) rfl hallX85 (d := 9) (by kernel_rfl) (by kernel_rfl) (by kernel_rfl) (fun (i : List (List UInt8) × List (List (List UInt8))) hi => ?_) (isSome_ex (by kernel_rfl))
  obtain ⟨l, qs⟩ := i
  obtain ⟨hl, h8, hqs⟩ := okQ_of (l := l) (qs := qs) hi
  refine Ends.eq (T_eq l qs) (Ends.tt hl ?_)
  by_cases he : Sp.playersE l = 0
  · refine Ends.ff (by rw [Draw_2, he]; rfl) (Ends.tt (by simp) ?_)
    have h2 := playersE_len he
    have hfd : Int.fdiv ((Sp.Draw l).1.length : Int) ((2 : Int) ^ min (Int.toNat (qs.length : Int)) 64) = (((Sp.Draw l).1.length / 2 ^ qs.length : Nat) : Int) := by
      have e1 : min (Int.toNat (qs.length : Int)) 64 = qs.length := by simp; omega
      rw [e1, Int.fdiv_eq_ediv_of_nonneg _ (Int.le_of_lt (Int.pow_pos (by omega)))]
      push_cast; rfl
    rw [hfd]
    by_cases h0 : (Sp.Draw l).1.length / 2 ^ qs.length = 0
    · refine Ends.tt (by rw [h0]; rfl) (Ends.leaf ⟨([], 20), rfl, ?_⟩)
      exact (Run_2 he h0).symm
    · refine Ends.ff (by rw [beq_eq_false_iff_ne]; exact fun e => h0 (Int.ofNat_inj.1 e)) ?_
      refine L1_ends qs hqs (Sp.Run l qs) h8 ?_ ?_ qs 0 _ [(Sp.Draw l).1] rfl (by omega) (okN_draw hl he) (by simp) (Run_3 he h0).symm
      · intro h1 h2 ob
        exact ⟨([], (Sp.Run l qs).2), rfl, by show _ = Sp.Run l qs; rw [← h2]⟩
      · rintro ob tail h1 rfl
        exact ⟨((Sp.Run l qs).1, 0), res2_sl rfl rfl, by show _ = Sp.Run l qs; rw [← h1]⟩
  · refine Ends.tt (by rw [Draw_2]; simpa using he) (Ends.leaf ⟨([], Sp.playersE l), by rw [Draw_2]; rfl, (Run_1 he).symm⟩)
end T63
namespace T64
variable {Q : PV → Ob → Prop}
theorem L2_ends (qs : List (List (List UInt8))) (hqs : ∀ q ∈ qs, Sp.okN q = true) (w : List (List (List UInt8)) × Int) (hl : qs.length ≤ 8)
    (hq0 : w.2 ≠ 0 → w.1 = [] → ∀ ob, Q (.tup [.nil, .dat i64 w.2]) ob)
    (hq1 : ∀ ob tail, w.2 = 0 → ob = (0, Obj.arr false 51 (.list .str) w.1) :: tail → Q (.tup [.sl 0 1 0 w.1.length none, .dat i64 0]) ob) :
    ∀ (r : List (List (List UInt8))) (i : Nat) (s : List (List UInt8)) (acc : List (List (List UInt8))), qs.drop i = r → i ≤ qs.length → Sp.okN s = true → acc.length ≤ i + 1 → Sp.runAcc acc s r = w →
      Ends X85 (L2 qs s acc.length i acc) Q
  | [], i, s, acc, h, hi, hs, ha, hw => by
    have := drop_nil h hi
    subst hw
    exact Ends.steq (L2_eq ..) (Ends.ff (by simp; omega) (Ends.leaf (hq1 _ [] rfl rfl)))
  | q :: r, i, s, acc, h, hi, hs, ha, hw => by
    obtain ⟨h1, h2, h3⟩ := drop_cons (d := []) h
    have hqo := hqs q (mem_drop h)
    refine Ends.steq (L2_eq ..) (Ends.tt (by simp; omega) (Ends.tt (by simp; omega) ?_))
    simp only [Int.toNat_natCast, h2]
    rw [wr ((i : Int) + 1) (by omega) (by omega)]
    refine Ends.tt (by rw [hs, hqo]; rfl) ?_
    unfold Sp.runAcc at hw
    by_cases he : Sp.roundE s q = 0
    · rw [if_pos he] at hw
      have hev := slots2_of he
      refine Ends.ff (by rw [he]; rfl) (Ends.tt (by simp; omega) (Ends.tt (by rw [hs, hqo, decide_eq_true hev.1]; rfl) (Ends.tt (by simp; omega) ?_)))
      rw [← Sp.winners_eq hev.2]
      have e : Nat.add acc.length 1 = (acc ++ [Sp.winners q s]).length := by simp
      rw [e]
      exact L2_ends qs hqs w hl hq0 hq1 r (i + 1) _ _ h3 h1 (okN_winners hs) (by simp; omega) hw
    · rw [if_neg he] at hw
      subst hw
      exact Ends.tt (by simpa using he) (Ends.leaf (hq0 he rfl _))
theorem L1_ends (qs : List (List (List UInt8))) (s : List (List UInt8)) (ob : List (List (List UInt8))) (hl : qs.length ≤ 8) (k : Nat) :
    ∀ (f n i : Nat), n ≤ f → 1 ≤ n → n ≤ 256 → i ≤ 1000 → (n ≠ 0 → i + n.log2 = k) →
      ((qs.length ≤ k → Ends X85 (L2 qs s 1 0 ob) Q)) → (k < qs.length → ∀ ob, Q (.tup [.nil, .dat i64 20]) ob) → k ≤ 1000 →
      Ends X85 (L1 qs s 1 i n ob) Q
  | 0, n, i, hf, h1, _, _, _, _, _, _ => by omega
  | f + 1, n, i, hf, h1, h2, hi, hk, hy, hn, hk' => by
    refine Ends.steq (L1_eq ..) ?_
    have hk := hk (by omega)
    by_cases hg : n = 1
    · subst hg
      have : k = i := hk.symm
      subst this
      refine Ends.ff (by simp) ?_
      by_cases hc : k < qs.length
      · exact Ends.tt (by simp; omega) (Ends.leaf (hn hc _))
      · exact Ends.ff (by simp; omega) (hy (by omega))
    · refine Ends.tt (by simp; omega) (Ends.tt rfl ?_)
      have e : Int.tdiv (n : Int) 2 = ((n / 2 : Nat) : Int) := by rw [Int.tdiv_eq_ediv_of_nonneg (by omega)]; push_cast; rfl
      rw [wr ((i : Int) + 1) (by omega) (by omega), e, wr _ (by omega) (by omega)]
      have e2 : n.log2 = (n / 2).log2 + 1 := by rw [Nat.log2_def, if_pos (by omega)]
      refine L1_ends qs s ob hl k f (n / 2) (i + 1) (by omega) (by omega) (by omega) ?_ (fun _ => ?_) hy hn hk'
      · omega
      · omega
theorem ok : SpecOk C7p 64 cRun := by
  refine spec7 (X := X85) rfl hallX85 (d := 9) (by kernel_rfl) (by kernel_rfl) (by kernel_rfl) (fun (i : List (List UInt8) × List (List (List UInt8))) hi => ?_) (isSome_ex (by kernel_rfl))
  obtain ⟨l, qs⟩ := i
  obtain ⟨hl, h8, hqs⟩ := okQ_of (l := l) (qs := qs) hi
  refine Ends.eq (T_eq l qs) (Ends.tt hl ?_)
  by_cases he : Sp.playersE l = 0
  · have h2 := playersE_len he
    refine Ends.ff (by rw [he]; rfl) (Ends.tt (by simp; omega) ?_)
    have h3 := bracket_256 (n := (l.length : Int)) (by omega)
    have ho := okN_draw hl he
    have hd := Draw_1 he
    rw [← hd]
    have hb : 1 ≤ (Sp.Draw l).1.length ∧ (Sp.Draw l).1.length ≤ 256 := by rw [hd]; simpa using h3
    have hlog : (Sp.Draw l).1.length.log2 < 9 := (Nat.log2_lt (by omega)).2 (by omega)
    refine L1_ends qs (Sp.Draw l).1 [(Sp.Draw l).1] h8 (Sp.Draw l).1.length.log2 256 (Sp.Draw l).1.length 0 (by omega) hb.1 hb.2 (by omega) (by omega) ?_ ?_ (by omega)
    · intro hle
      have h0 : ¬ (Sp.Draw l).1.length / 2 ^ qs.length = 0 := by
        rw [Nat.div_eq_zero_iff_lt (Nat.two_pow_pos _), ← Nat.log2_lt (by omega)]; omega
      refine L2_ends qs hqs (Sp.Run l qs) h8 ?_ ?_ qs 0 _ [(Sp.Draw l).1] rfl (by omega) (okN_draw hl he) (by simp) (Run_3 he h0).symm
      · intro h1 h2 ob
        exact ⟨([], (Sp.Run l qs).2), rfl, by show _ = Sp.Run l qs; rw [← h2]⟩
      · rintro ob tail h1 rfl
        exact ⟨((Sp.Run l qs).1, 0), res2_sl rfl rfl, by show _ = Sp.Run l qs; rw [← h1]⟩
    · intro hlt ob
      have h0 : (Sp.Draw l).1.length / 2 ^ qs.length = 0 := by
        rw [Nat.div_eq_zero_iff_lt (Nat.two_pow_pos _), ← Nat.log2_lt (by omega)]; omega
      exact ⟨([], 20), rfl, (Run_2 he h0).symm⟩
  · exact Ends.tt (by simpa using he) (Ends.leaf ⟨([], Sp.playersE l), rfl, (Run_1 he).symm⟩)
end T64
theorem runAcc_len : ∀ (r : List (List (List UInt8))) (s : List (List UInt8)) (acc : List (List (List UInt8))), Sp.okN s = true → (∀ x ∈ acc, Sp.okN x = true) → (Sp.runAcc acc s r).1.length ≤ acc.length + r.length ∧ ∀ x ∈ (Sp.runAcc acc s r).1, Sp.okN x = true
  | [], s, acc, hs, ha => ⟨by simp [Sp.runAcc], ha⟩
  | q :: r, s, acc, hs, ha => by
    unfold Sp.runAcc
    split
    · have := runAcc_len r (Sp.winners q s) (acc ++ [Sp.winners q s]) (okN_winners hs) (by
        intro x hx
        rcases List.mem_append.1 hx with h | h
        · exact ha x h
        · rw [List.mem_singleton.1 h]; exact okN_winners hs)
      exact ⟨by have := this.1; simp at this ⊢; omega, this.2⟩
    · simp
theorem Run_len {l : List (List UInt8)} {qs : List (List (List UInt8))} (hl : Sp.okN l = true) : (Sp.Run l qs).1.length ≤ 1 + qs.length ∧ ∀ x ∈ (Sp.Run l qs).1, Sp.okN x = true := by
  unfold Sp.Run
  split
  · simp
  · rename_i h
    split
    · simp
    · have h : Sp.playersE l = 0 := by simpa using h
      have := runAcc_len qs (Sp.Draw l).1 [(Sp.Draw l).1] (okN_draw hl h) (by simpa using okN_draw hl h)
      simpa using this
theorem hallX86 : ∀ g sp, X86.sp g = some sp → SpecOk C7p g sp :=
  sp_cons awake_ok (sp_cons T63.ok (sp_cons T64.ok (sp_cons T42.ok (sp_cons T35.ok (fun g sp h => by cases h)))))
noncomputable def cEventRuns : PSpec := ⟨[lstr, .list lstr], fun _ => true, [.bool], fun _ => true, false⟩
namespace T12
variable {Q : PV → Ob → Prop}
theorem L2_ends (w : List (List (List UInt8))) (hw : ∀ x ∈ w, Sp.okN x = true) (hl : w.length ≤ 1000) (hq : ∀ ob, Q (.dat .bool true) ob) : ∀ (r : List (List (List UInt8))) (i : Nat), w.drop i = r → i ≤ w.length → Ends X86 (L2 w w w.length i) Q
  | [], i, h, hi => by
    have := drop_nil h hi
    exact Ends.steq (L2_eq ..) (Ends.ff (by simp; omega) (Ends.tt rfl (Ends.leaf (hq _))))
  | q :: r, i, h, hi => by
    obtain ⟨h1, h2, h3⟩ := drop_cons (d := []) h
    have hqo := okN_len (hw q (mem_drop h))
    refine Ends.steq (L2_eq ..) (Ends.tt (by simp; omega) (Ends.tt (by simp; omega) (Ends.tt (by simp; omega) ?_)))
    simp only [Int.toNat_natCast, h2]
    rw [wr ((i : Int) + 1) (by omega) (by omega)]
    exact Ends.tt (by simp; omega) (Ends.ff (by simp [Sp.sameN]) (L2_ends w hw hl hq r (i + 1) h3 h1))
theorem L1_ends (l : List (List UInt8)) (qs : List (List (List UInt8))) (hlen : qs.length ≤ 8) (hq : ∀ ob, Q (.dat .bool true) ob) (hgo : (∀ q ∈ qs, Sp.okN q = true) → Ends X86 (L2 (Sp.Run l qs).1 (Sp.Run l qs).1 (Sp.Run l qs).1.length 0) Q) (hl : Sp.okN l = true) :
    ∀ (r : List (List (List UInt8))) (i : Nat), qs.drop i = r → i ≤ qs.length → (∀ q ∈ qs.take i, Sp.okN q = true) → Ends X86 (L1 l qs qs qs.length i) Q
  | [], i, h, hi, hk => by
    have := drop_nil h hi
    have hk : ∀ q ∈ qs, Sp.okN q = true := by rw [List.take_of_length_le (by omega)] at hk; exact hk
    have hok : Sp.okQ l qs = true := by unfold Sp.okQ; rw [hl, decide_eq_true hlen, List.all_eq_true.2 hk]; rfl
    refine Ends.steq (L1_eq ..) (Ends.ff (by simp; omega) (Ends.tt hok (Ends.tt hok (Ends.ff (by simp) (Ends.ff (by simp) (hgo hk))))))
  | q :: r, i, h, hi, hk => by
    obtain ⟨h1, h2, h3⟩ := drop_cons (d := []) h
    refine Ends.steq (L1_eq ..) (Ends.tt (by simp; omega) (Ends.tt (by simp; omega) (Ends.tt rfl ?_)))
    simp only [Int.toNat_natCast, h2]
    rw [wr ((i : Int) + 1) (by omega) (by omega)]
    cases hs : Sp.shortNames q 12 with
    | false => exact Ends.tt rfl (Ends.tt rfl (Ends.leaf (hq _)))
    | true =>
      refine Ends.ff rfl (L1_ends l qs hlen hq hgo hl r (i + 1) h3 h1 ?_)
      rw [take_next h]
      intro x hx
      rcases List.mem_append.1 hx with h | h
      · exact hk x h
      · rw [List.mem_singleton.1 h]; exact (short_ok hs).1
theorem ok : SpecOk C7p 12 cEventRuns := by
  refine spec7 (X := X86) rfl hallX86 (d := 9) (by kernel_rfl) (by kernel_rfl) (by kernel_rfl) (fun (i : List (List UInt8) × List (List (List UInt8))) hi => ?_) (isSome_ex (by kernel_rfl))
  obtain ⟨l, qs⟩ := i
  have hQ : ∀ ob, Gives cEventRuns (l, qs) (.dat .bool true) ob := fun ob => Gives.of rfl rfl rfl
  refine Ends.eq (T_eq l qs) (Ends.tt rfl ?_)
  cases h1 : Sp.shortNames l 12 with
  | false => exact Ends.tt rfl (Ends.tt rfl (Ends.leaf (hQ _)))
  | true =>
    refine Ends.ff rfl ?_
    have ol := (short_ok h1).1
    by_cases h8 : qs.length ≤ 8
    · refine Ends.ff (by simp; omega) (L1_ends l qs h8 hQ (fun hk => ?_) ol qs 0 rfl (by omega) (by simp))
      have hr := Run_len (qs := qs) ol
      exact L2_ends (Sp.Run l qs).1 hr.2 (by omega) hQ (Sp.Run l qs).1 0 rfl (by omega)
    · exact Ends.tt (by simp; omega) (Ends.tt rfl (Ends.leaf (hQ _)))
end T12
end Go.Pe
end
