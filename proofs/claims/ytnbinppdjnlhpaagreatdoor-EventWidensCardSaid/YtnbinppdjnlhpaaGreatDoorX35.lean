import Derived.Test.YtnbinppdjnlhpaaGreatDoorX27
/- A part of the proofs of the laws of one chapter (no law is stated here). Made by program out of texts by AI agents. -/
section
namespace Go.Pe
open Go.Det
noncomputable section
noncomputable def XW : PCtx := X7 [(17, cAwake), (43, cShortF), (45, cField), (46, cCheckF), (65, cCut), (66, cMiss), (67, cRuleE), (68, cCutE2), (73, cMemI), (58, cSum)]
end
end Go.Pe
end
section
namespace Go.Pe
open Go.Det
namespace T14
noncomputable def T (l : List (List UInt8 × Bool × List Int × List UInt8)) (r : Int × Int × Int) : Tr := tree XW false 9 14 (valsOf ([Sh.list (Sh.pair Sh.str (Sh.pair Sh.bool (Sh.pair (Sh.list (Sh.int IntKind.i64)) Sh.str))), Sh.pair (Sh.int IntKind.i64) (Sh.pair (Sh.int IntKind.i64) (Sh.int IntKind.i64))]) (l, r))
/-- function 14, region 9 -/
noncomputable def L1 (v0 : List (List UInt8 × Bool × List Int × List UInt8)) (v5 : List Int) (v6 : Int) (v8 : List (List UInt8 × Bool × List Int × List UInt8)) (v10 : Int) (v11 : Int) (v73 : Int) (v74 : Int) (o0 : Int) (o0_1 : Int) (o0_2 : Int) : Tr := re ((T [] ((0 : Int), ((0 : Int), (0 : Int)))).L.R.L.R.L.R.L.R.L.L.L.L.R.R.R) (mkSt (205) [(0, PV.dat (Sh.list (Sh.pair Sh.str (Sh.pair Sh.bool (Sh.pair (Sh.list (Sh.int IntKind.i64)) Sh.str)))) v0), (3, PV.ptr (0 : Nat) (0 : Nat)), (5, PV.dat (Sh.list (Sh.int IntKind.i64)) v5), (6, PV.dat (Sh.int IntKind.i64) v6), (8, PV.dat (Sh.list (Sh.pair Sh.str (Sh.pair Sh.bool (Sh.pair (Sh.list (Sh.int IntKind.i64)) Sh.str)))) v8), (10, PV.dat (Sh.int IntKind.i64) v10), (11, PV.dat (Sh.int IntKind.i64) v11), (73, PV.dat (Sh.int IntKind.i64) v73), (74, PV.dat (Sh.int IntKind.i64) v74)] [(0, Obj.box [PV.dat (Sh.int IntKind.i64) o0, PV.dat (Sh.int IntKind.i64) o0_1, PV.dat (Sh.int IntKind.i64) o0_2])] (1))
theorem T_eq (l : List (List UInt8 × Bool × List Int × List UInt8)) (r : Int × Int × Int) : T l r = .ite (true)
 (.ite (!Sp.shortF l (10 : Int))
  (.ite (true)
   (.leaf (PV.dat Sh.bool true) ([((0 : Nat), Obj.box [PV.dat (Sh.int IntKind.i64) (Prod.fst r), PV.dat (Sh.int IntKind.i64) (Prod.fst (Prod.snd r)), PV.dat (Sh.int IntKind.i64) (Prod.snd (Prod.snd r))])]))
   (.fail))
  (.ite (Sp.okF l)
   (.ite (Sp.fieldE l != (0 : Int))
    (.ite (true)
     (.leaf (PV.dat Sh.bool true) ([((0 : Nat), Obj.box [PV.dat (Sh.int IntKind.i64) (Prod.fst r), PV.dat (Sh.int IntKind.i64) (Prod.fst (Prod.snd r)), PV.dat (Sh.int IntKind.i64) (Prod.snd (Prod.snd r))])]))
     (.fail))
    (.ite (true)
     (.ite (Sp.ruleE (Prod.fst r, Prod.fst (Prod.snd r), Prod.snd (Prod.snd r)) != (0 : Int))
      (.ite (true)
       (.leaf (PV.dat Sh.bool true) ([((0 : Nat), Obj.box [PV.dat (Sh.int IntKind.i64) (Prod.fst r), PV.dat (Sh.int IntKind.i64) (Prod.fst (Prod.snd r)), PV.dat (Sh.int IntKind.i64) (Prod.snd (Prod.snd r))])]))
       (.fail))
      (.ite (Sp.okF l)
       (.ite (Sp.cutE2 l (Prod.fst r, Prod.fst (Prod.snd r), Prod.snd (Prod.snd r)) != (0 : Int))
        (.ite (true)
         (.leaf (PV.dat Sh.bool true) ([((0 : Nat), Obj.box [PV.dat (Sh.int IntKind.i64) (Prod.fst r), PV.dat (Sh.int IntKind.i64) (Prod.fst (Prod.snd r)), PV.dat (Sh.int IntKind.i64) (Prod.snd (Prod.snd r))])]))
         (.fail))
        (.ite (Sp.okF l)
         (.ite (Sp.okB l)
          (.ite (Sp.okF l)
           (.ite (Sp.okB l)
            (.ite (IntKind.wrap IntKind.i64 (Prod.snd (Prod.snd (Sp.Cut l (Prod.fst r, Prod.fst (Prod.snd r), Prod.snd (Prod.snd r)))) + Prod.snd (Sp.Miss l (Prod.fst r, Prod.fst (Prod.snd r), Prod.snd (Prod.snd r)))) != (0 : Int))
             (.leaf (PV.bl false) ([((0 : Nat), Obj.box [PV.dat (Sh.int IntKind.i64) (Prod.fst r), PV.dat (Sh.int IntKind.i64) (Prod.fst (Prod.snd r)), PV.dat (Sh.int IntKind.i64) (Prod.snd (Prod.snd r))])]))
             (.ite ((↑(List.length (Prod.fst (Sp.Miss l (Prod.fst r, Prod.fst (Prod.snd r), Prod.snd (Prod.snd r))))) : Int) != (↑(List.length l) : Int))
              (.leaf (PV.bl false) ([((0 : Nat), Obj.box [PV.dat (Sh.int IntKind.i64) (Prod.fst r), PV.dat (Sh.int IntKind.i64) (Prod.fst (Prod.snd r)), PV.dat (Sh.int IntKind.i64) (Prod.snd (Prod.snd r))])]))
              (.ite ((↑(List.length (Prod.fst (Sp.Cut l (Prod.fst r, Prod.fst (Prod.snd r), Prod.snd (Prod.snd r))))) : Int) == (0 : Int))
               (.leaf (PV.bl false) ([((0 : Nat), Obj.box [PV.dat (Sh.int IntKind.i64) (Prod.fst r), PV.dat (Sh.int IntKind.i64) (Prod.fst (Prod.snd r)), PV.dat (Sh.int IntKind.i64) (Prod.snd (Prod.snd r))])]))
               (L1 l (Prod.fst (Sp.Cut l (Prod.fst r, Prod.fst (Prod.snd r), Prod.snd (Prod.snd r)))) (Prod.fst (Prod.snd (Sp.Cut l (Prod.fst r, Prod.fst (Prod.snd r), Prod.snd (Prod.snd r))))) (Prod.fst (Sp.Miss l (Prod.fst r, Prod.fst (Prod.snd r), Prod.snd (Prod.snd r)))) ((0 : Int)) ((0 : Int)) ((↑(List.length l) : Int)) ((0 : Int)) (Prod.fst r) (Prod.fst (Prod.snd r)) (Prod.snd (Prod.snd r))))))
            (.fail))
           (.fail))
          (.fail))
         (.fail)))
       (.fail)))
     (.fail)))
   (.fail)))
 (.fail) := by kernel_rfl
/-- function 14, region 31 -/
noncomputable def L2 (v16 : List Int) (v193 : List Int) (v194 : Int) (v195 : Int) : Tr := re ((stepT XW (L1 [] [] (0 : Int) [] (0 : Int) (0 : Int) (0 : Int) (0 : Int) (0 : Int) (0 : Int) (0 : Int))).R.R.L.R.L.L.R) (mkSt (205) [(16, PV.dat (Sh.list (Sh.int IntKind.i64)) v16), (193, PV.dat (Sh.list (Sh.int IntKind.i64)) v193), (194, PV.dat (Sh.int IntKind.i64) v194), (195, PV.dat (Sh.int IntKind.i64) v195)] [] (0))
theorem L1_eq (v0 : List (List UInt8 × Bool × List Int × List UInt8)) (v5 : List Int) (v6 : Int) (v8 : List (List UInt8 × Bool × List Int × List UInt8)) (v10 : Int) (v11 : Int) (v73 : Int) (v74 : Int) (o0 : Int) (o0_1 : Int) (o0_2 : Int) : stepT XW (L1 v0 v5 v6 v8 v10 v11 v73 v74 o0 o0_1 o0_2) = .ite (decide (v74 < v73))
 (.ite (decide (List.length v5 ≤ (1000000 : Nat)))
  (.ite (decide ((0 : Int) ≤ v74) && decide (v74 < (↑(List.length v0) : Int)))
   (.ite (!Prod.snd (Prod.snd (Prod.snd (List.getD v0 (Int.toNat v74) ([], false, [], [])))) == [])
    (.ite (Sp.memI v5 v74)
     (.leaf (PV.bl false) ([(0, Obj.box [PV.dat (Sh.int IntKind.i64) o0, PV.dat (Sh.int IntKind.i64) o0_1, PV.dat (Sh.int IntKind.i64) o0_2])]))
     (.ite (decide ((0 : Int) ≤ v74) && decide (v74 < (↑(List.length v8) : Int)))
      (.ite (decide ((0 : Int) ≤ v74) && decide (v74 < (↑(List.length v0) : Int)))
       (.ite (!Prod.snd (Prod.snd (Prod.snd (List.getD v8 (Int.toNat v74) ([], false, [], [])))) == Prod.snd (Prod.snd (Prod.snd (List.getD v0 (Int.toNat v74) ([], false, [], [])))))
        (.leaf (PV.bl false) ([(0, Obj.box [PV.dat (Sh.int IntKind.i64) o0, PV.dat (Sh.int IntKind.i64) o0_1, PV.dat (Sh.int IntKind.i64) o0_2])]))
        (L1 v0 v5 v6 v8 v10 v11 v73 (IntKind.wrap IntKind.i64 (v74 + (1 : Int))) o0 o0_1 o0_2))
       (.fail))
      (.fail)))
    (.ite (decide ((0 : Int) ≤ v74) && decide (v74 < (↑(List.length v0) : Int)))
     (.ite (decide (List.length (Prod.fst (Prod.snd (Prod.snd (List.getD v0 (Int.toNat v74) ([], false, [], []))))) ≤ (1000000 : Nat)))
      (.ite (!Sp.memI v5 v74 == decide (Sp.sumW (List.take (Int.toNat o0) (Prod.fst (Prod.snd (Prod.snd (List.getD v0 (Int.toNat v74) ([], false, [], [])))))) ≤ v6))
       (.leaf (PV.bl false) ([(0, Obj.box [PV.dat (Sh.int IntKind.i64) o0, PV.dat (Sh.int IntKind.i64) o0_1, PV.dat (Sh.int IntKind.i64) o0_2])]))
       (.ite (decide ((0 : Int) ≤ v74) && decide (v74 < (↑(List.length v8) : Int)))
        (.ite (!Sp.memI v5 v74 == (Prod.snd (Prod.snd (Prod.snd (List.getD v8 (Int.toNat v74) ([], false, [], [])))) == []))
         (.leaf (PV.bl false) ([(0, Obj.box [PV.dat (Sh.int IntKind.i64) o0, PV.dat (Sh.int IntKind.i64) o0_1, PV.dat (Sh.int IntKind.i64) o0_2])]))
         (.ite (!Sp.memI v5 v74)
          (.ite (decide ((0 : Int) ≤ v74) && decide (v74 < (↑(List.length v8) : Int)))
           (.ite (!Prod.snd (Prod.snd (Prod.snd (List.getD v8 (Int.toNat v74) ([], false, [], [])))) == [(99 : UInt8), (117 : UInt8), (116 : UInt8)])
            (.leaf (PV.bl false) ([(0, Obj.box [PV.dat (Sh.int IntKind.i64) o0, PV.dat (Sh.int IntKind.i64) o0_1, PV.dat (Sh.int IntKind.i64) o0_2])]))
            (.ite (decide ((0 : Int) ≤ v74) && decide (v74 < (↑(List.length v8) : Int)))
             (.ite ((↑(List.length (Prod.fst (Prod.snd (Prod.snd (List.getD v8 (Int.toNat v74) ([], false, [], [])))))) : Int) != o0)
              (.leaf (PV.bl false) ([(0, Obj.box [PV.dat (Sh.int IntKind.i64) o0, PV.dat (Sh.int IntKind.i64) o0_1, PV.dat (Sh.int IntKind.i64) o0_2])]))
              (.ite (decide (Sp.sumW (List.take (Int.toNat o0) (Prod.fst (Prod.snd (Prod.snd (List.getD v0 (Int.toNat v74) ([], false, [], [])))))) < v6))
               (L1 v0 v5 v6 v8 (IntKind.wrap IntKind.i64 (v10 + (1 : Int))) (IntKind.wrap IntKind.i64 (v11 + (1 : Int))) v73 (IntKind.wrap IntKind.i64 (v74 + (1 : Int))) o0 o0_1 o0_2)
               (L1 v0 v5 v6 v8 (IntKind.wrap IntKind.i64 (v10 + (1 : Int))) v11 v73 (IntKind.wrap IntKind.i64 (v74 + (1 : Int))) o0 o0_1 o0_2)))
             (.fail)))
           (.fail))
          (.ite (decide (Sp.sumW (List.take (Int.toNat o0) (Prod.fst (Prod.snd (Prod.snd (List.getD v0 (Int.toNat v74) ([], false, [], [])))))) < v6))
           (L1 v0 v5 v6 v8 (IntKind.wrap IntKind.i64 (v10 + (1 : Int))) (IntKind.wrap IntKind.i64 (v11 + (1 : Int))) v73 (IntKind.wrap IntKind.i64 (v74 + (1 : Int))) o0 o0_1 o0_2)
           (L1 v0 v5 v6 v8 (IntKind.wrap IntKind.i64 (v10 + (1 : Int))) v11 v73 (IntKind.wrap IntKind.i64 (v74 + (1 : Int))) o0 o0_1 o0_2))))
        (.fail)))
      (.fail))
     (.fail)))
   (.fail))
  (.fail))
 (.ite (decide ((↑(List.length v5) : Int) < imin o0_1 v10))
  (.leaf (PV.bl false) ([(0, Obj.box [PV.dat (Sh.int IntKind.i64) o0, PV.dat (Sh.int IntKind.i64) o0_1, PV.dat (Sh.int IntKind.i64) o0_2])]))
  (.ite (decide (o0_2 < (0 : Int)))
   (.ite (decide (v11 ≥ o0_1))
    (.leaf (PV.bl false) ([(0, Obj.box [PV.dat (Sh.int IntKind.i64) o0, PV.dat (Sh.int IntKind.i64) o0_1, PV.dat (Sh.int IntKind.i64) o0_2])]))
    (.ite (Sp.okF v0)
     (.ite (Sp.okB v0)
      (.ite (Prod.snd (Prod.snd (Sp.Cut v0 (o0, imin (200 : Int) (IntKind.wrap IntKind.i64 (o0_1 + (1 : Int))), imin (999 : Int) (IntKind.wrap IntKind.i64 (o0_2 + (1 : Int)))))) != (0 : Int))
       (.leaf (PV.bl false) ([(1, Obj.box [PV.dat (Sh.int IntKind.i64) o0, PV.dat (Sh.int IntKind.i64) (imin (200 : Int) (IntKind.wrap IntKind.i64 (o0_1 + (1 : Int)))), PV.dat (Sh.int IntKind.i64) (imin (999 : Int) (IntKind.wrap IntKind.i64 (o0_2 + (1 : Int))))]), (0, Obj.box [PV.dat (Sh.int IntKind.i64) o0, PV.dat (Sh.int IntKind.i64) o0_1, PV.dat (Sh.int IntKind.i64) o0_2])]))
       (L2 (Prod.fst (Sp.Cut v0 (o0, imin (200 : Int) (IntKind.wrap IntKind.i64 (o0_1 + (1 : Int))), imin (999 : Int) (IntKind.wrap IntKind.i64 (o0_2 + (1 : Int)))))) v5 ((↑(List.length v5) : Int)) ((0 : Int))))
      (.fail))
     (.fail)))
   (.ite (Sp.okF v0)
    (.ite (Sp.okB v0)
     (.ite (Prod.snd (Prod.snd (Sp.Cut v0 (o0, imin (200 : Int) (IntKind.wrap IntKind.i64 (o0_1 + (1 : Int))), imin (999 : Int) (IntKind.wrap IntKind.i64 (o0_2 + (1 : Int)))))) != (0 : Int))
      (.leaf (PV.bl false) ([(1, Obj.box [PV.dat (Sh.int IntKind.i64) o0, PV.dat (Sh.int IntKind.i64) (imin (200 : Int) (IntKind.wrap IntKind.i64 (o0_1 + (1 : Int)))), PV.dat (Sh.int IntKind.i64) (imin (999 : Int) (IntKind.wrap IntKind.i64 (o0_2 + (1 : Int))))]), (0, Obj.box [PV.dat (Sh.int IntKind.i64) o0, PV.dat (Sh.int IntKind.i64) o0_1, PV.dat (Sh.int IntKind.i64) o0_2])]))
      (L2 (Prod.fst (Sp.Cut v0 (o0, imin (200 : Int) (IntKind.wrap IntKind.i64 (o0_1 + (1 : Int))), imin (999 : Int) (IntKind.wrap IntKind.i64 (o0_2 + (1 : Int)))))) v5 ((↑(List.length v5) : Int)) ((0 : Int))))
     (.fail))
    (.fail)))) := by kernel_rfl
theorem L2_eq (v16 : List Int) (v193 : List Int) (v194 : Int) (v195 : Int) : stepT XW (L2 v16 v193 v194 v195) = .ite (decide (v195 < v194))
 (.ite (decide ((0 : Int) ≤ v195) && decide (v195 < (↑(List.length v193) : Int)))
  (.ite (decide (List.length v16 ≤ (1000000 : Nat)))
   (.ite (!Sp.memI v16 (List.getD v193 (Int.toNat v195) (0 : Int)))
    (.leaf (PV.bl false) ([]))
    (L2 v16 v193 v194 (IntKind.wrap IntKind.i64 (v195 + (1 : Int)))))
   (.fail))
  (.fail))
 (.ite (true)
  (.leaf (PV.dat Sh.bool true) ([]))
  (.fail)) := by kernel_rfl
end T14
end Go.Pe
end
section
namespace Go.Sp
theorem lineP_get (l : List Int) (p w : Int) (hl : l ≠ []) (hp : 1 ≤ p) : ∃ k : Nat, (k : Int) = min p (l.length : Int) - 1 ∧ k < (sortI l).length ∧ (sortI l).getD k 0 ≤ lineP l p w ∧ (w < 0 → lineP l p w = (sortI l).getD k 0) := by
  have hlen : 0 < l.length := by cases l with | nil => exact absurd rfl hl | cons => simp
  have hs := sortI_len l
  refine ⟨(Go.Pe.imin p ((sortI l).length : Int) - 1).toNat, by rw [imin_def]; omega, by rw [imin_def]; omega, ?_, ?_⟩
  · unfold lineP
    simp only
    split
    · rw [imax_def]; omega
    · exact Int.le_refl _
  · intro hw
    unfold lineP
    simp only
    rw [if_neg (by omega)]
theorem lineP_many (l : List Int) (p w : Int) (hl : l ≠ []) (hp : 1 ≤ p) : min p (l.length : Int) ≤ (l.filter fun u => decide (u ≤ lineP l p w)).length := by
  obtain ⟨k, h1, h2, h3, _⟩ := lineP_get l p w hl hp
  have := below_gt (sortI_asc l) h2 (show (sortI l).getD k 0 < lineP l p w + 1 by omega)
  rw [below_perm (sortI_perm l)] at this
  have e : below l (lineP l p w + 1) = (l.filter fun u => decide (u ≤ lineP l p w)).length := by
    unfold below
    congr 2
    funext u
    by_cases hu : u ≤ lineP l p w
    · rw [decide_eq_true hu, decide_eq_true (by omega)]
    · rw [decide_eq_false hu, decide_eq_false (by omega)]
  rw [e] at this
  omega
theorem lineP_few (l : List Int) (p w : Int) (hl : l ≠ []) (hp : 1 ≤ p) (hw : w < 0) : (below l (lineP l p w) : Int) < p := by
  obtain ⟨k, h1, h2, _, h4⟩ := lineP_get l p w hl hp
  have := below_le (sortI_asc l) h2
  rw [← h4 hw, below_perm (sortI_perm l)] at this
  omega
theorem lineP_mono (l : List Int) (p p' w w' : Int) (hl : l ≠ []) (hp : 1 ≤ p) (hpp : p ≤ p') (hww : w ≤ w') : lineP l p w ≤ lineP l p' w' := by
  obtain ⟨k, h1, h2, h3, h4⟩ := lineP_get l p w hl hp
  obtain ⟨k', g1, g2, g3, g4⟩ := lineP_get l p' w' hl (by omega)
  have hk : k ≤ k' := by omega
  have := asc_get (sortI_asc l) g2 hk
  by_cases hw : w < 0
  · rw [h4 hw]; omega
  · have e1 : lineP l p w = max ((sortI l).getD (Go.Pe.imin p ((sortI l).length : Int) - 1).toNat 0) ((sortI l).getD 0 0 + w) := by
      unfold lineP
      simp only
      rw [if_pos (by omega), imax_def]
    have e2 : (sortI l).getD 0 0 + w' ≤ lineP l p' w' := by
      unfold lineP
      simp only
      rw [if_pos (by omega), imax_def]; omega
    have hs := sortI_len l
    have ek : (Go.Pe.imin p ((sortI l).length : Int) - 1).toNat = k := by rw [imin_def]; omega
    rw [e1, ek]
    omega
end Go.Sp
namespace Go.Pe
open Go.Det
theorem remain_filter (a t : Int) : ∀ (s : List LineT) (i : Nat), (Sp.remain a t i s).length = ((Sp.ctots a s).filter fun u => decide (u ≤ t)).length
  | [], _ => rfl
  | x :: s, i => by
    have ih := remain_filter a t s (i + 1)
    rw [ctots_cons]
    unfold Sp.remain
    by_cases hx : Sp.cand x = true
    · rw [if_pos hx]
      by_cases hu : Sp.tot a x ≤ t
      · rw [if_pos (by rw [hx, decide_eq_true hu]; rfl), List.filter_cons_of_pos (by simpa using hu), List.length_cons, List.length_cons, ih]
      · rw [if_neg (by rw [hx, decide_eq_false hu]; simp), List.filter_cons_of_neg (by simpa using hu), ih]
    · rw [if_neg hx, if_neg (by simp [hx]), ih]
theorem remain_mono (a t t' : Int) (h : t ≤ t') : ∀ (s : List LineT) (i : Nat) (c : Int), c ∈ Sp.remain a t i s → c ∈ Sp.remain a t' i s
  | [], _, c, hc => by cases hc
  | x :: s, i, c, hc => by
    have ih := remain_mono a t t' h s (i + 1) c
    unfold Sp.remain at hc ⊢
    by_cases hx : (Sp.cand x && decide (Sp.tot a x ≤ t)) = true
    · rw [if_pos hx] at hc
      have hx' : (Sp.cand x && decide (Sp.tot a x ≤ t')) = true := by
        rw [Bool.and_eq_true, decide_eq_true_eq] at hx ⊢
        exact ⟨hx.1, by omega⟩
      rw [if_pos hx']
      rcases List.mem_cons.1 hc with rfl | hc
      · exact List.mem_cons_self
      · exact List.mem_cons_of_mem _ (ih hc)
    · rw [if_neg hx] at hc
      split
      · exact List.mem_cons_of_mem _ (ih hc)
      · exact ih hc
theorem hallXW : ∀ g sp, XW.sp g = some sp → SpecOk C7p g sp :=
  sp_cons awake_ok (sp_cons T43.ok (sp_cons T45.ok (sp_cons T46.ok (sp_cons T65.ok (sp_cons T66.ok (sp_cons T67.ok (sp_cons T68.ok (sp_cons T73.ok (sp_cons T58.ok (fun g sp h => by cases h))))))))))
namespace T14
variable {Q : PV → Ob → Prop}
theorem L2_ends (w C : List Int) (hw : w.length ≤ 300) (hC : C.length ≤ 300) (hsub : ∀ c ∈ C, c ∈ w) (hq : Q (.dat .bool true) []) : ∀ (s : List Int) (i : Nat), C.drop i = s → i ≤ C.length → Ends XW (L2 w C C.length i) Q
  | [], i, h, hi => by
    have := drop_nil h hi
    exact Ends.steq (L2_eq ..) (Ends.ff (by simp; omega) (Ends.tt rfl (Ends.leaf hq)))
  | c :: s, i, h, hi => by
    obtain ⟨h1, h2, h3⟩ := drop_cons (d := 0) h
    refine Ends.steq (L2_eq ..) (Ends.tt (by simp <;> omega) (Ends.tt (by simp <;> omega) (Ends.tt (decide_eq_true (by omega)) ?_)))
    simp only [Int.toNat_natCast, h2]
    rw [wr ((i : Int) + 1) (by omega) (by omega)]
    have hm : Sp.memI w c = true := decide_eq_true (hsub c (mem_drop h))
    exact Ends.ff (by rw [hm]; rfl) (L2_ends w C hw hC hsub hq s (i + 1) h3 h1)
theorem filter_take {α : Type} (p : α → Bool) {l s : List α} {x : α} {i : Nat} (h : l.drop i = x :: s) : ((l.take (i + 1)).filter p).length = ((l.take i).filter p).length + (if p x = true then 1 else 0) := by
  rw [take_next h, List.filter_append, List.length_append]
  by_cases hp : p x = true
  · rw [if_pos hp, List.filter_cons_of_pos hp]; rfl
  · rw [if_neg hp, List.filter_cons_of_neg hp]; rfl
theorem L1_ends (l : List LineT) (r : RuleT) (g : Good l r) (hok : Sp.okF l = true) (hB : Sp.okB l = true) (hq : ∀ ob, Q (.dat .bool true) ob) : ∀ (s : List LineT) (i : Nat), l.drop i = s → i ≤ l.length →
    Ends XW (L1 l (Sp.remain r.1 (Sp.cutLine l r) 0 l) (Sp.cutLine l r) (l.map (Sp.miss1 r.1 (Sp.cutLine l r))) (((l.take i).filter Sp.cand).length : Nat) (((l.take i).filter fun x => Sp.cand x && decide (Sp.tot r.1 x < Sp.cutLine l r)).length : Nat) l.length i r.1 r.2.1 r.2.2) Q
  | [], i, h, hi => by
    have := drop_nil h hi
    subst this
    rw [List.take_length]
    have hn := g.n10
    obtain ⟨⟨a1, a2⟩, ⟨p1, p2⟩, w1, w2⟩ := g.rule
    have hne : Sp.ctots r.1 l ≠ [] := by
      intro e
      have := ctots_len r.1 l
      rw [e] at this
      exact g.cne (List.length_eq_zero_iff.1 this.symm)
    have eC : (l.filter Sp.cand).length = (Sp.ctots r.1 l).length := by unfold Sp.ctots; simp
    have hmany := Sp.lineP_many (Sp.ctots r.1 l) r.2.1 r.2.2 hne p1
    have hrf := remain_filter r.1 (Sp.cutLine l r) l 0
    have hrl := remain_len r.1 (Sp.cutLine l r) l 0
    have many : ¬ (((Sp.remain r.1 (Sp.cutLine l r) 0 l).length : Int) < imin r.2.1 (((l.filter Sp.cand).length : Nat) : Int)) := by
      rw [Sp.imin_def, eC, hrf]
      have : Sp.cutLine l r = Sp.lineP (Sp.ctots r.1 l) r.2.1 r.2.2 := rfl
      rw [this]
      omega
    have few : r.2.2 < 0 → ¬ ((((l.filter fun x => Sp.cand x && decide (Sp.tot r.1 x < Sp.cutLine l r)).length : Nat) : Int) ≥ r.2.1) := fun hw => by
      have := Sp.lineP_few (Sp.ctots r.1 l) r.2.1 r.2.2 hne p1 hw
      have e : (l.filter fun x => Sp.cand x && decide (Sp.tot r.1 x < Sp.cutLine l r)).length = Sp.below (Sp.ctots r.1 l) (Sp.cutLine l r) := by
        unfold Sp.below Sp.ctots
        rw [List.filter_map, List.length_map, List.filter_filter]
        congr 2
        funext x
        rw [Bool.and_comm]; rfl
      rw [e]
      have e2 : Sp.cutLine l r = Sp.lineP (Sp.ctots r.1 l) r.2.1 r.2.2 := rfl
      rw [e2]; omega
    refine Ends.steq (L1_eq ..) (Ends.ff (by simp) (Ends.ff (decide_eq_false many) ?_))
    rw [wr (r.2.1 + 1) (by omega) (by omega), wr (r.2.2 + 1) (by omega) (by omega), Sp.imin_def, Sp.imin_def]
    have rest : Ends XW (.ite (Sp.okF l) (.ite (Sp.okB l) (.ite ((Sp.Cut l (r.1, min 200 (r.2.1 + 1), min 999 (r.2.2 + 1))).2.2 != 0) (.leaf (PV.bl false) ([(1, Obj.box [PV.dat (Sh.int IntKind.i64) r.1, PV.dat (Sh.int IntKind.i64) (min 200 (r.2.1 + 1)), PV.dat (Sh.int IntKind.i64) (min 999 (r.2.2 + 1))]), (0, Obj.box [PV.dat (Sh.int IntKind.i64) r.1, PV.dat (Sh.int IntKind.i64) r.2.1, PV.dat (Sh.int IntKind.i64) r.2.2])])) (L2 (Sp.Cut l (r.1, min 200 (r.2.1 + 1), min 999 (r.2.2 + 1))).1 (Sp.remain r.1 (Sp.cutLine l r) 0 l) (Sp.remain r.1 (Sp.cutLine l r) 0 l).length 0)) .fail) .fail) Q := by
      have r0 : Sp.ruleE (r.1, min 200 (r.2.1 + 1), min 999 (r.2.2 + 1)) = 0 := by
        have o : ∀ n a b : Int, a ≤ n → n ≤ b → Sp.out n a b = 0 := fun n a b h1 h2 => by unfold Sp.out; rw [if_neg (by omega), if_neg (by omega)]
        unfold Sp.ruleE
        rw [o _ _ _ a1 a2, o _ _ _ (show 1 ≤ min 200 (r.2.1 + 1) by omega) (by omega), o _ _ _ (show -1 ≤ min 999 (r.2.2 + 1) by omega) (by omega)]; rfl
      have e0 : Sp.cutE l (r.1, min 200 (r.2.1 + 1), min 999 (r.2.2 + 1)) = 0 := by
        unfold Sp.cutE
        rw [g.field, r0]
        unfold Sp.cutE2
        rw [if_neg g.cne, if_neg (by rw [g.nsh]; simp)]; rfl
      have hcut : Sp.Cut l (r.1, min 200 (r.2.1 + 1), min 999 (r.2.2 + 1)) = (Sp.remain r.1 (Sp.cutLine l (r.1, min 200 (r.2.1 + 1), min 999 (r.2.2 + 1))) 0 l, Sp.cutLine l (r.1, min 200 (r.2.1 + 1), min 999 (r.2.2 + 1)), 0) := by unfold Sp.Cut; rw [if_neg (by simp [e0])]
      have hrl2 := remain_len r.1 (Sp.cutLine l (r.1, min 200 (r.2.1 + 1), min 999 (r.2.2 + 1))) l 0
      have hmono : Sp.cutLine l r ≤ Sp.cutLine l (r.1, min 200 (r.2.1 + 1), min 999 (r.2.2 + 1)) := Sp.lineP_mono (Sp.ctots r.1 l) r.2.1 (min 200 (r.2.1 + 1)) r.2.2 (min 999 (r.2.2 + 1)) hne p1 (by omega) (by omega)
      rw [hcut]
      exact Ends.tt hok (Ends.tt hB (Ends.ff rfl (L2_ends _ _ (by omega) (by omega) (remain_mono r.1 _ _ hmono l 0) (hq _) _ 0 rfl (Nat.zero_le _))))
    exact Ends.ite (fun c => Ends.ff (decide_eq_false (few (of_decide_eq_true c))) rest) (fun c => rest)
  | x :: s, i, h, hi => by
    obtain ⟨h1, h2, h3⟩ := drop_cons (d := DL) h
    have h2' : l.getD i ([], false, [], []) = x := h2
    have hn := g.n10
    have hm := memI_remain r.1 (Sp.cutLine l r) h
    have hrl := remain_len r.1 (Sp.cutLine l r) l 0
    have h8 := (fieldE_zero g.field).2 x (mem_drop h)
    obtain ⟨⟨a1, a2⟩, _⟩ := g.rule
    have hml : (l.map (Sp.miss1 r.1 (Sp.cutLine l r))).length = l.length := by simp
    have hM : (l.map (Sp.miss1 r.1 (Sp.cutLine l r))).getD i ([], false, [], []) = Sp.miss1 r.1 (Sp.cutLine l r) x := by
      have : (l.map (Sp.miss1 r.1 (Sp.cutLine l r))).drop i = Sp.miss1 r.1 (Sp.cutLine l r) x :: s.map (Sp.miss1 r.1 (Sp.cutLine l r)) := by rw [← List.map_drop, h]; rfl
      exact (drop_cons (d := DL) this).2.1
    have go := L1_ends l r g hok hB hq s (i + 1) h3 h1
    rw [filter_take _ h, filter_take _ h] at go
    have b1 : ((l.take i).filter Sp.cand).length ≤ i := by have := List.length_filter_le Sp.cand (l.take i); simp at this; omega
    have b2 : ((l.take i).filter fun x => Sp.cand x && decide (Sp.tot r.1 x < Sp.cutLine l r)).length ≤ i := by have := List.length_filter_le (fun x => Sp.cand x && decide (Sp.tot r.1 x < Sp.cutLine l r)) (l.take i); simp at this; omega
    generalize ((l.take i).filter Sp.cand).length = n1 at go b1 ⊢
    generalize ((l.take i).filter fun x => Sp.cand x && decide (Sp.tot r.1 x < Sp.cutLine l r)).length = n2 at go b2 ⊢
    have ib : (decide ((0 : Int) ≤ (i : Int)) && decide ((i : Int) < (l.length : Int))) = true := by simp; omega
    have im : (decide ((0 : Int) ≤ (i : Int)) && decide ((i : Int) < ((l.map (Sp.miss1 r.1 (Sp.cutLine l r))).length : Int))) = true := by rw [hml]; exact ib
    refine Ends.steq (L1_eq ..) (Ends.tt (by simp <;> omega) (Ends.tt (decide_eq_true (by omega)) (Ends.tt ib ?_)))
    simp only [Int.toNat_natCast, h2', hM]
    rw [wr ((i : Int) + 1) (by omega) (by omega), wr ((n1 : Int) + 1) (by omega) (by omega), wr ((n2 : Int) + 1) (by omega) (by omega), cand_eq, hm]
    have et : Sp.sumW (List.take r.1.toNat x.2.2.1) = Sp.tot r.1 x := rfl
    rw [et]
    cases hc : Sp.cand x with
    | false =>
      have e : Sp.miss1 r.1 (Sp.cutLine l r) x = x := by unfold Sp.miss1; rw [hc]; rfl
      rw [e]
      rw [hc] at go
      refine Ends.tt rfl (Ends.ff rfl (Ends.tt im (Ends.tt ib (Ends.ff (by simp) ?_))))
      exact go
    | true =>
      rw [hc] at go
      have hl := g.long (mem_drop h) hc
      have hst : x.2.2.2 = [] := by unfold Sp.cand at hc; simpa using hc
      have go2 : Ends XW (.ite (decide (Sp.tot r.1 x < Sp.cutLine l r)) (L1 l (Sp.remain r.1 (Sp.cutLine l r) 0 l) (Sp.cutLine l r) (l.map (Sp.miss1 r.1 (Sp.cutLine l r))) ((n1 : Int) + 1) ((n2 : Int) + 1) l.length ((i : Int) + 1) r.1 r.2.1 r.2.2) (L1 l (Sp.remain r.1 (Sp.cutLine l r) 0 l) (Sp.cutLine l r) (l.map (Sp.miss1 r.1 (Sp.cutLine l r))) ((n1 : Int) + 1) n2 l.length ((i : Int) + 1) r.1 r.2.1 r.2.2)) Q := by
        refine Ends.ite (fun c => ?_) (fun c => ?_)
        · rw [c] at go; exact go
        · rw [c] at go; exact go
      refine Ends.ff rfl (Ends.tt ib (Ends.tt (decide_eq_true (by omega)) (Ends.ff (by simp) (Ends.tt im ?_))))
      by_cases hu : Sp.tot r.1 x ≤ Sp.cutLine l r
      · have e : Sp.miss1 r.1 (Sp.cutLine l r) x = x := by unfold Sp.miss1; rw [hc, decide_eq_true hu]; rfl
        rw [e, decide_eq_true hu]
        exact Ends.ff (by rw [hst]; rfl) (Ends.ff rfl go2)
      · have e : Sp.miss1 r.1 (Sp.cutLine l r) x = (x.1, x.2.1, x.2.2.1.take r.1.toNat, Sp.sCut) := by unfold Sp.miss1; rw [hc, decide_eq_false hu]; rfl
        rw [e, decide_eq_false hu]
        refine Ends.ff rfl (Ends.tt rfl (Ends.tt im (Ends.ff rfl (Ends.tt im (Ends.ff ?_ go2)))))
        simp; omega
end T14
noncomputable def cEventWidens : PSpec := ⟨[.list shLine, shRule], fun _ => true, [.bool], fun _ => true, false⟩
namespace T14
theorem ok : SpecOk C7p 14 cEventWidens := by
  refine spec7 (X := XW) rfl hallXW (d := 9) (by kernel_rfl) (by kernel_rfl) (by kernel_rfl) (fun (i : List LineT × RuleT) _ => ?_) (isSome_ex (by kernel_rfl))
  obtain ⟨l, r⟩ := i
  have hQ : ∀ ob, Gives cEventWidens (l, r) (.dat .bool true) ob := fun ob => Gives.of rfl rfl rfl
  refine Ends.eq (T_eq l r) (Ends.tt rfl (Ends.ite (fun c => Ends.tt rfl (Ends.leaf (hQ _))) (fun c => ?_)))
  have c : Sp.shortF l 10 = true := by simpa using c
  obtain ⟨hok, hlen⟩ := shortF_of c
  have h205 := (okF_of hok).1
  have hB : Sp.okB l = true := by
    unfold Sp.okB; rw [hok, Bool.true_and, Bool.or_eq_true, decide_eq_true_eq, decide_eq_true_eq]; omega
  rw [show (r.1, r.2.1, r.2.2) = r from rfl]
  refine Ends.tt hok (Ends.ite (fun c1 => Ends.tt rfl (Ends.leaf (hQ _))) (fun c1 => Ends.tt rfl (Ends.ite (fun c2 => Ends.tt rfl (Ends.leaf (hQ _))) (fun c2 => Ends.tt hok (Ends.ite (fun c3 => Ends.tt rfl (Ends.leaf (hQ _))) (fun c3 => ?_))))))
  have c1 : Sp.fieldE l = 0 := by simpa using c1
  have c2 : Sp.ruleE r = 0 := by simpa using c2
  have c3 : Sp.cutE2 l r = 0 := by simpa using c3
  have e0 : Sp.cutE l r = 0 := by unfold Sp.cutE; rw [c1, c2, c3]; rfl
  have g := good_of hB e0
  have hn := g.n10
  have hcut : Sp.Cut l r = (Sp.remain r.1 (Sp.cutLine l r) 0 l, Sp.cutLine l r, 0) := by unfold Sp.Cut; rw [if_neg (by simp [e0])]
  have hM : Sp.Miss l r = (l.map (Sp.miss1 r.1 (Sp.cutLine l r)), 0) := by unfold Sp.Miss; rw [if_neg (by simp [e0])]
  rw [hcut, hM]
  have hpos : (Sp.remain r.1 (Sp.cutLine l r) 0 l).length ≠ 0 := by
    have hne : Sp.ctots r.1 l ≠ [] := by
      intro e
      have := ctots_len r.1 l
      rw [e] at this
      exact g.cne (List.length_eq_zero_iff.1 this.symm)
    have h1 := Sp.lineP_many (Sp.ctots r.1 l) r.2.1 r.2.2 hne g.rule.2.1.1
    have h2 := remain_filter r.1 (Sp.cutLine l r) l 0
    have h3 : Sp.cutLine l r = Sp.lineP (Sp.ctots r.1 l) r.2.1 r.2.2 := rfl
    have h4 := List.length_pos_iff.2 hne
    have h5 := g.rule.2.1.1
    rw [← h3] at h1
    omega
  refine Ends.tt hok (Ends.tt hB (Ends.tt hok (Ends.tt hB (Ends.ff rfl (Ends.ff (by simp) (Ends.ff (by simpa using hpos) ?_))))))
  exact L1_ends l r g hok hB hQ l 0 rfl (Nat.zero_le _)
end T14
end Go.Pe
end
