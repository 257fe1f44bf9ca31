import Derived.Test.YtnbinppdjnlhpaaGreatDoorX20
/- A part of the proofs of the laws of one chapter (no law is stated here). Made by program out of texts by AI agents. -/
section
namespace Go.Pe
open Go.Det
namespace T43
noncomputable def T (l : List (List UInt8 × Bool × List Int × List UInt8)) (n : Int) : Tr := tree X90 false 9 43 (valsOf ([Sh.list (Sh.pair Sh.str (Sh.pair Sh.bool (Sh.pair (Sh.list (Sh.int IntKind.i64)) Sh.str))), Sh.int IntKind.i64]) (l, n))
/-- function 43, region 4 -/
noncomputable def L1 (v0 : List (List UInt8 × Bool × List Int × List UInt8)) (v5 : Int) : Tr := re ((T [] (0 : Int)).L.R.R) (mkSt (51) [(0, PV.dat (Sh.list (Sh.pair Sh.str (Sh.pair Sh.bool (Sh.pair (Sh.list (Sh.int IntKind.i64)) Sh.str)))) v0), (5, PV.dat (Sh.int IntKind.i64) v5)] [] (0))
theorem T_eq (l : List (List UInt8 × Bool × List Int × List UInt8)) (n : Int) : T l n = .ite (decide ((↑(List.length l) : Int) > n))
 (.ite (decide ((↑(List.length l) : Int) ≤ (200 : Int)))
  (.leaf (PV.bl false) ([]))
  (.ite (decide ((↑(List.length l) : Int) > (205 : Int)))
   (.leaf (PV.bl false) ([]))
   (L1 l ((0 : Int)))))
 (.ite (decide ((↑(List.length l) : Int) > (205 : Int)))
  (.leaf (PV.bl false) ([]))
  (L1 l ((0 : Int)))) := by kernel_rfl
theorem L1_eq (v0 : List (List UInt8 × Bool × List Int × List UInt8)) (v5 : Int) : stepT X90 (L1 v0 v5) = .ite (decide (v5 < (↑(List.length v0) : Int)))
 (.ite (decide ((0 : Int) ≤ v5) && decide (v5 < (↑(List.length v0) : Int)))
  (.ite (decide ((↑(List.length (Prod.fst (List.getD v0 (Int.toNat v5) ([], false, [], [])))) : Int) > (40 : Int)))
   (.leaf (PV.bl false) ([]))
   (.ite (decide ((0 : Int) ≤ v5) && decide (v5 < (↑(List.length v0) : Int)))
    (.ite (decide ((↑(List.length (Prod.fst (Prod.snd (Prod.snd (List.getD v0 (Int.toNat v5) ([], false, [], [])))))) : Int) > (12 : Int)))
     (.leaf (PV.bl false) ([]))
     (.ite (decide ((0 : Int) ≤ v5) && decide (v5 < (↑(List.length v0) : Int)))
      (.ite (decide ((↑(List.length (Prod.snd (Prod.snd (Prod.snd (List.getD v0 (Int.toNat v5) ([], false, [], [])))))) : Int) > (40 : Int)))
       (.leaf (PV.bl false) ([]))
       (L1 v0 (IntKind.wrap IntKind.i64 (v5 + (1 : Int)))))
      (.fail)))
    (.fail)))
  (.fail))
 (.leaf (PV.bl true) ([])) := by kernel_rfl
end T43
namespace T45
noncomputable def T (l : List (List UInt8 × Bool × List Int × List UInt8)) : Tr := tree X90 false 9 45 (valsOf ([Sh.list (Sh.pair Sh.str (Sh.pair Sh.bool (Sh.pair (Sh.list (Sh.int IntKind.i64)) Sh.str)))]) l)
/-- function 45, region 3 -/
noncomputable def L1 (v6 : List (List UInt8 × Bool × List Int × List UInt8)) (v7 : Int) (v8 : Int) : Tr := re ((T [])) (mkSt (23) [(3, PV.nil), (6, PV.dat (Sh.list (Sh.pair Sh.str (Sh.pair Sh.bool (Sh.pair (Sh.list (Sh.int IntKind.i64)) Sh.str)))) v6), (7, PV.dat (Sh.int IntKind.i64) v7), (8, PV.dat (Sh.int IntKind.i64) v8)] [] (0))
theorem T_eq (l : List (List UInt8 × Bool × List Int × List UInt8)) : T l = L1 l ((↑(List.length l) : Int)) ((0 : Int)) := by kernel_rfl
/-- function 45, region 3 -/
noncomputable def L2 (v3n : Nat) (v6 : List (List UInt8 × Bool × List Int × List UInt8)) (v7 : Int) (v8 : Int) (o0 : List (List UInt8 × Bool × List Int × List UInt8)) : Tr := re ((stepT X90 (L1 [] (0 : Int) (0 : Int))).L.L.L.L.L) (mkSt (23) [(3, PV.sl (0) (4) (0) v3n none), (6, PV.dat (Sh.list (Sh.pair Sh.str (Sh.pair Sh.bool (Sh.pair (Sh.list (Sh.int IntKind.i64)) Sh.str)))) v6), (7, PV.dat (Sh.int IntKind.i64) v7), (8, PV.dat (Sh.int IntKind.i64) v8)] [(0, Obj.arr false (126) (Sh.pair Sh.str (Sh.pair Sh.bool (Sh.pair (Sh.list (Sh.int IntKind.i64)) Sh.str))) o0)] (1))
theorem L1_eq (v6 : List (List UInt8 × Bool × List Int × List UInt8)) (v7 : Int) (v8 : Int) : stepT X90 (L1 v6 v7 v8) = .ite (decide (v8 < v7))
 (.ite (decide ((0 : Int) ≤ v8) && decide (v8 < (↑(List.length v6) : Int)))
  (.ite (decide (((2 : Nat) * ((0 : Nat) + List.length (Prod.fst (Prod.snd (Prod.snd (List.getD v6 (Int.toNat v8) ([], false, [], [])))))) + (1000 : Nat)) * (8 : Nat) ≤ (281474976710656 : Nat)))
   (.ite (decide ((0 : Nat) + Nat.add (0 : Nat) (List.length (Prod.fst (Prod.snd (Prod.snd (List.getD v6 (Int.toNat v8) ([], false, [], [])))))) ≤ List.length ([] ++ Prod.fst (Prod.snd (Prod.snd (List.getD v6 (Int.toNat v8) ([], false, [], [])))))) && true)
    (.ite (decide ((1 : Nat) ≤ (1 : Nat)) && decide ((0 : Nat) < (1 : Nat)) && decide (((2 : Nat) * (1 : Nat) + (1000 : Nat)) * (64 : Nat) ≤ (281474976710656 : Nat)))
     (L2 ((1 : Nat)) v6 v7 (IntKind.wrap IntKind.i64 (v8 + (1 : Int))) ([(Prod.fst (List.getD v6 (Int.toNat v8) ([], false, [], [])), Prod.fst (Prod.snd (List.getD v6 (Int.toNat v8) ([], false, [], []))), List.take (Nat.add (0 : Nat) (List.length (Prod.fst (Prod.snd (Prod.snd (List.getD v6 (Int.toNat v8) ([], false, [], []))))))) ([] ++ Prod.fst (Prod.snd (Prod.snd (List.getD v6 (Int.toNat v8) ([], false, [], []))))), Prod.snd (Prod.snd (Prod.snd (List.getD v6 (Int.toNat v8) ([], false, [], [])))))]))
     (.fail))
    (.fail))
   (.fail))
  (.fail))
 (.leaf (PV.nil) ([])) := by kernel_rfl
theorem L2_eq (v3n : Nat) (v6 : List (List UInt8 × Bool × List Int × List UInt8)) (v7 : Int) (v8 : Int) (o0 : List (List UInt8 × Bool × List Int × List UInt8)) : stepT X90 (L2 v3n v6 v7 v8 o0) = .ite (decide (v8 < v7))
 (.ite (decide ((0 : Int) ≤ v8) && decide (v8 < (↑(List.length v6) : Int)))
  (.ite (decide (((2 : Nat) * ((0 : Nat) + List.length (Prod.fst (Prod.snd (Prod.snd (List.getD v6 (Int.toNat v8) ([], false, [], [])))))) + (1000 : Nat)) * (8 : Nat) ≤ (281474976710656 : Nat)))
   (.ite (decide ((0 : Nat) + Nat.add (0 : Nat) (List.length (Prod.fst (Prod.snd (Prod.snd (List.getD v6 (Int.toNat v8) ([], false, [], [])))))) ≤ List.length ([] ++ Prod.fst (Prod.snd (Prod.snd (List.getD v6 (Int.toNat v8) ([], false, [], [])))))) && true)
    (.ite (decide ((1 : Nat) ≤ (1 : Nat)) && true && decide (v3n = List.length o0) && decide (((2 : Nat) * (v3n + (1 : Nat)) + (1000 : Nat)) * (64 : Nat) ≤ (281474976710656 : Nat)))
     (L2 (Nat.add v3n (1 : Nat)) v6 v7 (IntKind.wrap IntKind.i64 (v8 + (1 : Int))) (o0 ++ [(Prod.fst (List.getD v6 (Int.toNat v8) ([], false, [], [])), Prod.fst (Prod.snd (List.getD v6 (Int.toNat v8) ([], false, [], []))), List.take (Nat.add (0 : Nat) (List.length (Prod.fst (Prod.snd (Prod.snd (List.getD v6 (Int.toNat v8) ([], false, [], []))))))) ([] ++ Prod.fst (Prod.snd (Prod.snd (List.getD v6 (Int.toNat v8) ([], false, [], []))))), Prod.snd (Prod.snd (Prod.snd (List.getD v6 (Int.toNat v8) ([], false, [], [])))))]))
     (.fail))
    (.fail))
   (.fail))
  (.fail))
 (.leaf (PV.sl (0) (4) (0) v3n none) ([(0, Obj.arr false (126) (Sh.pair Sh.str (Sh.pair Sh.bool (Sh.pair (Sh.list (Sh.int IntKind.i64)) Sh.str))) o0)])) := by kernel_rfl
end T45
namespace T58
noncomputable def T (l : List Int) (n : Int) : Tr := tree X90 false 9 58 (valsOf ([Sh.list (Sh.int IntKind.i64), Sh.int IntKind.i64]) (l, n))
/-- function 58, region 3 -/
noncomputable def L1 (v0 : List Int) (v1 : Int) (v5 : Int) (v6 : Int) : Tr := re ((T [] (0 : Int))) (mkSt (25) [(0, PV.dat (Sh.list (Sh.int IntKind.i64)) v0), (1, PV.dat (Sh.int IntKind.i64) v1), (5, PV.dat (Sh.int IntKind.i64) v5), (6, PV.dat (Sh.int IntKind.i64) v6)] [] (0))
theorem T_eq (l : List Int) (n : Int) : T l n = L1 l n ((0 : Int)) ((0 : Int)) := by kernel_rfl
theorem L1_eq (v0 : List Int) (v1 : Int) (v5 : Int) (v6 : Int) : stepT X90 (L1 v0 v1 v5 v6) = .ite (decide (v6 < (↑(List.length v0) : Int)))
 (.ite (decide (v6 < v1))
  (.ite (decide ((0 : Int) ≤ v6) && decide (v6 < (↑(List.length v0) : Int)))
   (L1 v0 v1 (IntKind.wrap IntKind.i64 (v5 + List.getD v0 (Int.toNat v6) (0 : Int))) (IntKind.wrap IntKind.i64 (v6 + (1 : Int))))
   (.fail))
  (.leaf (PV.dat (Sh.int IntKind.i64) v5) ([])))
 (.leaf (PV.dat (Sh.int IntKind.i64) v5) ([])) := by kernel_rfl
end T58
namespace T120
noncomputable def T (l : List (List UInt8 × Bool × List Int × List UInt8)) : Tr := tree X90 false 9 120 (valsOf ([Sh.list (Sh.pair Sh.str (Sh.pair Sh.bool (Sh.pair (Sh.list (Sh.int IntKind.i64)) Sh.str)))]) l)
/-- function 120, region 3 -/
noncomputable def L1 (v0 : List (List UInt8 × Bool × List Int × List UInt8)) (v4 : Int) : Tr := re ((T [])) (mkSt (20) [(0, PV.dat (Sh.list (Sh.pair Sh.str (Sh.pair Sh.bool (Sh.pair (Sh.list (Sh.int IntKind.i64)) Sh.str)))) v0), (3, PV.nil), (4, PV.dat (Sh.int IntKind.i64) v4)] [] (0))
theorem T_eq (l : List (List UInt8 × Bool × List Int × List UInt8)) : T l = L1 l ((0 : Int)) := by kernel_rfl
/-- function 120, region 3 -/
noncomputable def L2 (v0 : List (List UInt8 × Bool × List Int × List UInt8)) (v3n : Nat) (v4 : Int) (o0 : List (List UInt8)) : Tr := re ((stepT X90 (L1 [] (0 : Int))).L.L.L) (mkSt (20) [(0, PV.dat (Sh.list (Sh.pair Sh.str (Sh.pair Sh.bool (Sh.pair (Sh.list (Sh.int IntKind.i64)) Sh.str)))) v0), (3, PV.sl (0) (1) (0) v3n none), (4, PV.dat (Sh.int IntKind.i64) v4)] [(0, Obj.arr false (9) Sh.str o0)] (1))
theorem L1_eq (v0 : List (List UInt8 × Bool × List Int × List UInt8)) (v4 : Int) : stepT X90 (L1 v0 v4) = .ite (decide (v4 < (↑(List.length v0) : Int)))
 (.ite (decide ((0 : Int) ≤ v4) && decide (v4 < (↑(List.length v0) : Int)))
  (.ite (decide ((1 : Nat) ≤ (1 : Nat)) && decide ((0 : Nat) < (1 : Nat)) && decide (((2 : Nat) * (1 : Nat) + (1000 : Nat)) * (16 : Nat) ≤ (281474976710656 : Nat)))
   (L2 v0 ((1 : Nat)) (IntKind.wrap IntKind.i64 (v4 + (1 : Int))) ([Prod.fst (List.getD v0 (Int.toNat v4) ([], false, [], []))]))
   (.fail))
  (.fail))
 (.leaf (PV.nil) ([])) := by kernel_rfl
theorem L2_eq (v0 : List (List UInt8 × Bool × List Int × List UInt8)) (v3n : Nat) (v4 : Int) (o0 : List (List UInt8)) : stepT X90 (L2 v0 v3n v4 o0) = .ite (decide (v4 < (↑(List.length v0) : Int)))
 (.ite (decide ((0 : Int) ≤ v4) && decide (v4 < (↑(List.length v0) : Int)))
  (.ite (decide ((1 : Nat) ≤ (1 : Nat)) && true && decide (v3n = List.length o0) && decide (((2 : Nat) * (v3n + (1 : Nat)) + (1000 : Nat)) * (16 : Nat) ≤ (281474976710656 : Nat)))
   (L2 v0 (Nat.add v3n (1 : Nat)) (IntKind.wrap IntKind.i64 (v4 + (1 : Int))) (o0 ++ [Prod.fst (List.getD v0 (Int.toNat v4) ([], false, [], []))]))
   (.fail))
  (.fail))
 (.leaf (PV.sl (0) (1) (0) v3n none) ([(0, Obj.arr false (9) Sh.str o0)])) := by kernel_rfl
end T120
namespace T116
noncomputable def T (x : List UInt8 × Bool × List Int × List UInt8) (n : Int) : Tr := tree X90 false 9 116 (valsOf ([Sh.pair Sh.str (Sh.pair Sh.bool (Sh.pair (Sh.list (Sh.int IntKind.i64)) Sh.str)), Sh.int IntKind.i64]) (x, n))
/-- function 116, region 3 -/
noncomputable def L1 (v5 : Int) (v11 : List Int) (v12 : Int) (v13 : Int) : Tr := re ((T ([], (false, ([], []))) (0 : Int)).L) (mkSt (22) [(5, PV.dat (Sh.int IntKind.i64) v5), (11, PV.dat (Sh.list (Sh.int IntKind.i64)) v11), (12, PV.dat (Sh.int IntKind.i64) v12), (13, PV.dat (Sh.int IntKind.i64) v13)] [] (0))
theorem T_eq (x : List UInt8 × Bool × List Int × List UInt8) (n : Int) : T x n = .ite (decide ((0 : Int) ≤ n) && decide ((0 : Nat) ≤ Int.toNat n) && decide (Int.toNat n ≤ List.length (Prod.fst (Prod.snd (Prod.snd x)))))
 (L1 ((0 : Int)) (List.take (Int.toNat n) (Prod.fst (Prod.snd (Prod.snd x)))) ((↑(List.length (List.take (Int.toNat n) (Prod.fst (Prod.snd (Prod.snd x))))) : Int)) ((0 : Int)))
 (.fail) := by kernel_rfl
theorem L1_eq (v5 : Int) (v11 : List Int) (v12 : Int) (v13 : Int) : stepT X90 (L1 v5 v11 v12 v13) = .ite (decide (v13 < v12))
 (.ite (decide ((0 : Int) ≤ v13) && decide (v13 < (↑(List.length v11) : Int)))
  (L1 (IntKind.wrap IntKind.i64 (v5 + List.getD v11 (Int.toNat v13) (0 : Int))) v11 v12 (IntKind.wrap IntKind.i64 (v13 + (1 : Int))))
  (.fail))
 (.leaf (PV.dat (Sh.int IntKind.i64) v5) ([])) := by kernel_rfl
end T116
namespace T119
noncomputable def T (a : Int) (b : Int) : Tr := tree X70 false 9 119 (valsOf ([Sh.int IntKind.i64, Sh.int IntKind.i64]) (a, b))
theorem T_eq (a : Int) (b : Int) : T a b = .ite (a != a)
 (.ite (b != b)
  (.leaf (PV.dat (Sh.int IntKind.i64) (0 : Int)) ([]))
  (.leaf (PV.dat (Sh.int IntKind.i64) (-1 : Int)) ([])))
 (.ite (b != b)
  (.leaf (PV.dat (Sh.int IntKind.i64) (1 : Int)) ([]))
  (.ite (decide (a < b))
   (.leaf (PV.dat (Sh.int IntKind.i64) (-1 : Int)) ([]))
   (.ite (decide (a > b))
    (.leaf (PV.dat (Sh.int IntKind.i64) (1 : Int)) ([]))
    (.leaf (PV.dat (Sh.int IntKind.i64) (0 : Int)) ([]))))) := by kernel_rfl
end T119
namespace T200
noncomputable def T (l : List Int) : Tr := tree X70 false 9 200 (valsOf ([Sh.list (Sh.int IntKind.i64)]) l)
/-- function 200, region 3 -/
noncomputable def L1 (v3 : Int) (v6 : List Int) (v7 : Int) (v8 : Int) : Tr := re ((T [])) (mkSt (18) [(3, PV.dat (Sh.int IntKind.i64) v3), (6, PV.dat (Sh.list (Sh.int IntKind.i64)) v6), (7, PV.dat (Sh.int IntKind.i64) v7), (8, PV.dat (Sh.int IntKind.i64) v8)] [] (0))
theorem T_eq (l : List Int) : T l = L1 ((0 : Int)) l ((↑(List.length l) : Int)) ((0 : Int)) := by kernel_rfl
theorem L1_eq (v3 : Int) (v6 : List Int) (v7 : Int) (v8 : Int) : stepT X70 (L1 v3 v6 v7 v8) = .ite (decide (v8 < v7))
 (.ite (decide ((0 : Int) ≤ v8) && decide (v8 < (↑(List.length v6) : Int)))
  (.ite (List.getD v6 (Int.toNat v8) (0 : Int) != v3)
   (.leaf (PV.dat (Sh.int IntKind.i64) (List.getD v6 (Int.toNat v8) (0 : Int))) ([]))
   (L1 v3 v6 v7 (IntKind.wrap IntKind.i64 (v8 + (1 : Int)))))
  (.fail))
 (.leaf (PV.dat (Sh.int IntKind.i64) v3) ([])) := by kernel_rfl
end T200
namespace T125
noncomputable def T (a : List (List UInt8)) (x : List UInt8) : Tr := tree X90 false 9 125 (valsOf ([Sh.list Sh.str, Sh.str]) (a, x))
/-- function 165, region 2 -/
noncomputable def L1 (a : List (List UInt8)) (x : List UInt8) (v0 : List (List UInt8)) (v1 : List UInt8) (v7 : Int) (v8 : Int) : Tr := re ((T a x)) (mkSt (19) [(0, PV.dat (Sh.list Sh.str) v0), (1, PV.dat Sh.str v1), (7, PV.dat (Sh.int IntKind.i64) v7), (8, PV.dat (Sh.int IntKind.i64) v8)] [] (0))
theorem T_eq (a : List (List UInt8)) (x : List UInt8) : T a x = L1 a x a x ((↑(List.length a) : Int)) ((0 : Int)) := by kernel_rfl
theorem L1_eq (a : List (List UInt8)) (x : List UInt8) (v0 : List (List UInt8)) (v1 : List UInt8) (v7 : Int) (v8 : Int) : stepT X90 (L1 a x v0 v1 v7 v8) = .ite (decide (v8 < v7))
 (.ite (decide ((0 : Int) ≤ v8) && decide (v8 < (↑(List.length v0) : Int)))
  (.ite (v1 == List.getD v0 (Int.toNat v8) [])
   (.leaf (PV.dat Sh.bool (decide (v8 ≥ (0 : Int)))) ([]))
   (L1 a x v0 v1 v7 (IntKind.wrap IntKind.i64 (v8 + (1 : Int)))))
  (.fail))
 (.leaf (PV.dat Sh.bool false) ([])) := by kernel_rfl
end T125
namespace T46
noncomputable def T (l : List (List UInt8 × Bool × List Int × List UInt8)) : Tr := tree X91 false 9 46 (valsOf ([Sh.list (Sh.pair Sh.str (Sh.pair Sh.bool (Sh.pair (Sh.list (Sh.int IntKind.i64)) Sh.str)))]) l)
/-- function 46, region 5 -/
noncomputable def L1 (v0 : List (List UInt8 × Bool × List Int × List UInt8)) (v3 : List (List UInt8)) (v4 : Int) : Tr := re ((T []).R.L) (mkSt (82) [(0, PV.dat (Sh.list (Sh.pair Sh.str (Sh.pair Sh.bool (Sh.pair (Sh.list (Sh.int IntKind.i64)) Sh.str)))) v0), (3, PV.dat (Sh.list Sh.str) v3), (4, PV.dat (Sh.int IntKind.i64) v4)] [] (0))
theorem T_eq (l : List (List UInt8 × Bool × List Int × List UInt8)) : T l = .ite (decide ((↑(List.length l) : Int) > (200 : Int)))
 (.leaf (PV.dat (Sh.int IntKind.i64) (5 : Int)) ([]))
 (.ite (Sp.okF l)
  (L1 l (Sp.lnames l) ((0 : Int)))
  (.fail)) := by kernel_rfl
/-- function 46, region 11 -/
noncomputable def L2 (v0 : List (List UInt8 × Bool × List Int × List UInt8)) (v3 : List (List UInt8)) (v4 : Int) (v5 : Int) (v6 : Int) : Tr := re ((stepT X91 (L1 [] [] (0 : Int))).L.L.L.L.L) (mkSt (82) [(0, PV.dat (Sh.list (Sh.pair Sh.str (Sh.pair Sh.bool (Sh.pair (Sh.list (Sh.int IntKind.i64)) Sh.str)))) v0), (3, PV.dat (Sh.list Sh.str) v3), (4, PV.dat (Sh.int IntKind.i64) v4), (5, PV.dat (Sh.int IntKind.i64) v5), (6, PV.dat (Sh.int IntKind.i64) v6)] [] (0))
theorem L1_eq (v0 : List (List UInt8 × Bool × List Int × List UInt8)) (v3 : List (List UInt8)) (v4 : Int) : stepT X91 (L1 v0 v3 v4) = .ite (decide (v4 < (↑(List.length v0) : Int)))
 (.ite (Sp.okN v3 && decide ((0 : Int) ≤ v4) && decide (v4 < (↑(List.length v3) : Int)))
  (.ite (Sp.nameErr (List.take (Int.toNat v4) v3) (List.getD v3 (Int.toNat v4) []) == (0 : Int))
   (.ite (decide ((0 : Int) ≤ v4) && decide (v4 < (↑(List.length v0) : Int)))
    (.ite (decide ((↑(List.length (Prod.fst (Prod.snd (Prod.snd (List.getD v0 (Int.toNat v4) ([], false, [], [])))))) : Int) > (8 : Int)))
     (L2 v0 v3 v4 ((5 : Int)) ((0 : Int)))
     (L2 v0 v3 v4 (Sp.nameErr (List.take (Int.toNat v4) v3) (List.getD v3 (Int.toNat v4) [])) ((0 : Int))))
    (.fail))
   (L2 v0 v3 v4 (Sp.nameErr (List.take (Int.toNat v4) v3) (List.getD v3 (Int.toNat v4) [])) ((0 : Int))))
  (.fail))
 (.leaf (PV.dat (Sh.int IntKind.i64) (0 : Int)) ([])) := by kernel_rfl
theorem L2_eq (v0 : List (List UInt8 × Bool × List Int × List UInt8)) (v3 : List (List UInt8)) (v4 : Int) (v5 : Int) (v6 : Int) : stepT X91 (L2 v0 v3 v4 v5 v6) = .ite (decide ((0 : Int) ≤ v4) && decide (v4 < (↑(List.length v0) : Int)))
 (.ite (decide (v6 < (↑(List.length (Prod.fst (Prod.snd (Prod.snd (List.getD v0 (Int.toNat v4) ([], false, [], [])))))) : Int)))
  (.ite (v5 == (0 : Int))
   (.ite (decide ((0 : Int) ≤ v4) && decide (v4 < (↑(List.length v0) : Int)))
    (.ite (decide ((0 : Int) ≤ v6) && decide (v6 < (↑(List.length (Prod.fst (Prod.snd (Prod.snd (List.getD v0 (Int.toNat v4) ([], false, [], [])))))) : Int)))
     (.ite (true)
      (L2 v0 v3 v4 (Sp.out (List.getD (Prod.fst (Prod.snd (Prod.snd (List.getD v0 (Int.toNat v4) ([], false, [], []))))) (Int.toNat v6) (0 : Int)) (1 : Int) (9999 : Int)) (IntKind.wrap IntKind.i64 (v6 + (1 : Int))))
      (.fail))
     (.fail))
    (.fail))
   (.ite (decide ((0 : Int) ≤ v4) && decide (v4 < (↑(List.length v0) : Int)))
    (.ite (v5 == (0 : Int))
     (.ite (!Prod.snd (Prod.snd (Prod.snd (List.getD v0 (Int.toNat v4) ([], false, [], [])))) == [])
      (.ite (!Prod.snd (Prod.snd (Prod.snd (List.getD v0 (Int.toNat v4) ([], false, [], [])))) == [(99 : UInt8), (117 : UInt8), (116 : UInt8)])
       (.ite (!Prod.snd (Prod.snd (Prod.snd (List.getD v0 (Int.toNat v4) ([], false, [], [])))) == [(111 : UInt8), (117 : UInt8), (116 : UInt8)])
        (.ite (!Prod.snd (Prod.snd (Prod.snd (List.getD v0 (Int.toNat v4) ([], false, [], [])))) == [(100 : UInt8), (105 : UInt8), (115 : UInt8)])
         (.ite (true)
          (.leaf (PV.dat (Sh.int IntKind.i64) (13 : Int)) ([]))
          (L1 v0 v3 (IntKind.wrap IntKind.i64 (v4 + (1 : Int)))))
         (.ite (v5 != (0 : Int))
          (.leaf (PV.dat (Sh.int IntKind.i64) v5) ([]))
          (L1 v0 v3 (IntKind.wrap IntKind.i64 (v4 + (1 : Int))))))
        (.ite (v5 != (0 : Int))
         (.leaf (PV.dat (Sh.int IntKind.i64) v5) ([]))
         (L1 v0 v3 (IntKind.wrap IntKind.i64 (v4 + (1 : Int))))))
       (.ite (v5 != (0 : Int))
        (.leaf (PV.dat (Sh.int IntKind.i64) v5) ([]))
        (L1 v0 v3 (IntKind.wrap IntKind.i64 (v4 + (1 : Int))))))
      (.ite (v5 != (0 : Int))
       (.leaf (PV.dat (Sh.int IntKind.i64) v5) ([]))
       (L1 v0 v3 (IntKind.wrap IntKind.i64 (v4 + (1 : Int))))))
     (.ite (v5 != (0 : Int))
      (.leaf (PV.dat (Sh.int IntKind.i64) v5) ([]))
      (L1 v0 v3 (IntKind.wrap IntKind.i64 (v4 + (1 : Int))))))
    (.fail)))
  (.ite (decide ((0 : Int) ≤ v4) && decide (v4 < (↑(List.length v0) : Int)))
   (.ite (v5 == (0 : Int))
    (.ite (!Prod.snd (Prod.snd (Prod.snd (List.getD v0 (Int.toNat v4) ([], false, [], [])))) == [])
     (.ite (!Prod.snd (Prod.snd (Prod.snd (List.getD v0 (Int.toNat v4) ([], false, [], [])))) == [(99 : UInt8), (117 : UInt8), (116 : UInt8)])
      (.ite (!Prod.snd (Prod.snd (Prod.snd (List.getD v0 (Int.toNat v4) ([], false, [], [])))) == [(111 : UInt8), (117 : UInt8), (116 : UInt8)])
       (.ite (!Prod.snd (Prod.snd (Prod.snd (List.getD v0 (Int.toNat v4) ([], false, [], [])))) == [(100 : UInt8), (105 : UInt8), (115 : UInt8)])
        (.ite (true)
         (.leaf (PV.dat (Sh.int IntKind.i64) (13 : Int)) ([]))
         (L1 v0 v3 (IntKind.wrap IntKind.i64 (v4 + (1 : Int)))))
        (.ite (v5 != (0 : Int))
         (.leaf (PV.dat (Sh.int IntKind.i64) v5) ([]))
         (L1 v0 v3 (IntKind.wrap IntKind.i64 (v4 + (1 : Int))))))
       (.ite (v5 != (0 : Int))
        (.leaf (PV.dat (Sh.int IntKind.i64) v5) ([]))
        (L1 v0 v3 (IntKind.wrap IntKind.i64 (v4 + (1 : Int))))))
      (.ite (v5 != (0 : Int))
       (.leaf (PV.dat (Sh.int IntKind.i64) v5) ([]))
       (L1 v0 v3 (IntKind.wrap IntKind.i64 (v4 + (1 : Int))))))
     (.ite (v5 != (0 : Int))
      (.leaf (PV.dat (Sh.int IntKind.i64) v5) ([]))
      (L1 v0 v3 (IntKind.wrap IntKind.i64 (v4 + (1 : Int))))))
    (.ite (v5 != (0 : Int))
     (.leaf (PV.dat (Sh.int IntKind.i64) v5) ([]))
     (L1 v0 v3 (IntKind.wrap IntKind.i64 (v4 + (1 : Int))))))
   (.fail)))
 (.fail) := by kernel_rfl
end T46
namespace T48
noncomputable def T (l : List (List UInt8 × Bool × List Int × List UInt8)) : Tr := tree X91 false 9 48 (valsOf ([Sh.list (Sh.pair Sh.str (Sh.pair Sh.bool (Sh.pair (Sh.list (Sh.int IntKind.i64)) Sh.str)))]) l)
/-- function 122, region 2 -/
noncomputable def L1 (l : List (List UInt8 × Bool × List Int × List UInt8)) (v8 : List (List UInt8 × Bool × List Int × List UInt8)) (v9 : Int) (v10 : Int) (o0 : List (List UInt8 × Bool)) : Tr := re ((T l).R) (mkSt (21) [(1, PV.fn (Go.Fn.func (123 : Nat)) [] [PV.ptr (1 : Nat) (0 : Nat)]), (8, PV.dat (Sh.list (Sh.pair Sh.str (Sh.pair Sh.bool (Sh.pair (Sh.list (Sh.int IntKind.i64)) Sh.str)))) v8), (9, PV.dat (Sh.int IntKind.i64) v9), (10, PV.dat (Sh.int IntKind.i64) v10)] [(1, Obj.box [PV.mp (0 : Nat)]), (0, Obj.map Sh.str Sh.bool o0)] (2))
theorem T_eq (l : List (List UInt8 × Bool × List Int × List UInt8)) : T l = .ite (decide ((↑(List.length l) : Int) > (200 : Int)))
 (.leaf (PV.dat (Sh.int IntKind.i64) (5 : Int)) ([]))
 (L1 l l ((↑(List.length l) : Int)) ((0 : Int)) []) := by kernel_rfl
/-- function 123, region 1 -/
noncomputable def L2 (l : List (List UInt8 × Bool × List Int × List UInt8)) (v8 : List (List UInt8 × Bool × List Int × List UInt8)) (v9 : Int) (v10 : Int) (o0 : List (List UInt8 × Bool)) (v2 : List UInt8 × Bool × List Int × List UInt8) (o2 : List UInt8) (o2_1 : Bool) (o2_2 : List Int) (o2_3 : List UInt8) (o0' : List (List UInt8 × Bool)) : Tr := re ((stepT X91 (L1 l v8 v9 v10 o0)).L.L) (mkSt (29) [(1, PV.ptr (1 : Nat) (0 : Nat)), (2, PV.dptr (Sh.pair Sh.str (Sh.pair Sh.bool (Sh.pair (Sh.list (Sh.int IntKind.i64)) Sh.str))) v2 (0))] [(2, Obj.box [PV.dat Sh.str o2, PV.dat Sh.bool o2_1, PV.dat (Sh.list (Sh.int IntKind.i64)) o2_2, PV.dat Sh.str o2_3]), (1, Obj.box [PV.mp (0 : Nat)]), (0, Obj.map Sh.str Sh.bool o0')] (3))
theorem L1_eq (l : List (List UInt8 × Bool × List Int × List UInt8)) (v8 : List (List UInt8 × Bool × List Int × List UInt8)) (v9 : Int) (v10 : Int) (o0 : List (List UInt8 × Bool)) : stepT X91 (L1 l v8 v9 v10 o0) = .ite (decide (v10 < v9))
 (.ite (decide ((0 : Int) ≤ v10) && decide (v10 < (↑(List.length v8) : Int)))
  (L2 l v8 v9 v10 o0 ((Prod.fst (List.getD v8 (Int.toNat v10) ([], false, [], [])), Prod.fst (Prod.snd (List.getD v8 (Int.toNat v10) ([], false, [], []))), Prod.fst (Prod.snd (Prod.snd (List.getD v8 (Int.toNat v10) ([], false, [], [])))), Prod.snd (Prod.snd (Prod.snd (List.getD v8 (Int.toNat v10) ([], false, [], [])))))) (Prod.fst (List.getD v8 (Int.toNat v10) ([], false, [], []))) (Prod.fst (Prod.snd (List.getD v8 (Int.toNat v10) ([], false, [], [])))) (Prod.fst (Prod.snd (Prod.snd (List.getD v8 (Int.toNat v10) ([], false, [], []))))) (Prod.snd (Prod.snd (Prod.snd (List.getD v8 (Int.toNat v10) ([], false, [], []))))) o0)
  (.fail))
 (.leaf (PV.dat (Sh.int IntKind.i64) (0 : Int)) ([(1, Obj.box [PV.mp (0 : Nat)]), (0, Obj.map Sh.str Sh.bool o0)])) := by kernel_rfl
/-- function 153, region 2 -/
noncomputable def L3 (l : List (List UInt8 × Bool × List Int × List UInt8)) (v8 : List (List UInt8 × Bool × List Int × List UInt8)) (v9 : Int) (v10 : Int) (o0 : List (List UInt8 × Bool)) (v2 : List UInt8 × Bool × List Int × List UInt8) (o2 : List UInt8) (o2_1 : Bool) (o2_2 : List Int) (o2_3 : List UInt8) (o0' : List (List UInt8 × Bool)) (v0 : List Int) (v7 : Int) (v8' : Int) (o2' : List UInt8) (o2_1' : Bool) (o2_2' : List Int) (o2_3' : List UInt8) (o0'' : List (List UInt8 × Bool)) : Tr := re ((stepT X91 (L2 l v8 v9 v10 o0 v2 o2 o2_1 o2_2 o2_3 o0'))) (mkSt (19) [(0, PV.dat (Sh.list (Sh.int IntKind.i64)) v0), (1, PV.fn (Go.Fn.func (124 : Nat)) [] []), (7, PV.dat (Sh.int IntKind.i64) v7), (8, PV.dat (Sh.int IntKind.i64) v8')] [(2, Obj.box [PV.dat Sh.str o2', PV.dat Sh.bool o2_1', PV.dat (Sh.list (Sh.int IntKind.i64)) o2_2', PV.dat Sh.str o2_3']), (1, Obj.box [PV.mp (0 : Nat)]), (0, Obj.map Sh.str Sh.bool o0'')] (3))
theorem L2_eq (l : List (List UInt8 × Bool × List Int × List UInt8)) (v8 : List (List UInt8 × Bool × List Int × List UInt8)) (v9 : Int) (v10 : Int) (o0 : List (List UInt8 × Bool)) (v2 : List UInt8 × Bool × List Int × List UInt8) (o2 : List UInt8) (o2_1 : Bool) (o2_2 : List Int) (o2_3 : List UInt8) (o0' : List (List UInt8 × Bool)) : stepT X91 (L2 l v8 v9 v10 o0 v2 o2 o2_1 o2_2 o2_3 o0') = L3 l v8 v9 v10 o0 v2 o2 o2_1 o2_2 o2_3 o0' (Prod.fst (Prod.snd (Prod.snd v2))) ((↑(List.length (Prod.fst (Prod.snd (Prod.snd v2)))) : Int)) ((0 : Int)) o2 o2_1 o2_2 o2_3 o0' := by kernel_rfl
theorem L3_eq (l : List (List UInt8 × Bool × List Int × List UInt8)) (v8 : List (List UInt8 × Bool × List Int × List UInt8)) (v9 : Int) (v10 : Int) (o0 : List (List UInt8 × Bool)) (v2 : List UInt8 × Bool × List Int × List UInt8) (o2 : List UInt8) (o2_1 : Bool) (o2_2 : List Int) (o2_3 : List UInt8) (o0' : List (List UInt8 × Bool)) (v0 : List Int) (v7 : Int) (v8' : Int) (o2' : List UInt8) (o2_1' : Bool) (o2_2' : List Int) (o2_3' : List UInt8) (o0'' : List (List UInt8 × Bool)) : stepT X91 (L3 l v8 v9 v10 o0 v2 o2 o2_1 o2_2 o2_3 o0' v0 v7 v8' o2' o2_1' o2_2' o2_3' o0'') = .ite (decide (v8' < v7))
 (.ite (decide ((0 : Int) ≤ v8') && decide (v8' < (↑(List.length v0) : Int)))
  (.ite (decide (List.getD v0 (Int.toNat v8') (0 : Int) < (1 : Int)))
   (.ite (decide ((4 : Nat) ≤ (1000000 : Nat)))
    (.ite (decide (List.length (Prod.fst v2) ≤ (1000000 : Nat)))
     (.ite (true)
      (.ite (true)
       (.ite (decide ((2 : Nat) ≤ (2 : Nat)) && true && decide ((2 : Nat) ≤ (1000000 : Nat)))
        (.ite (true)
         (.ite (true)
          (.ite (true)
           (.ite (decide ((4 : Nat) ≤ (4 : Nat)) && true && decide ((4 : Nat) ≤ (1000000 : Nat)))
            (.ite (Sp.first [Sp.first [Sp.whn (!Sp.isName (Prod.fst v2)) (8 : Int), Sp.whn (Option.getD (mget Sh.str Sh.bool (Prod.fst v2) o0'') false) (9 : Int)], Sp.whn (decide ((↑(List.length (Prod.fst (Prod.snd (Prod.snd v2)))) : Int) > (8 : Int))) (5 : Int), Sp.whn (decide (v8' ≥ (0 : Int))) (3 : Int), Sp.whn (!Sp.has [[], [(111 : UInt8), (117 : UInt8), (116 : UInt8)], [(100 : UInt8), (105 : UInt8), (115 : UInt8)], [(99 : UInt8), (117 : UInt8), (116 : UInt8)]] (Prod.snd (Prod.snd (Prod.snd v2)))) (13 : Int)] != (0 : Int))
             (.leaf (PV.dat (Sh.int IntKind.i64) (Sp.first [Sp.first [Sp.whn (!Sp.isName (Prod.fst v2)) (8 : Int), Sp.whn (Option.getD (mget Sh.str Sh.bool (Prod.fst v2) o0'') false) (9 : Int)], Sp.whn (decide ((↑(List.length (Prod.fst (Prod.snd (Prod.snd v2)))) : Int) > (8 : Int))) (5 : Int), Sp.whn (decide (v8' ≥ (0 : Int))) (3 : Int), Sp.whn (!Sp.has [[], [(111 : UInt8), (117 : UInt8), (116 : UInt8)], [(100 : UInt8), (105 : UInt8), (115 : UInt8)], [(99 : UInt8), (117 : UInt8), (116 : UInt8)]] (Prod.snd (Prod.snd (Prod.snd v2)))) (13 : Int)])) ([(Nat.add (Nat.add (3) (1 : Nat)) (1 : Nat), Obj.arr false (25 : Nat) (Sh.int IntKind.i64) [Sp.first [Sp.whn (!Sp.isName (Prod.fst v2)) (8 : Int), Sp.whn (Option.getD (mget Sh.str Sh.bool (Prod.fst v2) o0'') false) (9 : Int)], Sp.whn (decide ((↑(List.length (Prod.fst (Prod.snd (Prod.snd v2)))) : Int) > (8 : Int))) (5 : Int), Sp.whn (decide (v8' ≥ (0 : Int))) (3 : Int), Sp.whn (!Sp.has [[], [(111 : UInt8), (117 : UInt8), (116 : UInt8)], [(100 : UInt8), (105 : UInt8), (115 : UInt8)], [(99 : UInt8), (117 : UInt8), (116 : UInt8)]] (Prod.snd (Prod.snd (Prod.snd v2)))) (13 : Int)]), (Nat.add (3) (1 : Nat), Obj.arr false (25 : Nat) (Sh.int IntKind.i64) [Sp.whn (!Sp.isName (Prod.fst v2)) (8 : Int), Sp.whn (Option.getD (mget Sh.str Sh.bool (Prod.fst v2) o0'') false) (9 : Int)]), (3, Obj.arr false (9 : Nat) Sh.str [[], [(111 : UInt8), (117 : UInt8), (116 : UInt8)], [(100 : UInt8), (105 : UInt8), (115 : UInt8)], [(99 : UInt8), (117 : UInt8), (116 : UInt8)]]), (2, Obj.box [PV.dat Sh.str o2', PV.dat Sh.bool o2_1', PV.dat (Sh.list (Sh.int IntKind.i64)) o2_2', PV.dat Sh.str o2_3']), (1, Obj.box [PV.mp (0 : Nat)]), (0, Obj.map Sh.str Sh.bool (mset Sh.str Sh.bool (Prod.fst v2) true o0''))]))
             (L1 l v8 v9 (IntKind.wrap IntKind.i64 (v10 + (1 : Int))) (mset Sh.str Sh.bool (Prod.fst v2) true o0'')))
            (.fail))
           (.fail))
          (.fail))
         (.fail))
        (.fail))
       (.fail))
      (.fail))
     (.fail))
    (.fail))
   (.ite (decide (List.getD v0 (Int.toNat v8') (0 : Int) > (9999 : Int)))
    (.ite (decide ((4 : Nat) ≤ (1000000 : Nat)))
     (.ite (decide (List.length (Prod.fst v2) ≤ (1000000 : Nat)))
      (.ite (true)
       (.ite (true)
        (.ite (decide ((2 : Nat) ≤ (2 : Nat)) && true && decide ((2 : Nat) ≤ (1000000 : Nat)))
         (.ite (true)
          (.ite (true)
           (.ite (true)
            (.ite (decide ((4 : Nat) ≤ (4 : Nat)) && true && decide ((4 : Nat) ≤ (1000000 : Nat)))
             (.ite (Sp.first [Sp.first [Sp.whn (!Sp.isName (Prod.fst v2)) (8 : Int), Sp.whn (Option.getD (mget Sh.str Sh.bool (Prod.fst v2) o0'') false) (9 : Int)], Sp.whn (decide ((↑(List.length (Prod.fst (Prod.snd (Prod.snd v2)))) : Int) > (8 : Int))) (5 : Int), Sp.whn (decide (v8' ≥ (0 : Int))) (3 : Int), Sp.whn (!Sp.has [[], [(111 : UInt8), (117 : UInt8), (116 : UInt8)], [(100 : UInt8), (105 : UInt8), (115 : UInt8)], [(99 : UInt8), (117 : UInt8), (116 : UInt8)]] (Prod.snd (Prod.snd (Prod.snd v2)))) (13 : Int)] != (0 : Int))
              (.leaf (PV.dat (Sh.int IntKind.i64) (Sp.first [Sp.first [Sp.whn (!Sp.isName (Prod.fst v2)) (8 : Int), Sp.whn (Option.getD (mget Sh.str Sh.bool (Prod.fst v2) o0'') false) (9 : Int)], Sp.whn (decide ((↑(List.length (Prod.fst (Prod.snd (Prod.snd v2)))) : Int) > (8 : Int))) (5 : Int), Sp.whn (decide (v8' ≥ (0 : Int))) (3 : Int), Sp.whn (!Sp.has [[], [(111 : UInt8), (117 : UInt8), (116 : UInt8)], [(100 : UInt8), (105 : UInt8), (115 : UInt8)], [(99 : UInt8), (117 : UInt8), (116 : UInt8)]] (Prod.snd (Prod.snd (Prod.snd v2)))) (13 : Int)])) ([(Nat.add (Nat.add (3) (1 : Nat)) (1 : Nat), Obj.arr false (25 : Nat) (Sh.int IntKind.i64) [Sp.first [Sp.whn (!Sp.isName (Prod.fst v2)) (8 : Int), Sp.whn (Option.getD (mget Sh.str Sh.bool (Prod.fst v2) o0'') false) (9 : Int)], Sp.whn (decide ((↑(List.length (Prod.fst (Prod.snd (Prod.snd v2)))) : Int) > (8 : Int))) (5 : Int), Sp.whn (decide (v8' ≥ (0 : Int))) (3 : Int), Sp.whn (!Sp.has [[], [(111 : UInt8), (117 : UInt8), (116 : UInt8)], [(100 : UInt8), (105 : UInt8), (115 : UInt8)], [(99 : UInt8), (117 : UInt8), (116 : UInt8)]] (Prod.snd (Prod.snd (Prod.snd v2)))) (13 : Int)]), (Nat.add (3) (1 : Nat), Obj.arr false (25 : Nat) (Sh.int IntKind.i64) [Sp.whn (!Sp.isName (Prod.fst v2)) (8 : Int), Sp.whn (Option.getD (mget Sh.str Sh.bool (Prod.fst v2) o0'') false) (9 : Int)]), (3, Obj.arr false (9 : Nat) Sh.str [[], [(111 : UInt8), (117 : UInt8), (116 : UInt8)], [(100 : UInt8), (105 : UInt8), (115 : UInt8)], [(99 : UInt8), (117 : UInt8), (116 : UInt8)]]), (2, Obj.box [PV.dat Sh.str o2', PV.dat Sh.bool o2_1', PV.dat (Sh.list (Sh.int IntKind.i64)) o2_2', PV.dat Sh.str o2_3']), (1, Obj.box [PV.mp (0 : Nat)]), (0, Obj.map Sh.str Sh.bool (mset Sh.str Sh.bool (Prod.fst v2) true o0''))]))
              (L1 l v8 v9 (IntKind.wrap IntKind.i64 (v10 + (1 : Int))) (mset Sh.str Sh.bool (Prod.fst v2) true o0'')))
             (.fail))
            (.fail))
           (.fail))
          (.fail))
         (.fail))
        (.fail))
       (.fail))
      (.fail))
     (.fail))
    (L3 l v8 v9 v10 o0 v2 o2 o2_1 o2_2 o2_3 o0' v0 v7 (IntKind.wrap IntKind.i64 (v8' + (1 : Int))) o2' o2_1' o2_2' o2_3' o0'')))
  (.fail))
 (.ite (decide ((4 : Nat) ≤ (1000000 : Nat)))
  (.ite (decide (List.length (Prod.fst v2) ≤ (1000000 : Nat)))
   (.ite (true)
    (.ite (true)
     (.ite (decide ((2 : Nat) ≤ (2 : Nat)) && true && decide ((2 : Nat) ≤ (1000000 : Nat)))
      (.ite (true)
       (.ite (true)
        (.ite (true)
         (.ite (decide ((4 : Nat) ≤ (4 : Nat)) && true && decide ((4 : Nat) ≤ (1000000 : Nat)))
          (.ite (Sp.first [Sp.first [Sp.whn (!Sp.isName (Prod.fst v2)) (8 : Int), Sp.whn (Option.getD (mget Sh.str Sh.bool (Prod.fst v2) o0'') false) (9 : Int)], Sp.whn (decide ((↑(List.length (Prod.fst (Prod.snd (Prod.snd v2)))) : Int) > (8 : Int))) (5 : Int), Sp.whn false (3 : Int), Sp.whn (!Sp.has [[], [(111 : UInt8), (117 : UInt8), (116 : UInt8)], [(100 : UInt8), (105 : UInt8), (115 : UInt8)], [(99 : UInt8), (117 : UInt8), (116 : UInt8)]] (Prod.snd (Prod.snd (Prod.snd v2)))) (13 : Int)] != (0 : Int))
           (.leaf (PV.dat (Sh.int IntKind.i64) (Sp.first [Sp.first [Sp.whn (!Sp.isName (Prod.fst v2)) (8 : Int), Sp.whn (Option.getD (mget Sh.str Sh.bool (Prod.fst v2) o0'') false) (9 : Int)], Sp.whn (decide ((↑(List.length (Prod.fst (Prod.snd (Prod.snd v2)))) : Int) > (8 : Int))) (5 : Int), Sp.whn false (3 : Int), Sp.whn (!Sp.has [[], [(111 : UInt8), (117 : UInt8), (116 : UInt8)], [(100 : UInt8), (105 : UInt8), (115 : UInt8)], [(99 : UInt8), (117 : UInt8), (116 : UInt8)]] (Prod.snd (Prod.snd (Prod.snd v2)))) (13 : Int)])) ([(Nat.add (Nat.add (3) (1 : Nat)) (1 : Nat), Obj.arr false (25 : Nat) (Sh.int IntKind.i64) [Sp.first [Sp.whn (!Sp.isName (Prod.fst v2)) (8 : Int), Sp.whn (Option.getD (mget Sh.str Sh.bool (Prod.fst v2) o0'') false) (9 : Int)], Sp.whn (decide ((↑(List.length (Prod.fst (Prod.snd (Prod.snd v2)))) : Int) > (8 : Int))) (5 : Int), Sp.whn false (3 : Int), Sp.whn (!Sp.has [[], [(111 : UInt8), (117 : UInt8), (116 : UInt8)], [(100 : UInt8), (105 : UInt8), (115 : UInt8)], [(99 : UInt8), (117 : UInt8), (116 : UInt8)]] (Prod.snd (Prod.snd (Prod.snd v2)))) (13 : Int)]), (Nat.add (3) (1 : Nat), Obj.arr false (25 : Nat) (Sh.int IntKind.i64) [Sp.whn (!Sp.isName (Prod.fst v2)) (8 : Int), Sp.whn (Option.getD (mget Sh.str Sh.bool (Prod.fst v2) o0'') false) (9 : Int)]), (3, Obj.arr false (9 : Nat) Sh.str [[], [(111 : UInt8), (117 : UInt8), (116 : UInt8)], [(100 : UInt8), (105 : UInt8), (115 : UInt8)], [(99 : UInt8), (117 : UInt8), (116 : UInt8)]]), (2, Obj.box [PV.dat Sh.str o2', PV.dat Sh.bool o2_1', PV.dat (Sh.list (Sh.int IntKind.i64)) o2_2', PV.dat Sh.str o2_3']), (1, Obj.box [PV.mp (0 : Nat)]), (0, Obj.map Sh.str Sh.bool (mset Sh.str Sh.bool (Prod.fst v2) true o0''))]))
           (L1 l v8 v9 (IntKind.wrap IntKind.i64 (v10 + (1 : Int))) (mset Sh.str Sh.bool (Prod.fst v2) true o0'')))
          (.fail))
         (.fail))
        (.fail))
       (.fail))
      (.fail))
     (.fail))
    (.fail))
   (.fail))
  (.fail)) := by kernel_rfl
end T48
end Go.Pe
end
section
namespace Go.Pe
open Go.Det
abbrev LineT := Sp.LineT
namespace T119
theorem ok : SpecOk C7p 119 cCompare := by
  refine spec7 (X := X70) rfl hall70 (d := 9) (by kernel_rfl) (by kernel_rfl) rfl (fun (i : Int × Int) _ => ?_) (isSome_ex (by kernel_rfl))
  obtain ⟨a, b⟩ := i
  have hQ : ∀ n, n = Sp.compare a b → ∀ ob, Gives cCompare (a, b) (.dat i64 n) ob := fun n hn ob => Gives.of rfl rfl hn
  refine Ends.eq (T_eq a b) (Ends.ff (by simp) (Ends.ff (by simp) (Ends.ite (fun c => Ends.leaf (hQ _ ?_ _)) (fun c => Ends.ite (fun c2 => Ends.leaf (hQ _ ?_ _)) (fun c2 => Ends.leaf (hQ _ ?_ _))))))
  · unfold Sp.compare; rw [if_pos (of_decide_eq_true c)]
  · unfold Sp.compare; rw [if_neg (of_decide_eq_false c), if_pos (of_decide_eq_true c2)]
  · unfold Sp.compare; rw [if_neg (of_decide_eq_false c), if_neg (of_decide_eq_false c2)]
end T119
namespace T200
theorem loop {Q : PV → Ob → Prop} (l : List Int) (hl : l.length ≤ 1000000) : ∀ (r : List Int) (i : Nat), l.drop i = r → i ≤ l.length → Q (.dat i64 (Sp.first r)) [] → Ends X70 (L1 0 l l.length i) Q
  | [], i, h, hi, hq => by
    have := drop_nil h hi
    exact Ends.steq (L1_eq ..) (Ends.ff (by simp; omega) (Ends.leaf hq))
  | x :: r, i, h, hi, hq => by
    obtain ⟨h1, h2, h3⟩ := drop_cons (d := 0) h
    refine Ends.steq (L1_eq ..) (Ends.tt (by simp <;> omega) (Ends.tt (by simp <;> omega) ?_))
    simp only [Int.toNat_natCast, h2]
    rw [wr ((i : Int) + 1) (by omega) (by omega)]
    by_cases e : x = 0
    · subst e
      exact Ends.ff rfl (loop l hl r (i + 1) h3 h1 (by simpa [Sp.first] using hq))
    · exact Ends.tt (by simpa using e) (Ends.leaf (by simpa [Sp.first, e] using hq))
theorem ok : SpecOk C7p 200 cFirst := by
  refine spec7 (X := X70) rfl hall70 (d := 9) (by kernel_rfl) (by kernel_rfl) rfl (fun (l : List Int) hl => ?_) (isSome_ex (by kernel_rfl))
  exact Ends.eq (T_eq l) (loop l (by simpa [cFirst] using hl) l 0 rfl (Nat.zero_le _) (Gives.of rfl rfl rfl))
end T200
theorem hallX90 : ∀ g sp, X90.sp g = some sp → SpecOk C7p g sp :=
  sp_cons T87.ok (sp_cons T92.ok (sp_cons T94.ok (sp_cons T158.ok (sp_cons T113.ok (sp_cons T84.ok (sp_cons T112.ok (sp_cons T200.ok (sp_cons T119.ok (fun g sp h => by cases h)))))))))
theorem arg_slz {s : Sh} {sz : Nat} (hs : s.sz = sz) {ob : Ob} {id n : Nat} {c : Option Nat} {fz : Bool} {t : TypeId} {o : List s.T} (hg : obGet ob id = some (.arr fz t s o)) (hle : n = o.length) :
    argOf ⟨0, .leaf, ob, 0⟩ (.list s) (.sl id sz 0 n c) = some (true, o) := by
  subst hs hle
  unfold argOf
  have h2 : byVals ⟨0, .leaf, ob, 0⟩ (PV.cells (.sl id s.sz 0 o.length c)) = some (true, [.dat (.list s) o]) := by
    show (match byVal ⟨0, .leaf, ob, 0⟩ (.sl id s.sz 0 o.length c), some (true, []) with | some (c, x), some (d, xs) => some (c && d, x :: xs) | _, _ => none) = _
    have : byVal ⟨0, .leaf, ob, 0⟩ (.sl id s.sz 0 o.length c) = some (true, .dat (.list s) o) := by
      unfold byVal PSt.obj
      simp only [hg, Nat.beq_refl, cond_true]
      simp
    rw [this]; rfl
  simp only [isAg, Sh.isP]
  show (match byVals ⟨0, .leaf, ob, 0⟩ (PV.cells (.sl id s.sz 0 o.length c)) with | some (c, cs) => _ | none => none) = _
  rw [h2]
  have : unflat1 (.list s) [PV.dat (.list s) o] = some o := by
    unfold unflat1 unflat asD castD
    simp
  simp only [coers_list, this, Bool.true_and]
theorem res1_slz {s : Sh} {sz : Nat} (hs : s.sz = sz) {id n : Nat} {tail : Ob} {fz : Bool} {t : TypeId} {o : List s.T} (hn : n = o.length) : resOf [.list s] (.sl id sz 0 n none) ((id, .arr fz t s o) :: tail) = some (true, o) :=
  arg_slz hs (by unfold obGet; rw [Nat.beq_refl]; rfl) hn
theorem okF_of {l : List LineT} (h : Sp.okF l = true) : l.length ≤ 205 ∧ ∀ x ∈ l, Sp.okLine x = true := by
  unfold Sp.okF at h
  simp only [Bool.and_eq_true, decide_eq_true_eq, List.all_eq_true] at h
  exact h
theorem okLine_of {x : LineT} (h : Sp.okLine x = true) : x.1.length ≤ 40 ∧ x.2.2.1.length ≤ 12 ∧ x.2.2.2.length ≤ 40 := by
  unfold Sp.okLine at h
  simp only [Bool.and_eq_true, decide_eq_true_eq] at h
  exact ⟨h.1.1, h.1.2, h.2⟩
namespace T43
variable {Q : PV → Ob → Prop}
theorem L1_ends (l : List LineT) (hl : l.length ≤ 205) : ∀ (r : List LineT) (i : Nat), l.drop i = r → i ≤ l.length → Q (.bl (r.all Sp.okLine)) [] → Ends X90 (L1 l i) Q
  | [], i, h, hi, hq => by
    have := drop_nil h hi
    exact Ends.steq (L1_eq ..) (Ends.ff (by simp; omega) (Ends.leaf (by simpa using hq)))
  | x :: r, i, h, hi, hq => by
    obtain ⟨h1, h2, h3⟩ := drop_cons (d := ([], false, [], [])) h
    refine Ends.steq (L1_eq ..) (Ends.tt (by simp <;> omega) (Ends.tt (by simp <;> omega) ?_))
    simp only [Int.toNat_natCast, h2]
    rw [wr ((i : Int) + 1) (by omega) (by omega)]
    rw [List.all_cons] at hq
    have no : Sp.okLine x = false → Q (.bl false) [] := fun e => by rw [e] at hq; exact hq
    refine Ends.ite (fun c => Ends.leaf (no ?_)) (fun c => Ends.tt (by simp; omega) (Ends.ite (fun c2 => Ends.leaf (no ?_)) (fun c2 => Ends.tt (by simp; omega) (Ends.ite (fun c3 => Ends.leaf (no ?_)) (fun c3 => ?_)))))
    · have := of_decide_eq_true c
      unfold Sp.okLine; rw [decide_eq_false (show ¬ x.1.length ≤ 40 by omega)]; rfl
    · have := of_decide_eq_true c2
      unfold Sp.okLine; rw [decide_eq_false (show ¬ x.2.2.1.length ≤ 12 by omega)]; simp
    · have := of_decide_eq_true c3
      unfold Sp.okLine; rw [decide_eq_false (show ¬ x.2.2.2.length ≤ 40 by omega)]; simp
    · have e1 := of_decide_eq_false c
      have e2 := of_decide_eq_false c2
      have e3 := of_decide_eq_false c3
      have : Sp.okLine x = true := by
        unfold Sp.okLine
        rw [decide_eq_true (show x.1.length ≤ 40 by omega), decide_eq_true (show x.2.2.1.length ≤ 12 by omega), decide_eq_true (show x.2.2.2.length ≤ 40 by omega)]; rfl
      exact L1_ends l hl r (i + 1) h3 h1 (by rw [this] at hq; exact hq)
theorem ok : SpecOk C7p 43 cShortF := by
  refine spec7 (X := X90) rfl hallX90 (d := 9) (by kernel_rfl) (by kernel_rfl) rfl (fun (i : List LineT × Int) _ => ?_) (isSome_ex (by kernel_rfl))
  obtain ⟨l, n⟩ := i
  have hQ : ∀ b, Sp.shortF l n = b → Gives cShortF (l, n) (.bl b) [] := fun b hb => Gives.of rfl rfl hb.symm
  have go : l.length ≤ 205 → ((l.length : Int) ≤ n ∨ 200 < l.length) → Ends X90 (L1 l 0) (Gives cShortF (l, n)) := fun h1 h2 =>
    L1_ends l h1 l 0 rfl (Nat.zero_le _) (hQ _ (by
      unfold Sp.shortF
      rw [decide_eq_false (show ¬ 205 < l.length by omega)]
      have : (decide ((l.length : Int) > n) && decide (l.length ≤ 200)) = false := by
        rcases h2 with h | h
        · rw [decide_eq_false (show ¬ (l.length : Int) > n by omega)]; rfl
        · rw [decide_eq_false (show ¬ l.length ≤ 200 by omega), Bool.and_false]
      rw [this]; rfl))
  refine Ends.eq (T_eq l n) (Ends.ite (fun c => Ends.ite (fun c2 => Ends.leaf (hQ _ ?_)) (fun c2 => Ends.ite (fun c3 => Ends.leaf (hQ _ ?_)) (fun c3 => go ?_ ?_))) (fun c => Ends.ite (fun c3 => Ends.leaf (hQ _ ?_)) (fun c3 => go ?_ ?_)))
  · have e1 := of_decide_eq_true c
    have e2 := of_decide_eq_true c2
    unfold Sp.shortF; rw [decide_eq_true e1, decide_eq_true (show l.length ≤ 200 by omega)]; rfl
  · have e2 := of_decide_eq_true c3
    unfold Sp.shortF; rw [decide_eq_true (show 205 < l.length by omega)]; simp
  · have := of_decide_eq_false c3; omega
  · have := of_decide_eq_false c2; omega
  · have e2 := of_decide_eq_true c3
    unfold Sp.shortF; rw [decide_eq_true (show 205 < l.length by omega)]; simp
  · have := of_decide_eq_false c3; omega
  · have := of_decide_eq_false c; omega
end T43
namespace T45
variable {Q : PV → Ob → Prop}
theorem L2_ends (l : List LineT) (hl : ∀ x ∈ l, Sp.okLine x = true) (h205 : l.length ≤ 205) (hq : ∀ ob tail, ob = (0, Obj.arr false 126 shLine l) :: tail → Q (.sl 0 4 0 l.length none) ob) : ∀ (r : List LineT) (i : Nat) (acc : List LineT), l.drop i = r → i ≤ l.length → acc.length ≤ i → acc ++ r = l →
    Ends X90 (L2 acc.length l l.length i acc) Q
  | [], i, acc, h, hi, ha, he => by
    have := drop_nil h hi
    rw [List.append_nil] at he
    subst he
    exact Ends.steq (L2_eq ..) (Ends.ff (by simp; omega) (Ends.leaf (hq _ [] rfl)))
  | x :: r, i, acc, h, hi, ha, he => by
    obtain ⟨h1, h2, h3⟩ := drop_cons (d := ([], false, [], [])) h
    have hx := okLine_of (hl x (mem_drop h))
    refine Ends.steq (L2_eq ..) (Ends.tt (by simp <;> omega) (Ends.tt (by simp <;> omega) ?_))
    simp only [Int.toNat_natCast, h2]
    rw [wr ((i : Int) + 1) (by omega) (by omega)]
    refine Ends.tt (by simp; omega) (Ends.tt (by simp) (Ends.tt (by simp; omega) ?_))
    have e : Nat.add acc.length 1 = (acc ++ [x]).length := by simp
    have ex : (x.1, x.2.1, List.take (Nat.add 0 x.2.2.1.length) ([] ++ x.2.2.1), x.2.2.2) = x := by simp
    rw [ex, e]
    exact L2_ends l hl h205 hq r (i + 1) (acc ++ [x]) h3 h1 (by simp; omega) (by rw [List.append_assoc]; exact he)
theorem ok : SpecOk C7p 45 cField := by
  refine spec7 (X := X90) rfl hallX90 (d := 9) (by kernel_rfl) (by kernel_rfl) rfl (fun (l : List LineT) hl => ?_) (isSome_ex (by kernel_rfl))
  obtain ⟨h205, hok⟩ := okF_of (l := l) hl
  refine Ends.eq (T_eq l) ?_
  cases l with
  | nil => exact Ends.steq (L1_eq ..) (Ends.ff (by simp) (Ends.leaf ⟨[], rfl, rfl⟩))
  | cons x r =>
    have hx := okLine_of (hok x (by simp))
    refine Ends.steq (L1_eq ..) (Ends.tt (by simp <;> omega) (Ends.tt (by simp <;> omega) ?_))
    have e0 : (x :: r).getD (0 : Int).toNat ([], false, [], []) = x := rfl
    simp only [e0]
    rw [wr ((0 : Int) + 1) (by omega) (by omega)]
    refine Ends.tt (by simp; omega) (Ends.tt (by simp) (Ends.tt (by simp) ?_))
    have ex : (x.1, x.2.1, List.take (Nat.add 0 x.2.2.1.length) ([] ++ x.2.2.1), x.2.2.2) = x := by simp
    rw [ex]
    refine L2_ends (x :: r) hok h205 ?_ r 1 [x] rfl (by simp) (by simp) rfl
    rintro ob tail rfl
    exact ⟨x :: r, res1_slz (s := shLine) rfl rfl, rfl⟩
end T45
theorem sumW_app (l : List Int) (x : Int) : Sp.sumW (l ++ [x]) = IntKind.wrap .i64 (Sp.sumW l + x) := by unfold Sp.sumW; rw [List.foldl_append]; rfl
namespace T58
theorem loop {Q : PV → Ob → Prop} (l : List Int) (n : Int) (hl : l.length ≤ 1000000) (hq : Q (.dat i64 (Sp.sumW (l.take n.toNat))) []) : ∀ (r : List Int) (i : Nat), l.drop i = r → i ≤ l.length → ((i : Int) ≤ n ∨ i = 0) → Ends X90 (L1 l n (Sp.sumW (l.take i)) i) Q
  | [], i, h, hi, hn => by
    have := drop_nil h hi
    have e : l.take n.toNat = l.take i := by rw [List.take_of_length_le (by omega), List.take_of_length_le (by omega)]
    rw [e] at hq
    exact Ends.steq (L1_eq ..) (Ends.ff (by simp; omega) (Ends.leaf hq))
  | x :: r, i, h, hi, hn => by
    obtain ⟨h1, h2, h3⟩ := drop_cons (d := 0) h
    refine Ends.steq (L1_eq ..) (Ends.tt (by simp <;> omega) (Ends.ite (fun c => Ends.tt (by simp <;> omega) ?_) (fun c => ?_)))
    · simp only [Int.toNat_natCast, h2]
      rw [wr ((i : Int) + 1) (by omega) (by omega), ← sumW_app, ← take_next h]
      have := of_decide_eq_true c
      exact loop l n hl hq r (i + 1) h3 h1 (by omega)
    · have := of_decide_eq_false c
      have e : n.toNat = i := by omega
      rw [e] at hq
      exact Ends.leaf hq
theorem ok : SpecOk C7p 58 cSum := by
  refine spec7 (X := X90) rfl hallX90 (d := 9) (by kernel_rfl) (by kernel_rfl) rfl (fun (i : List Int × Int) hl => ?_) (isSome_ex (by kernel_rfl))
  obtain ⟨l, n⟩ := i
  exact Ends.eq (T_eq l n) (loop l n (by simpa [cSum] using hl) (Gives.of rfl rfl rfl) l 0 rfl (Nat.zero_le _) (.inr rfl))
end T58
namespace T120
variable {Q : PV → Ob → Prop}
theorem L2_ends (l : List LineT) (h205 : l.length ≤ 205) (hq : ∀ ob tail, ob = (0, Obj.arr false 9 .str (Sp.lnames l)) :: tail → Q (.sl 0 1 0 (Sp.lnames l).length none) ob) : ∀ (r : List LineT) (i : Nat) (acc : List (List UInt8)), l.drop i = r → i ≤ l.length → acc.length ≤ i → acc ++ Sp.lnames r = Sp.lnames l →
    Ends X90 (L2 l acc.length i acc) Q
  | [], i, acc, h, hi, ha, he => by
    have := drop_nil h hi
    have he : acc = Sp.lnames l := by simpa [Sp.lnames] using he
    subst he
    exact Ends.steq (L2_eq ..) (Ends.ff (by simp; omega) (Ends.leaf (hq _ [] rfl)))
  | x :: r, i, acc, h, hi, ha, he => by
    obtain ⟨h1, h2, h3⟩ := drop_cons (d := ([], false, [], [])) h
    refine Ends.steq (L2_eq ..) (Ends.tt (by simp <;> omega) (Ends.tt (by simp <;> omega) (Ends.tt (by simp; omega) ?_)))
    simp only [Int.toNat_natCast, h2]
    rw [wr ((i : Int) + 1) (by omega) (by omega)]
    have e : Nat.add acc.length 1 = (acc ++ [x.1]).length := by simp
    rw [e]
    exact L2_ends l h205 hq r (i + 1) (acc ++ [x.1]) h3 h1 (by simp; omega) (by rw [List.append_assoc]; exact he)
theorem ok : SpecOk C7p 120 cLNames := by
  refine spec7 (X := X90) rfl hallX90 (d := 9) (by kernel_rfl) (by kernel_rfl) rfl (fun (l : List LineT) hl => ?_) (isSome_ex (by kernel_rfl))
  obtain ⟨h205, hok⟩ := okF_of (l := l) hl
  refine Ends.eq (T_eq l) ?_
  cases l with
  | nil => exact Ends.steq (L1_eq ..) (Ends.ff (by simp) (Ends.leaf ⟨[], rfl, rfl⟩))
  | cons x r =>
    refine Ends.steq (L1_eq ..) (Ends.tt (by simp <;> omega) (Ends.tt (by simp <;> omega) (Ends.tt (by simp) ?_)))
    have e0 : (x :: r).getD (0 : Int).toNat ([], false, [], []) = x := rfl
    simp only [e0]
    rw [wr ((0 : Int) + 1) (by omega) (by omega)]
    refine L2_ends (x :: r) h205 ?_ r 1 [x.1] rfl (by simp) (by simp) rfl
    rintro ob tail rfl
    exact ⟨Sp.lnames (x :: r), res1_sl rfl rfl, rfl⟩
end T120
namespace T116
theorem loop {Q : PV → Ob → Prop} (l : List Int) (hl : l.length ≤ 1000000) (hq : Q (.dat i64 (Sp.sumW l)) []) : ∀ (r : List Int) (i : Nat), l.drop i = r → i ≤ l.length → Ends X90 (L1 (Sp.sumW (l.take i)) l l.length i) Q
  | [], i, h, hi => by
    have := drop_nil h hi
    rw [List.take_of_length_le (by omega)]
    exact Ends.steq (L1_eq ..) (Ends.ff (by simp; omega) (Ends.leaf hq))
  | x :: r, i, h, hi => by
    obtain ⟨h1, h2, h3⟩ := drop_cons (d := 0) h
    refine Ends.steq (L1_eq ..) (Ends.tt (by simp <;> omega) (Ends.tt (by simp <;> omega) ?_))
    simp only [Int.toNat_natCast, h2]
    rw [wr ((i : Int) + 1) (by omega) (by omega), ← sumW_app, ← take_next h]
    exact loop l hl hq r (i + 1) h3 h1
theorem ok : SpecOk C7p 116 cTotal := by
  refine spec7 (X := X90) rfl hallX90 (d := 9) (by kernel_rfl) (by kernel_rfl) rfl (fun (i : LineT × Int) hi => ?_) (isSome_ex (by kernel_rfl))
  obtain ⟨x, n⟩ := i
  have hi : (Sp.okS x && decide (0 ≤ n) && decide (n ≤ (x.2.2.1.length : Int))) = true := hi
  simp only [Bool.and_eq_true, decide_eq_true_eq, Sp.okS] at hi
  refine Ends.eq (T_eq x n) (Ends.tt (by simp; omega) ?_)
  refine loop (x.2.2.1.take n.toNat) (by simp; omega) (Gives.of rfl rfl rfl) _ 0 rfl (Nat.zero_le _)
end T116
end Go.Pe
end
section
namespace Go.Pe
open Go.Det
namespace T125
theorem loop {Q : PV → Ob → Prop} (a l : List (List UInt8)) (y s : List UInt8) (hl : l.length ≤ 1000000) (hq : ∀ b, b = Sp.has l s → Q (.dat .bool b) []) : ∀ (r : List (List UInt8)) (i : Nat), l.drop i = r → i ≤ l.length → (Sp.has l s = Sp.has r s) → Ends X90 (L1 a y l s l.length i) Q
  | [], i, h, hi, he => by
    have := drop_nil h hi
    exact Ends.steq (L1_eq ..) (Ends.ff (by simp; omega) (Ends.leaf (hq _ (by rw [he]; rfl))))
  | x :: r, i, h, hi, he => by
    obtain ⟨h1, h2, h3⟩ := drop_cons (d := []) h
    refine Ends.steq (L1_eq ..) (Ends.tt (by simp <;> omega) (Ends.tt (by simp <;> omega) ?_))
    simp only [Int.toNat_natCast, h2]
    rw [wr ((i : Int) + 1) (by omega) (by omega)]
    by_cases e : s = x
    · subst e
      refine Ends.tt (by simp) (Ends.leaf (hq _ ?_))
      rw [he]
      have : Sp.has (s :: r) s = true := by simp [Sp.has]
      rw [this]; simp
    · refine Ends.ff (by simpa using e) (loop a l y s hl hq r (i + 1) h3 h1 ?_)
      rw [he]; simp [Sp.has, e]
theorem ok : SpecOk C7p 125 cHas := by
  refine spec7 (X := X90) rfl hallX90 (d := 9) (by kernel_rfl) (by kernel_rfl) rfl (fun (i : List (List UInt8) × List UInt8) hl => ?_) (isSome_ex (by kernel_rfl))
  obtain ⟨l, s⟩ := i
  exact Ends.eq (T_eq l s) (loop l l s s (by simpa [cHas] using hl) (fun b hb => Gives.of rfl rfl hb) l 0 rfl (Nat.zero_le _) rfl)
end T125
theorem hallX91 : ∀ g sp, X91.sp g = some sp → SpecOk C7p g sp := sp_cons T125.ok (sp_cons T116.ok (sp_cons T58.ok (sp_cons T120.ok hallX90)))
abbrev DL : LineT := ([], false, [], [])
theorem orE0 (b : Int) : Sp.orE 0 b = b := rfl
theorem lnames_drop {l r : List LineT} {x : LineT} {i : Nat} (h : l.drop i = x :: r) : (Sp.lnames l).drop i = x.1 :: Sp.lnames r := by
  unfold Sp.lnames; rw [← List.map_drop, h]; rfl
theorem lnames_len (l : List LineT) : (Sp.lnames l).length = l.length := by simp [Sp.lnames]
theorem lnames_okN {l : List LineT} (h : Sp.okF l = true) : Sp.okN (Sp.lnames l) = true := by
  obtain ⟨h1, h2⟩ := okF_of h
  unfold Sp.okN
  rw [lnames_len, decide_eq_true (show l.length ≤ 300 by omega), Bool.true_and, List.all_eq_true]
  intro s hs
  unfold Sp.lnames at hs
  obtain ⟨x, hx, rfl⟩ := List.mem_map.1 hs
  exact decide_eq_true (okLine_of (h2 x hx)).1
theorem out_far (y : Int) (r : List Int) : Sp.orE (Sp.out y 1 9999) (if Sp.far r = true then 3 else 0) = if Sp.far (y :: r) = true then 3 else 0 := by
  unfold Sp.out Sp.far
  rw [List.any_cons]
  by_cases h1 : y < 1
  · rw [if_pos h1, decide_eq_true h1]; rfl
  · rw [if_neg h1, decide_eq_false h1]
    by_cases h2 : y > 9999
    · rw [if_pos h2, decide_eq_true h2]; rfl
    · rw [if_neg h2, decide_eq_false h2]; rfl
theorem orE_assoc (a b c : Int) : Sp.orE (Sp.orE a b) c = Sp.orE a (Sp.orE b c) := by
  unfold Sp.orE
  by_cases h : a = 0
  · rw [if_pos h, if_pos h]
  · rw [if_neg h, if_neg h, if_neg h]
namespace T46
variable {Q : PV → Ob → Prop}
theorem L2_ends (l : List LineT) (ns : List (List UInt8)) (i : Nat) (x : LineT) (hx : l.getD i DL = x) (hi : i < l.length) (h205 : l.length ≤ 205) (h12 : x.2.2.1.length ≤ 12) (w : Int) (hq : w ≠ 0 → ∀ ob, Q (.dat i64 w) ob) (hgo : w = 0 → Ends X91 (L1 l ns ((i : Int) + 1)) Q) :
    ∀ (r : List Int) (k : Nat) (e : Int), x.2.2.1.drop k = r → k ≤ x.2.2.1.length → Sp.orE e (Sp.orE (if Sp.far r = true then 3 else 0) (if Sp.known x.2.2.2 = true then 0 else 13)) = w → Ends X91 (L2 l ns i e k) Q
  | r, k, e, h, hk, hw => by
    refine Ends.steq (L2_eq ..) ?_
    have hx' : l.getD i ([], false, [], []) = x := hx
    simp only [Int.toNat_natCast, hx']
    rw [wr ((i : Int) + 1) (by omega) (by omega), wr ((k : Int) + 1) (by omega) (by omega)]
    have ir : (decide ((0 : Int) ≤ (i : Int)) && decide ((i : Int) < (l.length : Int))) = true := by simp; omega
    refine Ends.tt ir ?_
    by_cases he : e = 0
    · subst he
      rw [orE0] at hw
      cases r with
      | nil =>
        have hk := drop_nil h hk
        refine Ends.ff (by simp; omega) (Ends.tt ir (Ends.tt rfl ?_))
        have hw : (if Sp.known x.2.2.2 = true then (0 : Int) else 13) = w := hw
        have yes : Sp.known x.2.2.2 = true → Ends X91 (L1 l ns ((i : Int) + 1)) Q := fun e => hgo (by rw [if_pos e] at hw; exact hw.symm)
        refine Ends.ite (fun c1 => Ends.ite (fun c2 => Ends.ite (fun c3 => Ends.ite (fun c4 => Ends.tt rfl (Ends.leaf ?_)) (fun c4 => Ends.ff rfl (yes ?_))) (fun c3 => Ends.ff rfl (yes ?_))) (fun c2 => Ends.ff rfl (yes ?_))) (fun c1 => Ends.ff rfl (yes ?_))
        · have hn : Sp.known x.2.2.2 = false := by
            simp only [Bool.not_eq_true', beq_eq_false_iff_ne, ne_eq] at c1 c2 c3 c4
            unfold Sp.known
            rw [decide_eq_false c1, decide_eq_false (show ¬ _ = Sp.sOut from c3), decide_eq_false (show ¬ _ = Sp.sDis from c4), decide_eq_false (show ¬ _ = Sp.sCut from c2)]; rfl
          rw [hn, if_neg (by simp)] at hw
          subst hw
          exact hq (by decide) _
        all_goals simp only [Bool.not_eq_false', beq_iff_eq] at *
        · rw [c4]; rfl
        · rw [c3]; rfl
        · rw [c2]; rfl
        · rw [c1]; rfl
      | cons y r =>
        obtain ⟨g1, g2, g3⟩ := drop_cons (d := 0) h
        refine Ends.tt (by simp; omega) (Ends.tt rfl (Ends.tt ir (Ends.tt (by simp; omega) (Ends.tt rfl ?_))))
        rw [g2]
        refine L2_ends l ns i x hx hi h205 h12 w hq hgo r (k + 1) _ g3 g1 ?_
        rw [← orE_assoc, out_far]; exact hw
    · have hw : e = w := by unfold Sp.orE at hw; rw [if_neg he] at hw; exact hw
      subst hw
      have b0 : (e == 0) = false := by simpa using he
      have b1 : (e != 0) = true := by simpa using he
      exact Ends.ite (fun _ => Ends.ff b0 (Ends.tt ir (Ends.ff b0 (Ends.tt b1 (Ends.leaf (hq he _)))))) (fun _ => Ends.tt ir (Ends.ff b0 (Ends.tt b1 (Ends.leaf (hq he _)))))
  termination_by r => r.length
theorem L1_ends (l : List LineT) (hok : Sp.okF l = true) (w : Int) (hq : ∀ ob, Q (.dat i64 w) ob) : ∀ (r : List LineT) (i : Nat), l.drop i = r → i ≤ l.length → Sp.linesE ((Sp.lnames l).take i) r = w → Ends X91 (L1 l (Sp.lnames l) i) Q
  | [], i, h, hi, hw => by
    have := drop_nil h hi
    refine Ends.steq (L1_eq ..) (Ends.ff (by simp; omega) (Ends.leaf ?_))
    rw [show (0 : Int) = w from hw]; exact hq _
  | x :: r, i, h, hi, hw => by
    obtain ⟨h1, h2, h3⟩ := drop_cons (d := DL) h
    obtain ⟨h205, hall⟩ := okF_of hok
    have hx := okLine_of (hall x (mem_drop h))
    obtain ⟨n1, n2, n3⟩ := drop_cons (d := []) (lnames_drop h)
    refine Ends.steq (L1_eq ..) (Ends.tt (by simp <;> omega) (Ends.tt (by rw [lnames_okN hok, lnames_len]; simp; omega) ?_))
    have h2' : l.getD i ([], false, [], []) = x := h2
    simp only [Int.toNat_natCast, h2', n2]
    have hw' : Sp.orE (Sp.lineE ((Sp.lnames l).take i) x) (Sp.linesE ((Sp.lnames l).take (i + 1)) r) = w := by rw [take_next (lnames_drop h)]; exact hw
    have go : Sp.lineE ((Sp.lnames l).take i) x = 0 → Ends X91 (L1 l (Sp.lnames l) ((i : Int) + 1)) Q := fun e => by
      rw [e, orE0] at hw'
      exact L1_ends l hok w hq r (i + 1) h3 h1 hw'
    have er : Sp.lineE ((Sp.lnames l).take i) x ≠ 0 → ∀ ob, Q (.dat i64 (Sp.lineE ((Sp.lnames l).take i) x)) ob := fun e ob => by
      unfold Sp.orE at hw'; rw [if_neg e] at hw'; rw [hw']; exact hq ob
    have L2' := L2_ends l (Sp.lnames l) i x h2 h1 h205 hx.2.1 _ er go x.2.2.1 0
    by_cases hn : Sp.nameErr ((Sp.lnames l).take i) x.1 = 0
    · rw [hn]
      refine Ends.tt rfl (Ends.tt (by simp; omega) (Ends.ite (fun c => ?_) (fun c => ?_)))
      · refine L2' 5 rfl (Nat.zero_le _) ?_
        unfold Sp.lineE; rw [hn, if_pos (show 8 < x.2.2.1.length by have := of_decide_eq_true c; omega)]; rfl
      · refine L2' 0 rfl (Nat.zero_le _) ?_
        unfold Sp.lineE; rw [hn, if_neg (show ¬ 8 < x.2.2.1.length by have := of_decide_eq_false c; omega)]; rfl
    · refine Ends.ff (by simpa using hn) (L2' _ rfl (Nat.zero_le _) ?_)
      unfold Sp.lineE Sp.orE; rw [if_neg hn, if_neg hn]
theorem ok : SpecOk C7p 46 cCheckF := by
  refine spec7 (X := X91) rfl hallX91 (d := 9) (by kernel_rfl) (by kernel_rfl) rfl (fun (l : List LineT) hl => ?_) (isSome_ex (by kernel_rfl))
  have hl : Sp.okF l = true := hl
  refine Ends.eq (T_eq l) (Ends.ite (fun c => ?_) (fun c => Ends.tt hl ?_))
  · refine Ends.leaf (Gives.of rfl rfl ?_)
    show _ = Sp.fieldE l
    unfold Sp.fieldE; rw [if_pos (by have := of_decide_eq_true c; omega)]
  · refine L1_ends l hl (Sp.fieldE l) (fun ob => Gives.of rfl rfl rfl) l 0 rfl (Nat.zero_le _) ?_
    unfold Sp.fieldE; rw [if_neg (by have := of_decide_eq_false c; omega)]; rfl
end T46
end Go.Pe
end
section
namespace Go.Sp
/-- the places of one rank, from line i on -/
def row (l : List LineT) (r : Int) (i : Nat) : List LineT → List PlaceT
  | [] => []
  | x :: s => if rankOf false l x = r then ((i : Int), r, sumW (x.2.2.1.take 8)) :: row l r (i + 1) s else row l r (i + 1) s
end Go.Sp
end
section
namespace Go.Pe
open Go.Det
theorem okS_of {x : LineT} (h : Sp.okS x = true) : x.2.2.1.length ≤ 12 := by unfold Sp.okS at h; exact of_decide_eq_true h
end Go.Pe
end
section
namespace Go.Pe
open Go.Det
end Go.Pe
end
section
namespace Go.Pe
open Go.Det
end Go.Pe
end
