import Derived.Test.YtnbinppdjnlhpaaGreatDoorX19
/- A part of the proofs of the laws of one chapter (no law is stated here). Made by program out of texts by AI agents. -/
section
/- Decision trees, by program. -/
namespace Go.Pe
open Go.Det
namespace T87
noncomputable def T (l : List Int) : Tr := tree X70 false 9 87 (valsOf ([Sh.list (Sh.int IntKind.i64)]) l)
/-- function 87, region 2 -/
noncomputable def L1 (v5 : List Int) (v6 : Int) (v7 : Int) : Tr := re ((T [])) (mkSt (15) [(5, PV.dat (Sh.list (Sh.int IntKind.i64)) v5), (6, PV.dat (Sh.int IntKind.i64) v6), (7, PV.dat (Sh.int IntKind.i64) v7)] [] (0))
theorem T_eq (l : List Int) : T l = L1 l ((↑(List.length l) : Int)) ((0 : Int)) := by kernel_rfl
theorem L1_eq (v5 : List Int) (v6 : Int) (v7 : Int) : stepT X70 (L1 v5 v6 v7) = .ite (decide (v7 < v6))
 (.ite (decide ((0 : Int) ≤ v7) && decide (v7 < (↑(List.length v5) : Int)))
  (.ite (List.getD v5 (Int.toNat v7) (0 : Int) != (0 : Int))
   (.leaf (PV.dat (Sh.int IntKind.i64) (List.getD v5 (Int.toNat v7) (0 : Int))) ([]))
   (L1 v5 v6 (IntKind.wrap IntKind.i64 (v7 + (1 : Int)))))
  (.fail))
 (.leaf (PV.dat (Sh.int IntKind.i64) (0 : Int)) ([])) := by kernel_rfl
end T87
namespace T88
noncomputable def T (n : Int) (a : Int) (b : Int) : Tr := tree X70 false 9 88 (valsOf ([Sh.int IntKind.i64, Sh.int IntKind.i64, Sh.int IntKind.i64]) (n, a, b))
theorem T_eq (n : Int) (a : Int) (b : Int) : T n a b = .ite (decide (n < a))
 (.leaf (PV.dat (Sh.int IntKind.i64) (3 : Int)) ([]))
 (.ite (decide (n > b))
  (.leaf (PV.dat (Sh.int IntKind.i64) (3 : Int)) ([]))
  (.leaf (PV.dat (Sh.int IntKind.i64) (0 : Int)) ([]))) := by kernel_rfl
end T88
namespace T92
noncomputable def T (c : Bool) (e : Int) : Tr := tree X70 false 9 92 (valsOf ([Sh.bool, Sh.int IntKind.i64]) (c, e))
theorem T_eq (c : Bool) (e : Int) : T c e = .ite (c)
 (.leaf (PV.dat (Sh.int IntKind.i64) e) ([]))
 (.leaf (PV.dat (Sh.int IntKind.i64) (0 : Int)) ([])) := by kernel_rfl
end T92
namespace T93
noncomputable def T (l : List Int) (x : Int) : Tr := tree X70 false 9 93 (valsOf ([Sh.list (Sh.int IntKind.i64), Sh.int IntKind.i64]) (l, x))
/-- function 93, region 2 -/
noncomputable def L1 (v0 : List Int) (v1 : Int) (v7 : Int) (v8 : Int) : Tr := re ((T [] (0 : Int))) (mkSt (19) [(0, PV.dat (Sh.list (Sh.int IntKind.i64)) v0), (1, PV.dat (Sh.int IntKind.i64) v1), (7, PV.dat (Sh.int IntKind.i64) v7), (8, PV.dat (Sh.int IntKind.i64) v8)] [] (0))
theorem T_eq (l : List Int) (x : Int) : T l x = L1 l x ((↑(List.length l) : Int)) ((0 : Int)) := by kernel_rfl
theorem L1_eq (v0 : List Int) (v1 : Int) (v7 : Int) (v8 : Int) : stepT X70 (L1 v0 v1 v7 v8) = .ite (decide (v8 < v7))
 (.ite (decide ((0 : Int) ≤ v8) && decide (v8 < (↑(List.length v0) : Int)))
  (.ite (v1 == List.getD v0 (Int.toNat v8) (0 : Int))
   (.leaf (PV.dat (Sh.int IntKind.i64) v8) ([]))
   (L1 v0 v1 v7 (IntKind.wrap IntKind.i64 (v8 + (1 : Int)))))
  (.fail))
 (.leaf (PV.dat (Sh.int IntKind.i64) (-1 : Int)) ([])) := by kernel_rfl
end T93
namespace T95
noncomputable def T (n : Int) : Tr := tree X70 false 9 95 (valsOf ([Sh.int IntKind.i64]) n)
/-- function 95, region 2 -/
noncomputable def L1 (v0 : Int) (v3 : Int) : Tr := re ((T (0 : Int))) (mkSt (10) [(0, PV.dat (Sh.int IntKind.i64) v0), (3, PV.dat (Sh.int IntKind.i64) v3)] [] (0))
theorem T_eq (n : Int) : T n = L1 n ((1 : Int)) := by kernel_rfl
theorem L1_eq (v0 : Int) (v3 : Int) : stepT X70 (L1 v0 v3) = .ite (decide (v3 < v0))
 (L1 v0 (IntKind.wrap IntKind.i64 ((2 : Int) * v3)))
 (.leaf (PV.dat (Sh.int IntKind.i64) v3) ([])) := by kernel_rfl
end T95
namespace T21
noncomputable def T (l : List Int) : Tr := tree X70 false 9 21 (valsOf ([Sh.list (Sh.int IntKind.i64)]) l)
/-- function 21, region 2 -/
noncomputable def L1 (v5 : List Int) (v6 : Int) (v7 : Int) : Tr := re ((T [])) (mkSt (15) [(5, PV.dat (Sh.list (Sh.int IntKind.i64)) v5), (6, PV.dat (Sh.int IntKind.i64) v6), (7, PV.dat (Sh.int IntKind.i64) v7)] [] (0))
theorem T_eq (l : List Int) : T l = L1 l ((↑(List.length l) : Int)) ((0 : Int)) := by kernel_rfl
theorem L1_eq (v5 : List Int) (v6 : Int) (v7 : Int) : stepT X70 (L1 v5 v6 v7) = .ite (decide (v7 < v6))
 (.ite (decide ((0 : Int) ≤ v7) && decide (v7 < (↑(List.length v5) : Int)))
  (.ite (List.getD v5 (Int.toNat v7) (0 : Int) != (0 : Int))
   (.leaf (PV.dat (Sh.int IntKind.i64) (List.getD v5 (Int.toNat v7) (0 : Int))) ([]))
   (L1 v5 v6 (IntKind.wrap IntKind.i64 (v7 + (1 : Int)))))
  (.fail))
 (.leaf (PV.dat (Sh.int IntKind.i64) (0 : Int)) ([])) := by kernel_rfl
end T21
namespace T22
noncomputable def T (n : Int) (a : Int) (b : Int) : Tr := tree X70 false 9 22 (valsOf ([Sh.int IntKind.i64, Sh.int IntKind.i64, Sh.int IntKind.i64]) (n, a, b))
theorem T_eq (n : Int) (a : Int) (b : Int) : T n a b = .ite (decide (n < a))
 (.leaf (PV.dat (Sh.int IntKind.i64) (3 : Int)) ([]))
 (.ite (decide (n > b))
  (.leaf (PV.dat (Sh.int IntKind.i64) (3 : Int)) ([]))
  (.leaf (PV.dat (Sh.int IntKind.i64) (0 : Int)) ([]))) := by kernel_rfl
end T22
namespace T94
noncomputable def T (n : Int) (a : Int) (b : Int) : Tr := tree X70 false 9 94 (valsOf ([Sh.int IntKind.i64, Sh.int IntKind.i64, Sh.int IntKind.i64]) (n, a, b))
theorem T_eq (n : Int) (a : Int) (b : Int) : T n a b = .ite (decide (n < a))
 (.leaf (PV.dat (Sh.int IntKind.i64) (3 : Int)) ([]))
 (.ite (decide (n > b))
  (.leaf (PV.dat (Sh.int IntKind.i64) (3 : Int)) ([]))
  (.leaf (PV.dat (Sh.int IntKind.i64) (0 : Int)) ([]))) := by kernel_rfl
end T94
namespace T27
noncomputable def T (a : List Int) (b : List Int) : Tr := tree X70 false 9 27 (valsOf ([Sh.list (Sh.int IntKind.i64), Sh.list (Sh.int IntKind.i64)]) (a, b))
/-- function 27, region 4 -/
noncomputable def L1 (v0 : List Int) (v1 : List Int) (v5 : Int) : Tr := re ((T [] []).R) (mkSt (26) [(0, PV.dat (Sh.list (Sh.int IntKind.i64)) v0), (1, PV.dat (Sh.list (Sh.int IntKind.i64)) v1), (5, PV.dat (Sh.int IntKind.i64) v5)] [] (0))
theorem T_eq (a : List Int) (b : List Int) : T a b = .ite ((↑(List.length a) : Int) != (↑(List.length b) : Int))
 (.leaf (PV.bl false) ([]))
 (L1 a b ((0 : Int))) := by kernel_rfl
theorem L1_eq (v0 : List Int) (v1 : List Int) (v5 : Int) : stepT X70 (L1 v0 v1 v5) = .ite (decide (v5 < (↑(List.length v0) : Int)))
 (.ite (decide ((0 : Int) ≤ v5) && decide (v5 < (↑(List.length v0) : Int)))
  (.ite (decide ((0 : Int) ≤ v5) && decide (v5 < (↑(List.length v1) : Int)))
   (.ite (List.getD v0 (Int.toNat v5) (0 : Int) != List.getD v1 (Int.toNat v5) (0 : Int))
    (.leaf (PV.bl false) ([]))
    (L1 v0 v1 (IntKind.wrap IntKind.i64 (v5 + (1 : Int)))))
   (.fail))
  (.fail))
 (.leaf (PV.bl true) ([])) := by kernel_rfl
end T27
namespace T90
noncomputable def T (n : Int) (key : Int) : Tr := tree X70 false 9 90 (valsOf ([Sh.int IntKind.i64, Sh.int IntKind.i64]) (n, key))
/-- function 101, region 3 -/
noncomputable def L1 (n : Int) (key : Int) (v3n : Nat) (v8 : Int) (v9 : Int) (o0 : List Int) : Tr := re ((T n key).L) (mkSt (18) [(3, PV.sl (0) (1) (0) v3n none), (8, PV.dat (Sh.int IntKind.i64) v8), (9, PV.dat (Sh.int IntKind.i64) v9)] [(0, Obj.arr false (3) (Sh.int IntKind.i64) o0)] (1))
theorem T_eq (n : Int) (key : Int) : T n key = .ite (decide ((0 : Int) ≤ n) && decide (n = n) && decide ((8 : Nat) * Int.toNat n ≤ (281474976710656 : Nat)) && decide (n < (9223372036854775808 : Int)))
 (L1 n key (Int.toNat n) ((↑(Int.toNat n) : Int)) ((0 : Int)) (List.replicate (Int.toNat n) (0 : Int)))
 (.fail) := by kernel_rfl
/-- function 90, region 3 -/
noncomputable def L2 (v1 : Int) (v5n : Nat) (v6 : Int) (o0 : List Int) : Tr := re ((stepT X70 (L1 (0 : Int) (0 : Int) 0 (0 : Int) (0 : Int) [])).R) (mkSt (38) [(1, PV.dat (Sh.int IntKind.i64) v1), (5, PV.sl (0) (1) (0) v5n none), (6, PV.dat (Sh.int IntKind.i64) v6)] [(0, Obj.arr false (3) (Sh.int IntKind.i64) o0)] (1))
theorem L1_eq (n : Int) (key : Int) (v3n : Nat) (v8 : Int) (v9 : Int) (o0 : List Int) : stepT X70 (L1 n key v3n v8 v9 o0) = .ite (decide (v9 < v8))
 (.ite (decide ((0 : Int) ≤ v9) && decide (v9 < (↑v3n : Int)))
  (.ite (decide (Int.toNat v9 < List.length o0))
   (L1 n key v3n v8 (IntKind.wrap IntKind.i64 (v9 + (1 : Int))) (List.set o0 (Int.toNat v9) v9))
   (.fail))
  (.fail))
 (L2 key v3n (IntKind.wrap IntKind.i64 (n - (1 : Int))) o0) := by kernel_rfl
theorem L2_eq (v1 : Int) (v5n : Nat) (v6 : Int) (o0 : List Int) : stepT X70 (L2 v1 v5n v6 o0) = .ite (decide (v6 ≥ (1 : Int)))
 (.ite (true)
  (.ite (decide (IntKind.wrap IntKind.i64 (v6 + (1 : Int)) ≠ (0 : Int)))
   (.ite (decide ((0 : Int) ≤ Int.tmod (Int.tmod (IntKind.wrap IntKind.i64 ((48271 : Int) * v1)) (2147483647 : Int)) (IntKind.wrap IntKind.i64 (v6 + (1 : Int)))) && decide (Int.tmod (Int.tmod (IntKind.wrap IntKind.i64 ((48271 : Int) * v1)) (2147483647 : Int)) (IntKind.wrap IntKind.i64 (v6 + (1 : Int))) < (↑v5n : Int)))
    (.ite (decide (Int.toNat (Int.tmod (Int.tmod (IntKind.wrap IntKind.i64 ((48271 : Int) * v1)) (2147483647 : Int)) (IntKind.wrap IntKind.i64 (v6 + (1 : Int)))) < List.length o0))
     (.ite (decide ((0 : Int) ≤ v6) && decide (v6 < (↑v5n : Int)))
      (.ite (decide (Int.toNat v6 < List.length o0))
       (.ite (decide ((0 : Int) ≤ v6) && decide (v6 < (↑v5n : Int)))
        (.ite (decide (Int.toNat v6 < List.length o0))
         (.ite (decide ((0 : Int) ≤ Int.tmod (Int.tmod (IntKind.wrap IntKind.i64 ((48271 : Int) * v1)) (2147483647 : Int)) (IntKind.wrap IntKind.i64 (v6 + (1 : Int)))) && decide (Int.tmod (Int.tmod (IntKind.wrap IntKind.i64 ((48271 : Int) * v1)) (2147483647 : Int)) (IntKind.wrap IntKind.i64 (v6 + (1 : Int))) < (↑v5n : Int)))
          (.ite (decide (Int.toNat (Int.tmod (Int.tmod (IntKind.wrap IntKind.i64 ((48271 : Int) * v1)) (2147483647 : Int)) (IntKind.wrap IntKind.i64 (v6 + (1 : Int)))) < List.length (List.set o0 (Int.toNat v6) (List.getD o0 (Int.toNat (Int.tmod (Int.tmod (IntKind.wrap IntKind.i64 ((48271 : Int) * v1)) (2147483647 : Int)) (IntKind.wrap IntKind.i64 (v6 + (1 : Int))))) (0 : Int)))))
           (L2 (Int.tmod (IntKind.wrap IntKind.i64 ((48271 : Int) * v1)) (2147483647 : Int)) v5n (IntKind.wrap IntKind.i64 (v6 - (1 : Int))) (List.set (List.set o0 (Int.toNat v6) (List.getD o0 (Int.toNat (Int.tmod (Int.tmod (IntKind.wrap IntKind.i64 ((48271 : Int) * v1)) (2147483647 : Int)) (IntKind.wrap IntKind.i64 (v6 + (1 : Int))))) (0 : Int))) (Int.toNat (Int.tmod (Int.tmod (IntKind.wrap IntKind.i64 ((48271 : Int) * v1)) (2147483647 : Int)) (IntKind.wrap IntKind.i64 (v6 + (1 : Int))))) (List.getD o0 (Int.toNat v6) (0 : Int))))
           (.fail))
          (.fail))
         (.fail))
        (.fail))
       (.fail))
      (.fail))
     (.fail))
    (.fail))
   (.fail))
  (.fail))
 (.leaf (PV.sl (0) (1) (0) v5n none) ([(0, Obj.arr false (3) (Sh.int IntKind.i64) o0)])) := by kernel_rfl
end T90
namespace T91
noncomputable def T (n : Int) : Tr := tree X70 false 9 91 (valsOf ([Sh.int IntKind.i64]) n)
/-- function 91, region 2 -/
noncomputable def L1 (v0 : Int) (v3n : Nat) (o0 : List Int) : Tr := re ((T (0 : Int))) (mkSt (47) [(0, PV.dat (Sh.int IntKind.i64) v0), (3, PV.sl (0) (1) (0) v3n none)] [(0, Obj.arr false (3) (Sh.int IntKind.i64) o0)] (1))
theorem T_eq (n : Int) : T n = L1 n ((1 : Nat)) ([(1 : Int)]) := by kernel_rfl
/-- function 91, region 5 -/
noncomputable def L2 (v0 : Int) (v3n : Nat) (v14n : Nat) (v15 : Int) (v16 : Int) (o0 : List Int) : Tr := re ((stepT X70 (L1 (0 : Int) 0 [])).L) (mkSt (47) [(0, PV.dat (Sh.int IntKind.i64) v0), (3, PV.sl (0) (1) (0) v3n none), (4, PV.nil), (14, PV.sl (0) (1) (0) v14n none), (15, PV.dat (Sh.int IntKind.i64) v15), (16, PV.dat (Sh.int IntKind.i64) v16)] [(0, Obj.arr false (3) (Sh.int IntKind.i64) o0)] (1))
/-- function 91, region 11 -/
noncomputable def L3 (v0 : Int) (v3n : Nat) (v32n : Nat) (v33 : Int) (v34 : Int) (o0 : List Int) : Tr := re ((stepT X70 (L1 (0 : Int) 0 [])).R) (mkSt (47) [(0, PV.dat (Sh.int IntKind.i64) v0), (3, PV.sl (0) (1) (0) v3n none), (32, PV.sl (0) (1) (0) v32n none), (33, PV.dat (Sh.int IntKind.i64) v33), (34, PV.dat (Sh.int IntKind.i64) v34)] [(0, Obj.arr false (3) (Sh.int IntKind.i64) o0)] (1))
theorem L1_eq (v0 : Int) (v3n : Nat) (o0 : List Int) : stepT X70 (L1 v0 v3n o0) = .ite (decide ((↑v3n : Int) < v0))
 (L2 v0 v3n v3n ((↑v3n : Int)) ((0 : Int)) o0)
 (L3 v0 v3n v3n ((↑v3n : Int)) ((0 : Int)) o0) := by kernel_rfl
/-- function 91, region 5 -/
noncomputable def L4 (v0 : Int) (v3n : Nat) (v4n : Nat) (v14n : Nat) (v15 : Int) (v16 : Int) (o1 : List Int) (o0 : List Int) : Tr := re ((stepT X70 (L2 (0 : Int) 0 0 (0 : Int) (0 : Int) [])).L.L.L.L) (mkSt (47) [(0, PV.dat (Sh.int IntKind.i64) v0), (3, PV.sl (0) (1) (0) v3n none), (4, PV.sl (1) (1) (0) v4n none), (14, PV.sl (0) (1) (0) v14n none), (15, PV.dat (Sh.int IntKind.i64) v15), (16, PV.dat (Sh.int IntKind.i64) v16)] [(1, Obj.arr false (3) (Sh.int IntKind.i64) o1), (0, Obj.arr false (3) (Sh.int IntKind.i64) o0)] (2))
/-- function 91, region 2 -/
noncomputable def L5 (v0 : Int) : Tr := re ((stepT X70 (L2 (0 : Int) 0 0 (0 : Int) (0 : Int) [])).R) (mkSt (47) [(0, PV.dat (Sh.int IntKind.i64) v0), (3, PV.nil)] [] (0))
theorem L2_eq (v0 : Int) (v3n : Nat) (v14n : Nat) (v15 : Int) (v16 : Int) (o0 : List Int) : stepT X70 (L2 v0 v3n v14n v15 v16 o0) = .ite (decide (v16 < v15))
 (.ite (decide ((0 : Int) ≤ v16) && decide (v16 < (↑v14n : Int)))
  (.ite (decide (Int.toNat v16 < List.length o0))
   (.ite (decide ((2 : Nat) ≤ (2 : Nat)) && decide ((0 : Nat) < (2 : Nat)) && decide (((2 : Nat) * (2 : Nat) + (1000 : Nat)) * (8 : Nat) ≤ (281474976710656 : Nat)))
    (L4 v0 v3n ((2 : Nat)) v14n v15 (IntKind.wrap IntKind.i64 (v16 + (1 : Int))) ([List.getD o0 (Int.toNat v16) (0 : Int), IntKind.wrap IntKind.i64 (IntKind.wrap IntKind.i64 (IntKind.wrap IntKind.i64 ((2 : Int) * (↑v3n : Int)) + (1 : Int)) - List.getD o0 (Int.toNat v16) (0 : Int))]) o0)
    (.fail))
   (.fail))
  (.fail))
 (L5 v0) := by kernel_rfl
theorem L3_eq (v0 : Int) (v3n : Nat) (v32n : Nat) (v33 : Int) (v34 : Int) (o0 : List Int) : stepT X70 (L3 v0 v3n v32n v33 v34 o0) = .ite (decide (v34 < v33))
 (.ite (decide ((0 : Int) ≤ v34) && decide (v34 < (↑v32n : Int)))
  (.ite (decide (Int.toNat v34 < List.length o0))
   (.ite (decide (List.getD o0 (Int.toNat v34) (0 : Int) > v0))
    (.ite (decide ((0 : Int) ≤ v34) && decide (v34 < (↑v3n : Int)))
     (.ite (decide (Int.toNat v34 < List.length o0))
      (L3 v0 v3n v32n v33 (IntKind.wrap IntKind.i64 (v34 + (1 : Int))) (List.set o0 (Int.toNat v34) (0 : Int)))
      (.fail))
     (.fail))
    (L3 v0 v3n v32n v33 (IntKind.wrap IntKind.i64 (v34 + (1 : Int))) o0))
   (.fail))
  (.fail))
 (.leaf (PV.sl (0) (1) (0) v3n none) ([(0, Obj.arr false (3) (Sh.int IntKind.i64) o0)])) := by kernel_rfl
theorem L4_eq (v0 : Int) (v3n : Nat) (v4n : Nat) (v14n : Nat) (v15 : Int) (v16 : Int) (o1 : List Int) (o0 : List Int) : stepT X70 (L4 v0 v3n v4n v14n v15 v16 o1 o0) = .ite (decide (v16 < v15))
 (.ite (decide ((0 : Int) ≤ v16) && decide (v16 < (↑v14n : Int)))
  (.ite (decide (Int.toNat v16 < List.length o0))
   (.ite (decide ((2 : Nat) ≤ (2 : Nat)) && true && decide (v4n = List.length o1) && decide (((2 : Nat) * (v4n + (2 : Nat)) + (1000 : Nat)) * (8 : Nat) ≤ (281474976710656 : Nat)))
    (L4 v0 v3n (Nat.add v4n (2 : Nat)) v14n v15 (IntKind.wrap IntKind.i64 (v16 + (1 : Int))) (o1 ++ [List.getD o0 (Int.toNat v16) (0 : Int), IntKind.wrap IntKind.i64 (IntKind.wrap IntKind.i64 (IntKind.wrap IntKind.i64 ((2 : Int) * (↑v3n : Int)) + (1 : Int)) - List.getD o0 (Int.toNat v16) (0 : Int))]) o0)
    (.fail))
   (.fail))
  (.fail))
 (L1 v0 v4n o1) := by kernel_rfl
/-- function 91, region 5 -/
noncomputable def L6 (v0 : Int) (v15 : Int) (v16 : Int) : Tr := re ((stepT X70 (L5 (0 : Int))).L) (mkSt (47) [(0, PV.dat (Sh.int IntKind.i64) v0), (3, PV.nil), (4, PV.nil), (14, PV.nil), (15, PV.dat (Sh.int IntKind.i64) v15), (16, PV.dat (Sh.int IntKind.i64) v16)] [] (0))
/-- function 91, region 11 -/
noncomputable def L7 (v0 : Int) (v33 : Int) (v34 : Int) : Tr := re ((stepT X70 (L5 (0 : Int))).R) (mkSt (47) [(0, PV.dat (Sh.int IntKind.i64) v0), (3, PV.nil), (32, PV.nil), (33, PV.dat (Sh.int IntKind.i64) v33), (34, PV.dat (Sh.int IntKind.i64) v34)] [] (0))
theorem L5_eq (v0 : Int) : stepT X70 (L5 v0) = .ite (decide ((0 : Int) < v0))
 (L6 v0 ((0 : Int)) ((0 : Int)))
 (L7 v0 ((0 : Int)) ((0 : Int))) := by kernel_rfl
theorem L6_eq (v0 : Int) (v15 : Int) (v16 : Int) : stepT X70 (L6 v0 v15 v16) = .ite (decide (v16 < v15))
 (.fail)
 (L5 v0) := by kernel_rfl
theorem L7_eq (v0 : Int) (v33 : Int) (v34 : Int) : stepT X70 (L7 v0 v33 v34) = .ite (decide (v34 < v33))
 (.fail)
 (.leaf (PV.nil) ([])) := by kernel_rfl
end T91
namespace T24
noncomputable def T (n : Int) (key : Int) : Tr := tree X70 false 9 24 (valsOf ([Sh.int IntKind.i64, Sh.int IntKind.i64]) (n, key))
/-- function 24, region 3 -/
noncomputable def L1 (v0 : Int) (v1 : Int) (v6 : Int) : Tr := re ((T (0 : Int) (0 : Int))) (mkSt (48) [(0, PV.dat (Sh.int IntKind.i64) v0), (1, PV.dat (Sh.int IntKind.i64) v1), (5, PV.nil), (6, PV.dat (Sh.int IntKind.i64) v6)] [] (0))
theorem T_eq (n : Int) (key : Int) : T n key = L1 n key ((0 : Int)) := by kernel_rfl
/-- function 24, region 3 -/
noncomputable def L2 (v0 : Int) (v1 : Int) (v5n : Nat) (v6 : Int) (o0 : List Int) : Tr := re ((stepT X70 (L1 (0 : Int) (0 : Int) (0 : Int))).L.L) (mkSt (48) [(0, PV.dat (Sh.int IntKind.i64) v0), (1, PV.dat (Sh.int IntKind.i64) v1), (5, PV.sl (0) (1) (0) v5n none), (6, PV.dat (Sh.int IntKind.i64) v6)] [(0, Obj.arr false (3) (Sh.int IntKind.i64) o0)] (1))
/-- function 24, region 8 -/
noncomputable def L3 (v7 : Int) (v8 : Int) : Tr := re ((stepT X70 (L1 (0 : Int) (0 : Int) (0 : Int))).R) (mkSt (48) [(5, PV.nil), (7, PV.dat (Sh.int IntKind.i64) v7), (8, PV.dat (Sh.int IntKind.i64) v8)] [] (0))
theorem L1_eq (v0 : Int) (v1 : Int) (v6 : Int) : stepT X70 (L1 v0 v1 v6) = .ite (decide (v6 < v0))
 (.ite (decide ((1 : Nat) ≤ (1 : Nat)) && decide ((0 : Nat) < (1 : Nat)) && decide (((2 : Nat) * (1 : Nat) + (1000 : Nat)) * (8 : Nat) ≤ (281474976710656 : Nat)))
  (L2 v0 v1 ((1 : Nat)) (IntKind.wrap IntKind.i64 (v6 + (1 : Int))) [v6])
  (.fail))
 (L3 v1 (IntKind.wrap IntKind.i64 (v0 - (1 : Int)))) := by kernel_rfl
/-- function 24, region 8 -/
noncomputable def L4 (v5n : Nat) (v7 : Int) (v8 : Int) (o0 : List Int) : Tr := re ((stepT X70 (L2 (0 : Int) (0 : Int) 0 (0 : Int) [])).R) (mkSt (48) [(5, PV.sl (0) (1) (0) v5n none), (7, PV.dat (Sh.int IntKind.i64) v7), (8, PV.dat (Sh.int IntKind.i64) v8)] [(0, Obj.arr false (3) (Sh.int IntKind.i64) o0)] (1))
theorem L2_eq (v0 : Int) (v1 : Int) (v5n : Nat) (v6 : Int) (o0 : List Int) : stepT X70 (L2 v0 v1 v5n v6 o0) = .ite (decide (v6 < v0))
 (.ite (decide ((1 : Nat) ≤ (1 : Nat)) && true && decide (v5n = List.length o0) && decide (((2 : Nat) * (v5n + (1 : Nat)) + (1000 : Nat)) * (8 : Nat) ≤ (281474976710656 : Nat)))
  (L2 v0 v1 (Nat.add v5n (1 : Nat)) (IntKind.wrap IntKind.i64 (v6 + (1 : Int))) (o0 ++ [v6]))
  (.fail))
 (L4 v5n v1 (IntKind.wrap IntKind.i64 (v0 - (1 : Int))) o0) := by kernel_rfl
theorem L3_eq (v7 : Int) (v8 : Int) : stepT X70 (L3 v7 v8) = .ite (decide (v8 ≥ (1 : Int)))
 (.ite (true)
  (.ite (decide (IntKind.wrap IntKind.i64 (v8 + (1 : Int)) ≠ (0 : Int)))
   (.fail)
   (.fail))
  (.fail))
 (.leaf (PV.nil) ([])) := by kernel_rfl
theorem L4_eq (v5n : Nat) (v7 : Int) (v8 : Int) (o0 : List Int) : stepT X70 (L4 v5n v7 v8 o0) = .ite (decide (v8 ≥ (1 : Int)))
 (.ite (true)
  (.ite (decide (IntKind.wrap IntKind.i64 (v8 + (1 : Int)) ≠ (0 : Int)))
   (.ite (decide ((0 : Int) ≤ Int.tmod (Int.tmod (IntKind.wrap IntKind.i64 ((48271 : Int) * v7)) (2147483647 : Int)) (IntKind.wrap IntKind.i64 (v8 + (1 : Int)))) && decide (Int.tmod (Int.tmod (IntKind.wrap IntKind.i64 ((48271 : Int) * v7)) (2147483647 : Int)) (IntKind.wrap IntKind.i64 (v8 + (1 : Int))) < (↑v5n : Int)))
    (.ite (decide (Int.toNat (Int.tmod (Int.tmod (IntKind.wrap IntKind.i64 ((48271 : Int) * v7)) (2147483647 : Int)) (IntKind.wrap IntKind.i64 (v8 + (1 : Int)))) < List.length o0))
     (.ite (decide ((0 : Int) ≤ v8) && decide (v8 < (↑v5n : Int)))
      (.ite (decide (Int.toNat v8 < List.length o0))
       (.ite (decide ((0 : Int) ≤ v8) && decide (v8 < (↑v5n : Int)))
        (.ite (decide (Int.toNat v8 < List.length o0))
         (.ite (decide ((0 : Int) ≤ Int.tmod (Int.tmod (IntKind.wrap IntKind.i64 ((48271 : Int) * v7)) (2147483647 : Int)) (IntKind.wrap IntKind.i64 (v8 + (1 : Int)))) && decide (Int.tmod (Int.tmod (IntKind.wrap IntKind.i64 ((48271 : Int) * v7)) (2147483647 : Int)) (IntKind.wrap IntKind.i64 (v8 + (1 : Int))) < (↑v5n : Int)))
          (.ite (decide (Int.toNat (Int.tmod (Int.tmod (IntKind.wrap IntKind.i64 ((48271 : Int) * v7)) (2147483647 : Int)) (IntKind.wrap IntKind.i64 (v8 + (1 : Int)))) < List.length (List.set o0 (Int.toNat v8) (List.getD o0 (Int.toNat (Int.tmod (Int.tmod (IntKind.wrap IntKind.i64 ((48271 : Int) * v7)) (2147483647 : Int)) (IntKind.wrap IntKind.i64 (v8 + (1 : Int))))) (0 : Int)))))
           (L4 v5n (Int.tmod (IntKind.wrap IntKind.i64 ((48271 : Int) * v7)) (2147483647 : Int)) (IntKind.wrap IntKind.i64 (v8 - (1 : Int))) (List.set (List.set o0 (Int.toNat v8) (List.getD o0 (Int.toNat (Int.tmod (Int.tmod (IntKind.wrap IntKind.i64 ((48271 : Int) * v7)) (2147483647 : Int)) (IntKind.wrap IntKind.i64 (v8 + (1 : Int))))) (0 : Int))) (Int.toNat (Int.tmod (Int.tmod (IntKind.wrap IntKind.i64 ((48271 : Int) * v7)) (2147483647 : Int)) (IntKind.wrap IntKind.i64 (v8 + (1 : Int))))) (List.getD o0 (Int.toNat v8) (0 : Int))))
           (.fail))
          (.fail))
         (.fail))
        (.fail))
       (.fail))
      (.fail))
     (.fail))
    (.fail))
   (.fail))
  (.fail))
 (.leaf (PV.sl (0) (1) (0) v5n none) ([(0, Obj.arr false (3) (Sh.int IntKind.i64) o0)])) := by kernel_rfl
end T24
namespace T89
noncomputable def T (k : Int) : Tr := tree X71 false 9 89 (valsOf ([Sh.int IntKind.i64]) k)
theorem T_eq (k : Int) : T k = .ite (true)
 (.leaf (PV.dat (Sh.int IntKind.i64) (Sp.out k (1 : Int) (2147483646 : Int))) ([]))
 (.fail) := by kernel_rfl
end T89
namespace T23
noncomputable def T (k : Int) : Tr := tree X71 false 9 23 (valsOf ([Sh.int IntKind.i64]) k)
theorem T_eq (k : Int) : T k = .ite (true)
 (.leaf (PV.dat (Sh.int IntKind.i64) (Sp.out k (1 : Int) (2147483646 : Int))) ([]))
 (.fail) := by kernel_rfl
end T23
namespace T25
noncomputable def T (n : Int) : Tr := tree X71 false 9 25 (valsOf ([Sh.int IntKind.i64]) n)
/-- function 25, region 2 -/
noncomputable def L1 (v0 : Int) (v3n : Nat) (o0 : List Int) : Tr := re ((T (0 : Int))) (mkSt (52) [(0, PV.dat (Sh.int IntKind.i64) v0), (3, PV.sl (0) (1) (0) v3n none)] [(0, Obj.arr false (3) (Sh.int IntKind.i64) o0)] (1))
theorem T_eq (n : Int) : T n = L1 n ((1 : Nat)) ([(1 : Int)]) := by kernel_rfl
/-- function 25, region 5 -/
noncomputable def L2 (v0 : Int) (v3n : Nat) (v5 : Int) (o0 : List Int) : Tr := re ((stepT X71 (L1 (0 : Int) 0 [])).L.L) (mkSt (52) [(0, PV.dat (Sh.int IntKind.i64) v0), (3, PV.sl (0) (1) (0) v3n none), (4, PV.nil), (5, PV.dat (Sh.int IntKind.i64) v5)] [(0, Obj.arr false (3) (Sh.int IntKind.i64) o0)] (1))
/-- function 25, region 10 -/
noncomputable def L3 (v0 : Int) (v3n : Nat) (v6 : Int) (o0 : List Int) : Tr := re ((stepT X71 (L1 (0 : Int) 0 [])).L.R) (mkSt (52) [(0, PV.dat (Sh.int IntKind.i64) v0), (3, PV.sl (0) (1) (0) v3n none), (6, PV.dat (Sh.int IntKind.i64) v6)] [(0, Obj.arr false (3) (Sh.int IntKind.i64) o0)] (1))
theorem L1_eq (v0 : Int) (v3n : Nat) (o0 : List Int) : stepT X71 (L1 v0 v3n o0) = .ite (decide (v0 ≤ (200 : Int)))
 (.ite (decide ((↑v3n : Int) < Sp.size (8 : Nat) v0 (1 : Int)))
  (L2 v0 v3n ((0 : Int)) o0)
  (L3 v0 v3n ((0 : Int)) o0))
 (.fail) := by kernel_rfl
/-- function 25, region 5 -/
noncomputable def L4 (v0 : Int) (v3n : Nat) (v4n : Nat) (v5 : Int) (o1 : List Int) (o0 : List Int) : Tr := re ((stepT X71 (L2 (0 : Int) 0 (0 : Int) [])).L.L.L.L.L.L) (mkSt (52) [(0, PV.dat (Sh.int IntKind.i64) v0), (3, PV.sl (0) (1) (0) v3n none), (4, PV.sl (1) (1) (0) v4n none), (5, PV.dat (Sh.int IntKind.i64) v5)] [(1, Obj.arr false (3) (Sh.int IntKind.i64) o1), (0, Obj.arr false (3) (Sh.int IntKind.i64) o0)] (2))
/-- function 25, region 2 -/
noncomputable def L5 (v0 : Int) : Tr := re ((stepT X71 (L2 (0 : Int) 0 (0 : Int) [])).R) (mkSt (52) [(0, PV.dat (Sh.int IntKind.i64) v0), (3, PV.nil)] [] (0))
theorem L2_eq (v0 : Int) (v3n : Nat) (v5 : Int) (o0 : List Int) : stepT X71 (L2 v0 v3n v5 o0) = .ite (decide (v5 < (↑v3n : Int)))
 (.ite (decide ((0 : Int) ≤ v5) && decide (v5 < (↑v3n : Int)))
  (.ite (decide (Int.toNat v5 < List.length o0))
   (.ite (decide ((0 : Int) ≤ v5) && decide (v5 < (↑v3n : Int)))
    (.ite (decide (Int.toNat v5 < List.length o0))
     (.ite (decide ((2 : Nat) ≤ (2 : Nat)) && decide ((0 : Nat) < (2 : Nat)) && decide (((2 : Nat) * (2 : Nat) + (1000 : Nat)) * (8 : Nat) ≤ (281474976710656 : Nat)))
      (L4 v0 v3n ((2 : Nat)) (IntKind.wrap IntKind.i64 (v5 + (1 : Int))) ([List.getD o0 (Int.toNat v5) (0 : Int), IntKind.wrap IntKind.i64 (IntKind.wrap IntKind.i64 (IntKind.wrap IntKind.i64 ((2 : Int) * (↑v3n : Int)) + (1 : Int)) - List.getD o0 (Int.toNat v5) (0 : Int))]) o0)
      (.fail))
     (.fail))
    (.fail))
   (.fail))
  (.fail))
 (L5 v0) := by kernel_rfl
theorem L3_eq (v0 : Int) (v3n : Nat) (v6 : Int) (o0 : List Int) : stepT X71 (L3 v0 v3n v6 o0) = .ite (decide (v6 < (↑v3n : Int)))
 (.ite (decide ((0 : Int) ≤ v6) && decide (v6 < (↑v3n : Int)))
  (.ite (decide (Int.toNat v6 < List.length o0))
   (.ite (decide (List.getD o0 (Int.toNat v6) (0 : Int) > v0))
    (.ite (decide ((0 : Int) ≤ v6) && decide (v6 < (↑v3n : Int)))
     (.ite (decide (Int.toNat v6 < List.length o0))
      (L3 v0 v3n (IntKind.wrap IntKind.i64 (v6 + (1 : Int))) (List.set o0 (Int.toNat v6) (0 : Int)))
      (.fail))
     (.fail))
    (L3 v0 v3n (IntKind.wrap IntKind.i64 (v6 + (1 : Int))) o0))
   (.fail))
  (.fail))
 (.leaf (PV.sl (0) (1) (0) v3n none) ([(0, Obj.arr false (3) (Sh.int IntKind.i64) o0)])) := by kernel_rfl
theorem L4_eq (v0 : Int) (v3n : Nat) (v4n : Nat) (v5 : Int) (o1 : List Int) (o0 : List Int) : stepT X71 (L4 v0 v3n v4n v5 o1 o0) = .ite (decide (v5 < (↑v3n : Int)))
 (.ite (decide ((0 : Int) ≤ v5) && decide (v5 < (↑v3n : Int)))
  (.ite (decide (Int.toNat v5 < List.length o0))
   (.ite (decide ((0 : Int) ≤ v5) && decide (v5 < (↑v3n : Int)))
    (.ite (decide (Int.toNat v5 < List.length o0))
     (.ite (decide ((2 : Nat) ≤ (2 : Nat)) && true && decide (v4n = List.length o1) && decide (((2 : Nat) * (v4n + (2 : Nat)) + (1000 : Nat)) * (8 : Nat) ≤ (281474976710656 : Nat)))
      (L4 v0 v3n (Nat.add v4n (2 : Nat)) (IntKind.wrap IntKind.i64 (v5 + (1 : Int))) (o1 ++ [List.getD o0 (Int.toNat v5) (0 : Int), IntKind.wrap IntKind.i64 (IntKind.wrap IntKind.i64 (IntKind.wrap IntKind.i64 ((2 : Int) * (↑v3n : Int)) + (1 : Int)) - List.getD o0 (Int.toNat v5) (0 : Int))]) o0)
      (.fail))
     (.fail))
    (.fail))
   (.fail))
  (.fail))
 (L1 v0 v4n o1) := by kernel_rfl
/-- function 25, region 5 -/
noncomputable def L6 (v0 : Int) (v5 : Int) : Tr := re ((stepT X71 (L5 (0 : Int))).L.L) (mkSt (52) [(0, PV.dat (Sh.int IntKind.i64) v0), (3, PV.nil), (4, PV.nil), (5, PV.dat (Sh.int IntKind.i64) v5)] [] (0))
/-- function 25, region 10 -/
noncomputable def L7 (v0 : Int) (v6 : Int) : Tr := re ((stepT X71 (L5 (0 : Int))).L.R) (mkSt (52) [(0, PV.dat (Sh.int IntKind.i64) v0), (3, PV.nil), (6, PV.dat (Sh.int IntKind.i64) v6)] [] (0))
theorem L5_eq (v0 : Int) : stepT X71 (L5 v0) = .ite (decide (v0 ≤ (200 : Int)))
 (.ite (decide ((0 : Int) < Sp.size (8 : Nat) v0 (1 : Int)))
  (L6 v0 ((0 : Int)))
  (L7 v0 ((0 : Int))))
 (.fail) := by kernel_rfl
theorem L6_eq (v0 : Int) (v5 : Int) : stepT X71 (L6 v0 v5) = .ite (decide (v5 < (0 : Int)))
 (.fail)
 (L5 v0) := by kernel_rfl
theorem L7_eq (v0 : Int) (v6 : Int) : stepT X71 (L7 v0 v6) = .ite (decide (v6 < (0 : Int)))
 (.fail)
 (.leaf (PV.nil) ([])) := by kernel_rfl
end T25
namespace T18
noncomputable def T (n : Int) (key : Int) : Tr := tree X72 false 9 18 (valsOf ([Sh.int IntKind.i64, Sh.int IntKind.i64]) (n, key))
theorem T_eq (n : Int) (key : Int) : T n key = .ite (true)
 (.ite (true)
  (.ite (decide ((2 : Nat) ≤ (2 : Nat)) && true && decide ((2 : Nat) ≤ (1000000 : Nat)))
   (.ite (Sp.first [Sp.out n (0 : Int) (200 : Int), Sp.out key (1 : Int) (2147483646 : Int)] != (0 : Int))
    (.leaf (PV.tup [PV.nil, PV.dat (Sh.int IntKind.i64) (Sp.first [Sp.out n (0 : Int) (200 : Int), Sp.out key (1 : Int) (2147483646 : Int)])]) ([((0 : Nat), Obj.arr false (25 : Nat) (Sh.int IntKind.i64) [Sp.out n (0 : Int) (200 : Int), Sp.out key (1 : Int) (2147483646 : Int)])]))
    (.ite (decide ((0 : Int) ≤ n) && decide (n ≤ (200 : Int)) && decide ((1 : Int) ≤ key) && decide (key ≤ (2147483646 : Int)))
     (.leaf (PV.tup [PV.dat (Sh.list (Sh.int IntKind.i64)) (Sp.ballot n key), PV.dat (Sh.int IntKind.i64) (0 : Int)]) ([((0 : Nat), Obj.arr false (25 : Nat) (Sh.int IntKind.i64) [Sp.out n (0 : Int) (200 : Int), Sp.out key (1 : Int) (2147483646 : Int)])]))
     (.fail)))
   (.fail))
  (.fail))
 (.fail) := by kernel_rfl
end T18
namespace T19
noncomputable def T (n : Int) : Tr := tree X72 false 9 19 (valsOf ([Sh.int IntKind.i64]) n)
theorem T_eq (n : Int) : T n = .ite (true)
 (.ite (Sp.out n (1 : Int) (200 : Int) != (0 : Int))
  (.leaf (PV.tup [PV.nil, PV.dat (Sh.int IntKind.i64) (Sp.out n (1 : Int) (200 : Int))]) ([]))
  (.ite (decide ((1 : Int) ≤ n) && decide (n ≤ (200 : Int)))
   (.leaf (PV.tup [PV.dat (Sh.list (Sh.int IntKind.i64)) (Sp.bracket n), PV.dat (Sh.int IntKind.i64) (0 : Int)]) ([]))
   (.fail)))
 (.fail) := by kernel_rfl
end T19
namespace T20
noncomputable def T (n : Int) (a : Int) (b : Int) : Tr := tree X72 false 9 20 (valsOf ([Sh.int IntKind.i64, Sh.int IntKind.i64, Sh.int IntKind.i64]) (n, a, b))
/-- function 20, region 7 -/
noncomputable def L1 (v10 : Int) (v11 : Int) (v12 : Int) : Tr := re ((T (0 : Int) (0 : Int) (0 : Int)).L.L.L.L.L.R.L.L.L) (mkSt (54) [(10, PV.dat (Sh.int IntKind.i64) v10), (11, PV.dat (Sh.int IntKind.i64) v11), (12, PV.dat (Sh.int IntKind.i64) v12)] [] (0))
theorem T_eq (n : Int) (a : Int) (b : Int) : T n a b = .ite (true)
 (.ite (decide (imin a b < (1 : Int)))
  (.ite (true)
   (.ite (true)
    (.ite (decide ((3 : Nat) ≤ (3 : Nat)) && true && decide ((3 : Nat) ≤ (1000000 : Nat)))
     (.ite (Sp.first [Sp.out n (1 : Int) (200 : Int), Sp.whn true (10 : Int), Sp.whn (a == b) (9 : Int)] != (0 : Int))
      (.leaf (PV.tup [PV.dat (Sh.int IntKind.i64) (0 : Int), PV.dat (Sh.int IntKind.i64) (Sp.first [Sp.out n (1 : Int) (200 : Int), Sp.whn true (10 : Int), Sp.whn (a == b) (9 : Int)])]) ([((0 : Nat), Obj.arr false (25 : Nat) (Sh.int IntKind.i64) [Sp.out n (1 : Int) (200 : Int), Sp.whn true (10 : Int), Sp.whn (a == b) (9 : Int)])]))
      (.ite (decide ((1 : Int) ≤ n) && decide (n ≤ (200 : Int)))
       (.ite (decide (List.length (Sp.bracket n) ≤ (1000000 : Nat)))
        (.ite (decide (List.length (Sp.bracket n) ≤ (1000000 : Nat)))
         (L1 (Sp.index (Sp.bracket n) a (0 : Int)) (Sp.index (Sp.bracket n) b (0 : Int)) ((0 : Int)))
         (.fail))
        (.fail))
       (.fail)))
     (.fail))
    (.fail))
   (.fail))
  (.ite (true)
   (.ite (true)
    (.ite (decide ((3 : Nat) ≤ (3 : Nat)) && true && decide ((3 : Nat) ≤ (1000000 : Nat)))
     (.ite (Sp.first [Sp.out n (1 : Int) (200 : Int), Sp.whn (decide (imax a b > n)) (10 : Int), Sp.whn (a == b) (9 : Int)] != (0 : Int))
      (.leaf (PV.tup [PV.dat (Sh.int IntKind.i64) (0 : Int), PV.dat (Sh.int IntKind.i64) (Sp.first [Sp.out n (1 : Int) (200 : Int), Sp.whn (decide (imax a b > n)) (10 : Int), Sp.whn (a == b) (9 : Int)])]) ([((0 : Nat), Obj.arr false (25 : Nat) (Sh.int IntKind.i64) [Sp.out n (1 : Int) (200 : Int), Sp.whn (decide (imax a b > n)) (10 : Int), Sp.whn (a == b) (9 : Int)])]))
      (.ite (decide ((1 : Int) ≤ n) && decide (n ≤ (200 : Int)))
       (.ite (decide (List.length (Sp.bracket n) ≤ (1000000 : Nat)))
        (.ite (decide (List.length (Sp.bracket n) ≤ (1000000 : Nat)))
         (L1 (Sp.index (Sp.bracket n) a (0 : Int)) (Sp.index (Sp.bracket n) b (0 : Int)) ((0 : Int)))
         (.fail))
        (.fail))
       (.fail)))
     (.fail))
    (.fail))
   (.fail)))
 (.fail) := by kernel_rfl
theorem L1_eq (v10 : Int) (v11 : Int) (v12 : Int) : stepT X72 (L1 v10 v11 v12) = .ite (v10 == v11)
 (.leaf (PV.tup [PV.dat (Sh.int IntKind.i64) v12, PV.dat (Sh.int IntKind.i64) (0 : Int)]) ([]))
 (.ite (true)
  (.ite (true)
   (L1 (IntKind.wrap IntKind.i64 (Int.tdiv v10 (2 : Int))) (IntKind.wrap IntKind.i64 (Int.tdiv v11 (2 : Int))) (IntKind.wrap IntKind.i64 (v12 + (1 : Int))))
   (.fail))
  (.fail)) := by kernel_rfl
end T20
namespace T26
noncomputable def T (n : Int) (a : Int) (b : Int) : Tr := tree X72 false 9 26 (valsOf ([Sh.int IntKind.i64, Sh.int IntKind.i64, Sh.int IntKind.i64]) (n, a, b))
/-- function 26, region 4 -/
noncomputable def L1 (v1 : Int) (v2 : Int) (v7 : List Int) (v8 : Int) (v9 : Int) (v10 : Int) : Tr := re ((T (0 : Int) (0 : Int) (0 : Int)).L) (mkSt (44) [(1, PV.dat (Sh.int IntKind.i64) v1), (2, PV.dat (Sh.int IntKind.i64) v2), (7, PV.dat (Sh.list (Sh.int IntKind.i64)) v7), (8, PV.dat (Sh.int IntKind.i64) v8), (9, PV.dat (Sh.int IntKind.i64) v9), (10, PV.dat (Sh.int IntKind.i64) v10)] [] (0))
theorem T_eq (n : Int) (a : Int) (b : Int) : T n a b = .ite (decide ((1 : Int) ≤ n) && decide (n ≤ (200 : Int)))
 (L1 a b (Sp.bracket n) ((0 : Int)) ((0 : Int)) ((0 : Int)))
 (.fail) := by kernel_rfl
/-- function 26, region 11 -/
noncomputable def L2 (v8 : Int) (v9 : Int) (v11 : Int) : Tr := re ((stepT X72 (L1 (0 : Int) (0 : Int) [] (0 : Int) (0 : Int) (0 : Int))).R) (mkSt (44) [(8, PV.dat (Sh.int IntKind.i64) v8), (9, PV.dat (Sh.int IntKind.i64) v9), (11, PV.dat (Sh.int IntKind.i64) v11)] [] (0))
theorem L1_eq (v1 : Int) (v2 : Int) (v7 : List Int) (v8 : Int) (v9 : Int) (v10 : Int) : stepT X72 (L1 v1 v2 v7 v8 v9 v10) = .ite (decide (v10 < (↑(List.length v7) : Int)))
 (.ite (decide ((0 : Int) ≤ v10) && decide (v10 < (↑(List.length v7) : Int)))
  (.ite (List.getD v7 (Int.toNat v10) (0 : Int) == v1)
   (.ite (decide ((0 : Int) ≤ v10) && decide (v10 < (↑(List.length v7) : Int)))
    (.ite (List.getD v7 (Int.toNat v10) (0 : Int) == v2)
     (L1 v1 v2 v7 v10 v10 (IntKind.wrap IntKind.i64 (v10 + (1 : Int))))
     (L1 v1 v2 v7 v10 v9 (IntKind.wrap IntKind.i64 (v10 + (1 : Int)))))
    (.fail))
   (.ite (decide ((0 : Int) ≤ v10) && decide (v10 < (↑(List.length v7) : Int)))
    (.ite (List.getD v7 (Int.toNat v10) (0 : Int) == v2)
     (L1 v1 v2 v7 v8 v10 (IntKind.wrap IntKind.i64 (v10 + (1 : Int))))
     (L1 v1 v2 v7 v8 v9 (IntKind.wrap IntKind.i64 (v10 + (1 : Int)))))
    (.fail)))
  (.fail))
 (L2 v8 v9 ((0 : Int))) := by kernel_rfl
theorem L2_eq (v8 : Int) (v9 : Int) (v11 : Int) : stepT X72 (L2 v8 v9 v11) = .ite (v8 != v9)
 (.ite (true)
  (.ite (true)
   (L2 (IntKind.wrap IntKind.i64 (Int.tdiv v8 (2 : Int))) (IntKind.wrap IntKind.i64 (Int.tdiv v9 (2 : Int))) (IntKind.wrap IntKind.i64 (v11 + (1 : Int))))
   (.fail))
  (.fail))
 (.leaf (PV.dat (Sh.int IntKind.i64) v11) ([])) := by kernel_rfl
end T26
namespace T3
noncomputable def T (n : Int) (key : Int) (seeds : Int × Int) : Tr := tree X73 false 9 3 (valsOf ([Sh.int IntKind.i64, Sh.int IntKind.i64, Sh.pair (Sh.int IntKind.i64) (Sh.int IntKind.i64)]) (n, key, seeds))
/-- function 3, region 3 -/
noncomputable def L1 (v0 : Int) (v1 : Int) (o0 : Int) (o0_1 : Int) : Tr := re ((T (0 : Int) (0 : Int) ((0 : Int), (0 : Int))).L.R) (mkSt (136) [(0, PV.dat (Sh.int IntKind.i64) v0), (1, PV.dat (Sh.int IntKind.i64) v1), (5, PV.ptr (0 : Nat) (0 : Nat))] [(0, Obj.box [PV.dat (Sh.int IntKind.i64) o0, PV.dat (Sh.int IntKind.i64) o0_1])] (1))
theorem T_eq (n : Int) (key : Int) (seeds : Int × Int) : T n key seeds = .ite (decide (n > (70 : Int)))
 (.ite (decide (n ≤ (200 : Int)))
  (.ite (true)
   (.leaf (PV.dat Sh.bool true) ([((0 : Nat), Obj.box [PV.dat (Sh.int IntKind.i64) seeds.1, PV.dat (Sh.int IntKind.i64) seeds.2])]))
   (.fail))
  (L1 n key seeds.1 seeds.2))
 (L1 n key seeds.1 seeds.2) := by kernel_rfl
/-- function 3, region 12 -/
noncomputable def L2 (v0 : Int) (v1 : Int) (v7 : List Int) (v8 : Int) (v9 : List Int) (v10 : Int) (v11 : Int) (v12 : Int) (v13 : Int) (v14 : Int) (v15 : Int) (o0 : Int) (o0_1 : Int) : Tr := re ((stepT X73 (L1 (0 : Int) (0 : Int) (0 : Int) (0 : Int))).L.L.L.L.L.L.L.L.L.L.L.L) (mkSt (136) [(0, PV.dat (Sh.int IntKind.i64) v0), (1, PV.dat (Sh.int IntKind.i64) v1), (5, PV.ptr (0 : Nat) (0 : Nat)), (7, PV.dat (Sh.list (Sh.int IntKind.i64)) v7), (8, PV.dat (Sh.int IntKind.i64) v8), (9, PV.dat (Sh.list (Sh.int IntKind.i64)) v9), (10, PV.dat (Sh.int IntKind.i64) v10), (11, PV.dat (Sh.int IntKind.i64) v11), (12, PV.dat (Sh.int IntKind.i64) v12), (13, PV.dat (Sh.int IntKind.i64) v13), (14, PV.dat (Sh.int IntKind.i64) v14), (15, PV.dat (Sh.int IntKind.i64) v15)] [(0, Obj.box [PV.dat (Sh.int IntKind.i64) o0, PV.dat (Sh.int IntKind.i64) o0_1])] (1))
theorem L1_eq (v0 : Int) (v1 : Int) (o0 : Int) (o0_1 : Int) : stepT X73 (L1 v0 v1 o0 o0_1) = .ite (true)
 (.ite (true)
  (.ite (true)
   (.ite (true)
    (.ite (true)
     (.ite (true)
      (.ite (true)
       (.ite (decide ((2 : Nat) ≤ (2 : Nat)) && true && decide ((2 : Nat) ≤ (1000000 : Nat)))
        (.ite (true)
         (.ite (Sp.out v0 (1 : Int) (200 : Int) == (0 : Int))
          (.ite (true)
           (.ite (decide (o0 < (1 : Int)))
            (L2 v0 v1 (Prod.fst (Sp.Ballot v0 v1)) (Prod.snd (Sp.Ballot v0 v1)) (Prod.fst (Sp.Bracket v0)) (Prod.snd (Sp.Bracket v0)) (Prod.fst (Sp.Meet v0 o0 o0_1)) (Prod.snd (Sp.Meet v0 o0 o0_1)) (Sp.first [Sp.out v0 (0 : Int) (200 : Int), Sp.out v1 (1 : Int) (2147483646 : Int)]) (Sp.out v0 (1 : Int) (200 : Int)) ((10 : Int)) o0 o0_1)
            (.ite (true)
             (.ite (decide (o0 > v0))
              (L2 v0 v1 (Prod.fst (Sp.Ballot v0 v1)) (Prod.snd (Sp.Ballot v0 v1)) (Prod.fst (Sp.Bracket v0)) (Prod.snd (Sp.Bracket v0)) (Prod.fst (Sp.Meet v0 o0 o0_1)) (Prod.snd (Sp.Meet v0 o0 o0_1)) (Sp.first [Sp.out v0 (0 : Int) (200 : Int), Sp.out v1 (1 : Int) (2147483646 : Int)]) (Sp.out v0 (1 : Int) (200 : Int)) ((10 : Int)) o0 o0_1)
              (.ite (true)
               (.ite (decide (o0_1 < (1 : Int)))
                (L2 v0 v1 (Prod.fst (Sp.Ballot v0 v1)) (Prod.snd (Sp.Ballot v0 v1)) (Prod.fst (Sp.Bracket v0)) (Prod.snd (Sp.Bracket v0)) (Prod.fst (Sp.Meet v0 o0 o0_1)) (Prod.snd (Sp.Meet v0 o0 o0_1)) (Sp.first [Sp.out v0 (0 : Int) (200 : Int), Sp.out v1 (1 : Int) (2147483646 : Int)]) (Sp.out v0 (1 : Int) (200 : Int)) ((10 : Int)) o0 o0_1)
                (.ite (true)
                 (.ite (decide (o0_1 > v0))
                  (L2 v0 v1 (Prod.fst (Sp.Ballot v0 v1)) (Prod.snd (Sp.Ballot v0 v1)) (Prod.fst (Sp.Bracket v0)) (Prod.snd (Sp.Bracket v0)) (Prod.fst (Sp.Meet v0 o0 o0_1)) (Prod.snd (Sp.Meet v0 o0 o0_1)) (Sp.first [Sp.out v0 (0 : Int) (200 : Int), Sp.out v1 (1 : Int) (2147483646 : Int)]) (Sp.out v0 (1 : Int) (200 : Int)) ((10 : Int)) o0 o0_1)
                  (.ite (Sp.out v0 (1 : Int) (200 : Int) == (0 : Int))
                   (.ite (true)
                    (.ite (true)
                     (.ite (o0 == o0_1)
                      (L2 v0 v1 (Prod.fst (Sp.Ballot v0 v1)) (Prod.snd (Sp.Ballot v0 v1)) (Prod.fst (Sp.Bracket v0)) (Prod.snd (Sp.Bracket v0)) (Prod.fst (Sp.Meet v0 o0 o0_1)) (Prod.snd (Sp.Meet v0 o0 o0_1)) (Sp.first [Sp.out v0 (0 : Int) (200 : Int), Sp.out v1 (1 : Int) (2147483646 : Int)]) (Sp.out v0 (1 : Int) (200 : Int)) ((9 : Int)) o0 o0_1)
                      (L2 v0 v1 (Prod.fst (Sp.Ballot v0 v1)) (Prod.snd (Sp.Ballot v0 v1)) (Prod.fst (Sp.Bracket v0)) (Prod.snd (Sp.Bracket v0)) (Prod.fst (Sp.Meet v0 o0 o0_1)) (Prod.snd (Sp.Meet v0 o0 o0_1)) (Sp.first [Sp.out v0 (0 : Int) (200 : Int), Sp.out v1 (1 : Int) (2147483646 : Int)]) (Sp.out v0 (1 : Int) (200 : Int)) (Sp.out v0 (1 : Int) (200 : Int)) o0 o0_1))
                     (.fail))
                    (.fail))
                   (L2 v0 v1 (Prod.fst (Sp.Ballot v0 v1)) (Prod.snd (Sp.Ballot v0 v1)) (Prod.fst (Sp.Bracket v0)) (Prod.snd (Sp.Bracket v0)) (Prod.fst (Sp.Meet v0 o0 o0_1)) (Prod.snd (Sp.Meet v0 o0 o0_1)) (Sp.first [Sp.out v0 (0 : Int) (200 : Int), Sp.out v1 (1 : Int) (2147483646 : Int)]) (Sp.out v0 (1 : Int) (200 : Int)) (Sp.out v0 (1 : Int) (200 : Int)) o0 o0_1)))
                 (.fail)))
               (.fail)))
             (.fail)))
           (.fail))
          (.ite (Sp.out v0 (1 : Int) (200 : Int) == (0 : Int))
           (.ite (true)
            (.ite (true)
             (.ite (o0 == o0_1)
              (L2 v0 v1 (Prod.fst (Sp.Ballot v0 v1)) (Prod.snd (Sp.Ballot v0 v1)) (Prod.fst (Sp.Bracket v0)) (Prod.snd (Sp.Bracket v0)) (Prod.fst (Sp.Meet v0 o0 o0_1)) (Prod.snd (Sp.Meet v0 o0 o0_1)) (Sp.first [Sp.out v0 (0 : Int) (200 : Int), Sp.out v1 (1 : Int) (2147483646 : Int)]) (Sp.out v0 (1 : Int) (200 : Int)) ((9 : Int)) o0 o0_1)
              (L2 v0 v1 (Prod.fst (Sp.Ballot v0 v1)) (Prod.snd (Sp.Ballot v0 v1)) (Prod.fst (Sp.Bracket v0)) (Prod.snd (Sp.Bracket v0)) (Prod.fst (Sp.Meet v0 o0 o0_1)) (Prod.snd (Sp.Meet v0 o0 o0_1)) (Sp.first [Sp.out v0 (0 : Int) (200 : Int), Sp.out v1 (1 : Int) (2147483646 : Int)]) (Sp.out v0 (1 : Int) (200 : Int)) (Sp.out v0 (1 : Int) (200 : Int)) o0 o0_1))
             (.fail))
            (.fail))
           (L2 v0 v1 (Prod.fst (Sp.Ballot v0 v1)) (Prod.snd (Sp.Ballot v0 v1)) (Prod.fst (Sp.Bracket v0)) (Prod.snd (Sp.Bracket v0)) (Prod.fst (Sp.Meet v0 o0 o0_1)) (Prod.snd (Sp.Meet v0 o0 o0_1)) (Sp.first [Sp.out v0 (0 : Int) (200 : Int), Sp.out v1 (1 : Int) (2147483646 : Int)]) (Sp.out v0 (1 : Int) (200 : Int)) (Sp.out v0 (1 : Int) (200 : Int)) o0 o0_1)))
         (.fail))
        (.fail))
       (.fail))
      (.fail))
     (.fail))
    (.fail))
   (.fail))
  (.fail))
 (.fail) := by kernel_rfl
/-- function 3, region 16 -/
noncomputable def L3 (v0 : Int) (v7 : List Int) (v8 : Int) (v9 : List Int) (v10 : Int) (v11 : Int) (v12 : Int) (v13 : Int) (v14 : Int) (v15 : Int) (v16 : List Int) (v18 : Int) (o0 : Int) (o0_1 : Int) : Tr := re ((stepT X73 (L2 (0 : Int) (0 : Int) [] (0 : Int) [] (0 : Int) (0 : Int) (0 : Int) (0 : Int) (0 : Int) (0 : Int) (0 : Int) (0 : Int))).L.L) (mkSt (136) [(0, PV.dat (Sh.int IntKind.i64) v0), (5, PV.ptr (0 : Nat) (0 : Nat)), (7, PV.dat (Sh.list (Sh.int IntKind.i64)) v7), (8, PV.dat (Sh.int IntKind.i64) v8), (9, PV.dat (Sh.list (Sh.int IntKind.i64)) v9), (10, PV.dat (Sh.int IntKind.i64) v10), (11, PV.dat (Sh.int IntKind.i64) v11), (12, PV.dat (Sh.int IntKind.i64) v12), (13, PV.dat (Sh.int IntKind.i64) v13), (14, PV.dat (Sh.int IntKind.i64) v14), (15, PV.dat (Sh.int IntKind.i64) v15), (16, PV.dat (Sh.list (Sh.int IntKind.i64)) v16), (17, PV.nil), (18, PV.dat (Sh.int IntKind.i64) v18)] [(0, Obj.box [PV.dat (Sh.int IntKind.i64) o0, PV.dat (Sh.int IntKind.i64) o0_1])] (1))
/-- function 3, region 16 -/
noncomputable def L4 (v0 : Int) (v7 : List Int) (v8 : Int) (v9 : List Int) (v10 : Int) (v11 : Int) (v12 : Int) (v13 : Int) (v14 : Int) (v15 : Int) (v18 : Int) (o0 : Int) (o0_1 : Int) : Tr := re ((stepT X73 (L2 (0 : Int) (0 : Int) [] (0 : Int) [] (0 : Int) (0 : Int) (0 : Int) (0 : Int) (0 : Int) (0 : Int) (0 : Int) (0 : Int))).R) (mkSt (136) [(0, PV.dat (Sh.int IntKind.i64) v0), (5, PV.ptr (0 : Nat) (0 : Nat)), (7, PV.dat (Sh.list (Sh.int IntKind.i64)) v7), (8, PV.dat (Sh.int IntKind.i64) v8), (9, PV.dat (Sh.list (Sh.int IntKind.i64)) v9), (10, PV.dat (Sh.int IntKind.i64) v10), (11, PV.dat (Sh.int IntKind.i64) v11), (12, PV.dat (Sh.int IntKind.i64) v12), (13, PV.dat (Sh.int IntKind.i64) v13), (14, PV.dat (Sh.int IntKind.i64) v14), (15, PV.dat (Sh.int IntKind.i64) v15), (16, PV.nil), (17, PV.nil), (18, PV.dat (Sh.int IntKind.i64) v18)] [(0, Obj.box [PV.dat (Sh.int IntKind.i64) o0, PV.dat (Sh.int IntKind.i64) o0_1])] (1))
theorem L2_eq (v0 : Int) (v1 : Int) (v7 : List Int) (v8 : Int) (v9 : List Int) (v10 : Int) (v11 : Int) (v12 : Int) (v13 : Int) (v14 : Int) (v15 : Int) (o0 : Int) (o0_1 : Int) : stepT X73 (L2 v0 v1 v7 v8 v9 v10 v11 v12 v13 v14 v15 o0 o0_1) = .ite (v13 == (0 : Int))
 (.ite (decide ((0 : Int) ≤ v0) && decide (v0 ≤ (200 : Int)) && decide ((1 : Int) ≤ v1) && decide (v1 ≤ (2147483646 : Int)))
  (L3 v0 v7 v8 v9 v10 v11 v12 v13 v14 v15 (Sp.ballot v0 v1) ((0 : Int)) o0 o0_1)
  (.fail))
 (L4 v0 v7 v8 v9 v10 v11 v12 v13 v14 v15 ((0 : Int)) o0 o0_1) := by kernel_rfl
/-- function 3, region 18 -/
noncomputable def L5 (v0 : Int) (v7 : List Int) (v8 : Int) (v9 : List Int) (v10 : Int) (v11 : Int) (v12 : Int) (v13 : Int) (v14 : Int) (v15 : Int) (v16 : List Int) (v17 : List Int) (v18 : Int) (o0 : Int) (o0_1 : Int) : Tr := re ((stepT X73 (L3 (0 : Int) [] (0 : Int) [] (0 : Int) (0 : Int) (0 : Int) (0 : Int) (0 : Int) (0 : Int) [] (0 : Int) (0 : Int) (0 : Int))).L.L) (mkSt (136) [(0, PV.dat (Sh.int IntKind.i64) v0), (5, PV.ptr (0 : Nat) (0 : Nat)), (7, PV.dat (Sh.list (Sh.int IntKind.i64)) v7), (8, PV.dat (Sh.int IntKind.i64) v8), (9, PV.dat (Sh.list (Sh.int IntKind.i64)) v9), (10, PV.dat (Sh.int IntKind.i64) v10), (11, PV.dat (Sh.int IntKind.i64) v11), (12, PV.dat (Sh.int IntKind.i64) v12), (13, PV.dat (Sh.int IntKind.i64) v13), (14, PV.dat (Sh.int IntKind.i64) v14), (15, PV.dat (Sh.int IntKind.i64) v15), (16, PV.dat (Sh.list (Sh.int IntKind.i64)) v16), (17, PV.dat (Sh.list (Sh.int IntKind.i64)) v17), (18, PV.dat (Sh.int IntKind.i64) v18)] [(0, Obj.box [PV.dat (Sh.int IntKind.i64) o0, PV.dat (Sh.int IntKind.i64) o0_1])] (1))
/-- function 3, region 18 -/
noncomputable def L6 (v0 : Int) (v7 : List Int) (v8 : Int) (v9 : List Int) (v10 : Int) (v11 : Int) (v12 : Int) (v13 : Int) (v14 : Int) (v15 : Int) (v16 : List Int) (v18 : Int) (o0 : Int) (o0_1 : Int) : Tr := re ((stepT X73 (L3 (0 : Int) [] (0 : Int) [] (0 : Int) (0 : Int) (0 : Int) (0 : Int) (0 : Int) (0 : Int) [] (0 : Int) (0 : Int) (0 : Int))).R) (mkSt (136) [(0, PV.dat (Sh.int IntKind.i64) v0), (5, PV.ptr (0 : Nat) (0 : Nat)), (7, PV.dat (Sh.list (Sh.int IntKind.i64)) v7), (8, PV.dat (Sh.int IntKind.i64) v8), (9, PV.dat (Sh.list (Sh.int IntKind.i64)) v9), (10, PV.dat (Sh.int IntKind.i64) v10), (11, PV.dat (Sh.int IntKind.i64) v11), (12, PV.dat (Sh.int IntKind.i64) v12), (13, PV.dat (Sh.int IntKind.i64) v13), (14, PV.dat (Sh.int IntKind.i64) v14), (15, PV.dat (Sh.int IntKind.i64) v15), (16, PV.dat (Sh.list (Sh.int IntKind.i64)) v16), (17, PV.nil), (18, PV.dat (Sh.int IntKind.i64) v18)] [(0, Obj.box [PV.dat (Sh.int IntKind.i64) o0, PV.dat (Sh.int IntKind.i64) o0_1])] (1))
theorem L3_eq (v0 : Int) (v7 : List Int) (v8 : Int) (v9 : List Int) (v10 : Int) (v11 : Int) (v12 : Int) (v13 : Int) (v14 : Int) (v15 : Int) (v16 : List Int) (v18 : Int) (o0 : Int) (o0_1 : Int) : stepT X73 (L3 v0 v7 v8 v9 v10 v11 v12 v13 v14 v15 v16 v18 o0 o0_1) = .ite (v14 == (0 : Int))
 (.ite (decide ((1 : Int) ≤ v0) && decide (v0 ≤ (200 : Int)))
  (L5 v0 v7 v8 v9 v10 v11 v12 v13 v14 v15 v16 (Sp.bracket v0) v18 o0 o0_1)
  (.fail))
 (L6 v0 v7 v8 v9 v10 v11 v12 v13 v14 v15 v16 v18 o0 o0_1) := by kernel_rfl
/-- function 3, region 18 -/
noncomputable def L7 (v0 : Int) (v7 : List Int) (v8 : Int) (v9 : List Int) (v10 : Int) (v11 : Int) (v12 : Int) (v13 : Int) (v14 : Int) (v15 : Int) (v17 : List Int) (v18 : Int) (o0 : Int) (o0_1 : Int) : Tr := re ((stepT X73 (L4 (0 : Int) [] (0 : Int) [] (0 : Int) (0 : Int) (0 : Int) (0 : Int) (0 : Int) (0 : Int) (0 : Int) (0 : Int) (0 : Int))).L.L) (mkSt (136) [(0, PV.dat (Sh.int IntKind.i64) v0), (5, PV.ptr (0 : Nat) (0 : Nat)), (7, PV.dat (Sh.list (Sh.int IntKind.i64)) v7), (8, PV.dat (Sh.int IntKind.i64) v8), (9, PV.dat (Sh.list (Sh.int IntKind.i64)) v9), (10, PV.dat (Sh.int IntKind.i64) v10), (11, PV.dat (Sh.int IntKind.i64) v11), (12, PV.dat (Sh.int IntKind.i64) v12), (13, PV.dat (Sh.int IntKind.i64) v13), (14, PV.dat (Sh.int IntKind.i64) v14), (15, PV.dat (Sh.int IntKind.i64) v15), (16, PV.nil), (17, PV.dat (Sh.list (Sh.int IntKind.i64)) v17), (18, PV.dat (Sh.int IntKind.i64) v18)] [(0, Obj.box [PV.dat (Sh.int IntKind.i64) o0, PV.dat (Sh.int IntKind.i64) o0_1])] (1))
/-- function 3, region 18 -/
noncomputable def L8 (v0 : Int) (v7 : List Int) (v8 : Int) (v9 : List Int) (v10 : Int) (v11 : Int) (v12 : Int) (v13 : Int) (v14 : Int) (v15 : Int) (v18 : Int) (o0 : Int) (o0_1 : Int) : Tr := re ((stepT X73 (L4 (0 : Int) [] (0 : Int) [] (0 : Int) (0 : Int) (0 : Int) (0 : Int) (0 : Int) (0 : Int) (0 : Int) (0 : Int) (0 : Int))).R) (mkSt (136) [(0, PV.dat (Sh.int IntKind.i64) v0), (5, PV.ptr (0 : Nat) (0 : Nat)), (7, PV.dat (Sh.list (Sh.int IntKind.i64)) v7), (8, PV.dat (Sh.int IntKind.i64) v8), (9, PV.dat (Sh.list (Sh.int IntKind.i64)) v9), (10, PV.dat (Sh.int IntKind.i64) v10), (11, PV.dat (Sh.int IntKind.i64) v11), (12, PV.dat (Sh.int IntKind.i64) v12), (13, PV.dat (Sh.int IntKind.i64) v13), (14, PV.dat (Sh.int IntKind.i64) v14), (15, PV.dat (Sh.int IntKind.i64) v15), (16, PV.nil), (17, PV.nil), (18, PV.dat (Sh.int IntKind.i64) v18)] [(0, Obj.box [PV.dat (Sh.int IntKind.i64) o0, PV.dat (Sh.int IntKind.i64) o0_1])] (1))
theorem L4_eq (v0 : Int) (v7 : List Int) (v8 : Int) (v9 : List Int) (v10 : Int) (v11 : Int) (v12 : Int) (v13 : Int) (v14 : Int) (v15 : Int) (v18 : Int) (o0 : Int) (o0_1 : Int) : stepT X73 (L4 v0 v7 v8 v9 v10 v11 v12 v13 v14 v15 v18 o0 o0_1) = .ite (v14 == (0 : Int))
 (.ite (decide ((1 : Int) ≤ v0) && decide (v0 ≤ (200 : Int)))
  (L7 v0 v7 v8 v9 v10 v11 v12 v13 v14 v15 (Sp.bracket v0) v18 o0 o0_1)
  (.fail))
 (L8 v0 v7 v8 v9 v10 v11 v12 v13 v14 v15 v18 o0 o0_1) := by kernel_rfl
/-- function 3, region 20 -/
noncomputable def L9 (v7 : List Int) (v8 : Int) (v9 : List Int) (v10 : Int) (v11 : Int) (v12 : Int) (v13 : Int) (v14 : Int) (v15 : Int) (v16 : List Int) (v17 : List Int) (v18 : Int) : Tr := re ((stepT X73 (L5 (0 : Int) [] (0 : Int) [] (0 : Int) (0 : Int) (0 : Int) (0 : Int) (0 : Int) (0 : Int) [] [] (0 : Int) (0 : Int) (0 : Int))).L.L.L.L) (mkSt (136) [(7, PV.dat (Sh.list (Sh.int IntKind.i64)) v7), (8, PV.dat (Sh.int IntKind.i64) v8), (9, PV.dat (Sh.list (Sh.int IntKind.i64)) v9), (10, PV.dat (Sh.int IntKind.i64) v10), (11, PV.dat (Sh.int IntKind.i64) v11), (12, PV.dat (Sh.int IntKind.i64) v12), (13, PV.dat (Sh.int IntKind.i64) v13), (14, PV.dat (Sh.int IntKind.i64) v14), (15, PV.dat (Sh.int IntKind.i64) v15), (16, PV.dat (Sh.list (Sh.int IntKind.i64)) v16), (17, PV.dat (Sh.list (Sh.int IntKind.i64)) v17), (18, PV.dat (Sh.int IntKind.i64) v18)] [] (0))
theorem L5_eq (v0 : Int) (v7 : List Int) (v8 : Int) (v9 : List Int) (v10 : Int) (v11 : Int) (v12 : Int) (v13 : Int) (v14 : Int) (v15 : Int) (v16 : List Int) (v17 : List Int) (v18 : Int) (o0 : Int) (o0_1 : Int) : stepT X73 (L5 v0 v7 v8 v9 v10 v11 v12 v13 v14 v15 v16 v17 v18 o0 o0_1) = .ite (v15 == (0 : Int))
 (.ite (true)
  (.ite (true)
   (.ite (decide ((1 : Int) ≤ v0) && decide (v0 ≤ (200 : Int)))
    (L9 v7 v8 v9 v10 v11 v12 v13 v14 v15 v16 v17 (Sp.meetR v0 o0 o0_1))
    (.fail))
   (.fail))
  (.fail))
 (L9 v7 v8 v9 v10 v11 v12 v13 v14 v15 v16 v17 v18) := by kernel_rfl
/-- function 3, region 20 -/
noncomputable def L10 (v7 : List Int) (v8 : Int) (v9 : List Int) (v10 : Int) (v11 : Int) (v12 : Int) (v13 : Int) (v14 : Int) (v15 : Int) (v16 : List Int) (v18 : Int) : Tr := re ((stepT X73 (L6 (0 : Int) [] (0 : Int) [] (0 : Int) (0 : Int) (0 : Int) (0 : Int) (0 : Int) (0 : Int) [] (0 : Int) (0 : Int) (0 : Int))).L.L.L.L) (mkSt (136) [(7, PV.dat (Sh.list (Sh.int IntKind.i64)) v7), (8, PV.dat (Sh.int IntKind.i64) v8), (9, PV.dat (Sh.list (Sh.int IntKind.i64)) v9), (10, PV.dat (Sh.int IntKind.i64) v10), (11, PV.dat (Sh.int IntKind.i64) v11), (12, PV.dat (Sh.int IntKind.i64) v12), (13, PV.dat (Sh.int IntKind.i64) v13), (14, PV.dat (Sh.int IntKind.i64) v14), (15, PV.dat (Sh.int IntKind.i64) v15), (16, PV.dat (Sh.list (Sh.int IntKind.i64)) v16), (17, PV.nil), (18, PV.dat (Sh.int IntKind.i64) v18)] [] (0))
theorem L6_eq (v0 : Int) (v7 : List Int) (v8 : Int) (v9 : List Int) (v10 : Int) (v11 : Int) (v12 : Int) (v13 : Int) (v14 : Int) (v15 : Int) (v16 : List Int) (v18 : Int) (o0 : Int) (o0_1 : Int) : stepT X73 (L6 v0 v7 v8 v9 v10 v11 v12 v13 v14 v15 v16 v18 o0 o0_1) = .ite (v15 == (0 : Int))
 (.ite (true)
  (.ite (true)
   (.ite (decide ((1 : Int) ≤ v0) && decide (v0 ≤ (200 : Int)))
    (L10 v7 v8 v9 v10 v11 v12 v13 v14 v15 v16 (Sp.meetR v0 o0 o0_1))
    (.fail))
   (.fail))
  (.fail))
 (L10 v7 v8 v9 v10 v11 v12 v13 v14 v15 v16 v18) := by kernel_rfl
/-- function 3, region 20 -/
noncomputable def L11 (v7 : List Int) (v8 : Int) (v9 : List Int) (v10 : Int) (v11 : Int) (v12 : Int) (v13 : Int) (v14 : Int) (v15 : Int) (v17 : List Int) (v18 : Int) : Tr := re ((stepT X73 (L7 (0 : Int) [] (0 : Int) [] (0 : Int) (0 : Int) (0 : Int) (0 : Int) (0 : Int) (0 : Int) [] (0 : Int) (0 : Int) (0 : Int))).L.L.L.L) (mkSt (136) [(7, PV.dat (Sh.list (Sh.int IntKind.i64)) v7), (8, PV.dat (Sh.int IntKind.i64) v8), (9, PV.dat (Sh.list (Sh.int IntKind.i64)) v9), (10, PV.dat (Sh.int IntKind.i64) v10), (11, PV.dat (Sh.int IntKind.i64) v11), (12, PV.dat (Sh.int IntKind.i64) v12), (13, PV.dat (Sh.int IntKind.i64) v13), (14, PV.dat (Sh.int IntKind.i64) v14), (15, PV.dat (Sh.int IntKind.i64) v15), (16, PV.nil), (17, PV.dat (Sh.list (Sh.int IntKind.i64)) v17), (18, PV.dat (Sh.int IntKind.i64) v18)] [] (0))
theorem L7_eq (v0 : Int) (v7 : List Int) (v8 : Int) (v9 : List Int) (v10 : Int) (v11 : Int) (v12 : Int) (v13 : Int) (v14 : Int) (v15 : Int) (v17 : List Int) (v18 : Int) (o0 : Int) (o0_1 : Int) : stepT X73 (L7 v0 v7 v8 v9 v10 v11 v12 v13 v14 v15 v17 v18 o0 o0_1) = .ite (v15 == (0 : Int))
 (.ite (true)
  (.ite (true)
   (.ite (decide ((1 : Int) ≤ v0) && decide (v0 ≤ (200 : Int)))
    (L11 v7 v8 v9 v10 v11 v12 v13 v14 v15 v17 (Sp.meetR v0 o0 o0_1))
    (.fail))
   (.fail))
  (.fail))
 (L11 v7 v8 v9 v10 v11 v12 v13 v14 v15 v17 v18) := by kernel_rfl
/-- function 3, region 20 -/
noncomputable def L12 (v7 : List Int) (v8 : Int) (v9 : List Int) (v10 : Int) (v11 : Int) (v12 : Int) (v13 : Int) (v14 : Int) (v15 : Int) (v18 : Int) : Tr := re ((stepT X73 (L8 (0 : Int) [] (0 : Int) [] (0 : Int) (0 : Int) (0 : Int) (0 : Int) (0 : Int) (0 : Int) (0 : Int) (0 : Int) (0 : Int))).L.L.L.L) (mkSt (136) [(7, PV.dat (Sh.list (Sh.int IntKind.i64)) v7), (8, PV.dat (Sh.int IntKind.i64) v8), (9, PV.dat (Sh.list (Sh.int IntKind.i64)) v9), (10, PV.dat (Sh.int IntKind.i64) v10), (11, PV.dat (Sh.int IntKind.i64) v11), (12, PV.dat (Sh.int IntKind.i64) v12), (13, PV.dat (Sh.int IntKind.i64) v13), (14, PV.dat (Sh.int IntKind.i64) v14), (15, PV.dat (Sh.int IntKind.i64) v15), (16, PV.nil), (17, PV.nil), (18, PV.dat (Sh.int IntKind.i64) v18)] [] (0))
theorem L8_eq (v0 : Int) (v7 : List Int) (v8 : Int) (v9 : List Int) (v10 : Int) (v11 : Int) (v12 : Int) (v13 : Int) (v14 : Int) (v15 : Int) (v18 : Int) (o0 : Int) (o0_1 : Int) : stepT X73 (L8 v0 v7 v8 v9 v10 v11 v12 v13 v14 v15 v18 o0 o0_1) = .ite (v15 == (0 : Int))
 (.ite (true)
  (.ite (true)
   (.ite (decide ((1 : Int) ≤ v0) && decide (v0 ≤ (200 : Int)))
    (L12 v7 v8 v9 v10 v11 v12 v13 v14 v15 (Sp.meetR v0 o0 o0_1))
    (.fail))
   (.fail))
  (.fail))
 (L12 v7 v8 v9 v10 v11 v12 v13 v14 v15 v18) := by kernel_rfl
theorem L9_eq (v7 : List Int) (v8 : Int) (v9 : List Int) (v10 : Int) (v11 : Int) (v12 : Int) (v13 : Int) (v14 : Int) (v15 : Int) (v16 : List Int) (v17 : List Int) (v18 : Int) : stepT X73 (L9 v7 v8 v9 v10 v11 v12 v13 v14 v15 v16 v17 v18) = .ite (v8 == v13)
 (.ite (decide (List.length v7 ≤ (1000000 : Nat)))
  (.ite (v7 == v16)
   (.ite (v10 == v14)
    (.ite (decide (List.length v9 ≤ (1000000 : Nat)))
     (.ite (v9 == v17)
      (.ite (v12 == v15)
       (.ite (v11 == v18)
        (.ite (true)
         (.leaf (PV.dat Sh.bool true) ([]))
         (.fail))
        (.leaf (PV.bl false) ([])))
       (.leaf (PV.bl false) ([])))
      (.leaf (PV.bl false) ([])))
     (.fail))
    (.leaf (PV.bl false) ([])))
   (.leaf (PV.bl false) ([])))
  (.fail))
 (.leaf (PV.bl false) ([])) := by kernel_rfl
theorem L10_eq (v7 : List Int) (v8 : Int) (v9 : List Int) (v10 : Int) (v11 : Int) (v12 : Int) (v13 : Int) (v14 : Int) (v15 : Int) (v16 : List Int) (v18 : Int) : stepT X73 (L10 v7 v8 v9 v10 v11 v12 v13 v14 v15 v16 v18) = .ite (v8 == v13)
 (.ite (decide (List.length v7 ≤ (1000000 : Nat)))
  (.ite (v7 == v16)
   (.ite (v10 == v14)
    (.ite (decide (List.length v9 ≤ (1000000 : Nat)))
     (.ite (v9 == [])
      (.ite (v12 == v15)
       (.ite (v11 == v18)
        (.ite (true)
         (.leaf (PV.dat Sh.bool true) ([]))
         (.fail))
        (.leaf (PV.bl false) ([])))
       (.leaf (PV.bl false) ([])))
      (.leaf (PV.bl false) ([])))
     (.fail))
    (.leaf (PV.bl false) ([])))
   (.leaf (PV.bl false) ([])))
  (.fail))
 (.leaf (PV.bl false) ([])) := by kernel_rfl
theorem L11_eq (v7 : List Int) (v8 : Int) (v9 : List Int) (v10 : Int) (v11 : Int) (v12 : Int) (v13 : Int) (v14 : Int) (v15 : Int) (v17 : List Int) (v18 : Int) : stepT X73 (L11 v7 v8 v9 v10 v11 v12 v13 v14 v15 v17 v18) = .ite (v8 == v13)
 (.ite (decide (List.length v7 ≤ (1000000 : Nat)))
  (.ite (v7 == [])
   (.ite (v10 == v14)
    (.ite (decide (List.length v9 ≤ (1000000 : Nat)))
     (.ite (v9 == v17)
      (.ite (v12 == v15)
       (.ite (v11 == v18)
        (.ite (true)
         (.leaf (PV.dat Sh.bool true) ([]))
         (.fail))
        (.leaf (PV.bl false) ([])))
       (.leaf (PV.bl false) ([])))
      (.leaf (PV.bl false) ([])))
     (.fail))
    (.leaf (PV.bl false) ([])))
   (.leaf (PV.bl false) ([])))
  (.fail))
 (.leaf (PV.bl false) ([])) := by kernel_rfl
theorem L12_eq (v7 : List Int) (v8 : Int) (v9 : List Int) (v10 : Int) (v11 : Int) (v12 : Int) (v13 : Int) (v14 : Int) (v15 : Int) (v18 : Int) : stepT X73 (L12 v7 v8 v9 v10 v11 v12 v13 v14 v15 v18) = .ite (v8 == v13)
 (.ite (decide (List.length v7 ≤ (1000000 : Nat)))
  (.ite (v7 == [])
   (.ite (v10 == v14)
    (.ite (decide (List.length v9 ≤ (1000000 : Nat)))
     (.ite (v9 == [])
      (.ite (v12 == v15)
       (.ite (v11 == v18)
        (.ite (true)
         (.leaf (PV.dat Sh.bool true) ([]))
         (.fail))
        (.leaf (PV.bl false) ([])))
       (.leaf (PV.bl false) ([])))
      (.leaf (PV.bl false) ([])))
     (.fail))
    (.leaf (PV.bl false) ([])))
   (.leaf (PV.bl false) ([])))
  (.fail))
 (.leaf (PV.bl false) ([])) := by kernel_rfl
end T3
end Go.Pe
end
