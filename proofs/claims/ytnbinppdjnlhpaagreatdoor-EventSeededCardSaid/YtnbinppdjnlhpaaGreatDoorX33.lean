import Derived.Test.YtnbinppdjnlhpaaGreatDoorX32
/- A part of the proofs of the laws of one chapter (no law is stated here). Made by program out of texts by AI agents. -/
section
/- Decision trees, by program. -/
namespace Go.Pe
open Go.Det
namespace T9
noncomputable def T (n : Int) (a : Int) (b : Int) : Tr := tree X74 false 9 9 (valsOf ([Sh.int IntKind.i64, Sh.int IntKind.u8, Sh.int IntKind.u8]) (n, a, b))
/-- function 9, region 3 -/
noncomputable def L1 (v0 : Int) (v1 : Int) (v2 : Int) : Tr := re ((T (0 : Int) (0 : Int) (0 : Int)).R.R) (mkSt (234) [(0, PV.dat (Sh.int IntKind.i64) v0), (1, PV.dat (Sh.int IntKind.u8) v1), (2, PV.dat (Sh.int IntKind.u8) v2)] [] (0))
theorem T_eq (n : Int) (a : Int) (b : Int) : T n a b = .ite (decide (n < (2 : Int)))
 (.ite (true)
  (.leaf (PV.dat Sh.bool true) ([]))
  (.fail))
 (.ite (decide (n > (70 : Int)))
  (.ite (true)
   (.leaf (PV.dat Sh.bool true) ([]))
   (.fail))
  (L1 n a b)) := by kernel_rfl
/-- function 9, region 6 -/
noncomputable def L2 (v0 : Int) (v1 : Int) (v2 : Int) (v7 : List Int) : Tr := re ((stepT X74 (L1 (0 : Int) (0 : Int) (0 : Int))).L.R.R.R.R) (mkSt (234) [(0, PV.dat (Sh.int IntKind.i64) v0), (1, PV.dat (Sh.int IntKind.u8) v1), (2, PV.dat (Sh.int IntKind.u8) v2), (7, PV.dat (Sh.list (Sh.int IntKind.i64)) v7)] [] (0))
theorem L1_eq (v0 : Int) (v1 : Int) (v2 : Int) : stepT X74 (L1 v0 v1 v2) = .ite (true)
 (.ite (Prod.snd (Sp.Bracket v0) != (0 : Int))
  (.leaf (PV.bl false) ([]))
  (.ite (decide ((↑(List.length (Prod.fst (Sp.Bracket v0))) : Int) < v0))
   (.leaf (PV.bl false) ([]))
   (.ite (decide ((↑(List.length (Prod.fst (Sp.Bracket v0))) : Int) ≥ IntKind.wrap IntKind.i64 ((2 : Int) * v0)))
    (.leaf (PV.bl false) ([]))
    (.ite (IntKind.wrap IntKind.i64 (↑(Nat.bitwise Bool.and (BitVec.toNat (BitVec.ofInt (IntKind.bits IntKind.i64) (Int.ofNat (List.length (Prod.fst (Sp.Bracket v0)))))) (BitVec.toNat (BitVec.ofInt (IntKind.bits IntKind.i64) (IntKind.wrap IntKind.i64 (Int.ofNat (List.length (Prod.fst (Sp.Bracket v0))) - (1 : Int)))))) : Int) != (0 : Int))
     (.leaf (PV.bl false) ([]))
     (L2 v0 v1 v2 (Prod.fst (Sp.Bracket v0)))))))
 (.fail) := by kernel_rfl
/-- function 9, region 10 -/
noncomputable def L3 (v0 : Int) (v7 : List Int) (v9 : Int) (v10 : Int) (v11n : Nat) (v12 : Int) (v13 : Int) (o0 : List Int) : Tr := re ((stepT X74 (L2 (0 : Int) (0 : Int) (0 : Int) [])).L.L.L) (mkSt (234) [(0, PV.dat (Sh.int IntKind.i64) v0), (7, PV.dat (Sh.list (Sh.int IntKind.i64)) v7), (9, PV.dat (Sh.int IntKind.i64) v9), (10, PV.dat (Sh.int IntKind.i64) v10), (11, PV.sl (0) (1) (0) v11n none), (12, PV.dat (Sh.int IntKind.i64) v12), (13, PV.dat (Sh.int IntKind.i64) v13)] [(0, Obj.arr false (3) (Sh.int IntKind.i64) o0)] (1))
theorem L2_eq (v0 : Int) (v1 : Int) (v2 : Int) (v7 : List Int) : stepT X74 (L2 v0 v1 v2 v7) = .ite (decide (v0 ≠ (0 : Int)))
 (.ite (decide (v0 ≠ (0 : Int)))
  (.ite (decide (((2 : Nat) * ((0 : Nat) + List.length v7) + (1000 : Nat)) * (8 : Nat) ≤ (281474976710656 : Nat)))
   (L3 v0 v7 (IntKind.wrap IntKind.i64 ((1 : Int) + Int.tmod (IntKind.wrap IntKind.i64 v1) v0)) (IntKind.wrap IntKind.i64 ((1 : Int) + Int.tmod (IntKind.wrap IntKind.i64 v2) v0)) (Nat.add (0 : Nat) (List.length v7)) ((0 : Int)) ((1 : Int)) ([] ++ v7))
   (.fail))
  (.fail))
 (.fail) := by kernel_rfl
/-- function 9, region 14 -/
noncomputable def L4 (v0 : Int) (v7 : List Int) (v9 : Int) (v10 : Int) (v11n : Nat) (v12 : Int) (v13 : Int) (v15 : Int) (o0 : List Int) : Tr := re ((stepT X74 (L3 (0 : Int) [] (0 : Int) (0 : Int) 0 (0 : Int) (0 : Int) [])).L) (mkSt (234) [(0, PV.dat (Sh.int IntKind.i64) v0), (7, PV.dat (Sh.list (Sh.int IntKind.i64)) v7), (9, PV.dat (Sh.int IntKind.i64) v9), (10, PV.dat (Sh.int IntKind.i64) v10), (11, PV.sl (0) (1) (0) v11n none), (12, PV.dat (Sh.int IntKind.i64) v12), (13, PV.dat (Sh.int IntKind.i64) v13), (14, PV.nil), (15, PV.dat (Sh.int IntKind.i64) v15)] [(0, Obj.arr false (3) (Sh.int IntKind.i64) o0)] (1))
/-- function 9, region 35 -/
noncomputable def L5 (v0 : Int) (v7 : List Int) (v9 : Int) (v10 : Int) (v12 : Int) : Tr := re ((stepT X74 (L3 (0 : Int) [] (0 : Int) (0 : Int) 0 (0 : Int) (0 : Int) [])).R.R) (mkSt (234) [(0, PV.dat (Sh.int IntKind.i64) v0), (7, PV.dat (Sh.list (Sh.int IntKind.i64)) v7), (9, PV.dat (Sh.int IntKind.i64) v9), (10, PV.dat (Sh.int IntKind.i64) v10), (12, PV.dat (Sh.int IntKind.i64) v12)] [] (0))
theorem L3_eq (v0 : Int) (v7 : List Int) (v9 : Int) (v10 : Int) (v11n : Nat) (v12 : Int) (v13 : Int) (o0 : List Int) : stepT X74 (L3 v0 v7 v9 v10 v11n v12 v13 o0) = .ite (decide ((↑v11n : Int) > (1 : Int)))
 (L4 v0 v7 v9 v10 v11n v12 v13 ((0 : Int)) o0)
 (.ite (v9 == v10)
  (.ite (true)
   (.ite (Prod.snd (Sp.Meet v0 v9 v10) == (9 : Int))
    (.ite (true)
     (.leaf (PV.dat Sh.bool true) ([(0, Obj.arr false (3) (Sh.int IntKind.i64) o0)]))
     (.fail))
    (.leaf (PV.bl false) ([(0, Obj.arr false (3) (Sh.int IntKind.i64) o0)])))
   (.fail))
  (L5 v0 v7 v9 v10 v12)) := by kernel_rfl
/-- function 9, region 16 -/
noncomputable def L6 (v0 : Int) (v7 : List Int) (v9 : Int) (v10 : Int) (v11n : Nat) (v12 : Int) (v13 : Int) (v15 : Int) (o0 : List Int) : Tr := re ((stepT X74 (L4 (0 : Int) [] (0 : Int) (0 : Int) 0 (0 : Int) (0 : Int) (0 : Int) [])).L) (mkSt (234) [(0, PV.dat (Sh.int IntKind.i64) v0), (7, PV.dat (Sh.list (Sh.int IntKind.i64)) v7), (9, PV.dat (Sh.int IntKind.i64) v9), (10, PV.dat (Sh.int IntKind.i64) v10), (11, PV.sl (0) (1) (0) v11n none), (12, PV.dat (Sh.int IntKind.i64) v12), (13, PV.dat (Sh.int IntKind.i64) v13), (14, PV.nil), (15, PV.dat (Sh.int IntKind.i64) v15)] [(0, Obj.arr false (3) (Sh.int IntKind.i64) o0)] (1))
/-- function 9, region 26 -/
noncomputable def L7 (v0 : Int) (v7 : List Int) (v9 : Int) (v10 : Int) (v12 : Int) (v13 : Int) (v19n : Nat) (v133 : Int) (v134 : Int) (o0 : List Bool) : Tr := re ((stepT X74 (L4 (0 : Int) [] (0 : Int) (0 : Int) 0 (0 : Int) (0 : Int) (0 : Int) [])).R.L) (mkSt (234) [(0, PV.dat (Sh.int IntKind.i64) v0), (7, PV.dat (Sh.list (Sh.int IntKind.i64)) v7), (9, PV.dat (Sh.int IntKind.i64) v9), (10, PV.dat (Sh.int IntKind.i64) v10), (11, PV.nil), (12, PV.dat (Sh.int IntKind.i64) v12), (13, PV.dat (Sh.int IntKind.i64) v13), (19, PV.sl (0) (1) (0) v19n none), (132, PV.nil), (133, PV.dat (Sh.int IntKind.i64) v133), (134, PV.dat (Sh.int IntKind.i64) v134)] [(0, Obj.arr false (4) Sh.bool o0)] (1))
theorem L4_eq (v0 : Int) (v7 : List Int) (v9 : Int) (v10 : Int) (v11n : Nat) (v12 : Int) (v13 : Int) (v15 : Int) (o0 : List Int) : stepT X74 (L4 v0 v7 v9 v10 v11n v12 v13 v15 o0) = .ite (decide (v15 < (↑v11n : Int)))
 (L6 v0 v7 v9 v10 v11n v12 v13 v15 o0)
 (.ite (true)
  (L7 v0 v7 v9 v10 v12 v13 ((1 : Nat)) ((0 : Int)) ((0 : Int)) (List.replicate (1 : Nat) false))
  (.fail)) := by kernel_rfl
/-- function 9, region 38 -/
noncomputable def L8 (v7 : List Int) (v9 : Int) (v10 : Int) (v22 : Int) : Tr := re ((stepT X74 (L5 (0 : Int) [] (0 : Int) (0 : Int) (0 : Int))).L.R.R.L.R) (mkSt (234) [(7, PV.dat (Sh.list (Sh.int IntKind.i64)) v7), (9, PV.dat (Sh.int IntKind.i64) v9), (10, PV.dat (Sh.int IntKind.i64) v10), (22, PV.dat (Sh.int IntKind.i64) v22)] [] (0))
theorem L5_eq (v0 : Int) (v7 : List Int) (v9 : Int) (v10 : Int) (v12 : Int) : stepT X74 (L5 v0 v7 v9 v10 v12) = .ite (true)
 (.ite (Prod.snd (Sp.Meet v0 v9 v10) != (0 : Int))
  (.leaf (PV.bl false) ([]))
  (.ite (decide (Prod.fst (Sp.Meet v0 v9 v10) < (1 : Int)))
   (.leaf (PV.bl false) ([]))
   (.ite (decide (v12 > (0 : Int)))
    (.ite (v12 != Prod.fst (Sp.Meet v0 v9 v10))
     (.leaf (PV.bl false) ([]))
     (L8 v7 v9 v10 (Prod.fst (Sp.Meet v0 v9 v10))))
    (L8 v7 v9 v10 (Prod.fst (Sp.Meet v0 v9 v10))))))
 (.fail) := by kernel_rfl
/-- function 9, region 19 -/
noncomputable def L9 (v0 : Int) (v7 : List Int) (v9 : Int) (v10 : Int) (v11n : Nat) (v12 : Int) (v13 : Int) (v15 : Int) (v16 : Int) (v17 : Int) (o0 : List Int) : Tr := re ((stepT X74 (L6 (0 : Int) [] (0 : Int) (0 : Int) 0 (0 : Int) (0 : Int) (0 : Int) [])).L.L.L.L.L.L) (mkSt (234) [(0, PV.dat (Sh.int IntKind.i64) v0), (7, PV.dat (Sh.list (Sh.int IntKind.i64)) v7), (9, PV.dat (Sh.int IntKind.i64) v9), (10, PV.dat (Sh.int IntKind.i64) v10), (11, PV.sl (0) (1) (0) v11n none), (12, PV.dat (Sh.int IntKind.i64) v12), (13, PV.dat (Sh.int IntKind.i64) v13), (14, PV.nil), (15, PV.dat (Sh.int IntKind.i64) v15), (16, PV.dat (Sh.int IntKind.i64) v16), (17, PV.dat (Sh.int IntKind.i64) v17)] [(0, Obj.arr false (3) (Sh.int IntKind.i64) o0)] (1))
theorem L6_eq (v0 : Int) (v7 : List Int) (v9 : Int) (v10 : Int) (v11n : Nat) (v12 : Int) (v13 : Int) (v15 : Int) (o0 : List Int) : stepT X74 (L6 v0 v7 v9 v10 v11n v12 v13 v15 o0) = .ite (decide ((0 : Int) ≤ v15) && decide (v15 < (↑v11n : Int)))
 (.ite (decide (Int.toNat v15 < List.length o0))
  (.ite (decide ((0 : Int) ≤ IntKind.wrap IntKind.i64 (v15 + (1 : Int))) && decide (IntKind.wrap IntKind.i64 (v15 + (1 : Int)) < (↑v11n : Int)))
   (.ite (decide (Int.toNat (IntKind.wrap IntKind.i64 (v15 + (1 : Int))) < List.length o0))
    (.ite (List.getD o0 (Int.toNat v15) (0 : Int) == v9)
     (.ite (List.getD o0 (Int.toNat (IntKind.wrap IntKind.i64 (v15 + (1 : Int)))) (0 : Int) == v10)
      (L9 v0 v7 v9 v10 v11n v13 v13 v15 (List.getD o0 (Int.toNat v15) (0 : Int)) (List.getD o0 (Int.toNat (IntKind.wrap IntKind.i64 (v15 + (1 : Int)))) (0 : Int)) o0)
      (.ite (List.getD o0 (Int.toNat v15) (0 : Int) == v10)
       (.ite (List.getD o0 (Int.toNat (IntKind.wrap IntKind.i64 (v15 + (1 : Int)))) (0 : Int) == v9)
        (L9 v0 v7 v9 v10 v11n v13 v13 v15 (List.getD o0 (Int.toNat v15) (0 : Int)) (List.getD o0 (Int.toNat (IntKind.wrap IntKind.i64 (v15 + (1 : Int)))) (0 : Int)) o0)
        (L9 v0 v7 v9 v10 v11n v12 v13 v15 (List.getD o0 (Int.toNat v15) (0 : Int)) (List.getD o0 (Int.toNat (IntKind.wrap IntKind.i64 (v15 + (1 : Int)))) (0 : Int)) o0))
       (L9 v0 v7 v9 v10 v11n v12 v13 v15 (List.getD o0 (Int.toNat v15) (0 : Int)) (List.getD o0 (Int.toNat (IntKind.wrap IntKind.i64 (v15 + (1 : Int)))) (0 : Int)) o0)))
     (.ite (List.getD o0 (Int.toNat v15) (0 : Int) == v10)
      (.ite (List.getD o0 (Int.toNat (IntKind.wrap IntKind.i64 (v15 + (1 : Int)))) (0 : Int) == v9)
       (L9 v0 v7 v9 v10 v11n v13 v13 v15 (List.getD o0 (Int.toNat v15) (0 : Int)) (List.getD o0 (Int.toNat (IntKind.wrap IntKind.i64 (v15 + (1 : Int)))) (0 : Int)) o0)
       (L9 v0 v7 v9 v10 v11n v12 v13 v15 (List.getD o0 (Int.toNat v15) (0 : Int)) (List.getD o0 (Int.toNat (IntKind.wrap IntKind.i64 (v15 + (1 : Int)))) (0 : Int)) o0))
      (L9 v0 v7 v9 v10 v11n v12 v13 v15 (List.getD o0 (Int.toNat v15) (0 : Int)) (List.getD o0 (Int.toNat (IntKind.wrap IntKind.i64 (v15 + (1 : Int)))) (0 : Int)) o0)))
    (.fail))
   (.fail))
  (.fail))
 (.fail) := by kernel_rfl
/-- function 9, region 10 -/
noncomputable def L10 (v0 : Int) (v7 : List Int) (v9 : Int) (v10 : Int) (v12 : Int) (v13 : Int) : Tr := re ((stepT X74 (L7 (0 : Int) [] (0 : Int) (0 : Int) (0 : Int) (0 : Int) 0 (0 : Int) (0 : Int) [])).R) (mkSt (234) [(0, PV.dat (Sh.int IntKind.i64) v0), (7, PV.dat (Sh.list (Sh.int IntKind.i64)) v7), (9, PV.dat (Sh.int IntKind.i64) v9), (10, PV.dat (Sh.int IntKind.i64) v10), (11, PV.nil), (12, PV.dat (Sh.int IntKind.i64) v12), (13, PV.dat (Sh.int IntKind.i64) v13)] [] (0))
theorem L7_eq (v0 : Int) (v7 : List Int) (v9 : Int) (v10 : Int) (v12 : Int) (v13 : Int) (v19n : Nat) (v133 : Int) (v134 : Int) (o0 : List Bool) : stepT X74 (L7 v0 v7 v9 v10 v12 v13 v19n v133 v134 o0) = .ite (decide (v134 < v133))
 (.fail)
 (L10 v0 v7 v9 v10 v12 (IntKind.wrap IntKind.i64 (v13 + (1 : Int)))) := by kernel_rfl
/-- function 9, region 40 -/
noncomputable def L11 (v9 : Int) (v10 : Int) (v22 : Int) (v23 : Int) (v24 : Int) (v193 : List Int) (v194 : Int) (v195 : Int) : Tr := re ((stepT X74 (L8 [] (0 : Int) (0 : Int) (0 : Int)))) (mkSt (234) [(9, PV.dat (Sh.int IntKind.i64) v9), (10, PV.dat (Sh.int IntKind.i64) v10), (22, PV.dat (Sh.int IntKind.i64) v22), (23, PV.dat (Sh.int IntKind.i64) v23), (24, PV.dat (Sh.int IntKind.i64) v24), (193, PV.dat (Sh.list (Sh.int IntKind.i64)) v193), (194, PV.dat (Sh.int IntKind.i64) v194), (195, PV.dat (Sh.int IntKind.i64) v195)] [] (0))
theorem L8_eq (v7 : List Int) (v9 : Int) (v10 : Int) (v22 : Int) : stepT X74 (L8 v7 v9 v10 v22) = L11 v9 v10 v22 ((0 : Int)) ((0 : Int)) v7 ((↑(List.length v7) : Int)) ((0 : Int)) := by kernel_rfl
/-- function 9, region 22 -/
noncomputable def L12 (v0 : Int) (v7 : List Int) (v9 : Int) (v10 : Int) (v11n : Nat) (v12 : Int) (v13 : Int) (v15 : Int) (v18 : Int) (o0 : List Int) : Tr := re ((stepT X74 (L9 (0 : Int) [] (0 : Int) (0 : Int) 0 (0 : Int) (0 : Int) (0 : Int) (0 : Int) (0 : Int) [])).L) (mkSt (234) [(0, PV.dat (Sh.int IntKind.i64) v0), (7, PV.dat (Sh.list (Sh.int IntKind.i64)) v7), (9, PV.dat (Sh.int IntKind.i64) v9), (10, PV.dat (Sh.int IntKind.i64) v10), (11, PV.sl (0) (1) (0) v11n none), (12, PV.dat (Sh.int IntKind.i64) v12), (13, PV.dat (Sh.int IntKind.i64) v13), (14, PV.nil), (15, PV.dat (Sh.int IntKind.i64) v15), (18, PV.dat (Sh.int IntKind.i64) v18)] [(0, Obj.arr false (3) (Sh.int IntKind.i64) o0)] (1))
theorem L9_eq (v0 : Int) (v7 : List Int) (v9 : Int) (v10 : Int) (v11n : Nat) (v12 : Int) (v13 : Int) (v15 : Int) (v16 : Int) (v17 : Int) (o0 : List Int) : stepT X74 (L9 v0 v7 v9 v10 v11n v12 v13 v15 v16 v17 o0) = .ite (imin v16 v17 == (0 : Int))
 (L12 v0 v7 v9 v10 v11n v12 v13 v15 (imax v16 v17) o0)
 (L12 v0 v7 v9 v10 v11n v12 v13 v15 (imin v16 v17) o0) := by kernel_rfl
/-- function 9, region 14 -/
noncomputable def L13 (v0 : Int) (v7 : List Int) (v9 : Int) (v10 : Int) (v12 : Int) (v13 : Int) (v15 : Int) : Tr := re ((stepT X74 (L10 (0 : Int) [] (0 : Int) (0 : Int) (0 : Int) (0 : Int))).L) (mkSt (234) [(0, PV.dat (Sh.int IntKind.i64) v0), (7, PV.dat (Sh.list (Sh.int IntKind.i64)) v7), (9, PV.dat (Sh.int IntKind.i64) v9), (10, PV.dat (Sh.int IntKind.i64) v10), (11, PV.nil), (12, PV.dat (Sh.int IntKind.i64) v12), (13, PV.dat (Sh.int IntKind.i64) v13), (14, PV.nil), (15, PV.dat (Sh.int IntKind.i64) v15)] [] (0))
theorem L10_eq (v0 : Int) (v7 : List Int) (v9 : Int) (v10 : Int) (v12 : Int) (v13 : Int) : stepT X74 (L10 v0 v7 v9 v10 v12 v13) = .ite (false)
 (L13 v0 v7 v9 v10 v12 v13 ((0 : Int)))
 (.ite (v9 == v10)
  (.ite (true)
   (.ite (Prod.snd (Sp.Meet v0 v9 v10) == (9 : Int))
    (.ite (true)
     (.leaf (PV.dat Sh.bool true) ([]))
     (.fail))
    (.leaf (PV.bl false) ([])))
   (.fail))
  (L5 v0 v7 v9 v10 v12)) := by kernel_rfl
/-- function 9, region 41 -/
noncomputable def L14 (v9 : Int) (v10 : Int) (v22 : Int) (v23 : Int) (v24 : Int) (v193 : List Int) (v194 : Int) (v195 : Int) : Tr := re ((stepT X74 (L11 (0 : Int) (0 : Int) (0 : Int) (0 : Int) (0 : Int) [] (0 : Int) (0 : Int))).L) (mkSt (234) [(9, PV.dat (Sh.int IntKind.i64) v9), (10, PV.dat (Sh.int IntKind.i64) v10), (22, PV.dat (Sh.int IntKind.i64) v22), (23, PV.dat (Sh.int IntKind.i64) v23), (24, PV.dat (Sh.int IntKind.i64) v24), (193, PV.dat (Sh.list (Sh.int IntKind.i64)) v193), (194, PV.dat (Sh.int IntKind.i64) v194), (195, PV.dat (Sh.int IntKind.i64) v195)] [] (0))
theorem L11_eq (v9 : Int) (v10 : Int) (v22 : Int) (v23 : Int) (v24 : Int) (v193 : List Int) (v194 : Int) (v195 : Int) : stepT X74 (L11 v9 v10 v22 v23 v24 v193 v194 v195) = .ite (decide (v195 < v194))
 (L14 v9 v10 v22 v23 v24 v193 v194 v195)
 (.ite (decide (v22 < (9 : Int)))
  (.ite (decide ((0 : Int) ≤ v22))
   (.ite (decide ((0 : Int) ≤ v22))
    (.ite ((Int.fdiv v23 ((2 : Int) ^ Min.min (Int.toNat v22) (IntKind.bits IntKind.i64))) ==
  Int.fdiv v24 ((2 : Int) ^ Min.min (Int.toNat v22) (IntKind.bits IntKind.i64)))
     (.ite (decide ((0 : Int) ≤ IntKind.wrap IntKind.i64 (v22 - (1 : Int))))
      (.ite (decide ((0 : Int) ≤ IntKind.wrap IntKind.i64 (v22 - (1 : Int))))
       (.ite ((Int.fdiv v23 ((2 : Int) ^ Min.min (Int.toNat (IntKind.wrap IntKind.i64 (v22 - (1 : Int)))) (IntKind.bits IntKind.i64))) !=
  Int.fdiv v24 ((2 : Int) ^ Min.min (Int.toNat (IntKind.wrap IntKind.i64 (v22 - (1 : Int)))) (IntKind.bits IntKind.i64)))
        (.ite (true)
         (.leaf (PV.dat Sh.bool true) ([]))
         (.fail))
        (.leaf (PV.bl false) ([])))
       (.fail))
      (.fail))
     (.leaf (PV.bl false) ([])))
    (.fail))
   (.fail))
  (.leaf (PV.bl false) ([]))) := by kernel_rfl
/-- function 9, region 14 -/
noncomputable def L15 (v0 : Int) (v7 : List Int) (v9 : Int) (v10 : Int) (v11n : Nat) (v12 : Int) (v13 : Int) (v14n : Nat) (v15 : Int) (o1 : List Int) (o0 : List Int) : Tr := re ((stepT X74 (L12 (0 : Int) [] (0 : Int) (0 : Int) 0 (0 : Int) (0 : Int) (0 : Int) (0 : Int) [])).L) (mkSt (234) [(0, PV.dat (Sh.int IntKind.i64) v0), (7, PV.dat (Sh.list (Sh.int IntKind.i64)) v7), (9, PV.dat (Sh.int IntKind.i64) v9), (10, PV.dat (Sh.int IntKind.i64) v10), (11, PV.sl (0) (1) (0) v11n none), (12, PV.dat (Sh.int IntKind.i64) v12), (13, PV.dat (Sh.int IntKind.i64) v13), (14, PV.sl (1) (1) (0) v14n none), (15, PV.dat (Sh.int IntKind.i64) v15)] [(1, Obj.arr false (3) (Sh.int IntKind.i64) o1), (0, Obj.arr false (3) (Sh.int IntKind.i64) o0)] (2))
theorem L12_eq (v0 : Int) (v7 : List Int) (v9 : Int) (v10 : Int) (v11n : Nat) (v12 : Int) (v13 : Int) (v15 : Int) (v18 : Int) (o0 : List Int) : stepT X74 (L12 v0 v7 v9 v10 v11n v12 v13 v15 v18 o0) = .ite (decide ((1 : Nat) ≤ (1 : Nat)) && decide ((0 : Nat) < (1 : Nat)) && decide (((2 : Nat) * (1 : Nat) + (1000 : Nat)) * (8 : Nat) ≤ (281474976710656 : Nat)))
 (L15 v0 v7 v9 v10 v11n v12 v13 ((1 : Nat)) (IntKind.wrap IntKind.i64 (v15 + (2 : Int))) [v18] o0)
 (.fail) := by kernel_rfl
/-- function 9, region 16 -/
noncomputable def L16 (v0 : Int) (v7 : List Int) (v9 : Int) (v10 : Int) (v12 : Int) (v13 : Int) (v15 : Int) : Tr := re ((stepT X74 (L13 (0 : Int) [] (0 : Int) (0 : Int) (0 : Int) (0 : Int) (0 : Int))).L) (mkSt (234) [(0, PV.dat (Sh.int IntKind.i64) v0), (7, PV.dat (Sh.list (Sh.int IntKind.i64)) v7), (9, PV.dat (Sh.int IntKind.i64) v9), (10, PV.dat (Sh.int IntKind.i64) v10), (11, PV.nil), (12, PV.dat (Sh.int IntKind.i64) v12), (13, PV.dat (Sh.int IntKind.i64) v13), (14, PV.nil), (15, PV.dat (Sh.int IntKind.i64) v15)] [] (0))
theorem L13_eq (v0 : Int) (v7 : List Int) (v9 : Int) (v10 : Int) (v12 : Int) (v13 : Int) (v15 : Int) : stepT X74 (L13 v0 v7 v9 v10 v12 v13 v15) = .ite (decide (v15 < (0 : Int)))
 (L16 v0 v7 v9 v10 v12 v13 v15)
 (.ite (true)
  (L7 v0 v7 v9 v10 v12 v13 ((1 : Nat)) ((0 : Int)) ((0 : Int)) (List.replicate (1 : Nat) false))
  (.fail)) := by kernel_rfl
/-- function 9, region 44 -/
noncomputable def L17 (v9 : Int) (v10 : Int) (v22 : Int) (v23 : Int) (v24 : Int) (v25 : Int) (v26 : Int) (v193 : List Int) (v194 : Int) (v195 : Int) : Tr := re ((stepT X74 (L14 (0 : Int) (0 : Int) (0 : Int) (0 : Int) (0 : Int) [] (0 : Int) (0 : Int))).L.L) (mkSt (234) [(9, PV.dat (Sh.int IntKind.i64) v9), (10, PV.dat (Sh.int IntKind.i64) v10), (22, PV.dat (Sh.int IntKind.i64) v22), (23, PV.dat (Sh.int IntKind.i64) v23), (24, PV.dat (Sh.int IntKind.i64) v24), (25, PV.dat (Sh.int IntKind.i64) v25), (26, PV.dat (Sh.int IntKind.i64) v26), (193, PV.dat (Sh.list (Sh.int IntKind.i64)) v193), (194, PV.dat (Sh.int IntKind.i64) v194), (195, PV.dat (Sh.int IntKind.i64) v195)] [] (0))
theorem L14_eq (v9 : Int) (v10 : Int) (v22 : Int) (v23 : Int) (v24 : Int) (v193 : List Int) (v194 : Int) (v195 : Int) : stepT X74 (L14 v9 v10 v22 v23 v24 v193 v194 v195) = .ite (decide ((0 : Int) ≤ v195) && decide (v195 < (↑(List.length v193) : Int)))
 (.ite (List.getD v193 (Int.toNat v195) (0 : Int) == v9)
  (L17 v9 v10 v22 v195 v24 v195 (List.getD v193 (Int.toNat v195) (0 : Int)) v193 v194 v195)
  (L17 v9 v10 v22 v23 v24 v195 (List.getD v193 (Int.toNat v195) (0 : Int)) v193 v194 v195))
 (.fail) := by kernel_rfl
/-- function 9, region 16 -/
noncomputable def L18 (v0 : Int) (v7 : List Int) (v9 : Int) (v10 : Int) (v11n : Nat) (v12 : Int) (v13 : Int) (v14n : Nat) (v15 : Int) (o1 : List Int) (o0 : List Int) : Tr := re ((stepT X74 (L15 (0 : Int) [] (0 : Int) (0 : Int) 0 (0 : Int) (0 : Int) 0 (0 : Int) [] [])).L) (mkSt (234) [(0, PV.dat (Sh.int IntKind.i64) v0), (7, PV.dat (Sh.list (Sh.int IntKind.i64)) v7), (9, PV.dat (Sh.int IntKind.i64) v9), (10, PV.dat (Sh.int IntKind.i64) v10), (11, PV.sl (0) (1) (0) v11n none), (12, PV.dat (Sh.int IntKind.i64) v12), (13, PV.dat (Sh.int IntKind.i64) v13), (14, PV.sl (1) (1) (0) v14n none), (15, PV.dat (Sh.int IntKind.i64) v15)] [(1, Obj.arr false (3) (Sh.int IntKind.i64) o1), (0, Obj.arr false (3) (Sh.int IntKind.i64) o0)] (2))
/-- function 9, region 26 -/
noncomputable def L19 (v0 : Int) (v7 : List Int) (v9 : Int) (v10 : Int) (v11n : Nat) (v12 : Int) (v13 : Int) (v19n : Nat) (v132n : Nat) (v133 : Int) (v134 : Int) (o1 : List Bool) (o0 : List Int) : Tr := re ((stepT X74 (L15 (0 : Int) [] (0 : Int) (0 : Int) 0 (0 : Int) (0 : Int) 0 (0 : Int) [] [])).R.L) (mkSt (234) [(0, PV.dat (Sh.int IntKind.i64) v0), (7, PV.dat (Sh.list (Sh.int IntKind.i64)) v7), (9, PV.dat (Sh.int IntKind.i64) v9), (10, PV.dat (Sh.int IntKind.i64) v10), (11, PV.sl (0) (1) (0) v11n none), (12, PV.dat (Sh.int IntKind.i64) v12), (13, PV.dat (Sh.int IntKind.i64) v13), (19, PV.sl (1) (1) (0) v19n none), (132, PV.sl (0) (1) (0) v132n none), (133, PV.dat (Sh.int IntKind.i64) v133), (134, PV.dat (Sh.int IntKind.i64) v134)] [(1, Obj.arr false (4) Sh.bool o1), (0, Obj.arr false (3) (Sh.int IntKind.i64) o0)] (2))
theorem L15_eq (v0 : Int) (v7 : List Int) (v9 : Int) (v10 : Int) (v11n : Nat) (v12 : Int) (v13 : Int) (v14n : Nat) (v15 : Int) (o1 : List Int) (o0 : List Int) : stepT X74 (L15 v0 v7 v9 v10 v11n v12 v13 v14n v15 o1 o0) = .ite (decide (v15 < (↑v11n : Int)))
 (L18 v0 v7 v9 v10 v11n v12 v13 v14n v15 o1 o0)
 (.ite (decide ((0 : Int) ≤ IntKind.wrap IntKind.i64 ((↑v14n : Int) + (1 : Int))) && decide (IntKind.wrap IntKind.i64 ((↑v14n : Int) + (1 : Int)) = IntKind.wrap IntKind.i64 ((↑v14n : Int) + (1 : Int))) && decide ((1 : Nat) * Int.toNat (IntKind.wrap IntKind.i64 ((↑v14n : Int) + (1 : Int))) ≤ (281474976710656 : Nat)) && decide (IntKind.wrap IntKind.i64 ((↑v14n : Int) + (1 : Int)) < (9223372036854775808 : Int)))
  (L19 v0 v7 v9 v10 v14n v12 v13 (Int.toNat (IntKind.wrap IntKind.i64 ((↑v14n : Int) + (1 : Int)))) v14n ((↑v14n : Int)) ((0 : Int)) (List.replicate (Int.toNat (IntKind.wrap IntKind.i64 ((↑v14n : Int) + (1 : Int)))) false) o1)
  (.fail)) := by kernel_rfl
theorem L16_eq (v0 : Int) (v7 : List Int) (v9 : Int) (v10 : Int) (v12 : Int) (v13 : Int) (v15 : Int) : stepT X74 (L16 v0 v7 v9 v10 v12 v13 v15) = .fail := by kernel_rfl
/-- function 9, region 46 -/
noncomputable def L20 (v9 : Int) (v10 : Int) (v22 : Int) (v23 : Int) (v24 : Int) (v193 : List Int) (v194 : Int) (v195 : Int) : Tr := re ((stepT X74 (L17 (0 : Int) (0 : Int) (0 : Int) (0 : Int) (0 : Int) (0 : Int) (0 : Int) [] (0 : Int) (0 : Int))).L) (mkSt (234) [(9, PV.dat (Sh.int IntKind.i64) v9), (10, PV.dat (Sh.int IntKind.i64) v10), (22, PV.dat (Sh.int IntKind.i64) v22), (23, PV.dat (Sh.int IntKind.i64) v23), (24, PV.dat (Sh.int IntKind.i64) v24), (193, PV.dat (Sh.list (Sh.int IntKind.i64)) v193), (194, PV.dat (Sh.int IntKind.i64) v194), (195, PV.dat (Sh.int IntKind.i64) v195)] [] (0))
theorem L17_eq (v9 : Int) (v10 : Int) (v22 : Int) (v23 : Int) (v24 : Int) (v25 : Int) (v26 : Int) (v193 : List Int) (v194 : Int) (v195 : Int) : stepT X74 (L17 v9 v10 v22 v23 v24 v25 v26 v193 v194 v195) = .ite (v26 == v10)
 (L20 v9 v10 v22 v23 v25 v193 v194 v195)
 (L20 v9 v10 v22 v23 v24 v193 v194 v195) := by kernel_rfl
/-- function 9, region 19 -/
noncomputable def L21 (v0 : Int) (v7 : List Int) (v9 : Int) (v10 : Int) (v11n : Nat) (v12 : Int) (v13 : Int) (v14n : Nat) (v15 : Int) (v16 : Int) (v17 : Int) (o1 : List Int) (o0 : List Int) : Tr := re ((stepT X74 (L18 (0 : Int) [] (0 : Int) (0 : Int) 0 (0 : Int) (0 : Int) 0 (0 : Int) [] [])).L.L.L.L.L.L) (mkSt (234) [(0, PV.dat (Sh.int IntKind.i64) v0), (7, PV.dat (Sh.list (Sh.int IntKind.i64)) v7), (9, PV.dat (Sh.int IntKind.i64) v9), (10, PV.dat (Sh.int IntKind.i64) v10), (11, PV.sl (0) (1) (0) v11n none), (12, PV.dat (Sh.int IntKind.i64) v12), (13, PV.dat (Sh.int IntKind.i64) v13), (14, PV.sl (1) (1) (0) v14n none), (15, PV.dat (Sh.int IntKind.i64) v15), (16, PV.dat (Sh.int IntKind.i64) v16), (17, PV.dat (Sh.int IntKind.i64) v17)] [(1, Obj.arr false (3) (Sh.int IntKind.i64) o1), (0, Obj.arr false (3) (Sh.int IntKind.i64) o0)] (2))
theorem L18_eq (v0 : Int) (v7 : List Int) (v9 : Int) (v10 : Int) (v11n : Nat) (v12 : Int) (v13 : Int) (v14n : Nat) (v15 : Int) (o1 : List Int) (o0 : List Int) : stepT X74 (L18 v0 v7 v9 v10 v11n v12 v13 v14n v15 o1 o0) = .ite (decide ((0 : Int) ≤ v15) && decide (v15 < (↑v11n : Int)))
 (.ite (decide (Int.toNat v15 < List.length o0))
  (.ite (decide ((0 : Int) ≤ IntKind.wrap IntKind.i64 (v15 + (1 : Int))) && decide (IntKind.wrap IntKind.i64 (v15 + (1 : Int)) < (↑v11n : Int)))
   (.ite (decide (Int.toNat (IntKind.wrap IntKind.i64 (v15 + (1 : Int))) < List.length o0))
    (.ite (List.getD o0 (Int.toNat v15) (0 : Int) == v9)
     (.ite (List.getD o0 (Int.toNat (IntKind.wrap IntKind.i64 (v15 + (1 : Int)))) (0 : Int) == v10)
      (L21 v0 v7 v9 v10 v11n v13 v13 v14n v15 (List.getD o0 (Int.toNat v15) (0 : Int)) (List.getD o0 (Int.toNat (IntKind.wrap IntKind.i64 (v15 + (1 : Int)))) (0 : Int)) o1 o0)
      (.ite (List.getD o0 (Int.toNat v15) (0 : Int) == v10)
       (.ite (List.getD o0 (Int.toNat (IntKind.wrap IntKind.i64 (v15 + (1 : Int)))) (0 : Int) == v9)
        (L21 v0 v7 v9 v10 v11n v13 v13 v14n v15 (List.getD o0 (Int.toNat v15) (0 : Int)) (List.getD o0 (Int.toNat (IntKind.wrap IntKind.i64 (v15 + (1 : Int)))) (0 : Int)) o1 o0)
        (L21 v0 v7 v9 v10 v11n v12 v13 v14n v15 (List.getD o0 (Int.toNat v15) (0 : Int)) (List.getD o0 (Int.toNat (IntKind.wrap IntKind.i64 (v15 + (1 : Int)))) (0 : Int)) o1 o0))
       (L21 v0 v7 v9 v10 v11n v12 v13 v14n v15 (List.getD o0 (Int.toNat v15) (0 : Int)) (List.getD o0 (Int.toNat (IntKind.wrap IntKind.i64 (v15 + (1 : Int)))) (0 : Int)) o1 o0)))
     (.ite (List.getD o0 (Int.toNat v15) (0 : Int) == v10)
      (.ite (List.getD o0 (Int.toNat (IntKind.wrap IntKind.i64 (v15 + (1 : Int)))) (0 : Int) == v9)
       (L21 v0 v7 v9 v10 v11n v13 v13 v14n v15 (List.getD o0 (Int.toNat v15) (0 : Int)) (List.getD o0 (Int.toNat (IntKind.wrap IntKind.i64 (v15 + (1 : Int)))) (0 : Int)) o1 o0)
       (L21 v0 v7 v9 v10 v11n v12 v13 v14n v15 (List.getD o0 (Int.toNat v15) (0 : Int)) (List.getD o0 (Int.toNat (IntKind.wrap IntKind.i64 (v15 + (1 : Int)))) (0 : Int)) o1 o0))
      (L21 v0 v7 v9 v10 v11n v12 v13 v14n v15 (List.getD o0 (Int.toNat v15) (0 : Int)) (List.getD o0 (Int.toNat (IntKind.wrap IntKind.i64 (v15 + (1 : Int)))) (0 : Int)) o1 o0)))
    (.fail))
   (.fail))
  (.fail))
 (.fail) := by kernel_rfl
/-- function 9, region 31 -/
noncomputable def L22 (v0 : Int) (v7 : List Int) (v9 : Int) (v10 : Int) (v11n : Nat) (v12 : Int) (v13 : Int) (v19n : Nat) (v132n : Nat) (v133 : Int) (v134 : Int) (o1 : List Bool) (o0 : List Int) : Tr := re ((stepT X74 (L19 (0 : Int) [] (0 : Int) (0 : Int) 0 (0 : Int) (0 : Int) 0 0 (0 : Int) (0 : Int) [] [])).L.L.L.R.R.L.L.R.L.L) (mkSt (234) [(0, PV.dat (Sh.int IntKind.i64) v0), (7, PV.dat (Sh.list (Sh.int IntKind.i64)) v7), (9, PV.dat (Sh.int IntKind.i64) v9), (10, PV.dat (Sh.int IntKind.i64) v10), (11, PV.sl (0) (1) (0) v11n none), (12, PV.dat (Sh.int IntKind.i64) v12), (13, PV.dat (Sh.int IntKind.i64) v13), (19, PV.sl (1) (1) (0) v19n none), (132, PV.sl (0) (1) (0) v132n none), (133, PV.dat (Sh.int IntKind.i64) v133), (134, PV.dat (Sh.int IntKind.i64) v134)] [(1, Obj.arr false (4) Sh.bool o1), (0, Obj.arr false (3) (Sh.int IntKind.i64) o0)] (2))
theorem L19_eq (v0 : Int) (v7 : List Int) (v9 : Int) (v10 : Int) (v11n : Nat) (v12 : Int) (v13 : Int) (v19n : Nat) (v132n : Nat) (v133 : Int) (v134 : Int) (o1 : List Bool) (o0 : List Int) : stepT X74 (L19 v0 v7 v9 v10 v11n v12 v13 v19n v132n v133 v134 o1 o0) = .ite (decide (v134 < v133))
 (.ite (decide ((0 : Int) ≤ v134) && decide (v134 < (↑v132n : Int)))
  (.ite (decide (Int.toNat v134 < List.length o0))
   (.ite (decide (List.getD o0 (Int.toNat v134) (0 : Int) < (1 : Int)))
    (.leaf (PV.bl false) ([(1, Obj.arr false (4) Sh.bool o1), (0, Obj.arr false (3) (Sh.int IntKind.i64) o0)]))
    (.ite (decide (List.getD o0 (Int.toNat v134) (0 : Int) > (↑v11n : Int)))
     (.leaf (PV.bl false) ([(1, Obj.arr false (4) Sh.bool o1), (0, Obj.arr false (3) (Sh.int IntKind.i64) o0)]))
     (.ite (decide ((0 : Int) ≤ List.getD o0 (Int.toNat v134) (0 : Int)) && decide (List.getD o0 (Int.toNat v134) (0 : Int) < (↑v19n : Int)))
      (.ite (decide (Int.toNat (List.getD o0 (Int.toNat v134) (0 : Int)) < List.length o1))
       (.ite (List.getD o1 (Int.toNat (List.getD o0 (Int.toNat v134) (0 : Int))) false)
        (.leaf (PV.bl false) ([(1, Obj.arr false (4) Sh.bool o1), (0, Obj.arr false (3) (Sh.int IntKind.i64) o0)]))
        (.ite (decide ((0 : Int) ≤ List.getD o0 (Int.toNat v134) (0 : Int)) && decide (List.getD o0 (Int.toNat v134) (0 : Int) < (↑v19n : Int)))
         (.ite (decide (Int.toNat (List.getD o0 (Int.toNat v134) (0 : Int)) < List.length o1))
          (L22 v0 v7 v9 v10 v11n v12 v13 v19n v132n v133 v134 (List.set o1 (Int.toNat (List.getD o0 (Int.toNat v134) (0 : Int))) true) o0)
          (.fail))
         (.fail)))
       (.fail))
      (.fail))))
   (.fail))
  (.fail))
 (L3 v0 v7 v9 v10 v11n v12 (IntKind.wrap IntKind.i64 (v13 + (1 : Int))) o0) := by kernel_rfl
theorem L20_eq (v9 : Int) (v10 : Int) (v22 : Int) (v23 : Int) (v24 : Int) (v193 : List Int) (v194 : Int) (v195 : Int) : stepT X74 (L20 v9 v10 v22 v23 v24 v193 v194 v195) = L11 v9 v10 v22 v23 v24 v193 v194 (IntKind.wrap IntKind.i64 (v195 + (1 : Int))) := by kernel_rfl
/-- function 9, region 22 -/
noncomputable def L23 (v0 : Int) (v7 : List Int) (v9 : Int) (v10 : Int) (v11n : Nat) (v12 : Int) (v13 : Int) (v14n : Nat) (v15 : Int) (v18 : Int) (o1 : List Int) (o0 : List Int) : Tr := re ((stepT X74 (L21 (0 : Int) [] (0 : Int) (0 : Int) 0 (0 : Int) (0 : Int) 0 (0 : Int) (0 : Int) (0 : Int) [] [])).L) (mkSt (234) [(0, PV.dat (Sh.int IntKind.i64) v0), (7, PV.dat (Sh.list (Sh.int IntKind.i64)) v7), (9, PV.dat (Sh.int IntKind.i64) v9), (10, PV.dat (Sh.int IntKind.i64) v10), (11, PV.sl (0) (1) (0) v11n none), (12, PV.dat (Sh.int IntKind.i64) v12), (13, PV.dat (Sh.int IntKind.i64) v13), (14, PV.sl (1) (1) (0) v14n none), (15, PV.dat (Sh.int IntKind.i64) v15), (18, PV.dat (Sh.int IntKind.i64) v18)] [(1, Obj.arr false (3) (Sh.int IntKind.i64) o1), (0, Obj.arr false (3) (Sh.int IntKind.i64) o0)] (2))
theorem L21_eq (v0 : Int) (v7 : List Int) (v9 : Int) (v10 : Int) (v11n : Nat) (v12 : Int) (v13 : Int) (v14n : Nat) (v15 : Int) (v16 : Int) (v17 : Int) (o1 : List Int) (o0 : List Int) : stepT X74 (L21 v0 v7 v9 v10 v11n v12 v13 v14n v15 v16 v17 o1 o0) = .ite (imin v16 v17 == (0 : Int))
 (L23 v0 v7 v9 v10 v11n v12 v13 v14n v15 (imax v16 v17) o1 o0)
 (L23 v0 v7 v9 v10 v11n v12 v13 v14n v15 (imin v16 v17) o1 o0) := by kernel_rfl
theorem L22_eq (v0 : Int) (v7 : List Int) (v9 : Int) (v10 : Int) (v11n : Nat) (v12 : Int) (v13 : Int) (v19n : Nat) (v132n : Nat) (v133 : Int) (v134 : Int) (o1 : List Bool) (o0 : List Int) : stepT X74 (L22 v0 v7 v9 v10 v11n v12 v13 v19n v132n v133 v134 o1 o0) = L19 v0 v7 v9 v10 v11n v12 v13 v19n v132n v133 (IntKind.wrap IntKind.i64 (v134 + (1 : Int))) o1 o0 := by kernel_rfl
theorem L23_eq (v0 : Int) (v7 : List Int) (v9 : Int) (v10 : Int) (v11n : Nat) (v12 : Int) (v13 : Int) (v14n : Nat) (v15 : Int) (v18 : Int) (o1 : List Int) (o0 : List Int) : stepT X74 (L23 v0 v7 v9 v10 v11n v12 v13 v14n v15 v18 o1 o0) = .ite (decide ((1 : Nat) ≤ (1 : Nat)) && true && decide (v14n = List.length o1) && decide (((2 : Nat) * (v14n + (1 : Nat)) + (1000 : Nat)) * (8 : Nat) ≤ (281474976710656 : Nat)))
 (L15 v0 v7 v9 v10 v11n v12 v13 (Nat.add v14n (1 : Nat)) (IntKind.wrap IntKind.i64 (v15 + (2 : Int))) (o1 ++ [v18]) o0)
 (.fail) := by kernel_rfl
end T9
end Go.Pe
end
