import Derived.Test.YtnbinppdjnlhpaaGreatDoorX18
import Derived.IntWalk
/- A part of the proofs of the laws of one chapter (no law is stated here). Made by program out of texts by AI agents. -/
section
namespace Go.Pe
open Go.Det
namespace T112
noncomputable def T (l : List (List UInt8)) (i : Int) : Tr := tree X80 false 9 112 (valsOf ([Sh.list Sh.str, Sh.int IntKind.i64]) (l, i))
/-- function 112, region 4 -/
noncomputable def L1 (v0 : List (List UInt8)) (v1 : Int) (v5 : Int) : Tr := re ((T [] (0 : Int)).L.L.R) (mkSt (26) [(0, PV.dat (Sh.list Sh.str) v0), (1, PV.dat (Sh.int IntKind.i64) v1), (5, PV.dat (Sh.int IntKind.i64) v5)] [] (0))
theorem T_eq (l : List (List UInt8)) (i : Int) : T l i = .ite (decide ((0 : Int) ≤ i) && decide (i < (↑(List.length l) : Int)))
 (.ite (decide (List.length (List.getD l (Int.toNat i) []) ≤ (1000000 : Nat)))
  (.ite (!Sp.isName (List.getD l (Int.toNat i) []))
   (.leaf (PV.dat (Sh.int IntKind.i64) (8 : Int)) ([]))
   (L1 l i ((0 : Int))))
  (.fail))
 (.fail) := by kernel_rfl
theorem L1_eq (v0 : List (List UInt8)) (v1 : Int) (v5 : Int) : stepT X80 (L1 v0 v1 v5) = .ite (decide (v5 < v1))
 (.ite (decide ((0 : Int) ≤ v5) && decide (v5 < (↑(List.length v0) : Int)))
  (.ite (decide ((0 : Int) ≤ v1) && decide (v1 < (↑(List.length v0) : Int)))
   (.ite (List.getD v0 (Int.toNat v5) [] == List.getD v0 (Int.toNat v1) [])
    (.leaf (PV.dat (Sh.int IntKind.i64) (9 : Int)) ([]))
    (L1 v0 v1 (IntKind.wrap IntKind.i64 (v5 + (1 : Int)))))
   (.fail))
  (.fail))
 (.leaf (PV.dat (Sh.int IntKind.i64) (0 : Int)) ([])) := by kernel_rfl
end T112
end Go.Pe
end
section
namespace Go.Pe
open Go.Det
namespace T158
noncomputable def T (s : List UInt8) : Tr := tree X70 false 9 158 (valsOf ([Sh.str]) s)
/-- function 158, region 2 -/
noncomputable def L1 (v0 : List UInt8) (o0 : List UInt8) : Tr := re ((T [])) (mkSt (37) [(0, PV.dat Sh.str v0), (6, PV.ptr (0 : Nat) (0 : Nat))] [(0, Obj.siter o0 (0))] (1))
theorem T_eq (s : List UInt8) : T s = L1 s s := by kernel_rfl
/-- function 158, region 2 -/
noncomputable def L2 (v0 : List UInt8) (o0 : List UInt8) (o0p : Nat) : Tr := re ((stepT X70 (L1 [] [])).L.L.L) (mkSt (37) [(0, PV.dat Sh.str v0), (6, PV.ptr (0 : Nat) (0 : Nat))] [(0, Obj.siter o0 o0p)] (1))
theorem L1_eq (v0 : List UInt8) (o0 : List UInt8) : stepT X70 (L1 v0 o0) = .ite (decide (0 < List.length o0))
 (.ite (decide (rune o0 (0) ≥ (97 : Int)))
  (.ite (decide (rune o0 (0) ≤ (122 : Int)))
   (L2 v0 o0 (Nat.add (0) (runeW o0 (0))))
   (.ite (decide (rune o0 (0) ≥ (65 : Int)))
    (.ite (!decide (rune o0 (0) ≤ (90 : Int)))
     (.ite (true)
      (.leaf (PV.bl false) ([(0, Obj.siter o0 (Nat.add (0) (runeW o0 (0))))]))
      (.ite (rune o0 (0) != (95 : Int))
       (.ite (decide (rune o0 (0) < (48 : Int)))
        (.leaf (PV.bl false) ([(0, Obj.siter o0 (Nat.add (0) (runeW o0 (0))))]))
        (.ite (decide (rune o0 (0) > (57 : Int)))
         (.leaf (PV.bl false) ([(0, Obj.siter o0 (Nat.add (0) (runeW o0 (0))))]))
         (L2 v0 o0 (Nat.add (0) (runeW o0 (0))))))
       (L2 v0 o0 (Nat.add (0) (runeW o0 (0))))))
     (L2 v0 o0 (Nat.add (0) (runeW o0 (0)))))
    (.ite (true)
     (.leaf (PV.bl false) ([(0, Obj.siter o0 (Nat.add (0) (runeW o0 (0))))]))
     (.ite (rune o0 (0) != (95 : Int))
      (.ite (decide (rune o0 (0) < (48 : Int)))
       (.leaf (PV.bl false) ([(0, Obj.siter o0 (Nat.add (0) (runeW o0 (0))))]))
       (.ite (decide (rune o0 (0) > (57 : Int)))
        (.leaf (PV.bl false) ([(0, Obj.siter o0 (Nat.add (0) (runeW o0 (0))))]))
        (L2 v0 o0 (Nat.add (0) (runeW o0 (0))))))
      (L2 v0 o0 (Nat.add (0) (runeW o0 (0))))))))
  (.ite (decide (rune o0 (0) ≥ (65 : Int)))
   (.ite (!decide (rune o0 (0) ≤ (90 : Int)))
    (.ite (true)
     (.leaf (PV.bl false) ([(0, Obj.siter o0 (Nat.add (0) (runeW o0 (0))))]))
     (.ite (rune o0 (0) != (95 : Int))
      (.ite (decide (rune o0 (0) < (48 : Int)))
       (.leaf (PV.bl false) ([(0, Obj.siter o0 (Nat.add (0) (runeW o0 (0))))]))
       (.ite (decide (rune o0 (0) > (57 : Int)))
        (.leaf (PV.bl false) ([(0, Obj.siter o0 (Nat.add (0) (runeW o0 (0))))]))
        (L2 v0 o0 (Nat.add (0) (runeW o0 (0))))))
      (L2 v0 o0 (Nat.add (0) (runeW o0 (0))))))
    (L2 v0 o0 (Nat.add (0) (runeW o0 (0)))))
   (.ite (true)
    (.leaf (PV.bl false) ([(0, Obj.siter o0 (Nat.add (0) (runeW o0 (0))))]))
    (.ite (rune o0 (0) != (95 : Int))
     (.ite (decide (rune o0 (0) < (48 : Int)))
      (.leaf (PV.bl false) ([(0, Obj.siter o0 (Nat.add (0) (runeW o0 (0))))]))
      (.ite (decide (rune o0 (0) > (57 : Int)))
       (.leaf (PV.bl false) ([(0, Obj.siter o0 (Nat.add (0) (runeW o0 (0))))]))
       (L2 v0 o0 (Nat.add (0) (runeW o0 (0))))))
     (L2 v0 o0 (Nat.add (0) (runeW o0 (0))))))))
 (.ite (!v0 == [])
  (.leaf (PV.dat Sh.bool (decide ((↑(List.length v0) : Int) ≤ (24 : Int)))) ([(0, Obj.siter o0 (0))]))
  (.leaf (PV.bl false) ([(0, Obj.siter o0 (0))]))) := by kernel_rfl
theorem L2_eq (v0 : List UInt8) (o0 : List UInt8) (o0p : Nat) : stepT X70 (L2 v0 o0 o0p) = .ite (decide (o0p < List.length o0))
 (.ite (decide (rune o0 o0p ≥ (97 : Int)))
  (.ite (decide (rune o0 o0p ≤ (122 : Int)))
   (L2 v0 o0 (Nat.add o0p (runeW o0 o0p)))
   (.ite (decide (rune o0 o0p ≥ (65 : Int)))
    (.ite (!decide (rune o0 o0p ≤ (90 : Int)))
     (.ite ((↑o0p : Int) == (0 : Int))
      (.leaf (PV.bl false) ([(0, Obj.siter o0 (Nat.add o0p (runeW o0 o0p)))]))
      (.ite (rune o0 o0p != (95 : Int))
       (.ite (decide (rune o0 o0p < (48 : Int)))
        (.leaf (PV.bl false) ([(0, Obj.siter o0 (Nat.add o0p (runeW o0 o0p)))]))
        (.ite (decide (rune o0 o0p > (57 : Int)))
         (.leaf (PV.bl false) ([(0, Obj.siter o0 (Nat.add o0p (runeW o0 o0p)))]))
         (L2 v0 o0 (Nat.add o0p (runeW o0 o0p)))))
       (L2 v0 o0 (Nat.add o0p (runeW o0 o0p)))))
     (L2 v0 o0 (Nat.add o0p (runeW o0 o0p))))
    (.ite ((↑o0p : Int) == (0 : Int))
     (.leaf (PV.bl false) ([(0, Obj.siter o0 (Nat.add o0p (runeW o0 o0p)))]))
     (.ite (rune o0 o0p != (95 : Int))
      (.ite (decide (rune o0 o0p < (48 : Int)))
       (.leaf (PV.bl false) ([(0, Obj.siter o0 (Nat.add o0p (runeW o0 o0p)))]))
       (.ite (decide (rune o0 o0p > (57 : Int)))
        (.leaf (PV.bl false) ([(0, Obj.siter o0 (Nat.add o0p (runeW o0 o0p)))]))
        (L2 v0 o0 (Nat.add o0p (runeW o0 o0p)))))
      (L2 v0 o0 (Nat.add o0p (runeW o0 o0p)))))))
  (.ite (decide (rune o0 o0p ≥ (65 : Int)))
   (.ite (!decide (rune o0 o0p ≤ (90 : Int)))
    (.ite ((↑o0p : Int) == (0 : Int))
     (.leaf (PV.bl false) ([(0, Obj.siter o0 (Nat.add o0p (runeW o0 o0p)))]))
     (.ite (rune o0 o0p != (95 : Int))
      (.ite (decide (rune o0 o0p < (48 : Int)))
       (.leaf (PV.bl false) ([(0, Obj.siter o0 (Nat.add o0p (runeW o0 o0p)))]))
       (.ite (decide (rune o0 o0p > (57 : Int)))
        (.leaf (PV.bl false) ([(0, Obj.siter o0 (Nat.add o0p (runeW o0 o0p)))]))
        (L2 v0 o0 (Nat.add o0p (runeW o0 o0p)))))
      (L2 v0 o0 (Nat.add o0p (runeW o0 o0p)))))
    (L2 v0 o0 (Nat.add o0p (runeW o0 o0p))))
   (.ite ((↑o0p : Int) == (0 : Int))
    (.leaf (PV.bl false) ([(0, Obj.siter o0 (Nat.add o0p (runeW o0 o0p)))]))
    (.ite (rune o0 o0p != (95 : Int))
     (.ite (decide (rune o0 o0p < (48 : Int)))
      (.leaf (PV.bl false) ([(0, Obj.siter o0 (Nat.add o0p (runeW o0 o0p)))]))
      (.ite (decide (rune o0 o0p > (57 : Int)))
       (.leaf (PV.bl false) ([(0, Obj.siter o0 (Nat.add o0p (runeW o0 o0p)))]))
       (L2 v0 o0 (Nat.add o0p (runeW o0 o0p)))))
     (L2 v0 o0 (Nat.add o0p (runeW o0 o0p)))))))
 (.ite (!v0 == [])
  (.leaf (PV.dat Sh.bool (decide ((↑(List.length v0) : Int) ≤ (24 : Int)))) ([(0, Obj.siter o0 o0p)]))
  (.leaf (PV.bl false) ([(0, Obj.siter o0 o0p)]))) := by kernel_rfl
end T158
namespace T113
noncomputable def T (s : List UInt8) : Tr := tree X70 false 9 113 (valsOf ([Sh.str]) s)
/-- function 113, region 4 -/
noncomputable def L1 (v0 : List UInt8) (v3 : Int) : Tr := re ((T []).R.R) (mkSt (56) [(0, PV.dat Sh.str v0), (3, PV.dat (Sh.int IntKind.i64) v3)] [] (0))
theorem T_eq (s : List UInt8) : T s = .ite (decide ((↑(List.length s) : Int) < (1 : Int)))
 (.leaf (PV.bl false) ([]))
 (.ite (decide ((↑(List.length s) : Int) > (24 : Int)))
  (.leaf (PV.bl false) ([]))
  (L1 s ((0 : Int)))) := by kernel_rfl
theorem L1_eq (v0 : List UInt8) (v3 : Int) : stepT X70 (L1 v0 v3) = .ite (decide (v3 < (↑(List.length v0) : Int)))
 (.ite (decide ((0 : Int) ≤ v3) && decide (v3 < (↑(List.length v0) : Int)))
  (.ite (decide ((↑(UInt8.toNat (List.getD v0 (Int.toNat v3) (0 : UInt8))) : Int) ≥ (97 : Int)))
   (.ite (decide ((↑(UInt8.toNat (List.getD v0 (Int.toNat v3) (0 : UInt8))) : Int) ≤ (122 : Int)))
    (L1 v0 (IntKind.wrap IntKind.i64 (v3 + (1 : Int))))
    (.ite (decide ((↑(UInt8.toNat (List.getD v0 (Int.toNat v3) (0 : UInt8))) : Int) ≥ (65 : Int)))
     (.ite (!decide ((↑(UInt8.toNat (List.getD v0 (Int.toNat v3) (0 : UInt8))) : Int) ≤ (90 : Int)))
      (.ite (v3 == (0 : Int))
       (.leaf (PV.bl false) ([]))
       (.ite (decide ((↑(UInt8.toNat (List.getD v0 (Int.toNat v3) (0 : UInt8))) : Int) ≥ (48 : Int)))
        (.ite (decide ((↑(UInt8.toNat (List.getD v0 (Int.toNat v3) (0 : UInt8))) : Int) ≤ (57 : Int)))
         (L1 v0 (IntKind.wrap IntKind.i64 (v3 + (1 : Int))))
         (.ite (!(↑(UInt8.toNat (List.getD v0 (Int.toNat v3) (0 : UInt8))) : Int) == (95 : Int))
          (.leaf (PV.bl false) ([]))
          (L1 v0 (IntKind.wrap IntKind.i64 (v3 + (1 : Int))))))
        (.ite (!(↑(UInt8.toNat (List.getD v0 (Int.toNat v3) (0 : UInt8))) : Int) == (95 : Int))
         (.leaf (PV.bl false) ([]))
         (L1 v0 (IntKind.wrap IntKind.i64 (v3 + (1 : Int)))))))
      (L1 v0 (IntKind.wrap IntKind.i64 (v3 + (1 : Int)))))
     (.ite (v3 == (0 : Int))
      (.leaf (PV.bl false) ([]))
      (.ite (decide ((↑(UInt8.toNat (List.getD v0 (Int.toNat v3) (0 : UInt8))) : Int) ≥ (48 : Int)))
       (.ite (decide ((↑(UInt8.toNat (List.getD v0 (Int.toNat v3) (0 : UInt8))) : Int) ≤ (57 : Int)))
        (L1 v0 (IntKind.wrap IntKind.i64 (v3 + (1 : Int))))
        (.ite (!(↑(UInt8.toNat (List.getD v0 (Int.toNat v3) (0 : UInt8))) : Int) == (95 : Int))
         (.leaf (PV.bl false) ([]))
         (L1 v0 (IntKind.wrap IntKind.i64 (v3 + (1 : Int))))))
       (.ite (!(↑(UInt8.toNat (List.getD v0 (Int.toNat v3) (0 : UInt8))) : Int) == (95 : Int))
        (.leaf (PV.bl false) ([]))
        (L1 v0 (IntKind.wrap IntKind.i64 (v3 + (1 : Int)))))))))
   (.ite (decide ((↑(UInt8.toNat (List.getD v0 (Int.toNat v3) (0 : UInt8))) : Int) ≥ (65 : Int)))
    (.ite (!decide ((↑(UInt8.toNat (List.getD v0 (Int.toNat v3) (0 : UInt8))) : Int) ≤ (90 : Int)))
     (.ite (v3 == (0 : Int))
      (.leaf (PV.bl false) ([]))
      (.ite (decide ((↑(UInt8.toNat (List.getD v0 (Int.toNat v3) (0 : UInt8))) : Int) ≥ (48 : Int)))
       (.ite (decide ((↑(UInt8.toNat (List.getD v0 (Int.toNat v3) (0 : UInt8))) : Int) ≤ (57 : Int)))
        (L1 v0 (IntKind.wrap IntKind.i64 (v3 + (1 : Int))))
        (.ite (!(↑(UInt8.toNat (List.getD v0 (Int.toNat v3) (0 : UInt8))) : Int) == (95 : Int))
         (.leaf (PV.bl false) ([]))
         (L1 v0 (IntKind.wrap IntKind.i64 (v3 + (1 : Int))))))
       (.ite (!(↑(UInt8.toNat (List.getD v0 (Int.toNat v3) (0 : UInt8))) : Int) == (95 : Int))
        (.leaf (PV.bl false) ([]))
        (L1 v0 (IntKind.wrap IntKind.i64 (v3 + (1 : Int)))))))
     (L1 v0 (IntKind.wrap IntKind.i64 (v3 + (1 : Int)))))
    (.ite (v3 == (0 : Int))
     (.leaf (PV.bl false) ([]))
     (.ite (decide ((↑(UInt8.toNat (List.getD v0 (Int.toNat v3) (0 : UInt8))) : Int) ≥ (48 : Int)))
      (.ite (decide ((↑(UInt8.toNat (List.getD v0 (Int.toNat v3) (0 : UInt8))) : Int) ≤ (57 : Int)))
       (L1 v0 (IntKind.wrap IntKind.i64 (v3 + (1 : Int))))
       (.ite (!(↑(UInt8.toNat (List.getD v0 (Int.toNat v3) (0 : UInt8))) : Int) == (95 : Int))
        (.leaf (PV.bl false) ([]))
        (L1 v0 (IntKind.wrap IntKind.i64 (v3 + (1 : Int))))))
      (.ite (!(↑(UInt8.toNat (List.getD v0 (Int.toNat v3) (0 : UInt8))) : Int) == (95 : Int))
       (.leaf (PV.bl false) ([]))
       (L1 v0 (IntKind.wrap IntKind.i64 (v3 + (1 : Int)))))))))
  (.fail))
 (.leaf (PV.bl true) ([])) := by kernel_rfl
end T113
namespace T84
noncomputable def T (l : List (List UInt8)) (s : List UInt8) : Tr := tree X70 false 9 84 (valsOf ([Sh.list Sh.str, Sh.str]) (l, s))
/-- function 84, region 2 -/
noncomputable def L1 (v0 : List (List UInt8)) (v1 : List UInt8) (v5 : Int) : Tr := re ((T [] [])) (mkSt (18) [(0, PV.dat (Sh.list Sh.str) v0), (1, PV.dat Sh.str v1), (5, PV.dat (Sh.int IntKind.i64) v5)] [] (0))
theorem T_eq (l : List (List UInt8)) (s : List UInt8) : T l s = L1 l s ((0 : Int)) := by kernel_rfl
theorem L1_eq (v0 : List (List UInt8)) (v1 : List UInt8) (v5 : Int) : stepT X70 (L1 v0 v1 v5) = .ite (decide (v5 < (↑(List.length v0) : Int)))
 (.ite (decide ((0 : Int) ≤ v5) && decide (v5 < (↑(List.length v0) : Int)))
  (.ite (List.getD v0 (Int.toNat v5) [] == v1)
   (.leaf (PV.bl true) ([]))
   (L1 v0 v1 (IntKind.wrap IntKind.i64 (v5 + (1 : Int)))))
  (.fail))
 (.leaf (PV.bl false) ([])) := by kernel_rfl
end T84
namespace T42
noncomputable def T (a : List (List UInt8)) (b : List (List UInt8)) : Tr := tree X70 false 9 42 (valsOf ([Sh.list Sh.str, Sh.list Sh.str]) (a, b))
/-- function 42, region 4 -/
noncomputable def L1 (v0 : List (List UInt8)) (v1 : List (List UInt8)) (v5 : Int) : Tr := re ((T [] []).R) (mkSt (26) [(0, PV.dat (Sh.list Sh.str) v0), (1, PV.dat (Sh.list Sh.str) v1), (5, PV.dat (Sh.int IntKind.i64) v5)] [] (0))
theorem T_eq (a : List (List UInt8)) (b : List (List UInt8)) : T a b = .ite ((↑(List.length a) : Int) != (↑(List.length b) : Int))
 (.leaf (PV.bl false) ([]))
 (L1 a b ((0 : Int))) := by kernel_rfl
theorem L1_eq (v0 : List (List UInt8)) (v1 : List (List UInt8)) (v5 : Int) : stepT X70 (L1 v0 v1 v5) = .ite (decide (v5 < (↑(List.length v0) : Int)))
 (.ite (decide ((0 : Int) ≤ v5) && decide (v5 < (↑(List.length v0) : Int)))
  (.ite (decide ((0 : Int) ≤ v5) && decide (v5 < (↑(List.length v1) : Int)))
   (.ite (!List.getD v0 (Int.toNat v5) [] == List.getD v1 (Int.toNat v5) [])
    (.leaf (PV.bl false) ([]))
    (L1 v0 v1 (IntKind.wrap IntKind.i64 (v5 + (1 : Int)))))
   (.fail))
  (.fail))
 (.leaf (PV.bl true) ([])) := by kernel_rfl
end T42
namespace T35
noncomputable def T (l : List (List UInt8)) (n : Int) : Tr := tree X70 false 9 35 (valsOf ([Sh.list Sh.str, Sh.int IntKind.i64]) (l, n))
/-- function 35, region 4 -/
noncomputable def L1 (v0 : List (List UInt8)) (v5 : Int) : Tr := re ((T [] (0 : Int)).L.R.R) (mkSt (32) [(0, PV.dat (Sh.list Sh.str) v0), (5, PV.dat (Sh.int IntKind.i64) v5)] [] (0))
theorem T_eq (l : List (List UInt8)) (n : Int) : T l n = .ite (decide ((↑(List.length l) : Int) > n))
 (.ite (decide ((↑(List.length l) : Int) ≤ (200 : Int)))
  (.leaf (PV.bl false) ([]))
  (.ite (decide ((↑(List.length l) : Int) > (300 : Int)))
   (.leaf (PV.bl false) ([]))
   (L1 l ((0 : Int)))))
 (.ite (decide ((↑(List.length l) : Int) > (300 : Int)))
  (.leaf (PV.bl false) ([]))
  (L1 l ((0 : Int)))) := by kernel_rfl
theorem L1_eq (v0 : List (List UInt8)) (v5 : Int) : stepT X70 (L1 v0 v5) = .ite (decide (v5 < (↑(List.length v0) : Int)))
 (.ite (decide ((0 : Int) ≤ v5) && decide (v5 < (↑(List.length v0) : Int)))
  (.ite (decide ((↑(List.length (List.getD v0 (Int.toNat v5) [])) : Int) > (40 : Int)))
   (.leaf (PV.bl false) ([]))
   (L1 v0 (IntKind.wrap IntKind.i64 (v5 + (1 : Int)))))
  (.fail))
 (.leaf (PV.bl true) ([])) := by kernel_rfl
end T35
end Go.Pe
end
section
namespace Go.Pe
open Go.Det
namespace T87
noncomputable def T (l : List Int) : Tr := tree X70 false 9 87 (valsOf ([Sh.list (Sh.int IntKind.i64)]) l)
/-- function 87, region 2 -/
noncomputable def L1 (v5 : List Int) (v6 : Int) (v7 : Int) : Tr := re ((T [])) (mkSt (15) [(5, PV.dat (Sh.list (Sh.int IntKind.i64)) v5), (6, PV.dat (Sh.int IntKind.i64) v6), (7, PV.dat (Sh.int IntKind.i64) v7)] [] (0))
theorem T_eq (l : List Int) : T l = L1 l ((↑(List.length l) : Int)) ((0 : Int)) := by kernel_rfl
theorem L1_eq (v5 : List Int) (v6 : Int) (v7 : Int) : stepT X70 (L1 v5 v6 v7) = .ite (decide (v7 < v6))
 (.ite (decide ((0 : Int) ≤ v7) && decide (v7 < (↑(List.length v5) : Int)))
  (.ite (List.getD v5 (Int.toNat v7) (0 : Int) != (0 : Int))
   (.leaf (PV.dat (Sh.int IntKind.i64) (List.getD v5 (Int.toNat v7) (0 : Int))) ([]))
   (L1 v5 v6 (IntKind.wrap IntKind.i64 (v7 + (1 : Int)))))
  (.fail))
 (.leaf (PV.dat (Sh.int IntKind.i64) (0 : Int)) ([])) := by kernel_rfl
end T87
namespace T88
noncomputable def T (n : Int) (a : Int) (b : Int) : Tr := tree X70 false 9 88 (valsOf ([Sh.int IntKind.i64, Sh.int IntKind.i64, Sh.int IntKind.i64]) (n, a, b))
theorem T_eq (n : Int) (a : Int) (b : Int) : T n a b = .ite (decide (n < a))
 (.leaf (PV.dat (Sh.int IntKind.i64) (3 : Int)) ([]))
 (.ite (decide (n > b))
  (.leaf (PV.dat (Sh.int IntKind.i64) (3 : Int)) ([]))
  (.leaf (PV.dat (Sh.int IntKind.i64) (0 : Int)) ([]))) := by kernel_rfl
end T88
namespace T92
noncomputable def T (c : Bool) (e : Int) : Tr := tree X70 false 9 92 (valsOf ([Sh.bool, Sh.int IntKind.i64]) (c, e))
theorem T_eq (c : Bool) (e : Int) : T c e = .ite (c)
 (.leaf (PV.dat (Sh.int IntKind.i64) e) ([]))
 (.leaf (PV.dat (Sh.int IntKind.i64) (0 : Int)) ([])) := by kernel_rfl
end T92
namespace T93
noncomputable def T (l : List Int) (x : Int) : Tr := tree X70 false 9 93 (valsOf ([Sh.list (Sh.int IntKind.i64), Sh.int IntKind.i64]) (l, x))
/-- function 93, region 2 -/
noncomputable def L1 (v0 : List Int) (v1 : Int) (v7 : Int) (v8 : Int) : Tr := re ((T [] (0 : Int))) (mkSt (19) [(0, PV.dat (Sh.list (Sh.int IntKind.i64)) v0), (1, PV.dat (Sh.int IntKind.i64) v1), (7, PV.dat (Sh.int IntKind.i64) v7), (8, PV.dat (Sh.int IntKind.i64) v8)] [] (0))
theorem T_eq (l : List Int) (x : Int) : T l x = L1 l x ((↑(List.length l) : Int)) ((0 : Int)) := by kernel_rfl
theorem L1_eq (v0 : List Int) (v1 : Int) (v7 : Int) (v8 : Int) : stepT X70 (L1 v0 v1 v7 v8) = .ite (decide (v8 < v7))
 (.ite (decide ((0 : Int) ≤ v8) && decide (v8 < (↑(List.length v0) : Int)))
  (.ite (v1 == List.getD v0 (Int.toNat v8) (0 : Int))
   (.leaf (PV.dat (Sh.int IntKind.i64) v8) ([]))
   (L1 v0 v1 v7 (IntKind.wrap IntKind.i64 (v8 + (1 : Int)))))
  (.fail))
 (.leaf (PV.dat (Sh.int IntKind.i64) (-1 : Int)) ([])) := by kernel_rfl
end T93
namespace T95
noncomputable def T (n : Int) : Tr := tree X70 false 9 95 (valsOf ([Sh.int IntKind.i64]) n)
/-- function 95, region 2 -/
noncomputable def L1 (v0 : Int) (v3 : Int) : Tr := re ((T (0 : Int))) (mkSt (10) [(0, PV.dat (Sh.int IntKind.i64) v0), (3, PV.dat (Sh.int IntKind.i64) v3)] [] (0))
theorem T_eq (n : Int) : T n = L1 n ((1 : Int)) := by kernel_rfl
theorem L1_eq (v0 : Int) (v3 : Int) : stepT X70 (L1 v0 v3) = .ite (decide (v3 < v0))
 (L1 v0 (IntKind.wrap IntKind.i64 ((2 : Int) * v3)))
 (.leaf (PV.dat (Sh.int IntKind.i64) v3) ([])) := by kernel_rfl
end T95
namespace T21
noncomputable def T (l : List Int) : Tr := tree X70 false 9 21 (valsOf ([Sh.list (Sh.int IntKind.i64)]) l)
/-- function 21, region 2 -/
noncomputable def L1 (v5 : List Int) (v6 : Int) (v7 : Int) : Tr := re ((T [])) (mkSt (15) [(5, PV.dat (Sh.list (Sh.int IntKind.i64)) v5), (6, PV.dat (Sh.int IntKind.i64) v6), (7, PV.dat (Sh.int IntKind.i64) v7)] [] (0))
theorem T_eq (l : List Int) : T l = L1 l ((↑(List.length l) : Int)) ((0 : Int)) := by kernel_rfl
theorem L1_eq (v5 : List Int) (v6 : Int) (v7 : Int) : stepT X70 (L1 v5 v6 v7) = .ite (decide (v7 < v6))
 (.ite (decide ((0 : Int) ≤ v7) && decide (v7 < (↑(List.length v5) : Int)))
  (.ite (List.getD v5 (Int.toNat v7) (0 : Int) != (0 : Int))
   (.leaf (PV.dat (Sh.int IntKind.i64) (List.getD v5 (Int.toNat v7) (0 : Int))) ([]))
   (L1 v5 v6 (IntKind.wrap IntKind.i64 (v7 + (1 : Int)))))
  (.fail))
 (.leaf (PV.dat (Sh.int IntKind.i64) (0 : Int)) ([])) := by kernel_rfl
end T21
namespace T22
noncomputable def T (n : Int) (a : Int) (b : Int) : Tr := tree X70 false 9 22 (valsOf ([Sh.int IntKind.i64, Sh.int IntKind.i64, Sh.int IntKind.i64]) (n, a, b))
theorem T_eq (n : Int) (a : Int) (b : Int) : T n a b = .ite (decide (n < a))
 (.leaf (PV.dat (Sh.int IntKind.i64) (3 : Int)) ([]))
 (.ite (decide (n > b))
  (.leaf (PV.dat (Sh.int IntKind.i64) (3 : Int)) ([]))
  (.leaf (PV.dat (Sh.int IntKind.i64) (0 : Int)) ([]))) := by kernel_rfl
end T22
namespace T94
noncomputable def T (n : Int) (a : Int) (b : Int) : Tr := tree X70 false 9 94 (valsOf ([Sh.int IntKind.i64, Sh.int IntKind.i64, Sh.int IntKind.i64]) (n, a, b))
theorem T_eq (n : Int) (a : Int) (b : Int) : T n a b = .ite (decide (n < a))
 (.leaf (PV.dat (Sh.int IntKind.i64) (3 : Int)) ([]))
 (.ite (decide (n > b))
  (.leaf (PV.dat (Sh.int IntKind.i64) (3 : Int)) ([]))
  (.leaf (PV.dat (Sh.int IntKind.i64) (0 : Int)) ([]))) := by kernel_rfl
end T94
namespace T27
noncomputable def T (a : List Int) (b : List Int) : Tr := tree X70 false 9 27 (valsOf ([Sh.list (Sh.int IntKind.i64), Sh.list (Sh.int IntKind.i64)]) (a, b))
/-- function 27, region 4 -/
noncomputable def L1 (v0 : List Int) (v1 : List Int) (v5 : Int) : Tr := re ((T [] []).R) (mkSt (26) [(0, PV.dat (Sh.list (Sh.int IntKind.i64)) v0), (1, PV.dat (Sh.list (Sh.int IntKind.i64)) v1), (5, PV.dat (Sh.int IntKind.i64) v5)] [] (0))
theorem T_eq (a : List Int) (b : List Int) : T a b = .ite ((↑(List.length a) : Int) != (↑(List.length b) : Int))
 (.leaf (PV.bl false) ([]))
 (L1 a b ((0 : Int))) := by kernel_rfl
theorem L1_eq (v0 : List Int) (v1 : List Int) (v5 : Int) : stepT X70 (L1 v0 v1 v5) = .ite (decide (v5 < (↑(List.length v0) : Int)))
 (.ite (decide ((0 : Int) ≤ v5) && decide (v5 < (↑(List.length v0) : Int)))
  (.ite (decide ((0 : Int) ≤ v5) && decide (v5 < (↑(List.length v1) : Int)))
   (.ite (List.getD v0 (Int.toNat v5) (0 : Int) != List.getD v1 (Int.toNat v5) (0 : Int))
    (.leaf (PV.bl false) ([]))
    (L1 v0 v1 (IntKind.wrap IntKind.i64 (v5 + (1 : Int)))))
   (.fail))
  (.fail))
 (.leaf (PV.bl true) ([])) := by kernel_rfl
end T27
namespace T90
noncomputable def T (n : Int) (key : Int) : Tr := tree X70 false 9 90 (valsOf ([Sh.int IntKind.i64, Sh.int IntKind.i64]) (n, key))
/-- function 101, region 3 -/
noncomputable def L1 (n : Int) (key : Int) (v3n : Nat) (v8 : Int) (v9 : Int) (o0 : List Int) : Tr := re ((T n key).L) (mkSt (18) [(3, PV.sl (0) (1) (0) v3n none), (8, PV.dat (Sh.int IntKind.i64) v8), (9, PV.dat (Sh.int IntKind.i64) v9)] [(0, Obj.arr false (3) (Sh.int IntKind.i64) o0)] (1))
theorem T_eq (n : Int) (key : Int) : T n key = .ite (decide ((0 : Int) ≤ n) && decide (n = n) && decide ((8 : Nat) * Int.toNat n ≤ (281474976710656 : Nat)) && decide (n < (9223372036854775808 : Int)))
 (L1 n key (Int.toNat n) ((↑(Int.toNat n) : Int)) ((0 : Int)) (List.replicate (Int.toNat n) (0 : Int)))
 (.fail) := by kernel_rfl
/-- function 90, region 3 -/
noncomputable def L2 (v1 : Int) (v5n : Nat) (v6 : Int) (o0 : List Int) : Tr := re ((stepT X70 (L1 (0 : Int) (0 : Int) 0 (0 : Int) (0 : Int) [])).R) (mkSt (38) [(1, PV.dat (Sh.int IntKind.i64) v1), (5, PV.sl (0) (1) (0) v5n none), (6, PV.dat (Sh.int IntKind.i64) v6)] [(0, Obj.arr false (3) (Sh.int IntKind.i64) o0)] (1))
theorem L1_eq (n : Int) (key : Int) (v3n : Nat) (v8 : Int) (v9 : Int) (o0 : List Int) : stepT X70 (L1 n key v3n v8 v9 o0) = .ite (decide (v9 < v8))
 (.ite (decide ((0 : Int) ≤ v9) && decide (v9 < (↑v3n : Int)))
  (.ite (decide (Int.toNat v9 < List.length o0))
   (L1 n key v3n v8 (IntKind.wrap IntKind.i64 (v9 + (1 : Int))) (List.set o0 (Int.toNat v9) v9))
   (.fail))
  (.fail))
 (L2 key v3n (IntKind.wrap IntKind.i64 (n - (1 : Int))) o0) := by kernel_rfl
theorem L2_eq (v1 : Int) (v5n : Nat) (v6 : Int) (o0 : List Int) : stepT X70 (L2 v1 v5n v6 o0) = .ite (decide (v6 ≥ (1 : Int)))
 (.ite (true)
  (.ite (decide (IntKind.wrap IntKind.i64 (v6 + (1 : Int)) ≠ (0 : Int)))
   (.ite (decide ((0 : Int) ≤ Int.tmod (Int.tmod (IntKind.wrap IntKind.i64 ((48271 : Int) * v1)) (2147483647 : Int)) (IntKind.wrap IntKind.i64 (v6 + (1 : Int)))) && decide (Int.tmod (Int.tmod (IntKind.wrap IntKind.i64 ((48271 : Int) * v1)) (2147483647 : Int)) (IntKind.wrap IntKind.i64 (v6 + (1 : Int))) < (↑v5n : Int)))
    (.ite (decide (Int.toNat (Int.tmod (Int.tmod (IntKind.wrap IntKind.i64 ((48271 : Int) * v1)) (2147483647 : Int)) (IntKind.wrap IntKind.i64 (v6 + (1 : Int)))) < List.length o0))
     (.ite (decide ((0 : Int) ≤ v6) && decide (v6 < (↑v5n : Int)))
      (.ite (decide (Int.toNat v6 < List.length o0))
       (.ite (decide ((0 : Int) ≤ v6) && decide (v6 < (↑v5n : Int)))
        (.ite (decide (Int.toNat v6 < List.length o0))
         (.ite (decide ((0 : Int) ≤ Int.tmod (Int.tmod (IntKind.wrap IntKind.i64 ((48271 : Int) * v1)) (2147483647 : Int)) (IntKind.wrap IntKind.i64 (v6 + (1 : Int)))) && decide (Int.tmod (Int.tmod (IntKind.wrap IntKind.i64 ((48271 : Int) * v1)) (2147483647 : Int)) (IntKind.wrap IntKind.i64 (v6 + (1 : Int))) < (↑v5n : Int)))
          (.ite (decide (Int.toNat (Int.tmod (Int.tmod (IntKind.wrap IntKind.i64 ((48271 : Int) * v1)) (2147483647 : Int)) (IntKind.wrap IntKind.i64 (v6 + (1 : Int)))) < List.length (List.set o0 (Int.toNat v6) (List.getD o0 (Int.toNat (Int.tmod (Int.tmod (IntKind.wrap IntKind.i64 ((48271 : Int) * v1)) (2147483647 : Int)) (IntKind.wrap IntKind.i64 (v6 + (1 : Int))))) (0 : Int)))))
           (L2 (Int.tmod (IntKind.wrap IntKind.i64 ((48271 : Int) * v1)) (2147483647 : Int)) v5n (IntKind.wrap IntKind.i64 (v6 - (1 : Int))) (List.set (List.set o0 (Int.toNat v6) (List.getD o0 (Int.toNat (Int.tmod (Int.tmod (IntKind.wrap IntKind.i64 ((48271 : Int) * v1)) (2147483647 : Int)) (IntKind.wrap IntKind.i64 (v6 + (1 : Int))))) (0 : Int))) (Int.toNat (Int.tmod (Int.tmod (IntKind.wrap IntKind.i64 ((48271 : Int) * v1)) (2147483647 : Int)) (IntKind.wrap IntKind.i64 (v6 + (1 : Int))))) (List.getD o0 (Int.toNat v6) (0 : Int))))
           (.fail))
          (.fail))
         (.fail))
        (.fail))
       (.fail))
      (.fail))
     (.fail))
    (.fail))
   (.fail))
  (.fail))
 (.leaf (PV.sl (0) (1) (0) v5n none) ([(0, Obj.arr false (3) (Sh.int IntKind.i64) o0)])) := by kernel_rfl
end T90
namespace T91
noncomputable def T (n : Int) : Tr := tree X70 false 9 91 (valsOf ([Sh.int IntKind.i64]) n)
/-- function 91, region 2 -/
noncomputable def L1 (v0 : Int) (v3n : Nat) (o0 : List Int) : Tr := re ((T (0 : Int))) (mkSt (47) [(0, PV.dat (Sh.int IntKind.i64) v0), (3, PV.sl (0) (1) (0) v3n none)] [(0, Obj.arr false (3) (Sh.int IntKind.i64) o0)] (1))
theorem T_eq (n : Int) : T n = L1 n ((1 : Nat)) ([(1 : Int)]) := by kernel_rfl
/-- function 91, region 5 -/
noncomputable def L2 (v0 : Int) (v3n : Nat) (v14n : Nat) (v15 : Int) (v16 : Int) (o0 : List Int) : Tr := re ((stepT X70 (L1 (0 : Int) 0 [])).L) (mkSt (47) [(0, PV.dat (Sh.int IntKind.i64) v0), (3, PV.sl (0) (1) (0) v3n none), (4, PV.nil), (14, PV.sl (0) (1) (0) v14n none), (15, PV.dat (Sh.int IntKind.i64) v15), (16, PV.dat (Sh.int IntKind.i64) v16)] [(0, Obj.arr false (3) (Sh.int IntKind.i64) o0)] (1))
/-- function 91, region 11 -/
noncomputable def L3 (v0 : Int) (v3n : Nat) (v32n : Nat) (v33 : Int) (v34 : Int) (o0 : List Int) : Tr := re ((stepT X70 (L1 (0 : Int) 0 [])).R) (mkSt (47) [(0, PV.dat (Sh.int IntKind.i64) v0), (3, PV.sl (0) (1) (0) v3n none), (32, PV.sl (0) (1) (0) v32n none), (33, PV.dat (Sh.int IntKind.i64) v33), (34, PV.dat (Sh.int IntKind.i64) v34)] [(0, Obj.arr false (3) (Sh.int IntKind.i64) o0)] (1))
theorem L1_eq (v0 : Int) (v3n : Nat) (o0 : List Int) : stepT X70 (L1 v0 v3n o0) = .ite (decide ((↑v3n : Int) < v0))
 (L2 v0 v3n v3n ((↑v3n : Int)) ((0 : Int)) o0)
 (L3 v0 v3n v3n ((↑v3n : Int)) ((0 : Int)) o0) := by kernel_rfl
/-- function 91, region 5 -/
noncomputable def L4 (v0 : Int) (v3n : Nat) (v4n : Nat) (v14n : Nat) (v15 : Int) (v16 : Int) (o1 : List Int) (o0 : List Int) : Tr := re ((stepT X70 (L2 (0 : Int) 0 0 (0 : Int) (0 : Int) [])).L.L.L.L) (mkSt (47) [(0, PV.dat (Sh.int IntKind.i64) v0), (3, PV.sl (0) (1) (0) v3n none), (4, PV.sl (1) (1) (0) v4n none), (14, PV.sl (0) (1) (0) v14n none), (15, PV.dat (Sh.int IntKind.i64) v15), (16, PV.dat (Sh.int IntKind.i64) v16)] [(1, Obj.arr false (3) (Sh.int IntKind.i64) o1), (0, Obj.arr false (3) (Sh.int IntKind.i64) o0)] (2))
/-- function 91, region 2 -/
noncomputable def L5 (v0 : Int) : Tr := re ((stepT X70 (L2 (0 : Int) 0 0 (0 : Int) (0 : Int) [])).R) (mkSt (47) [(0, PV.dat (Sh.int IntKind.i64) v0), (3, PV.nil)] [] (0))
theorem L2_eq (v0 : Int) (v3n : Nat) (v14n : Nat) (v15 : Int) (v16 : Int) (o0 : List Int) : stepT X70 (L2 v0 v3n v14n v15 v16 o0) = .ite (decide (v16 < v15))
 (.ite (decide ((0 : Int) ≤ v16) && decide (v16 < (↑v14n : Int)))
  (.ite (decide (Int.toNat v16 < List.length o0))
   (.ite (decide ((2 : Nat) ≤ (2 : Nat)) && decide ((0 : Nat) < (2 : Nat)) && decide (((2 : Nat) * (2 : Nat) + (1000 : Nat)) * (8 : Nat) ≤ (281474976710656 : Nat)))
    (L4 v0 v3n ((2 : Nat)) v14n v15 (IntKind.wrap IntKind.i64 (v16 + (1 : Int))) ([List.getD o0 (Int.toNat v16) (0 : Int), IntKind.wrap IntKind.i64 (IntKind.wrap IntKind.i64 (IntKind.wrap IntKind.i64 ((2 : Int) * (↑v3n : Int)) + (1 : Int)) - List.getD o0 (Int.toNat v16) (0 : Int))]) o0)
    (.fail))
   (.fail))
  (.fail))
 (L5 v0) := by kernel_rfl
theorem L3_eq (v0 : Int) (v3n : Nat) (v32n : Nat) (v33 : Int) (v34 : Int) (o0 : List Int) : stepT X70 (L3 v0 v3n v32n v33 v34 o0) = .ite (decide (v34 < v33))
 (.ite (decide ((0 : Int) ≤ v34) && decide (v34 < (↑v32n : Int)))
  (.ite (decide (Int.toNat v34 < List.length o0))
   (.ite (decide (List.getD o0 (Int.toNat v34) (0 : Int) > v0))
    (.ite (decide ((0 : Int) ≤ v34) && decide (v34 < (↑v3n : Int)))
     (.ite (decide (Int.toNat v34 < List.length o0))
      (L3 v0 v3n v32n v33 (IntKind.wrap IntKind.i64 (v34 + (1 : Int))) (List.set o0 (Int.toNat v34) (0 : Int)))
      (.fail))
     (.fail))
    (L3 v0 v3n v32n v33 (IntKind.wrap IntKind.i64 (v34 + (1 : Int))) o0))
   (.fail))
  (.fail))
 (.leaf (PV.sl (0) (1) (0) v3n none) ([(0, Obj.arr false (3) (Sh.int IntKind.i64) o0)])) := by kernel_rfl
theorem L4_eq (v0 : Int) (v3n : Nat) (v4n : Nat) (v14n : Nat) (v15 : Int) (v16 : Int) (o1 : List Int) (o0 : List Int) : stepT X70 (L4 v0 v3n v4n v14n v15 v16 o1 o0) = .ite (decide (v16 < v15))
 (.ite (decide ((0 : Int) ≤ v16) && decide (v16 < (↑v14n : Int)))
  (.ite (decide (Int.toNat v16 < List.length o0))
   (.ite (decide ((2 : Nat) ≤ (2 : Nat)) && true && decide (v4n = List.length o1) && decide (((2 : Nat) * (v4n + (2 : Nat)) + (1000 : Nat)) * (8 : Nat) ≤ (281474976710656 : Nat)))
    (L4 v0 v3n (Nat.add v4n (2 : Nat)) v14n v15 (IntKind.wrap IntKind.i64 (v16 + (1 : Int))) (o1 ++ [List.getD o0 (Int.toNat v16) (0 : Int), IntKind.wrap IntKind.i64 (IntKind.wrap IntKind.i64 (IntKind.wrap IntKind.i64 ((2 : Int) * (↑v3n : Int)) + (1 : Int)) - List.getD o0 (Int.toNat v16) (0 : Int))]) o0)
    (.fail))
   (.fail))
  (.fail))
 (L1 v0 v4n o1) := by kernel_rfl
/-- function 91, region 5 -/
noncomputable def L6 (v0 : Int) (v15 : Int) (v16 : Int) : Tr := re ((stepT X70 (L5 (0 : Int))).L) (mkSt (47) [(0, PV.dat (Sh.int IntKind.i64) v0), (3, PV.nil), (4, PV.nil), (14, PV.nil), (15, PV.dat (Sh.int IntKind.i64) v15), (16, PV.dat (Sh.int IntKind.i64) v16)] [] (0))
/-- function 91, region 11 -/
noncomputable def L7 (v0 : Int) (v33 : Int) (v34 : Int) : Tr := re ((stepT X70 (L5 (0 : Int))).R) (mkSt (47) [(0, PV.dat (Sh.int IntKind.i64) v0), (3, PV.nil), (32, PV.nil), (33, PV.dat (Sh.int IntKind.i64) v33), (34, PV.dat (Sh.int IntKind.i64) v34)] [] (0))
theorem L5_eq (v0 : Int) : stepT X70 (L5 v0) = .ite (decide ((0 : Int) < v0))
 (L6 v0 ((0 : Int)) ((0 : Int)))
 (L7 v0 ((0 : Int)) ((0 : Int))) := by kernel_rfl
theorem L6_eq (v0 : Int) (v15 : Int) (v16 : Int) : stepT X70 (L6 v0 v15 v16) = .ite (decide (v16 < v15))
 (.fail)
 (L5 v0) := by kernel_rfl
theorem L7_eq (v0 : Int) (v33 : Int) (v34 : Int) : stepT X70 (L7 v0 v33 v34) = .ite (decide (v34 < v33))
 (.fail)
 (.leaf (PV.nil) ([])) := by kernel_rfl
end T91
namespace T24
noncomputable def T (n : Int) (key : Int) : Tr := tree X70 false 9 24 (valsOf ([Sh.int IntKind.i64, Sh.int IntKind.i64]) (n, key))
/-- function 24, region 3 -/
noncomputable def L1 (v0 : Int) (v1 : Int) (v6 : Int) : Tr := re ((T (0 : Int) (0 : Int))) (mkSt (48) [(0, PV.dat (Sh.int IntKind.i64) v0), (1, PV.dat (Sh.int IntKind.i64) v1), (5, PV.nil), (6, PV.dat (Sh.int IntKind.i64) v6)] [] (0))
theorem T_eq (n : Int) (key : Int) : T n key = L1 n key ((0 : Int)) := by kernel_rfl
/-- function 24, region 3 -/
noncomputable def L2 (v0 : Int) (v1 : Int) (v5n : Nat) (v6 : Int) (o0 : List Int) : Tr := re ((stepT X70 (L1 (0 : Int) (0 : Int) (0 : Int))).L.L) (mkSt (48) [(0, PV.dat (Sh.int IntKind.i64) v0), (1, PV.dat (Sh.int IntKind.i64) v1), (5, PV.sl (0) (1) (0) v5n none), (6, PV.dat (Sh.int IntKind.i64) v6)] [(0, Obj.arr false (3) (Sh.int IntKind.i64) o0)] (1))
/-- function 24, region 8 -/
noncomputable def L3 (v7 : Int) (v8 : Int) : Tr := re ((stepT X70 (L1 (0 : Int) (0 : Int) (0 : Int))).R) (mkSt (48) [(5, PV.nil), (7, PV.dat (Sh.int IntKind.i64) v7), (8, PV.dat (Sh.int IntKind.i64) v8)] [] (0))
theorem L1_eq (v0 : Int) (v1 : Int) (v6 : Int) : stepT X70 (L1 v0 v1 v6) = .ite (decide (v6 < v0))
 (.ite (decide ((1 : Nat) ≤ (1 : Nat)) && decide ((0 : Nat) < (1 : Nat)) && decide (((2 : Nat) * (1 : Nat) + (1000 : Nat)) * (8 : Nat) ≤ (281474976710656 : Nat)))
  (L2 v0 v1 ((1 : Nat)) (IntKind.wrap IntKind.i64 (v6 + (1 : Int))) [v6])
  (.fail))
 (L3 v1 (IntKind.wrap IntKind.i64 (v0 - (1 : Int)))) := by kernel_rfl
/-- function 24, region 8 -/
noncomputable def L4 (v5n : Nat) (v7 : Int) (v8 : Int) (o0 : List Int) : Tr := re ((stepT X70 (L2 (0 : Int) (0 : Int) 0 (0 : Int) [])).R) (mkSt (48) [(5, PV.sl (0) (1) (0) v5n none), (7, PV.dat (Sh.int IntKind.i64) v7), (8, PV.dat (Sh.int IntKind.i64) v8)] [(0, Obj.arr false (3) (Sh.int IntKind.i64) o0)] (1))
theorem L2_eq (v0 : Int) (v1 : Int) (v5n : Nat) (v6 : Int) (o0 : List Int) : stepT X70 (L2 v0 v1 v5n v6 o0) = .ite (decide (v6 < v0))
 (.ite (decide ((1 : Nat) ≤ (1 : Nat)) && true && decide (v5n = List.length o0) && decide (((2 : Nat) * (v5n + (1 : Nat)) + (1000 : Nat)) * (8 : Nat) ≤ (281474976710656 : Nat)))
  (L2 v0 v1 (Nat.add v5n (1 : Nat)) (IntKind.wrap IntKind.i64 (v6 + (1 : Int))) (o0 ++ [v6]))
  (.fail))
 (L4 v5n v1 (IntKind.wrap IntKind.i64 (v0 - (1 : Int))) o0) := by kernel_rfl
theorem L3_eq (v7 : Int) (v8 : Int) : stepT X70 (L3 v7 v8) = .ite (decide (v8 ≥ (1 : Int)))
 (.ite (true)
  (.ite (decide (IntKind.wrap IntKind.i64 (v8 + (1 : Int)) ≠ (0 : Int)))
   (.fail)
   (.fail))
  (.fail))
 (.leaf (PV.nil) ([])) := by kernel_rfl
theorem L4_eq (v5n : Nat) (v7 : Int) (v8 : Int) (o0 : List Int) : stepT X70 (L4 v5n v7 v8 o0) = .ite (decide (v8 ≥ (1 : Int)))
 (.ite (true)
  (.ite (decide (IntKind.wrap IntKind.i64 (v8 + (1 : Int)) ≠ (0 : Int)))
   (.ite (decide ((0 : Int) ≤ Int.tmod (Int.tmod (IntKind.wrap IntKind.i64 ((48271 : Int) * v7)) (2147483647 : Int)) (IntKind.wrap IntKind.i64 (v8 + (1 : Int)))) && decide (Int.tmod (Int.tmod (IntKind.wrap IntKind.i64 ((48271 : Int) * v7)) (2147483647 : Int)) (IntKind.wrap IntKind.i64 (v8 + (1 : Int))) < (↑v5n : Int)))
    (.ite (decide (Int.toNat (Int.tmod (Int.tmod (IntKind.wrap IntKind.i64 ((48271 : Int) * v7)) (2147483647 : Int)) (IntKind.wrap IntKind.i64 (v8 + (1 : Int)))) < List.length o0))
     (.ite (decide ((0 : Int) ≤ v8) && decide (v8 < (↑v5n : Int)))
      (.ite (decide (Int.toNat v8 < List.length o0))
       (.ite (decide ((0 : Int) ≤ v8) && decide (v8 < (↑v5n : Int)))
        (.ite (decide (Int.toNat v8 < List.length o0))
         (.ite (decide ((0 : Int) ≤ Int.tmod (Int.tmod (IntKind.wrap IntKind.i64 ((48271 : Int) * v7)) (2147483647 : Int)) (IntKind.wrap IntKind.i64 (v8 + (1 : Int)))) && decide (Int.tmod (Int.tmod (IntKind.wrap IntKind.i64 ((48271 : Int) * v7)) (2147483647 : Int)) (IntKind.wrap IntKind.i64 (v8 + (1 : Int))) < (↑v5n : Int)))
          (.ite (decide (Int.toNat (Int.tmod (Int.tmod (IntKind.wrap IntKind.i64 ((48271 : Int) * v7)) (2147483647 : Int)) (IntKind.wrap IntKind.i64 (v8 + (1 : Int)))) < List.length (List.set o0 (Int.toNat v8) (List.getD o0 (Int.toNat (Int.tmod (Int.tmod (IntKind.wrap IntKind.i64 ((48271 : Int) * v7)) (2147483647 : Int)) (IntKind.wrap IntKind.i64 (v8 + (1 : Int))))) (0 : Int)))))
           (L4 v5n (Int.tmod (IntKind.wrap IntKind.i64 ((48271 : Int) * v7)) (2147483647 : Int)) (IntKind.wrap IntKind.i64 (v8 - (1 : Int))) (List.set (List.set o0 (Int.toNat v8) (List.getD o0 (Int.toNat (Int.tmod (Int.tmod (IntKind.wrap IntKind.i64 ((48271 : Int) * v7)) (2147483647 : Int)) (IntKind.wrap IntKind.i64 (v8 + (1 : Int))))) (0 : Int))) (Int.toNat (Int.tmod (Int.tmod (IntKind.wrap IntKind.i64 ((48271 : Int) * v7)) (2147483647 : Int)) (IntKind.wrap IntKind.i64 (v8 + (1 : Int))))) (List.getD o0 (Int.toNat v8) (0 : Int))))
           (.fail))
          (.fail))
         (.fail))
        (.fail))
       (.fail))
      (.fail))
     (.fail))
    (.fail))
   (.fail))
  (.fail))
 (.leaf (PV.sl (0) (1) (0) v5n none) ([(0, Obj.arr false (3) (Sh.int IntKind.i64) o0)])) := by kernel_rfl
end T24
namespace T25
noncomputable def T (n : Int) : Tr := tree X71 false 9 25 (valsOf ([Sh.int IntKind.i64]) n)
/-- function 25, region 2 -/
noncomputable def L1 (v0 : Int) (v3n : Nat) (o0 : List Int) : Tr := re ((T (0 : Int))) (mkSt (52) [(0, PV.dat (Sh.int IntKind.i64) v0), (3, PV.sl (0) (1) (0) v3n none)] [(0, Obj.arr false (3) (Sh.int IntKind.i64) o0)] (1))
theorem T_eq (n : Int) : T n = L1 n ((1 : Nat)) ([(1 : Int)]) := by kernel_rfl
/-- function 25, region 5 -/
noncomputable def L2 (v0 : Int) (v3n : Nat) (v5 : Int) (o0 : List Int) : Tr := re ((stepT X71 (L1 (0 : Int) 0 [])).L.L) (mkSt (52) [(0, PV.dat (Sh.int IntKind.i64) v0), (3, PV.sl (0) (1) (0) v3n none), (4, PV.nil), (5, PV.dat (Sh.int IntKind.i64) v5)] [(0, Obj.arr false (3) (Sh.int IntKind.i64) o0)] (1))
/-- function 25, region 10 -/
noncomputable def L3 (v0 : Int) (v3n : Nat) (v6 : Int) (o0 : List Int) : Tr := re ((stepT X71 (L1 (0 : Int) 0 [])).L.R) (mkSt (52) [(0, PV.dat (Sh.int IntKind.i64) v0), (3, PV.sl (0) (1) (0) v3n none), (6, PV.dat (Sh.int IntKind.i64) v6)] [(0, Obj.arr false (3) (Sh.int IntKind.i64) o0)] (1))
theorem L1_eq (v0 : Int) (v3n : Nat) (o0 : List Int) : stepT X71 (L1 v0 v3n o0) = .ite (decide (v0 ≤ (200 : Int)))
 (.ite (decide ((↑v3n : Int) < Sp.size (8 : Nat) v0 (1 : Int)))
  (L2 v0 v3n ((0 : Int)) o0)
  (L3 v0 v3n ((0 : Int)) o0))
 (.fail) := by kernel_rfl
/-- function 25, region 5 -/
noncomputable def L4 (v0 : Int) (v3n : Nat) (v4n : Nat) (v5 : Int) (o1 : List Int) (o0 : List Int) : Tr := re ((stepT X71 (L2 (0 : Int) 0 (0 : Int) [])).L.L.L.L.L.L) (mkSt (52) [(0, PV.dat (Sh.int IntKind.i64) v0), (3, PV.sl (0) (1) (0) v3n none), (4, PV.sl (1) (1) (0) v4n none), (5, PV.dat (Sh.int IntKind.i64) v5)] [(1, Obj.arr false (3) (Sh.int IntKind.i64) o1), (0, Obj.arr false (3) (Sh.int IntKind.i64) o0)] (2))
/-- function 25, region 2 -/
noncomputable def L5 (v0 : Int) : Tr := re ((stepT X71 (L2 (0 : Int) 0 (0 : Int) [])).R) (mkSt (52) [(0, PV.dat (Sh.int IntKind.i64) v0), (3, PV.nil)] [] (0))
theorem L2_eq (v0 : Int) (v3n : Nat) (v5 : Int) (o0 : List Int) : stepT X71 (L2 v0 v3n v5 o0) = .ite (decide (v5 < (↑v3n : Int)))
 (.ite (decide ((0 : Int) ≤ v5) && decide (v5 < (↑v3n : Int)))
  (.ite (decide (Int.toNat v5 < List.length o0))
   (.ite (decide ((0 : Int) ≤ v5) && decide (v5 < (↑v3n : Int)))
    (.ite (decide (Int.toNat v5 < List.length o0))
     (.ite (decide ((2 : Nat) ≤ (2 : Nat)) && decide ((0 : Nat) < (2 : Nat)) && decide (((2 : Nat) * (2 : Nat) + (1000 : Nat)) * (8 : Nat) ≤ (281474976710656 : Nat)))
      (L4 v0 v3n ((2 : Nat)) (IntKind.wrap IntKind.i64 (v5 + (1 : Int))) ([List.getD o0 (Int.toNat v5) (0 : Int), IntKind.wrap IntKind.i64 (IntKind.wrap IntKind.i64 (IntKind.wrap IntKind.i64 ((2 : Int) * (↑v3n : Int)) + (1 : Int)) - List.getD o0 (Int.toNat v5) (0 : Int))]) o0)
      (.fail))
     (.fail))
    (.fail))
   (.fail))
  (.fail))
 (L5 v0) := by kernel_rfl
theorem L3_eq (v0 : Int) (v3n : Nat) (v6 : Int) (o0 : List Int) : stepT X71 (L3 v0 v3n v6 o0) = .ite (decide (v6 < (↑v3n : Int)))
 (.ite (decide ((0 : Int) ≤ v6) && decide (v6 < (↑v3n : Int)))
  (.ite (decide (Int.toNat v6 < List.length o0))
   (.ite (decide (List.getD o0 (Int.toNat v6) (0 : Int) > v0))
    (.ite (decide ((0 : Int) ≤ v6) && decide (v6 < (↑v3n : Int)))
     (.ite (decide (Int.toNat v6 < List.length o0))
      (L3 v0 v3n (IntKind.wrap IntKind.i64 (v6 + (1 : Int))) (List.set o0 (Int.toNat v6) (0 : Int)))
      (.fail))
     (.fail))
    (L3 v0 v3n (IntKind.wrap IntKind.i64 (v6 + (1 : Int))) o0))
   (.fail))
  (.fail))
 (.leaf (PV.sl (0) (1) (0) v3n none) ([(0, Obj.arr false (3) (Sh.int IntKind.i64) o0)])) := by kernel_rfl
theorem L4_eq (v0 : Int) (v3n : Nat) (v4n : Nat) (v5 : Int) (o1 : List Int) (o0 : List Int) : stepT X71 (L4 v0 v3n v4n v5 o1 o0) = .ite (decide (v5 < (↑v3n : Int)))
 (.ite (decide ((0 : Int) ≤ v5) && decide (v5 < (↑v3n : Int)))
  (.ite (decide (Int.toNat v5 < List.length o0))
   (.ite (decide ((0 : Int) ≤ v5) && decide (v5 < (↑v3n : Int)))
    (.ite (decide (Int.toNat v5 < List.length o0))
     (.ite (decide ((2 : Nat) ≤ (2 : Nat)) && true && decide (v4n = List.length o1) && decide (((2 : Nat) * (v4n + (2 : Nat)) + (1000 : Nat)) * (8 : Nat) ≤ (281474976710656 : Nat)))
      (L4 v0 v3n (Nat.add v4n (2 : Nat)) (IntKind.wrap IntKind.i64 (v5 + (1 : Int))) (o1 ++ [List.getD o0 (Int.toNat v5) (0 : Int), IntKind.wrap IntKind.i64 (IntKind.wrap IntKind.i64 (IntKind.wrap IntKind.i64 ((2 : Int) * (↑v3n : Int)) + (1 : Int)) - List.getD o0 (Int.toNat v5) (0 : Int))]) o0)
      (.fail))
     (.fail))
    (.fail))
   (.fail))
  (.fail))
 (L1 v0 v4n o1) := by kernel_rfl
/-- function 25, region 5 -/
noncomputable def L6 (v0 : Int) (v5 : Int) : Tr := re ((stepT X71 (L5 (0 : Int))).L.L) (mkSt (52) [(0, PV.dat (Sh.int IntKind.i64) v0), (3, PV.nil), (4, PV.nil), (5, PV.dat (Sh.int IntKind.i64) v5)] [] (0))
/-- function 25, region 10 -/
noncomputable def L7 (v0 : Int) (v6 : Int) : Tr := re ((stepT X71 (L5 (0 : Int))).L.R) (mkSt (52) [(0, PV.dat (Sh.int IntKind.i64) v0), (3, PV.nil), (6, PV.dat (Sh.int IntKind.i64) v6)] [] (0))
theorem L5_eq (v0 : Int) : stepT X71 (L5 v0) = .ite (decide (v0 ≤ (200 : Int)))
 (.ite (decide ((0 : Int) < Sp.size (8 : Nat) v0 (1 : Int)))
  (L6 v0 ((0 : Int)))
  (L7 v0 ((0 : Int))))
 (.fail) := by kernel_rfl
theorem L6_eq (v0 : Int) (v5 : Int) : stepT X71 (L6 v0 v5) = .ite (decide (v5 < (0 : Int)))
 (.fail)
 (L5 v0) := by kernel_rfl
theorem L7_eq (v0 : Int) (v6 : Int) : stepT X71 (L7 v0 v6) = .ite (decide (v6 < (0 : Int)))
 (.fail)
 (.leaf (PV.nil) ([])) := by kernel_rfl
end T25
end Go.Pe
end
section
namespace Go.Pe
open Go.Det
section
variable {X : PCtx} {Q : PV → Ob → Prop}
@[simp] theorem Ends_fail : Ends X .fail Q ↔ False := ⟨fun ⟨_, h⟩ => Ev.not_fail h, fun h => h.elim⟩
@[simp] theorem Ends_leaf {v : PV} {ob : Ob} : Ends X (.leaf v ob) Q ↔ Q v ob := ⟨fun ⟨_, h⟩ => h.of_leaf, fun h => .leaf h⟩
@[simp] theorem Ends_ite {c : Bool} {a b : Tr} : Ends X (.ite c a b) Q ↔ if c = true then Ends X a Q else Ends X b Q := by
  constructor
  · rintro ⟨n, h⟩
    rcases h.ite_iff with ⟨hc, h⟩ | ⟨hc, h⟩
    · rw [if_pos hc]; exact ⟨n, h⟩
    · rw [if_neg (by simp [hc])]; exact ⟨n, h⟩
  · intro h
    refine .ite (fun hc => ?_) (fun hc => ?_)
    · rwa [if_pos hc] at h
    · rwa [if_neg (by simp [hc])] at h
theorem Gives.of {sp : PSpec} {i : (prodS sp.ins).T} {v : PV} {ob : Ob} {c : Bool} {y : (prodS sp.outs).T} (h : resOf sp.outs v ob = some (c, y)) (hc : c = true) (hy : y = sp.f i) : Gives sp i v ob := ⟨y, by rw [h, hc], hy⟩
@[simp] theorem coers_list (s : Sh) (x : List s.T) : coers (Sh.leaves (.list s)) [.dat (.list s) x] = (true, [.dat (.list s) x]) := rfl
theorem wr (x : Int) (h1 : -9223372036854775808 ≤ x) (h2 : x ≤ 9223372036854775807) : IntKind.wrap .i64 x = x := IntWalk.i64_in x ⟨h1, h2⟩
theorem drop_cons {α : Type} {l r : List α} {x d : α} {i : Nat} (h : l.drop i = x :: r) : i < l.length ∧ l.getD i d = x ∧ l.drop (i + 1) = r := by
  have hlt : i < l.length := by
    rcases Nat.lt_or_ge i l.length with h1 | h1
    · exact h1
    · rw [List.drop_eq_nil_of_le h1] at h; cases h
  have h2 := List.drop_eq_getElem_cons hlt
  rw [h] at h2
  simp only [List.cons.injEq] at h2
  exact ⟨hlt, by simp [hlt, h2.1], h2.2.symm⟩
end
theorem hall70 : ∀ g sp, X70.sp g = some sp → SpecOk C7p g sp := fun g sp h => by cases h
/-- what a contract wants of its function -/
theorem spec7 {X : PCtx} (hX : X.C = C7p) (hall : ∀ g sp, X.sp g = some sp → SpecOk C7p g sp) {f : FuncId} {sp : PSpec} {d : Nat} (hsp : C7p.spec f = none) (hprim : C7p.prim f = none) (hno : X.sp f = none)
    (hev : ∀ i, sp.pre i = true → Ends X (tree X sp.nd d f (valsOf sp.ins i)) (Gives sp i)) (hfn : ∃ i, C7p.fn f = some i) : SpecOk C7p f sp := by
  have hmg : X.C.mg = false := by rw [hX]; rfl
  rw [← hX] at *
  exact specOk_of hmg hall hsp hprim hno hev hfn
theorem isSome_ex {α : Type} {o : Option α} (h : o.isSome = true) : ∃ i, o = some i := Option.isSome_iff_exists.1 h
namespace T87
theorem loop {Q : PV → Ob → Prop} (l : List Int) (hl : l.length ≤ 1000000) : ∀ (r : List Int) (i : Nat), l.drop i = r → i ≤ l.length → Q (.dat i64 (Sp.first r)) [] → Ends X70 (L1 l ((l.length : Int)) i) Q
  | [], i, h, hi, hq => by
    refine Ends.steq (L1_eq ..) ?_
    have : ¬ i < l.length := by
      intro h1
      have := List.drop_eq_getElem_cons h1
      rw [h] at this; cases this
    have he : i = l.length := by omega
    subst he
    simpa [Sp.first] using hq
  | x :: r, i, h, hi, hq => by
    obtain ⟨h1, h2, h3⟩ := drop_cons (d := 0) h
    refine Ends.steq (L1_eq ..) ?_
    rw [Ends_ite, if_pos (by simp; omega), Ends_ite, if_pos (by simp; omega), Ends_ite]
    simp only [Int.toNat_natCast, h2]
    by_cases hx : x = 0
    · subst hx
      rw [if_neg (by simp), wr _ (by omega) (by omega)]
      exact loop l hl r (i + 1) h3 h1 (by simpa [Sp.first] using hq)
    · rw [if_pos (by simpa using hx)]
      simpa [Sp.first, hx] using hq
theorem ok : SpecOk C7p 87 cFirst := by
  refine spec7 (X := X70) rfl hall70 (d := 9) (by kernel_rfl) (by kernel_rfl) rfl (fun l hl => ?_) (isSome_ex (by kernel_rfl))
  refine Ends.eq (T_eq l) ?_
  exact loop l (by simpa [cFirst] using hl) l 0 rfl (Nat.zero_le _) (Gives.of rfl rfl rfl)
end T87
namespace T21
theorem loop {Q : PV → Ob → Prop} (l : List Int) (hl : l.length ≤ 1000000) : ∀ (r : List Int) (i : Nat), l.drop i = r → i ≤ l.length → Q (.dat i64 (Sp.first r)) [] → Ends X70 (L1 l ((l.length : Int)) i) Q
  | [], i, h, hi, hq => by
    refine Ends.steq (L1_eq ..) ?_
    have : ¬ i < l.length := by
      intro h1
      have := List.drop_eq_getElem_cons h1
      rw [h] at this; cases this
    have he : i = l.length := by omega
    subst he
    simpa [Sp.first] using hq
  | x :: r, i, h, hi, hq => by
    obtain ⟨h1, h2, h3⟩ := drop_cons (d := 0) h
    refine Ends.steq (L1_eq ..) ?_
    rw [Ends_ite, if_pos (by simp; omega), Ends_ite, if_pos (by simp; omega), Ends_ite]
    simp only [Int.toNat_natCast, h2]
    by_cases hx : x = 0
    · subst hx
      rw [if_neg (by simp), wr _ (by omega) (by omega)]
      exact loop l hl r (i + 1) h3 h1 (by simpa [Sp.first] using hq)
    · rw [if_pos (by simpa using hx)]
      simpa [Sp.first, hx] using hq
theorem ok : SpecOk C7p 21 cFirst := by
  refine spec7 (X := X70) rfl hall70 (d := 9) (by kernel_rfl) (by kernel_rfl) rfl (fun l hl => ?_) (isSome_ex (by kernel_rfl))
  refine Ends.eq (T_eq l) ?_
  exact loop l (by simpa [cFirst] using hl) l 0 rfl (Nat.zero_le _) (Gives.of rfl rfl rfl)
end T21
theorem out_ends {X : PCtx} {n a b : Int} : Ends X (.ite (decide (n < a)) (.leaf (.dat i64 (3 : Int)) []) (.ite (decide (n > b)) (.leaf (.dat i64 (3 : Int)) []) (.leaf (.dat i64 (0 : Int)) []))) (Gives cOut (n, a, b)) := by
  simp only [Ends_ite, Ends_leaf]
  have key : ∀ x : Int, x = Sp.out n a b → Gives cOut (n, a, b) (.dat i64 x) [] := fun x hx => Gives.of rfl rfl hx
  split
  · rename_i h; exact key _ (by simp at h; simp [Sp.out, h])
  · rename_i h
    split
    · rename_i h2; exact key _ (by simp at h h2; simp only [Sp.out]; rw [if_neg (by omega), if_pos (by omega)])
    · rename_i h2; exact key _ (by simp at h h2; simp only [Sp.out]; rw [if_neg (by omega), if_neg (by omega)])
theorem T88.ok : SpecOk C7p 88 cOut :=
  spec7 (X := X70) rfl hall70 (d := 9) (by kernel_rfl) (by kernel_rfl) rfl (fun ⟨n, a, b⟩ _ => Ends.eq (T88.T_eq n a b) out_ends) (isSome_ex (by kernel_rfl))
theorem T22.ok : SpecOk C7p 22 cOut :=
  spec7 (X := X70) rfl hall70 (d := 9) (by kernel_rfl) (by kernel_rfl) rfl (fun ⟨n, a, b⟩ _ => Ends.eq (T22.T_eq n a b) out_ends) (isSome_ex (by kernel_rfl))
theorem T94.ok : SpecOk C7p 94 cOut :=
  spec7 (X := X70) rfl hall70 (d := 9) (by kernel_rfl) (by kernel_rfl) rfl (fun ⟨n, a, b⟩ _ => Ends.eq (T94.T_eq n a b) out_ends) (isSome_ex (by kernel_rfl))
theorem T92.ok : SpecOk C7p 92 cWhen := by
  refine spec7 (X := X70) rfl hall70 (d := 9) (by kernel_rfl) (by kernel_rfl) rfl (fun ⟨c, e⟩ _ => ?_) (isSome_ex (by kernel_rfl))
  refine Ends.eq (T92.T_eq c e) ?_
  have key : ∀ x : Int, x = Sp.whn c e → Gives cWhen (c, e) (.dat i64 x) [] := fun x hx => Gives.of rfl rfl hx
  simp only [Ends_ite, Ends_leaf]
  cases c
  · exact key _ rfl
  · exact key _ rfl
namespace T93
theorem loop {Q : PV → Ob → Prop} (l : List Int) (x : Int) (hl : l.length ≤ 1000000) : ∀ (r : List Int) (i : Nat), l.drop i = r → i ≤ l.length → Q (.dat i64 (Sp.index r x i)) [] → Ends X70 (L1 l x ((l.length : Int)) i) Q
  | [], i, h, hi, hq => by
    refine Ends.steq (L1_eq ..) ?_
    have : ¬ i < l.length := by
      intro h1
      have := List.drop_eq_getElem_cons h1
      rw [h] at this; cases this
    have he : i = l.length := by omega
    subst he
    simpa [Sp.index] using hq
  | y :: r, i, h, hi, hq => by
    obtain ⟨h1, h2, h3⟩ := drop_cons (d := 0) h
    refine Ends.steq (L1_eq ..) ?_
    rw [Ends_ite, if_pos (by simp; omega), Ends_ite, if_pos (by simp; omega), Ends_ite]
    simp only [Int.toNat_natCast, h2]
    by_cases hx : x = y
    · rw [if_pos (by simpa using hx)]
      simpa [Sp.index, hx] using hq
    · rw [if_neg (by simpa using hx), wr _ (by omega) (by omega)]
      exact loop l x hl r (i + 1) h3 h1 (by simpa [Sp.index, hx] using hq)
theorem ok : SpecOk C7p 93 cIndex := by
  refine spec7 (X := X70) rfl hall70 (d := 9) (by kernel_rfl) (by kernel_rfl) rfl (fun ⟨l, x⟩ hl => ?_) (isSome_ex (by kernel_rfl))
  refine Ends.eq (T_eq l x) ?_
  exact loop l x (by simpa [cIndex] using hl) l 0 rfl (Nat.zero_le _) (Gives.of rfl rfl rfl)
end T93
namespace T95
theorem loop {Q : PV → Ob → Prop} (n : Int) (hn : n ≤ 200) : ∀ (f : Nat) (s : Int), 1 ≤ s → n ≤ s * 2 ^ f → Q (.dat i64 (Sp.size f n s)) [] → Ends X70 (L1 n s) Q
  | 0, s, h1, h, hq => by
    refine Ends.steq (L1_eq ..) ?_
    rw [Ends_ite, if_neg (by simp at h ⊢; omega), Ends_leaf]
    exact hq
  | f + 1, s, h1, h, hq => by
    refine Ends.steq (L1_eq ..) ?_
    by_cases hs : s < n
    · rw [Ends_ite, if_pos (by simpa using hs), wr _ (by omega) (by omega)]
      refine loop n hn f (2 * s) (by omega) ?_ (by simpa [Sp.size, hs] using hq)
      rw [Int.pow_succ] at h; rw [Int.mul_comm 2 s, Int.mul_assoc, Int.mul_comm 2]; exact h
    · rw [Ends_ite, if_neg (by simpa using hs), Ends_leaf]
      simpa [Sp.size, hs] using hq
theorem ok : SpecOk C7p 95 cSize := by
  refine spec7 (X := X70) rfl hall70 (d := 9) (by kernel_rfl) (by kernel_rfl) rfl (fun (n : Int) hn => ?_) (isSome_ex (by kernel_rfl))
  have hn : n ≤ 200 := by simpa [cSize] using hn
  refine Ends.eq (T_eq n) ?_
  exact loop n hn 8 1 (by omega) (by omega) (Gives.of rfl rfl rfl)
end T95
namespace T27
theorem loop {Q : PV → Ob → Prop} (a b : List Int) (hl : a.length ≤ 1000000) (he : a.length = b.length) : ∀ (r q : List Int) (i : Nat), a.drop i = r → b.drop i = q → i ≤ a.length → Q (.bl (r == q)) [] → Ends X70 (L1 a b i) Q
  | [], q, i, h, h', hi, hq => by
    have hla : i = a.length := by
      have := congrArg List.length h
      simp at this; omega
    have hq0 : q = [] := by
      rw [← h']; exact List.drop_eq_nil_of_le (by omega)
    subst hq0
    refine Ends.steq (L1_eq ..) ?_
    rw [Ends_ite, if_neg (by simp; omega), Ends_leaf]
    exact hq
  | x :: r, q, i, h, h', hi, hq => by
    obtain ⟨h1, h2, h3⟩ := drop_cons (d := 0) h
    cases q with
    | nil =>
      have := congrArg List.length h'
      simp at this; omega
    | cons y q =>
      obtain ⟨g1, g2, g3⟩ := drop_cons (d := 0) h'
      refine Ends.steq (L1_eq ..) ?_
      refine Ends.tt (by simp <;> omega) (Ends.tt (by simp <;> omega) (Ends.tt (by simp <;> omega) ?_))
      simp only [Int.toNat_natCast, h2, g2, Ends_ite]
      by_cases hx : x = y
      · subst hx
        rw [if_neg (by simp), wr _ (by omega) (by omega)]
        exact loop a b hl he r q (i + 1) h3 g3 h1 (by simpa using hq)
      · rw [if_pos (by simpa using hx), Ends_leaf]
        have : ((x :: r) == (y :: q)) = false := by simp [hx]
        rw [this] at hq; exact hq
theorem ok : SpecOk C7p 27 cSame := by
  refine spec7 (X := X70) rfl hall70 (d := 9) (by kernel_rfl) (by kernel_rfl) rfl (fun ⟨a, b⟩ hl => ?_) (isSome_ex (by kernel_rfl))
  refine Ends.eq (T_eq a b) ?_
  have key : ∀ c : Bool, c = (a == b) → Gives cSame (a, b) (.bl c) [] := fun c hc => Gives.of rfl rfl hc
  rw [Ends_ite]
  by_cases h : a.length = b.length
  · rw [if_neg (by simp [h])]
    exact loop a b (by simpa [cSame] using hl) h a b 0 rfl rfl (Nat.zero_le _) (key _ rfl)
  · rw [if_pos (by simp; omega), Ends_leaf]
    refine key _ ?_
    have : a ≠ b := fun e => h (by rw [e])
    simp [this]
end T27
abbrev exp (m : Nat) (r : List Int) : List Int := r.flatMap fun s => [s, 2 * (m : Int) + 1 - s]
theorem drop_nil {α : Type} {l : List α} {i : Nat} (h : l.drop i = []) (hi : i ≤ l.length) : i = l.length := by
  have := congrArg List.length h
  simp at this; omega
theorem mem_drop {α : Type} {l r : List α} {x : α} {i : Nat} (h : l.drop i = x :: r) : x ∈ l := by
  have : x ∈ l.drop i := by rw [h]; simp
  exact List.mem_of_mem_drop this
/-- the elements of a bracket in the making -/
def Bd (l : List Int) : Prop := ∀ s ∈ l, 0 ≤ s ∧ s ≤ 2 * l.length
theorem exp_len (m : Nat) (l : List Int) : (exp m l).length = 2 * l.length := by
  induction l with
  | nil => rfl
  | cons a l ih => simp [exp] at ih ⊢; omega
theorem Bd.exp {l : List Int} (h : Bd l) (h1 : 1 ≤ l.length) : Bd (exp l.length l) := by
  intro s hs
  rw [exp_len]
  obtain ⟨a, ha, hs⟩ := List.mem_flatMap.1 hs
  have := h a ha
  simp at hs
  rcases hs with rfl | rfl <;> constructor <;> push_cast <;> omega
namespace T91
set_option maxRecDepth 10000 in
theorem L4_ends {Q : PV → Ob → Prop} (n : Int) (l : List Int) (hl : l.length ≤ 400) (hb : Bd l) : ∀ (r : List Int) (i : Nat) (acc : List Int), l.drop i = r → i ≤ l.length → acc.length ≤ 2 * i → Ends X70 (L1 n (acc ++ exp l.length r).length (acc ++ exp l.length r)) Q →
    Ends X70 (L4 n l.length acc.length l.length ((l.length : Int)) i acc l) Q
  | [], i, acc, h, hi, ha, hq => by
    have := drop_nil h hi
    refine Ends.steq (L4_eq ..) (Ends.ff (by simp; omega) ?_)
    simpa [exp] using hq
  | x :: r, i, acc, h, hi, ha, hq => by
    obtain ⟨h1, h2, h3⟩ := drop_cons (d := 0) h
    have hx := hb x (mem_drop h)
    refine Ends.steq (L4_eq ..) ?_
    refine Ends.tt (by simp <;> omega) (Ends.tt (by simp <;> omega) (Ends.tt (by simp <;> omega) (Ends.tt (by simp <;> omega) ?_)))
    simp only [Int.toNat_natCast, h2]
    rw [wr (2 * (l.length : Int)) (by omega) (by omega), wr (2 * (l.length : Int) + 1) (by omega) (by omega), wr (2 * (l.length : Int) + 1 - x) (by omega) (by omega), wr _ (by omega) (by omega)]
    rw [show Nat.add acc.length 2 = (acc ++ [x, 2 * (l.length : Int) + 1 - x]).length from by simp]
    refine L4_ends n l hl hb r (i + 1) _ h3 h1 (by simp; omega) ?_
    simpa [exp] using hq
theorem L2_ends {Q : PV → Ob → Prop} (n : Int) (l : List Int) (h1 : 1 ≤ l.length) (hl : l.length ≤ 400) (hb : Bd l) (hq : Ends X70 (L1 n (exp l.length l).length (exp l.length l)) Q) : Ends X70 (L2 n l.length l.length ((l.length : Int)) 0 l) Q := by
  cases hc : l with
  | nil => rw [hc] at h1; cases h1
  | cons x r =>
    rw [← hc]
    have hd : l.drop 0 = x :: r := by rw [hc]; rfl
    obtain ⟨g1, g2, g3⟩ := drop_cons (d := 0) hd
    have hx := hb x (mem_drop hd)
    refine Ends.steq (L2_eq ..) ?_
    refine Ends.tt (by simp <;> omega) (Ends.tt (by simp <;> omega) (Ends.tt (by simp <;> omega) (Ends.tt (by simp <;> omega) ?_)))
    simp only [Int.toNat_zero, g2]
    rw [wr (2 * (l.length : Int)) (by omega) (by omega), wr (2 * (l.length : Int) + 1) (by omega) (by omega), wr (2 * (l.length : Int) + 1 - x) (by omega) (by omega), wr _ (by omega) (by omega)]
    refine L4_ends n l hl hb r 1 [x, 2 * (l.length : Int) + 1 - x] g3 g1 (by simp) ?_
    have : [x, 2 * (l.length : Int) + 1 - x] ++ exp l.length r = exp l.length l := by
      rw [show exp l.length l = exp l.length (x :: r) by rw [hc]]
      simp [exp]
    rw [this]; exact hq
theorem L3_ends {Q : PV → Ob → Prop} (n : Int) (m : Nat) (hm : m ≤ 1000) : ∀ (r done : List Int), (done ++ r).length = m → Q (.sl 0 1 0 m none) [(0, .arr false 3 i64 (done ++ Sp.strike n r))] → Ends X70 (L3 n m m (m : Int) done.length (done ++ r)) Q
  | [], done, h, hq => by
    refine Ends.steq (L3_eq ..) (Ends.ff (by simp at h ⊢; omega) ?_)
    simpa [Sp.strike] using hq
  | x :: r, done, h, hq => by
    simp at h
    have hg : (done ++ x :: r).getD done.length 0 = x := by simp
    have hs : (done ++ x :: r).set done.length 0 = done ++ 0 :: r := by simp
    refine Ends.steq (L3_eq ..) ?_
    refine Ends.tt (by simp <;> omega) (Ends.tt (by simp <;> omega) (Ends.tt (by simp <;> omega) ?_))
    simp only [Int.toNat_natCast, hg, hs]
    rw [wr _ (by omega) (by omega), Ends_ite]
    by_cases hx : x > n
    · rw [if_pos (by simpa using hx)]
      refine Ends.tt (by simp <;> omega) (Ends.tt (by simp <;> omega) ?_)
      have := L3_ends (Q := Q) n m hm r (done ++ [0]) (by simp; omega) (by simpa [Sp.strike, hx] using hq)
      simpa using this
    · rw [if_neg (by simpa using hx)]
      have := L3_ends (Q := Q) n m hm r (done ++ [x]) (by simp; omega) (by simpa [Sp.strike, hx] using hq)
      simpa using this
theorem L1_ends {Q : PV → Ob → Prop} (n : Int) (hn : n ≤ 200) : ∀ (f : Nat) (l : List Int), 1 ≤ l.length → l.length ≤ 400 → n ≤ l.length * 2 ^ f → Bd l → (Q (.sl 0 1 0 (Sp.grow f n l).length none) [(0, .arr false 3 i64 (Sp.strike n (Sp.grow f n l)))]) → Ends X70 (L1 n l.length l) Q
  | 0, l, h1, h2, h3, hb, hq => by
    refine Ends.steq (L1_eq ..) (Ends.ff (by simp at h3 ⊢; omega) ?_)
    have := L3_ends (Q := Q) n l.length (by omega) l [] rfl (by simpa [Sp.grow] using hq)
    simpa using this
  | f + 1, l, h1, h2, h3, hb, hq => by
    refine Ends.steq (L1_eq ..) ?_
    rw [Ends_ite]
    by_cases hc : (l.length : Int) < n
    · rw [if_pos (by simpa using hc)]
      refine L2_ends n l h1 h2 hb (L1_ends n hn f _ (by rw [exp_len]; omega) (by rw [exp_len]; omega) ?_ (hb.exp h1) ?_)
      · rw [exp_len]; rw [Int.pow_succ] at h3; push_cast; rw [Int.mul_comm 2 (l.length : Int), Int.mul_assoc, Int.mul_comm 2]; exact h3
      · simpa [Sp.grow, hc, Sp.expand] using hq
    · rw [if_neg (by simpa using hc)]
      have := L3_ends (Q := Q) n l.length (by omega) l [] rfl (by simpa [Sp.grow, hc] using hq)
      simpa using this
theorem ok : SpecOk C7p 91 cbracket := by
  refine spec7 (X := X70) rfl hall70 (d := 9) (by kernel_rfl) (by kernel_rfl) rfl (fun (n : Int) hn => ?_) (isSome_ex (by kernel_rfl))
  have hn : 1 ≤ n ∧ n ≤ 200 := by simpa [cbracket] using hn
  refine Ends.eq (T_eq n) ?_
  refine L1_ends n hn.2 8 [1] (by simp) (by simp) (by simp; omega) (by intro s hs; simp at hs; subst hs; simp) ?_
  have hlen : (Sp.grow 8 n [1]).length = (Sp.strike n (Sp.grow 8 n [1])).length := by simp [Sp.strike]
  rw [hlen]
  exact Gives.of rfl (by rw [coers_list]; simp) (by simp [cbracket, Sp.bracket])
end T91
end Go.Pe
end
