import Derived.Test.YtnbinppdjnlhpaaGreatDoorX22
import Derived.Test.YtnbinppdjnlhpaaGreatDoorX24
/- A part of the proofs of the laws of one chapter (no law is stated here). Made by program out of texts by AI agents. -/
section
namespace Go.Pe
open Go.Det
namespace T187
noncomputable def T (r : Int × Int × Int) (l : List Int) : Tr := tree XC2 false 9 187 (valsOf ([Sh.pair (Sh.int IntKind.i64) (Sh.pair (Sh.int IntKind.i64) (Sh.int IntKind.i64)), Sh.list (Sh.int IntKind.i64)]) (r, l))
/-- function 156, region 1 -/
noncomputable def L1 (r : Int × Int × Int) (l : List Int) (v5 : List Int) (v6 : Int) (v7 : Int) (o1 : List Int) (o0 : Int) (o0_1 : Int) (o0_2 : Int) : Tr := re ((T r l)) (mkSt (16) [(0, PV.yl (3 : Nat)), (5, PV.dat (Sh.list (Sh.int IntKind.i64)) v5), (6, PV.dat (Sh.int IntKind.i64) v6), (7, PV.dat (Sh.int IntKind.i64) v7)] [(3, Obj.lp (197) (3) (rfPs (PCtx.C XC2) (197) (3)) (rfAsg (PCtx.C XC2) (197) (3)) (rfBody (PCtx.C XC2) (197) (3)) LpS.ready (13) [(2, PV.ptr (Nat.add (Nat.add (0 : Nat) (1 : Nat)) (1 : Nat)) (0 : Nat))]), (2, Obj.box [PV.nil]), (1, Obj.box [PV.dat (Sh.list (Sh.int IntKind.i64)) o1]), (0, Obj.box [PV.dat (Sh.int IntKind.i64) o0, PV.dat (Sh.int IntKind.i64) o0_1, PV.dat (Sh.int IntKind.i64) o0_2])] (4))
theorem T_eq (r : Int × Int × Int) (l : List Int) : T r l = L1 r l l ((↑(List.length l) : Int)) ((0 : Int)) l (Prod.fst r) (Prod.fst (Prod.snd r)) (Prod.snd (Prod.snd r)) := by kernel_rfl
/-- function 156, region 1 -/
noncomputable def L2 (r : Int × Int × Int) (l : List Int) (v5 : List Int) (v6 : Int) (v7 : Int) (o4 : List Int) (o2n : Nat) (o1 : List Int) (o0 : Int) (o0_1 : Int) (o0_2 : Int) : Tr := re ((stepT XC2 (L1 r l [] (0 : Int) (0 : Int) [] (0 : Int) (0 : Int) (0 : Int))).L.L.L) (mkSt (16) [(0, PV.yl (3 : Nat)), (5, PV.dat (Sh.list (Sh.int IntKind.i64)) v5), (6, PV.dat (Sh.int IntKind.i64) v6), (7, PV.dat (Sh.int IntKind.i64) v7)] [(4, Obj.arr false (3) (Sh.int IntKind.i64) o4), (3, Obj.lp (197) (3) (rfPs (PCtx.C XC2) (197) (3)) (rfAsg (PCtx.C XC2) (197) (3)) (rfBody (PCtx.C XC2) (197) (3)) LpS.ready (13) [(2, PV.ptr (2 : Nat) (0 : Nat))]), (2, Obj.box [PV.sl (4) (1) (0) o2n none]), (1, Obj.box [PV.dat (Sh.list (Sh.int IntKind.i64)) o1]), (0, Obj.box [PV.dat (Sh.int IntKind.i64) o0, PV.dat (Sh.int IntKind.i64) o0_1, PV.dat (Sh.int IntKind.i64) o0_2])] (5))
/-- function 198, region 2 -/
noncomputable def L3 (r : Int × Int × Int) (l : List Int) (v5 : List Int) (v6 : Int) (v7 : Int) (o1 : List Int) (o0 : Int) (o0_1 : Int) (o0_2 : Int) (v1 : Int) (v2 : Int) (v3 : Int) (o1' : List Int) (o0' : Int) (o0_1' : Int) (o0_2' : Int) : Tr := re ((stepT XC2 (L1 r l v5 v6 v7 o1 o0 o0_1 o0_2)).R.L) (mkSt (134) [(0, PV.nil), (1, PV.dat (Sh.int IntKind.i64) v1), (2, PV.dat (Sh.int IntKind.i64) v2), (3, PV.dat (Sh.int IntKind.i64) v3), (8, PV.bl true), (9, PV.bl true)] [(2, Obj.box [PV.nil]), (1, Obj.box [PV.dat (Sh.list (Sh.int IntKind.i64)) o1']), (0, Obj.box [PV.dat (Sh.int IntKind.i64) o0', PV.dat (Sh.int IntKind.i64) o0_1', PV.dat (Sh.int IntKind.i64) o0_2'])] (4))
theorem L1_eq (r : Int × Int × Int) (l : List Int) (v5 : List Int) (v6 : Int) (v7 : Int) (o1 : List Int) (o0 : Int) (o0_1 : Int) (o0_2 : Int) : stepT XC2 (L1 r l v5 v6 v7 o1 o0 o0_1 o0_2) = .ite (decide (v7 < v6))
 (.ite (decide ((0 : Int) ≤ v7) && decide (v7 < (↑(List.length v5) : Int)))
  (.ite (decide ((1 : Nat) ≤ (1 : Nat)) && decide ((0 : Nat) < (1 : Nat)) && decide (((2 : Nat) * (1 : Nat) + (1000 : Nat)) * (8 : Nat) ≤ (281474976710656 : Nat)))
   (L2 r l v5 v6 (IntKind.wrap IntKind.i64 (v7 + (1 : Int))) ([List.getD v5 (Int.toNat v7) (0 : Int)]) ((1 : Nat)) o1 o0 o0_1 o0_2)
   (.fail))
  (.fail))
 (.ite (true)
  (L3 r l v5 v6 v7 o1 o0 o0_1 o0_2 ((0 : Int)) ((0 : Int)) (Sp.len5 (IntKind.wrap IntKind.u64 (0 : Int))) o1 o0 o0_1 o0_2)
  (.fail)) := by kernel_rfl
/-- function 198, region 2 -/
noncomputable def L4 (r : Int × Int × Int) (l : List Int) (v5 : List Int) (v6 : Int) (v7 : Int) (o4 : List Int) (o2n : Nat) (o1 : List Int) (o0 : Int) (o0_1 : Int) (o0_2 : Int) (v0n : Nat) (v1 : Int) (v2 : Int) (v3 : Int) (o4' : List Int) (o2n' : Nat) (o1' : List Int) (o0' : Int) (o0_1' : Int) (o0_2' : Int) : Tr := re ((stepT XC2 (L2 r l v5 v6 v7 o4 o2n o1 o0 o0_1 o0_2)).R.L) (mkSt (134) [(0, PV.sl (4) (1) (0) v0n none), (1, PV.dat (Sh.int IntKind.i64) v1), (2, PV.dat (Sh.int IntKind.i64) v2), (3, PV.dat (Sh.int IntKind.i64) v3), (8, PV.bl true), (9, PV.bl true)] [(4, Obj.arr false (3) (Sh.int IntKind.i64) o4'), (2, Obj.box [PV.sl (4) (1) (0) o2n' none]), (1, Obj.box [PV.dat (Sh.list (Sh.int IntKind.i64)) o1']), (0, Obj.box [PV.dat (Sh.int IntKind.i64) o0', PV.dat (Sh.int IntKind.i64) o0_1', PV.dat (Sh.int IntKind.i64) o0_2'])] (5))
theorem L2_eq (r : Int × Int × Int) (l : List Int) (v5 : List Int) (v6 : Int) (v7 : Int) (o4 : List Int) (o2n : Nat) (o1 : List Int) (o0 : Int) (o0_1 : Int) (o0_2 : Int) : stepT XC2 (L2 r l v5 v6 v7 o4 o2n o1 o0 o0_1 o0_2) = .ite (decide (v7 < v6))
 (.ite (decide ((0 : Int) ≤ v7) && decide (v7 < (↑(List.length v5) : Int)))
  (.ite (decide ((1 : Nat) ≤ (1 : Nat)) && true && decide (o2n = List.length o4) && decide (((2 : Nat) * (o2n + (1 : Nat)) + (1000 : Nat)) * (8 : Nat) ≤ (281474976710656 : Nat)))
   (L2 r l v5 v6 (IntKind.wrap IntKind.i64 (v7 + (1 : Int))) (o4 ++ [List.getD v5 (Int.toNat v7) (0 : Int)]) (Nat.add o2n (1 : Nat)) o1 o0 o0_1 o0_2)
   (.fail))
  (.fail))
 (.ite (decide ((0 : Sh.T (prodS [Sh.int IntKind.u64])) ≤ IntKind.wrap IntKind.u64 (↑o2n : Int)) && decide (IntKind.wrap IntKind.u64 (↑o2n : Int) ≤ (20 : Sh.T (prodS [Sh.int IntKind.u64]))))
  (L4 r l v5 v6 v7 o4 o2n o1 o0 o0_1 o0_2 o2n ((0 : Int)) ((↑o2n : Int)) (Sp.len5 (IntKind.wrap IntKind.u64 (↑o2n : Int))) o4 o2n o1 o0 o0_1 o0_2)
  (.fail)) := by kernel_rfl
/-- function 253, region 1 -/
noncomputable def L5 (r : Int × Int × Int) (l : List Int) (v5 : List Int) (v6 : Int) (v7 : Int) (o1 : List Int) (o0 : Int) (o0_1 : Int) (o0_2 : Int) (v1 : Int) (v2 : Int) (v3 : Int) (o1' : List Int) (o0' : Int) (o0_1' : Int) (o0_2' : Int) (v1' : Int) (v2' : Int) (v6' : Int) (o1'' : List Int) (o0'' : Int) (o0_1'' : Int) (o0_2'' : Int) : Tr := re ((stepT XC2 (L3 r l v5 v6 v7 o1 o0 o0_1 o0_2 v1 v2 v3 o1' o0' o0_1' o0_2')).L) (mkSt (49) [(0, PV.nil), (1, PV.dat (Sh.int IntKind.i64) v1'), (2, PV.dat (Sh.int IntKind.i64) v2'), (6, PV.dat (Sh.int IntKind.i64) v6')] [(2, Obj.box [PV.nil]), (1, Obj.box [PV.dat (Sh.list (Sh.int IntKind.i64)) o1'']), (0, Obj.box [PV.dat (Sh.int IntKind.i64) o0'', PV.dat (Sh.int IntKind.i64) o0_1'', PV.dat (Sh.int IntKind.i64) o0_2''])] (4))
theorem L3_eq (r : Int × Int × Int) (l : List Int) (v5 : List Int) (v6 : Int) (v7 : Int) (o1 : List Int) (o0 : Int) (o0_1 : Int) (o0_2 : Int) (v1 : Int) (v2 : Int) (v3 : Int) (o1' : List Int) (o0' : Int) (o0_1' : Int) (o0_2' : Int) : stepT XC2 (L3 r l v5 v6 v7 o1 o0 o0_1 o0_2 v1 v2 v3 o1' o0' o0_1' o0_2') = .ite (decide (IntKind.wrap IntKind.i64 (v2 - v1) ≤ (12 : Int)))
 (L5 r l v5 v6 v7 o1 o0 o0_1 o0_2 v1 v2 v3 o1' o0' o0_1' o0_2' v1 v2 (IntKind.wrap IntKind.i64 (v1 + (1 : Int))) o1' o0' o0_1' o0_2')
 (.ite (v3 == (0 : Int))
  (.fail)
  (.fail)) := by kernel_rfl
/-- function 253, region 1 -/
noncomputable def L6 (r : Int × Int × Int) (l : List Int) (v5 : List Int) (v6 : Int) (v7 : Int) (o4 : List Int) (o2n : Nat) (o1 : List Int) (o0 : Int) (o0_1 : Int) (o0_2 : Int) (v0n : Nat) (v1 : Int) (v2 : Int) (v3 : Int) (o4' : List Int) (o2n' : Nat) (o1' : List Int) (o0' : Int) (o0_1' : Int) (o0_2' : Int) (v0n' : Nat) (v1' : Int) (v2' : Int) (v6' : Int) (o4'' : List Int) (o2n'' : Nat) (o1'' : List Int) (o0'' : Int) (o0_1'' : Int) (o0_2'' : Int) : Tr := re ((stepT XC2 (L4 r l v5 v6 v7 o4 o2n o1 o0 o0_1 o0_2 v0n v1 v2 v3 o4' o2n' o1' o0' o0_1' o0_2')).L) (mkSt (49) [(0, PV.sl (4) (1) (0) v0n' none), (1, PV.dat (Sh.int IntKind.i64) v1'), (2, PV.dat (Sh.int IntKind.i64) v2'), (6, PV.dat (Sh.int IntKind.i64) v6')] [(4, Obj.arr false (3) (Sh.int IntKind.i64) o4''), (2, Obj.box [PV.sl (4) (1) (0) o2n'' none]), (1, Obj.box [PV.dat (Sh.list (Sh.int IntKind.i64)) o1'']), (0, Obj.box [PV.dat (Sh.int IntKind.i64) o0'', PV.dat (Sh.int IntKind.i64) o0_1'', PV.dat (Sh.int IntKind.i64) o0_2''])] (5))
theorem L4_eq (r : Int × Int × Int) (l : List Int) (v5 : List Int) (v6 : Int) (v7 : Int) (o4 : List Int) (o2n : Nat) (o1 : List Int) (o0 : Int) (o0_1 : Int) (o0_2 : Int) (v0n : Nat) (v1 : Int) (v2 : Int) (v3 : Int) (o4' : List Int) (o2n' : Nat) (o1' : List Int) (o0' : Int) (o0_1' : Int) (o0_2' : Int) : stepT XC2 (L4 r l v5 v6 v7 o4 o2n o1 o0 o0_1 o0_2 v0n v1 v2 v3 o4' o2n' o1' o0' o0_1' o0_2') = .ite (decide (IntKind.wrap IntKind.i64 (v2 - v1) ≤ (12 : Int)))
 (L6 r l v5 v6 v7 o4 o2n o1 o0 o0_1 o0_2 v0n v1 v2 v3 o4' o2n' o1' o0' o0_1' o0_2' v0n v1 v2 (IntKind.wrap IntKind.i64 (v1 + (1 : Int))) o4' o2n' o1' o0' o0_1' o0_2')
 (.ite (v3 == (0 : Int))
  (.fail)
  (.fail)) := by kernel_rfl
/-- function 253, region 4 -/
noncomputable def L7 (r : Int × Int × Int) (l : List Int) (v5 : List Int) (v6 : Int) (v7 : Int) (o1 : List Int) (o0 : Int) (o0_1 : Int) (o0_2 : Int) (v1 : Int) (v2 : Int) (v3 : Int) (o1' : List Int) (o0' : Int) (o0_1' : Int) (o0_2' : Int) (v1' : Int) (v2' : Int) (v6' : Int) (v7' : Int) (o1'' : List Int) (o0'' : Int) (o0_1'' : Int) (o0_2'' : Int) : Tr := re ((stepT XC2 (L5 r l v5 v6 v7 o1 o0 o0_1 o0_2 v1 v2 v3 o1' o0' o0_1' o0_2' (0 : Int) (0 : Int) (0 : Int) [] (0 : Int) (0 : Int) (0 : Int))).L) (mkSt (49) [(0, PV.nil), (1, PV.dat (Sh.int IntKind.i64) v1'), (2, PV.dat (Sh.int IntKind.i64) v2'), (6, PV.dat (Sh.int IntKind.i64) v6'), (7, PV.dat (Sh.int IntKind.i64) v7')] [(2, Obj.box [PV.nil]), (1, Obj.box [PV.dat (Sh.list (Sh.int IntKind.i64)) o1'']), (0, Obj.box [PV.dat (Sh.int IntKind.i64) o0'', PV.dat (Sh.int IntKind.i64) o0_1'', PV.dat (Sh.int IntKind.i64) o0_2''])] (4))
theorem L5_eq (r : Int × Int × Int) (l : List Int) (v5 : List Int) (v6 : Int) (v7 : Int) (o1 : List Int) (o0 : Int) (o0_1 : Int) (o0_2 : Int) (v1 : Int) (v2 : Int) (v3 : Int) (o1' : List Int) (o0' : Int) (o0_1' : Int) (o0_2' : Int) (v1' : Int) (v2' : Int) (v6' : Int) (o1'' : List Int) (o0'' : Int) (o0_1'' : Int) (o0_2'' : Int) : stepT XC2 (L5 r l v5 v6 v7 o1 o0 o0_1 o0_2 v1 v2 v3 o1' o0' o0_1' o0_2' v1' v2' v6' o1'' o0'' o0_1'' o0_2'') = .ite (decide (v6' < v2'))
 (L7 r l v5 v6 v7 o1 o0 o0_1 o0_2 v1 v2 v3 o1' o0' o0_1' o0_2' v1' v2' v6' v6' o1'' o0'' o0_1'' o0_2'')
 (.fail) := by kernel_rfl
/-- function 253, region 4 -/
noncomputable def L8 (r : Int × Int × Int) (l : List Int) (v5 : List Int) (v6 : Int) (v7 : Int) (o4 : List Int) (o2n : Nat) (o1 : List Int) (o0 : Int) (o0_1 : Int) (o0_2 : Int) (v0n : Nat) (v1 : Int) (v2 : Int) (v3 : Int) (o4' : List Int) (o2n' : Nat) (o1' : List Int) (o0' : Int) (o0_1' : Int) (o0_2' : Int) (v0n' : Nat) (v1' : Int) (v2' : Int) (v6' : Int) (v7' : Int) (o4'' : List Int) (o2n'' : Nat) (o1'' : List Int) (o0'' : Int) (o0_1'' : Int) (o0_2'' : Int) : Tr := re ((stepT XC2 (L6 r l v5 v6 v7 o4 o2n o1 o0 o0_1 o0_2 v0n v1 v2 v3 o4' o2n' o1' o0' o0_1' o0_2' 0 (0 : Int) (0 : Int) (0 : Int) [] 0 [] (0 : Int) (0 : Int) (0 : Int))).L) (mkSt (49) [(0, PV.sl (4) (1) (0) v0n' none), (1, PV.dat (Sh.int IntKind.i64) v1'), (2, PV.dat (Sh.int IntKind.i64) v2'), (6, PV.dat (Sh.int IntKind.i64) v6'), (7, PV.dat (Sh.int IntKind.i64) v7')] [(4, Obj.arr false (3) (Sh.int IntKind.i64) o4''), (2, Obj.box [PV.sl (4) (1) (0) o2n'' none]), (1, Obj.box [PV.dat (Sh.list (Sh.int IntKind.i64)) o1'']), (0, Obj.box [PV.dat (Sh.int IntKind.i64) o0'', PV.dat (Sh.int IntKind.i64) o0_1'', PV.dat (Sh.int IntKind.i64) o0_2''])] (5))
theorem L6_eq (r : Int × Int × Int) (l : List Int) (v5 : List Int) (v6 : Int) (v7 : Int) (o4 : List Int) (o2n : Nat) (o1 : List Int) (o0 : Int) (o0_1 : Int) (o0_2 : Int) (v0n : Nat) (v1 : Int) (v2 : Int) (v3 : Int) (o4' : List Int) (o2n' : Nat) (o1' : List Int) (o0' : Int) (o0_1' : Int) (o0_2' : Int) (v0n' : Nat) (v1' : Int) (v2' : Int) (v6' : Int) (o4'' : List Int) (o2n'' : Nat) (o1'' : List Int) (o0'' : Int) (o0_1'' : Int) (o0_2'' : Int) : stepT XC2 (L6 r l v5 v6 v7 o4 o2n o1 o0 o0_1 o0_2 v0n v1 v2 v3 o4' o2n' o1' o0' o0_1' o0_2' v0n' v1' v2' v6' o4'' o2n'' o1'' o0'' o0_1'' o0_2'') = .ite (decide (v6' < v2'))
 (L8 r l v5 v6 v7 o4 o2n o1 o0 o0_1 o0_2 v0n v1 v2 v3 o4' o2n' o1' o0' o0_1' o0_2' v0n' v1' v2' v6' v6' o4'' o2n'' o1'' o0'' o0_1'' o0_2'')
 (.ite (decide ((0 : Int) ≤ IntKind.wrap IntKind.i64 (imin o0_1'' (↑o2n : Int) - (1 : Int))) && decide (IntKind.wrap IntKind.i64 (imin o0_1'' (↑o2n : Int) - (1 : Int)) < (↑o2n : Int)))
  (.ite (decide (Int.toNat (IntKind.wrap IntKind.i64 (imin o0_1'' (↑o2n : Int) - (1 : Int))) < List.length o4''))
   (.ite (decide (o0_2'' ≥ (0 : Int)))
    (.ite (decide ((0 : Int) < (↑o2n : Int)))
     (.ite (decide ((0 : Nat) < List.length o4''))
      (.leaf (PV.dat (Sh.int IntKind.i64) (imax (List.getD o4'' (Int.toNat (IntKind.wrap IntKind.i64 (imin o0_1'' (↑o2n : Int) - (1 : Int)))) (0 : Int)) (IntKind.wrap IntKind.i64 (List.getD o4'' (0 : Nat) (0 : Int) + o0_2'')))) ([(4, Obj.arr false (3) (Sh.int IntKind.i64) o4''), (2, Obj.box [PV.sl (4) (1) (0) o2n'' none]), (1, Obj.box [PV.dat (Sh.list (Sh.int IntKind.i64)) o1'']), (0, Obj.box [PV.dat (Sh.int IntKind.i64) o0'', PV.dat (Sh.int IntKind.i64) o0_1'', PV.dat (Sh.int IntKind.i64) o0_2''])]))
      (.fail))
     (.fail))
    (.leaf (PV.dat (Sh.int IntKind.i64) (List.getD o4'' (Int.toNat (IntKind.wrap IntKind.i64 (imin o0_1'' (↑o2n : Int) - (1 : Int)))) (0 : Int))) ([(4, Obj.arr false (3) (Sh.int IntKind.i64) o4''), (2, Obj.box [PV.sl (4) (1) (0) o2n'' none]), (1, Obj.box [PV.dat (Sh.list (Sh.int IntKind.i64)) o1'']), (0, Obj.box [PV.dat (Sh.int IntKind.i64) o0'', PV.dat (Sh.int IntKind.i64) o0_1'', PV.dat (Sh.int IntKind.i64) o0_2''])])))
   (.fail))
  (.fail)) := by kernel_rfl
theorem L7_eq (r : Int × Int × Int) (l : List Int) (v5 : List Int) (v6 : Int) (v7 : Int) (o1 : List Int) (o0 : Int) (o0_1 : Int) (o0_2 : Int) (v1 : Int) (v2 : Int) (v3 : Int) (o1' : List Int) (o0' : Int) (o0_1' : Int) (o0_2' : Int) (v1' : Int) (v2' : Int) (v6' : Int) (v7' : Int) (o1'' : List Int) (o0'' : Int) (o0_1'' : Int) (o0_2'' : Int) : stepT XC2 (L7 r l v5 v6 v7 o1 o0 o0_1 o0_2 v1 v2 v3 o1' o0' o0_1' o0_2' v1' v2' v6' v7' o1'' o0'' o0_1'' o0_2'') = .ite (decide (v7' > v1'))
 (.fail)
 (L5 r l v5 v6 v7 o1 o0 o0_1 o0_2 v1 v2 v3 o1' o0' o0_1' o0_2' v1' v2' (IntKind.wrap IntKind.i64 (v6' + (1 : Int))) o1'' o0'' o0_1'' o0_2'') := by kernel_rfl
theorem L8_eq (r : Int × Int × Int) (l : List Int) (v5 : List Int) (v6 : Int) (v7 : Int) (o4 : List Int) (o2n : Nat) (o1 : List Int) (o0 : Int) (o0_1 : Int) (o0_2 : Int) (v0n : Nat) (v1 : Int) (v2 : Int) (v3 : Int) (o4' : List Int) (o2n' : Nat) (o1' : List Int) (o0' : Int) (o0_1' : Int) (o0_2' : Int) (v0n' : Nat) (v1' : Int) (v2' : Int) (v6' : Int) (v7' : Int) (o4'' : List Int) (o2n'' : Nat) (o1'' : List Int) (o0'' : Int) (o0_1'' : Int) (o0_2'' : Int) : stepT XC2 (L8 r l v5 v6 v7 o4 o2n o1 o0 o0_1 o0_2 v0n v1 v2 v3 o4' o2n' o1' o0' o0_1' o0_2' v0n' v1' v2' v6' v7' o4'' o2n'' o1'' o0'' o0_1'' o0_2'') = .ite (decide (v7' > v1'))
 (.ite (decide ((0 : Int) ≤ v7') && decide (v7' < (↑v0n' : Int)))
  (.ite (decide (Int.toNat v7' < List.length o4''))
   (.ite (decide ((0 : Int) ≤ IntKind.wrap IntKind.i64 (v7' - (1 : Int))) && decide (IntKind.wrap IntKind.i64 (v7' - (1 : Int)) < (↑v0n' : Int)))
    (.ite (decide (Int.toNat (IntKind.wrap IntKind.i64 (v7' - (1 : Int))) < List.length o4''))
     (.ite (List.getD o4'' (Int.toNat v7') (0 : Int) != List.getD o4'' (Int.toNat v7') (0 : Int))
      (.ite (!List.getD o4'' (Int.toNat (IntKind.wrap IntKind.i64 (v7' - (1 : Int)))) (0 : Int) != List.getD o4'' (Int.toNat (IntKind.wrap IntKind.i64 (v7' - (1 : Int)))) (0 : Int))
       (.ite (decide ((0 : Int) ≤ IntKind.wrap IntKind.i64 (v7' - (1 : Int))) && decide (IntKind.wrap IntKind.i64 (v7' - (1 : Int)) < (↑v0n' : Int)))
        (.ite (decide (Int.toNat (IntKind.wrap IntKind.i64 (v7' - (1 : Int))) < List.length o4''))
         (.ite (decide ((0 : Int) ≤ v7') && decide (v7' < (↑v0n' : Int)))
          (.ite (decide (Int.toNat v7' < List.length o4''))
           (.ite (decide ((0 : Int) ≤ v7') && decide (v7' < (↑v0n' : Int)))
            (.ite (decide (Int.toNat v7' < List.length o4''))
             (.ite (decide ((0 : Int) ≤ IntKind.wrap IntKind.i64 (v7' - (1 : Int))) && decide (IntKind.wrap IntKind.i64 (v7' - (1 : Int)) < (↑v0n' : Int)))
              (.ite (decide (Int.toNat (IntKind.wrap IntKind.i64 (v7' - (1 : Int))) < List.length (List.set o4'' (Int.toNat v7') (List.getD o4'' (Int.toNat (IntKind.wrap IntKind.i64 (v7' - (1 : Int)))) (0 : Int)))))
               (L8 r l v5 v6 v7 o4 o2n o1 o0 o0_1 o0_2 v0n v1 v2 v3 o4' o2n' o1' o0' o0_1' o0_2' v0n' v1' v2' v6' (IntKind.wrap IntKind.i64 (v7' - (1 : Int))) (List.set (List.set o4'' (Int.toNat v7') (List.getD o4'' (Int.toNat (IntKind.wrap IntKind.i64 (v7' - (1 : Int)))) (0 : Int))) (Int.toNat (IntKind.wrap IntKind.i64 (v7' - (1 : Int)))) (List.getD o4'' (Int.toNat v7') (0 : Int))) o2n'' o1'' o0'' o0_1'' o0_2'')
               (.fail))
              (.fail))
             (.fail))
            (.fail))
           (.fail))
          (.fail))
         (.fail))
        (.fail))
       (.ite (decide (List.getD o4'' (Int.toNat v7') (0 : Int) < List.getD o4'' (Int.toNat (IntKind.wrap IntKind.i64 (v7' - (1 : Int)))) (0 : Int)))
        (.ite (decide ((0 : Int) ≤ IntKind.wrap IntKind.i64 (v7' - (1 : Int))) && decide (IntKind.wrap IntKind.i64 (v7' - (1 : Int)) < (↑v0n' : Int)))
         (.ite (decide (Int.toNat (IntKind.wrap IntKind.i64 (v7' - (1 : Int))) < List.length o4''))
          (.ite (decide ((0 : Int) ≤ v7') && decide (v7' < (↑v0n' : Int)))
           (.ite (decide (Int.toNat v7' < List.length o4''))
            (.ite (decide ((0 : Int) ≤ v7') && decide (v7' < (↑v0n' : Int)))
             (.ite (decide (Int.toNat v7' < List.length o4''))
              (.ite (decide ((0 : Int) ≤ IntKind.wrap IntKind.i64 (v7' - (1 : Int))) && decide (IntKind.wrap IntKind.i64 (v7' - (1 : Int)) < (↑v0n' : Int)))
               (.ite (decide (Int.toNat (IntKind.wrap IntKind.i64 (v7' - (1 : Int))) < List.length (List.set o4'' (Int.toNat v7') (List.getD o4'' (Int.toNat (IntKind.wrap IntKind.i64 (v7' - (1 : Int)))) (0 : Int)))))
                (L8 r l v5 v6 v7 o4 o2n o1 o0 o0_1 o0_2 v0n v1 v2 v3 o4' o2n' o1' o0' o0_1' o0_2' v0n' v1' v2' v6' (IntKind.wrap IntKind.i64 (v7' - (1 : Int))) (List.set (List.set o4'' (Int.toNat v7') (List.getD o4'' (Int.toNat (IntKind.wrap IntKind.i64 (v7' - (1 : Int)))) (0 : Int))) (Int.toNat (IntKind.wrap IntKind.i64 (v7' - (1 : Int)))) (List.getD o4'' (Int.toNat v7') (0 : Int))) o2n'' o1'' o0'' o0_1'' o0_2'')
                (.fail))
               (.fail))
              (.fail))
             (.fail))
            (.fail))
           (.fail))
          (.fail))
         (.fail))
        (L6 r l v5 v6 v7 o4 o2n o1 o0 o0_1 o0_2 v0n v1 v2 v3 o4' o2n' o1' o0' o0_1' o0_2' v0n' v1' v2' (IntKind.wrap IntKind.i64 (v6' + (1 : Int))) o4'' o2n'' o1'' o0'' o0_1'' o0_2'')))
      (.ite (decide (List.getD o4'' (Int.toNat v7') (0 : Int) < List.getD o4'' (Int.toNat (IntKind.wrap IntKind.i64 (v7' - (1 : Int)))) (0 : Int)))
       (.ite (decide ((0 : Int) ≤ IntKind.wrap IntKind.i64 (v7' - (1 : Int))) && decide (IntKind.wrap IntKind.i64 (v7' - (1 : Int)) < (↑v0n' : Int)))
        (.ite (decide (Int.toNat (IntKind.wrap IntKind.i64 (v7' - (1 : Int))) < List.length o4''))
         (.ite (decide ((0 : Int) ≤ v7') && decide (v7' < (↑v0n' : Int)))
          (.ite (decide (Int.toNat v7' < List.length o4''))
           (.ite (decide ((0 : Int) ≤ v7') && decide (v7' < (↑v0n' : Int)))
            (.ite (decide (Int.toNat v7' < List.length o4''))
             (.ite (decide ((0 : Int) ≤ IntKind.wrap IntKind.i64 (v7' - (1 : Int))) && decide (IntKind.wrap IntKind.i64 (v7' - (1 : Int)) < (↑v0n' : Int)))
              (.ite (decide (Int.toNat (IntKind.wrap IntKind.i64 (v7' - (1 : Int))) < List.length (List.set o4'' (Int.toNat v7') (List.getD o4'' (Int.toNat (IntKind.wrap IntKind.i64 (v7' - (1 : Int)))) (0 : Int)))))
               (L8 r l v5 v6 v7 o4 o2n o1 o0 o0_1 o0_2 v0n v1 v2 v3 o4' o2n' o1' o0' o0_1' o0_2' v0n' v1' v2' v6' (IntKind.wrap IntKind.i64 (v7' - (1 : Int))) (List.set (List.set o4'' (Int.toNat v7') (List.getD o4'' (Int.toNat (IntKind.wrap IntKind.i64 (v7' - (1 : Int)))) (0 : Int))) (Int.toNat (IntKind.wrap IntKind.i64 (v7' - (1 : Int)))) (List.getD o4'' (Int.toNat v7') (0 : Int))) o2n'' o1'' o0'' o0_1'' o0_2'')
               (.fail))
              (.fail))
             (.fail))
            (.fail))
           (.fail))
          (.fail))
         (.fail))
        (.fail))
       (L6 r l v5 v6 v7 o4 o2n o1 o0 o0_1 o0_2 v0n v1 v2 v3 o4' o2n' o1' o0' o0_1' o0_2' v0n' v1' v2' (IntKind.wrap IntKind.i64 (v6' + (1 : Int))) o4'' o2n'' o1'' o0'' o0_1'' o0_2'')))
     (.fail))
    (.fail))
   (.fail))
  (.fail))
 (L6 r l v5 v6 v7 o4 o2n o1 o0 o0_1 o0_2 v0n v1 v2 v3 o4' o2n' o1' o0' o0_1' o0_2' v0n' v1' v2' (IntKind.wrap IntKind.i64 (v6' + (1 : Int))) o4'' o2n'' o1'' o0'' o0_1'' o0_2'') := by kernel_rfl
end T187
end Go.Pe
end
section
namespace Go.Pe
open Go.Det
namespace T192
theorem tab : ∀ m : Fin 21, IntKind.wrap IntKind.i64 ((0 : Int) + IntKind.wrap IntKind.i64 (↑(UInt8.toNat (List.getD [(0 : UInt8), 1, 2, 2, 3, 3, 3, 3, 4, 4, 4, 4, 4, 4, 4, 4, 5, 5, 5, 5, 5] (m.val) (0 : UInt8))) : Int)) = Sp.len5 (m.val : Int) := by decide +kernel
theorem ok : SpecOk C7p 192 cLen5 := by
  refine spec7 (X := XC1) rfl hallXC1 (d := 9) (by kernel_rfl) (by kernel_rfl) (by kernel_rfl) (fun (n : Int) hn => ?_) (isSome_ex (by kernel_rfl))
  have hn : (decide (0 ≤ n) && decide (n ≤ 20)) = true := hn
  rw [Bool.and_eq_true, decide_eq_true_eq, decide_eq_true_eq] at hn
  have hm : ∃ m : Fin 21, n = (m.val : Int) := ⟨⟨n.toNat, by omega⟩, by show n = (n.toNat : Int); omega⟩
  obtain ⟨m, rfl⟩ := hm
  have e8 : IntKind.wrap IntKind.u8 (m.val : Int) = (m.val : Int) := by
    have : ∀ m : Fin 21, IntKind.wrap IntKind.u8 (m.val : Int) = (m.val : Int) := by decide +kernel
    exact this m
  refine Ends.eq (T_eq (m.val : Int)) (Ends.ff (decide_eq_false (by omega)) (Ends.ff (decide_eq_false (by omega)) (Ends.ff (decide_eq_false (by omega)) ?_)))
  rw [e8]
  refine Ends.tt (by simp; omega) (Ends.leaf (Gives.of rfl rfl ?_))
  rw [Int.toNat_natCast]
  have := tab m
  show _ = Sp.len5 (m.val : Int)
  rw [← this]
  congr 5
  revert m
  decide +kernel
end T192
theorem hallXC2 : ∀ g sp, XC2.sp g = some sp → SpecOk C7p g sp :=
  sp_cons T192.ok (sp_cons (never_ok (by kernel_rfl) (isSome_ex (by kernel_rfl))) (sp_cons (never_ok (by kernel_rfl) (isSome_ex (by kernel_rfl))) (sp_cons (never_ok (by kernel_rfl) (isSome_ex (by kernel_rfl))) (sp_cons (never_ok (by kernel_rfl) (isSome_ex (by kernel_rfl))) (sp_cons (never_ok (by kernel_rfl) (isSome_ex (by kernel_rfl))) (sp_cons (never_ok (by kernel_rfl) (isSome_ex (by kernel_rfl))) (sp_cons (never_ok (by kernel_rfl) (isSome_ex (by kernel_rfl))) (fun g sp h => by cases h))))))))
theorem insI_len (x : Int) (l : List Int) : (Sp.insI x l).length = l.length + 1 := (Sp.insI_perm x l).length_eq
namespace T187
variable {Q : PV → Ob → Prop}
section
variable (r : RuleT) (l v5 : List Int) (v6 v7 : Int) (o4 : List Int) (o2n : Nat) (o1 : List Int) (o0 o0_1 o0_2 : Int) (v0n : Nat) (v1 v2 v3 : Int) (o4' : List Int) (o2n' : Nat) (o1' : List Int) (o0' o0_1' o0_2' : Int) (o2n'' : Nat) (o1'' : List Int) (o0'' o0_1'' o0_2'' : Int) (n : Nat) (hn : n ≤ 300)
include hn
theorem L8_ends (x : Int) (S : List Int) (j : Nat) (hj : j ≤ 300) : ∀ (rev P2 : List Int), rev.length + 1 + P2.length + S.length = n → (∀ arr, arr = (Sp.insI x rev).reverse ++ (P2 ++ S) → Ends XC2 (L6 r l v5 v6 v7 o4 o2n o1 o0 o0_1 o0_2 v0n v1 v2 v3 o4' o2n' o1' o0' o0_1' o0_2' n 0 n ((j : Int) + 1) arr o2n'' o1'' o0'' o0_1'' o0_2'') Q) →
    Ends XC2 (L8 r l v5 v6 v7 o4 o2n o1 o0 o0_1 o0_2 v0n v1 v2 v3 o4' o2n' o1' o0' o0_1' o0_2' n 0 n j rev.length (rev.reverse ++ x :: (P2 ++ S)) o2n'' o1'' o0'' o0_1'' o0_2'') Q
  | [], P2, hl, hq => by
    refine Ends.steq (L8_eq ..) (Ends.ff (by simp) ?_)
    rw [wr ((j : Int) + 1) (by omega) (by omega)]
    exact hq _ rfl
  | y :: q, P2, hl, hq => by
    have hl' : q.length + 1 + 1 + P2.length + S.length = n := by simpa using hl
    have e1 : IntKind.wrap .i64 (((y :: q).length : Int) - 1) = (q.length : Int) := by rw [wr _ (by simp <;> omega) (by simp <;> omega)]; simp
    have e2 : (y :: q).reverse ++ x :: (P2 ++ S) = q.reverse ++ y :: x :: (P2 ++ S) := by simp
    have g1 : (q.reverse ++ y :: x :: (P2 ++ S)).getD (y :: q).length (0 : Int) = x := by
      rw [show q.reverse ++ y :: x :: (P2 ++ S) = (q.reverse ++ [y]) ++ x :: (P2 ++ S) by simp]
      exact getD_mid _ _ _ _ (by simp)
    have g2 : (q.reverse ++ y :: x :: (P2 ++ S)).getD q.length (0 : Int) = y := getD_mid _ _ _ _ (by simp)
    have s1 : ((q.reverse ++ y :: x :: (P2 ++ S)).set (y :: q).length y).set q.length x = q.reverse ++ x :: ((y :: P2) ++ S) := by
      rw [show q.reverse ++ y :: x :: (P2 ++ S) = (q.reverse ++ [y]) ++ x :: (P2 ++ S) by simp, set_mid (q.reverse ++ [y]) (P2 ++ S) x _ (by simp)]
      rw [show (q.reverse ++ [y]) ++ y :: (P2 ++ S) = q.reverse ++ y :: y :: (P2 ++ S) by simp]
      exact set_mid _ _ _ _ (by simp)
    have len : (q.reverse ++ y :: x :: (P2 ++ S)).length = n := by simp; omega
    rw [e2]
    refine Ends.steq (L8_eq ..) ?_
    simp only [e1, Int.toNat_natCast, g1, g2, s1, List.length_set]
    rw [wr ((j : Int) + 1) (by omega) (by omega)]
    have i1 : (decide ((0 : Int) ≤ ((y :: q).length : Int)) && decide (((y :: q).length : Int) < (n : Int))) = true := by simp; omega
    have i2 : (decide ((0 : Int) ≤ (q.length : Int)) && decide ((q.length : Int) < (n : Int))) = true := by simp; omega
    have l1 : decide ((y :: q).length < (q.reverse ++ y :: x :: (P2 ++ S)).length) = true := decide_eq_true (by rw [len]; simp; omega)
    have l2 : decide (q.length < (q.reverse ++ y :: x :: (P2 ++ S)).length) = true := decide_eq_true (by rw [len]; omega)
    refine Ends.tt (by simp <;> omega) (Ends.tt i1 (Ends.tt l1 (Ends.tt i2 (Ends.tt l2 (Ends.ff (by simp) (Ends.ite (fun c => Ends.tt i2 (Ends.tt l2 (Ends.tt i1 (Ends.tt l1 (Ends.tt i1 (Ends.tt l1 (Ends.tt i2 (Ends.tt l2 ?_)))))))) (fun c => ?_)))))))
    · have c := of_decide_eq_true c
      refine L8_ends x S j hj q (y :: P2) (by simp; omega) (fun arr ha => hq arr ?_)
      rw [ha]; conv => rhs; unfold Sp.insI
      rw [if_pos c]; simp
    · have c := of_decide_eq_false c
      refine hq _ ?_
      unfold Sp.insI
      rw [if_neg c]; simp
end
theorem L6_ends (r : RuleT) (l v5 : List Int) (v6 v7 : Int) (o4 o1 : List Int) (o0 o0_1 o0_2 : Int) (v0n : Nat) (v1 v2 v3 : Int) (o4' : List Int) (o2n' : Nat) (o1' : List Int) (o0' o0_1' o0_2' : Int) (o2n'' : Nat) (o1'' : List Int) (hT : Sp.okT l r = true) (hq : ∀ ob, Q (.dat i64 (Sp.lineP l r.2.1 r.2.2)) ob) : ∀ (s : List Int) (j : Nat) (rev : List Int), l.drop j = s → j ≤ l.length → rev.length = j → Sp.sortI l = (s.foldl (fun a x => Sp.insI x a) rev).reverse →
    Ends XC2 (L6 r l v5 v6 v7 o4 l.length o1 o0 o0_1 o0_2 v0n v1 v2 v3 o4' o2n' o1' o0' o0_1' o0_2' l.length 0 l.length j (rev.reverse ++ s) o2n'' o1'' r.1 r.2.1 r.2.2) Q
  | [], j, rev, h, hj, hr, he => by
    obtain ⟨k1, k2, k3, k4, k5, k6, k7⟩ := okT_of hT
    have := drop_nil h hj
    have hs := Sp.sortI_len l
    rw [List.append_nil]
    have he : Sp.sortI l = rev.reverse := he
    rw [← he]
    have ek : IntKind.wrap .i64 (imin r.2.1 (l.length : Int) - 1) = imin r.2.1 ((Sp.sortI l).length : Int) - 1 := by rw [hs]; exact wr _ (by rw [Sp.imin_def]; omega) (by rw [Sp.imin_def]; omega)
    have hb : 0 ≤ (Sp.sortI l).getD 0 0 ∧ (Sp.sortI l).getD 0 0 ≤ 100000 := k7 _ ((Sp.sortI_perm l).mem_iff.1 (getD_mem (by omega)))
    refine Ends.steq (L6_eq ..) (Ends.ff (by simp; omega) ?_)
    rw [ek, wr ((Sp.sortI l).getD 0 0 + r.2.2) (by omega) (by omega)]
    have hk : 0 ≤ imin r.2.1 ((Sp.sortI l).length : Int) - 1 ∧ imin r.2.1 ((Sp.sortI l).length : Int) - 1 < (l.length : Int) := by rw [hs, Sp.imin_def]; omega
    refine Ends.tt (by simp only [Bool.and_eq_true, decide_eq_true_eq]; exact hk) (Ends.tt (decide_eq_true (by omega)) (Ends.ite (fun c => Ends.tt (by simp; omega) (Ends.tt (by rw [hs]; simp; omega) (Ends.leaf ?_))) (fun c => Ends.leaf ?_)))
    · have := hq [(4, Obj.arr false 3 i64 (Sp.sortI l)), (2, Obj.box [PV.sl 4 1 0 o2n'' none]), (1, Obj.box [PV.dat li64 o1'']), (0, Obj.box [PV.dat i64 r.1, PV.dat i64 r.2.1, PV.dat i64 r.2.2])]
      unfold Sp.lineP at this
      simp only [if_pos (of_decide_eq_true c)] at this
      exact this
    · have := hq [(4, Obj.arr false 3 i64 (Sp.sortI l)), (2, Obj.box [PV.sl 4 1 0 o2n'' none]), (1, Obj.box [PV.dat li64 o1'']), (0, Obj.box [PV.dat i64 r.1, PV.dat i64 r.2.1, PV.dat i64 r.2.2])]
      unfold Sp.lineP at this
      simp only [if_neg (of_decide_eq_false c)] at this
      exact this
  | x :: s, j, rev, h, hj, hr, he => by
    obtain ⟨k1, k2, k3, k4, k5, k6, k7⟩ := okT_of hT
    obtain ⟨h1, _, h3⟩ := drop_cons (d := x) h
    have hs : s.length = l.length - (j + 1) := by rw [← h3]; simp
    refine Ends.steq (L6_eq ..) (Ends.tt (by simp; omega) ?_)
    have := L8_ends (Q := Q) r l v5 v6 v7 o4 l.length o1 o0 o0_1 o0_2 v0n v1 v2 v3 o4' o2n' o1' o0' o0_1' o0_2' o2n'' o1'' r.1 r.2.1 r.2.2 l.length (by omega) x s j (by omega) rev [] (by simp; omega) (fun arr ha => by
      subst ha
      exact L6_ends r l v5 v6 v7 o4 o1 o0 o0_1 o0_2 v0n v1 v2 v3 o4' o2n' o1' o0' o0_1' o0_2' o2n'' o1'' hT hq s (j + 1) (Sp.insI x rev) h3 h1 (by rw [insI_len, hr]) he)
    rw [hr] at this
    exact this
theorem L2_ends (r : RuleT) (l o1 : List Int) (hT : Sp.okT l r = true) (hq : ∀ ob, Q (.dat i64 (Sp.lineP l r.2.1 r.2.2)) ob) : ∀ (s : List Int) (i : Nat), l.drop i = s → i ≤ l.length → Ends XC2 (L2 r l l l.length i (l.take i) i o1 r.1 r.2.1 r.2.2) Q
  | [], i, h, hi => by
    obtain ⟨k1, k2, k3, k4, k5, k6, k7⟩ := okT_of hT
    have := drop_nil h hi
    subst this
    rw [List.take_length]
    have eu : IntKind.wrap IntKind.u64 (l.length : Int) = (l.length : Int) := by
      have : ∀ m : Fin 21, IntKind.wrap IntKind.u64 (m.val : Int) = (m.val : Int) := by decide +kernel
      exact this ⟨l.length, by omega⟩
    refine Ends.steq (L2_eq ..) (Ends.ff (by simp) ?_)
    rw [eu]
    refine Ends.tt (by simp; omega) (Ends.steq (L4_eq ..) ?_)
    rw [wr ((l.length : Int) - 0) (by omega) (by omega), wr ((0 : Int) + 1) (by omega) (by omega)]
    refine Ends.tt (by simp; omega) ?_
    cases l with
    | nil => simp at k1
    | cons x t => exact L6_ends r (x :: t) _ _ _ _ _ _ _ _ _ _ _ _ _ _ _ _ _ _ _ _ hT hq t 1 [x] rfl (by simp) rfl rfl
  | x :: s, i, h, hi => by
    obtain ⟨k1, k2, k3, k4, k5, k6, k7⟩ := okT_of hT
    obtain ⟨h1, h2, h3⟩ := drop_cons (d := 0) h
    have ht := take_next h
    have hl : (l.take i).length = i := by simp; omega
    refine Ends.steq (L2_eq ..) (Ends.tt (by simp <;> omega) (Ends.tt (by simp <;> omega) (Ends.tt (by rw [hl]; simp; omega) ?_)))
    simp only [Int.toNat_natCast, h2]
    rw [wr ((i : Int) + 1) (by omega) (by omega)]
    have := L2_ends r l o1 hT hq s (i + 1) h3 h1
    rw [ht] at this
    exact this
theorem ok : SpecOk C7p 187 cLineP := by
  refine spec7 (X := XC2) rfl hallXC2 (d := 9) (by kernel_rfl) (by kernel_rfl) (by kernel_rfl) (fun (i : RuleT × List Int) hi => ?_) (isSome_ex (by kernel_rfl))
  obtain ⟨r, l⟩ := i
  have hT : Sp.okT l r = true := hi
  obtain ⟨k1, k2, k3, k4, k5, k6, k7⟩ := okT_of hT
  have hq : ∀ ob, Gives cLineP (r, l) (.dat i64 (Sp.lineP l r.2.1 r.2.2)) ob := fun ob => Gives.of rfl rfl rfl
  refine Ends.eq (T_eq r l) ?_
  cases l with
  | nil => simp at k1
  | cons x t =>
    refine Ends.steq (L1_eq ..) (Ends.tt (by simp <;> omega) (Ends.tt (by simp <;> omega) (Ends.tt rfl ?_)))
    exact L2_ends r (x :: t) (x :: t) hT hq t 1 rfl (by simp)
end T187
end Go.Pe
end
section
namespace Go.Pe
open Go.Det
theorem getD_memL {α : Type} {l : List α} {d : α} {i : Nat} (h : i < l.length) : l.getD i d ∈ l := by
  unfold List.getD; rw [List.getElem?_eq_getElem h]; exact List.getElem_mem h
theorem outR_0 {n a b : Int} (h : Sp.out n a b = 0) : a ≤ n ∧ n ≤ b := by
  unfold Sp.out at h
  by_cases h1 : n < a
  · rw [if_pos h1] at h; cases h
  · rw [if_neg h1] at h
    by_cases h2 : n > b
    · rw [if_pos h2] at h; cases h
    · omega
theorem ruleE_0 {r : RuleT} (h : Sp.ruleE r = 0) : (1 ≤ r.1 ∧ r.1 ≤ 8) ∧ (1 ≤ r.2.1 ∧ r.2.1 ≤ 200) ∧ (-1 ≤ r.2.2 ∧ r.2.2 ≤ 999) := by
  unfold Sp.ruleE at h
  have e1 := out_3 r.1 1 8
  have e2 := out_3 r.2.1 1 200
  have e3 := out_3 r.2.2 (-1) 999
  rcases e1 with h1 | h1
  · rcases e2 with h2 | h2
    · rcases e3 with h3 | h3
      · exact ⟨outR_0 h1, outR_0 h2, outR_0 h3⟩
      · rw [h1, h2, h3] at h; cases h
    · rw [h1, h2] at h; cases h
  · rw [h1] at h; cases h
theorem lineE_far {seen : List (List UInt8)} {x : LineT} (h : Sp.lineE seen x = 0) : ∀ y ∈ x.2.2.1, 1 ≤ y ∧ y ≤ 9999 := by
  unfold Sp.lineE at h
  have := (orE_zero (orE_zero (orE_zero h).2).2).1
  by_cases e : Sp.far x.2.2.1 = true
  · rw [if_pos e] at this; cases this
  · have e : Sp.far x.2.2.1 = false := by simpa using e
    intro y hy
    unfold Sp.far at e
    rw [List.any_eq_false] at e
    have := e y hy
    simp at this; omega
theorem linesE_far : ∀ (l : List LineT) (seen : List (List UInt8)), Sp.linesE seen l = 0 → ∀ x ∈ l, ∀ y ∈ x.2.2.1, 1 ≤ y ∧ y ≤ 9999
  | [], _, _, x, hx => by cases hx
  | y :: l, seen, h, x, hx => by
    unfold Sp.linesE at h
    obtain ⟨h1, h2⟩ := orE_zero h
    rcases List.mem_cons.1 hx with rfl | hx
    · exact lineE_far h1
    · exact linesE_far l _ h2 x hx
theorem fieldE_far {l : List LineT} (h : Sp.fieldE l = 0) : ∀ x ∈ l, ∀ y ∈ x.2.2.1, 1 ≤ y ∧ y ≤ 9999 := by
  unfold Sp.fieldE at h
  by_cases e : 200 < l.length
  · rw [if_pos e] at h; cases h
  · rw [if_neg e] at h; exact linesE_far l [] h
theorem sumW_bd : ∀ (l : List Int) (a : Int) (n : Nat), (∀ y ∈ l, 1 ≤ y ∧ y ≤ 9999) → 0 ≤ a → a ≤ 10000 * n → n + l.length ≤ 1000 → 0 ≤ l.foldl (fun a x => IntKind.wrap .i64 (a + x)) a ∧ l.foldl (fun a x => IntKind.wrap .i64 (a + x)) a ≤ 10000 * (n + l.length : Nat)
  | [], a, n, _, h0, h1, _ => ⟨h0, by simpa using h1⟩
  | y :: l, a, n, h, h0, h1, h2 => by
    have hy := h y (by simp)
    rw [List.length_cons] at h2
    rw [List.foldl_cons, wr (a + y) (by omega) (by omega)]
    have := sumW_bd l (a + y) (n + 1) (fun z hz => h z (by simp [hz])) (by omega) (by push_cast; omega) (by omega)
    rw [List.length_cons]
    refine ⟨this.1, ?_⟩
    have h3 := this.2
    have e : n + 1 + l.length = n + (l.length + 1) := by omega
    rw [e] at h3; exact h3
theorem tot_bd {l : List LineT} (hf : Sp.fieldE l = 0) (a : Int) {x : LineT} (hx : x ∈ l) : 0 ≤ Sp.tot a x ∧ Sp.tot a x ≤ 100000 := by
  have h8 := (fieldE_zero hf).2 x hx
  have hr := fieldE_far hf x hx
  have hl : (x.2.2.1.take a.toNat).length ≤ 8 := by simp; omega
  have := sumW_bd (x.2.2.1.take a.toNat) 0 0 (fun y hy => hr y (List.mem_of_mem_take hy)) (Int.le_refl _) (by simp) (by omega)
  unfold Sp.tot Sp.sumW
  refine ⟨this.1, ?_⟩
  have h2 := this.2
  omega
theorem ctots_len (a : Int) (l : List LineT) : (Sp.ctots a l).length = (Sp.cands 0 l).length := by
  unfold Sp.ctots
  rw [← cands_map l l 0 rfl (Nat.zero_le _)]; simp
theorem ctots_map (a : Int) (l : List LineT) : (Sp.cands 0 l).map (fun c => Sp.tot a (l.getD c.toNat DL)) = Sp.ctots a l := by
  unfold Sp.ctots
  rw [← cands_map l l 0 rfl (Nat.zero_le _), List.map_map]; rfl
structure Good (l : List LineT) (r : RuleT) : Prop where
  n10 : l.length ≤ 10
  field : Sp.fieldE l = 0
  rule : (1 ≤ r.1 ∧ r.1 ≤ 8) ∧ (1 ≤ r.2.1 ∧ r.2.1 ≤ 200) ∧ (-1 ≤ r.2.2 ∧ r.2.2 ≤ 999)
  cne : Sp.cands 0 l ≠ []
  nsh : Sp.short r.1 l = false
theorem cutE_zero {l : List LineT} {r : RuleT} (h : Sp.cutE l r = 0) : Sp.fieldE l = 0 ∧ Sp.ruleE r = 0 ∧ Sp.cands 0 l ≠ [] ∧ Sp.short r.1 l = false := by
  unfold Sp.cutE at h
  obtain ⟨h1, h2⟩ := orE_zero h
  obtain ⟨h3, h4⟩ := orE_zero h2
  unfold Sp.cutE2 at h4
  by_cases e : Sp.cands 0 l = []
  · rw [if_pos e] at h4; cases h4
  · rw [if_neg e] at h4
    by_cases e2 : Sp.short r.1 l = true
    · rw [if_pos e2] at h4; cases h4
    · exact ⟨h1, h3, e, by simpa using e2⟩
theorem good_of {l : List LineT} {r : RuleT} (hb : Sp.okB l = true) (h : Sp.cutE l r = 0) : Good l r := by
  obtain ⟨h1, h2, h3, h4⟩ := cutE_zero h
  unfold Sp.okB at hb
  rw [Bool.and_eq_true, Bool.or_eq_true, decide_eq_true_eq, decide_eq_true_eq] at hb
  have := (fieldE_zero h1).1
  exact ⟨by omega, h1, ruleE_0 h2, h3, h4⟩
theorem Good.okT {l : List LineT} {r : RuleT} (g : Good l r) : Sp.okT (Sp.ctots r.1 l) r = true := by
  have h1 := ctots_len r.1 l
  have h2 := cands_len l 0
  have h3 : 0 < (Sp.cands 0 l).length := List.length_pos_iff.2 g.cne
  have h4 := g.n10
  obtain ⟨_, ⟨a1, a2⟩, b1, b2⟩ := g.rule
  unfold Sp.okT
  simp only [Bool.and_eq_true, decide_eq_true_eq, List.all_eq_true]
  refine ⟨⟨⟨⟨⟨⟨by omega, by omega⟩, a1⟩, a2⟩, b1⟩, b2⟩, fun t ht => ?_⟩
  unfold Sp.ctots at ht
  obtain ⟨x, hx, rfl⟩ := List.mem_map.1 ht
  exact tot_bd g.field r.1 (List.mem_filter.1 hx).1
theorem Good.line {l : List LineT} {r : RuleT} (g : Good l r) : Sp.lineR (Sp.ctots r.1 l) r.2.1 r.2.2 = Sp.cutLine l r := by
  obtain ⟨k1, k2, k3, k4, k5, k6, k7⟩ := okT_of g.okT
  exact (Sp.line_eq (Sp.ctots r.1 l) r.2.1 r.2.2 (by rintro e; rw [e] at k1; simp at k1) (fun t ht => (k7 t ht).1) k3).symm
/-- those of a list whose totals are not above a line -/
def pickL (t : Int) : List Int → List Int → List Int
  | c :: cs, u :: us => if u ≤ t then c :: pickL t cs us else pickL t cs us
  | _, _ => []
theorem pick_remain (a t : Int) : ∀ (s : List LineT) (i : Nat), pickL t (Sp.cands i s) (Sp.ctots a s) = Sp.remain a t i s
  | [], i => rfl
  | x :: s, i => by
    have ih := pick_remain a t s (i + 1)
    unfold Sp.cands Sp.ctots Sp.remain
    by_cases hx : Sp.cand x = true
    · rw [if_pos hx, List.filter_cons_of_pos hx, List.map_cons]
      unfold Sp.ctots at ih
      by_cases hu : Sp.tot a x ≤ t
      · rw [if_pos (by rw [hx, decide_eq_true hu]; rfl), ← ih]
        show (if Sp.tot a x ≤ t then _ else _) = _
        rw [if_pos hu]
      · rw [if_neg (by rw [hx, decide_eq_false hu]; simp), ← ih]
        show (if Sp.tot a x ≤ t then _ else _) = _
        rw [if_neg hu]
    · rw [if_neg hx, List.filter_cons_of_neg hx, if_neg (by simp [hx]), ← ih]
      rfl
theorem res_li2 {ob : Ob} {id n : Nat} {fz : Bool} {t : TypeId} {o : List Int} {a : Int} (hg : obGet ob id = some (.arr fz t i64 o)) (hn : n = o.length) : resOf [li64, i64] (.tup [.sl id 1 0 n none, .dat i64 a]) ob = some (true, (o, a)) := by
  show argsOf ⟨0, .leaf, ob, 0⟩ [li64, i64] [.sl id 1 0 n none, .dat i64 a] = _
  exact args_two (arg_sl0 rfl hg hn) rfl
theorem res_li3 {ob : Ob} {id n : Nat} {fz : Bool} {t : TypeId} {o : List Int} {a b : Int} (hg : obGet ob id = some (.arr fz t i64 o)) (hn : n = o.length) : resOf [li64, i64, i64] (.tup [.sl id 1 0 n none, .dat i64 a, .dat i64 b]) ob = some (true, (o, a, b)) := by
  show argsOf ⟨0, .leaf, ob, 0⟩ [li64, i64, i64] [.sl id 1 0 n none, .dat i64 a, .dat i64 b] = _
  exact args_two (arg_sl0 rfl hg hn) (args_two rfl rfl)
namespace T69
variable {Q : PV → Ob → Prop}
theorem L5_ends (C TT : List Int) (hC : C.length ≤ 300) (hlen : TT.length = C.length) (t : Int) (w : List Int) (hq : ∀ o0, Q (.tup [.sl 1 1 0 w.length none, .dat i64 t]) [(1, .arr false 3 i64 w), (0, o0)]) : ∀ (s u : List Int) (i : Nat) (acc : List Int), C.drop i = s → TT.drop i = u → i ≤ C.length → acc.length ≤ i → acc ++ pickL t s u = w → Ends XC3 (L5 C TT.length acc.length t i acc TT) Q
  | [], u, i, acc, h, h', hi, ha, hw => by
    have := drop_nil h hi
    have hw : acc = w := by rw [← hw]; cases u <;> simp [pickL]
    subst hw
    exact Ends.steq (L5_eq ..) (Ends.ff (by simp; omega) (Ends.leaf (hq _)))
  | c :: s, u, i, acc, h, h', hi, ha, hw => by
    obtain ⟨h1, h2, h3⟩ := drop_cons (d := 0) h
    cases u with
    | nil => have := drop_nil h' (by omega); omega
    | cons y u =>
      obtain ⟨g1, g2, g3⟩ := drop_cons (d := 0) h'
      have ic : (decide ((0 : Int) ≤ (i : Int)) && decide ((i : Int) < (C.length : Int))) = true := by simp; omega
      refine Ends.steq (L5_eq ..) (Ends.tt (by simp <;> omega) (Ends.tt (by simp; omega) (Ends.tt (by simp; omega) ?_)))
      simp only [Int.toNat_natCast, h2, g2]
      rw [wr ((i : Int) + 1) (by omega) (by omega)]
      have hw' : acc ++ (if y ≤ t then c :: pickL t s u else pickL t s u) = w := hw
      refine Ends.ite (fun cc => Ends.tt ic (Ends.tt (by simp; omega) ?_)) (fun cc => ?_)
      · rw [if_pos (of_decide_eq_true cc)] at hw'
        have e : Nat.add acc.length 1 = (acc ++ [c]).length := by simp
        rw [e]
        exact L5_ends C TT hC hlen t w hq s u (i + 1) _ h3 g3 h1 (by simp; omega) (by rw [List.append_assoc]; exact hw')
      · rw [if_neg (of_decide_eq_false cc)] at hw'
        exact L5_ends C TT hC hlen t w hq s u (i + 1) acc h3 g3 h1 (by omega) hw'
theorem L4_ends (C TT : List Int) (hC : C.length ≤ 300) (hlen : TT.length = C.length) (t : Int) (w : List Int) (hq0 : w = [] → ∀ ob, Q (.tup [.nil, .dat i64 t]) ob) (hq : ∀ o0, Q (.tup [.sl 1 1 0 w.length none, .dat i64 t]) [(1, .arr false 3 i64 w), (0, o0)]) : ∀ (s u : List Int) (i : Nat), C.drop i = s → TT.drop i = u → i ≤ C.length → pickL t s u = w → Ends XC3 (L4 C TT.length t i TT) Q
  | [], u, i, h, h', hi, hw => by
    have := drop_nil h hi
    have hw : w = [] := by rw [← hw]; cases u <;> simp [pickL]
    exact Ends.steq (L4_eq ..) (Ends.ff (by simp; omega) (Ends.leaf (hq0 hw _)))
  | c :: s, u, i, h, h', hi, hw => by
    obtain ⟨h1, h2, h3⟩ := drop_cons (d := 0) h
    cases u with
    | nil => have := drop_nil h' (by omega); omega
    | cons y u =>
      obtain ⟨g1, g2, g3⟩ := drop_cons (d := 0) h'
      have ic : (decide ((0 : Int) ≤ (i : Int)) && decide ((i : Int) < (C.length : Int))) = true := by simp; omega
      refine Ends.steq (L4_eq ..) (Ends.tt (by simp <;> omega) (Ends.tt (by simp; omega) (Ends.tt (by simp; omega) ?_)))
      simp only [Int.toNat_natCast, h2, g2]
      rw [wr ((i : Int) + 1) (by omega) (by omega)]
      have hw' : (if y ≤ t then c :: pickL t s u else pickL t s u) = w := hw
      refine Ends.ite (fun cc => Ends.tt ic (Ends.tt (by simp) ?_)) (fun cc => ?_)
      · rw [if_pos (of_decide_eq_true cc)] at hw'
        exact L5_ends C TT hC hlen t w hq s u (i + 1) [c] h3 g3 h1 (by simp) hw'
      · rw [if_neg (of_decide_eq_false cc)] at hw'
        exact L4_ends C TT hC hlen t w hq0 hq s u (i + 1) h3 g3 h1 hw'
theorem L2_ends (l : List LineT) (r : RuleT) (g : Good l r) (hq : Ends XC3 (L4 (Sp.cands 0 l) (Sp.ctots r.1 l).length (Sp.lineR (Sp.ctots r.1 l) r.2.1 r.2.2) 0 (Sp.ctots r.1 l)) Q) : ∀ (s : List Int) (i : Nat) (acc : List Int), (Sp.cands 0 l).drop i = s → i ≤ (Sp.cands 0 l).length → acc.length ≤ i → acc ++ s.map (fun c => Sp.tot r.1 (l.getD c.toNat DL)) = Sp.ctots r.1 l → Ends XC3 (L2 l (Sp.cands 0 l) acc.length i acc r.1 r.2.1 r.2.2) Q
  | [], i, acc, h, hi, ha, hw => by
    have := drop_nil h hi
    have hw : acc = Sp.ctots r.1 l := by simpa using hw
    subst hw
    have hT := g.okT
    refine Ends.steq (L2_eq ..) (Ends.ff (by simp; omega) ?_)
    rw [List.take_length]
    exact Ends.tt (by rw [show (r.1, r.2.1, r.2.2) = r from rfl, hT]; simp) hq
  | c :: s, i, acc, h, hi, ha, hw => by
    obtain ⟨h1, h2, h3⟩ := drop_cons (d := 0) h
    have hcl := cands_len l 0
    have hn := g.n10
    obtain ⟨j, rfl, hj, _⟩ := cands_get l l 0 rfl (Nat.zero_le _) c (mem_drop h)
    have h8 := (fieldE_zero g.field).2 (l.getD j DL) (getD_memL hj)
    refine Ends.steq (L2_eq ..) (Ends.tt (by simp <;> omega) (Ends.tt (by simp <;> omega) ?_))
    simp only [Int.toNat_natCast, h2]
    rw [wr ((i : Int) + 1) (by omega) (by omega)]
    refine Ends.tt (by simp; omega) (Ends.tt (decide_eq_true (show (l.getD j DL).2.2.1.length ≤ 1000000 by omega)) (Ends.tt (by simp; omega) ?_))
    have e : Nat.add acc.length 1 = (acc ++ [Sp.tot r.1 (l.getD j DL)]).length := by simp
    rw [e]
    refine L2_ends l r g hq s (i + 1) (acc ++ [Sp.tot r.1 (l.getD j DL)]) h3 h1 (by simp; omega) ?_
    rw [List.map_cons, Int.toNat_natCast] at hw
    rw [List.append_assoc]; exact hw
theorem L1_ends (l : List LineT) (r : RuleT) (g : Good l r) (hq : Ends XC3 (L4 (Sp.cands 0 l) (Sp.ctots r.1 l).length (Sp.lineR (Sp.ctots r.1 l) r.2.1 r.2.2) 0 (Sp.ctots r.1 l)) Q) : Ends XC3 (L1 l (Sp.cands 0 l) 0 r.1 r.2.1 r.2.2) Q := by
  have hm := ctots_map r.1 l
  cases hc : Sp.cands 0 l with
  | nil => exact absurd hc g.cne
  | cons c s =>
    have hcl := cands_len l 0
    have hn := g.n10
    obtain ⟨j, rfl, hj, _⟩ := cands_get l l 0 rfl (Nat.zero_le _) c (by rw [hc]; simp)
    have h8 := (fieldE_zero g.field).2 (l.getD j DL) (getD_memL hj)
    refine Ends.steq (L1_eq ..) (Ends.tt (by simp <;> omega) (Ends.tt (by simp <;> omega) ?_))
    have e0 : (((j : Int) :: s).getD (0 : Int).toNat 0) = (j : Int) := rfl
    simp only [e0, Int.toNat_natCast]
    rw [wr ((0 : Int) + 1) (by omega) (by omega)]
    refine Ends.tt (by simp; omega) (Ends.tt (decide_eq_true (show (l.getD j DL).2.2.1.length ≤ 1000000 by omega)) (Ends.tt rfl ?_))
    have := L2_ends l r g hq s 1 [Sp.tot r.1 (l.getD j DL)] (by rw [hc]; rfl) (by rw [hc]; simp) (by simp) (by rw [hc, List.map_cons, Int.toNat_natCast] at hm; exact hm)
    rw [hc] at this
    exact this
theorem ok : SpecOk C7p 69 cCutR := by
  refine spec7 (X := XC3) rfl hallXC3 (d := 9) (by kernel_rfl) (by kernel_rfl) (by kernel_rfl) (fun (i : List LineT × RuleT) hi => ?_) (isSome_ex (by kernel_rfl))
  obtain ⟨l, r⟩ := i
  have hi : (Sp.okB l && decide (Sp.cutE l r = 0)) = true := hi
  rw [Bool.and_eq_true, decide_eq_true_eq] at hi
  have g := good_of hi.1 hi.2
  have hok : Sp.okF l = true := by
    have := hi.1
    unfold Sp.okB at this
    rw [Bool.and_eq_true] at this
    exact this.1
  have hcl := cands_len l 0
  have hn := g.n10
  have hpr := pick_remain r.1 (Sp.cutLine l r) l 0
  refine Ends.eq (T_eq l r) (Ends.tt hok (L1_ends l r g ?_))
  rw [g.line]
  refine L4_ends (Sp.cands 0 l) (Sp.ctots r.1 l) (by omega) (ctots_len r.1 l) (Sp.cutLine l r) (Sp.remain r.1 (Sp.cutLine l r) 0 l) (fun hw ob => ⟨([], Sp.cutLine l r), rfl, ?_⟩) (fun o0 => ⟨(Sp.remain r.1 (Sp.cutLine l r) 0 l, Sp.cutLine l r), res_li2 rfl rfl, rfl⟩) (Sp.cands 0 l) (Sp.ctots r.1 l) 0 rfl rfl (Nat.zero_le _) hpr
  show _ = (Sp.remain r.1 (Sp.cutLine l r) 0 l, Sp.cutLine l r)
  rw [hw]
end T69
end Go.Pe
end
