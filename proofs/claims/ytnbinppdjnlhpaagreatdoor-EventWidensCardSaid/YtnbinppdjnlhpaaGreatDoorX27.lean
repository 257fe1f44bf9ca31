import Derived.Test.YtnbinppdjnlhpaaGreatDoorX22
import Derived.Test.YtnbinppdjnlhpaaGreatDoorX26
import Derived.Test.YtnbinppdjnlhpaaGreatDoorX07
import Derived.ChangeSame
import Derived.Below
import Derived.Test.YtnbinppdjnlhpaaGreatDoorX18
/- A part of the proofs of the laws of one chapter (no law is stated here). Made by program out of texts by AI agents. -/
section
namespace Go.Pe
open Go.Det
namespace T13
noncomputable def T (l : List (List UInt8 × Bool × List Int × List UInt8)) (r : Int × Int × Int) : Tr := tree XC7 false 9 13 (valsOf ([Sh.list (Sh.pair Sh.str (Sh.pair Sh.bool (Sh.pair (Sh.list (Sh.int IntKind.i64)) Sh.str))), Sh.pair (Sh.int IntKind.i64) (Sh.pair (Sh.int IntKind.i64) (Sh.int IntKind.i64))]) (l, r))
theorem T_eq (l : List (List UInt8 × Bool × List Int × List UInt8)) (r : Int × Int × Int) : T l r = .ite (true)
 (.ite (!Sp.shortF l (10 : Int))
  (.ite (true)
   (.leaf (PV.dat Sh.bool true) ([((0 : Nat), Obj.box [PV.dat (Sh.int IntKind.i64) (Prod.fst r), PV.dat (Sh.int IntKind.i64) (Prod.fst (Prod.snd r)), PV.dat (Sh.int IntKind.i64) (Prod.snd (Prod.snd r))])]))
   (.fail))
  (.ite (Sp.okF l)
   (.ite (Sp.okB l)
    (.ite (Sp.okF l)
     (.ite (Sp.okB l)
      (.ite (Sp.okF l)
       (.ite (true)
        (.ite (decide ((2 : Nat) ≤ (2 : Nat)) && true && decide ((2 : Nat) ≤ (1000000 : Nat)))
         (.ite (Sp.first [Sp.fieldE l, Sp.ruleE (Prod.fst r, Prod.fst (Prod.snd r), Prod.snd (Prod.snd r))] == (0 : Int))
          (.ite (Sp.okF l)
           (.ite (Sp.cutE2 l (Prod.fst r, Prod.fst (Prod.snd r), Prod.snd (Prod.snd r)) == (0 : Int))
            (.ite (Sp.okC l (Prod.fst r, Prod.fst (Prod.snd r), Prod.snd (Prod.snd r)))
             (.ite (Sp.okC l (Prod.fst r, Prod.fst (Prod.snd r), Prod.snd (Prod.snd r)))
              (.ite (Prod.snd (Prod.snd (Sp.Cut l (Prod.fst r, Prod.fst (Prod.snd r), Prod.snd (Prod.snd r)))) == Sp.cutE2 l (Prod.fst r, Prod.fst (Prod.snd r), Prod.snd (Prod.snd r)))
               (.ite (decide (List.length (Prod.fst (Sp.Cut l (Prod.fst r, Prod.fst (Prod.snd r), Prod.snd (Prod.snd r)))) ≤ (1000000 : Nat)))
                (.ite (Prod.fst (Sp.Cut l (Prod.fst r, Prod.fst (Prod.snd r), Prod.snd (Prod.snd r))) == Sp.remain (Prod.fst r) (Sp.cutLine l (Prod.fst r, Prod.fst (Prod.snd r), Prod.snd (Prod.snd r))) (0 : Nat) l)
                 (.ite (Prod.fst (Prod.snd (Sp.Cut l (Prod.fst r, Prod.fst (Prod.snd r), Prod.snd (Prod.snd r)))) == Sp.cutLine l (Prod.fst r, Prod.fst (Prod.snd r), Prod.snd (Prod.snd r)))
                  (.ite (Prod.snd (Sp.Miss l (Prod.fst r, Prod.fst (Prod.snd r), Prod.snd (Prod.snd r))) == Sp.cutE2 l (Prod.fst r, Prod.fst (Prod.snd r), Prod.snd (Prod.snd r)))
                   (.ite (Sp.okF (Prod.fst (Sp.Miss l (Prod.fst r, Prod.fst (Prod.snd r), Prod.snd (Prod.snd r)))))
                    (.ite (Sp.okF (Prod.fst (Sp.Miss l (Prod.fst r, Prod.fst (Prod.snd r), Prod.snd (Prod.snd r)))) && Sp.okF (List.map (Sp.miss1 (Prod.fst r) (Sp.cutLine l (Prod.fst r, Prod.fst (Prod.snd r), Prod.snd (Prod.snd r)))) l))
                     (.ite (decide (Prod.fst (Sp.Miss l (Prod.fst r, Prod.fst (Prod.snd r), Prod.snd (Prod.snd r))) = List.map (Sp.miss1 (Prod.fst r) (Sp.cutLine l (Prod.fst r, Prod.fst (Prod.snd r), Prod.snd (Prod.snd r)))) l))
                      (.ite (true)
                       (.leaf (PV.dat Sh.bool true) ([(Nat.add (0 : Nat) (1 : Nat), Obj.arr false (3 : Nat) (Sh.int IntKind.i64) [Sp.fieldE l, Sp.ruleE (Prod.fst r, Prod.fst (Prod.snd r), Prod.snd (Prod.snd r))]), ((0 : Nat), Obj.box [PV.dat (Sh.int IntKind.i64) (Prod.fst r), PV.dat (Sh.int IntKind.i64) (Prod.fst (Prod.snd r)), PV.dat (Sh.int IntKind.i64) (Prod.snd (Prod.snd r))])]))
                       (.fail))
                      (.leaf (PV.bl false) ([(Nat.add (0 : Nat) (1 : Nat), Obj.arr false (3 : Nat) (Sh.int IntKind.i64) [Sp.fieldE l, Sp.ruleE (Prod.fst r, Prod.fst (Prod.snd r), Prod.snd (Prod.snd r))]), ((0 : Nat), Obj.box [PV.dat (Sh.int IntKind.i64) (Prod.fst r), PV.dat (Sh.int IntKind.i64) (Prod.fst (Prod.snd r)), PV.dat (Sh.int IntKind.i64) (Prod.snd (Prod.snd r))])])))
                     (.fail))
                    (.fail))
                   (.leaf (PV.bl false) ([(Nat.add (0 : Nat) (1 : Nat), Obj.arr false (3 : Nat) (Sh.int IntKind.i64) [Sp.fieldE l, Sp.ruleE (Prod.fst r, Prod.fst (Prod.snd r), Prod.snd (Prod.snd r))]), ((0 : Nat), Obj.box [PV.dat (Sh.int IntKind.i64) (Prod.fst r), PV.dat (Sh.int IntKind.i64) (Prod.fst (Prod.snd r)), PV.dat (Sh.int IntKind.i64) (Prod.snd (Prod.snd r))])])))
                  (.leaf (PV.bl false) ([(Nat.add (0 : Nat) (1 : Nat), Obj.arr false (3 : Nat) (Sh.int IntKind.i64) [Sp.fieldE l, Sp.ruleE (Prod.fst r, Prod.fst (Prod.snd r), Prod.snd (Prod.snd r))]), ((0 : Nat), Obj.box [PV.dat (Sh.int IntKind.i64) (Prod.fst r), PV.dat (Sh.int IntKind.i64) (Prod.fst (Prod.snd r)), PV.dat (Sh.int IntKind.i64) (Prod.snd (Prod.snd r))])])))
                 (.leaf (PV.bl false) ([(Nat.add (0 : Nat) (1 : Nat), Obj.arr false (3 : Nat) (Sh.int IntKind.i64) [Sp.fieldE l, Sp.ruleE (Prod.fst r, Prod.fst (Prod.snd r), Prod.snd (Prod.snd r))]), ((0 : Nat), Obj.box [PV.dat (Sh.int IntKind.i64) (Prod.fst r), PV.dat (Sh.int IntKind.i64) (Prod.fst (Prod.snd r)), PV.dat (Sh.int IntKind.i64) (Prod.snd (Prod.snd r))])])))
                (.fail))
               (.leaf (PV.bl false) ([(Nat.add (0 : Nat) (1 : Nat), Obj.arr false (3 : Nat) (Sh.int IntKind.i64) [Sp.fieldE l, Sp.ruleE (Prod.fst r, Prod.fst (Prod.snd r), Prod.snd (Prod.snd r))]), ((0 : Nat), Obj.box [PV.dat (Sh.int IntKind.i64) (Prod.fst r), PV.dat (Sh.int IntKind.i64) (Prod.fst (Prod.snd r)), PV.dat (Sh.int IntKind.i64) (Prod.snd (Prod.snd r))])])))
              (.fail))
             (.fail))
            (.ite (Prod.snd (Prod.snd (Sp.Cut l (Prod.fst r, Prod.fst (Prod.snd r), Prod.snd (Prod.snd r)))) == Sp.cutE2 l (Prod.fst r, Prod.fst (Prod.snd r), Prod.snd (Prod.snd r)))
             (.ite (decide (List.length (Prod.fst (Sp.Cut l (Prod.fst r, Prod.fst (Prod.snd r), Prod.snd (Prod.snd r)))) ≤ (1000000 : Nat)))
              (.ite (Prod.fst (Sp.Cut l (Prod.fst r, Prod.fst (Prod.snd r), Prod.snd (Prod.snd r))) == [])
               (.ite (Prod.fst (Prod.snd (Sp.Cut l (Prod.fst r, Prod.fst (Prod.snd r), Prod.snd (Prod.snd r)))) == (0 : Int))
                (.ite (Prod.snd (Sp.Miss l (Prod.fst r, Prod.fst (Prod.snd r), Prod.snd (Prod.snd r))) == Sp.cutE2 l (Prod.fst r, Prod.fst (Prod.snd r), Prod.snd (Prod.snd r)))
                 (.ite (Sp.okF (Prod.fst (Sp.Miss l (Prod.fst r, Prod.fst (Prod.snd r), Prod.snd (Prod.snd r)))))
                  (.ite (Sp.okF (Prod.fst (Sp.Miss l (Prod.fst r, Prod.fst (Prod.snd r), Prod.snd (Prod.snd r)))) && Sp.okF [])
                   (.ite (decide (Prod.fst (Sp.Miss l (Prod.fst r, Prod.fst (Prod.snd r), Prod.snd (Prod.snd r))) = []))
                    (.ite (true)
                     (.leaf (PV.dat Sh.bool true) ([(Nat.add (0 : Nat) (1 : Nat), Obj.arr false (3 : Nat) (Sh.int IntKind.i64) [Sp.fieldE l, Sp.ruleE (Prod.fst r, Prod.fst (Prod.snd r), Prod.snd (Prod.snd r))]), ((0 : Nat), Obj.box [PV.dat (Sh.int IntKind.i64) (Prod.fst r), PV.dat (Sh.int IntKind.i64) (Prod.fst (Prod.snd r)), PV.dat (Sh.int IntKind.i64) (Prod.snd (Prod.snd r))])]))
                     (.fail))
                    (.leaf (PV.bl false) ([(Nat.add (0 : Nat) (1 : Nat), Obj.arr false (3 : Nat) (Sh.int IntKind.i64) [Sp.fieldE l, Sp.ruleE (Prod.fst r, Prod.fst (Prod.snd r), Prod.snd (Prod.snd r))]), ((0 : Nat), Obj.box [PV.dat (Sh.int IntKind.i64) (Prod.fst r), PV.dat (Sh.int IntKind.i64) (Prod.fst (Prod.snd r)), PV.dat (Sh.int IntKind.i64) (Prod.snd (Prod.snd r))])])))
                   (.fail))
                  (.fail))
                 (.leaf (PV.bl false) ([(Nat.add (0 : Nat) (1 : Nat), Obj.arr false (3 : Nat) (Sh.int IntKind.i64) [Sp.fieldE l, Sp.ruleE (Prod.fst r, Prod.fst (Prod.snd r), Prod.snd (Prod.snd r))]), ((0 : Nat), Obj.box [PV.dat (Sh.int IntKind.i64) (Prod.fst r), PV.dat (Sh.int IntKind.i64) (Prod.fst (Prod.snd r)), PV.dat (Sh.int IntKind.i64) (Prod.snd (Prod.snd r))])])))
                (.leaf (PV.bl false) ([(Nat.add (0 : Nat) (1 : Nat), Obj.arr false (3 : Nat) (Sh.int IntKind.i64) [Sp.fieldE l, Sp.ruleE (Prod.fst r, Prod.fst (Prod.snd r), Prod.snd (Prod.snd r))]), ((0 : Nat), Obj.box [PV.dat (Sh.int IntKind.i64) (Prod.fst r), PV.dat (Sh.int IntKind.i64) (Prod.fst (Prod.snd r)), PV.dat (Sh.int IntKind.i64) (Prod.snd (Prod.snd r))])])))
               (.leaf (PV.bl false) ([(Nat.add (0 : Nat) (1 : Nat), Obj.arr false (3 : Nat) (Sh.int IntKind.i64) [Sp.fieldE l, Sp.ruleE (Prod.fst r, Prod.fst (Prod.snd r), Prod.snd (Prod.snd r))]), ((0 : Nat), Obj.box [PV.dat (Sh.int IntKind.i64) (Prod.fst r), PV.dat (Sh.int IntKind.i64) (Prod.fst (Prod.snd r)), PV.dat (Sh.int IntKind.i64) (Prod.snd (Prod.snd r))])])))
              (.fail))
             (.leaf (PV.bl false) ([(Nat.add (0 : Nat) (1 : Nat), Obj.arr false (3 : Nat) (Sh.int IntKind.i64) [Sp.fieldE l, Sp.ruleE (Prod.fst r, Prod.fst (Prod.snd r), Prod.snd (Prod.snd r))]), ((0 : Nat), Obj.box [PV.dat (Sh.int IntKind.i64) (Prod.fst r), PV.dat (Sh.int IntKind.i64) (Prod.fst (Prod.snd r)), PV.dat (Sh.int IntKind.i64) (Prod.snd (Prod.snd r))])]))))
           (.fail))
          (.ite (Sp.first [Sp.fieldE l, Sp.ruleE (Prod.fst r, Prod.fst (Prod.snd r), Prod.snd (Prod.snd r))] == (0 : Int))
           (.ite (Sp.okC l (Prod.fst r, Prod.fst (Prod.snd r), Prod.snd (Prod.snd r)))
            (.ite (Sp.okC l (Prod.fst r, Prod.fst (Prod.snd r), Prod.snd (Prod.snd r)))
             (.ite (Prod.snd (Prod.snd (Sp.Cut l (Prod.fst r, Prod.fst (Prod.snd r), Prod.snd (Prod.snd r)))) == Sp.first [Sp.fieldE l, Sp.ruleE (Prod.fst r, Prod.fst (Prod.snd r), Prod.snd (Prod.snd r))])
              (.ite (decide (List.length (Prod.fst (Sp.Cut l (Prod.fst r, Prod.fst (Prod.snd r), Prod.snd (Prod.snd r)))) ≤ (1000000 : Nat)))
               (.ite (Prod.fst (Sp.Cut l (Prod.fst r, Prod.fst (Prod.snd r), Prod.snd (Prod.snd r))) == Sp.remain (Prod.fst r) (Sp.cutLine l (Prod.fst r, Prod.fst (Prod.snd r), Prod.snd (Prod.snd r))) (0 : Nat) l)
                (.ite (Prod.fst (Prod.snd (Sp.Cut l (Prod.fst r, Prod.fst (Prod.snd r), Prod.snd (Prod.snd r)))) == Sp.cutLine l (Prod.fst r, Prod.fst (Prod.snd r), Prod.snd (Prod.snd r)))
                 (.ite (Prod.snd (Sp.Miss l (Prod.fst r, Prod.fst (Prod.snd r), Prod.snd (Prod.snd r))) == Sp.first [Sp.fieldE l, Sp.ruleE (Prod.fst r, Prod.fst (Prod.snd r), Prod.snd (Prod.snd r))])
                  (.ite (Sp.okF (Prod.fst (Sp.Miss l (Prod.fst r, Prod.fst (Prod.snd r), Prod.snd (Prod.snd r)))))
                   (.ite (Sp.okF (Prod.fst (Sp.Miss l (Prod.fst r, Prod.fst (Prod.snd r), Prod.snd (Prod.snd r)))) && Sp.okF (List.map (Sp.miss1 (Prod.fst r) (Sp.cutLine l (Prod.fst r, Prod.fst (Prod.snd r), Prod.snd (Prod.snd r)))) l))
                    (.ite (decide (Prod.fst (Sp.Miss l (Prod.fst r, Prod.fst (Prod.snd r), Prod.snd (Prod.snd r))) = List.map (Sp.miss1 (Prod.fst r) (Sp.cutLine l (Prod.fst r, Prod.fst (Prod.snd r), Prod.snd (Prod.snd r)))) l))
                     (.ite (true)
                      (.leaf (PV.dat Sh.bool true) ([(Nat.add (0 : Nat) (1 : Nat), Obj.arr false (3 : Nat) (Sh.int IntKind.i64) [Sp.fieldE l, Sp.ruleE (Prod.fst r, Prod.fst (Prod.snd r), Prod.snd (Prod.snd r))]), ((0 : Nat), Obj.box [PV.dat (Sh.int IntKind.i64) (Prod.fst r), PV.dat (Sh.int IntKind.i64) (Prod.fst (Prod.snd r)), PV.dat (Sh.int IntKind.i64) (Prod.snd (Prod.snd r))])]))
                      (.fail))
                     (.leaf (PV.bl false) ([(Nat.add (0 : Nat) (1 : Nat), Obj.arr false (3 : Nat) (Sh.int IntKind.i64) [Sp.fieldE l, Sp.ruleE (Prod.fst r, Prod.fst (Prod.snd r), Prod.snd (Prod.snd r))]), ((0 : Nat), Obj.box [PV.dat (Sh.int IntKind.i64) (Prod.fst r), PV.dat (Sh.int IntKind.i64) (Prod.fst (Prod.snd r)), PV.dat (Sh.int IntKind.i64) (Prod.snd (Prod.snd r))])])))
                    (.fail))
                   (.fail))
                  (.leaf (PV.bl false) ([(Nat.add (0 : Nat) (1 : Nat), Obj.arr false (3 : Nat) (Sh.int IntKind.i64) [Sp.fieldE l, Sp.ruleE (Prod.fst r, Prod.fst (Prod.snd r), Prod.snd (Prod.snd r))]), ((0 : Nat), Obj.box [PV.dat (Sh.int IntKind.i64) (Prod.fst r), PV.dat (Sh.int IntKind.i64) (Prod.fst (Prod.snd r)), PV.dat (Sh.int IntKind.i64) (Prod.snd (Prod.snd r))])])))
                 (.leaf (PV.bl false) ([(Nat.add (0 : Nat) (1 : Nat), Obj.arr false (3 : Nat) (Sh.int IntKind.i64) [Sp.fieldE l, Sp.ruleE (Prod.fst r, Prod.fst (Prod.snd r), Prod.snd (Prod.snd r))]), ((0 : Nat), Obj.box [PV.dat (Sh.int IntKind.i64) (Prod.fst r), PV.dat (Sh.int IntKind.i64) (Prod.fst (Prod.snd r)), PV.dat (Sh.int IntKind.i64) (Prod.snd (Prod.snd r))])])))
                (.leaf (PV.bl false) ([(Nat.add (0 : Nat) (1 : Nat), Obj.arr false (3 : Nat) (Sh.int IntKind.i64) [Sp.fieldE l, Sp.ruleE (Prod.fst r, Prod.fst (Prod.snd r), Prod.snd (Prod.snd r))]), ((0 : Nat), Obj.box [PV.dat (Sh.int IntKind.i64) (Prod.fst r), PV.dat (Sh.int IntKind.i64) (Prod.fst (Prod.snd r)), PV.dat (Sh.int IntKind.i64) (Prod.snd (Prod.snd r))])])))
               (.fail))
              (.leaf (PV.bl false) ([(Nat.add (0 : Nat) (1 : Nat), Obj.arr false (3 : Nat) (Sh.int IntKind.i64) [Sp.fieldE l, Sp.ruleE (Prod.fst r, Prod.fst (Prod.snd r), Prod.snd (Prod.snd r))]), ((0 : Nat), Obj.box [PV.dat (Sh.int IntKind.i64) (Prod.fst r), PV.dat (Sh.int IntKind.i64) (Prod.fst (Prod.snd r)), PV.dat (Sh.int IntKind.i64) (Prod.snd (Prod.snd r))])])))
             (.fail))
            (.fail))
           (.ite (Prod.snd (Prod.snd (Sp.Cut l (Prod.fst r, Prod.fst (Prod.snd r), Prod.snd (Prod.snd r)))) == Sp.first [Sp.fieldE l, Sp.ruleE (Prod.fst r, Prod.fst (Prod.snd r), Prod.snd (Prod.snd r))])
            (.ite (decide (List.length (Prod.fst (Sp.Cut l (Prod.fst r, Prod.fst (Prod.snd r), Prod.snd (Prod.snd r)))) ≤ (1000000 : Nat)))
             (.ite (Prod.fst (Sp.Cut l (Prod.fst r, Prod.fst (Prod.snd r), Prod.snd (Prod.snd r))) == [])
              (.ite (Prod.fst (Prod.snd (Sp.Cut l (Prod.fst r, Prod.fst (Prod.snd r), Prod.snd (Prod.snd r)))) == (0 : Int))
               (.ite (Prod.snd (Sp.Miss l (Prod.fst r, Prod.fst (Prod.snd r), Prod.snd (Prod.snd r))) == Sp.first [Sp.fieldE l, Sp.ruleE (Prod.fst r, Prod.fst (Prod.snd r), Prod.snd (Prod.snd r))])
                (.ite (Sp.okF (Prod.fst (Sp.Miss l (Prod.fst r, Prod.fst (Prod.snd r), Prod.snd (Prod.snd r)))))
                 (.ite (Sp.okF (Prod.fst (Sp.Miss l (Prod.fst r, Prod.fst (Prod.snd r), Prod.snd (Prod.snd r)))) && Sp.okF [])
                  (.ite (decide (Prod.fst (Sp.Miss l (Prod.fst r, Prod.fst (Prod.snd r), Prod.snd (Prod.snd r))) = []))
                   (.ite (true)
                    (.leaf (PV.dat Sh.bool true) ([(Nat.add (0 : Nat) (1 : Nat), Obj.arr false (3 : Nat) (Sh.int IntKind.i64) [Sp.fieldE l, Sp.ruleE (Prod.fst r, Prod.fst (Prod.snd r), Prod.snd (Prod.snd r))]), ((0 : Nat), Obj.box [PV.dat (Sh.int IntKind.i64) (Prod.fst r), PV.dat (Sh.int IntKind.i64) (Prod.fst (Prod.snd r)), PV.dat (Sh.int IntKind.i64) (Prod.snd (Prod.snd r))])]))
                    (.fail))
                   (.leaf (PV.bl false) ([(Nat.add (0 : Nat) (1 : Nat), Obj.arr false (3 : Nat) (Sh.int IntKind.i64) [Sp.fieldE l, Sp.ruleE (Prod.fst r, Prod.fst (Prod.snd r), Prod.snd (Prod.snd r))]), ((0 : Nat), Obj.box [PV.dat (Sh.int IntKind.i64) (Prod.fst r), PV.dat (Sh.int IntKind.i64) (Prod.fst (Prod.snd r)), PV.dat (Sh.int IntKind.i64) (Prod.snd (Prod.snd r))])])))
                  (.fail))
                 (.fail))
                (.leaf (PV.bl false) ([(Nat.add (0 : Nat) (1 : Nat), Obj.arr false (3 : Nat) (Sh.int IntKind.i64) [Sp.fieldE l, Sp.ruleE (Prod.fst r, Prod.fst (Prod.snd r), Prod.snd (Prod.snd r))]), ((0 : Nat), Obj.box [PV.dat (Sh.int IntKind.i64) (Prod.fst r), PV.dat (Sh.int IntKind.i64) (Prod.fst (Prod.snd r)), PV.dat (Sh.int IntKind.i64) (Prod.snd (Prod.snd r))])])))
               (.leaf (PV.bl false) ([(Nat.add (0 : Nat) (1 : Nat), Obj.arr false (3 : Nat) (Sh.int IntKind.i64) [Sp.fieldE l, Sp.ruleE (Prod.fst r, Prod.fst (Prod.snd r), Prod.snd (Prod.snd r))]), ((0 : Nat), Obj.box [PV.dat (Sh.int IntKind.i64) (Prod.fst r), PV.dat (Sh.int IntKind.i64) (Prod.fst (Prod.snd r)), PV.dat (Sh.int IntKind.i64) (Prod.snd (Prod.snd r))])])))
              (.leaf (PV.bl false) ([(Nat.add (0 : Nat) (1 : Nat), Obj.arr false (3 : Nat) (Sh.int IntKind.i64) [Sp.fieldE l, Sp.ruleE (Prod.fst r, Prod.fst (Prod.snd r), Prod.snd (Prod.snd r))]), ((0 : Nat), Obj.box [PV.dat (Sh.int IntKind.i64) (Prod.fst r), PV.dat (Sh.int IntKind.i64) (Prod.fst (Prod.snd r)), PV.dat (Sh.int IntKind.i64) (Prod.snd (Prod.snd r))])])))
             (.fail))
            (.leaf (PV.bl false) ([(Nat.add (0 : Nat) (1 : Nat), Obj.arr false (3 : Nat) (Sh.int IntKind.i64) [Sp.fieldE l, Sp.ruleE (Prod.fst r, Prod.fst (Prod.snd r), Prod.snd (Prod.snd r))]), ((0 : Nat), Obj.box [PV.dat (Sh.int IntKind.i64) (Prod.fst r), PV.dat (Sh.int IntKind.i64) (Prod.fst (Prod.snd r)), PV.dat (Sh.int IntKind.i64) (Prod.snd (Prod.snd r))])])))))
         (.fail))
        (.fail))
       (.fail))
      (.fail))
     (.fail))
    (.fail))
   (.fail)))
 (.fail) := by kernel_rfl
end T13
end Go.Pe
end
section
namespace Go.Pe
open Go.Det
theorem hallXC7 : ∀ g sp, XC7.sp g = some sp → SpecOk C7p g sp :=
  sp_cons awake_ok (sp_cons T43.ok (sp_cons T45.ok (sp_cons T46.ok (sp_cons T21.ok (sp_cons T27.ok (sp_cons T65.ok (sp_cons T66.ok (sp_cons T67.ok (sp_cons T68.ok (sp_cons T69.ok (sp_cons T70.ok (sp_cons T71.ok (sp_cons T72.ok (fun g sp h => by cases h))))))))))))))
theorem miss1_ok (a t : Int) {x : LineT} (h : Sp.okLine x = true) : Sp.okLine (Sp.miss1 a t x) = true := by
  obtain ⟨h1, h2, h3⟩ := okLine_of h
  unfold Sp.miss1
  split
  · unfold Sp.okLine
    have : (x.2.2.1.take a.toNat).length ≤ 12 := by simp; omega
    rw [decide_eq_true h1, decide_eq_true this]; rfl
  · exact h
theorem okF_map {l : List LineT} (h : Sp.okF l = true) (a t : Int) : Sp.okF (l.map (Sp.miss1 a t)) = true := by
  obtain ⟨h1, h2⟩ := okF_of h
  unfold Sp.okF
  rw [decide_eq_true (by simp; omega), Bool.true_and, List.all_eq_true]
  intro y hy
  obtain ⟨x, hx, rfl⟩ := List.mem_map.1 hy
  exact miss1_ok a t (h2 x hx)
noncomputable def cEventCuts : PSpec := ⟨[.list shLine, shRule], fun _ => true, [.bool], fun _ => true, false⟩
namespace T13
theorem ok : SpecOk C7p 13 cEventCuts := by
  refine spec7 (X := XC7) rfl hallXC7 (d := 9) (by kernel_rfl) (by kernel_rfl) (by kernel_rfl) (fun (i : List LineT × RuleT) _ => ?_) (isSome_ex (by kernel_rfl))
  obtain ⟨l, r⟩ := i
  have hQ : ∀ ob, Gives cEventCuts (l, r) (.dat .bool true) ob := fun ob => Gives.of rfl rfl rfl
  refine Ends.eq (T_eq l r) (Ends.tt rfl (Ends.ite (fun c => Ends.tt rfl (Ends.leaf (hQ _))) (fun c => ?_)))
  have c : Sp.shortF l 10 = true := by simpa using c
  obtain ⟨hok, hlen⟩ := shortF_of c
  have h205 := (okF_of hok).1
  have hB : Sp.okB l = true := by
    unfold Sp.okB; rw [hok, Bool.true_and, Bool.or_eq_true, decide_eq_true_eq, decide_eq_true_eq]; omega
  rw [show (r.1, r.2.1, r.2.2) = r from rfl]
  have eF : Sp.first [Sp.fieldE l, Sp.ruleE r] = Sp.orE (Sp.fieldE l) (Sp.ruleE r) := by
    rw [first_cons', first_cons']
    unfold Sp.orE
    by_cases h2 : Sp.ruleE r = 0 <;> simp [h2, Sp.first]
  have eC : Sp.cutE l r = Sp.orE (Sp.orE (Sp.fieldE l) (Sp.ruleE r)) (Sp.cutE2 l r) := by unfold Sp.cutE; rw [orE_assoc3]
  rw [eF]
  have bad : ∀ e, Sp.cutE l r = e → e ≠ 0 → Sp.Cut l r = ([], 0, e) ∧ Sp.Miss l r = ([], e) := fun e h he => by
    unfold Sp.Cut Sp.Miss; rw [if_pos (by rw [h]; exact he), if_pos (by rw [h]; exact he), h]; exact ⟨rfl, rfl⟩
  have ok0 : Sp.okF [] = true := rfl
  refine Ends.tt hok (Ends.tt hB (Ends.tt hok (Ends.tt hB (Ends.tt hok (Ends.tt rfl (Ends.tt rfl (Ends.ite (fun c1 => Ends.tt hok (Ends.ite (fun c2 => ?_) (fun c2 => ?_))) (fun c1 => Ends.ff c1 ?_))))))))
  · have c1 : Sp.orE (Sp.fieldE l) (Sp.ruleE r) = 0 := by simpa using c1
    have c2 : Sp.cutE2 l r = 0 := by simpa using c2
    have e0 : Sp.cutE l r = 0 := by rw [eC, c1, c2]; rfl
    have g := good_of hB e0
    have hn := g.n10
    have hrl := remain_len r.1 (Sp.cutLine l r) l 0
    have hcut : Sp.Cut l r = (Sp.remain r.1 (Sp.cutLine l r) 0 l, Sp.cutLine l r, 0) := by unfold Sp.Cut; rw [if_neg (by simp [e0])]
    have hM : Sp.Miss l r = (l.map (Sp.miss1 r.1 (Sp.cutLine l r)), 0) := by unfold Sp.Miss; rw [if_neg (by simp [e0])]
    have hC : Sp.okC l r = true := by unfold Sp.okC; rw [hB, decide_eq_true e0]; rfl
    have hm := okF_map hok r.1 (Sp.cutLine l r)
    rw [hcut, hM, c2]
    exact Ends.tt hC (Ends.tt hC (Ends.tt rfl (Ends.tt (decide_eq_true (by show (Sp.remain r.1 (Sp.cutLine l r) 0 l).length ≤ 1000000; omega)) (Ends.tt (by simp) (Ends.tt (by simp) (Ends.tt rfl (Ends.tt hm (Ends.tt (by rw [hm]; rfl) (Ends.tt (by simp) (Ends.tt rfl (Ends.leaf (hQ _))))))))))))
  · have c1 : Sp.orE (Sp.fieldE l) (Sp.ruleE r) = 0 := by simpa using c1
    have c2 : Sp.cutE2 l r ≠ 0 := by simpa using c2
    obtain ⟨hcut, hM⟩ := bad (Sp.cutE2 l r) (by rw [eC, c1]; rfl) c2
    rw [hcut, hM]
    exact Ends.tt (by simp) (Ends.tt (by simp) (Ends.tt rfl (Ends.tt rfl (Ends.tt (by simp) (Ends.tt ok0 (Ends.tt rfl (Ends.tt (by simp) (Ends.tt rfl (Ends.leaf (hQ _))))))))))
  · have c1 : Sp.orE (Sp.fieldE l) (Sp.ruleE r) ≠ 0 := by simpa using c1
    obtain ⟨hcut, hM⟩ := bad (Sp.orE (Sp.fieldE l) (Sp.ruleE r)) (by rw [eC, Sp.orE_ne _ c1]) c1
    rw [hcut, hM]
    exact Ends.tt (by simp) (Ends.tt (by simp) (Ends.tt rfl (Ends.tt rfl (Ends.tt (by simp) (Ends.tt ok0 (Ends.tt rfl (Ends.tt (by simp) (Ends.tt rfl (Ends.leaf (hQ _))))))))))
end T13
end Go.Pe
end
section
namespace Go.Det
open Go.ChangeShapes Go.WideShapes Go.RowKit
theorem mapM_congr_some {α β : Type} {f g : α → Option β} : ∀ {l : List α} {ys : List β}, l.mapM f = some ys → (∀ a ∈ l, ∀ y ∈ ys, f a = some y → g a = some y) → l.mapM g = some ys
  | [], ys, h, _ => by simpa using h
  | a :: l, ys, h, hg => by
    rw [List.mapM_cons] at h ⊢
    cases hf : f a with
    | none => rw [hf] at h; cases h
    | some y =>
      rw [hf] at h
      cases hl : l.mapM f with
      | none => rw [hl] at h; cases h
      | some zs =>
        rw [hl] at h
        cases h
        rw [hg a (by simp) y (by simp) hf, mapM_congr_some hl (fun b hb z hz hfz => hg b (by simp [hb]) z (by simp [hz]) hfz)]
        rfl
/-- the types that are reached from these, and no slice's element is without cells -/
def kidsB (P : Program) (L : List TypeId) (t : TypeId) : Bool := match P.underlying t with
  | some (.pointer e) | some (.array _ e) | some (.map _ e) => L.contains e
  | some (.slice e) => L.contains e && Nat.ble 1 (P.cellsOf e)
  | some (.struct fs) => fs.toList.all fun f => L.contains f.type
  | _ => true
def closedB (P : Program) (L : List TypeId) : Bool := L.all (kidsB P L)
section
variable {H : Type} {enc : TypeId × Value → H} {P : Program} {W W' : World}
theorem kids_of {L : List TypeId} (h : closedB P L = true) {t : TypeId} (ht : t ∈ L) : kidsB P L t = true := List.all_eq_true.1 h t ht
theorem cell_below (hb : Below W.heap.size W W') {a : Addr} {v : Value} (h : W.cell? a = some v) : W'.cell? a = some v := by
  have hl : a.block < W.heap.size := by
    unfold World.cell? at h
    by_cases hh : a.block < W.heap.size
    · exact hh
    · rw [Array.getElem?_eq_none (by omega)] at h; cases h
  unfold World.cell? at h ⊢
  rw [hb.block _ hl]
  exact h
theorem cells_below (hb : Below W.heap.size W W') {a : Addr} {n : Nat} {cs : List Value} (h : W.cells? 0 a n = some cs) : W'.cells? 0 a n = some cs := by
  unfold World.cells? at h ⊢
  rw [if_pos (Nat.zero_le _)] at h ⊢
  exact mapM_congr_some h fun i _ v _ hv => cell_below hb hv
theorem bind_cells_below (hb : Below W.heap.size W W') {β : Type} {a : Addr} {n : Nat} {f g : List Value → Option β} {y : β} (h : (W.cells? 0 a n).bind f = some y) (hfg : ∀ cs, f cs = some y → g cs = some y) : (W'.cells? 0 a n).bind g = some y := by
  cases hc : W.cells? 0 a n with
  | none => rw [hc] at h; cases h
  | some cs =>
    rw [hc] at h
    rw [cells_below hb hc]
    exact hfg cs h
theorem trod_below (hb : Below W.heap.size W W') {L : List TypeId} (hz : closedB P L = true) {sp : Nat → Bool} : ∀ (fuel : Nat) (t : TypeId) (cs : List Value) (x : DataW H × List MemPlace), t ∈ L →
    DataW.trod enc P W 0 (fun _ => true) true fuel t cs = some x → (∀ p ∈ x.2, sp p.block = true) → DataW.trod enc P W' 0 sp true fuel t cs = some x
  | 0, _, _, _, _, h, _ => by cases h
  | fuel + 1, t, cs, x, ht, h, hs => by
    have ih := trod_below hb hz (sp := sp) fuel
    have hk := kids_of hz ht
    unfold kidsB at hk
    unfold DataW.trod at h ⊢
    split at h <;> try simp only [reduceCtorEq] at h
    all_goals try exact h
    case h_6 e a hu =>
      have hke : e ∈ L := by rw [hu] at hk; simpa using hk
      cases hm : (W.cells? 0 a (P.cellsOf e)).bind (DataW.trod enc P W 0 (fun _ => true) true fuel e) with
      | none => rw [hm] at h; cases h
      | some y =>
        rw [hm] at h
        cases h
        rw [bind_cells_below hb hm (g := DataW.trod enc P W' 0 sp true fuel e) (fun cs hc => ih e cs y hke hc (fun p hp => hs p (by simp [hp])))]
        rfl
    case h_8 e a len cap hu =>
      have hke : e ∈ L ∧ P.cellsOf e ≠ 0 := by
        rw [hu] at hk
        simp only [Bool.and_eq_true, List.contains_iff_mem] at hk
        have := Nat.le_of_ble_eq_true hk.2
        exact ⟨hk.1, by omega⟩
      by_cases hc : 0 ≤ a.block ∧ len ≤ cap ∧ cap ≤ maxLen
      · rw [if_pos hc] at h ⊢
        have step : ∀ (i : Nat) (y : DataW H × List MemPlace), (W.cells? 0 (a.add (i * P.cellsOf e)) (P.cellsOf e)).bind (DataW.trod enc P W 0 (fun _ => true) true fuel e) = some y → (∀ p ∈ y.2, sp p.block = true) →
            (W'.cells? 0 (a.add (i * P.cellsOf e)) (P.cellsOf e)).bind (DataW.trod enc P W' 0 sp true fuel e) = some y := fun i y hy hp => bind_cells_below hb hy fun cs hc => ih e cs y hke.1 hc hp
        cases h1 : (List.range len).mapM (fun i => (W.cells? 0 (a.add (i * P.cellsOf e)) (P.cellsOf e)).bind (DataW.trod enc P W 0 (fun _ => true) true fuel e)) with
        | none => rw [h1] at h; cases h
        | some ys =>
          rw [h1] at h
          simp only [if_true, Option.bind_some] at h
          cases h2 : (List.range (cap - len)).mapM (fun j => (W.cells? 0 (a.add ((len + j) * P.cellsOf e)) (P.cellsOf e)).bind (DataW.trod enc P W 0 (fun _ => true) true fuel e)) with
          | none => rw [h2] at h; cases h
          | some zs =>
            rw [h2] at h
            cases h
            rw [mapM_congr_some h1 fun i _ y hy hi => step i y hi fun p hp => hs p (List.mem_append_right _ (List.mem_flatMap.2 ⟨y, List.mem_append_left _ hy, hp⟩))]
            have h2' := mapM_congr_some h2 fun j _ y hy hj => step (len + j) y hj fun p hp => hs p (List.mem_append_right _ (List.mem_flatMap.2 ⟨y, List.mem_append_right _ hy, hp⟩))
            by_cases hsp : sp a.block = true
            · simp only [hsp, if_true, Option.bind_some]
              rw [h2']
              rfl
            · have e0 : (ys.length + zs.length) * P.cellsOf e = 0 := by
                rcases Nat.eq_zero_or_pos ((ys.length + zs.length) * P.cellsOf e) with h0 | h0
                · exact h0
                · refine absurd (hs (.cell a.block (a.off + 0)) (List.mem_append_left _ ?_)) hsp
                  simp only [MemPlace.row, List.mem_map, List.mem_range]
                  exact ⟨0, h0, rfl⟩
              have e1 : zs = [] := by
                rcases Nat.mul_eq_zero.1 e0 with h0 | h0
                · exact List.length_eq_zero_iff.1 (by omega)
                · exact absurd h0 hke.2
              subst e1
              simp only [hsp, Option.bind_some]
              rfl
      · rw [if_neg hc] at h; cases h
    case h_9 cs _ _ fs hu =>
      have hke : ∀ f ∈ fs.toList, f.type ∈ L := by
        rw [hu] at hk
        intro f hf
        have := List.all_eq_true.1 hk f hf
        simpa using this
      by_cases hc : cs.length = P.cellsOf t
      · rw [if_pos hc] at h ⊢
        cases h1 : fs.toList.mapM (fun f => DataW.trod enc P W 0 (fun _ => true) true fuel f.type ((cs.drop f.offset).take (P.cellsOf f.type))) with
        | none => rw [h1] at h; cases h
        | some ys =>
          rw [h1] at h
          cases h
          rw [mapM_congr_some h1 fun f hfm y hy hf => ih _ _ y (hke f hfm) hf fun p hp => hs p (List.mem_flatMap.2 ⟨y, hy, hp⟩)]
          rfl
      · rw [if_neg hc] at h; cases h
    case h_10 cs _ _ n e hu =>
      have hke : e ∈ L := by rw [hu] at hk; simpa using hk
      by_cases hc : cs.length = P.cellsOf t
      · rw [if_pos hc] at h ⊢
        cases h1 : (List.range n).mapM (fun i => DataW.trod enc P W 0 (fun _ => true) true fuel e ((cs.drop (i * P.cellsOf e)).take (P.cellsOf e))) with
        | none => rw [h1] at h; cases h
        | some ys =>
          rw [h1] at h
          cases h
          rw [mapM_congr_some h1 fun f _ y hy hf => ih _ _ y hke hf fun p hp => hs p (List.mem_flatMap.2 ⟨y, hy, hp⟩)]
          rfl
      · rw [if_neg hc] at h; cases h
    case h_14 k e b hu =>
      have hke : e ∈ L := by rw [hu] at hk; simpa using hk
      have hl : b < W.heap.size := by
        by_cases hh : b < W.heap.size
        · exact hh
        · rw [Array.getElem?_eq_none (by omega)] at h; cases h
      rw [hb.block _ hl]
      split at h
      case h_2 => cases h
      rename_i es clock hes
      simp only
      split at h
      case isFalse => cases h
      rename_i hcond
      rw [if_pos hcond]
      cases h1 : (es.toList.mapM fun x => (keyOf P k x.key).bind fun key => if x.val.formed P e then (DataW.trod enc P W 0 (fun _ => true) true fuel e x.val.cells.toList).map fun y => ((key, y.1), y.2) else none) with
      | none => rw [h1] at h; cases h
      | some ys =>
        rw [h1] at h
        simp only [Option.bind_some] at h
        split at h
        case isFalse => cases h
        rename_i hri
        cases h
        rw [mapM_congr_some h1 fun en _ y hy hf => ?_]
        · simp only [Option.bind_some]
          rw [if_pos hri]
        · cases hk : keyOf P k en.key with
          | none => rw [hk] at hf; cases hf
          | some key =>
            rw [hk] at hf
            simp only [Option.bind_some] at hf ⊢
            split at hf
            case isFalse => cases hf
            rename_i hfo
            rw [if_pos hfo]
            cases htt : DataW.trod enc P W 0 (fun _ => true) true fuel e en.val.cells.toList with
            | none => rw [htt] at hf; cases hf
            | some u =>
              rw [htt] at hf
              cases hf
              rw [ih _ _ u hke htt fun p hp => hs p (by simp only [List.mem_cons, List.mem_flatMap]; exact .inr ⟨_, hy, hp⟩)]
              rfl
theorem Trod_below (hb : Below W.heap.size W W') {L : List TypeId} (hz : closedB P L = true) {sp : Nat → Bool} {t : TypeId} {v : Value} {d : DataW H} {p : List MemPlace}
    (ht : t ∈ L) (h : DataW.Trod enc P W 0 (fun _ => true) true t v d p) (hs : ∀ q ∈ p, sp q.block = true) : DataW.Trod enc P W' 0 sp true t v d p := by
  obtain ⟨fuel, hf⟩ := h
  exact ⟨fuel, trod_below hb hz fuel t _ _ ht hf hs⟩
theorem TrodAll_below (hb : Below W.heap.size W W') {L : List TypeId} (hz : closedB P L = true) {sp : Nat → Bool} : ∀ {ts : List TypeId} {vs : List Value} {ds : List (DataW H)} {p : List MemPlace}, (∀ t ∈ ts, t ∈ L) →
    DataW.TrodAll enc P W 0 (fun _ => true) true ts vs ds p → (∀ q ∈ p, sp q.block = true) → DataW.TrodAll enc P W' 0 sp true ts vs ds p
  | [], vs, ds, p, _, h, _ => by
    obtain ⟨rfl, rfl, rfl⟩ := trodAll_nil h
    rfl
  | t :: ts, vs, ds, p, hl, h, hs => by
    obtain ⟨v, vs1, d, ds1, a, b, rfl, rfl, rfl, h1, h2⟩ := trodAll_cons h
    exact ⟨a, b, Trod_below hb hz (hl t (by simp)) h1 (fun q hq => hs q (by simp [hq])), TrodAll_below hb hz (fun u hu => hl u (by simp [hu])) h2 (fun q hq => hs q (by simp [hq])), rfl⟩
/-- the answer of a law: true, and what is read of the arguments is as it was -/
theorem post_true {f : Func} {s : ChangeSpec} {apart fresh handsOn again : Bool} {args : Array Value} {ds gs : List (DataW H)} {before : List MemPlace} {tb : TypeId}
    (hW : DataW.Whole enc P f.params.toList s.vars apart W args.toList ds gs before) (hv : s.vars = []) (hr : f.resultTypes = #[tb]) (ht : P.underlying tb = some .bool)
    (hfn : s.fn H ds = { results := [.lit (.bool true)], args := ds }) (hb : Below W.heap.size W W') {L : List TypeId} (hz : closedB P L = true) (hl : f.params.toList.all L.contains = true) :
    s.post enc P f apart fresh handsOn again W args (.bool true) W' := by
  have hlt := hW.lt
  have hl : ∀ t ∈ f.params.toList, t ∈ L := fun t ht => by have := List.all_eq_true.1 hl t ht; simpa using this
  obtain ⟨p, q, hA, hV, rfl, hfz, hnd⟩ := hW
  have hV' := hV
  rw [hv] at hV'
  obtain ⟨rfl, rfl⟩ := trodVars_none hV'
  simp only [List.append_nil] at hlt hfz hnd ⊢
  have hold : ∀ x ∈ p, (fun b => decide (b < W.heap.size)) x.block = true := fun x hx => by simpa using hlt x hx
  have hW0 : DataW.Whole enc P f.params.toList s.vars apart W args.toList ds [] p := ⟨p, [], hA, hV, by simp, hfz, hnd⟩
  have hres : ∀ (b : Nat) (sp : Nat → Bool) (hd : Bool), DataW.TrodAll enc P W' b sp hd f.resultTypes.toList ((Value.bool true).resultList f.resultTypes.size) [.lit (.bool true)] [] := by
    intro b sp hd
    rw [hr]
    exact ⟨[], [], shut_bool ht true, rfl, rfl⟩
  have hok : ∀ (j : Nat) (t : TypeId) (r : Value), f.resultTypes[j]? = some t → ((Value.bool true).resultList f.resultTypes.size)[j]? = some r → Value.okWide P W' .any 0 t r := by
    exact ok_one hr rfl (okWide_bool_mk ht true)
  have hvars : ∀ sp : Nat → Bool, DataW.TrodVars enc P W' sp s.vars [] [] := fun sp => by rw [hv]; rfl
  have hfn : s.fn H (ds ++ []) = { results := [.lit (.bool true)], args := ds } := by rw [List.append_nil]; exact hfn
  refine ⟨ds, [], p, [], p, [], hW0, ?_, ?_, ?_, World.keptBut_mono (fun x hx => ⟨hx, .inr (.inl hx)⟩) (hb.frame (· ∈ p)), fun _ => ?_⟩
  · rw [hfn]; exact hres _ _ _
  · rw [hfn]; exact TrodAll_below hb hz hl hA hold
  · rw [hfn]; exact hvars _
  · refine ⟨hok, _, _, ([] ++ p) ++ [], ⟨[] ++ p, [], trodAll_append (TrodAll_below hb hz hl hA (fun _ _ => rfl)) (hres _ _ _), hvars _, rfl, ?_, ?_⟩, ?_⟩
    · intro b off hp
      have hp : MemPlace.cell b off ∈ p := by simpa using hp
      rw [hb.frozen (show b < W.heap.size from hlt _ hp)]
      exact hfz b off hp
    · intro ha
      simpa using hnd ha
    · intro x hx _
      simpa using hx
end
end Go.Det
end
section
namespace Go.Pe
open Go.Det Go.RowKit
noncomputable section
open Go.Proofs.Tryz (prog)
theorem res_true {F' : Fz} {v : V} (h : PC F' (.dat .bool true) v) : v = .bool true := by
  have := h (fun _ => none) 0
  simp only [PR, DC] at this
  simpa using this
end
end Go.Pe
end
