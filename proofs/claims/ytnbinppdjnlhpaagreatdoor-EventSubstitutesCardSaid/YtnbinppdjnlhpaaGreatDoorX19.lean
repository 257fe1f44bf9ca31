import Derived.Test.YtnbinppdjnlhpaaGreatDoorX18
import Derived.Test.YtnbinppdjnlhpaaGreatDoorX09
/- A part of the proofs of the laws of one chapter (no law is stated here). Made by program out of texts by AI agents. -/
section
/- What functions of chapter 7 compute, in plain words. -/
namespace Go.Sp
def first : List Int → Int
  | [] => 0
  | x :: l => if x ≠ 0 then x else first l
def whn (c : Bool) (e : Int) : Int := bif c then e else 0
def out (n a b : Int) : Int := if n < a then 3 else if n > b then 3 else 0
def iota (n : Nat) : List Int := (List.range n).map Int.ofNat
def swp (l : List Int) (i k : Nat) : List Int := (l.set i (l.getD k 0)).set k (l.getD i 0)
def nkey (key : Int) : Int := Int.tmod (48271 * key) 2147483647
def shuffle : Nat → Int → List Int → List Int
  | 0, _, l => l
  | i + 1, key, l => shuffle i (nkey key) (swp l (i + 1) (Int.tmod (nkey key) (i + 2)).toNat)
def ballot (n key : Int) : List Int := shuffle (n.toNat - 1) key (iota n.toNat)
def expand (l : List Int) : List Int := l.flatMap fun s => [s, 2 * l.length + 1 - s]
def grow : Nat → Int → List Int → List Int
  | 0, _, l => l
  | f + 1, n, l => if (l.length : Int) < n then grow f n (expand l) else l
def strike (n : Int) (l : List Int) : List Int := l.map fun s => if s > n then 0 else s
def bracket (n : Int) : List Int := strike n (grow 8 n [1])
def size : Nat → Int → Int → Int
  | 0, _, s => s
  | f + 1, n, s => if s < n then size f n (2 * s) else s
def index : List Int → Int → Int → Int
  | [], _, _ => -1
  | y :: l, x, i => if x = y then i else index l x (i + 1)
def lastIdx : List Int → Int → Int → Int → Int
  | [], _, _, r => r
  | y :: l, x, i, r => lastIdx l x (i + 1) (if y = x then i else r)
def rnd : Nat → Int → Int → Int → Int
  | 0, _, _, r => r
  | f + 1, i, k, r => if i = k then r else rnd f (Int.tdiv i 2) (Int.tdiv k 2) (r + 1)
def ballotE (n key : Int) : Int := first [out n 0 200, out key 1 2147483646]
def Ballot (n key : Int) : List Int × Int := if ballotE n key ≠ 0 then ([], ballotE n key) else (ballot n key, 0)
def Bracket (n : Int) : List Int × Int := if out n 1 200 ≠ 0 then ([], out n 1 200) else (bracket n, 0)
def meetE (n a b : Int) : Int := first [out n 1 200, whn (decide (Go.Pe.imin a b < 1) || decide (Go.Pe.imax a b > n)) 10, whn (a == b) 9]
def Meet (n a b : Int) : Int × Int := if meetE n a b ≠ 0 then (0, meetE n a b) else (rnd 10 (index (bracket n) a 0) (index (bracket n) b 0) 0, 0)
def meetR (n a b : Int) : Int := rnd 10 (lastIdx (bracket n) a 0 0) (lastIdx (bracket n) b 0 0) 0
end Go.Sp
namespace Go.Pe
open Go.Det
noncomputable section
abbrev i64 : Sh := .int .i64
abbrev li64 : Sh := .list (.int .i64)
noncomputable def cFirst : PSpec := ⟨[li64], fun l => decide (l.length ≤ 1000000), [i64], fun l => Sp.first l, false⟩
noncomputable def cOut : PSpec := ⟨[i64, i64, i64], fun _ => true, [i64], fun i => Sp.out i.1 i.2.1 i.2.2, false⟩
noncomputable def cWhen : PSpec := ⟨[.bool, i64], fun _ => true, [i64], fun i => Sp.whn i.1 i.2, false⟩
noncomputable def cKey : PSpec := ⟨[i64], fun _ => true, [i64], fun k => Sp.out k 1 2147483646, false⟩
noncomputable def cballot : PSpec := ⟨[i64, i64], fun i => decide (0 ≤ i.1) && decide (i.1 ≤ 200) && decide (1 ≤ i.2) && decide (i.2 ≤ 2147483646), [li64], fun i => Sp.ballot i.1 i.2, false⟩
noncomputable def cbracket : PSpec := ⟨[i64], fun n => decide (1 ≤ (n : Int)) && decide ((n : Int) ≤ 200), [li64], fun n => Sp.bracket n, false⟩
noncomputable def cSize : PSpec := ⟨[i64], fun n => decide ((n : Int) ≤ 200), [i64], fun n => Sp.size 8 n 1, false⟩
noncomputable def cIndex : PSpec := ⟨[li64, i64], fun i => decide (i.1.length ≤ 1000000), [i64], fun i => Sp.index i.1 i.2 0, false⟩
noncomputable def cSame : PSpec := ⟨[li64, li64], fun i => decide (i.1.length ≤ 1000000), [.bool], fun i => i.1 == i.2, false⟩
noncomputable def cBallot : PSpec := ⟨[i64, i64], fun _ => true, [li64, i64], fun i => Sp.Ballot i.1 i.2, false⟩
noncomputable def cBracket : PSpec := ⟨[i64], fun _ => true, [li64, i64], fun n => Sp.Bracket n, false⟩
noncomputable def cMeet : PSpec := ⟨[i64, i64, i64], fun _ => true, [i64, i64], fun i => Sp.Meet i.1 i.2.1 i.2.2, false⟩
noncomputable def cMeetR : PSpec := ⟨[i64, i64, i64], fun i => decide (1 ≤ i.1) && decide (i.1 ≤ 200), [i64], fun i => Sp.meetR i.1 i.2.1 i.2.2, false⟩
noncomputable def cAwake : PSpec := ⟨[], fun _ => true, [.bool], fun _ => true, false⟩
noncomputable def X70 : PCtx := X7 []
noncomputable def X71 : PCtx := X7 [(87, cFirst), (88, cOut), (92, cWhen), (93, cIndex), (95, cSize), (21, cFirst), (22, cOut), (94, cOut), (27, cSame), (90, cballot), (91, cbracket), (24, cballot)]
noncomputable def X72 : PCtx := X7 [(89, cKey), (23, cKey), (25, cbracket), (87, cFirst), (88, cOut), (92, cWhen), (93, cIndex), (95, cSize), (21, cFirst), (22, cOut), (94, cOut), (27, cSame), (90, cballot), (91, cbracket), (24, cballot)]
noncomputable def X73 : PCtx := X7c 3 [3, 12, 16, 18, 20] [(20, [7, 8, 9, 10, 11, 12, 13, 14, 15, 16, 17, 18]), (18, [0, 5, 7, 8, 9, 10, 11, 12, 13, 14, 15, 16, 17, 18]), (16, [0, 5, 7, 8, 9, 10, 11, 12, 13, 14, 15, 16, 17, 18]), (12, [0, 1, 5, 7, 8, 9, 10, 11, 12, 13, 14, 15]), (3, [0, 1, 5])] [(17, cAwake), (18, cBallot), (19, cBracket), (20, cMeet), (26, cMeetR), (89, cKey), (23, cKey), (25, cbracket), (87, cFirst), (88, cOut), (92, cWhen), (93, cIndex), (95, cSize), (21, cFirst), (22, cOut), (94, cOut), (27, cSame), (90, cballot), (91, cbracket), (24, cballot)]
end
end Go.Pe
end
section
/- What the functions about players, slots and losers compute, in plain words. -/
namespace Go.Sp
abbrev Str := List UInt8
def nameErr (seen : List Str) (x : Str) : Int := if isName x = true then (if x ∈ seen then 9 else 0) else 8
def namesE (seen : List Str) : List Str → Int
  | [] => 0
  | x :: r => if nameErr seen x = 0 then namesE (seen ++ [x]) r else nameErr seen x
def playersE (l : List Str) : Int := if l.length = 0 then 12 else if 200 < l.length then 5 else namesE [] l
/-- the players of a bracket's seeds -/
def seat (l : List Str) (s : Int) : Str := if 0 < s then l.getD (s - 1).toNat [] else []
def slotsE (seen : List Str) : List Str → Int
  | [] => 0
  | x :: r => if x = [] then slotsE seen r else if nameErr seen x = 0 then slotsE (seen ++ [x]) r else nameErr seen x
def losersE (slots seen : List Str) : List Str → Int
  | [] => 0
  | x :: r => if x = [] ∨ x ∉ slots then 10 else if x ∈ seen then 9 else losersE slots (seen ++ [x]) r
def stays (losers : List Str) (s : Str) : Bool := decide (s ≠ []) && decide (s ∉ losers)
def openE (losers : List Str) : List Str → Int
  | a :: b :: r => if stays losers a = true ∧ stays losers b = true then 19 else openE losers r
  | _ => 0
def winners (losers : List Str) : List Str → List Str
  | a :: b :: r => (if stays losers a = true then a else if stays losers b = true then b else []) :: winners losers r
  | _ => []
def winnersR (losers : List Str) : List Str → List Str
  | a :: b :: r => (if stays losers b = true then b else if stays losers a = true then a else []) :: winnersR losers r
  | _ => []
theorem winners_eq {losers : List Str} : ∀ {l : List Str}, openE losers l = 0 → winners losers l = winnersR losers l
  | [], _ => rfl
  | [_], _ => rfl
  | a :: b :: r, h => by
    simp only [openE] at h
    split at h
    · cases h
    · rename_i hn
      simp only [winners, winnersR, winners_eq h]
      by_cases ha : stays losers a = true <;> by_cases hb : stays losers b = true <;> simp_all
def slots2 (n : Nat) : Bool := Nat.ble 2 n && Nat.ble n 256 && (Nat.land n (n - 1) == 0)
/-- the first error -/
def orE (a b : Int) : Int := if a = 0 then b else a
theorem orE_0 (b : Int) : orE 0 b = b := rfl
theorem orE_ne {a : Int} (b : Int) (h : a ≠ 0) : orE a b = a := if_neg h
def roundE (slots losers : List Str) : Int :=
  if slots2 slots.length = false then 2 else orE (slotsE [] slots) (orE (losersE slots [] losers) (openE losers slots))
theorem namesE_app (seen : List Str) : ∀ (l : List Str) (x : Str) , namesE seen (l ++ [x]) = if namesE seen l = 0 then nameErr (seen ++ l) x else namesE seen l
  | [], x => by simp only [List.nil_append, namesE, List.append_nil, if_true]; split <;> simp_all
  | y :: l, x => by
    simp only [List.cons_append, namesE]
    split
    · rw [namesE_app]; simp
    · rfl
def has (l : List Str) (x : Str) : Bool := decide (x ∈ l)
def sameN (a b : List Str) : Bool := decide (a = b)
def shortNames (l : List (List UInt8)) (n : Int) : Bool := !((decide ((l.length : Int) > n) && decide (l.length ≤ 200)) || decide (300 < l.length)) && l.all fun s => decide (s.length ≤ 40)
/-- short enough -/
def okN (l : List (List UInt8)) : Bool := decide (l.length ≤ 300) && l.all fun s => decide (s.length ≤ 40)
def Draw (l : List (List UInt8)) : List (List UInt8) × Int := if playersE l ≠ 0 then ([], playersE l) else ((bracket (l.length : Int)).map (seat l), 0)
def Advance (slots losers : List (List UInt8)) : List (List UInt8) × Int := if roundE slots losers ≠ 0 then ([], roundE slots losers) else (winners losers slots, 0)
end Go.Sp
end
section
/- Contracts about players, slots and losers. -/
namespace Go.Pe
open Go.Det
noncomputable section
abbrev lstr : Sh := .list .str
noncomputable def cIsName : PSpec := ⟨[.str], fun s => decide (s.length ≤ 1000000), [.bool], fun s => Sp.isName s, false⟩
noncomputable def cHas : PSpec := ⟨[lstr, .str], fun i => decide (i.1.length ≤ 1000000), [.bool], fun i => Sp.has i.1 i.2, false⟩
noncomputable def cSameN : PSpec := ⟨[lstr, lstr], fun i => decide (i.1.length ≤ 1000000), [.bool], fun i => Sp.sameN i.1 i.2, false⟩
noncomputable def cShortN : PSpec := ⟨[lstr, i64], fun _ => true, [.bool], fun i => Sp.shortNames i.1 i.2, false⟩
noncomputable def cCheckName : PSpec := ⟨[lstr, i64], fun i => Sp.okN i.1 && decide (0 ≤ (i.2 : Int)) && decide ((i.2 : Int) < (i.1.length : Int)), [i64], fun i => Sp.nameErr ((i.1 : List (List UInt8)).take (i.2 : Int).toNat) ((i.1 : List (List UInt8)).getD (i.2 : Int).toNat []), false⟩
noncomputable def cPlayers : PSpec := ⟨[lstr], fun l => Sp.okN l, [i64], fun l => Sp.playersE l, false⟩
noncomputable def cDrawR : PSpec := ⟨[lstr], fun l => decide (1 ≤ l.length) && decide (l.length ≤ 200), [lstr], fun l => (Sp.bracket (l.length : Int)).map (Sp.seat l), false⟩
noncomputable def cDraw : PSpec := ⟨[lstr], fun l => Sp.okN l, [lstr, i64], fun l => Sp.Draw l, false⟩
noncomputable def cRoundE : PSpec := ⟨[lstr, lstr], fun i => Sp.okN i.1 && Sp.okN i.2, [i64], fun i => Sp.roundE i.1 i.2, false⟩
noncomputable def cAdvR : PSpec := ⟨[lstr, lstr], fun i => Sp.okN i.1 && Sp.okN i.2 && decide ((i.1 : List (List UInt8)).length % 2 = 0), [lstr], fun i => Sp.winnersR i.2 i.1, false⟩
noncomputable def cAdv : PSpec := ⟨[lstr, lstr], fun i => Sp.okN i.1 && Sp.okN i.2, [lstr, i64], fun i => Sp.Advance i.1 i.2, false⟩
noncomputable def l80 : List (FuncId × PSpec) := [(158, cIsName), (113, cIsName), (84, cHas), (42, cSameN), (35, cShortN), (87, cFirst), (88, cOut), (92, cWhen), (93, cIndex), (95, cSize), (21, cFirst), (22, cOut), (94, cOut), (27, cSame), (91, cbracket), (25, cbracket)]
noncomputable def X80 : PCtx := X7 l80
noncomputable def X81 : PCtx := X7 ((112, cCheckName) :: (104, cPlayers) :: l80)
noncomputable def cSize2 : PSpec := ⟨[i64], fun n => decide ((n : Int) ≤ 256), [i64], fun n => Sp.size 8 n 1, false⟩
noncomputable def X83 : PCtx := X7 ((95, cSize2) :: l80)
noncomputable def X82 : PCtx := X7f [(37, [13, 22, 24, 26])] [(37, [(24, [(16, .bool)])])] [(37, [(13, [0, 1, 7]), (22, [0, 11]), (24, [0, 15, 16]), (26, [0, 15]), (6, [0, 1, 7, 33, 34, 35]), (15, [0, 7, 11, 49, 50, 51])])] ((112, cCheckName) :: (104, cPlayers) :: l80)
noncomputable def l84 : List (FuncId × PSpec) := [(17, cAwake), (36, cDraw), (37, cAdv), (38, cPlayers), (39, cRoundE), (40, cDrawR), (41, cAdvR), (42, cSameN), (35, cShortN)]
noncomputable def X84 : PCtx := X7f [(6, [3, 9, 11])] [(6, [(9, [(13, .str)]), (11, [(13, .str), (14, .str)])])] [] l84
end
end Go.Pe
end
section
/- Decision trees, by program. -/
namespace Go.Pe
open Go.Det
namespace T6
noncomputable def T (l : List (List UInt8)) (s : List (List UInt8)) (q : List (List UInt8)) : Tr := tree X84 false 9 6 (valsOf ([Sh.list Sh.str, Sh.list Sh.str, Sh.list Sh.str]) (l, s, q))
/-- function 6, region 3 -/
noncomputable def L1 (v0 : List (List UInt8)) (v1 : List (List UInt8)) (v2 : List (List UInt8)) : Tr := re ((T [] [] []).L.R.L.R.L.R) (mkSt (75) [(0, PV.dat (Sh.list Sh.str) v0), (1, PV.dat (Sh.list Sh.str) v1), (2, PV.dat (Sh.list Sh.str) v2)] [] (0))
theorem T_eq (l : List (List UInt8)) (s : List (List UInt8)) (q : List (List UInt8)) : T l s q = .ite (true)
 (.ite (!Sp.shortNames l (20 : Int))
  (.ite (true)
   (.leaf (PV.dat Sh.bool true) ([]))
   (.fail))
  (.ite (true)
   (.ite (!Sp.shortNames s (33 : Int))
    (.ite (true)
     (.leaf (PV.dat Sh.bool true) ([]))
     (.fail))
    (.ite (true)
     (.ite (!Sp.shortNames q (20 : Int))
      (.ite (true)
       (.leaf (PV.dat Sh.bool true) ([]))
       (.fail))
      (L1 l s q))
     (.fail)))
   (.fail)))
 (.fail) := by kernel_rfl
/-- function 6, region 9 -/
noncomputable def L2 (v1 : List (List UInt8)) (v2 : List (List UInt8)) (v7 : List (List UInt8)) (v8 : Int) (v9 : List (List UInt8)) (v10 : Int) (v11 : Int) (v12 : Int) (v13 : List (List UInt8)) : Tr := re ((stepT X84 (L1 [] [] [])).L.L.L.L.L.L) (mkSt (75) [(1, PV.dat (Sh.list Sh.str) v1), (2, PV.dat (Sh.list Sh.str) v2), (7, PV.dat (Sh.list Sh.str) v7), (8, PV.dat (Sh.int IntKind.i64) v8), (9, PV.dat (Sh.list Sh.str) v9), (10, PV.dat (Sh.int IntKind.i64) v10), (11, PV.dat (Sh.int IntKind.i64) v11), (12, PV.dat (Sh.int IntKind.i64) v12), (13, PV.dat (Sh.list Sh.str) v13), (14, PV.nil)] [] (0))
theorem L1_eq (v0 : List (List UInt8)) (v1 : List (List UInt8)) (v2 : List (List UInt8)) : stepT X84 (L1 v0 v1 v2) = .ite (Sp.okN v0)
 (.ite (Sp.okN v1 && Sp.okN v2)
  (.ite (Sp.okN v0)
   (.ite (Sp.okN v1 && Sp.okN v2)
    (.ite (Sp.playersE v0 == (0 : Int))
     (.ite (decide ((1 : Nat) ≤ List.length v0) && decide (List.length v0 ≤ (200 : Nat)))
      (L2 v1 v2 (Prod.fst (Sp.Draw v0)) (Prod.snd (Sp.Draw v0)) (Prod.fst (Sp.Advance v1 v2)) (Prod.snd (Sp.Advance v1 v2)) (Sp.playersE v0) (Sp.roundE v1 v2) (List.map (Sp.seat v0) (Sp.bracket (↑(List.length v0) : Int))))
      (.fail))
     (L2 v1 v2 (Prod.fst (Sp.Draw v0)) (Prod.snd (Sp.Draw v0)) (Prod.fst (Sp.Advance v1 v2)) (Prod.snd (Sp.Advance v1 v2)) (Sp.playersE v0) (Sp.roundE v1 v2) []))
    (.fail))
   (.fail))
  (.fail))
 (.fail) := by kernel_rfl
/-- function 6, region 11 -/
noncomputable def L3 (v7 : List (List UInt8)) (v8 : Int) (v9 : List (List UInt8)) (v10 : Int) (v11 : Int) (v12 : Int) (v13 : List (List UInt8)) (v14 : List (List UInt8)) : Tr := re ((stepT X84 (L2 [] [] [] (0 : Int) [] (0 : Int) (0 : Int) (0 : Int) [])).L.L) (mkSt (75) [(7, PV.dat (Sh.list Sh.str) v7), (8, PV.dat (Sh.int IntKind.i64) v8), (9, PV.dat (Sh.list Sh.str) v9), (10, PV.dat (Sh.int IntKind.i64) v10), (11, PV.dat (Sh.int IntKind.i64) v11), (12, PV.dat (Sh.int IntKind.i64) v12), (13, PV.dat (Sh.list Sh.str) v13), (14, PV.dat (Sh.list Sh.str) v14)] [] (0))
theorem L2_eq (v1 : List (List UInt8)) (v2 : List (List UInt8)) (v7 : List (List UInt8)) (v8 : Int) (v9 : List (List UInt8)) (v10 : Int) (v11 : Int) (v12 : Int) (v13 : List (List UInt8)) : stepT X84 (L2 v1 v2 v7 v8 v9 v10 v11 v12 v13) = .ite (v12 == (0 : Int))
 (.ite (Sp.okN v1 && Sp.okN v2 && decide (List.length v1 % (2 : Nat) = (0 : Nat)))
  (L3 v7 v8 v9 v10 v11 v12 v13 (Sp.winnersR v2 v1))
  (.fail))
 (L3 v7 v8 v9 v10 v11 v12 v13 []) := by kernel_rfl
theorem L3_eq (v7 : List (List UInt8)) (v8 : Int) (v9 : List (List UInt8)) (v10 : Int) (v11 : Int) (v12 : Int) (v13 : List (List UInt8)) (v14 : List (List UInt8)) : stepT X84 (L3 v7 v8 v9 v10 v11 v12 v13 v14) = .ite (v8 == v11)
 (.ite (decide (List.length v7 ≤ (1000000 : Nat)))
  (.ite (Sp.sameN v7 v13)
   (.ite (v10 == v12)
    (.ite (decide (List.length v9 ≤ (1000000 : Nat)))
     (.ite (Sp.sameN v9 v14)
      (.ite (true)
       (.leaf (PV.dat Sh.bool true) ([]))
       (.fail))
      (.leaf (PV.bl false) ([])))
     (.fail))
    (.leaf (PV.bl false) ([])))
   (.leaf (PV.bl false) ([])))
  (.fail))
 (.leaf (PV.bl false) ([])) := by kernel_rfl
end T6
end Go.Pe
end
