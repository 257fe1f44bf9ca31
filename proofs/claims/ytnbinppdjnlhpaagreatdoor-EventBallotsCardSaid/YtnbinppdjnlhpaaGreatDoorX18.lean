import Derived.Test.YtnbinppdjnlhpaaGreatDoorX17
/- A part of the proofs of the laws of one chapter (no law is stated here). Made by program out of texts by AI agents. -/
section
/- What functions of chapter 7 compute, in plain words. -/
namespace Go.Sp
def first : List Int → Int
  | [] => 0
  | x :: l => if x ≠ 0 then x else first l
def whn (c : Bool) (e : Int) : Int := bif c then e else 0
def out (n a b : Int) : Int := if n < a then 3 else if n > b then 3 else 0
def iota (n : Nat) : List Int := (List.range n).map Int.ofNat
def swp (l : List Int) (i k : Nat) : List Int := (l.set i (l.getD k 0)).set k (l.getD i 0)
def nkey (key : Int) : Int := Int.tmod (48271 * key) 2147483647
def shuffle : Nat → Int → List Int → List Int
  | 0, _, l => l
  | i + 1, key, l => shuffle i (nkey key) (swp l (i + 1) (Int.tmod (nkey key) (i + 2)).toNat)
def ballot (n key : Int) : List Int := shuffle (n.toNat - 1) key (iota n.toNat)
def expand (l : List Int) : List Int := l.flatMap fun s => [s, 2 * l.length + 1 - s]
def grow : Nat → Int → List Int → List Int
  | 0, _, l => l
  | f + 1, n, l => if (l.length : Int) < n then grow f n (expand l) else l
def strike (n : Int) (l : List Int) : List Int := l.map fun s => if s > n then 0 else s
def bracket (n : Int) : List Int := strike n (grow 8 n [1])
def size : Nat → Int → Int → Int
  | 0, _, s => s
  | f + 1, n, s => if s < n then size f n (2 * s) else s
def index : List Int → Int → Int → Int
  | [], _, _ => -1
  | y :: l, x, i => if x = y then i else index l x (i + 1)
def lastIdx : List Int → Int → Int → Int → Int
  | [], _, _, r => r
  | y :: l, x, i, r => lastIdx l x (i + 1) (if y = x then i else r)
def rnd : Nat → Int → Int → Int → Int
  | 0, _, _, r => r
  | f + 1, i, k, r => if i = k then r else rnd f (Int.tdiv i 2) (Int.tdiv k 2) (r + 1)
def ballotE (n key : Int) : Int := first [out n 0 200, out key 1 2147483646]
def Ballot (n key : Int) : List Int × Int := if ballotE n key ≠ 0 then ([], ballotE n key) else (ballot n key, 0)
def Bracket (n : Int) : List Int × Int := if out n 1 200 ≠ 0 then ([], out n 1 200) else (bracket n, 0)
def meetE (n a b : Int) : Int := first [out n 1 200, whn (decide (Go.Pe.imin a b < 1) || decide (Go.Pe.imax a b > n)) 10, whn (a == b) 9]
def Meet (n a b : Int) : Int × Int := if meetE n a b ≠ 0 then (0, meetE n a b) else (rnd 10 (index (bracket n) a 0) (index (bracket n) b 0) 0, 0)
def meetR (n a b : Int) : Int := rnd 10 (lastIdx (bracket n) a 0 0) (lastIdx (bracket n) b 0 0) 0
end Go.Sp
namespace Go.Pe
open Go.Det
noncomputable section
abbrev i64 : Sh := .int .i64
abbrev li64 : Sh := .list (.int .i64)
noncomputable def cFirst : PSpec := ⟨[li64], fun l => decide (l.length ≤ 1000000), [i64], fun l => Sp.first l, false⟩
noncomputable def cOut : PSpec := ⟨[i64, i64, i64], fun _ => true, [i64], fun i => Sp.out i.1 i.2.1 i.2.2, false⟩
noncomputable def cWhen : PSpec := ⟨[.bool, i64], fun _ => true, [i64], fun i => Sp.whn i.1 i.2, false⟩
noncomputable def cKey : PSpec := ⟨[i64], fun _ => true, [i64], fun k => Sp.out k 1 2147483646, false⟩
noncomputable def cballot : PSpec := ⟨[i64, i64], fun i => decide (0 ≤ i.1) && decide (i.1 ≤ 200) && decide (1 ≤ i.2) && decide (i.2 ≤ 2147483646), [li64], fun i => Sp.ballot i.1 i.2, false⟩
noncomputable def cbracket : PSpec := ⟨[i64], fun n => decide (1 ≤ (n : Int)) && decide ((n : Int) ≤ 200), [li64], fun n => Sp.bracket n, false⟩
noncomputable def cSize : PSpec := ⟨[i64], fun n => decide ((n : Int) ≤ 200), [i64], fun n => Sp.size 8 n 1, false⟩
noncomputable def cIndex : PSpec := ⟨[li64, i64], fun i => decide (i.1.length ≤ 1000000), [i64], fun i => Sp.index i.1 i.2 0, false⟩
noncomputable def cSame : PSpec := ⟨[li64, li64], fun i => decide (i.1.length ≤ 1000000), [.bool], fun i => i.1 == i.2, false⟩
noncomputable def cBallot : PSpec := ⟨[i64, i64], fun _ => true, [li64, i64], fun i => Sp.Ballot i.1 i.2, false⟩
noncomputable def cBracket : PSpec := ⟨[i64], fun _ => true, [li64, i64], fun n => Sp.Bracket n, false⟩
noncomputable def cMeet : PSpec := ⟨[i64, i64, i64], fun _ => true, [i64, i64], fun i => Sp.Meet i.1 i.2.1 i.2.2, false⟩
noncomputable def cMeetR : PSpec := ⟨[i64, i64, i64], fun i => decide (1 ≤ i.1) && decide (i.1 ≤ 200), [i64], fun i => Sp.meetR i.1 i.2.1 i.2.2, false⟩
noncomputable def cAwake : PSpec := ⟨[], fun _ => true, [.bool], fun _ => true, false⟩
noncomputable def X70 : PCtx := X7 []
noncomputable def X71 : PCtx := X7 [(87, cFirst), (88, cOut), (92, cWhen), (93, cIndex), (95, cSize), (21, cFirst), (22, cOut), (94, cOut), (27, cSame), (90, cballot), (91, cbracket), (24, cballot)]
noncomputable def X72 : PCtx := X7 [(89, cKey), (23, cKey), (25, cbracket), (87, cFirst), (88, cOut), (92, cWhen), (93, cIndex), (95, cSize), (21, cFirst), (22, cOut), (94, cOut), (27, cSame), (90, cballot), (91, cbracket), (24, cballot)]
noncomputable def X73 : PCtx := X7c 3 [3, 12, 16, 18, 20] [(20, [7, 8, 9, 10, 11, 12, 13, 14, 15, 16, 17, 18]), (18, [0, 5, 7, 8, 9, 10, 11, 12, 13, 14, 15, 16, 17, 18]), (16, [0, 5, 7, 8, 9, 10, 11, 12, 13, 14, 15, 16, 17, 18]), (12, [0, 1, 5, 7, 8, 9, 10, 11, 12, 13, 14, 15]), (3, [0, 1, 5])] [(17, cAwake), (18, cBallot), (19, cBracket), (20, cMeet), (26, cMeetR), (89, cKey), (23, cKey), (25, cbracket), (87, cFirst), (88, cOut), (92, cWhen), (93, cIndex), (95, cSize), (21, cFirst), (22, cOut), (94, cOut), (27, cSame), (90, cballot), (91, cbracket), (24, cballot)]
end
end Go.Pe
end
