import Derived.Test.YtnbinppdjnlhpaaGreatDoorX23
/- A part of the proofs of the laws of one chapter (no law is stated here). Made by program out of texts by AI agents. -/
section
/- What Substitute computes. -/
namespace Go.Sp
def memI (l : List Int) (x : Int) : Bool := decide (x ∈ l)
def longL (l : List Int) : Bool := decide (l.length > 20) && (decide (l.length ≤ 200) || decide (l.length > 205))
def intsE (seen : List Int) : List Int → Int
  | [] => 0
  | x :: r => if x < 0 then 3 else if x ∈ seen then 9 else intsE (seen ++ [x]) r
def goneE (known seen : List Int) : List Int → Int
  | [] => 0
  | x :: r => if x ∉ known then 10 else if x ∈ seen then 9 else goneE known (seen ++ [x]) r
def subE (l r g : List Int) : Int :=
  if l.length > 200 then 5 else if intsE [] l ≠ 0 then intsE [] l else
  if r.length > 200 then 5 else if intsE l r ≠ 0 then intsE l r else
  if g.length > 200 then 5 else goneE (l ++ r) [] g
def stay (g l : List Int) : List Int := l.filter fun x => !decide (x ∈ g)
def subIn (l r g : List Int) : List Int := stay g l ++ (stay g r).take (l.length - (stay g l).length)
def subOut (l r g : List Int) : List Int := (stay g r).drop (l.length - (stay g l).length)
def Sub (l r g : List Int) : List Int × List Int × Int := if subE l r g ≠ 0 then ([], [], subE l r g) else (subIn l r g, subOut l r g, 0)
def okL (l r g : List Int) : Bool := decide (l.length ≤ 300) && decide (r.length ≤ 300) && decide (g.length ≤ 300)
end Go.Sp
namespace Go.Pe
open Go.Det
noncomputable section
noncomputable def cLong : PSpec := ⟨[li64], fun _ => true, [.bool], fun l => Sp.longL l, false⟩
noncomputable def cMemI : PSpec := ⟨[li64, i64], fun i => decide (i.1.length ≤ 1000000), [.bool], fun i => Sp.memI i.1 i.2, false⟩
noncomputable def cSub : PSpec := ⟨[li64, li64, li64], fun i => Sp.okL i.1 i.2.1 i.2.2, [li64, li64, i64], fun i => Sp.Sub i.1 i.2.1 i.2.2, false⟩
noncomputable def cLists : PSpec := ⟨[li64, li64, li64], fun i => Sp.okL i.1 i.2.1 i.2.2, [i64], fun i => Sp.subE i.1 i.2.1 i.2.2, false⟩
noncomputable def cSubR : PSpec := ⟨[li64, li64, li64], fun i => Sp.okL i.1 i.2.1 i.2.2, [li64, li64], fun i => (Sp.subIn i.1 i.2.1 i.2.2, Sp.subOut i.1 i.2.1 i.2.2), false⟩
noncomputable def X87 : PCtx := X7f [(29, [16, 27, 29, 30, 31])] [] [(29, [(16, [0, 1, 2, 9]), (27, [0, 1, 15]), (29, [0, 1, 19, 20]), (30, [0, 20, 21]), (31, [20, 21, 22]), (26, [0, 1, 9, 15, 61, 62, 63]), (25, [0, 1, 9, 15, 17, 61, 62, 63]), (21, [0, 1, 9, 15, 61, 62, 63]), (20, [0, 1, 9, 15, 61, 62, 63]), (18, [0, 1, 2, 9]), (15, [0, 1, 2, 9, 26, 27, 28]), (14, [0, 1, 2, 9, 26, 27, 28, 35, 36, 37]), (13, [0, 1, 2, 9, 13, 26, 27, 28, 35, 36, 37]), (9, [0, 1, 2, 9, 26, 27, 28, 35, 36, 37]), (8, [0, 1, 2, 9, 26, 27, 28, 35, 36, 37]), (7, [0, 1, 2, 9, 11, 26, 27, 28]), (4, [0, 1, 2, 9, 26, 27, 28]), (3, [0, 1, 2, 9, 26, 27, 28])])] [(17, cAwake), (92, cWhen), (87, cFirst)]
noncomputable def X88 : PCtx := X7 [(73, cMemI)]
noncomputable def X89 : PCtx := X7 [(17, cAwake), (28, cLong), (29, cSub), (30, cLists), (31, cSubR), (27, cSame)]
end
end Go.Pe
end
