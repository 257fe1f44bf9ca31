import Derived.Test.YtknhdhchejmpgaaGreatDoorX04
import Derived.Test.YtknhdhchejmpgaaGreatDoorX05
/- A part of a proof (no law is stated here). Made by program out of texts by AI agents. -/
noncomputable section
namespace Go.Det
section
open Go.Proofs.Tryz (prog)
def Cn(n d:Int):V:=.agg [.int .i64 n,.nils,.int .i64 d,.nils]
def yC:GX:=[(77,[.str [50,53,47,50]],.int .i64 (0)),
 (77,[.str [49]],.int .i64 (0)),
 (77,[.str [45,53,47,50]],.int .i64 (0)),
 (77,[.str [51,49,47,50,48]],.int .i64 (0)),
 (77,[.str [49,47,49,48]],.int .i64 (0)),
 (77,[.str [49,48,48]],.int .i64 (0)),
 (77,[.str [50,50,56,54,47,50,53]],.int .i64 (0))]
theorem tV:BV C7 1000 yC=true:=by kernel_rfl
def yA:GX:=[(77,[.str [48]],.int .i64 (0)),
 (77,[.str [49,48]],.int .i64 (0)),
 (77,[.str [53]],.int .i64 (0)),
 (77,[.str [50,48]],.int .i64 (0)),
 (77,[.str [52]],.int .i64 (0)),
 (77,[.str [45,49]],.int .i64 (0)),
 (77,[.str [49,47,52]],.int .i64 (0))]
theorem uM:BV C7 1000 yA=true:=by kernel_rfl
def xZ:GX:=[(77,[.str [49,47,50]],.int .i64 (0)),
 (77,[.str [49,47,49,54]],.int .i64 (0)),
 (77,[.str [51,47,56]],.int .i64 (0)),
 (77,[.str [51]],.int .i64 (0)),
 (77,[.str [51,47,54]],.int .i64 (1))]
theorem sK:BV C7 1000 xZ=true:=by kernel_rfl
def yJ:GX:=[(87,[.str [50,53,47,50]],Cn (25) 2),
 (87,[.str [49]],Cn (1) 1),
 (87,[.str [45,53,47,50]],Cn (-5) 2),
 (87,[.str [51,49,47,50,48]],Cn (31) 20),
 (87,[.str [49,47,49,48]],Cn (1) 10),
 (87,[.str [49,48,48]],Cn (100) 1),
 (87,[.str [50,50,56,54,47,50,53]],Cn (2286) 25),
 (87,[.str [48]],Cn (0) 1),
 (87,[.str [49,48]],Cn (10) 1)]
theorem rU:BV C7 1000 yJ=true:=by kernel_rfl
def yB:GX:=[(87,[.str [53]],Cn (5) 1),
 (87,[.str [50,48]],Cn (20) 1),
 (87,[.str [52]],Cn (4) 1),
 (87,[.str [45,49]],Cn (-1) 1),
 (87,[.str [49,47,52]],Cn (1) 4),
 (87,[.str [49,47,50]],Cn (1) 2),
 (87,[.str [49,47,49,54]],Cn (1) 16),
 (87,[.str [51,47,56]],Cn (3) 8),
 (87,[.str [51]],Cn (3) 1)]
theorem sS:BV C7 1000 yB=true:=by kernel_rfl
theorem sp1:JT prog (GA (yC++(yA++(xZ++(yJ++yB))))):=R1 Yk Kn Sb (CH tV (CH uM (CH sK (CH rU sS))))
def pU:Ctx:=Xq C7 (GA (yC++(yA++(xZ++(yJ++yB)))))
theorem uK:pU.Ok prog:=Td Yk sp1
theorem YB:Ga pU:=Mx Kn _
def zK:GX:=[(134,[Cn (1) 4],.bool true),
 (80,[Cn (0) 1,Cn (1) 4],Cn (1) 4),
 (134,[Cn (1) 2],.bool true),
 (80,[Cn (1) 4,Cn (1) 2],Cn (3) 4),
 (80,[Cn (3) 4,Cn (1) 4],Cn (1) 1),
 (134,[Cn (1) 16],.bool true),
 (80,[Cn (0) 1,Cn (1) 16],Cn (1) 16),
 (80,[Cn (1) 16,Cn (1) 4],Cn (5) 16),
 (134,[Cn (3) 8],.bool true),
 (80,[Cn (5) 16,Cn (3) 8],Cn (11) 16),
 (80,[Cn (11) 16,Cn (1) 4],Cn (15) 16),
 (80,[Cn (15) 16,Cn (1) 16],Cn (1) 1)]
theorem rH:BV pU 1000 zK=true:=by kernel_rfl
def yS:GX:=[(82,[Cn (3) 1,Cn (1) 4],Cn (3) 4),
 (80,[Cn (0) 1,Cn (3) 4],Cn (3) 4),
 (82,[Cn (4) 1,Cn (1) 2],Cn (2) 1),
 (80,[Cn (3) 4,Cn (2) 1],Cn (11) 4),
 (82,[Cn (5) 1,Cn (1) 4],Cn (5) 4),
 (80,[Cn (11) 4,Cn (5) 4],Cn (4) 1),
 (82,[Cn (1) 4,Cn (1) 4],Cn (1) 16),
 (82,[Cn (1) 4,Cn (1) 2],Cn (1) 8),
 (80,[Cn (0) 1,Cn (1) 8],Cn (1) 8),
 (82,[Cn (1) 2,Cn (1) 4],Cn (1) 8),
 (80,[Cn (1) 8,Cn (1) 8],Cn (1) 4),
 (82,[Cn (1) 2,Cn (1) 2],Cn (1) 4)]
theorem sG:BV pU 1000 yS=true:=by kernel_rfl
def zE:GX:=[(80,[Cn (5) 16,Cn (1) 16],Cn (3) 8),
 (131,[Cn (1) 16],.bool false),
 (132,[Cn (1) 16],.str [49,47,49,54]),
 (131,[Cn (1) 4],.bool false),
 (132,[Cn (1) 4],.str [49,47,52]),
 (131,[Cn (3) 8],.bool false),
 (132,[Cn (3) 8],.str [51,47,56])]
theorem rG:BV pU 1000 zE=true:=by kernel_rfl
def yP:GX:=[(40,[.str [50,53,47,50],.str [49]],.tup [.str [49,51],.int .i64 (0)]),
 (40,[.str [45,53,47,50],.str [49]],.tup [.str [45,50],.int .i64 (0)]),
 (40,[.str [51,49,47,50,48],.str [49,47,49,48]],.tup [.str [56,47,53],.int .i64 (0)]),
 (35,[.str [49,48,48]],.tup [.str [50,50,56,54,47,50,53],.int .i64 (0)]),
 (34,[.str [50,50,56,54,47,50,53]],.tup [.str [49,48,48],.int .i64 (0)]),
 (33,[.int .i64 (50)],.tup [.int .i64 (7),.int .i64 (0)])]
theorem tT:BV pU 1000 yP=true:=by kernel_rfl
theorem sp2:JT prog (R4 pU 1000 (zK++(yS++(zE++yP)))):=Zq uK YB Sb (CH rH (CH sG (CH rG tT)))
def S72:U1:=pQ (R4 pU 1000 (zK++(yS++(zE++yP)))) (GA (yC++(yA++(xZ++(yJ++yB)))))
theorem uQ:JT prog S72:=Lz sp2 sp1
end
end Go.Det
