import Derived.Test.YtknhdhchejmpgaaGreatDoorX04
import Derived.Test.YtknhdhchejmpgaaGreatDoorX05
/- A part of a proof (no law is stated here). Made by program out of texts by AI agents. -/
noncomputable section
namespace Go.Det
section
open Go.Proofs.Tryz (prog)
def Co(n d:Int):V:=.agg [.int .i64 n,.nils,.int .i64 d,.nils]
def yD:G0:=[(77,[.str [50,53,47,50]],.int .i64 (0)),
 (77,[.str [49]],.int .i64 (0)),
 (77,[.str [45,53,47,50]],.int .i64 (0)),
 (77,[.str [51,49,47,50,48]],.int .i64 (0)),
 (77,[.str [49,47,49,48]],.int .i64 (0)),
 (77,[.str [49,48,48]],.int .i64 (0)),
 (77,[.str [50,50,56,54,47,50,53]],.int .i64 (0))]
theorem sF:BW C7 1000 yD=true:=by kernel_rfl
def yJ:G0:=[(77,[.str [48]],.int .i64 (0)),
 (77,[.str [49,48]],.int .i64 (0)),
 (77,[.str [53]],.int .i64 (0)),
 (77,[.str [50,48]],.int .i64 (0)),
 (77,[.str [52]],.int .i64 (0)),
 (77,[.str [45,49]],.int .i64 (0)),
 (77,[.str [49,47,52]],.int .i64 (0))]
theorem rL:BW C7 1000 yJ=true:=by kernel_rfl
def yI:G0:=[(77,[.str [49,47,50]],.int .i64 (0)),
 (77,[.str [49,47,49,54]],.int .i64 (0)),
 (77,[.str [51,47,56]],.int .i64 (0)),
 (77,[.str [51]],.int .i64 (0)),
 (77,[.str [51,47,54]],.int .i64 (1))]
theorem tH:BW C7 1000 yI=true:=by kernel_rfl
def yM:G0:=[(87,[.str [50,53,47,50]],Co (25) 2),
 (87,[.str [49]],Co (1) 1),
 (87,[.str [45,53,47,50]],Co (-5) 2),
 (87,[.str [51,49,47,50,48]],Co (31) 20),
 (87,[.str [49,47,49,48]],Co (1) 10),
 (87,[.str [49,48,48]],Co (100) 1),
 (87,[.str [50,50,56,54,47,50,53]],Co (2286) 25),
 (87,[.str [48]],Co (0) 1),
 (87,[.str [49,48]],Co (10) 1)]
theorem uO:BW C7 1000 yM=true:=by kernel_rfl
def yE:G0:=[(87,[.str [53]],Co (5) 1),
 (87,[.str [50,48]],Co (20) 1),
 (87,[.str [52]],Co (4) 1),
 (87,[.str [45,49]],Co (-1) 1),
 (87,[.str [49,47,52]],Co (1) 4),
 (87,[.str [49,47,50]],Co (1) 2),
 (87,[.str [49,47,49,54]],Co (1) 16),
 (87,[.str [51,47,56]],Co (3) 8),
 (87,[.str [51]],Co (3) 1)]
theorem rI:BW C7 1000 yE=true:=by kernel_rfl
theorem sp1:Jn prog (Gv (yD++(yJ++(yI++(yM++yE))))):=Ru Wx K5 Sk (CN sF (CN rL (CN tH (CN uO rI))))
def pS:Ctx:=Xu C7 (Gv (yD++(yJ++(yI++(yM++yE)))))
theorem tO:pS.Ok prog:=Ue Wx sp1
theorem Zd:Gf pS:=Mj K5 _
def zT:G0:=[(134,[Co (1) 4],.bool true),
 (80,[Co (0) 1,Co (1) 4],Co (1) 4),
 (134,[Co (1) 2],.bool true),
 (80,[Co (1) 4,Co (1) 2],Co (3) 4),
 (80,[Co (3) 4,Co (1) 4],Co (1) 1),
 (134,[Co (1) 16],.bool true),
 (80,[Co (0) 1,Co (1) 16],Co (1) 16),
 (80,[Co (1) 16,Co (1) 4],Co (5) 16),
 (134,[Co (3) 8],.bool true),
 (80,[Co (5) 16,Co (3) 8],Co (11) 16),
 (80,[Co (11) 16,Co (1) 4],Co (15) 16),
 (80,[Co (15) 16,Co (1) 16],Co (1) 1)]
theorem tY:BW pS 1000 zT=true:=by kernel_rfl
def yQ:G0:=[(82,[Co (3) 1,Co (1) 4],Co (3) 4),
 (80,[Co (0) 1,Co (3) 4],Co (3) 4),
 (82,[Co (4) 1,Co (1) 2],Co (2) 1),
 (80,[Co (3) 4,Co (2) 1],Co (11) 4),
 (82,[Co (5) 1,Co (1) 4],Co (5) 4),
 (80,[Co (11) 4,Co (5) 4],Co (4) 1),
 (82,[Co (1) 4,Co (1) 4],Co (1) 16),
 (82,[Co (1) 4,Co (1) 2],Co (1) 8),
 (80,[Co (0) 1,Co (1) 8],Co (1) 8),
 (82,[Co (1) 2,Co (1) 4],Co (1) 8),
 (80,[Co (1) 8,Co (1) 8],Co (1) 4),
 (82,[Co (1) 2,Co (1) 2],Co (1) 4)]
theorem uX:BW pS 1000 yQ=true:=by kernel_rfl
def zP:G0:=[(80,[Co (5) 16,Co (1) 16],Co (3) 8),
 (131,[Co (1) 16],.bool false),
 (132,[Co (1) 16],.str [49,47,49,54]),
 (131,[Co (1) 4],.bool false),
 (132,[Co (1) 4],.str [49,47,52]),
 (131,[Co (3) 8],.bool false),
 (132,[Co (3) 8],.str [51,47,56])]
theorem uE:BW pS 1000 zP=true:=by kernel_rfl
def yP:G0:=[(40,[.str [50,53,47,50],.str [49]],.tup [.str [49,51],.int .i64 (0)]),
 (40,[.str [45,53,47,50],.str [49]],.tup [.str [45,50],.int .i64 (0)]),
 (40,[.str [51,49,47,50,48],.str [49,47,49,48]],.tup [.str [56,47,53],.int .i64 (0)]),
 (35,[.str [49,48,48]],.tup [.str [50,50,56,54,47,50,53],.int .i64 (0)]),
 (34,[.str [50,50,56,54,47,50,53]],.tup [.str [49,48,48],.int .i64 (0)]),
 (33,[.int .i64 (50)],.tup [.int .i64 (7),.int .i64 (0)])]
theorem tB:BW pS 1000 yP=true:=by kernel_rfl
theorem sp2:Jn prog (Re pS 1000 (zT++(yQ++(zP++yP)))):=Yu tO Zd Sk (CN tY (CN uX (CN uE tB)))
def S72:Uw:=lM (Re pS 1000 (zT++(yQ++(zP++yP)))) (Gv (yD++(yJ++(yI++(yM++yE)))))
theorem sL:Jn prog S72:=JO sp2 sp1
end
end Go.Det
