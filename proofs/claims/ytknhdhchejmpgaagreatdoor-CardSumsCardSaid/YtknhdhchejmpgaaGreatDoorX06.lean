import Derived.Test.YtknhdhchejmpgaaGreatDoorX04
import Derived.Test.YtknhdhchejmpgaaGreatDoorX05
/- A part of a proof (no law is stated here). Made by program out of texts by AI agents. -/
noncomputable section
namespace Go.Det
section
open Go.Proofs.Tryz (prog)
def Cq(n d:Int):V:=.agg [.int .i64 n,.nils,.int .i64 d,.nils]
def MA0:GV:=[(77,[.str [50,53,47,50]],.int .i64 (0)),
 (77,[.str [49]],.int .i64 (0)),
 (77,[.str [45,53,47,50]],.int .i64 (0)),
 (77,[.str [51,49,47,50,48]],.int .i64 (0)),
 (77,[.str [49,47,49,48]],.int .i64 (0)),
 (77,[.str [49,48,48]],.int .i64 (0)),
 (77,[.str [50,50,56,54,47,50,53]],.int .i64 (0))]
theorem vY:BZ C7 1000 MA0=true:=by kernel_rfl
def MA1:GV:=[(77,[.str [48]],.int .i64 (0)),
 (77,[.str [49,48]],.int .i64 (0)),
 (77,[.str [53]],.int .i64 (0)),
 (77,[.str [50,48]],.int .i64 (0)),
 (77,[.str [52]],.int .i64 (0)),
 (77,[.str [45,49]],.int .i64 (0)),
 (77,[.str [49,47,52]],.int .i64 (0))]
theorem uX:BZ C7 1000 MA1=true:=by kernel_rfl
def MA2:GV:=[(77,[.str [49,47,50]],.int .i64 (0)),
 (77,[.str [49,47,49,54]],.int .i64 (0)),
 (77,[.str [51,47,56]],.int .i64 (0)),
 (77,[.str [51]],.int .i64 (0)),
 (77,[.str [51,47,54]],.int .i64 (1))]
theorem uH:BZ C7 1000 MA2=true:=by kernel_rfl
def zY:GV:=[(87,[.str [50,53,47,50]],Cq (25) 2),
 (87,[.str [49]],Cq (1) 1),
 (87,[.str [45,53,47,50]],Cq (-5) 2),
 (87,[.str [51,49,47,50,48]],Cq (31) 20),
 (87,[.str [49,47,49,48]],Cq (1) 10),
 (87,[.str [49,48,48]],Cq (100) 1),
 (87,[.str [50,50,56,54,47,50,53]],Cq (2286) 25),
 (87,[.str [48]],Cq (0) 1),
 (87,[.str [49,48]],Cq (10) 1)]
theorem vA:BZ C7 1000 zY=true:=by kernel_rfl
def MB1:GV:=[(87,[.str [53]],Cq (5) 1),
 (87,[.str [50,48]],Cq (20) 1),
 (87,[.str [52]],Cq (4) 1),
 (87,[.str [45,49]],Cq (-1) 1),
 (87,[.str [49,47,52]],Cq (1) 4),
 (87,[.str [49,47,50]],Cq (1) 2),
 (87,[.str [49,47,49,54]],Cq (1) 16),
 (87,[.str [51,47,56]],Cq (3) 8),
 (87,[.str [51]],Cq (3) 1)]
theorem vK:BZ C7 1000 MB1=true:=by kernel_rfl
theorem sp1:Jv prog (Gw (MA0++(MA1++(MA2++(zY++MB1))))):=Sg YN Kr S5 (CO vY (CO uX (CO uH (CO vA vK))))
def rE:Ctx:=X8 C7 (Gw (MA0++(MA1++(MA2++(zY++MB1)))))
theorem vT:rE.Ok prog:=Tf YN sp1
theorem ZP:F8 rE:=Mv Kr _
def MC0:GV:=[(134,[Cq (1) 4],.bool true),
 (80,[Cq (0) 1,Cq (1) 4],Cq (1) 4),
 (134,[Cq (1) 2],.bool true),
 (80,[Cq (1) 4,Cq (1) 2],Cq (3) 4),
 (80,[Cq (3) 4,Cq (1) 4],Cq (1) 1),
 (134,[Cq (1) 16],.bool true),
 (80,[Cq (0) 1,Cq (1) 16],Cq (1) 16),
 (80,[Cq (1) 16,Cq (1) 4],Cq (5) 16),
 (134,[Cq (3) 8],.bool true),
 (80,[Cq (5) 16,Cq (3) 8],Cq (11) 16),
 (80,[Cq (11) 16,Cq (1) 4],Cq (15) 16),
 (80,[Cq (15) 16,Cq (1) 16],Cq (1) 1)]
theorem tN:BZ rE 1000 MC0=true:=by kernel_rfl
def MC1:GV:=[(82,[Cq (3) 1,Cq (1) 4],Cq (3) 4),
 (80,[Cq (0) 1,Cq (3) 4],Cq (3) 4),
 (82,[Cq (4) 1,Cq (1) 2],Cq (2) 1),
 (80,[Cq (3) 4,Cq (2) 1],Cq (11) 4),
 (82,[Cq (5) 1,Cq (1) 4],Cq (5) 4),
 (80,[Cq (11) 4,Cq (5) 4],Cq (4) 1),
 (82,[Cq (1) 4,Cq (1) 4],Cq (1) 16),
 (82,[Cq (1) 4,Cq (1) 2],Cq (1) 8),
 (80,[Cq (0) 1,Cq (1) 8],Cq (1) 8),
 (82,[Cq (1) 2,Cq (1) 4],Cq (1) 8),
 (80,[Cq (1) 8,Cq (1) 8],Cq (1) 4),
 (82,[Cq (1) 2,Cq (1) 2],Cq (1) 4)]
theorem uT:BZ rE 1000 MC1=true:=by kernel_rfl
def MC2:GV:=[(80,[Cq (5) 16,Cq (1) 16],Cq (3) 8),
 (131,[Cq (1) 16],.bool false),
 (132,[Cq (1) 16],.str [49,47,49,54]),
 (131,[Cq (1) 4],.bool false),
 (132,[Cq (1) 4],.str [49,47,52]),
 (131,[Cq (3) 8],.bool false),
 (132,[Cq (3) 8],.str [51,47,56])]
theorem tT:BZ rE 1000 MC2=true:=by kernel_rfl
def MD0:GV:=[(40,[.str [50,53,47,50],.str [49]],.tup [.str [49,51],.int .i64 (0)]),
 (40,[.str [45,53,47,50],.str [49]],.tup [.str [45,50],.int .i64 (0)]),
 (40,[.str [51,49,47,50,48],.str [49,47,49,48]],.tup [.str [56,47,53],.int .i64 (0)]),
 (35,[.str [49,48,48]],.tup [.str [50,50,56,54,47,50,53],.int .i64 (0)]),
 (34,[.str [50,50,56,54,47,50,53]],.tup [.str [49,48,48],.int .i64 (0)]),
 (33,[.int .i64 (50)],.tup [.int .i64 (7),.int .i64 (0)])]
theorem wH:BZ rE 1000 MD0=true:=by kernel_rfl
theorem sp2:Jv prog (Rz rE 1000 (MC0++(MC1++(MC2++MD0)))):=ZX vT ZP S5 (CO tN (CO uT (CO tT wH)))
def S72:U6:=oG (Rz rE 1000 (MC0++(MC1++(MC2++MD0)))) (Gw (MA0++(MA1++(MA2++(zY++MB1)))))
theorem uO:Jv prog S72:=JS sp2 sp1
end
end Go.Det
