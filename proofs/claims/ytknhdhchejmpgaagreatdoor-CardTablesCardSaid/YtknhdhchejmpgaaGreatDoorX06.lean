import Derived.Test.YtknhdhchejmpgaaGreatDoorX04
import Derived.Test.YtknhdhchejmpgaaGreatDoorX05
/- A part of a proof (no law is stated here). Made by program out of texts by AI agents. -/
namespace Go.Det
noncomputable section
open Go.Proofs.Tryz (prog)
noncomputable def Ch(n d:Int):V:=.agg [.int .i64 n,.nils,.int .i64 d,.nils]
noncomputable def uX:Gn:=[(77,[.str [50,53,47,50]],.int .i64 (0)),
 (77,[.str [49]],.int .i64 (0)),
 (77,[.str [45,53,47,50]],.int .i64 (0)),
 (77,[.str [51,49,47,50,48]],.int .i64 (0)),
 (77,[.str [49,47,49,48]],.int .i64 (0)),
 (77,[.str [49,48,48]],.int .i64 (0)),
 (77,[.str [50,50,56,54,47,50,53]],.int .i64 (0))]
theorem qY:BV C7 1000 uX=true:=by kernel_rfl
noncomputable def vC:Gn:=[(77,[.str [48]],.int .i64 (0)),
 (77,[.str [49,48]],.int .i64 (0)),
 (77,[.str [53]],.int .i64 (0)),
 (77,[.str [50,48]],.int .i64 (0)),
 (77,[.str [52]],.int .i64 (0)),
 (77,[.str [45,49]],.int .i64 (0)),
 (77,[.str [49,47,52]],.int .i64 (0))]
theorem qT:BV C7 1000 vC=true:=by kernel_rfl
noncomputable def vF:Gn:=[(77,[.str [49,47,50]],.int .i64 (0)),
 (77,[.str [49,47,49,54]],.int .i64 (0)),
 (77,[.str [51,47,56]],.int .i64 (0)),
 (77,[.str [51]],.int .i64 (0)),
 (77,[.str [51,47,54]],.int .i64 (1))]
theorem oU:BV C7 1000 vF=true:=by kernel_rfl
noncomputable def vA:Gn:=[(87,[.str [50,53,47,50]],Ch (25) 2),
 (87,[.str [49]],Ch (1) 1),
 (87,[.str [45,53,47,50]],Ch (-5) 2),
 (87,[.str [51,49,47,50,48]],Ch (31) 20),
 (87,[.str [49,47,49,48]],Ch (1) 10),
 (87,[.str [49,48,48]],Ch (100) 1),
 (87,[.str [50,50,56,54,47,50,53]],Ch (2286) 25),
 (87,[.str [48]],Ch (0) 1),
 (87,[.str [49,48]],Ch (10) 1)]
theorem pQ:BV C7 1000 vA=true:=by kernel_rfl
noncomputable def uY:Gn:=[(87,[.str [53]],Ch (5) 1),
 (87,[.str [50,48]],Ch (20) 1),
 (87,[.str [52]],Ch (4) 1),
 (87,[.str [45,49]],Ch (-1) 1),
 (87,[.str [49,47,52]],Ch (1) 4),
 (87,[.str [49,47,50]],Ch (1) 2),
 (87,[.str [49,47,49,54]],Ch (1) 16),
 (87,[.str [51,47,56]],Ch (3) 8),
 (87,[.str [51]],Ch (3) 1)]
theorem oZ:BV C7 1000 uY=true:=by kernel_rfl
theorem xI:Jo prog (F4 (uX++(vC++(vF++(vA++uY))))):=Rh Wp Kt Qo (CC qY (CC qT (CC oU (CC pQ oZ))))
noncomputable def mP:Ctx:=V5 C7 (F4 (uX++(vC++(vF++(vA++uY)))))
theorem oK:mP.Ok prog:=TX Wp xI
theorem Yp:FC mP:=Mj Kt _
noncomputable def wU:Gn:=[(134,[Ch (1) 4],.bool true),
 (80,[Ch (0) 1,Ch (1) 4],Ch (1) 4),
 (134,[Ch (1) 2],.bool true),
 (80,[Ch (1) 4,Ch (1) 2],Ch (3) 4),
 (80,[Ch (3) 4,Ch (1) 4],Ch (1) 1),
 (134,[Ch (1) 16],.bool true),
 (80,[Ch (0) 1,Ch (1) 16],Ch (1) 16),
 (80,[Ch (1) 16,Ch (1) 4],Ch (5) 16),
 (134,[Ch (3) 8],.bool true),
 (80,[Ch (5) 16,Ch (3) 8],Ch (11) 16),
 (80,[Ch (11) 16,Ch (1) 4],Ch (15) 16),
 (80,[Ch (15) 16,Ch (1) 16],Ch (1) 1)]
theorem qF:BV mP 1000 wU=true:=by kernel_rfl
noncomputable def wL:Gn:=[(82,[Ch (3) 1,Ch (1) 4],Ch (3) 4),
 (80,[Ch (0) 1,Ch (3) 4],Ch (3) 4),
 (82,[Ch (4) 1,Ch (1) 2],Ch (2) 1),
 (80,[Ch (3) 4,Ch (2) 1],Ch (11) 4),
 (82,[Ch (5) 1,Ch (1) 4],Ch (5) 4),
 (80,[Ch (11) 4,Ch (5) 4],Ch (4) 1),
 (82,[Ch (1) 4,Ch (1) 4],Ch (1) 16),
 (82,[Ch (1) 4,Ch (1) 2],Ch (1) 8),
 (80,[Ch (0) 1,Ch (1) 8],Ch (1) 8),
 (82,[Ch (1) 2,Ch (1) 4],Ch (1) 8),
 (80,[Ch (1) 8,Ch (1) 8],Ch (1) 4),
 (82,[Ch (1) 2,Ch (1) 2],Ch (1) 4)]
theorem rG:BV mP 1000 wL=true:=by kernel_rfl
noncomputable def wM:Gn:=[(80,[Ch (5) 16,Ch (1) 16],Ch (3) 8),
 (131,[Ch (1) 16],.bool false),
 (132,[Ch (1) 16],.str [49,47,49,54]),
 (131,[Ch (1) 4],.bool false),
 (132,[Ch (1) 4],.str [49,47,52]),
 (131,[Ch (3) 8],.bool false),
 (132,[Ch (3) 8],.str [51,47,56])]
theorem qU:BV mP 1000 wM=true:=by kernel_rfl
noncomputable def vY:Gn:=[(40,[.str [50,53,47,50],.str [49]],.tup [.str [49,51],.int .i64 (0)]),
 (40,[.str [45,53,47,50],.str [49]],.tup [.str [45,50],.int .i64 (0)]),
 (40,[.str [51,49,47,50,48],.str [49,47,49,48]],.tup [.str [56,47,53],.int .i64 (0)]),
 (35,[.str [49,48,48]],.tup [.str [50,50,56,54,47,50,53],.int .i64 (0)]),
 (34,[.str [50,50,56,54,47,50,53]],.tup [.str [49,48,48],.int .i64 (0)]),
 (33,[.int .i64 (50)],.tup [.int .i64 (7),.int .i64 (0)])]
theorem nV:BV mP 1000 vY=true:=by kernel_rfl
theorem xR:Jo prog (QZ mP 1000 (wU++(wL++(wM++vY)))):=Yh oK Yp Qo (CC qF (CC rG (CC qU nV)))
noncomputable def xA:TZ:=mV (QZ mP 1000 (wU++(wL++(wM++vY)))) (F4 (uX++(vC++(vF++(vA++uY)))))
theorem qV:Jo prog xA:=LG xR xI
end
end Go.Det
