import Derived.Test.YtlapcggejnojjaaGreatDoorX04
import Derived.Test.YtlapcggejnojjaaGreatDoorX05
/- A part of a proof (no law is stated here). Made by program out of texts by AI agents. -/
namespace Go.Det
noncomputable section
open Go.Proofs.Tryz (prog)
noncomputable def BH(n d:Int):V:=.agg [.int .i64 n,.nils,.int .i64 d,.nils]
noncomputable def dY:Ff:=[(10,[.str [50,53,47,50]],.int .i64 (0)),
 (10,[.str [49]],.int .i64 (0)),
 (10,[.str [45,53,47,50]],.int .i64 (0)),
 (10,[.str [51,49,47,50,48]],.int .i64 (0)),
 (10,[.str [49,47,49,48]],.int .i64 (0)),
 (10,[.str [49,48,48]],.int .i64 (0)),
 (10,[.str [50,50,56,54,47,50,53]],.int .i64 (0))]
theorem ZG:Bu C7 1000 dY=true:=by kernel_rfl
noncomputable def dT:Ff:=[(10,[.str [48]],.int .i64 (0)),
 (10,[.str [49,48]],.int .i64 (0)),
 (10,[.str [53]],.int .i64 (0)),
 (10,[.str [50,48]],.int .i64 (0)),
 (10,[.str [52]],.int .i64 (0)),
 (10,[.str [45,49]],.int .i64 (0)),
 (10,[.str [49,47,52]],.int .i64 (0))]
theorem aL:Bu C7 1000 dT=true:=by kernel_rfl
noncomputable def dU:Ff:=[(10,[.str [49,47,50]],.int .i64 (0)),
 (10,[.str [49,47,49,54]],.int .i64 (0)),
 (10,[.str [51,47,56]],.int .i64 (0)),
 (10,[.str [51]],.int .i64 (0)),
 (10,[.str [51,47,54]],.int .i64 (1))]
theorem Z0:Bu C7 1000 dU=true:=by kernel_rfl
noncomputable def eA:Ff:=[(54,[.str [50,53,47,50]],BH (25) 2),
 (54,[.str [49]],BH (1) 1),
 (54,[.str [45,53,47,50]],BH (-5) 2),
 (54,[.str [51,49,47,50,48]],BH (31) 20),
 (54,[.str [49,47,49,48]],BH (1) 10),
 (54,[.str [49,48,48]],BH (100) 1),
 (54,[.str [50,50,56,54,47,50,53]],BH (2286) 25),
 (54,[.str [48]],BH (0) 1),
 (54,[.str [49,48]],BH (10) 1)]
theorem Z9:Bu C7 1000 eA=true:=by kernel_rfl
noncomputable def dS:Ff:=[(54,[.str [53]],BH (5) 1),
 (54,[.str [50,48]],BH (20) 1),
 (54,[.str [52]],BH (4) 1),
 (54,[.str [45,49]],BH (-1) 1),
 (54,[.str [49,47,52]],BH (1) 4),
 (54,[.str [49,47,50]],BH (1) 2),
 (54,[.str [49,47,49,54]],BH (1) 16),
 (54,[.str [51,47,56]],BH (3) 8),
 (54,[.str [51]],BH (3) 1)]
theorem ZU:Bu C7 1000 dS=true:=by kernel_rfl
theorem fV:Kd prog (EO (dY++(dT++(dU++(eA++dS))))):=NR SZ IY Og (B0 ZG (B0 aL (B0 Z0 (B0 Z9 ZU))))
noncomputable def Zc:Ctx:=Sk C7 (EO (dY++(dT++(dU++(eA++dS)))))
theorem ZF:Zc.Ok prog:=QC SZ fV
theorem Tv:Ez Zc:=J0 IY _
noncomputable def eE:Ff:=[(114,[BH (1) 4],.bool true),
 (57,[BH (0) 1,BH (1) 4],BH (1) 4),
 (114,[BH (1) 2],.bool true),
 (57,[BH (1) 4,BH (1) 2],BH (3) 4),
 (57,[BH (3) 4,BH (1) 4],BH (1) 1),
 (114,[BH (1) 16],.bool true),
 (57,[BH (0) 1,BH (1) 16],BH (1) 16),
 (57,[BH (1) 16,BH (1) 4],BH (5) 16),
 (114,[BH (3) 8],.bool true),
 (57,[BH (5) 16,BH (3) 8],BH (11) 16),
 (57,[BH (11) 16,BH (1) 4],BH (15) 16),
 (57,[BH (15) 16,BH (1) 16],BH (1) 1)]
theorem aF:Bu Zc 1000 eE=true:=by kernel_rfl
noncomputable def eF:Ff:=[(62,[BH (3) 1,BH (1) 4],BH (3) 4),
 (57,[BH (0) 1,BH (3) 4],BH (3) 4),
 (62,[BH (4) 1,BH (1) 2],BH (2) 1),
 (57,[BH (3) 4,BH (2) 1],BH (11) 4),
 (62,[BH (5) 1,BH (1) 4],BH (5) 4),
 (57,[BH (11) 4,BH (5) 4],BH (4) 1),
 (62,[BH (1) 4,BH (1) 4],BH (1) 16),
 (62,[BH (1) 4,BH (1) 2],BH (1) 8),
 (57,[BH (0) 1,BH (1) 8],BH (1) 8),
 (62,[BH (1) 2,BH (1) 4],BH (1) 8),
 (57,[BH (1) 8,BH (1) 8],BH (1) 4),
 (62,[BH (1) 2,BH (1) 2],BH (1) 4)]
theorem bH:Bu Zc 1000 eF=true:=by kernel_rfl
noncomputable def fA:Ff:=[(57,[BH (5) 16,BH (1) 16],BH (3) 8),
 (70,[BH (1) 16],.bool false),
 (71,[BH (1) 16],.str [49,47,49,54]),
 (70,[BH (1) 4],.bool false),
 (71,[BH (1) 4],.str [49,47,52]),
 (70,[BH (3) 8],.bool false),
 (71,[BH (3) 8],.str [51,47,56])]
theorem aQ:Bu Zc 1000 fA=true:=by kernel_rfl
noncomputable def eG:Ff:=[(21,[.str [50,53,47,50],.str [49]],.tup [.str [49,51],.int .i64 (0)]),
 (21,[.str [45,53,47,50],.str [49]],.tup [.str [45,50],.int .i64 (0)]),
 (21,[.str [51,49,47,50,48],.str [49,47,49,48]],.tup [.str [56,47,53],.int .i64 (0)]),
 (23,[.str [49,48,48]],.tup [.str [50,50,56,54,47,50,53],.int .i64 (0)]),
 (24,[.str [50,50,56,54,47,50,53]],.tup [.str [49,48,48],.int .i64 (0)]),
 (22,[.int .i64 (50)],.tup [.int .i64 (7),.int .i64 (0)])]
theorem Zs:Bu Zc 1000 eG=true:=by kernel_rfl
theorem gC:Kd prog (OP Zc 1000 (eE++(eF++(fA++eG)))):=TD ZF Tv Og (B0 aF (B0 bH (B0 aQ Zs)))
noncomputable def fU:TP:=bW (OP Zc 1000 (eE++(eF++(fA++eG)))) (EO (dY++(dT++(dU++(eA++dS)))))
theorem ZJ:Kd prog fU:=QO gC fV
end
end Go.Det
