import Derived.Test.YtmcnicakonagdaaGreatDoorX04
import Derived.Test.YtmcnicakonagdaaGreatDoorX05
/- A part of a proof (no law is stated here). Made by program out of texts by AI agents. -/
noncomputable section
namespace Go.Det
section
open Go.Proofs.Tryz (prog)
def Al(n d:Int):V:=.agg [.int .i64 n,.nils,.int .i64 d,.nils]
def MA0:CE:=[(69,[.str [49,48]],.int .i64 (0)),
 (59,[.str [49,48]],Al (10) 1),
 (91,[Al (10) 1,Al (-10000) 1],.int .i64 (1)),
 (91,[Al (10) 1,Al (10000) 1],.int .i64 (-1)),
 (69,[.str [48]],.int .i64 (0)),
 (59,[.str [48]],Al (0) 1),
 (91,[Al (0) 1,Al (-10000) 1],.int .i64 (1)),
 (91,[Al (0) 1,Al (10000) 1],.int .i64 (-1)),
 (91,[Al (0) 1,Al (0) 1],.int .i64 (0))]
theorem sX:AY C7 1000 MA0=true:=by kernel_rfl
def MA1:CE:=[(69,[.str [50,48]],.int .i64 (0)),
 (59,[.str [50,48]],Al (20) 1),
 (91,[Al (20) 1,Al (0) 1],.int .i64 (1)),
 (91,[Al (20) 1,Al (10000) 1],.int .i64 (-1)),
 (88,[.str [98,117,110,107,101,114]],.bool true),
 (88,[.str [119,97,116,101,114]],.bool true),
 (69,[.str [45,50,48]],.int .i64 (0)),
 (59,[.str [45,50,48]],Al (-20) 1),
 (91,[Al (-20) 1,Al (-10000) 1],.int .i64 (1))]
theorem vA:AY C7 1000 MA1=true:=by kernel_rfl
def MA2:CE:=[(91,[Al (-20) 1,Al (10000) 1],.int .i64 (-1)),
 (69,[.str [53]],.int .i64 (0)),
 (59,[.str [53]],Al (5) 1),
 (91,[Al (5) 1,Al (-10000) 1],.int .i64 (1)),
 (91,[Al (5) 1,Al (10000) 1],.int .i64 (-1)),
 (69,[.str [49,53]],.int .i64 (0)),
 (59,[.str [49,53]],Al (15) 1),
 (91,[Al (15) 1,Al (0) 1],.int .i64 (1)),
 (91,[Al (15) 1,Al (10000) 1],.int .i64 (-1))]
theorem uU:AY C7 1000 MA2=true:=by kernel_rfl
def MA3:CE:=[(88,[.str [98,108,117,101]],.bool true),
 (88,[.str [115,99,114,97,116,99,104]],.bool true),
 (69,[.str [50,52,48]],.int .i64 (0)),
 (59,[.str [50,52,48]],Al (240) 1),
 (91,[Al (240) 1,Al (1) 1],.int .i64 (1)),
 (91,[Al (240) 1,Al (10000) 1],.int .i64 (-1)),
 (69,[.str [50,48,48]],.int .i64 (0)),
 (59,[.str [50,48,48]],Al (200) 1),
 (91,[Al (200) 1,Al (1) 1],.int .i64 (1))]
theorem wG:AY C7 1000 MA3=true:=by kernel_rfl
def MA4:CE:=[(91,[Al (200) 1,Al (10000) 1],.int .i64 (-1)),
 (69,[.str [49,48,48]],.int .i64 (0)),
 (69,[.str [51]],.int .i64 (0)),
 (59,[.str [49,48,48]],Al (100) 1),
 (59,[.str [51]],Al (3) 1),
 (69,[.str [53,48,48]],.int .i64 (0)),
 (59,[.str [53,48,48]],Al (500) 1),
 (91,[Al (500) 1,Al (100) 1],.int .i64 (1)),
 (91,[Al (5) 1,Al (3) 1],.int .i64 (1))]
theorem tO:AY C7 1000 MA4=true:=by kernel_rfl
def MA5:CE:=[(69,[.str [49,47,50]],.int .i64 (0)),
 (59,[.str [49,47,50]],Al (1) 2),
 (69,[.str [49]],.int .i64 (0)),
 (59,[.str [49]],Al (1) 1),
 (88,[.str [98,111,103,101,121]],.bool true),
 (69,[.str [49,56,48]],.int .i64 (0)),
 (59,[.str [49,56,48]],Al (180) 1),
 (91,[Al (180) 1,Al (1) 1],.int .i64 (1)),
 (91,[Al (180) 1,Al (10000) 1],.int .i64 (-1))]
theorem tW:AY C7 1000 MA5=true:=by kernel_rfl
def MA6:CE:=[(69,[.str [49,54,48]],.int .i64 (0)),
 (59,[.str [49,54,48]],Al (160) 1),
 (91,[Al (160) 1,Al (1) 1],.int .i64 (1)),
 (91,[Al (160) 1,Al (10000) 1],.int .i64 (-1)),
 (69,[.str [54]],.int .i64 (0)),
 (59,[.str [54]],Al (6) 1),
 (91,[Al (6) 1,Al (3) 1],.int .i64 (1)),
 (69,[.str [50]],.int .i64 (0)),
 (59,[.str [50]],Al (2) 1)]
theorem tV:AY C7 1000 MA6=true:=by kernel_rfl
def MA7:CE:=[(71,[Al (0) 1,Al (-20) 1],Al (-20) 1),
 (71,[Al (-20) 1,Al (5) 1],Al (-15) 1),
 (71,[Al (-15) 1,Al (15) 1],Al (0) 1),
 (71,[Al (150) 1,Al (0) 1],Al (150) 1),
 (138,[Al (150) 1],.bool false),
 (139,[Al (150) 1],.str [49,53,48]),
 (71,[Al (0) 1,Al (10) 1],Al (10) 1),
 (71,[Al (10) 1,Al (0) 1],Al (10) 1),
 (71,[Al (410) 1,Al (10) 1],Al (420) 1)]
theorem uV:AY C7 1000 MA7=true:=by kernel_rfl
def MA8:CE:=[(63,[Al (420) 1,Al (240) 1],Al (180) 1),
 (71,[Al (180) 1,Al (200) 1],Al (380) 1),
 (71,[Al (200) 1,Al (20) 1],Al (220) 1),
 (60,[Al (380) 1,Al (220) 1],Al (19) 11),
 (107,[Al (19) 11],.agg [.int .i64 (2),.nils]),
 (71,[Al (240) 1,Al (20) 1],Al (260) 1),
 (91,[Al (420) 1,Al (260) 1],.int .i64 (1)),
 (63,[Al (420) 1,Al (260) 1],Al (160) 1),
 (64,[Al (160) 1,Al (200) 1],Al (32000) 1)]
theorem uT:AY C7 1000 MA8=true:=by kernel_rfl
def MA9:CE:=[(60,[Al (32000) 1,Al (220) 1],Al (1600) 11),
 (71,[Al (240) 1,Al (1600) 11],Al (4240) 11),
 (138,[Al (4240) 11],.bool false),
 (139,[Al (4240) 11],.str [52,50,52,48,47,49,49]),
 (135,[.agg [.int .i64 (5),.nils],.agg [.int .i64 (10),.nils]],Al (1) 2),
 (64,[Al (1) 2,Al (1) 2],Al (1) 4),
 (71,[Al (0) 1,Al (1) 4],Al (1) 4),
 (135,[.agg [.int .i64 (2),.nils],.agg [.int .i64 (10),.nils]],Al (1) 5),
 (64,[Al (1) 1,Al (1) 5],Al (1) 5)]
theorem wI:AY C7 1000 MA9=true:=by kernel_rfl
def xQ:CE:=[(71,[Al (1) 4,Al (1) 5],Al (9) 20),
 (138,[Al (9) 20],.bool false),
 (139,[Al (9) 20],.str [57,47,50,48]),
 (71,[Al (180) 1,Al (20) 1],Al (200) 1),
 (91,[Al (420) 1,Al (200) 1],.int .i64 (1)),
 (63,[Al (420) 1,Al (200) 1],Al (220) 1),
 (64,[Al (220) 1,Al (160) 1],Al (35200) 1),
 (71,[Al (160) 1,Al (20) 1],Al (180) 1),
 (60,[Al (35200) 1,Al (180) 1],Al (1760) 9)]
theorem nF:AY C7 1000 xQ=true:=by kernel_rfl
def xE:CE:=[(71,[Al (180) 1,Al (1760) 9],Al (3380) 9),
 (91,[Al (3380) 9,Al (100) 1],.int .i64 (1)),
 (91,[Al (3380) 9,Al (500) 1],.int .i64 (-1)),
 (63,[Al (6) 1,Al (3) 1],Al (3) 1),
 (63,[Al (3380) 9,Al (100) 1],Al (2480) 9),
 (64,[Al (3) 1,Al (2480) 9],Al (2480) 3),
 (63,[Al (500) 1,Al (100) 1],Al (400) 1),
 (60,[Al (2480) 3,Al (400) 1],Al (31) 15),
 (71,[Al (3) 1,Al (31) 15],Al (76) 15)]
theorem oF:AY C7 1000 xE=true:=by kernel_rfl
def xT:CE:=[(64,[Al (2) 1,Al (1) 5],Al (2) 5),
 (71,[Al (0) 1,Al (2) 5],Al (2) 5),
 (71,[Al (76) 15,Al (2) 5],Al (82) 15),
 (138,[Al (82) 15],.bool false),
 (139,[Al (82) 15],.str [56,50,47,49,53]),
 (91,[Al (4240) 11,Al (100) 1],.int .i64 (1)),
 (91,[Al (4240) 11,Al (500) 1],.int .i64 (-1)),
 (63,[Al (5) 1,Al (3) 1],Al (2) 1),
 (63,[Al (4240) 11,Al (100) 1],Al (3140) 11)]
theorem mB:AY C7 1000 xT=true:=by kernel_rfl
def yS:CE:=[(64,[Al (2) 1,Al (3140) 11],Al (6280) 11),
 (60,[Al (6280) 11,Al (400) 1],Al (157) 110),
 (71,[Al (3) 1,Al (157) 110],Al (487) 110),
 (71,[Al (487) 110,Al (9) 20],Al (1073) 220),
 (71,[Al (240) 1,Al (0) 1],Al (240) 1),
 (91,[Al (150) 1,Al (240) 1],.int .i64 (-1)),
 (64,[Al (150) 1,Al (240) 1],Al (36000) 1),
 (60,[Al (36000) 1,Al (240) 1],Al (150) 1),
 (91,[Al (150) 1,Al (100) 1],.int .i64 (1))]
theorem qE:AY C7 1000 yS=true:=by kernel_rfl
def zK:CE:=[(91,[Al (150) 1,Al (500) 1],.int .i64 (-1)),
 (63,[Al (150) 1,Al (100) 1],Al (50) 1),
 (64,[Al (2) 1,Al (50) 1],Al (100) 1),
 (60,[Al (100) 1,Al (400) 1],Al (1) 4),
 (71,[Al (3) 1,Al (1) 4],Al (13) 4),
 (71,[Al (13) 4,Al (0) 1],Al (13) 4),
 (71,[Al (0) 1,Al (1073) 220],Al (1073) 220),
 (71,[Al (1073) 220,Al (13) 4],Al (447) 55),
 (138,[Al (447) 55],.bool false)]
theorem oB:AY C7 1000 zK=true:=by kernel_rfl
def zY:CE:=[(139,[Al (447) 55],.str [52,52,55,47,53,53]),
 (71,[Al (180) 1,Al (0) 1],Al (180) 1),
 (91,[Al (150) 1,Al (180) 1],.int .i64 (-1)),
 (64,[Al (150) 1,Al (180) 1],Al (27000) 1),
 (60,[Al (27000) 1,Al (180) 1],Al (150) 1),
 (64,[Al (3) 1,Al (50) 1],Al (150) 1),
 (60,[Al (150) 1,Al (400) 1],Al (3) 8),
 (71,[Al (3) 1,Al (3) 8],Al (27) 8),
 (71,[Al (27) 8,Al (0) 1],Al (27) 8)]
theorem oO:AY C7 1000 zY=true:=by kernel_rfl
def xH:CE:=[(71,[Al (0) 1,Al (82) 15],Al (82) 15),
 (71,[Al (82) 15,Al (27) 8],Al (1061) 120),
 (64,[Al (1061) 120,Al (10) 1],Al (1061) 12),
 (119,[Al (1061) 12],.agg [.int .i64 (88),.nils]),
 (135,[.agg [.int .i64 (88),.nils],.agg [.int .i64 (10),.nils]],Al (44) 5),
 (138,[Al (44) 5],.bool false),
 (139,[Al (44) 5],.str [52,52,47,53]),
 (63,[Al (1061) 120,Al (447) 55],Al (943) 1320),
 (64,[Al (943) 1320,Al (5) 1],Al (943) 264)]
theorem mD:AY C7 1000 xH=true:=by kernel_rfl
def zP:CE:=[(119,[Al (943) 264],.agg [.int .i64 (4),.nils]),
 (63,[Al (82) 15,Al (1073) 220],Al (389) 660),
 (63,[Al (27) 8,Al (13) 4],Al (1) 8),
 (91,[Al (389) 660,Al (389) 660],.int .i64 (0)),
 (91,[Al (389) 660,Al (1) 8],.int .i64 (1)),
 (91,[Al (1) 8,Al (389) 660],.int .i64 (-1)),
 (91,[Al (1) 8,Al (1) 8],.int .i64 (0)),
 (69,[.str [55]],.int .i64 (0)),
 (71,[Al (0) 1,Al (1) 1],Al (1) 1)]
theorem qM:AY C7 1000 zP=true:=by kernel_rfl
def zE:CE:=[(71,[Al (1) 1,Al (2) 1],Al (3) 1),
 (71,[Al (3) 1,Al (3) 1],Al (6) 1),
 (60,[Al (6) 1,Al (3) 1],Al (2) 1),
 (59,[.str [55]],Al (7) 1),
 (71,[Al (0) 1,Al (2) 1],Al (2) 1),
 (71,[Al (2) 1,Al (3) 1],Al (5) 1),
 (71,[Al (5) 1,Al (7) 1],Al (12) 1),
 (60,[Al (12) 1,Al (3) 1],Al (4) 1),
 (63,[Al (1) 1,Al (2) 1],Al (-1) 1)]
theorem qA:AY C7 1000 zE=true:=by kernel_rfl
def zS:CE:=[(64,[Al (-1) 1,Al (-1) 1],Al (1) 1),
 (63,[Al (2) 1,Al (2) 1],Al (0) 1),
 (64,[Al (0) 1,Al (0) 1],Al (0) 1),
 (63,[Al (3) 1,Al (2) 1],Al (1) 1),
 (64,[Al (1) 1,Al (1) 1],Al (1) 1),
 (71,[Al (1) 1,Al (0) 1],Al (1) 1),
 (71,[Al (1) 1,Al (1) 1],Al (2) 1),
 (63,[Al (2) 1,Al (4) 1],Al (-2) 1),
 (64,[Al (-1) 1,Al (-2) 1],Al (2) 1)]
theorem nI:AY C7 1000 zS=true:=by kernel_rfl
def yJ:CE:=[(63,[Al (3) 1,Al (4) 1],Al (-1) 1),
 (64,[Al (0) 1,Al (-1) 1],Al (0) 1),
 (63,[Al (7) 1,Al (4) 1],Al (3) 1),
 (64,[Al (1) 1,Al (3) 1],Al (3) 1),
 (71,[Al (2) 1,Al (0) 1],Al (2) 1),
 (60,[Al (5) 1,Al (2) 1],Al (5) 2),
 (138,[Al (5) 2],.bool false),
 (139,[Al (5) 2],.str [53,47,50]),
 (64,[Al (5) 2,Al (2) 1],Al (5) 1)]
theorem kC:AY C7 1000 yJ=true:=by kernel_rfl
def zD:CE:=[(63,[Al (4) 1,Al (5) 1],Al (-1) 1),
 (138,[Al (-1) 1],.bool false),
 (139,[Al (-1) 1],.str [45,49]),
 (69,[.str [52]],.int .i64 (0)),
 (59,[.str [52]],Al (4) 1),
 (91,[Al (1) 1,Al (4) 1],.int .i64 (-1)),
 (91,[Al (3) 1,Al (4) 1],.int .i64 (-1)),
 (91,[Al (3) 1,Al (1) 1],.int .i64 (1)),
 (91,[Al (10) 1,Al (4) 1],.int .i64 (1))]
theorem nG:AY C7 1000 zD=true:=by kernel_rfl
def yD:CE:=[(71,[Al (3) 1,Al (4) 1],Al (7) 1),
 (60,[Al (7) 1,Al (2) 1],Al (7) 2),
 (138,[Al (7) 2],.bool false),
 (139,[Al (7) 2],.str [55,47,50]),
 (91,[Al (9) 1,Al (8) 1],.int .i64 (1)),
 (91,[Al (9) 1,Al (9) 1],.int .i64 (0)),
 (71,[Al (9) 1,Al (9) 1],Al (18) 1),
 (60,[Al (18) 1,Al (2) 1],Al (9) 1),
 (64,[Al (447) 55,Al (10) 1],Al (894) 11)]
theorem oJ:AY C7 1000 yD=true:=by kernel_rfl
def xI:CE:=[(119,[Al (894) 11],.agg [.int .i64 (81),.nils]),
 (135,[.agg [.int .i64 (81),.nils],.agg [.int .i64 (10),.nils]],Al (81) 10),
 (63,[Al (9) 1,Al (81) 10],Al (9) 10),
 (138,[Al (9) 10],.bool false),
 (139,[Al (9) 10],.str [57,47,49,48])]
theorem kR:AY C7 1000 xI=true:=by kernel_rfl
def MA:CE:=(MA0++(MA1++(MA2++(MA3++(MA4++(MA5++(MA6++(MA7++(MA8++(MA9++(xQ++(xE++(xT++(yS++(zK++(zY++(xH++(zP++(zE++(zS++(yJ++(zD++(yD++xI)))))))))))))))))))))))
theorem sp1:Lo prog (JM C7 1000 MA):=QJ WZ Kx RW (AI sX (AI vA (AI uU (AI wG (AI tO (AI tW (AI tV (AI uV (AI uT (AI wI (AI nF (AI oF (AI mB (AI qE (AI oB (AI oO (AI mD (AI qM (AI qA (AI nI (AI kC (AI nG (AI oJ kR)))))))))))))))))))))))
def sB:Ctx:=Xv C7 (JM C7 1000 MA)
theorem tM:sB.Ok prog:=TS WZ sp1
theorem Yn:Gi sB:=My Kx _
def MB0:CE:=[(89,[.str [49,48],.int .i64 (-10000),.int .i64 (10000)],.int .i64 (0)),
 (89,[.str [48],.int .i64 (-10000),.int .i64 (10000)],.int .i64 (0)),
 (89,[.str [48],.int .i64 (0),.int .i64 (10000)],.int .i64 (0)),
 (89,[.str [50,48],.int .i64 (0),.int .i64 (10000)],.int .i64 (0)),
 (89,[.str [45,50,48],.int .i64 (-10000),.int .i64 (10000)],.int .i64 (0)),
 (89,[.str [53],.int .i64 (-10000),.int .i64 (10000)],.int .i64 (0))]
theorem wE:AY sB 1000 MB0=true:=by kernel_rfl
def MB1:CE:=[(89,[.str [49,53],.int .i64 (0),.int .i64 (10000)],.int .i64 (0)),
 (89,[.str [50,52,48],.int .i64 (1),.int .i64 (10000)],.int .i64 (0)),
 (89,[.str [50,48,48],.int .i64 (1),.int .i64 (10000)],.int .i64 (0)),
 (89,[.str [49,56,48],.int .i64 (1),.int .i64 (10000)],.int .i64 (0)),
 (89,[.str [49,54,48],.int .i64 (1),.int .i64 (10000)],.int .i64 (0)),
 (67,[Al (150) 1],.tup [.str [49,53,48],.int .i64 (0)])]
theorem uR:AY sB 1000 MB1=true:=by kernel_rfl
def MB2:CE:=[(67,[Al (4240) 11],.tup [.str [52,50,52,48,47,49,49],.int .i64 (0)]),
 (67,[Al (9) 20],.tup [.str [57,47,50,48],.int .i64 (0)]),
 (67,[Al (82) 15],.tup [.str [56,50,47,49,53],.int .i64 (0)]),
 (67,[Al (447) 55],.tup [.str [52,52,55,47,53,53],.int .i64 (0)]),
 (118,[Al (1061) 120],Al (44) 5),
 (67,[Al (44) 5],.tup [.str [52,52,47,53],.int .i64 (0)])]
theorem sV:AY sB 1000 MB2=true:=by kernel_rfl
def MB3:CE:=[(67,[Al (5) 2],.tup [.str [53,47,50],.int .i64 (0)]),
 (67,[Al (-1) 1],.tup [.str [45,49],.int .i64 (0)]),
 (67,[Al (7) 2],.tup [.str [55,47,50],.int .i64 (0)]),
 (118,[Al (447) 55],Al (81) 10),
 (67,[Al (9) 10],.tup [.str [57,47,49,48],.int .i64 (0)])]
theorem uO:AY sB 1000 MB3=true:=by kernel_rfl
def MB:CE:=(MB0++(MB1++(MB2++MB3)))
theorem sp2:Lo prog (JM sB 1000 MB):=QJ tM Yn RW (AI wE (AI uR (AI sV uO)))
def S72:V0:=wZ (JM sB 1000 MB) (JM C7 1000 MA)
theorem uC:Lo prog S72:=RM sp2 sp1
def C72:Ctx:=Xv C7 S72
theorem wF:C72.Ok prog:=TS WZ uC
theorem YU:Gi C72:=My Kx _
end
end Go.Det
