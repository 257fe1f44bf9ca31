import Derived.Test.YtmcnicakonagdaaGreatDoorX04
import Derived.Test.YtmcnicakonagdaaGreatDoorX05
/- A part of a proof (no law is stated here). Made by program out of texts by AI agents. -/
noncomputable section
namespace Go.Det
section
open Go.Proofs.Tryz (prog)
def Ak(n d:Int):V:=.agg [.int .i64 n,.nils,.int .i64 d,.nils]
def MA0:CG:=[(69,[.str [49,48]],.int .i64 (0)),
 (59,[.str [49,48]],Ak (10) 1),
 (91,[Ak (10) 1,Ak (-10000) 1],.int .i64 (1)),
 (91,[Ak (10) 1,Ak (10000) 1],.int .i64 (-1)),
 (69,[.str [48]],.int .i64 (0)),
 (59,[.str [48]],Ak (0) 1),
 (91,[Ak (0) 1,Ak (-10000) 1],.int .i64 (1)),
 (91,[Ak (0) 1,Ak (10000) 1],.int .i64 (-1)),
 (91,[Ak (0) 1,Ak (0) 1],.int .i64 (0))]
theorem xY:AX C7 1000 MA0=true:=by kernel_rfl
def MA1:CG:=[(69,[.str [50,48]],.int .i64 (0)),
 (59,[.str [50,48]],Ak (20) 1),
 (91,[Ak (20) 1,Ak (0) 1],.int .i64 (1)),
 (91,[Ak (20) 1,Ak (10000) 1],.int .i64 (-1)),
 (88,[.str [98,117,110,107,101,114]],.bool true),
 (88,[.str [119,97,116,101,114]],.bool true),
 (69,[.str [45,50,48]],.int .i64 (0)),
 (59,[.str [45,50,48]],Ak (-20) 1),
 (91,[Ak (-20) 1,Ak (-10000) 1],.int .i64 (1))]
theorem yE:AX C7 1000 MA1=true:=by kernel_rfl
def MA2:CG:=[(91,[Ak (-20) 1,Ak (10000) 1],.int .i64 (-1)),
 (69,[.str [53]],.int .i64 (0)),
 (59,[.str [53]],Ak (5) 1),
 (91,[Ak (5) 1,Ak (-10000) 1],.int .i64 (1)),
 (91,[Ak (5) 1,Ak (10000) 1],.int .i64 (-1)),
 (69,[.str [49,53]],.int .i64 (0)),
 (59,[.str [49,53]],Ak (15) 1),
 (91,[Ak (15) 1,Ak (0) 1],.int .i64 (1)),
 (91,[Ak (15) 1,Ak (10000) 1],.int .i64 (-1))]
theorem wS:AX C7 1000 MA2=true:=by kernel_rfl
def MA3:CG:=[(88,[.str [98,108,117,101]],.bool true),
 (88,[.str [115,99,114,97,116,99,104]],.bool true),
 (69,[.str [50,52,48]],.int .i64 (0)),
 (59,[.str [50,52,48]],Ak (240) 1),
 (91,[Ak (240) 1,Ak (1) 1],.int .i64 (1)),
 (91,[Ak (240) 1,Ak (10000) 1],.int .i64 (-1)),
 (69,[.str [50,48,48]],.int .i64 (0)),
 (59,[.str [50,48,48]],Ak (200) 1),
 (91,[Ak (200) 1,Ak (1) 1],.int .i64 (1))]
theorem wT:AX C7 1000 MA3=true:=by kernel_rfl
def MA4:CG:=[(91,[Ak (200) 1,Ak (10000) 1],.int .i64 (-1)),
 (69,[.str [49,48,48]],.int .i64 (0)),
 (69,[.str [51]],.int .i64 (0)),
 (59,[.str [49,48,48]],Ak (100) 1),
 (59,[.str [51]],Ak (3) 1),
 (69,[.str [53,48,48]],.int .i64 (0)),
 (59,[.str [53,48,48]],Ak (500) 1),
 (91,[Ak (500) 1,Ak (100) 1],.int .i64 (1)),
 (91,[Ak (5) 1,Ak (3) 1],.int .i64 (1))]
theorem vH:AX C7 1000 MA4=true:=by kernel_rfl
def MA5:CG:=[(69,[.str [49,47,50]],.int .i64 (0)),
 (59,[.str [49,47,50]],Ak (1) 2),
 (69,[.str [49]],.int .i64 (0)),
 (59,[.str [49]],Ak (1) 1),
 (88,[.str [98,111,103,101,121]],.bool true),
 (69,[.str [49,56,48]],.int .i64 (0)),
 (59,[.str [49,56,48]],Ak (180) 1),
 (91,[Ak (180) 1,Ak (1) 1],.int .i64 (1)),
 (91,[Ak (180) 1,Ak (10000) 1],.int .i64 (-1))]
theorem uV:AX C7 1000 MA5=true:=by kernel_rfl
def MA6:CG:=[(69,[.str [49,54,48]],.int .i64 (0)),
 (59,[.str [49,54,48]],Ak (160) 1),
 (91,[Ak (160) 1,Ak (1) 1],.int .i64 (1)),
 (91,[Ak (160) 1,Ak (10000) 1],.int .i64 (-1)),
 (69,[.str [54]],.int .i64 (0)),
 (59,[.str [54]],Ak (6) 1),
 (91,[Ak (6) 1,Ak (3) 1],.int .i64 (1)),
 (69,[.str [50]],.int .i64 (0)),
 (59,[.str [50]],Ak (2) 1)]
theorem wZ:AX C7 1000 MA6=true:=by kernel_rfl
def MA7:CG:=[(71,[Ak (0) 1,Ak (-20) 1],Ak (-20) 1),
 (71,[Ak (-20) 1,Ak (5) 1],Ak (-15) 1),
 (71,[Ak (-15) 1,Ak (15) 1],Ak (0) 1),
 (71,[Ak (150) 1,Ak (0) 1],Ak (150) 1),
 (138,[Ak (150) 1],.bool false),
 (139,[Ak (150) 1],.str [49,53,48]),
 (71,[Ak (0) 1,Ak (10) 1],Ak (10) 1),
 (71,[Ak (10) 1,Ak (0) 1],Ak (10) 1),
 (71,[Ak (410) 1,Ak (10) 1],Ak (420) 1)]
theorem xO:AX C7 1000 MA7=true:=by kernel_rfl
def MA8:CG:=[(63,[Ak (420) 1,Ak (240) 1],Ak (180) 1),
 (71,[Ak (180) 1,Ak (200) 1],Ak (380) 1),
 (71,[Ak (200) 1,Ak (20) 1],Ak (220) 1),
 (60,[Ak (380) 1,Ak (220) 1],Ak (19) 11),
 (107,[Ak (19) 11],.agg [.int .i64 (2),.nils]),
 (71,[Ak (240) 1,Ak (20) 1],Ak (260) 1),
 (91,[Ak (420) 1,Ak (260) 1],.int .i64 (1)),
 (63,[Ak (420) 1,Ak (260) 1],Ak (160) 1),
 (64,[Ak (160) 1,Ak (200) 1],Ak (32000) 1)]
theorem wR:AX C7 1000 MA8=true:=by kernel_rfl
def MA9:CG:=[(60,[Ak (32000) 1,Ak (220) 1],Ak (1600) 11),
 (71,[Ak (240) 1,Ak (1600) 11],Ak (4240) 11),
 (138,[Ak (4240) 11],.bool false),
 (139,[Ak (4240) 11],.str [52,50,52,48,47,49,49]),
 (135,[.agg [.int .i64 (5),.nils],.agg [.int .i64 (10),.nils]],Ak (1) 2),
 (64,[Ak (1) 2,Ak (1) 2],Ak (1) 4),
 (71,[Ak (0) 1,Ak (1) 4],Ak (1) 4),
 (135,[.agg [.int .i64 (2),.nils],.agg [.int .i64 (10),.nils]],Ak (1) 5),
 (64,[Ak (1) 1,Ak (1) 5],Ak (1) 5)]
theorem yA:AX C7 1000 MA9=true:=by kernel_rfl
def Aar:CG:=[(71,[Ak (1) 4,Ak (1) 5],Ak (9) 20),
 (138,[Ak (9) 20],.bool false),
 (139,[Ak (9) 20],.str [57,47,50,48]),
 (71,[Ak (180) 1,Ak (20) 1],Ak (200) 1),
 (91,[Ak (420) 1,Ak (200) 1],.int .i64 (1)),
 (63,[Ak (420) 1,Ak (200) 1],Ak (220) 1),
 (64,[Ak (220) 1,Ak (160) 1],Ak (35200) 1),
 (71,[Ak (160) 1,Ak (20) 1],Ak (180) 1),
 (60,[Ak (35200) 1,Ak (180) 1],Ak (1760) 9)]
theorem nE:AX C7 1000 Aar=true:=by kernel_rfl
def Aap:CG:=[(71,[Ak (180) 1,Ak (1760) 9],Ak (3380) 9),
 (91,[Ak (3380) 9,Ak (100) 1],.int .i64 (1)),
 (91,[Ak (3380) 9,Ak (500) 1],.int .i64 (-1)),
 (63,[Ak (6) 1,Ak (3) 1],Ak (3) 1),
 (63,[Ak (3380) 9,Ak (100) 1],Ak (2480) 9),
 (64,[Ak (3) 1,Ak (2480) 9],Ak (2480) 3),
 (63,[Ak (500) 1,Ak (100) 1],Ak (400) 1),
 (60,[Ak (2480) 3,Ak (400) 1],Ak (31) 15),
 (71,[Ak (3) 1,Ak (31) 15],Ak (76) 15)]
theorem oV:AX C7 1000 Aap=true:=by kernel_rfl
def Aa1:CG:=[(64,[Ak (2) 1,Ak (1) 5],Ak (2) 5),
 (71,[Ak (0) 1,Ak (2) 5],Ak (2) 5),
 (71,[Ak (76) 15,Ak (2) 5],Ak (82) 15),
 (138,[Ak (82) 15],.bool false),
 (139,[Ak (82) 15],.str [56,50,47,49,53]),
 (91,[Ak (4240) 11,Ak (100) 1],.int .i64 (1)),
 (91,[Ak (4240) 11,Ak (500) 1],.int .i64 (-1)),
 (63,[Ak (5) 1,Ak (3) 1],Ak (2) 1),
 (63,[Ak (4240) 11,Ak (100) 1],Ak (3140) 11)]
theorem oX:AX C7 1000 Aa1=true:=by kernel_rfl
def Aa2:CG:=[(64,[Ak (2) 1,Ak (3140) 11],Ak (6280) 11),
 (60,[Ak (6280) 11,Ak (400) 1],Ak (157) 110),
 (71,[Ak (3) 1,Ak (157) 110],Ak (487) 110),
 (71,[Ak (487) 110,Ak (9) 20],Ak (1073) 220),
 (71,[Ak (240) 1,Ak (0) 1],Ak (240) 1),
 (91,[Ak (150) 1,Ak (240) 1],.int .i64 (-1)),
 (64,[Ak (150) 1,Ak (240) 1],Ak (36000) 1),
 (60,[Ak (36000) 1,Ak (240) 1],Ak (150) 1),
 (91,[Ak (150) 1,Ak (100) 1],.int .i64 (1))]
theorem rO:AX C7 1000 Aa2=true:=by kernel_rfl
def AaV:CG:=[(91,[Ak (150) 1,Ak (500) 1],.int .i64 (-1)),
 (63,[Ak (150) 1,Ak (100) 1],Ak (50) 1),
 (64,[Ak (2) 1,Ak (50) 1],Ak (100) 1),
 (60,[Ak (100) 1,Ak (400) 1],Ak (1) 4),
 (71,[Ak (3) 1,Ak (1) 4],Ak (13) 4),
 (71,[Ak (13) 4,Ak (0) 1],Ak (13) 4),
 (71,[Ak (0) 1,Ak (1073) 220],Ak (1073) 220),
 (71,[Ak (1073) 220,Ak (13) 4],Ak (447) 55),
 (138,[Ak (447) 55],.bool false)]
theorem mR:AX C7 1000 AaV=true:=by kernel_rfl
def Aax:CG:=[(139,[Ak (447) 55],.str [52,52,55,47,53,53]),
 (71,[Ak (180) 1,Ak (0) 1],Ak (180) 1),
 (91,[Ak (150) 1,Ak (180) 1],.int .i64 (-1)),
 (64,[Ak (150) 1,Ak (180) 1],Ak (27000) 1),
 (60,[Ak (27000) 1,Ak (180) 1],Ak (150) 1),
 (64,[Ak (3) 1,Ak (50) 1],Ak (150) 1),
 (60,[Ak (150) 1,Ak (400) 1],Ak (3) 8),
 (71,[Ak (3) 1,Ak (3) 8],Ak (27) 8),
 (71,[Ak (27) 8,Ak (0) 1],Ak (27) 8)]
theorem pA:AX C7 1000 Aax=true:=by kernel_rfl
def AaB:CG:=[(71,[Ak (0) 1,Ak (82) 15],Ak (82) 15),
 (71,[Ak (82) 15,Ak (27) 8],Ak (1061) 120),
 (64,[Ak (1061) 120,Ak (10) 1],Ak (1061) 12),
 (119,[Ak (1061) 12],.agg [.int .i64 (88),.nils]),
 (135,[.agg [.int .i64 (88),.nils],.agg [.int .i64 (10),.nils]],Ak (44) 5),
 (138,[Ak (44) 5],.bool false),
 (139,[Ak (44) 5],.str [52,52,47,53]),
 (63,[Ak (1061) 120,Ak (447) 55],Ak (943) 1320),
 (64,[Ak (943) 1320,Ak (5) 1],Ak (943) 264)]
theorem qT:AX C7 1000 AaB=true:=by kernel_rfl
def zG:CG:=[(119,[Ak (943) 264],.agg [.int .i64 (4),.nils]),
 (63,[Ak (82) 15,Ak (1073) 220],Ak (389) 660),
 (63,[Ak (27) 8,Ak (13) 4],Ak (1) 8),
 (91,[Ak (389) 660,Ak (389) 660],.int .i64 (0)),
 (91,[Ak (389) 660,Ak (1) 8],.int .i64 (1)),
 (91,[Ak (1) 8,Ak (389) 660],.int .i64 (-1)),
 (91,[Ak (1) 8,Ak (1) 8],.int .i64 (0)),
 (69,[.str [55]],.int .i64 (0)),
 (71,[Ak (0) 1,Ak (1) 1],Ak (1) 1)]
theorem mY:AX C7 1000 zG=true:=by kernel_rfl
def zQ:CG:=[(71,[Ak (1) 1,Ak (2) 1],Ak (3) 1),
 (71,[Ak (3) 1,Ak (3) 1],Ak (6) 1),
 (60,[Ak (6) 1,Ak (3) 1],Ak (2) 1),
 (59,[.str [55]],Ak (7) 1),
 (71,[Ak (0) 1,Ak (2) 1],Ak (2) 1),
 (71,[Ak (2) 1,Ak (3) 1],Ak (5) 1),
 (71,[Ak (5) 1,Ak (7) 1],Ak (12) 1),
 (60,[Ak (12) 1,Ak (3) 1],Ak (4) 1),
 (63,[Ak (1) 1,Ak (2) 1],Ak (-1) 1)]
theorem oI:AX C7 1000 zQ=true:=by kernel_rfl
def Aan:CG:=[(64,[Ak (-1) 1,Ak (-1) 1],Ak (1) 1),
 (63,[Ak (2) 1,Ak (2) 1],Ak (0) 1),
 (64,[Ak (0) 1,Ak (0) 1],Ak (0) 1),
 (63,[Ak (3) 1,Ak (2) 1],Ak (1) 1),
 (64,[Ak (1) 1,Ak (1) 1],Ak (1) 1),
 (71,[Ak (1) 1,Ak (0) 1],Ak (1) 1),
 (71,[Ak (1) 1,Ak (1) 1],Ak (2) 1),
 (63,[Ak (2) 1,Ak (4) 1],Ak (-2) 1),
 (64,[Ak (-1) 1,Ak (-2) 1],Ak (2) 1)]
theorem lO:AX C7 1000 Aan=true:=by kernel_rfl
def yX:CG:=[(63,[Ak (3) 1,Ak (4) 1],Ak (-1) 1),
 (64,[Ak (0) 1,Ak (-1) 1],Ak (0) 1),
 (63,[Ak (7) 1,Ak (4) 1],Ak (3) 1),
 (64,[Ak (1) 1,Ak (3) 1],Ak (3) 1),
 (71,[Ak (2) 1,Ak (0) 1],Ak (2) 1),
 (60,[Ak (5) 1,Ak (2) 1],Ak (5) 2),
 (138,[Ak (5) 2],.bool false),
 (139,[Ak (5) 2],.str [53,47,50]),
 (64,[Ak (5) 2,Ak (2) 1],Ak (5) 1)]
theorem mB:AX C7 1000 yX=true:=by kernel_rfl
def zK:CG:=[(63,[Ak (4) 1,Ak (5) 1],Ak (-1) 1),
 (138,[Ak (-1) 1],.bool false),
 (139,[Ak (-1) 1],.str [45,49]),
 (69,[.str [52]],.int .i64 (0)),
 (59,[.str [52]],Ak (4) 1),
 (91,[Ak (1) 1,Ak (4) 1],.int .i64 (-1)),
 (91,[Ak (3) 1,Ak (4) 1],.int .i64 (-1)),
 (91,[Ak (3) 1,Ak (1) 1],.int .i64 (1)),
 (91,[Ak (10) 1,Ak (4) 1],.int .i64 (1))]
theorem lU:AX C7 1000 zK=true:=by kernel_rfl
def AaY:CG:=[(71,[Ak (3) 1,Ak (4) 1],Ak (7) 1),
 (60,[Ak (7) 1,Ak (2) 1],Ak (7) 2),
 (138,[Ak (7) 2],.bool false),
 (139,[Ak (7) 2],.str [55,47,50]),
 (91,[Ak (9) 1,Ak (8) 1],.int .i64 (1)),
 (91,[Ak (9) 1,Ak (9) 1],.int .i64 (0)),
 (71,[Ak (9) 1,Ak (9) 1],Ak (18) 1),
 (60,[Ak (18) 1,Ak (2) 1],Ak (9) 1),
 (64,[Ak (447) 55,Ak (10) 1],Ak (894) 11)]
theorem mG:AX C7 1000 AaY=true:=by kernel_rfl
def yU:CG:=[(119,[Ak (894) 11],.agg [.int .i64 (81),.nils]),
 (135,[.agg [.int .i64 (81),.nils],.agg [.int .i64 (10),.nils]],Ak (81) 10),
 (63,[Ak (9) 1,Ak (81) 10],Ak (9) 10),
 (138,[Ak (9) 10],.bool false),
 (139,[Ak (9) 10],.str [57,47,49,48])]
theorem qU:AX C7 1000 yU=true:=by kernel_rfl
def MA:CG:=(MA0++(MA1++(MA2++(MA3++(MA4++(MA5++(MA6++(MA7++(MA8++(MA9++(Aar++(Aap++(Aa1++(Aa2++(AaV++(Aax++(AaB++(zG++(zQ++(Aan++(yX++(zK++(AaY++yU)))))))))))))))))))))))
theorem sp1:KZ prog (JV C7 1000 MA):=QY X8 Lb Td (AJ xY (AJ yE (AJ wS (AJ wT (AJ vH (AJ uV (AJ wZ (AJ xO (AJ wR (AJ yA (AJ nE (AJ oV (AJ oX (AJ rO (AJ mR (AJ pA (AJ qT (AJ mY (AJ oI (AJ lO (AJ mB (AJ lU (AJ mG qU)))))))))))))))))))))))
def tN:Ctx:=Yd C7 (JV C7 1000 MA)
theorem yF:tN.Ok prog:=TV X8 sp1
theorem aQ:Gz tN:=MM Lb _
def MB0:CG:=[(89,[.str [49,48],.int .i64 (-10000),.int .i64 (10000)],.int .i64 (0)),
 (89,[.str [48],.int .i64 (-10000),.int .i64 (10000)],.int .i64 (0)),
 (89,[.str [48],.int .i64 (0),.int .i64 (10000)],.int .i64 (0)),
 (89,[.str [50,48],.int .i64 (0),.int .i64 (10000)],.int .i64 (0)),
 (89,[.str [45,50,48],.int .i64 (-10000),.int .i64 (10000)],.int .i64 (0)),
 (89,[.str [53],.int .i64 (-10000),.int .i64 (10000)],.int .i64 (0))]
theorem vB:AX tN 1000 MB0=true:=by kernel_rfl
def MB1:CG:=[(89,[.str [49,53],.int .i64 (0),.int .i64 (10000)],.int .i64 (0)),
 (89,[.str [50,52,48],.int .i64 (1),.int .i64 (10000)],.int .i64 (0)),
 (89,[.str [50,48,48],.int .i64 (1),.int .i64 (10000)],.int .i64 (0)),
 (89,[.str [49,56,48],.int .i64 (1),.int .i64 (10000)],.int .i64 (0)),
 (89,[.str [49,54,48],.int .i64 (1),.int .i64 (10000)],.int .i64 (0)),
 (67,[Ak (150) 1],.tup [.str [49,53,48],.int .i64 (0)])]
theorem xZ:AX tN 1000 MB1=true:=by kernel_rfl
def MB2:CG:=[(67,[Ak (4240) 11],.tup [.str [52,50,52,48,47,49,49],.int .i64 (0)]),
 (67,[Ak (9) 20],.tup [.str [57,47,50,48],.int .i64 (0)]),
 (67,[Ak (82) 15],.tup [.str [56,50,47,49,53],.int .i64 (0)]),
 (67,[Ak (447) 55],.tup [.str [52,52,55,47,53,53],.int .i64 (0)]),
 (118,[Ak (1061) 120],Ak (44) 5),
 (67,[Ak (44) 5],.tup [.str [52,52,47,53],.int .i64 (0)])]
theorem uS:AX tN 1000 MB2=true:=by kernel_rfl
def MB3:CG:=[(67,[Ak (5) 2],.tup [.str [53,47,50],.int .i64 (0)]),
 (67,[Ak (-1) 1],.tup [.str [45,49],.int .i64 (0)]),
 (67,[Ak (7) 2],.tup [.str [55,47,50],.int .i64 (0)]),
 (118,[Ak (447) 55],Ak (81) 10),
 (67,[Ak (9) 10],.tup [.str [57,47,49,48],.int .i64 (0)])]
theorem wB:AX tN 1000 MB3=true:=by kernel_rfl
def MB:CG:=(MB0++(MB1++(MB2++MB3)))
theorem sp2:KZ prog (JV tN 1000 MB):=QY yF aQ Td (AJ vB (AJ xZ (AJ uS wB)))
def S72:W6:=yS (JV tN 1000 MB) (JV C7 1000 MA)
theorem vY:KZ prog S72:=Sq sp2 sp1
def C72:Ctx:=Yd C7 S72
theorem vC:C72.Ok prog:=TV X8 vY
theorem Z1:Gz C72:=MM Lb _
end
end Go.Det
