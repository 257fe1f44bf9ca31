import Derived.Test.YtobmcolckeoejaaGreatDoorX05
/- A part of a proof; no law is stated here. -/
noncomputable section
namespace Go.Det
section
open Go.Proofs.Tryz (prog)
def Aq(n d:Int):V:=.agg [.int .i64 n,.nils,.int .i64 d,.nils]
def MA0:Cy:=[(89,[.str [49,48]],.int .i64<|0),
 (66,[.str [49,48]],Aq (10) 1),
 (81,[Aq (10) 1,Aq (-10000) 1],.int .i64<|1),
 (81,[Aq (10) 1,Aq (10000) 1],.int .i64<| -1),
 (89,[.str [48]],.int .i64<|0),
 (66,[.str [48]],Aq (0) 1),
 (81,[Aq (0) 1,Aq (-10000) 1],.int .i64<|1),
 (81,[Aq (0) 1,Aq (10000) 1],.int .i64<| -1),
 (81,[Aq (0) 1,Aq (0) 1],.int .i64<|0)]
theorem Aco:AU C7 1000 MA0=true:=by kernel_rfl
def MA1:Cy:=[(89,[.str [50,48]],.int .i64<|0),
 (66,[.str [50,48]],Aq (20) 1),
 (81,[Aq (20) 1,Aq (0) 1],.int .i64<|1),
 (81,[Aq (20) 1,Aq (10000) 1],.int .i64<| -1),
 (152,[.str [98,117,110,107,101,114]],.bool true),
 (152,[.str [119,97,116,101,114]],.bool true),
 (89,[.str [45,50,48]],.int .i64<|0),
 (66,[.str [45,50,48]],Aq (-20) 1),
 (81,[Aq (-20) 1,Aq (-10000) 1],.int .i64<|1)]
theorem AcH:AU C7 1000 MA1=true:=by kernel_rfl
def MA2:Cy:=[(81,[Aq (-20) 1,Aq (10000) 1],.int .i64<| -1),
 (89,[.str [53]],.int .i64<|0),
 (66,[.str [53]],Aq (5) 1),
 (81,[Aq (5) 1,Aq (-10000) 1],.int .i64<|1),
 (81,[Aq (5) 1,Aq (10000) 1],.int .i64<| -1),
 (89,[.str [49,53]],.int .i64<|0),
 (66,[.str [49,53]],Aq (15) 1),
 (81,[Aq (15) 1,Aq (0) 1],.int .i64<|1),
 (81,[Aq (15) 1,Aq (10000) 1],.int .i64<| -1)]
theorem Ad1:AU C7 1000 MA2=true:=by kernel_rfl
def MA3:Cy:=[(152,[.str [98,108,117,101]],.bool true),
 (152,[.str [115,99,114,97,116,99,104]],.bool true),
 (89,[.str [50,52,48]],.int .i64<|0),
 (66,[.str [50,52,48]],Aq (240) 1),
 (81,[Aq (240) 1,Aq (1) 1],.int .i64<|1),
 (81,[Aq (240) 1,Aq (10000) 1],.int .i64<| -1),
 (89,[.str [50,48,48]],.int .i64<|0),
 (66,[.str [50,48,48]],Aq (200) 1),
 (81,[Aq (200) 1,Aq (1) 1],.int .i64<|1)]
theorem AdC:AU C7 1000 MA3=true:=by kernel_rfl
def MA4:Cy:=[(81,[Aq (200) 1,Aq (10000) 1],.int .i64<| -1),
 (89,[.str [49,48,48]],.int .i64<|0),
 (89,[.str [51]],.int .i64<|0),
 (66,[.str [49,48,48]],Aq (100) 1),
 (66,[.str [51]],Aq (3) 1),
 (89,[.str [53,48,48]],.int .i64<|0),
 (66,[.str [53,48,48]],Aq (500) 1),
 (81,[Aq (500) 1,Aq (100) 1],.int .i64<|1),
 (81,[Aq (5) 1,Aq (3) 1],.int .i64<|1)]
theorem AdP:AU C7 1000 MA4=true:=by kernel_rfl
def MA5:Cy:=[(89,[.str [49,47,50]],.int .i64<|0),
 (66,[.str [49,47,50]],Aq (1) 2),
 (89,[.str [49]],.int .i64<|0),
 (66,[.str [49]],Aq (1) 1),
 (152,[.str [98,111,103,101,121]],.bool true),
 (89,[.str [49,56,48]],.int .i64<|0),
 (66,[.str [49,56,48]],Aq (180) 1),
 (81,[Aq (180) 1,Aq (1) 1],.int .i64<|1),
 (81,[Aq (180) 1,Aq (10000) 1],.int .i64<| -1)]
theorem AdV:AU C7 1000 MA5=true:=by kernel_rfl
def MA6:Cy:=[(89,[.str [49,54,48]],.int .i64<|0),
 (66,[.str [49,54,48]],Aq (160) 1),
 (81,[Aq (160) 1,Aq (1) 1],.int .i64<|1),
 (81,[Aq (160) 1,Aq (10000) 1],.int .i64<| -1),
 (89,[.str [54]],.int .i64<|0),
 (66,[.str [54]],Aq (6) 1),
 (81,[Aq (6) 1,Aq (3) 1],.int .i64<|1),
 (89,[.str [50]],.int .i64<|0),
 (66,[.str [50]],Aq (2) 1)]
theorem Adq:AU C7 1000 MA6=true:=by kernel_rfl
def MA7:Cy:=[(67,[Aq (0) 1,Aq (-20) 1],Aq (-20) 1),
 (67,[Aq (-20) 1,Aq (5) 1],Aq (-15) 1),
 (67,[Aq (-15) 1,Aq (15) 1],Aq (0) 1),
 (67,[Aq (150) 1,Aq (0) 1],Aq (150) 1),
 (90,[Aq (150) 1],.bool false),
 (91,[Aq (150) 1],.str [49,53,48]),
 (67,[Aq (0) 1,Aq (10) 1],Aq (10) 1),
 (67,[Aq (10) 1,Aq (0) 1],Aq (10) 1),
 (67,[Aq (410) 1,Aq (10) 1],Aq (420) 1)]
theorem Aem:AU C7 1000 MA7=true:=by kernel_rfl
def MA8:Cy:=[(61,[Aq (420) 1,Aq (240) 1],Aq (180) 1),
 (67,[Aq (180) 1,Aq (200) 1],Aq (380) 1),
 (67,[Aq (200) 1,Aq (20) 1],Aq (220) 1),
 (68,[Aq (380) 1,Aq (220) 1],Aq (19) 11),
 (69,[Aq (19) 11],.agg [.int .i64<|2,.nils]),
 (67,[Aq (240) 1,Aq (20) 1],Aq (260) 1),
 (81,[Aq (420) 1,Aq (260) 1],.int .i64<|1),
 (61,[Aq (420) 1,Aq (260) 1],Aq (160) 1),
 (74,[Aq (160) 1,Aq (200) 1],Aq (32000) 1)]
theorem Adb:AU C7 1000 MA8=true:=by kernel_rfl
def MA9:Cy:=[(68,[Aq (32000) 1,Aq (220) 1],Aq (1600) 11),
 (67,[Aq (240) 1,Aq (1600) 11],Aq (4240) 11),
 (90,[Aq (4240) 11],.bool false),
 (91,[Aq (4240) 11],.str [52,50,52,48,47,49,49]),
 (121,[.agg [.int .i64<|5,.nils],.agg [.int .i64<|10,.nils]],Aq (1) 2),
 (74,[Aq (1) 2,Aq (1) 2],Aq (1) 4),
 (67,[Aq (0) 1,Aq (1) 4],Aq (1) 4),
 (121,[.agg [.int .i64<|2,.nils],.agg [.int .i64<|10,.nils]],Aq (1) 5),
 (74,[Aq (1) 1,Aq (1) 5],Aq (1) 5)]
theorem Aee:AU C7 1000 MA9=true:=by kernel_rfl
def Aft:Cy:=[(67,[Aq (1) 4,Aq (1) 5],Aq (9) 20),
 (90,[Aq (9) 20],.bool false),
 (91,[Aq (9) 20],.str [57,47,50,48]),
 (67,[Aq (180) 1,Aq (20) 1],Aq (200) 1),
 (81,[Aq (420) 1,Aq (200) 1],.int .i64<|1),
 (61,[Aq (420) 1,Aq (200) 1],Aq (220) 1),
 (74,[Aq (220) 1,Aq (160) 1],Aq (35200) 1),
 (67,[Aq (160) 1,Aq (20) 1],Aq (180) 1),
 (68,[Aq (35200) 1,Aq (180) 1],Aq (1760) 9)]
theorem yL:AU C7 1000 Aft=true:=by kernel_rfl
def AfL:Cy:=[(67,[Aq (180) 1,Aq (1760) 9],Aq (3380) 9),
 (81,[Aq (3380) 9,Aq (100) 1],.int .i64<|1),
 (81,[Aq (3380) 9,Aq (500) 1],.int .i64<| -1),
 (61,[Aq (6) 1,Aq (3) 1],Aq (3) 1),
 (61,[Aq (3380) 9,Aq (100) 1],Aq (2480) 9),
 (74,[Aq (3) 1,Aq (2480) 9],Aq (2480) 3),
 (61,[Aq (500) 1,Aq (100) 1],Aq (400) 1),
 (68,[Aq (2480) 3,Aq (400) 1],Aq (31) 15),
 (67,[Aq (3) 1,Aq (31) 15],Aq (76) 15)]
theorem zJ:AU C7 1000 AfL=true:=by kernel_rfl
def AfJ:Cy:=[(74,[Aq (2) 1,Aq (1) 5],Aq (2) 5),
 (67,[Aq (0) 1,Aq (2) 5],Aq (2) 5),
 (67,[Aq (76) 15,Aq (2) 5],Aq (82) 15),
 (90,[Aq (82) 15],.bool false),
 (91,[Aq (82) 15],.str [56,50,47,49,53]),
 (81,[Aq (4240) 11,Aq (100) 1],.int .i64<|1),
 (81,[Aq (4240) 11,Aq (500) 1],.int .i64<| -1),
 (61,[Aq (5) 1,Aq (3) 1],Aq (2) 1),
 (61,[Aq (4240) 11,Aq (100) 1],Aq (3140) 11)]
theorem vB:AU C7 1000 AfJ=true:=by kernel_rfl
def Af4:Cy:=[(74,[Aq (2) 1,Aq (3140) 11],Aq (6280) 11),
 (68,[Aq (6280) 11,Aq (400) 1],Aq (157) 110),
 (67,[Aq (3) 1,Aq (157) 110],Aq (487) 110),
 (67,[Aq (487) 110,Aq (9) 20],Aq (1073) 220),
 (67,[Aq (240) 1,Aq (0) 1],Aq (240) 1),
 (81,[Aq (150) 1,Aq (240) 1],.int .i64<| -1),
 (74,[Aq (150) 1,Aq (240) 1],Aq (36000) 1),
 (68,[Aq (36000) 1,Aq (240) 1],Aq (150) 1),
 (81,[Aq (150) 1,Aq (100) 1],.int .i64<|1)]
theorem AaP:AU C7 1000 Af4=true:=by kernel_rfl
def Afx:Cy:=[(81,[Aq (150) 1,Aq (500) 1],.int .i64<| -1),
 (61,[Aq (150) 1,Aq (100) 1],Aq (50) 1),
 (74,[Aq (2) 1,Aq (50) 1],Aq (100) 1),
 (68,[Aq (100) 1,Aq (400) 1],Aq (1) 4),
 (67,[Aq (3) 1,Aq (1) 4],Aq (13) 4),
 (67,[Aq (13) 4,Aq (0) 1],Aq (13) 4),
 (67,[Aq (0) 1,Aq (1073) 220],Aq (1073) 220),
 (67,[Aq (1073) 220,Aq (13) 4],Aq (447) 55),
 (90,[Aq (447) 55],.bool false)]
theorem zC:AU C7 1000 Afx=true:=by kernel_rfl
def Ae6:Cy:=[(91,[Aq (447) 55],.str [52,52,55,47,53,53]),
 (67,[Aq (180) 1,Aq (0) 1],Aq (180) 1),
 (81,[Aq (150) 1,Aq (180) 1],.int .i64<| -1),
 (74,[Aq (150) 1,Aq (180) 1],Aq (27000) 1),
 (68,[Aq (27000) 1,Aq (180) 1],Aq (150) 1),
 (74,[Aq (3) 1,Aq (50) 1],Aq (150) 1),
 (68,[Aq (150) 1,Aq (400) 1],Aq (3) 8),
 (67,[Aq (3) 1,Aq (3) 8],Aq (27) 8),
 (67,[Aq (27) 8,Aq (0) 1],Aq (27) 8)]
theorem yR:AU C7 1000 Ae6=true:=by kernel_rfl
def AfK:Cy:=[(67,[Aq (0) 1,Aq (82) 15],Aq (82) 15),
 (67,[Aq (82) 15,Aq (27) 8],Aq (1061) 120),
 (74,[Aq (1061) 120,Aq (10) 1],Aq (1061) 12),
 (75,[Aq (1061) 12],.agg [.int .i64<|88,.nils]),
 (121,[.agg [.int .i64<|88,.nils],.agg [.int .i64<|10,.nils]],Aq (44) 5),
 (90,[Aq (44) 5],.bool false),
 (91,[Aq (44) 5],.str [52,52,47,53]),
 (61,[Aq (1061) 120,Aq (447) 55],Aq (943) 1320),
 (74,[Aq (943) 1320,Aq (5) 1],Aq (943) 264)]
theorem AaB:AU C7 1000 AfK=true:=by kernel_rfl
def Af9:Cy:=[(75,[Aq (943) 264],.agg [.int .i64<|4,.nils]),
 (61,[Aq (82) 15,Aq (1073) 220],Aq (389) 660),
 (61,[Aq (27) 8,Aq (13) 4],Aq (1) 8),
 (81,[Aq (389) 660,Aq (389) 660],.int .i64<|0),
 (81,[Aq (389) 660,Aq (1) 8],.int .i64<|1),
 (81,[Aq (1) 8,Aq (389) 660],.int .i64<| -1),
 (81,[Aq (1) 8,Aq (1) 8],.int .i64<|0),
 (89,[.str [55]],.int .i64<|0),
 (67,[Aq (0) 1,Aq (1) 1],Aq (1) 1)]
theorem xN:AU C7 1000 Af9=true:=by kernel_rfl
def Ae1:Cy:=[(67,[Aq (1) 1,Aq (2) 1],Aq (3) 1),
 (67,[Aq (3) 1,Aq (3) 1],Aq (6) 1),
 (68,[Aq (6) 1,Aq (3) 1],Aq (2) 1),
 (66,[.str [55]],Aq (7) 1),
 (67,[Aq (0) 1,Aq (2) 1],Aq (2) 1),
 (67,[Aq (2) 1,Aq (3) 1],Aq (5) 1),
 (67,[Aq (5) 1,Aq (7) 1],Aq (12) 1),
 (68,[Aq (12) 1,Aq (3) 1],Aq (4) 1),
 (61,[Aq (1) 1,Aq (2) 1],Aq (-1) 1)]
theorem AaD:AU C7 1000 Ae1=true:=by kernel_rfl
def AfT:Cy:=[(74,[Aq (-1) 1,Aq (-1) 1],Aq (1) 1),
 (61,[Aq (2) 1,Aq (2) 1],Aq (0) 1),
 (74,[Aq (0) 1,Aq (0) 1],Aq (0) 1),
 (61,[Aq (3) 1,Aq (2) 1],Aq (1) 1),
 (74,[Aq (1) 1,Aq (1) 1],Aq (1) 1),
 (67,[Aq (1) 1,Aq (0) 1],Aq (1) 1),
 (67,[Aq (1) 1,Aq (1) 1],Aq (2) 1),
 (61,[Aq (2) 1,Aq (4) 1],Aq (-2) 1),
 (74,[Aq (-1) 1,Aq (-2) 1],Aq (2) 1)]
theorem xT:AU C7 1000 AfT=true:=by kernel_rfl
def AfY:Cy:=[(61,[Aq (3) 1,Aq (4) 1],Aq (-1) 1),
 (74,[Aq (0) 1,Aq (-1) 1],Aq (0) 1),
 (61,[Aq (7) 1,Aq (4) 1],Aq (3) 1),
 (74,[Aq (1) 1,Aq (3) 1],Aq (3) 1),
 (67,[Aq (2) 1,Aq (0) 1],Aq (2) 1),
 (68,[Aq (5) 1,Aq (2) 1],Aq (5) 2),
 (90,[Aq (5) 2],.bool false),
 (91,[Aq (5) 2],.str [53,47,50]),
 (74,[Aq (5) 2,Aq (2) 1],Aq (5) 1)]
theorem wT:AU C7 1000 AfY=true:=by kernel_rfl
def AfM:Cy:=[(61,[Aq (4) 1,Aq (5) 1],Aq (-1) 1),
 (90,[Aq (-1) 1],.bool false),
 (91,[Aq (-1) 1],.str [45,49]),
 (89,[.str [52]],.int .i64<|0),
 (66,[.str [52]],Aq (4) 1),
 (81,[Aq (1) 1,Aq (4) 1],.int .i64<| -1),
 (81,[Aq (3) 1,Aq (4) 1],.int .i64<| -1),
 (81,[Aq (3) 1,Aq (1) 1],.int .i64<|1),
 (81,[Aq (10) 1,Aq (4) 1],.int .i64<|1)]
theorem wX:AU C7 1000 AfM=true:=by kernel_rfl
def AfC:Cy:=[(67,[Aq (3) 1,Aq (4) 1],Aq (7) 1),
 (68,[Aq (7) 1,Aq (2) 1],Aq (7) 2),
 (90,[Aq (7) 2],.bool false),
 (91,[Aq (7) 2],.str [55,47,50]),
 (81,[Aq (9) 1,Aq (8) 1],.int .i64<|1),
 (81,[Aq (9) 1,Aq (9) 1],.int .i64<|0),
 (67,[Aq (9) 1,Aq (9) 1],Aq (18) 1),
 (68,[Aq (18) 1,Aq (2) 1],Aq (9) 1),
 (74,[Aq (447) 55,Aq (10) 1],Aq (894) 11)]
theorem xJ:AU C7 1000 AfC=true:=by kernel_rfl
def Agc:Cy:=[(75,[Aq (894) 11],.agg [.int .i64<|81,.nils]),
 (121,[.agg [.int .i64<|81,.nils],.agg [.int .i64<|10,.nils]],Aq (81) 10),
 (61,[Aq (9) 1,Aq (81) 10],Aq (9) 10),
 (90,[Aq (9) 10],.bool false),
 (91,[Aq (9) 10],.str [57,47,49,48])]
theorem Aae:AU C7 1000 Agc=true:=by kernel_rfl
def MA:Cy:=(MA0++(MA1++(MA2++(MA3++(MA4++(MA5++(MA6++(MA7++(MA8++(MA9++(Aft++(AfL++(AfJ++(Af4++(Afx++(Ae6++(AfK++(Af9++(Ae1++(AfT++(AfY++(AfM++(AfC++Agc)))))))))))))))))))))))
theorem sp1:Hi prog (KQ C7 1000 MA):=RJ W9 I4 Mr<|AK Aco<|AK AcH<|AK Ad1<|AK AdC<|AK AdP<|AK AdV<|AK Adq<|AK Aem<|AK Adb<|AK Aee<|AK yL<|AK zJ<|AK vB<|AK AaP<|AK zC<|AK yR<|AK AaB<|AK xN<|AK AaD<|AK xT<|AK wT<|AK wX<|AK xJ Aae
def kT:Ctx:=ZF C7<|KQ C7 1000 MA
theorem Acw:kT.Ok prog:=Wx W9 sp1
theorem gC:GO kT:=NA I4 _
def MB0:Cy:=[(193,[.str [49,48],.int .i64<| -10000,.int .i64<|10000],.int .i64<|0),
 (193,[.str [48],.int .i64<| -10000,.int .i64<|10000],.int .i64<|0),
 (193,[.str [48],.int .i64<|0,.int .i64<|10000],.int .i64<|0),
 (193,[.str [50,48],.int .i64<|0,.int .i64<|10000],.int .i64<|0),
 (193,[.str [45,50,48],.int .i64<| -10000,.int .i64<|10000],.int .i64<|0),
 (193,[.str [53],.int .i64<| -10000,.int .i64<|10000],.int .i64<|0)]
theorem Acr:AU kT 1000 MB0=true:=by kernel_rfl
def MB1:Cy:=[(193,[.str [49,53],.int .i64<|0,.int .i64<|10000],.int .i64<|0),
 (193,[.str [50,52,48],.int .i64<|1,.int .i64<|10000],.int .i64<|0),
 (193,[.str [50,48,48],.int .i64<|1,.int .i64<|10000],.int .i64<|0),
 (193,[.str [49,56,48],.int .i64<|1,.int .i64<|10000],.int .i64<|0),
 (193,[.str [49,54,48],.int .i64<|1,.int .i64<|10000],.int .i64<|0),
 (59,[.bool false,.int .i64<|8],.int .i64<|0)]
theorem Adf:AU kT 1000 MB1=true:=by kernel_rfl
def MB2:Cy:=[(59,[.bool false,.int .i64<|9],.int .i64<|0),
 (59,[.bool false,.int .i64<|3],.int .i64<|0),
 (59,[.bool false,.int .i64<|5],.int .i64<|0),
 (59,[.bool false,.int .i64<|12],.int .i64<|0),
 (59,[.bool false,.int .i64<|2],.int .i64<|0),
 (59,[.bool false,.int .i64<|10],.int .i64<|0)]
theorem Acj:AU kT 1000 MB2=true:=by kernel_rfl
def MB3:Cy:=[(58,[.int .i64<|2,.int .i64<|36],.int .i64<|0),
 (58,[.int .i64<|1,.int .i64<|8],.int .i64<|0),
 (58,[.int .i64<|2,.int .i64<|8],.int .i64<|0),
 (87,[Aq (1) 2],.int .i64<|1),
 (87,[Aq (1) 1],.int .i64<|1),
 (87,[Aq (2) 1],.int .i64<|1)]
theorem AdF:AU kT 1000 MB3=true:=by kernel_rfl
def MB4:Cy:=[(151,[.int .i64<|410],.bool false),
 (151,[.int .i64<|150],.bool false),
 (117,[.agg [.int .i64<|0,.int .i64<|1]],.bool false),
 (117,[.agg [.int .i64<|0,.int .i64<|2]],.bool false),
 (117,[.agg [.int .i64<|1,.int .i64<|2]],.bool false),
 (31,[Aq (150) 1],.tup [.str [49,53,48],.int .i64<|0])]
theorem AcP:AU kT 1000 MB4=true:=by kernel_rfl
def MB5:Cy:=[(31,[Aq (4240) 11],.tup [.str [52,50,52,48,47,49,49],.int .i64<|0]),
 (31,[Aq (9) 20],.tup [.str [57,47,50,48],.int .i64<|0]),
 (31,[Aq (82) 15],.tup [.str [56,50,47,49,53],.int .i64<|0]),
 (31,[Aq (447) 55],.tup [.str [52,52,55,47,53,53],.int .i64<|0]),
 (62,[Aq (1061) 120],Aq (44) 5),
 (31,[Aq (44) 5],.tup [.str [52,52,47,53],.int .i64<|0])]
theorem AcL:AU kT 1000 MB5=true:=by kernel_rfl
def MB6:Cy:=[(31,[Aq (5) 2],.tup [.str [53,47,50],.int .i64<|0]),
 (31,[Aq (-1) 1],.tup [.str [45,49],.int .i64<|0]),
 (31,[Aq (7) 2],.tup [.str [55,47,50],.int .i64<|0]),
 (62,[Aq (447) 55],Aq (81) 10),
 (31,[Aq (9) 10],.tup [.str [57,47,49,48],.int .i64<|0])]
theorem Ac4:AU kT 1000 MB6=true:=by kernel_rfl
def MB:Cy:=(MB0++(MB1++(MB2++(MB3++(MB4++(MB5++MB6))))))
theorem sp2:Hi prog (KQ kT 1000 MB):=RJ Acw gC Mr<|AK Acr<|AK Adf<|AK Acj<|AK AdF<|AK AcP<|AK AcL Ac4
def S72:YI:=orS (KQ kT 1000 MB)<|KQ C7 1000 MA
theorem Ad8:Hi prog S72:=Pq sp2 sp1
def C72:Ctx:=ZF C7 S72
theorem Aek:C72.Ok prog:=Wx W9 Ad8
theorem dQ:GO C72:=NA I4 _
end
end Go.Det
