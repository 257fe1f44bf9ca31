import Derived.Test.YtbmofcgiokkikaaGreatDoorX04
/- A part of a proof; no law is stated here. -/
noncomputable section
namespace Go.Det
section
open Go.Proofs.Tryz (prog)
def Aw(n d:Int):V:=.agg [.int .i64 n,.nils,.int .i64 d,.nils]
def MA0:CX:=[(163,[.str [49,48]],.int .i64<|0),
 (96,[.str [49,48]],Aw (10) 1),
 (73,[Aw (10) 1,Aw (-10000) 1],.int .i64<|1),
 (73,[Aw (10) 1,Aw (10000) 1],.int .i64<| -1),
 (163,[.str [48]],.int .i64<|0),
 (96,[.str [48]],Aw (0) 1),
 (73,[Aw (0) 1,Aw (-10000) 1],.int .i64<|1),
 (73,[Aw (0) 1,Aw (10000) 1],.int .i64<| -1),
 (73,[Aw (0) 1,Aw (0) 1],.int .i64<|0)]
theorem Afm:A0 C7 1000 MA0=true:=by kernel_rfl
def MA1:CX:=[(163,[.str [50,48]],.int .i64<|0),
 (96,[.str [50,48]],Aw (20) 1),
 (73,[Aw (20) 1,Aw (0) 1],.int .i64<|1),
 (73,[Aw (20) 1,Aw (10000) 1],.int .i64<| -1),
 (166,[.str [98,117,110,107,101,114]],.bool true),
 (166,[.str [119,97,116,101,114]],.bool true),
 (163,[.str [45,50,48]],.int .i64<|0),
 (96,[.str [45,50,48]],Aw (-20) 1),
 (73,[Aw (-20) 1,Aw (-10000) 1],.int .i64<|1)]
theorem AfT:A0 C7 1000 MA1=true:=by kernel_rfl
def MA2:CX:=[(73,[Aw (-20) 1,Aw (10000) 1],.int .i64<| -1),
 (163,[.str [53]],.int .i64<|0),
 (96,[.str [53]],Aw (5) 1),
 (73,[Aw (5) 1,Aw (-10000) 1],.int .i64<|1),
 (73,[Aw (5) 1,Aw (10000) 1],.int .i64<| -1),
 (163,[.str [49,53]],.int .i64<|0),
 (96,[.str [49,53]],Aw (15) 1),
 (73,[Aw (15) 1,Aw (0) 1],.int .i64<|1),
 (73,[Aw (15) 1,Aw (10000) 1],.int .i64<| -1)]
theorem Afq:A0 C7 1000 MA2=true:=by kernel_rfl
def MA3:CX:=[(166,[.str [98,108,117,101]],.bool true),
 (166,[.str [115,99,114,97,116,99,104]],.bool true),
 (163,[.str [50,52,48]],.int .i64<|0),
 (96,[.str [50,52,48]],Aw (240) 1),
 (73,[Aw (240) 1,Aw (1) 1],.int .i64<|1),
 (73,[Aw (240) 1,Aw (10000) 1],.int .i64<| -1),
 (163,[.str [50,48,48]],.int .i64<|0),
 (96,[.str [50,48,48]],Aw (200) 1),
 (73,[Aw (200) 1,Aw (1) 1],.int .i64<|1)]
theorem Afi:A0 C7 1000 MA3=true:=by kernel_rfl
def MA4:CX:=[(73,[Aw (200) 1,Aw (10000) 1],.int .i64<| -1),
 (163,[.str [49,48,48]],.int .i64<|0),
 (163,[.str [51]],.int .i64<|0),
 (96,[.str [49,48,48]],Aw (100) 1),
 (96,[.str [51]],Aw (3) 1),
 (163,[.str [53,48,48]],.int .i64<|0),
 (96,[.str [53,48,48]],Aw (500) 1),
 (73,[Aw (500) 1,Aw (100) 1],.int .i64<|1),
 (73,[Aw (5) 1,Aw (3) 1],.int .i64<|1)]
theorem Afx:A0 C7 1000 MA4=true:=by kernel_rfl
def MA5:CX:=[(163,[.str [49,47,50]],.int .i64<|0),
 (96,[.str [49,47,50]],Aw (1) 2),
 (163,[.str [49]],.int .i64<|0),
 (96,[.str [49]],Aw (1) 1),
 (166,[.str [98,111,103,101,121]],.bool true),
 (163,[.str [49,56,48]],.int .i64<|0),
 (96,[.str [49,56,48]],Aw (180) 1),
 (73,[Aw (180) 1,Aw (1) 1],.int .i64<|1),
 (73,[Aw (180) 1,Aw (10000) 1],.int .i64<| -1)]
theorem AfK:A0 C7 1000 MA5=true:=by kernel_rfl
def MA6:CX:=[(163,[.str [49,54,48]],.int .i64<|0),
 (96,[.str [49,54,48]],Aw (160) 1),
 (73,[Aw (160) 1,Aw (1) 1],.int .i64<|1),
 (73,[Aw (160) 1,Aw (10000) 1],.int .i64<| -1),
 (163,[.str [54]],.int .i64<|0),
 (96,[.str [54]],Aw (6) 1),
 (73,[Aw (6) 1,Aw (3) 1],.int .i64<|1),
 (163,[.str [50]],.int .i64<|0),
 (96,[.str [50]],Aw (2) 1)]
theorem Aey:A0 C7 1000 MA6=true:=by kernel_rfl
def MA7:CX:=[(59,[Aw (0) 1,Aw (-20) 1],Aw (-20) 1),
 (59,[Aw (-20) 1,Aw (5) 1],Aw (-15) 1),
 (59,[Aw (-15) 1,Aw (15) 1],Aw (0) 1),
 (59,[Aw (150) 1,Aw (0) 1],Aw (150) 1),
 (118,[Aw (150) 1],.bool false),
 (119,[Aw (150) 1],.str [49,53,48]),
 (59,[Aw (0) 1,Aw (10) 1],Aw (10) 1),
 (59,[Aw (10) 1,Aw (0) 1],Aw (10) 1),
 (59,[Aw (410) 1,Aw (10) 1],Aw (420) 1)]
theorem Afb:A0 C7 1000 MA7=true:=by kernel_rfl
def MA8:CX:=[(64,[Aw (420) 1,Aw (240) 1],Aw (180) 1),
 (59,[Aw (180) 1,Aw (200) 1],Aw (380) 1),
 (59,[Aw (200) 1,Aw (20) 1],Aw (220) 1),
 (97,[Aw (380) 1,Aw (220) 1],Aw (19) 11),
 (98,[Aw (19) 11],.agg [.int .i64<|2,.nils]),
 (59,[Aw (240) 1,Aw (20) 1],Aw (260) 1),
 (73,[Aw (420) 1,Aw (260) 1],.int .i64<|1),
 (64,[Aw (420) 1,Aw (260) 1],Aw (160) 1),
 (65,[Aw (160) 1,Aw (200) 1],Aw (32000) 1)]
theorem Aer:A0 C7 1000 MA8=true:=by kernel_rfl
def MA9:CX:=[(97,[Aw (32000) 1,Aw (220) 1],Aw (1600) 11),
 (59,[Aw (240) 1,Aw (1600) 11],Aw (4240) 11),
 (118,[Aw (4240) 11],.bool false),
 (119,[Aw (4240) 11],.str [52,50,52,48,47,49,49]),
 (120,[.agg [.int .i64<|5,.nils],.agg [.int .i64<|10,.nils]],Aw (1) 2),
 (65,[Aw (1) 2,Aw (1) 2],Aw (1) 4),
 (59,[Aw (0) 1,Aw (1) 4],Aw (1) 4),
 (120,[.agg [.int .i64<|2,.nils],.agg [.int .i64<|10,.nils]],Aw (1) 5),
 (65,[Aw (1) 1,Aw (1) 5],Aw (1) 5)]
theorem Ae2:A0 C7 1000 MA9=true:=by kernel_rfl
def Ahq:CX:=[(59,[Aw (1) 4,Aw (1) 5],Aw (9) 20),
 (118,[Aw (9) 20],.bool false),
 (119,[Aw (9) 20],.str [57,47,50,48]),
 (59,[Aw (180) 1,Aw (20) 1],Aw (200) 1),
 (73,[Aw (420) 1,Aw (200) 1],.int .i64<|1),
 (64,[Aw (420) 1,Aw (200) 1],Aw (220) 1),
 (65,[Aw (220) 1,Aw (160) 1],Aw (35200) 1),
 (59,[Aw (160) 1,Aw (20) 1],Aw (180) 1),
 (97,[Aw (35200) 1,Aw (180) 1],Aw (1760) 9)]
theorem AbZ:A0 C7 1000 Ahq=true:=by kernel_rfl
def Aic:CX:=[(59,[Aw (180) 1,Aw (1760) 9],Aw (3380) 9),
 (73,[Aw (3380) 9,Aw (100) 1],.int .i64<|1),
 (73,[Aw (3380) 9,Aw (500) 1],.int .i64<| -1),
 (64,[Aw (6) 1,Aw (3) 1],Aw (3) 1),
 (64,[Aw (3380) 9,Aw (100) 1],Aw (2480) 9),
 (65,[Aw (3) 1,Aw (2480) 9],Aw (2480) 3),
 (64,[Aw (500) 1,Aw (100) 1],Aw (400) 1),
 (97,[Aw (2480) 3,Aw (400) 1],Aw (31) 15),
 (59,[Aw (3) 1,Aw (31) 15],Aw (76) 15)]
theorem Abm:A0 C7 1000 Aic=true:=by kernel_rfl
def Aio:CX:=[(65,[Aw (2) 1,Aw (1) 5],Aw (2) 5),
 (59,[Aw (0) 1,Aw (2) 5],Aw (2) 5),
 (59,[Aw (76) 15,Aw (2) 5],Aw (82) 15),
 (118,[Aw (82) 15],.bool false),
 (119,[Aw (82) 15],.str [56,50,47,49,53]),
 (73,[Aw (4240) 11,Aw (100) 1],.int .i64<|1),
 (73,[Aw (4240) 11,Aw (500) 1],.int .i64<| -1),
 (64,[Aw (5) 1,Aw (3) 1],Aw (2) 1),
 (64,[Aw (4240) 11,Aw (100) 1],Aw (3140) 11)]
theorem Ab2:A0 C7 1000 Aio=true:=by kernel_rfl
def Ag7:CX:=[(65,[Aw (2) 1,Aw (3140) 11],Aw (6280) 11),
 (97,[Aw (6280) 11,Aw (400) 1],Aw (157) 110),
 (59,[Aw (3) 1,Aw (157) 110],Aw (487) 110),
 (59,[Aw (487) 110,Aw (9) 20],Aw (1073) 220),
 (59,[Aw (240) 1,Aw (0) 1],Aw (240) 1),
 (73,[Aw (150) 1,Aw (240) 1],.int .i64<| -1),
 (65,[Aw (150) 1,Aw (240) 1],Aw (36000) 1),
 (97,[Aw (36000) 1,Aw (240) 1],Aw (150) 1),
 (73,[Aw (150) 1,Aw (100) 1],.int .i64<|1)]
theorem AcN:A0 C7 1000 Ag7=true:=by kernel_rfl
def AhR:CX:=[(73,[Aw (150) 1,Aw (500) 1],.int .i64<| -1),
 (64,[Aw (150) 1,Aw (100) 1],Aw (50) 1),
 (65,[Aw (2) 1,Aw (50) 1],Aw (100) 1),
 (97,[Aw (100) 1,Aw (400) 1],Aw (1) 4),
 (59,[Aw (3) 1,Aw (1) 4],Aw (13) 4),
 (59,[Aw (13) 4,Aw (0) 1],Aw (13) 4),
 (59,[Aw (0) 1,Aw (1073) 220],Aw (1073) 220),
 (59,[Aw (1073) 220,Aw (13) 4],Aw (447) 55),
 (118,[Aw (447) 55],.bool false)]
theorem Acf:A0 C7 1000 AhR=true:=by kernel_rfl
def Ahv:CX:=[(119,[Aw (447) 55],.str [52,52,55,47,53,53]),
 (59,[Aw (180) 1,Aw (0) 1],Aw (180) 1),
 (73,[Aw (150) 1,Aw (180) 1],.int .i64<| -1),
 (65,[Aw (150) 1,Aw (180) 1],Aw (27000) 1),
 (97,[Aw (27000) 1,Aw (180) 1],Aw (150) 1),
 (65,[Aw (3) 1,Aw (50) 1],Aw (150) 1),
 (97,[Aw (150) 1,Aw (400) 1],Aw (3) 8),
 (59,[Aw (3) 1,Aw (3) 8],Aw (27) 8),
 (59,[Aw (27) 8,Aw (0) 1],Aw (27) 8)]
theorem Aa9:A0 C7 1000 Ahv=true:=by kernel_rfl
def Ah0:CX:=[(59,[Aw (0) 1,Aw (82) 15],Aw (82) 15),
 (59,[Aw (82) 15,Aw (27) 8],Aw (1061) 120),
 (65,[Aw (1061) 120,Aw (10) 1],Aw (1061) 12),
 (66,[Aw (1061) 12],.agg [.int .i64<|88,.nils]),
 (120,[.agg [.int .i64<|88,.nils],.agg [.int .i64<|10,.nils]],Aw (44) 5),
 (118,[Aw (44) 5],.bool false),
 (119,[Aw (44) 5],.str [52,52,47,53]),
 (64,[Aw (1061) 120,Aw (447) 55],Aw (943) 1320),
 (65,[Aw (943) 1320,Aw (5) 1],Aw (943) 264)]
theorem AcM:A0 C7 1000 Ah0=true:=by kernel_rfl
def Ahb:CX:=[(66,[Aw (943) 264],.agg [.int .i64<|4,.nils]),
 (64,[Aw (82) 15,Aw (1073) 220],Aw (389) 660),
 (64,[Aw (27) 8,Aw (13) 4],Aw (1) 8),
 (73,[Aw (389) 660,Aw (389) 660],.int .i64<|0),
 (73,[Aw (389) 660,Aw (1) 8],.int .i64<|1),
 (73,[Aw (1) 8,Aw (389) 660],.int .i64<| -1),
 (73,[Aw (1) 8,Aw (1) 8],.int .i64<|0),
 (163,[.str [55]],.int .i64<|0),
 (59,[Aw (0) 1,Aw (1) 1],Aw (1) 1)]
theorem Acu:A0 C7 1000 Ahb=true:=by kernel_rfl
def Ahm:CX:=[(59,[Aw (1) 1,Aw (2) 1],Aw (3) 1),
 (59,[Aw (3) 1,Aw (3) 1],Aw (6) 1),
 (97,[Aw (6) 1,Aw (3) 1],Aw (2) 1),
 (96,[.str [55]],Aw (7) 1),
 (59,[Aw (0) 1,Aw (2) 1],Aw (2) 1),
 (59,[Aw (2) 1,Aw (3) 1],Aw (5) 1),
 (59,[Aw (5) 1,Aw (7) 1],Aw (12) 1),
 (97,[Aw (12) 1,Aw (3) 1],Aw (4) 1),
 (64,[Aw (1) 1,Aw (2) 1],Aw (-1) 1)]
theorem Ac3:A0 C7 1000 Ahm=true:=by kernel_rfl
def AhS:CX:=[(65,[Aw (-1) 1,Aw (-1) 1],Aw (1) 1),
 (64,[Aw (2) 1,Aw (2) 1],Aw (0) 1),
 (65,[Aw (0) 1,Aw (0) 1],Aw (0) 1),
 (64,[Aw (3) 1,Aw (2) 1],Aw (1) 1),
 (65,[Aw (1) 1,Aw (1) 1],Aw (1) 1),
 (59,[Aw (1) 1,Aw (0) 1],Aw (1) 1),
 (59,[Aw (1) 1,Aw (1) 1],Aw (2) 1),
 (64,[Aw (2) 1,Aw (4) 1],Aw (-2) 1),
 (65,[Aw (-1) 1,Aw (-2) 1],Aw (2) 1)]
theorem Aax:A0 C7 1000 AhS=true:=by kernel_rfl
def Aiu:CX:=[(64,[Aw (3) 1,Aw (4) 1],Aw (-1) 1),
 (65,[Aw (0) 1,Aw (-1) 1],Aw (0) 1),
 (64,[Aw (7) 1,Aw (4) 1],Aw (3) 1),
 (65,[Aw (1) 1,Aw (3) 1],Aw (3) 1),
 (59,[Aw (2) 1,Aw (0) 1],Aw (2) 1),
 (97,[Aw (5) 1,Aw (2) 1],Aw (5) 2),
 (118,[Aw (5) 2],.bool false),
 (119,[Aw (5) 2],.str [53,47,50]),
 (65,[Aw (5) 2,Aw (2) 1],Aw (5) 1)]
theorem Aah:A0 C7 1000 Aiu=true:=by kernel_rfl
def AgW:CX:=[(64,[Aw (4) 1,Aw (5) 1],Aw (-1) 1),
 (118,[Aw (-1) 1],.bool false),
 (119,[Aw (-1) 1],.str [45,49]),
 (163,[.str [52]],.int .i64<|0),
 (96,[.str [52]],Aw (4) 1),
 (73,[Aw (1) 1,Aw (4) 1],.int .i64<| -1),
 (73,[Aw (3) 1,Aw (4) 1],.int .i64<| -1),
 (73,[Aw (3) 1,Aw (1) 1],.int .i64<|1),
 (73,[Aw (10) 1,Aw (4) 1],.int .i64<|1)]
theorem Aap:A0 C7 1000 AgW=true:=by kernel_rfl
def Aie:CX:=[(59,[Aw (3) 1,Aw (4) 1],Aw (7) 1),
 (97,[Aw (7) 1,Aw (2) 1],Aw (7) 2),
 (118,[Aw (7) 2],.bool false),
 (119,[Aw (7) 2],.str [55,47,50]),
 (73,[Aw (9) 1,Aw (8) 1],.int .i64<|1),
 (73,[Aw (9) 1,Aw (9) 1],.int .i64<|0),
 (59,[Aw (9) 1,Aw (9) 1],Aw (18) 1),
 (97,[Aw (18) 1,Aw (2) 1],Aw (9) 1),
 (65,[Aw (447) 55,Aw (10) 1],Aw (894) 11)]
theorem Aa0:A0 C7 1000 Aie=true:=by kernel_rfl
def Aip:CX:=[(66,[Aw (894) 11],.agg [.int .i64<|81,.nils]),
 (120,[.agg [.int .i64<|81,.nils],.agg [.int .i64<|10,.nils]],Aw (81) 10),
 (64,[Aw (9) 1,Aw (81) 10],Aw (9) 10),
 (118,[Aw (9) 10],.bool false),
 (119,[Aw (9) 10],.str [57,47,49,48])]
theorem AcS:A0 C7 1000 Aip=true:=by kernel_rfl
def MA:CX:=(MA0++(MA1++(MA2++(MA3++(MA4++(MA5++(MA6++(MA7++(MA8++(MA9++(Ahq++(Aic++(Aio++(Ag7++(AhR++(Ahv++(Ah0++(Ahb++(Ahm++(AhS++(Aiu++(AgW++(Aie++Aip)))))))))))))))))))))))
theorem sp1:Md prog (Me C7 1000 MA):=TX iD Nz VX<|AM Afm<|AM AfT<|AM Afq<|AM Afi<|AM Afx<|AM AfK<|AM Aey<|AM Afb<|AM Aer<|AM Ae2<|AM AbZ<|AM Abm<|AM Ab2<|AM AcN<|AM Acf<|AM Aa9<|AM AcM<|AM Acu<|AM Ac3<|AM Aax<|AM Aah<|AM Aap<|AM Aa0 AcS
def sN:Ctx:=cM C7<|Me C7 1000 MA
theorem Age:sN.Ok prog:=YB iD sp1
theorem kV:Hn sN:=Po Nz _
def MB0:CX:=[(204,[.str [49,48],.int .i64<| -10000,.int .i64<|10000],.int .i64<|0),
 (204,[.str [48],.int .i64<| -10000,.int .i64<|10000],.int .i64<|0),
 (204,[.str [48],.int .i64<|0,.int .i64<|10000],.int .i64<|0),
 (204,[.str [50,48],.int .i64<|0,.int .i64<|10000],.int .i64<|0),
 (204,[.str [45,50,48],.int .i64<| -10000,.int .i64<|10000],.int .i64<|0),
 (204,[.str [53],.int .i64<| -10000,.int .i64<|10000],.int .i64<|0)]
theorem Af2:A0 sN 1000 MB0=true:=by kernel_rfl
def MB1:CX:=[(204,[.str [49,53],.int .i64<|0,.int .i64<|10000],.int .i64<|0),
 (204,[.str [50,52,48],.int .i64<|1,.int .i64<|10000],.int .i64<|0),
 (204,[.str [50,48,48],.int .i64<|1,.int .i64<|10000],.int .i64<|0),
 (204,[.str [49,56,48],.int .i64<|1,.int .i64<|10000],.int .i64<|0),
 (204,[.str [49,54,48],.int .i64<|1,.int .i64<|10000],.int .i64<|0),
 (91,[.bool false,.int .i64<|8],.int .i64<|0)]
theorem AeA:A0 sN 1000 MB1=true:=by kernel_rfl
def MB2:CX:=[(91,[.bool false,.int .i64<|9],.int .i64<|0),
 (91,[.bool false,.int .i64<|3],.int .i64<|0),
 (91,[.bool false,.int .i64<|5],.int .i64<|0),
 (91,[.bool false,.int .i64<|12],.int .i64<|0),
 (91,[.bool false,.int .i64<|2],.int .i64<|0),
 (91,[.bool false,.int .i64<|10],.int .i64<|0)]
theorem AeK:A0 sN 1000 MB2=true:=by kernel_rfl
def MB3:CX:=[(90,[.int .i64<|2,.int .i64<|36],.int .i64<|0),
 (90,[.int .i64<|1,.int .i64<|8],.int .i64<|0),
 (90,[.int .i64<|2,.int .i64<|8],.int .i64<|0),
 (106,[Aw (1) 2],.int .i64<|1),
 (106,[Aw (1) 1],.int .i64<|1),
 (106,[Aw (2) 1],.int .i64<|1)]
theorem AeT:A0 sN 1000 MB3=true:=by kernel_rfl
def MB4:CX:=[(165,[.int .i64<|410],.bool false),
 (165,[.int .i64<|150],.bool false),
 (117,[.agg [.int .i64<|0,.int .i64<|1]],.bool false),
 (117,[.agg [.int .i64<|0,.int .i64<|2]],.bool false),
 (117,[.agg [.int .i64<|1,.int .i64<|2]],.bool false),
 (54,[Aw (150) 1],.tup [.str [49,53,48],.int .i64<|0])]
theorem Aft:A0 sN 1000 MB4=true:=by kernel_rfl
def MB5:CX:=[(54,[Aw (4240) 11],.tup [.str [52,50,52,48,47,49,49],.int .i64<|0]),
 (54,[Aw (9) 20],.tup [.str [57,47,50,48],.int .i64<|0]),
 (54,[Aw (82) 15],.tup [.str [56,50,47,49,53],.int .i64<|0]),
 (54,[Aw (447) 55],.tup [.str [52,52,55,47,53,53],.int .i64<|0]),
 (56,[Aw (1061) 120],Aw (44) 5),
 (54,[Aw (44) 5],.tup [.str [52,52,47,53],.int .i64<|0])]
theorem Aei:A0 sN 1000 MB5=true:=by kernel_rfl
def MB6:CX:=[(54,[Aw (5) 2],.tup [.str [53,47,50],.int .i64<|0]),
 (54,[Aw (-1) 1],.tup [.str [45,49],.int .i64<|0]),
 (54,[Aw (7) 2],.tup [.str [55,47,50],.int .i64<|0]),
 (56,[Aw (447) 55],Aw (81) 10),
 (54,[Aw (9) 10],.tup [.str [57,47,49,48],.int .i64<|0])]
theorem Aev:A0 sN 1000 MB6=true:=by kernel_rfl
def MB:CX:=(MB0++(MB1++(MB2++(MB3++(MB4++(MB5++MB6))))))
theorem sp2:Md prog (Me sN 1000 MB):=TX Age kV VX<|AM Af2<|AM AeA<|AM AeK<|AM AeT<|AM Aft<|AM Aei Aev
def S72:Z7:=orS (Me sN 1000 MB)<|Me C7 1000 MA
theorem Agl:Md prog S72:=VJ sp2 sp1
def C72:Ctx:=cM C7 S72
theorem AeS:C72.Ok prog:=YB iD Agl
theorem jU:Hn C72:=Po Nz _
end
end Go.Det
