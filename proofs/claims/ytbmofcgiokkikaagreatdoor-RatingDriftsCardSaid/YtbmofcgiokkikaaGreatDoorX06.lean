import Derived.Test.YtbmofcgiokkikaaGreatDoorX05
/- A part of a proof; no law is stated here. -/
noncomputable section
namespace Go.Det
section
open Go.Proofs.Tryz (prog)
def Av(n d:Int):V:=.agg [.int .i64 n,.nils,.int .i64 d,.nils]
def MA0:CM:=[(163,[.str [49,48]],.int .i64<|0),
 (96,[.str [49,48]],Av (10) 1),
 (73,[Av (10) 1,Av (-10000) 1],.int .i64<|1),
 (73,[Av (10) 1,Av (10000) 1],.int .i64<| -1),
 (163,[.str [48]],.int .i64<|0),
 (96,[.str [48]],Av (0) 1),
 (73,[Av (0) 1,Av (-10000) 1],.int .i64<|1),
 (73,[Av (0) 1,Av (10000) 1],.int .i64<| -1),
 (73,[Av (0) 1,Av (0) 1],.int .i64<|0)]
theorem Aea:AV C7 1000 MA0=true:=by kernel_rfl
def MA1:CM:=[(163,[.str [50,48]],.int .i64<|0),
 (96,[.str [50,48]],Av (20) 1),
 (73,[Av (20) 1,Av (0) 1],.int .i64<|1),
 (73,[Av (20) 1,Av (10000) 1],.int .i64<| -1),
 (166,[.str [98,117,110,107,101,114]],.bool true),
 (166,[.str [119,97,116,101,114]],.bool true),
 (163,[.str [45,50,48]],.int .i64<|0),
 (96,[.str [45,50,48]],Av (-20) 1),
 (73,[Av (-20) 1,Av (-10000) 1],.int .i64<|1)]
theorem Ae3:AV C7 1000 MA1=true:=by kernel_rfl
def MA2:CM:=[(73,[Av (-20) 1,Av (10000) 1],.int .i64<| -1),
 (163,[.str [53]],.int .i64<|0),
 (96,[.str [53]],Av (5) 1),
 (73,[Av (5) 1,Av (-10000) 1],.int .i64<|1),
 (73,[Av (5) 1,Av (10000) 1],.int .i64<| -1),
 (163,[.str [49,53]],.int .i64<|0),
 (96,[.str [49,53]],Av (15) 1),
 (73,[Av (15) 1,Av (0) 1],.int .i64<|1),
 (73,[Av (15) 1,Av (10000) 1],.int .i64<| -1)]
theorem Ac8:AV C7 1000 MA2=true:=by kernel_rfl
def MA3:CM:=[(166,[.str [98,108,117,101]],.bool true),
 (166,[.str [115,99,114,97,116,99,104]],.bool true),
 (163,[.str [50,52,48]],.int .i64<|0),
 (96,[.str [50,52,48]],Av (240) 1),
 (73,[Av (240) 1,Av (1) 1],.int .i64<|1),
 (73,[Av (240) 1,Av (10000) 1],.int .i64<| -1),
 (163,[.str [50,48,48]],.int .i64<|0),
 (96,[.str [50,48,48]],Av (200) 1),
 (73,[Av (200) 1,Av (1) 1],.int .i64<|1)]
theorem Ad3:AV C7 1000 MA3=true:=by kernel_rfl
def MA4:CM:=[(73,[Av (200) 1,Av (10000) 1],.int .i64<| -1),
 (163,[.str [49,48,48]],.int .i64<|0),
 (163,[.str [51]],.int .i64<|0),
 (96,[.str [49,48,48]],Av (100) 1),
 (96,[.str [51]],Av (3) 1),
 (163,[.str [53,48,48]],.int .i64<|0),
 (96,[.str [53,48,48]],Av (500) 1),
 (73,[Av (500) 1,Av (100) 1],.int .i64<|1),
 (73,[Av (5) 1,Av (3) 1],.int .i64<|1)]
theorem AdH:AV C7 1000 MA4=true:=by kernel_rfl
def MA5:CM:=[(163,[.str [49,47,50]],.int .i64<|0),
 (96,[.str [49,47,50]],Av (1) 2),
 (163,[.str [49]],.int .i64<|0),
 (96,[.str [49]],Av (1) 1),
 (166,[.str [98,111,103,101,121]],.bool true),
 (163,[.str [49,56,48]],.int .i64<|0),
 (96,[.str [49,56,48]],Av (180) 1),
 (73,[Av (180) 1,Av (1) 1],.int .i64<|1),
 (73,[Av (180) 1,Av (10000) 1],.int .i64<| -1)]
theorem Afc:AV C7 1000 MA5=true:=by kernel_rfl
def MA6:CM:=[(163,[.str [49,54,48]],.int .i64<|0),
 (96,[.str [49,54,48]],Av (160) 1),
 (73,[Av (160) 1,Av (1) 1],.int .i64<|1),
 (73,[Av (160) 1,Av (10000) 1],.int .i64<| -1),
 (163,[.str [54]],.int .i64<|0),
 (96,[.str [54]],Av (6) 1),
 (73,[Av (6) 1,Av (3) 1],.int .i64<|1),
 (163,[.str [50]],.int .i64<|0),
 (96,[.str [50]],Av (2) 1)]
theorem AeT:AV C7 1000 MA6=true:=by kernel_rfl
def MA7:CM:=[(59,[Av (0) 1,Av (-20) 1],Av (-20) 1),
 (59,[Av (-20) 1,Av (5) 1],Av (-15) 1),
 (59,[Av (-15) 1,Av (15) 1],Av (0) 1),
 (59,[Av (150) 1,Av (0) 1],Av (150) 1),
 (118,[Av (150) 1],.bool false),
 (119,[Av (150) 1],.str [49,53,48]),
 (59,[Av (0) 1,Av (10) 1],Av (10) 1),
 (59,[Av (10) 1,Av (0) 1],Av (10) 1),
 (59,[Av (410) 1,Av (10) 1],Av (420) 1)]
theorem Adl:AV C7 1000 MA7=true:=by kernel_rfl
def MA8:CM:=[(64,[Av (420) 1,Av (240) 1],Av (180) 1),
 (59,[Av (180) 1,Av (200) 1],Av (380) 1),
 (59,[Av (200) 1,Av (20) 1],Av (220) 1),
 (97,[Av (380) 1,Av (220) 1],Av (19) 11),
 (98,[Av (19) 11],.agg [.int .i64<|2,.nils]),
 (59,[Av (240) 1,Av (20) 1],Av (260) 1),
 (73,[Av (420) 1,Av (260) 1],.int .i64<|1),
 (64,[Av (420) 1,Av (260) 1],Av (160) 1),
 (65,[Av (160) 1,Av (200) 1],Av (32000) 1)]
theorem Aev:AV C7 1000 MA8=true:=by kernel_rfl
def MA9:CM:=[(97,[Av (32000) 1,Av (220) 1],Av (1600) 11),
 (59,[Av (240) 1,Av (1600) 11],Av (4240) 11),
 (118,[Av (4240) 11],.bool false),
 (119,[Av (4240) 11],.str [52,50,52,48,47,49,49]),
 (120,[.agg [.int .i64<|5,.nils],.agg [.int .i64<|10,.nils]],Av (1) 2),
 (65,[Av (1) 2,Av (1) 2],Av (1) 4),
 (59,[Av (0) 1,Av (1) 4],Av (1) 4),
 (120,[.agg [.int .i64<|2,.nils],.agg [.int .i64<|10,.nils]],Av (1) 5),
 (65,[Av (1) 1,Av (1) 5],Av (1) 5)]
theorem Aff:AV C7 1000 MA9=true:=by kernel_rfl
def Ahp:CM:=[(59,[Av (1) 4,Av (1) 5],Av (9) 20),
 (118,[Av (9) 20],.bool false),
 (119,[Av (9) 20],.str [57,47,50,48]),
 (59,[Av (180) 1,Av (20) 1],Av (200) 1),
 (73,[Av (420) 1,Av (200) 1],.int .i64<|1),
 (64,[Av (420) 1,Av (200) 1],Av (220) 1),
 (65,[Av (220) 1,Av (160) 1],Av (35200) 1),
 (59,[Av (160) 1,Av (20) 1],Av (180) 1),
 (97,[Av (35200) 1,Av (180) 1],Av (1760) 9)]
theorem Abh:AV C7 1000 Ahp=true:=by kernel_rfl
def Ahv:CM:=[(59,[Av (180) 1,Av (1760) 9],Av (3380) 9),
 (73,[Av (3380) 9,Av (100) 1],.int .i64<|1),
 (73,[Av (3380) 9,Av (500) 1],.int .i64<| -1),
 (64,[Av (6) 1,Av (3) 1],Av (3) 1),
 (64,[Av (3380) 9,Av (100) 1],Av (2480) 9),
 (65,[Av (3) 1,Av (2480) 9],Av (2480) 3),
 (64,[Av (500) 1,Av (100) 1],Av (400) 1),
 (97,[Av (2480) 3,Av (400) 1],Av (31) 15),
 (59,[Av (3) 1,Av (31) 15],Av (76) 15)]
theorem Abk:AV C7 1000 Ahv=true:=by kernel_rfl
def Af0:CM:=[(65,[Av (2) 1,Av (1) 5],Av (2) 5),
 (59,[Av (0) 1,Av (2) 5],Av (2) 5),
 (59,[Av (76) 15,Av (2) 5],Av (82) 15),
 (118,[Av (82) 15],.bool false),
 (119,[Av (82) 15],.str [56,50,47,49,53]),
 (73,[Av (4240) 11,Av (100) 1],.int .i64<|1),
 (73,[Av (4240) 11,Av (500) 1],.int .i64<| -1),
 (64,[Av (5) 1,Av (3) 1],Av (2) 1),
 (64,[Av (4240) 11,Av (100) 1],Av (3140) 11)]
theorem Aby:AV C7 1000 Af0=true:=by kernel_rfl
def AfE:CM:=[(65,[Av (2) 1,Av (3140) 11],Av (6280) 11),
 (97,[Av (6280) 11,Av (400) 1],Av (157) 110),
 (59,[Av (3) 1,Av (157) 110],Av (487) 110),
 (59,[Av (487) 110,Av (9) 20],Av (1073) 220),
 (59,[Av (240) 1,Av (0) 1],Av (240) 1),
 (73,[Av (150) 1,Av (240) 1],.int .i64<| -1),
 (65,[Av (150) 1,Av (240) 1],Av (36000) 1),
 (97,[Av (36000) 1,Av (240) 1],Av (150) 1),
 (73,[Av (150) 1,Av (100) 1],.int .i64<|1)]
theorem AbW:AV C7 1000 AfE=true:=by kernel_rfl
def AfD:CM:=[(73,[Av (150) 1,Av (500) 1],.int .i64<| -1),
 (64,[Av (150) 1,Av (100) 1],Av (50) 1),
 (65,[Av (2) 1,Av (50) 1],Av (100) 1),
 (97,[Av (100) 1,Av (400) 1],Av (1) 4),
 (59,[Av (3) 1,Av (1) 4],Av (13) 4),
 (59,[Av (13) 4,Av (0) 1],Av (13) 4),
 (59,[Av (0) 1,Av (1073) 220],Av (1073) 220),
 (59,[Av (1073) 220,Av (13) 4],Av (447) 55),
 (118,[Av (447) 55],.bool false)]
theorem AaD:AV C7 1000 AfD=true:=by kernel_rfl
def Afz:CM:=[(119,[Av (447) 55],.str [52,52,55,47,53,53]),
 (59,[Av (180) 1,Av (0) 1],Av (180) 1),
 (73,[Av (150) 1,Av (180) 1],.int .i64<| -1),
 (65,[Av (150) 1,Av (180) 1],Av (27000) 1),
 (97,[Av (27000) 1,Av (180) 1],Av (150) 1),
 (65,[Av (3) 1,Av (50) 1],Av (150) 1),
 (97,[Av (150) 1,Av (400) 1],Av (3) 8),
 (59,[Av (3) 1,Av (3) 8],Av (27) 8),
 (59,[Av (27) 8,Av (0) 1],Av (27) 8)]
theorem Aau:AV C7 1000 Afz=true:=by kernel_rfl
def Ahn:CM:=[(59,[Av (0) 1,Av (82) 15],Av (82) 15),
 (59,[Av (82) 15,Av (27) 8],Av (1061) 120),
 (65,[Av (1061) 120,Av (10) 1],Av (1061) 12),
 (66,[Av (1061) 12],.agg [.int .i64<|88,.nils]),
 (120,[.agg [.int .i64<|88,.nils],.agg [.int .i64<|10,.nils]],Av (44) 5),
 (118,[Av (44) 5],.bool false),
 (119,[Av (44) 5],.str [52,52,47,53]),
 (64,[Av (1061) 120,Av (447) 55],Av (943) 1320),
 (65,[Av (943) 1320,Av (5) 1],Av (943) 264)]
theorem yK:AV C7 1000 Ahn=true:=by kernel_rfl
def AgM:CM:=[(66,[Av (943) 264],.agg [.int .i64<|4,.nils]),
 (64,[Av (82) 15,Av (1073) 220],Av (389) 660),
 (64,[Av (27) 8,Av (13) 4],Av (1) 8),
 (73,[Av (389) 660,Av (389) 660],.int .i64<|0),
 (73,[Av (389) 660,Av (1) 8],.int .i64<|1),
 (73,[Av (1) 8,Av (389) 660],.int .i64<| -1),
 (73,[Av (1) 8,Av (1) 8],.int .i64<|0),
 (163,[.str [55]],.int .i64<|0),
 (59,[Av (0) 1,Av (1) 1],Av (1) 1)]
theorem wV:AV C7 1000 AgM=true:=by kernel_rfl
def AfI:CM:=[(59,[Av (1) 1,Av (2) 1],Av (3) 1),
 (59,[Av (3) 1,Av (3) 1],Av (6) 1),
 (97,[Av (6) 1,Av (3) 1],Av (2) 1),
 (96,[.str [55]],Av (7) 1),
 (59,[Av (0) 1,Av (2) 1],Av (2) 1),
 (59,[Av (2) 1,Av (3) 1],Av (5) 1),
 (59,[Av (5) 1,Av (7) 1],Av (12) 1),
 (97,[Av (12) 1,Av (3) 1],Av (4) 1),
 (64,[Av (1) 1,Av (2) 1],Av (-1) 1)]
theorem Abp:AV C7 1000 AfI=true:=by kernel_rfl
def Agz:CM:=[(65,[Av (-1) 1,Av (-1) 1],Av (1) 1),
 (64,[Av (2) 1,Av (2) 1],Av (0) 1),
 (65,[Av (0) 1,Av (0) 1],Av (0) 1),
 (64,[Av (3) 1,Av (2) 1],Av (1) 1),
 (65,[Av (1) 1,Av (1) 1],Av (1) 1),
 (59,[Av (1) 1,Av (0) 1],Av (1) 1),
 (59,[Av (1) 1,Av (1) 1],Av (2) 1),
 (64,[Av (2) 1,Av (4) 1],Av (-2) 1),
 (65,[Av (-1) 1,Av (-2) 1],Av (2) 1)]
theorem zT:AV C7 1000 Agz=true:=by kernel_rfl
def Ahg:CM:=[(64,[Av (3) 1,Av (4) 1],Av (-1) 1),
 (65,[Av (0) 1,Av (-1) 1],Av (0) 1),
 (64,[Av (7) 1,Av (4) 1],Av (3) 1),
 (65,[Av (1) 1,Av (3) 1],Av (3) 1),
 (59,[Av (2) 1,Av (0) 1],Av (2) 1),
 (97,[Av (5) 1,Av (2) 1],Av (5) 2),
 (118,[Av (5) 2],.bool false),
 (119,[Av (5) 2],.str [53,47,50]),
 (65,[Av (5) 2,Av (2) 1],Av (5) 1)]
theorem xJ:AV C7 1000 Ahg=true:=by kernel_rfl
def AgR:CM:=[(64,[Av (4) 1,Av (5) 1],Av (-1) 1),
 (118,[Av (-1) 1],.bool false),
 (119,[Av (-1) 1],.str [45,49]),
 (163,[.str [52]],.int .i64<|0),
 (96,[.str [52]],Av (4) 1),
 (73,[Av (1) 1,Av (4) 1],.int .i64<| -1),
 (73,[Av (3) 1,Av (4) 1],.int .i64<| -1),
 (73,[Av (3) 1,Av (1) 1],.int .i64<|1),
 (73,[Av (10) 1,Av (4) 1],.int .i64<|1)]
theorem xS:AV C7 1000 AgR=true:=by kernel_rfl
def AfX:CM:=[(59,[Av (3) 1,Av (4) 1],Av (7) 1),
 (97,[Av (7) 1,Av (2) 1],Av (7) 2),
 (118,[Av (7) 2],.bool false),
 (119,[Av (7) 2],.str [55,47,50]),
 (73,[Av (9) 1,Av (8) 1],.int .i64<|1),
 (73,[Av (9) 1,Av (9) 1],.int .i64<|0),
 (59,[Av (9) 1,Av (9) 1],Av (18) 1),
 (97,[Av (18) 1,Av (2) 1],Av (9) 1),
 (65,[Av (447) 55,Av (10) 1],Av (894) 11)]
theorem Aab:AV C7 1000 AfX=true:=by kernel_rfl
def AgW:CM:=[(66,[Av (894) 11],.agg [.int .i64<|81,.nils]),
 (120,[.agg [.int .i64<|81,.nils],.agg [.int .i64<|10,.nils]],Av (81) 10),
 (64,[Av (9) 1,Av (81) 10],Av (9) 10),
 (118,[Av (9) 10],.bool false),
 (119,[Av (9) 10],.str [57,47,49,48])]
theorem xE:AV C7 1000 AgW=true:=by kernel_rfl
def MA:CM:=(MA0++(MA1++(MA2++(MA3++(MA4++(MA5++(MA6++(MA7++(MA8++(MA9++(Ahp++(Ahv++(Af0++(AfE++(AfD++(Afz++(Ahn++(AgM++(AfI++(Agz++(Ahg++(AgR++(AfX++AgW)))))))))))))))))))))))
theorem sp1:HY prog (Lc C7 1000 MA):=Ss Xz Jl Nd<|AN Aea<|AN Ae3<|AN Ac8<|AN Ad3<|AN AdH<|AN Afc<|AN AeT<|AN Adl<|AN Aev<|AN Aff<|AN Abh<|AN Abk<|AN Aby<|AN AbW<|AN AaD<|AN Aau<|AN yK<|AN wV<|AN Abp<|AN zT<|AN xJ<|AN xS<|AN Aab xE
def lS:Ctx:=eB C7<|Lc C7 1000 MA
theorem AdQ:lS.Ok prog:=WE Xz sp1
theorem jA:G7 lS:=OA Jl _
def MB0:CM:=[(204,[.str [49,48],.int .i64<| -10000,.int .i64<|10000],.int .i64<|0),
 (204,[.str [48],.int .i64<| -10000,.int .i64<|10000],.int .i64<|0),
 (204,[.str [48],.int .i64<|0,.int .i64<|10000],.int .i64<|0),
 (204,[.str [50,48],.int .i64<|0,.int .i64<|10000],.int .i64<|0),
 (204,[.str [45,50,48],.int .i64<| -10000,.int .i64<|10000],.int .i64<|0),
 (204,[.str [53],.int .i64<| -10000,.int .i64<|10000],.int .i64<|0)]
theorem AdM:AV lS 1000 MB0=true:=by kernel_rfl
def MB1:CM:=[(204,[.str [49,53],.int .i64<|0,.int .i64<|10000],.int .i64<|0),
 (204,[.str [50,52,48],.int .i64<|1,.int .i64<|10000],.int .i64<|0),
 (204,[.str [50,48,48],.int .i64<|1,.int .i64<|10000],.int .i64<|0),
 (204,[.str [49,56,48],.int .i64<|1,.int .i64<|10000],.int .i64<|0),
 (204,[.str [49,54,48],.int .i64<|1,.int .i64<|10000],.int .i64<|0),
 (91,[.bool false,.int .i64<|8],.int .i64<|0)]
theorem Adg:AV lS 1000 MB1=true:=by kernel_rfl
def MB2:CM:=[(91,[.bool false,.int .i64<|9],.int .i64<|0),
 (91,[.bool false,.int .i64<|3],.int .i64<|0),
 (91,[.bool false,.int .i64<|5],.int .i64<|0),
 (91,[.bool false,.int .i64<|12],.int .i64<|0),
 (91,[.bool false,.int .i64<|2],.int .i64<|0),
 (91,[.bool false,.int .i64<|10],.int .i64<|0)]
theorem Adk:AV lS 1000 MB2=true:=by kernel_rfl
def MB3:CM:=[(90,[.int .i64<|2,.int .i64<|36],.int .i64<|0),
 (90,[.int .i64<|1,.int .i64<|8],.int .i64<|0),
 (90,[.int .i64<|2,.int .i64<|8],.int .i64<|0),
 (106,[Av (1) 2],.int .i64<|1),
 (106,[Av (1) 1],.int .i64<|1),
 (106,[Av (2) 1],.int .i64<|1)]
theorem AdV:AV lS 1000 MB3=true:=by kernel_rfl
def MB4:CM:=[(165,[.int .i64<|410],.bool false),
 (165,[.int .i64<|150],.bool false),
 (117,[.agg [.int .i64<|0,.int .i64<|1]],.bool false),
 (117,[.agg [.int .i64<|0,.int .i64<|2]],.bool false),
 (117,[.agg [.int .i64<|1,.int .i64<|2]],.bool false),
 (54,[Av (150) 1],.tup [.str [49,53,48],.int .i64<|0])]
theorem Ael:AV lS 1000 MB4=true:=by kernel_rfl
def MB5:CM:=[(54,[Av (4240) 11],.tup [.str [52,50,52,48,47,49,49],.int .i64<|0]),
 (54,[Av (9) 20],.tup [.str [57,47,50,48],.int .i64<|0]),
 (54,[Av (82) 15],.tup [.str [56,50,47,49,53],.int .i64<|0]),
 (54,[Av (447) 55],.tup [.str [52,52,55,47,53,53],.int .i64<|0]),
 (56,[Av (1061) 120],Av (44) 5),
 (54,[Av (44) 5],.tup [.str [52,52,47,53],.int .i64<|0])]
theorem Aen:AV lS 1000 MB5=true:=by kernel_rfl
def MB6:CM:=[(54,[Av (5) 2],.tup [.str [53,47,50],.int .i64<|0]),
 (54,[Av (-1) 1],.tup [.str [45,49],.int .i64<|0]),
 (54,[Av (7) 2],.tup [.str [55,47,50],.int .i64<|0]),
 (56,[Av (447) 55],Av (81) 10),
 (54,[Av (9) 10],.tup [.str [57,47,49,48],.int .i64<|0])]
theorem AdZ:AV lS 1000 MB6=true:=by kernel_rfl
def MB:CM:=(MB0++(MB1++(MB2++(MB3++(MB4++(MB5++MB6))))))
theorem sp2:HY prog (Lc lS 1000 MB):=Ss AdQ jA Nd<|AN AdM<|AN Adg<|AN Adk<|AN AdV<|AN Ael<|AN Aen AdZ
def S72:Zs:=orS (Lc lS 1000 MB)<|Lc C7 1000 MA
theorem AdB:HY prog S72:=Qf sp2 sp1
def C72:Ctx:=eB C7 S72
theorem AdD:C72.Ok prog:=WE Xz AdB
theorem fT:G7 C72:=OA Jl _
end
end Go.Det
