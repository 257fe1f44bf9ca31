import Derived.Test.YtbmofcgiokkikaaGreatDoorX04
import Derived.Test.YtbmofcgiokkikaaGreatDoorX05
/- A part of a proof; no law is stated here. -/
noncomputable section
namespace Go.Det
section
open Go.Proofs.Tryz (prog)
def At(n d:Int):V:=.agg [.int .i64 n,.nils,.int .i64 d,.nils]
def MA0:CS:=[(163,[.str [49,48]],.int .i64<|0),
 (96,[.str [49,48]],At (10) 1),
 (73,[At (10) 1,At (-10000) 1],.int .i64<|1),
 (73,[At (10) 1,At (10000) 1],.int .i64<| -1),
 (163,[.str [48]],.int .i64<|0),
 (96,[.str [48]],At (0) 1),
 (73,[At (0) 1,At (-10000) 1],.int .i64<|1),
 (73,[At (0) 1,At (10000) 1],.int .i64<| -1),
 (73,[At (0) 1,At (0) 1],.int .i64<|0)]
theorem AcI:AY C7 1000 MA0=true:=by kernel_rfl
def MA1:CS:=[(163,[.str [50,48]],.int .i64<|0),
 (96,[.str [50,48]],At (20) 1),
 (73,[At (20) 1,At (0) 1],.int .i64<|1),
 (73,[At (20) 1,At (10000) 1],.int .i64<| -1),
 (166,[.str [98,117,110,107,101,114]],.bool true),
 (166,[.str [119,97,116,101,114]],.bool true),
 (163,[.str [45,50,48]],.int .i64<|0),
 (96,[.str [45,50,48]],At (-20) 1),
 (73,[At (-20) 1,At (-10000) 1],.int .i64<|1)]
theorem Ac7:AY C7 1000 MA1=true:=by kernel_rfl
def MA2:CS:=[(73,[At (-20) 1,At (10000) 1],.int .i64<| -1),
 (163,[.str [53]],.int .i64<|0),
 (96,[.str [53]],At (5) 1),
 (73,[At (5) 1,At (-10000) 1],.int .i64<|1),
 (73,[At (5) 1,At (10000) 1],.int .i64<| -1),
 (163,[.str [49,53]],.int .i64<|0),
 (96,[.str [49,53]],At (15) 1),
 (73,[At (15) 1,At (0) 1],.int .i64<|1),
 (73,[At (15) 1,At (10000) 1],.int .i64<| -1)]
theorem AcQ:AY C7 1000 MA2=true:=by kernel_rfl
def MA3:CS:=[(166,[.str [98,108,117,101]],.bool true),
 (166,[.str [115,99,114,97,116,99,104]],.bool true),
 (163,[.str [50,52,48]],.int .i64<|0),
 (96,[.str [50,52,48]],At (240) 1),
 (73,[At (240) 1,At (1) 1],.int .i64<|1),
 (73,[At (240) 1,At (10000) 1],.int .i64<| -1),
 (163,[.str [50,48,48]],.int .i64<|0),
 (96,[.str [50,48,48]],At (200) 1),
 (73,[At (200) 1,At (1) 1],.int .i64<|1)]
theorem Adu:AY C7 1000 MA3=true:=by kernel_rfl
def MA4:CS:=[(73,[At (200) 1,At (10000) 1],.int .i64<| -1),
 (163,[.str [49,48,48]],.int .i64<|0),
 (163,[.str [51]],.int .i64<|0),
 (96,[.str [49,48,48]],At (100) 1),
 (96,[.str [51]],At (3) 1),
 (163,[.str [53,48,48]],.int .i64<|0),
 (96,[.str [53,48,48]],At (500) 1),
 (73,[At (500) 1,At (100) 1],.int .i64<|1),
 (73,[At (5) 1,At (3) 1],.int .i64<|1)]
theorem Acz:AY C7 1000 MA4=true:=by kernel_rfl
def MA5:CS:=[(163,[.str [49,47,50]],.int .i64<|0),
 (96,[.str [49,47,50]],At (1) 2),
 (163,[.str [49]],.int .i64<|0),
 (96,[.str [49]],At (1) 1),
 (166,[.str [98,111,103,101,121]],.bool true),
 (163,[.str [49,56,48]],.int .i64<|0),
 (96,[.str [49,56,48]],At (180) 1),
 (73,[At (180) 1,At (1) 1],.int .i64<|1),
 (73,[At (180) 1,At (10000) 1],.int .i64<| -1)]
theorem Adw:AY C7 1000 MA5=true:=by kernel_rfl
def MA6:CS:=[(163,[.str [49,54,48]],.int .i64<|0),
 (96,[.str [49,54,48]],At (160) 1),
 (73,[At (160) 1,At (1) 1],.int .i64<|1),
 (73,[At (160) 1,At (10000) 1],.int .i64<| -1),
 (163,[.str [54]],.int .i64<|0),
 (96,[.str [54]],At (6) 1),
 (73,[At (6) 1,At (3) 1],.int .i64<|1),
 (163,[.str [50]],.int .i64<|0),
 (96,[.str [50]],At (2) 1)]
theorem AdX:AY C7 1000 MA6=true:=by kernel_rfl
def MA7:CS:=[(59,[At (0) 1,At (-20) 1],At (-20) 1),
 (59,[At (-20) 1,At (5) 1],At (-15) 1),
 (59,[At (-15) 1,At (15) 1],At (0) 1),
 (59,[At (150) 1,At (0) 1],At (150) 1),
 (118,[At (150) 1],.bool false),
 (119,[At (150) 1],.str [49,53,48]),
 (59,[At (0) 1,At (10) 1],At (10) 1),
 (59,[At (10) 1,At (0) 1],At (10) 1),
 (59,[At (410) 1,At (10) 1],At (420) 1)]
theorem AbW:AY C7 1000 MA7=true:=by kernel_rfl
def MA8:CS:=[(64,[At (420) 1,At (240) 1],At (180) 1),
 (59,[At (180) 1,At (200) 1],At (380) 1),
 (59,[At (200) 1,At (20) 1],At (220) 1),
 (97,[At (380) 1,At (220) 1],At (19) 11),
 (98,[At (19) 11],.agg [.int .i64<|2,.nils]),
 (59,[At (240) 1,At (20) 1],At (260) 1),
 (73,[At (420) 1,At (260) 1],.int .i64<|1),
 (64,[At (420) 1,At (260) 1],At (160) 1),
 (65,[At (160) 1,At (200) 1],At (32000) 1)]
theorem Ads:AY C7 1000 MA8=true:=by kernel_rfl
def MA9:CS:=[(97,[At (32000) 1,At (220) 1],At (1600) 11),
 (59,[At (240) 1,At (1600) 11],At (4240) 11),
 (118,[At (4240) 11],.bool false),
 (119,[At (4240) 11],.str [52,50,52,48,47,49,49]),
 (120,[.agg [.int .i64<|5,.nils],.agg [.int .i64<|10,.nils]],At (1) 2),
 (65,[At (1) 2,At (1) 2],At (1) 4),
 (59,[At (0) 1,At (1) 4],At (1) 4),
 (120,[.agg [.int .i64<|2,.nils],.agg [.int .i64<|10,.nils]],At (1) 5),
 (65,[At (1) 1,At (1) 5],At (1) 5)]
theorem AdH:AY C7 1000 MA9=true:=by kernel_rfl
def Afq:CS:=[(59,[At (1) 4,At (1) 5],At (9) 20),
 (118,[At (9) 20],.bool false),
 (119,[At (9) 20],.str [57,47,50,48]),
 (59,[At (180) 1,At (20) 1],At (200) 1),
 (73,[At (420) 1,At (200) 1],.int .i64<|1),
 (64,[At (420) 1,At (200) 1],At (220) 1),
 (65,[At (220) 1,At (160) 1],At (35200) 1),
 (59,[At (160) 1,At (20) 1],At (180) 1),
 (97,[At (35200) 1,At (180) 1],At (1760) 9)]
theorem xX:AY C7 1000 Afq=true:=by kernel_rfl
def AfC:CS:=[(59,[At (180) 1,At (1760) 9],At (3380) 9),
 (73,[At (3380) 9,At (100) 1],.int .i64<|1),
 (73,[At (3380) 9,At (500) 1],.int .i64<| -1),
 (64,[At (6) 1,At (3) 1],At (3) 1),
 (64,[At (3380) 9,At (100) 1],At (2480) 9),
 (65,[At (3) 1,At (2480) 9],At (2480) 3),
 (64,[At (500) 1,At (100) 1],At (400) 1),
 (97,[At (2480) 3,At (400) 1],At (31) 15),
 (59,[At (3) 1,At (31) 15],At (76) 15)]
theorem xS:AY C7 1000 AfC=true:=by kernel_rfl
def Agh:CS:=[(65,[At (2) 1,At (1) 5],At (2) 5),
 (59,[At (0) 1,At (2) 5],At (2) 5),
 (59,[At (76) 15,At (2) 5],At (82) 15),
 (118,[At (82) 15],.bool false),
 (119,[At (82) 15],.str [56,50,47,49,53]),
 (73,[At (4240) 11,At (100) 1],.int .i64<|1),
 (73,[At (4240) 11,At (500) 1],.int .i64<| -1),
 (64,[At (5) 1,At (3) 1],At (2) 1),
 (64,[At (4240) 11,At (100) 1],At (3140) 11)]
theorem Aai:AY C7 1000 Agh=true:=by kernel_rfl
def AfH:CS:=[(65,[At (2) 1,At (3140) 11],At (6280) 11),
 (97,[At (6280) 11,At (400) 1],At (157) 110),
 (59,[At (3) 1,At (157) 110],At (487) 110),
 (59,[At (487) 110,At (9) 20],At (1073) 220),
 (59,[At (240) 1,At (0) 1],At (240) 1),
 (73,[At (150) 1,At (240) 1],.int .i64<| -1),
 (65,[At (150) 1,At (240) 1],At (36000) 1),
 (97,[At (36000) 1,At (240) 1],At (150) 1),
 (73,[At (150) 1,At (100) 1],.int .i64<|1)]
theorem vQ:AY C7 1000 AfH=true:=by kernel_rfl
def Aeq:CS:=[(73,[At (150) 1,At (500) 1],.int .i64<| -1),
 (64,[At (150) 1,At (100) 1],At (50) 1),
 (65,[At (2) 1,At (50) 1],At (100) 1),
 (97,[At (100) 1,At (400) 1],At (1) 4),
 (59,[At (3) 1,At (1) 4],At (13) 4),
 (59,[At (13) 4,At (0) 1],At (13) 4),
 (59,[At (0) 1,At (1073) 220],At (1073) 220),
 (59,[At (1073) 220,At (13) 4],At (447) 55),
 (118,[At (447) 55],.bool false)]
theorem Aas:AY C7 1000 Aeq=true:=by kernel_rfl
def Af1:CS:=[(119,[At (447) 55],.str [52,52,55,47,53,53]),
 (59,[At (180) 1,At (0) 1],At (180) 1),
 (73,[At (150) 1,At (180) 1],.int .i64<| -1),
 (65,[At (150) 1,At (180) 1],At (27000) 1),
 (97,[At (27000) 1,At (180) 1],At (150) 1),
 (65,[At (3) 1,At (50) 1],At (150) 1),
 (97,[At (150) 1,At (400) 1],At (3) 8),
 (59,[At (3) 1,At (3) 8],At (27) 8),
 (59,[At (27) 8,At (0) 1],At (27) 8)]
theorem zS:AY C7 1000 Af1=true:=by kernel_rfl
def AeG:CS:=[(59,[At (0) 1,At (82) 15],At (82) 15),
 (59,[At (82) 15,At (27) 8],At (1061) 120),
 (65,[At (1061) 120,At (10) 1],At (1061) 12),
 (66,[At (1061) 12],.agg [.int .i64<|88,.nils]),
 (120,[.agg [.int .i64<|88,.nils],.agg [.int .i64<|10,.nils]],At (44) 5),
 (118,[At (44) 5],.bool false),
 (119,[At (44) 5],.str [52,52,47,53]),
 (64,[At (1061) 120,At (447) 55],At (943) 1320),
 (65,[At (943) 1320,At (5) 1],At (943) 264)]
theorem zU:AY C7 1000 AeG=true:=by kernel_rfl
def Ae3:CS:=[(66,[At (943) 264],.agg [.int .i64<|4,.nils]),
 (64,[At (82) 15,At (1073) 220],At (389) 660),
 (64,[At (27) 8,At (13) 4],At (1) 8),
 (73,[At (389) 660,At (389) 660],.int .i64<|0),
 (73,[At (389) 660,At (1) 8],.int .i64<|1),
 (73,[At (1) 8,At (389) 660],.int .i64<| -1),
 (73,[At (1) 8,At (1) 8],.int .i64<|0),
 (163,[.str [55]],.int .i64<|0),
 (59,[At (0) 1,At (1) 1],At (1) 1)]
theorem xH:AY C7 1000 Ae3=true:=by kernel_rfl
def Aex:CS:=[(59,[At (1) 1,At (2) 1],At (3) 1),
 (59,[At (3) 1,At (3) 1],At (6) 1),
 (97,[At (6) 1,At (3) 1],At (2) 1),
 (96,[.str [55]],At (7) 1),
 (59,[At (0) 1,At (2) 1],At (2) 1),
 (59,[At (2) 1,At (3) 1],At (5) 1),
 (59,[At (5) 1,At (7) 1],At (12) 1),
 (97,[At (12) 1,At (3) 1],At (4) 1),
 (64,[At (1) 1,At (2) 1],At (-1) 1)]
theorem wX:AY C7 1000 Aex=true:=by kernel_rfl
def AeZ:CS:=[(65,[At (-1) 1,At (-1) 1],At (1) 1),
 (64,[At (2) 1,At (2) 1],At (0) 1),
 (65,[At (0) 1,At (0) 1],At (0) 1),
 (64,[At (3) 1,At (2) 1],At (1) 1),
 (65,[At (1) 1,At (1) 1],At (1) 1),
 (59,[At (1) 1,At (0) 1],At (1) 1),
 (59,[At (1) 1,At (1) 1],At (2) 1),
 (64,[At (2) 1,At (4) 1],At (-2) 1),
 (65,[At (-1) 1,At (-2) 1],At (2) 1)]
theorem wA:AY C7 1000 AeZ=true:=by kernel_rfl
def AfJ:CS:=[(64,[At (3) 1,At (4) 1],At (-1) 1),
 (65,[At (0) 1,At (-1) 1],At (0) 1),
 (64,[At (7) 1,At (4) 1],At (3) 1),
 (65,[At (1) 1,At (3) 1],At (3) 1),
 (59,[At (2) 1,At (0) 1],At (2) 1),
 (97,[At (5) 1,At (2) 1],At (5) 2),
 (118,[At (5) 2],.bool false),
 (119,[At (5) 2],.str [53,47,50]),
 (65,[At (5) 2,At (2) 1],At (5) 1)]
theorem vC:AY C7 1000 AfJ=true:=by kernel_rfl
def Af8:CS:=[(64,[At (4) 1,At (5) 1],At (-1) 1),
 (118,[At (-1) 1],.bool false),
 (119,[At (-1) 1],.str [45,49]),
 (163,[.str [52]],.int .i64<|0),
 (96,[.str [52]],At (4) 1),
 (73,[At (1) 1,At (4) 1],.int .i64<| -1),
 (73,[At (3) 1,At (4) 1],.int .i64<| -1),
 (73,[At (3) 1,At (1) 1],.int .i64<|1),
 (73,[At (10) 1,At (4) 1],.int .i64<|1)]
theorem Aaj:AY C7 1000 Af8=true:=by kernel_rfl
def Agg:CS:=[(59,[At (3) 1,At (4) 1],At (7) 1),
 (97,[At (7) 1,At (2) 1],At (7) 2),
 (118,[At (7) 2],.bool false),
 (119,[At (7) 2],.str [55,47,50]),
 (73,[At (9) 1,At (8) 1],.int .i64<|1),
 (73,[At (9) 1,At (9) 1],.int .i64<|0),
 (59,[At (9) 1,At (9) 1],At (18) 1),
 (97,[At (18) 1,At (2) 1],At (9) 1),
 (65,[At (447) 55,At (10) 1],At (894) 11)]
theorem yS:AY C7 1000 Agg=true:=by kernel_rfl
def AeV:CS:=[(66,[At (894) 11],.agg [.int .i64<|81,.nils]),
 (120,[.agg [.int .i64<|81,.nils],.agg [.int .i64<|10,.nils]],At (81) 10),
 (64,[At (9) 1,At (81) 10],At (9) 10),
 (118,[At (9) 10],.bool false),
 (119,[At (9) 10],.str [57,47,49,48])]
theorem zW:AY C7 1000 AeV=true:=by kernel_rfl
def MA:CS:=(MA0++(MA1++(MA2++(MA3++(MA4++(MA5++(MA6++(MA7++(MA8++(MA9++(Afq++(AfC++(Agh++(AfH++(Aeq++(Af1++(AeG++(Ae3++(Aex++(AeZ++(AfJ++(Af8++(Agg++AeV)))))))))))))))))))))))
theorem sp1:LG prog (Lv C7 1000 MA):=Sq cS Mn Ui<|AN AcI<|AN Ac7<|AN AcQ<|AN Adu<|AN Acz<|AN Adw<|AN AdX<|AN AbW<|AN Ads<|AN AdH<|AN xX<|AN xS<|AN Aai<|AN vQ<|AN Aas<|AN zS<|AN zU<|AN xH<|AN wX<|AN wA<|AN vC<|AN Aaj<|AN yS zW
def oH:Ctx:=Zs C7<|Lv C7 1000 MA
theorem Ab7:oH.Ok prog:=WL cS sp1
theorem eR:G5 oH:=NS Mn _
def MB0:CS:=[(204,[.str [49,48],.int .i64<| -10000,.int .i64<|10000],.int .i64<|0),
 (204,[.str [48],.int .i64<| -10000,.int .i64<|10000],.int .i64<|0),
 (204,[.str [48],.int .i64<|0,.int .i64<|10000],.int .i64<|0),
 (204,[.str [50,48],.int .i64<|0,.int .i64<|10000],.int .i64<|0),
 (204,[.str [45,50,48],.int .i64<| -10000,.int .i64<|10000],.int .i64<|0),
 (204,[.str [53],.int .i64<| -10000,.int .i64<|10000],.int .i64<|0)]
theorem Ad2:AY oH 1000 MB0=true:=by kernel_rfl
def MB1:CS:=[(204,[.str [49,53],.int .i64<|0,.int .i64<|10000],.int .i64<|0),
 (204,[.str [50,52,48],.int .i64<|1,.int .i64<|10000],.int .i64<|0),
 (204,[.str [50,48,48],.int .i64<|1,.int .i64<|10000],.int .i64<|0),
 (204,[.str [49,56,48],.int .i64<|1,.int .i64<|10000],.int .i64<|0),
 (204,[.str [49,54,48],.int .i64<|1,.int .i64<|10000],.int .i64<|0),
 (91,[.bool false,.int .i64<|8],.int .i64<|0)]
theorem AdT:AY oH 1000 MB1=true:=by kernel_rfl
def MB2:CS:=[(91,[.bool false,.int .i64<|9],.int .i64<|0),
 (91,[.bool false,.int .i64<|3],.int .i64<|0),
 (91,[.bool false,.int .i64<|5],.int .i64<|0),
 (91,[.bool false,.int .i64<|12],.int .i64<|0),
 (91,[.bool false,.int .i64<|2],.int .i64<|0),
 (91,[.bool false,.int .i64<|10],.int .i64<|0)]
theorem AdP:AY oH 1000 MB2=true:=by kernel_rfl
def MB3:CS:=[(90,[.int .i64<|2,.int .i64<|36],.int .i64<|0),
 (90,[.int .i64<|1,.int .i64<|8],.int .i64<|0),
 (90,[.int .i64<|2,.int .i64<|8],.int .i64<|0),
 (106,[At (1) 2],.int .i64<|1),
 (106,[At (1) 1],.int .i64<|1),
 (106,[At (2) 1],.int .i64<|1)]
theorem Acn:AY oH 1000 MB3=true:=by kernel_rfl
def MB4:CS:=[(165,[.int .i64<|410],.bool false),
 (165,[.int .i64<|150],.bool false),
 (117,[.agg [.int .i64<|0,.int .i64<|1]],.bool false),
 (117,[.agg [.int .i64<|0,.int .i64<|2]],.bool false),
 (117,[.agg [.int .i64<|1,.int .i64<|2]],.bool false),
 (54,[At (150) 1],.tup [.str [49,53,48],.int .i64<|0])]
theorem Ach:AY oH 1000 MB4=true:=by kernel_rfl
def MB5:CS:=[(54,[At (4240) 11],.tup [.str [52,50,52,48,47,49,49],.int .i64<|0]),
 (54,[At (9) 20],.tup [.str [57,47,50,48],.int .i64<|0]),
 (54,[At (82) 15],.tup [.str [56,50,47,49,53],.int .i64<|0]),
 (54,[At (447) 55],.tup [.str [52,52,55,47,53,53],.int .i64<|0]),
 (56,[At (1061) 120],At (44) 5),
 (54,[At (44) 5],.tup [.str [52,52,47,53],.int .i64<|0])]
theorem Ab9:AY oH 1000 MB5=true:=by kernel_rfl
def MB6:CS:=[(54,[At (5) 2],.tup [.str [53,47,50],.int .i64<|0]),
 (54,[At (-1) 1],.tup [.str [45,49],.int .i64<|0]),
 (54,[At (7) 2],.tup [.str [55,47,50],.int .i64<|0]),
 (56,[At (447) 55],At (81) 10),
 (54,[At (9) 10],.tup [.str [57,47,49,48],.int .i64<|0])]
theorem AdB:AY oH 1000 MB6=true:=by kernel_rfl
def MB:CS:=(MB0++(MB1++(MB2++(MB3++(MB4++(MB5++MB6))))))
theorem sp2:LG prog (Lv oH 1000 MB):=Sq Ab7 eR Ui<|AN Ad2<|AN AdT<|AN AdP<|AN Acn<|AN Ach<|AN Ab9 AdB
def S72:Za:=orS (Lv oH 1000 MB)<|Lv C7 1000 MA
theorem Aci:LG prog S72:=TQ sp2 sp1
def C72:Ctx:=Zs C7 S72
theorem Acv:C72.Ok prog:=WL cS Aci
theorem fA:G5 C72:=NS Mn _
end
end Go.Det
