import Derived.Test.YtlohiljbghionaaGreatDoorX05
/- A part of a proof; no law is stated here. -/
noncomputable section
namespace Go.Det
section
open Go.Proofs.Tryz (prog)
def Ar(n d:Int):V:=.agg [.int .i64 n,.nils,.int .i64 d,.nils]
def MA0:CR:=[(122,[.str [49,48]],.int .i64<|0),
 (55,[.str [49,48]],Ar (10) 1),
 (56,[Ar (10) 1,Ar (-10000) 1],.int .i64<|1),
 (56,[Ar (10) 1,Ar (10000) 1],.int .i64<| -1),
 (122,[.str [48]],.int .i64<|0),
 (55,[.str [48]],Ar (0) 1),
 (56,[Ar (0) 1,Ar (-10000) 1],.int .i64<|1),
 (56,[Ar (0) 1,Ar (10000) 1],.int .i64<| -1),
 (56,[Ar (0) 1,Ar (0) 1],.int .i64<|0)]
theorem zT:A1 C7 1000 MA0=true:=by kernel_rfl
def MA1:CR:=[(122,[.str [50,48]],.int .i64<|0),
 (55,[.str [50,48]],Ar (20) 1),
 (56,[Ar (20) 1,Ar (0) 1],.int .i64<|1),
 (56,[Ar (20) 1,Ar (10000) 1],.int .i64<| -1),
 (52,[.str [98,117,110,107,101,114]],.bool true),
 (52,[.str [119,97,116,101,114]],.bool true),
 (122,[.str [45,50,48]],.int .i64<|0),
 (55,[.str [45,50,48]],Ar (-20) 1),
 (56,[Ar (-20) 1,Ar (-10000) 1],.int .i64<|1)]
theorem Aau:A1 C7 1000 MA1=true:=by kernel_rfl
def MA2:CR:=[(56,[Ar (-20) 1,Ar (10000) 1],.int .i64<| -1),
 (122,[.str [53]],.int .i64<|0),
 (55,[.str [53]],Ar (5) 1),
 (56,[Ar (5) 1,Ar (-10000) 1],.int .i64<|1),
 (56,[Ar (5) 1,Ar (10000) 1],.int .i64<| -1),
 (122,[.str [49,53]],.int .i64<|0),
 (55,[.str [49,53]],Ar (15) 1),
 (56,[Ar (15) 1,Ar (0) 1],.int .i64<|1),
 (56,[Ar (15) 1,Ar (10000) 1],.int .i64<| -1)]
theorem AbP:A1 C7 1000 MA2=true:=by kernel_rfl
def MA3:CR:=[(52,[.str [98,108,117,101]],.bool true),
 (52,[.str [115,99,114,97,116,99,104]],.bool true),
 (122,[.str [50,52,48]],.int .i64<|0),
 (55,[.str [50,52,48]],Ar (240) 1),
 (56,[Ar (240) 1,Ar (1) 1],.int .i64<|1),
 (56,[Ar (240) 1,Ar (10000) 1],.int .i64<| -1),
 (122,[.str [50,48,48]],.int .i64<|0),
 (55,[.str [50,48,48]],Ar (200) 1),
 (56,[Ar (200) 1,Ar (1) 1],.int .i64<|1)]
theorem AaT:A1 C7 1000 MA3=true:=by kernel_rfl
def MA4:CR:=[(56,[Ar (200) 1,Ar (10000) 1],.int .i64<| -1),
 (122,[.str [49,48,48]],.int .i64<|0),
 (122,[.str [51]],.int .i64<|0),
 (55,[.str [49,48,48]],Ar (100) 1),
 (55,[.str [51]],Ar (3) 1),
 (122,[.str [53,48,48]],.int .i64<|0),
 (55,[.str [53,48,48]],Ar (500) 1),
 (56,[Ar (500) 1,Ar (100) 1],.int .i64<|1),
 (56,[Ar (5) 1,Ar (3) 1],.int .i64<|1)]
theorem AaY:A1 C7 1000 MA4=true:=by kernel_rfl
def MA5:CR:=[(122,[.str [49,47,50]],.int .i64<|0),
 (55,[.str [49,47,50]],Ar (1) 2),
 (122,[.str [49]],.int .i64<|0),
 (55,[.str [49]],Ar (1) 1),
 (52,[.str [98,111,103,101,121]],.bool true),
 (122,[.str [49,56,48]],.int .i64<|0),
 (55,[.str [49,56,48]],Ar (180) 1),
 (56,[Ar (180) 1,Ar (1) 1],.int .i64<|1),
 (56,[Ar (180) 1,Ar (10000) 1],.int .i64<| -1)]
theorem zZ:A1 C7 1000 MA5=true:=by kernel_rfl
def MA6:CR:=[(122,[.str [49,54,48]],.int .i64<|0),
 (55,[.str [49,54,48]],Ar (160) 1),
 (56,[Ar (160) 1,Ar (1) 1],.int .i64<|1),
 (56,[Ar (160) 1,Ar (10000) 1],.int .i64<| -1),
 (122,[.str [54]],.int .i64<|0),
 (55,[.str [54]],Ar (6) 1),
 (56,[Ar (6) 1,Ar (3) 1],.int .i64<|1),
 (122,[.str [50]],.int .i64<|0),
 (55,[.str [50]],Ar (2) 1)]
theorem zV:A1 C7 1000 MA6=true:=by kernel_rfl
def MA7:CR:=[(75,[Ar (0) 1,Ar (-20) 1],Ar (-20) 1),
 (75,[Ar (-20) 1,Ar (5) 1],Ar (-15) 1),
 (75,[Ar (-15) 1,Ar (15) 1],Ar (0) 1),
 (75,[Ar (150) 1,Ar (0) 1],Ar (150) 1),
 (134,[Ar (150) 1],.bool false),
 (135,[Ar (150) 1],.str [49,53,48]),
 (75,[Ar (0) 1,Ar (10) 1],Ar (10) 1),
 (75,[Ar (10) 1,Ar (0) 1],Ar (10) 1),
 (75,[Ar (410) 1,Ar (10) 1],Ar (420) 1)]
theorem Aad:A1 C7 1000 MA7=true:=by kernel_rfl
def MA8:CR:=[(74,[Ar (420) 1,Ar (240) 1],Ar (180) 1),
 (75,[Ar (180) 1,Ar (200) 1],Ar (380) 1),
 (75,[Ar (200) 1,Ar (20) 1],Ar (220) 1),
 (76,[Ar (380) 1,Ar (220) 1],Ar (19) 11),
 (77,[Ar (19) 11],.agg [.int .i64<|2,.nils]),
 (75,[Ar (240) 1,Ar (20) 1],Ar (260) 1),
 (56,[Ar (420) 1,Ar (260) 1],.int .i64<|1),
 (74,[Ar (420) 1,Ar (260) 1],Ar (160) 1),
 (102,[Ar (160) 1,Ar (200) 1],Ar (32000) 1)]
theorem zW:A1 C7 1000 MA8=true:=by kernel_rfl
def MA9:CR:=[(76,[Ar (32000) 1,Ar (220) 1],Ar (1600) 11),
 (75,[Ar (240) 1,Ar (1600) 11],Ar (4240) 11),
 (134,[Ar (4240) 11],.bool false),
 (135,[Ar (4240) 11],.str [52,50,52,48,47,49,49]),
 (140,[.agg [.int .i64<|5,.nils],.agg [.int .i64<|10,.nils]],Ar (1) 2),
 (102,[Ar (1) 2,Ar (1) 2],Ar (1) 4),
 (75,[Ar (0) 1,Ar (1) 4],Ar (1) 4),
 (140,[.agg [.int .i64<|2,.nils],.agg [.int .i64<|10,.nils]],Ar (1) 5),
 (102,[Ar (1) 1,Ar (1) 5],Ar (1) 5)]
theorem Aag:A1 C7 1000 MA9=true:=by kernel_rfl
def Acq:CR:=[(75,[Ar (1) 4,Ar (1) 5],Ar (9) 20),
 (134,[Ar (9) 20],.bool false),
 (135,[Ar (9) 20],.str [57,47,50,48]),
 (75,[Ar (180) 1,Ar (20) 1],Ar (200) 1),
 (56,[Ar (420) 1,Ar (200) 1],.int .i64<|1),
 (74,[Ar (420) 1,Ar (200) 1],Ar (220) 1),
 (102,[Ar (220) 1,Ar (160) 1],Ar (35200) 1),
 (75,[Ar (160) 1,Ar (20) 1],Ar (180) 1),
 (76,[Ar (35200) 1,Ar (180) 1],Ar (1760) 9)]
theorem uY:A1 C7 1000 Acq=true:=by kernel_rfl
def Ab6:CR:=[(75,[Ar (180) 1,Ar (1760) 9],Ar (3380) 9),
 (56,[Ar (3380) 9,Ar (100) 1],.int .i64<|1),
 (56,[Ar (3380) 9,Ar (500) 1],.int .i64<| -1),
 (74,[Ar (6) 1,Ar (3) 1],Ar (3) 1),
 (74,[Ar (3380) 9,Ar (100) 1],Ar (2480) 9),
 (102,[Ar (3) 1,Ar (2480) 9],Ar (2480) 3),
 (74,[Ar (500) 1,Ar (100) 1],Ar (400) 1),
 (76,[Ar (2480) 3,Ar (400) 1],Ar (31) 15),
 (75,[Ar (3) 1,Ar (31) 15],Ar (76) 15)]
theorem xM:A1 C7 1000 Ab6=true:=by kernel_rfl
def AcU:CR:=[(102,[Ar (2) 1,Ar (1) 5],Ar (2) 5),
 (75,[Ar (0) 1,Ar (2) 5],Ar (2) 5),
 (75,[Ar (76) 15,Ar (2) 5],Ar (82) 15),
 (134,[Ar (82) 15],.bool false),
 (135,[Ar (82) 15],.str [56,50,47,49,53]),
 (56,[Ar (4240) 11,Ar (100) 1],.int .i64<|1),
 (56,[Ar (4240) 11,Ar (500) 1],.int .i64<| -1),
 (74,[Ar (5) 1,Ar (3) 1],Ar (2) 1),
 (74,[Ar (4240) 11,Ar (100) 1],Ar (3140) 11)]
theorem uD:A1 C7 1000 AcU=true:=by kernel_rfl
def Acz:CR:=[(102,[Ar (2) 1,Ar (3140) 11],Ar (6280) 11),
 (76,[Ar (6280) 11,Ar (400) 1],Ar (157) 110),
 (75,[Ar (3) 1,Ar (157) 110],Ar (487) 110),
 (75,[Ar (487) 110,Ar (9) 20],Ar (1073) 220),
 (75,[Ar (240) 1,Ar (0) 1],Ar (240) 1),
 (56,[Ar (150) 1,Ar (240) 1],.int .i64<| -1),
 (102,[Ar (150) 1,Ar (240) 1],Ar (36000) 1),
 (76,[Ar (36000) 1,Ar (240) 1],Ar (150) 1),
 (56,[Ar (150) 1,Ar (100) 1],.int .i64<|1)]
theorem qH:A1 C7 1000 Acz=true:=by kernel_rfl
def Ac0:CR:=[(56,[Ar (150) 1,Ar (500) 1],.int .i64<| -1),
 (74,[Ar (150) 1,Ar (100) 1],Ar (50) 1),
 (102,[Ar (2) 1,Ar (50) 1],Ar (100) 1),
 (76,[Ar (100) 1,Ar (400) 1],Ar (1) 4),
 (75,[Ar (3) 1,Ar (1) 4],Ar (13) 4),
 (75,[Ar (13) 4,Ar (0) 1],Ar (13) 4),
 (75,[Ar (0) 1,Ar (1073) 220],Ar (1073) 220),
 (75,[Ar (1073) 220,Ar (13) 4],Ar (447) 55),
 (134,[Ar (447) 55],.bool false)]
theorem tF:A1 C7 1000 Ac0=true:=by kernel_rfl
def AcW:CR:=[(135,[Ar (447) 55],.str [52,52,55,47,53,53]),
 (75,[Ar (180) 1,Ar (0) 1],Ar (180) 1),
 (56,[Ar (150) 1,Ar (180) 1],.int .i64<| -1),
 (102,[Ar (150) 1,Ar (180) 1],Ar (27000) 1),
 (76,[Ar (27000) 1,Ar (180) 1],Ar (150) 1),
 (102,[Ar (3) 1,Ar (50) 1],Ar (150) 1),
 (76,[Ar (150) 1,Ar (400) 1],Ar (3) 8),
 (75,[Ar (3) 1,Ar (3) 8],Ar (27) 8),
 (75,[Ar (27) 8,Ar (0) 1],Ar (27) 8)]
theorem qI:A1 C7 1000 AcW=true:=by kernel_rfl
def Ac7:CR:=[(75,[Ar (0) 1,Ar (82) 15],Ar (82) 15),
 (75,[Ar (82) 15,Ar (27) 8],Ar (1061) 120),
 (102,[Ar (1061) 120,Ar (10) 1],Ar (1061) 12),
 (104,[Ar (1061) 12],.agg [.int .i64<|88,.nils]),
 (140,[.agg [.int .i64<|88,.nils],.agg [.int .i64<|10,.nils]],Ar (44) 5),
 (134,[Ar (44) 5],.bool false),
 (135,[Ar (44) 5],.str [52,52,47,53]),
 (74,[Ar (1061) 120,Ar (447) 55],Ar (943) 1320),
 (102,[Ar (943) 1320,Ar (5) 1],Ar (943) 264)]
theorem xD:A1 C7 1000 Ac7=true:=by kernel_rfl
def Ac9:CR:=[(104,[Ar (943) 264],.agg [.int .i64<|4,.nils]),
 (74,[Ar (82) 15,Ar (1073) 220],Ar (389) 660),
 (74,[Ar (27) 8,Ar (13) 4],Ar (1) 8),
 (56,[Ar (389) 660,Ar (389) 660],.int .i64<|0),
 (56,[Ar (389) 660,Ar (1) 8],.int .i64<|1),
 (56,[Ar (1) 8,Ar (389) 660],.int .i64<| -1),
 (56,[Ar (1) 8,Ar (1) 8],.int .i64<|0),
 (122,[.str [55]],.int .i64<|0),
 (75,[Ar (0) 1,Ar (1) 1],Ar (1) 1)]
theorem rS:A1 C7 1000 Ac9=true:=by kernel_rfl
def AcM:CR:=[(75,[Ar (1) 1,Ar (2) 1],Ar (3) 1),
 (75,[Ar (3) 1,Ar (3) 1],Ar (6) 1),
 (76,[Ar (6) 1,Ar (3) 1],Ar (2) 1),
 (55,[.str [55]],Ar (7) 1),
 (75,[Ar (0) 1,Ar (2) 1],Ar (2) 1),
 (75,[Ar (2) 1,Ar (3) 1],Ar (5) 1),
 (75,[Ar (5) 1,Ar (7) 1],Ar (12) 1),
 (76,[Ar (12) 1,Ar (3) 1],Ar (4) 1),
 (74,[Ar (1) 1,Ar (2) 1],Ar (-1) 1)]
theorem tT:A1 C7 1000 AcM=true:=by kernel_rfl
def Adx:CR:=[(102,[Ar (-1) 1,Ar (-1) 1],Ar (1) 1),
 (74,[Ar (2) 1,Ar (2) 1],Ar (0) 1),
 (102,[Ar (0) 1,Ar (0) 1],Ar (0) 1),
 (74,[Ar (3) 1,Ar (2) 1],Ar (1) 1),
 (102,[Ar (1) 1,Ar (1) 1],Ar (1) 1),
 (75,[Ar (1) 1,Ar (0) 1],Ar (1) 1),
 (75,[Ar (1) 1,Ar (1) 1],Ar (2) 1),
 (74,[Ar (2) 1,Ar (4) 1],Ar (-2) 1),
 (102,[Ar (-1) 1,Ar (-2) 1],Ar (2) 1)]
theorem vE:A1 C7 1000 Adx=true:=by kernel_rfl
def Adf:CR:=[(74,[Ar (3) 1,Ar (4) 1],Ar (-1) 1),
 (102,[Ar (0) 1,Ar (-1) 1],Ar (0) 1),
 (74,[Ar (7) 1,Ar (4) 1],Ar (3) 1),
 (102,[Ar (1) 1,Ar (3) 1],Ar (3) 1),
 (75,[Ar (2) 1,Ar (0) 1],Ar (2) 1),
 (76,[Ar (5) 1,Ar (2) 1],Ar (5) 2),
 (134,[Ar (5) 2],.bool false),
 (135,[Ar (5) 2],.str [53,47,50]),
 (102,[Ar (5) 2,Ar (2) 1],Ar (5) 1)]
theorem wJ:A1 C7 1000 Adf=true:=by kernel_rfl
def AcD:CR:=[(74,[Ar (4) 1,Ar (5) 1],Ar (-1) 1),
 (134,[Ar (-1) 1],.bool false),
 (135,[Ar (-1) 1],.str [45,49]),
 (122,[.str [52]],.int .i64<|0),
 (55,[.str [52]],Ar (4) 1),
 (56,[Ar (1) 1,Ar (4) 1],.int .i64<| -1),
 (56,[Ar (3) 1,Ar (4) 1],.int .i64<| -1),
 (56,[Ar (3) 1,Ar (1) 1],.int .i64<|1),
 (56,[Ar (10) 1,Ar (4) 1],.int .i64<|1)]
theorem rI:A1 C7 1000 AcD=true:=by kernel_rfl
def Acu:CR:=[(75,[Ar (3) 1,Ar (4) 1],Ar (7) 1),
 (76,[Ar (7) 1,Ar (2) 1],Ar (7) 2),
 (134,[Ar (7) 2],.bool false),
 (135,[Ar (7) 2],.str [55,47,50]),
 (56,[Ar (9) 1,Ar (8) 1],.int .i64<|1),
 (56,[Ar (9) 1,Ar (9) 1],.int .i64<|0),
 (75,[Ar (9) 1,Ar (9) 1],Ar (18) 1),
 (76,[Ar (18) 1,Ar (2) 1],Ar (9) 1),
 (102,[Ar (447) 55,Ar (10) 1],Ar (894) 11)]
theorem tG:A1 C7 1000 Acu=true:=by kernel_rfl
def AcS:CR:=[(104,[Ar (894) 11],.agg [.int .i64<|81,.nils]),
 (140,[.agg [.int .i64<|81,.nils],.agg [.int .i64<|10,.nils]],Ar (81) 10),
 (74,[Ar (9) 1,Ar (81) 10],Ar (9) 10),
 (134,[Ar (9) 10],.bool false),
 (135,[Ar (9) 10],.str [57,47,49,48])]
theorem uL:A1 C7 1000 AcS=true:=by kernel_rfl
def MA:CR:=(MA0++(MA1++(MA2++(MA3++(MA4++(MA5++(MA6++(MA7++(MA8++(MA9++(Acq++(Ab6++(AcU++(Acz++(Ac0++(AcW++(Ac7++(Ac9++(AcM++(Adx++(Adf++(AcD++(Acu++AcS)))))))))))))))))))))))
theorem sp1:LD prog (Ky C7 1000 MA):=RG ZK LF SO<|AO zT<|AO Aau<|AO AbP<|AO AaT<|AO AaY<|AO zZ<|AO zV<|AO Aad<|AO zW<|AO Aag<|AO uY<|AO xM<|AO uD<|AO qH<|AO tF<|AO qI<|AO xD<|AO rS<|AO tT<|AO vE<|AO wJ<|AO rI<|AO tG uL
def xR:Ctx:=Yc C7<|Ky C7 1000 MA
theorem Aa8:xR.Ok prog:=Vr ZK sp1
theorem aK:Gy xR:=No LF _
def MB0:CR:=[(53,[.str [49,48],.int .i64<| -10000,.int .i64<|10000],.int .i64<|0),
 (53,[.str [48],.int .i64<| -10000,.int .i64<|10000],.int .i64<|0),
 (53,[.str [48],.int .i64<|0,.int .i64<|10000],.int .i64<|0),
 (53,[.str [50,48],.int .i64<|0,.int .i64<|10000],.int .i64<|0),
 (53,[.str [45,50,48],.int .i64<| -10000,.int .i64<|10000],.int .i64<|0),
 (53,[.str [53],.int .i64<| -10000,.int .i64<|10000],.int .i64<|0)]
theorem Aa2:A1 xR 1000 MB0=true:=by kernel_rfl
def MB1:CR:=[(53,[.str [49,53],.int .i64<|0,.int .i64<|10000],.int .i64<|0),
 (53,[.str [50,52,48],.int .i64<|1,.int .i64<|10000],.int .i64<|0),
 (53,[.str [50,48,48],.int .i64<|1,.int .i64<|10000],.int .i64<|0),
 (53,[.str [49,56,48],.int .i64<|1,.int .i64<|10000],.int .i64<|0),
 (53,[.str [49,54,48],.int .i64<|1,.int .i64<|10000],.int .i64<|0),
 (71,[Ar (150) 1],.tup [.str [49,53,48],.int .i64<|0])]
theorem AaS:A1 xR 1000 MB1=true:=by kernel_rfl
def MB2:CR:=[(71,[Ar (4240) 11],.tup [.str [52,50,52,48,47,49,49],.int .i64<|0]),
 (71,[Ar (9) 20],.tup [.str [57,47,50,48],.int .i64<|0]),
 (71,[Ar (82) 15],.tup [.str [56,50,47,49,53],.int .i64<|0]),
 (71,[Ar (447) 55],.tup [.str [52,52,55,47,53,53],.int .i64<|0]),
 (101,[Ar (1061) 120],Ar (44) 5),
 (71,[Ar (44) 5],.tup [.str [52,52,47,53],.int .i64<|0])]
theorem Aa1:A1 xR 1000 MB2=true:=by kernel_rfl
def MB3:CR:=[(66,[.int .i64 410],.bool false),
 (66,[.int .i64 150],.bool false),
 (133,[.agg [.int .i64 0,.int .i64 1]],.bool false),
 (133,[.agg [.int .i64 0,.int .i64 2]],.bool false),
 (133,[.agg [.int .i64 1,.int .i64 2]],.bool false),
 (51,[.bool false,.int .i64 8],.int .i64<|0),
 (51,[.bool false,.int .i64 9],.int .i64<|0),
 (51,[.bool false,.int .i64 3],.int .i64<|0),
 (51,[.bool false,.int .i64 5],.int .i64<|0),
 (51,[.bool false,.int .i64 12],.int .i64<|0),
 (51,[.bool false,.int .i64 2],.int .i64<|0),
 (51,[.bool false,.int .i64 10],.int .i64<|0),
 (63,[.int .i64 2,.int .i64 36],.int .i64<|0),
 (63,[.int .i64 1,.int .i64 8],.int .i64<|0),
 (63,[.int .i64 2,.int .i64 8],.int .i64<|0),
 (115,[Ar (1) 2],.int .i64<|1),
 (115,[Ar (1) 1],.int .i64<|1),
 (115,[Ar (2) 1],.int .i64<|1),
 (71,[Ar (5) 2],.tup [.str [53,47,50],.int .i64<|0]),
 (71,[Ar (-1) 1],.tup [.str [45,49],.int .i64<|0]),
 (71,[Ar (7) 2],.tup [.str [55,47,50],.int .i64<|0]),
 (101,[Ar (447) 55],Ar (81) 10),
 (71,[Ar (9) 10],.tup [.str [57,47,49,48],.int .i64<|0])]
theorem Abk:A1 xR 1000 MB3=true:=by kernel_rfl
def MB:CR:=(MB0++(MB1++(MB2++MB3)))
theorem sp2:LD prog (Ky xR 1000 MB):=RG Aa8 aK SO<|AO Aa2<|AO AaS<|AO Aa1 Abk
def S72:XN:=orS (Ky xR 1000 MB)<|Ky C7 1000 MA
theorem Aa3:LD prog S72:=Ty sp2 sp1
def C72:Ctx:=Yc C7 S72
theorem AaC:C72.Ok prog:=Vr ZK Aa3
theorem cR:Gy C72:=No LF _
end
end Go.Det
