import Derived.Test.YtlohiljbghionaaGreatDoorX04
import Derived.Test.YtlohiljbghionaaGreatDoorX05
/- A part of a proof (no law is stated here). Made by program out of texts by AI agents. -/
noncomputable section
namespace Go.Det
section
open Go.Proofs.Tryz (prog)
def Aq(n d:Int):V:=.agg [.int .i64 n,.nils,.int .i64 d,.nils]
def MA0:CX:=[(122,[.str [49,48]],.int .i64<|0),
 (55,[.str [49,48]],Aq (10) 1),
 (56,[Aq (10) 1,Aq (-10000) 1],.int .i64<|1),
 (56,[Aq (10) 1,Aq (10000) 1],.int .i64<| -1),
 (122,[.str [48]],.int .i64<|0),
 (55,[.str [48]],Aq (0) 1),
 (56,[Aq (0) 1,Aq (-10000) 1],.int .i64<|1),
 (56,[Aq (0) 1,Aq (10000) 1],.int .i64<| -1),
 (56,[Aq (0) 1,Aq (0) 1],.int .i64<|0)]
theorem Abc:A3 C7 1000 MA0=true:=by kernel_rfl
def MA1:CX:=[(122,[.str [50,48]],.int .i64<|0),
 (55,[.str [50,48]],Aq (20) 1),
 (56,[Aq (20) 1,Aq (0) 1],.int .i64<|1),
 (56,[Aq (20) 1,Aq (10000) 1],.int .i64<| -1),
 (52,[.str [98,117,110,107,101,114]],.bool true),
 (52,[.str [119,97,116,101,114]],.bool true),
 (122,[.str [45,50,48]],.int .i64<|0),
 (55,[.str [45,50,48]],Aq (-20) 1),
 (56,[Aq (-20) 1,Aq (-10000) 1],.int .i64<|1)]
theorem AbU:A3 C7 1000 MA1=true:=by kernel_rfl
def MA2:CX:=[(56,[Aq (-20) 1,Aq (10000) 1],.int .i64<| -1),
 (122,[.str [53]],.int .i64<|0),
 (55,[.str [53]],Aq (5) 1),
 (56,[Aq (5) 1,Aq (-10000) 1],.int .i64<|1),
 (56,[Aq (5) 1,Aq (10000) 1],.int .i64<| -1),
 (122,[.str [49,53]],.int .i64<|0),
 (55,[.str [49,53]],Aq (15) 1),
 (56,[Aq (15) 1,Aq (0) 1],.int .i64<|1),
 (56,[Aq (15) 1,Aq (10000) 1],.int .i64<| -1)]
theorem AaW:A3 C7 1000 MA2=true:=by kernel_rfl
def MA3:CX:=[(52,[.str [98,108,117,101]],.bool true),
 (52,[.str [115,99,114,97,116,99,104]],.bool true),
 (122,[.str [50,52,48]],.int .i64<|0),
 (55,[.str [50,52,48]],Aq (240) 1),
 (56,[Aq (240) 1,Aq (1) 1],.int .i64<|1),
 (56,[Aq (240) 1,Aq (10000) 1],.int .i64<| -1),
 (122,[.str [50,48,48]],.int .i64<|0),
 (55,[.str [50,48,48]],Aq (200) 1),
 (56,[Aq (200) 1,Aq (1) 1],.int .i64<|1)]
theorem Ab6:A3 C7 1000 MA3=true:=by kernel_rfl
def MA4:CX:=[(56,[Aq (200) 1,Aq (10000) 1],.int .i64<| -1),
 (122,[.str [49,48,48]],.int .i64<|0),
 (122,[.str [51]],.int .i64<|0),
 (55,[.str [49,48,48]],Aq (100) 1),
 (55,[.str [51]],Aq (3) 1),
 (122,[.str [53,48,48]],.int .i64<|0),
 (55,[.str [53,48,48]],Aq (500) 1),
 (56,[Aq (500) 1,Aq (100) 1],.int .i64<|1),
 (56,[Aq (5) 1,Aq (3) 1],.int .i64<|1)]
theorem Aca:A3 C7 1000 MA4=true:=by kernel_rfl
def MA5:CX:=[(122,[.str [49,47,50]],.int .i64<|0),
 (55,[.str [49,47,50]],Aq (1) 2),
 (122,[.str [49]],.int .i64<|0),
 (55,[.str [49]],Aq (1) 1),
 (52,[.str [98,111,103,101,121]],.bool true),
 (122,[.str [49,56,48]],.int .i64<|0),
 (55,[.str [49,56,48]],Aq (180) 1),
 (56,[Aq (180) 1,Aq (1) 1],.int .i64<|1),
 (56,[Aq (180) 1,Aq (10000) 1],.int .i64<| -1)]
theorem Aav:A3 C7 1000 MA5=true:=by kernel_rfl
def MA6:CX:=[(122,[.str [49,54,48]],.int .i64<|0),
 (55,[.str [49,54,48]],Aq (160) 1),
 (56,[Aq (160) 1,Aq (1) 1],.int .i64<|1),
 (56,[Aq (160) 1,Aq (10000) 1],.int .i64<| -1),
 (122,[.str [54]],.int .i64<|0),
 (55,[.str [54]],Aq (6) 1),
 (56,[Aq (6) 1,Aq (3) 1],.int .i64<|1),
 (122,[.str [50]],.int .i64<|0),
 (55,[.str [50]],Aq (2) 1)]
theorem AaC:A3 C7 1000 MA6=true:=by kernel_rfl
def MA7:CX:=[(75,[Aq (0) 1,Aq (-20) 1],Aq (-20) 1),
 (75,[Aq (-20) 1,Aq (5) 1],Aq (-15) 1),
 (75,[Aq (-15) 1,Aq (15) 1],Aq (0) 1),
 (75,[Aq (150) 1,Aq (0) 1],Aq (150) 1),
 (134,[Aq (150) 1],.bool false),
 (135,[Aq (150) 1],.str [49,53,48]),
 (75,[Aq (0) 1,Aq (10) 1],Aq (10) 1),
 (75,[Aq (10) 1,Aq (0) 1],Aq (10) 1),
 (75,[Aq (410) 1,Aq (10) 1],Aq (420) 1)]
theorem Abj:A3 C7 1000 MA7=true:=by kernel_rfl
def MA8:CX:=[(74,[Aq (420) 1,Aq (240) 1],Aq (180) 1),
 (75,[Aq (180) 1,Aq (200) 1],Aq (380) 1),
 (75,[Aq (200) 1,Aq (20) 1],Aq (220) 1),
 (76,[Aq (380) 1,Aq (220) 1],Aq (19) 11),
 (77,[Aq (19) 11],.agg [.int .i64<|2,.nils]),
 (75,[Aq (240) 1,Aq (20) 1],Aq (260) 1),
 (56,[Aq (420) 1,Aq (260) 1],.int .i64<|1),
 (74,[Aq (420) 1,Aq (260) 1],Aq (160) 1),
 (102,[Aq (160) 1,Aq (200) 1],Aq (32000) 1)]
theorem Aat:A3 C7 1000 MA8=true:=by kernel_rfl
def MA9:CX:=[(76,[Aq (32000) 1,Aq (220) 1],Aq (1600) 11),
 (75,[Aq (240) 1,Aq (1600) 11],Aq (4240) 11),
 (134,[Aq (4240) 11],.bool false),
 (135,[Aq (4240) 11],.str [52,50,52,48,47,49,49]),
 (140,[.agg [.int .i64<|5,.nils],.agg [.int .i64<|10,.nils]],Aq (1) 2),
 (102,[Aq (1) 2,Aq (1) 2],Aq (1) 4),
 (75,[Aq (0) 1,Aq (1) 4],Aq (1) 4),
 (140,[.agg [.int .i64<|2,.nils],.agg [.int .i64<|10,.nils]],Aq (1) 5),
 (102,[Aq (1) 1,Aq (1) 5],Aq (1) 5)]
theorem Abp:A3 C7 1000 MA9=true:=by kernel_rfl
def AdY:CX:=[(75,[Aq (1) 4,Aq (1) 5],Aq (9) 20),
 (134,[Aq (9) 20],.bool false),
 (135,[Aq (9) 20],.str [57,47,50,48]),
 (75,[Aq (180) 1,Aq (20) 1],Aq (200) 1),
 (56,[Aq (420) 1,Aq (200) 1],.int .i64<|1),
 (74,[Aq (420) 1,Aq (200) 1],Aq (220) 1),
 (102,[Aq (220) 1,Aq (160) 1],Aq (35200) 1),
 (75,[Aq (160) 1,Aq (20) 1],Aq (180) 1),
 (76,[Aq (35200) 1,Aq (180) 1],Aq (1760) 9)]
theorem xZ:A3 C7 1000 AdY=true:=by kernel_rfl
def Adk:CX:=[(75,[Aq (180) 1,Aq (1760) 9],Aq (3380) 9),
 (56,[Aq (3380) 9,Aq (100) 1],.int .i64<|1),
 (56,[Aq (3380) 9,Aq (500) 1],.int .i64<| -1),
 (74,[Aq (6) 1,Aq (3) 1],Aq (3) 1),
 (74,[Aq (3380) 9,Aq (100) 1],Aq (2480) 9),
 (102,[Aq (3) 1,Aq (2480) 9],Aq (2480) 3),
 (74,[Aq (500) 1,Aq (100) 1],Aq (400) 1),
 (76,[Aq (2480) 3,Aq (400) 1],Aq (31) 15),
 (75,[Aq (3) 1,Aq (31) 15],Aq (76) 15)]
theorem wO:A3 C7 1000 Adk=true:=by kernel_rfl
def Acq:CX:=[(102,[Aq (2) 1,Aq (1) 5],Aq (2) 5),
 (75,[Aq (0) 1,Aq (2) 5],Aq (2) 5),
 (75,[Aq (76) 15,Aq (2) 5],Aq (82) 15),
 (134,[Aq (82) 15],.bool false),
 (135,[Aq (82) 15],.str [56,50,47,49,53]),
 (56,[Aq (4240) 11,Aq (100) 1],.int .i64<|1),
 (56,[Aq (4240) 11,Aq (500) 1],.int .i64<| -1),
 (74,[Aq (5) 1,Aq (3) 1],Aq (2) 1),
 (74,[Aq (4240) 11,Aq (100) 1],Aq (3140) 11)]
theorem uO:A3 C7 1000 Acq=true:=by kernel_rfl
def Acu:CX:=[(102,[Aq (2) 1,Aq (3140) 11],Aq (6280) 11),
 (76,[Aq (6280) 11,Aq (400) 1],Aq (157) 110),
 (75,[Aq (3) 1,Aq (157) 110],Aq (487) 110),
 (75,[Aq (487) 110,Aq (9) 20],Aq (1073) 220),
 (75,[Aq (240) 1,Aq (0) 1],Aq (240) 1),
 (56,[Aq (150) 1,Aq (240) 1],.int .i64<| -1),
 (102,[Aq (150) 1,Aq (240) 1],Aq (36000) 1),
 (76,[Aq (36000) 1,Aq (240) 1],Aq (150) 1),
 (56,[Aq (150) 1,Aq (100) 1],.int .i64<|1)]
theorem uG:A3 C7 1000 Acu=true:=by kernel_rfl
def AdO:CX:=[(56,[Aq (150) 1,Aq (500) 1],.int .i64<| -1),
 (74,[Aq (150) 1,Aq (100) 1],Aq (50) 1),
 (102,[Aq (2) 1,Aq (50) 1],Aq (100) 1),
 (76,[Aq (100) 1,Aq (400) 1],Aq (1) 4),
 (75,[Aq (3) 1,Aq (1) 4],Aq (13) 4),
 (75,[Aq (13) 4,Aq (0) 1],Aq (13) 4),
 (75,[Aq (0) 1,Aq (1073) 220],Aq (1073) 220),
 (75,[Aq (1073) 220,Aq (13) 4],Aq (447) 55),
 (134,[Aq (447) 55],.bool false)]
theorem rE:A3 C7 1000 AdO=true:=by kernel_rfl
def AdB:CX:=[(135,[Aq (447) 55],.str [52,52,55,47,53,53]),
 (75,[Aq (180) 1,Aq (0) 1],Aq (180) 1),
 (56,[Aq (150) 1,Aq (180) 1],.int .i64<| -1),
 (102,[Aq (150) 1,Aq (180) 1],Aq (27000) 1),
 (76,[Aq (27000) 1,Aq (180) 1],Aq (150) 1),
 (102,[Aq (3) 1,Aq (50) 1],Aq (150) 1),
 (76,[Aq (150) 1,Aq (400) 1],Aq (3) 8),
 (75,[Aq (3) 1,Aq (3) 8],Aq (27) 8),
 (75,[Aq (27) 8,Aq (0) 1],Aq (27) 8)]
theorem tJ:A3 C7 1000 AdB=true:=by kernel_rfl
def AcN:CX:=[(75,[Aq (0) 1,Aq (82) 15],Aq (82) 15),
 (75,[Aq (82) 15,Aq (27) 8],Aq (1061) 120),
 (102,[Aq (1061) 120,Aq (10) 1],Aq (1061) 12),
 (104,[Aq (1061) 12],.agg [.int .i64<|88,.nils]),
 (140,[.agg [.int .i64<|88,.nils],.agg [.int .i64<|10,.nils]],Aq (44) 5),
 (134,[Aq (44) 5],.bool false),
 (135,[Aq (44) 5],.str [52,52,47,53]),
 (74,[Aq (1061) 120,Aq (447) 55],Aq (943) 1320),
 (102,[Aq (943) 1320,Aq (5) 1],Aq (943) 264)]
theorem vV:A3 C7 1000 AcN=true:=by kernel_rfl
def Ac3:CX:=[(104,[Aq (943) 264],.agg [.int .i64<|4,.nils]),
 (74,[Aq (82) 15,Aq (1073) 220],Aq (389) 660),
 (74,[Aq (27) 8,Aq (13) 4],Aq (1) 8),
 (56,[Aq (389) 660,Aq (389) 660],.int .i64<|0),
 (56,[Aq (389) 660,Aq (1) 8],.int .i64<|1),
 (56,[Aq (1) 8,Aq (389) 660],.int .i64<| -1),
 (56,[Aq (1) 8,Aq (1) 8],.int .i64<|0),
 (122,[.str [55]],.int .i64<|0),
 (75,[Aq (0) 1,Aq (1) 1],Aq (1) 1)]
theorem xJ:A3 C7 1000 Ac3=true:=by kernel_rfl
def Ac5:CX:=[(75,[Aq (1) 1,Aq (2) 1],Aq (3) 1),
 (75,[Aq (3) 1,Aq (3) 1],Aq (6) 1),
 (76,[Aq (6) 1,Aq (3) 1],Aq (2) 1),
 (55,[.str [55]],Aq (7) 1),
 (75,[Aq (0) 1,Aq (2) 1],Aq (2) 1),
 (75,[Aq (2) 1,Aq (3) 1],Aq (5) 1),
 (75,[Aq (5) 1,Aq (7) 1],Aq (12) 1),
 (76,[Aq (12) 1,Aq (3) 1],Aq (4) 1),
 (74,[Aq (1) 1,Aq (2) 1],Aq (-1) 1)]
theorem sQ:A3 C7 1000 Ac5=true:=by kernel_rfl
def Acs:CX:=[(102,[Aq (-1) 1,Aq (-1) 1],Aq (1) 1),
 (74,[Aq (2) 1,Aq (2) 1],Aq (0) 1),
 (102,[Aq (0) 1,Aq (0) 1],Aq (0) 1),
 (74,[Aq (3) 1,Aq (2) 1],Aq (1) 1),
 (102,[Aq (1) 1,Aq (1) 1],Aq (1) 1),
 (75,[Aq (1) 1,Aq (0) 1],Aq (1) 1),
 (75,[Aq (1) 1,Aq (1) 1],Aq (2) 1),
 (74,[Aq (2) 1,Aq (4) 1],Aq (-2) 1),
 (102,[Aq (-1) 1,Aq (-2) 1],Aq (2) 1)]
theorem wP:A3 C7 1000 Acs=true:=by kernel_rfl
def Ad5:CX:=[(74,[Aq (3) 1,Aq (4) 1],Aq (-1) 1),
 (102,[Aq (0) 1,Aq (-1) 1],Aq (0) 1),
 (74,[Aq (7) 1,Aq (4) 1],Aq (3) 1),
 (102,[Aq (1) 1,Aq (3) 1],Aq (3) 1),
 (75,[Aq (2) 1,Aq (0) 1],Aq (2) 1),
 (76,[Aq (5) 1,Aq (2) 1],Aq (5) 2),
 (134,[Aq (5) 2],.bool false),
 (135,[Aq (5) 2],.str [53,47,50]),
 (102,[Aq (5) 2,Aq (2) 1],Aq (5) 1)]
theorem uJ:A3 C7 1000 Ad5=true:=by kernel_rfl
def Adu:CX:=[(74,[Aq (4) 1,Aq (5) 1],Aq (-1) 1),
 (134,[Aq (-1) 1],.bool false),
 (135,[Aq (-1) 1],.str [45,49]),
 (122,[.str [52]],.int .i64<|0),
 (55,[.str [52]],Aq (4) 1),
 (56,[Aq (1) 1,Aq (4) 1],.int .i64<| -1),
 (56,[Aq (3) 1,Aq (4) 1],.int .i64<| -1),
 (56,[Aq (3) 1,Aq (1) 1],.int .i64<|1),
 (56,[Aq (10) 1,Aq (4) 1],.int .i64<|1)]
theorem yA:A3 C7 1000 Adu=true:=by kernel_rfl
def Acr:CX:=[(75,[Aq (3) 1,Aq (4) 1],Aq (7) 1),
 (76,[Aq (7) 1,Aq (2) 1],Aq (7) 2),
 (134,[Aq (7) 2],.bool false),
 (135,[Aq (7) 2],.str [55,47,50]),
 (56,[Aq (9) 1,Aq (8) 1],.int .i64<|1),
 (56,[Aq (9) 1,Aq (9) 1],.int .i64<|0),
 (75,[Aq (9) 1,Aq (9) 1],Aq (18) 1),
 (76,[Aq (18) 1,Aq (2) 1],Aq (9) 1),
 (102,[Aq (447) 55,Aq (10) 1],Aq (894) 11)]
theorem qW:A3 C7 1000 Acr=true:=by kernel_rfl
def AcZ:CX:=[(104,[Aq (894) 11],.agg [.int .i64<|81,.nils]),
 (140,[.agg [.int .i64<|81,.nils],.agg [.int .i64<|10,.nils]],Aq (81) 10),
 (74,[Aq (9) 1,Aq (81) 10],Aq (9) 10),
 (134,[Aq (9) 10],.bool false),
 (135,[Aq (9) 10],.str [57,47,49,48])]
theorem sE:A3 C7 1000 AcZ=true:=by kernel_rfl
def MA:CX:=(MA0++(MA1++(MA2++(MA3++(MA4++(MA5++(MA6++(MA7++(MA8++(MA9++(AdY++(Adk++(Acq++(Acu++(AdO++(AdB++(AcN++(Ac3++(Ac5++(Acs++(Ad5++(Adu++(Acr++AcZ)))))))))))))))))))))))
theorem sp1:LI prog (Kw C7 1000 MA):=Ru ZR LL Sw<|AO Abc<|AO AbU<|AO AaW<|AO Ab6<|AO Aca<|AO Aav<|AO AaC<|AO Abj<|AO Aat<|AO Abp<|AO xZ<|AO wO<|AO uO<|AO uG<|AO rE<|AO tJ<|AO vV<|AO xJ<|AO sQ<|AO wP<|AO uJ<|AO yA<|AO qW sE
def zR:Ctx:=aB C7<|Kw C7 1000 MA
theorem AbH:zR.Ok prog:=VI ZR sp1
theorem bH:G0 zR:=NF LL _
def MB0:CX:=[(53,[.str [49,48],.int .i64<| -10000,.int .i64<|10000],.int .i64<|0),
 (53,[.str [48],.int .i64<| -10000,.int .i64<|10000],.int .i64<|0),
 (53,[.str [48],.int .i64<|0,.int .i64<|10000],.int .i64<|0),
 (53,[.str [50,48],.int .i64<|0,.int .i64<|10000],.int .i64<|0),
 (53,[.str [45,50,48],.int .i64<| -10000,.int .i64<|10000],.int .i64<|0),
 (53,[.str [53],.int .i64<| -10000,.int .i64<|10000],.int .i64<|0)]
theorem AbL:A3 zR 1000 MB0=true:=by kernel_rfl
def MB1:CX:=[(53,[.str [49,53],.int .i64<|0,.int .i64<|10000],.int .i64<|0),
 (53,[.str [50,52,48],.int .i64<|1,.int .i64<|10000],.int .i64<|0),
 (53,[.str [50,48,48],.int .i64<|1,.int .i64<|10000],.int .i64<|0),
 (53,[.str [49,56,48],.int .i64<|1,.int .i64<|10000],.int .i64<|0),
 (53,[.str [49,54,48],.int .i64<|1,.int .i64<|10000],.int .i64<|0),
 (71,[Aq (150) 1],.tup [.str [49,53,48],.int .i64<|0])]
theorem Abz:A3 zR 1000 MB1=true:=by kernel_rfl
def MB2:CX:=[(71,[Aq (4240) 11],.tup [.str [52,50,52,48,47,49,49],.int .i64<|0]),
 (71,[Aq (9) 20],.tup [.str [57,47,50,48],.int .i64<|0]),
 (71,[Aq (82) 15],.tup [.str [56,50,47,49,53],.int .i64<|0]),
 (71,[Aq (447) 55],.tup [.str [52,52,55,47,53,53],.int .i64<|0]),
 (101,[Aq (1061) 120],Aq (44) 5),
 (71,[Aq (44) 5],.tup [.str [52,52,47,53],.int .i64<|0])]
theorem Abu:A3 zR 1000 MB2=true:=by kernel_rfl
def MB3:CX:=[(71,[Aq (5) 2],.tup [.str [53,47,50],.int .i64<|0]),
 (71,[Aq (-1) 1],.tup [.str [45,49],.int .i64<|0]),
 (71,[Aq (7) 2],.tup [.str [55,47,50],.int .i64<|0]),
 (101,[Aq (447) 55],Aq (81) 10),
 (71,[Aq (9) 10],.tup [.str [57,47,49,48],.int .i64<|0])]
theorem Abk:A3 zR 1000 MB3=true:=by kernel_rfl
def MB:CX:=(MB0++(MB1++(MB2++MB3)))
theorem sp2:LI prog (Kw zR 1000 MB):=Ru AbH bH Sw<|AO AbL<|AO Abz<|AO Abu Abk
def S72:X5:=orS (Kw zR 1000 MB)<|Kw C7 1000 MA
theorem AaT:LI prog S72:=Tm sp2 sp1
def C72:Ctx:=aB C7 S72
theorem Abf:C72.Ok prog:=VI ZR AaT
theorem eT:G0 C72:=NF LL _
end
end Go.Det
