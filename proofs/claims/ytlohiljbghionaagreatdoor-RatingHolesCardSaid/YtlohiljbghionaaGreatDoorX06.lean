import Derived.Test.YtlohiljbghionaaGreatDoorX05
/- A part of a proof; no law is stated here. -/
noncomputable section
namespace Go.Det
section
open Go.Proofs.Tryz (prog)
def As(n d:Int):V:=.agg [.int .i64 n,.nils,.int .i64 d,.nils]
def MA0:C1:=[(122,[.str [49,48]],.int .i64<|0),
 (55,[.str [49,48]],As (10) 1),
 (56,[As (10) 1,As (-10000) 1],.int .i64<|1),
 (56,[As (10) 1,As (10000) 1],.int .i64<| -1),
 (122,[.str [48]],.int .i64<|0),
 (55,[.str [48]],As (0) 1),
 (56,[As (0) 1,As (-10000) 1],.int .i64<|1),
 (56,[As (0) 1,As (10000) 1],.int .i64<| -1),
 (56,[As (0) 1,As (0) 1],.int .i64<|0)]
theorem AaZ:A3 C7 1000 MA0=true:=by kernel_rfl
def MA1:C1:=[(122,[.str [50,48]],.int .i64<|0),
 (55,[.str [50,48]],As (20) 1),
 (56,[As (20) 1,As (0) 1],.int .i64<|1),
 (56,[As (20) 1,As (10000) 1],.int .i64<| -1),
 (52,[.str [98,117,110,107,101,114]],.bool true),
 (52,[.str [119,97,116,101,114]],.bool true),
 (122,[.str [45,50,48]],.int .i64<|0),
 (55,[.str [45,50,48]],As (-20) 1),
 (56,[As (-20) 1,As (-10000) 1],.int .i64<|1)]
theorem Aaz:A3 C7 1000 MA1=true:=by kernel_rfl
def MA2:C1:=[(56,[As (-20) 1,As (10000) 1],.int .i64<| -1),
 (122,[.str [53]],.int .i64<|0),
 (55,[.str [53]],As (5) 1),
 (56,[As (5) 1,As (-10000) 1],.int .i64<|1),
 (56,[As (5) 1,As (10000) 1],.int .i64<| -1),
 (122,[.str [49,53]],.int .i64<|0),
 (55,[.str [49,53]],As (15) 1),
 (56,[As (15) 1,As (0) 1],.int .i64<|1),
 (56,[As (15) 1,As (10000) 1],.int .i64<| -1)]
theorem AaH:A3 C7 1000 MA2=true:=by kernel_rfl
def MA3:C1:=[(52,[.str [98,108,117,101]],.bool true),
 (52,[.str [115,99,114,97,116,99,104]],.bool true),
 (122,[.str [50,52,48]],.int .i64<|0),
 (55,[.str [50,52,48]],As (240) 1),
 (56,[As (240) 1,As (1) 1],.int .i64<|1),
 (56,[As (240) 1,As (10000) 1],.int .i64<| -1),
 (122,[.str [50,48,48]],.int .i64<|0),
 (55,[.str [50,48,48]],As (200) 1),
 (56,[As (200) 1,As (1) 1],.int .i64<|1)]
theorem Aax:A3 C7 1000 MA3=true:=by kernel_rfl
def MA4:C1:=[(56,[As (200) 1,As (10000) 1],.int .i64<| -1),
 (122,[.str [49,48,48]],.int .i64<|0),
 (122,[.str [51]],.int .i64<|0),
 (55,[.str [49,48,48]],As (100) 1),
 (55,[.str [51]],As (3) 1),
 (122,[.str [53,48,48]],.int .i64<|0),
 (55,[.str [53,48,48]],As (500) 1),
 (56,[As (500) 1,As (100) 1],.int .i64<|1),
 (56,[As (5) 1,As (3) 1],.int .i64<|1)]
theorem AbT:A3 C7 1000 MA4=true:=by kernel_rfl
def MA5:C1:=[(122,[.str [49,47,50]],.int .i64<|0),
 (55,[.str [49,47,50]],As (1) 2),
 (122,[.str [49]],.int .i64<|0),
 (55,[.str [49]],As (1) 1),
 (52,[.str [98,111,103,101,121]],.bool true),
 (122,[.str [49,56,48]],.int .i64<|0),
 (55,[.str [49,56,48]],As (180) 1),
 (56,[As (180) 1,As (1) 1],.int .i64<|1),
 (56,[As (180) 1,As (10000) 1],.int .i64<| -1)]
theorem Abz:A3 C7 1000 MA5=true:=by kernel_rfl
def MA6:C1:=[(122,[.str [49,54,48]],.int .i64<|0),
 (55,[.str [49,54,48]],As (160) 1),
 (56,[As (160) 1,As (1) 1],.int .i64<|1),
 (56,[As (160) 1,As (10000) 1],.int .i64<| -1),
 (122,[.str [54]],.int .i64<|0),
 (55,[.str [54]],As (6) 1),
 (56,[As (6) 1,As (3) 1],.int .i64<|1),
 (122,[.str [50]],.int .i64<|0),
 (55,[.str [50]],As (2) 1)]
theorem Ab3:A3 C7 1000 MA6=true:=by kernel_rfl
def MA7:C1:=[(75,[As (0) 1,As (-20) 1],As (-20) 1),
 (75,[As (-20) 1,As (5) 1],As (-15) 1),
 (75,[As (-15) 1,As (15) 1],As (0) 1),
 (75,[As (150) 1,As (0) 1],As (150) 1),
 (134,[As (150) 1],.bool false),
 (135,[As (150) 1],.str [49,53,48]),
 (75,[As (0) 1,As (10) 1],As (10) 1),
 (75,[As (10) 1,As (0) 1],As (10) 1),
 (75,[As (410) 1,As (10) 1],As (420) 1)]
theorem AaV:A3 C7 1000 MA7=true:=by kernel_rfl
def MA8:C1:=[(74,[As (420) 1,As (240) 1],As (180) 1),
 (75,[As (180) 1,As (200) 1],As (380) 1),
 (75,[As (200) 1,As (20) 1],As (220) 1),
 (76,[As (380) 1,As (220) 1],As (19) 11),
 (77,[As (19) 11],.agg [.int .i64<|2,.nils]),
 (75,[As (240) 1,As (20) 1],As (260) 1),
 (56,[As (420) 1,As (260) 1],.int .i64<|1),
 (74,[As (420) 1,As (260) 1],As (160) 1),
 (102,[As (160) 1,As (200) 1],As (32000) 1)]
theorem Abc:A3 C7 1000 MA8=true:=by kernel_rfl
def MA9:C1:=[(76,[As (32000) 1,As (220) 1],As (1600) 11),
 (75,[As (240) 1,As (1600) 11],As (4240) 11),
 (134,[As (4240) 11],.bool false),
 (135,[As (4240) 11],.str [52,50,52,48,47,49,49]),
 (140,[.agg [.int .i64<|5,.nils],.agg [.int .i64<|10,.nils]],As (1) 2),
 (102,[As (1) 2,As (1) 2],As (1) 4),
 (75,[As (0) 1,As (1) 4],As (1) 4),
 (140,[.agg [.int .i64<|2,.nils],.agg [.int .i64<|10,.nils]],As (1) 5),
 (102,[As (1) 1,As (1) 5],As (1) 5)]
theorem Abr:A3 C7 1000 MA9=true:=by kernel_rfl
def AdY:C1:=[(75,[As (1) 4,As (1) 5],As (9) 20),
 (134,[As (9) 20],.bool false),
 (135,[As (9) 20],.str [57,47,50,48]),
 (75,[As (180) 1,As (20) 1],As (200) 1),
 (56,[As (420) 1,As (200) 1],.int .i64<|1),
 (74,[As (420) 1,As (200) 1],As (220) 1),
 (102,[As (220) 1,As (160) 1],As (35200) 1),
 (75,[As (160) 1,As (20) 1],As (180) 1),
 (76,[As (35200) 1,As (180) 1],As (1760) 9)]
theorem rI:A3 C7 1000 AdY=true:=by kernel_rfl
def Aeb:C1:=[(75,[As (180) 1,As (1760) 9],As (3380) 9),
 (56,[As (3380) 9,As (100) 1],.int .i64<|1),
 (56,[As (3380) 9,As (500) 1],.int .i64<| -1),
 (74,[As (6) 1,As (3) 1],As (3) 1),
 (74,[As (3380) 9,As (100) 1],As (2480) 9),
 (102,[As (3) 1,As (2480) 9],As (2480) 3),
 (74,[As (500) 1,As (100) 1],As (400) 1),
 (76,[As (2480) 3,As (400) 1],As (31) 15),
 (75,[As (3) 1,As (31) 15],As (76) 15)]
theorem sD:A3 C7 1000 Aeb=true:=by kernel_rfl
def Adx:C1:=[(102,[As (2) 1,As (1) 5],As (2) 5),
 (75,[As (0) 1,As (2) 5],As (2) 5),
 (75,[As (76) 15,As (2) 5],As (82) 15),
 (134,[As (82) 15],.bool false),
 (135,[As (82) 15],.str [56,50,47,49,53]),
 (56,[As (4240) 11,As (100) 1],.int .i64<|1),
 (56,[As (4240) 11,As (500) 1],.int .i64<| -1),
 (74,[As (5) 1,As (3) 1],As (2) 1),
 (74,[As (4240) 11,As (100) 1],As (3140) 11)]
theorem tC:A3 C7 1000 Adx=true:=by kernel_rfl
def AdP:C1:=[(102,[As (2) 1,As (3140) 11],As (6280) 11),
 (76,[As (6280) 11,As (400) 1],As (157) 110),
 (75,[As (3) 1,As (157) 110],As (487) 110),
 (75,[As (487) 110,As (9) 20],As (1073) 220),
 (75,[As (240) 1,As (0) 1],As (240) 1),
 (56,[As (150) 1,As (240) 1],.int .i64<| -1),
 (102,[As (150) 1,As (240) 1],As (36000) 1),
 (76,[As (36000) 1,As (240) 1],As (150) 1),
 (56,[As (150) 1,As (100) 1],.int .i64<|1)]
theorem rR:A3 C7 1000 AdP=true:=by kernel_rfl
def AdK:C1:=[(56,[As (150) 1,As (500) 1],.int .i64<| -1),
 (74,[As (150) 1,As (100) 1],As (50) 1),
 (102,[As (2) 1,As (50) 1],As (100) 1),
 (76,[As (100) 1,As (400) 1],As (1) 4),
 (75,[As (3) 1,As (1) 4],As (13) 4),
 (75,[As (13) 4,As (0) 1],As (13) 4),
 (75,[As (0) 1,As (1073) 220],As (1073) 220),
 (75,[As (1073) 220,As (13) 4],As (447) 55),
 (134,[As (447) 55],.bool false)]
theorem sQ:A3 C7 1000 AdK=true:=by kernel_rfl
def AcU:C1:=[(135,[As (447) 55],.str [52,52,55,47,53,53]),
 (75,[As (180) 1,As (0) 1],As (180) 1),
 (56,[As (150) 1,As (180) 1],.int .i64<| -1),
 (102,[As (150) 1,As (180) 1],As (27000) 1),
 (76,[As (27000) 1,As (180) 1],As (150) 1),
 (102,[As (3) 1,As (50) 1],As (150) 1),
 (76,[As (150) 1,As (400) 1],As (3) 8),
 (75,[As (3) 1,As (3) 8],As (27) 8),
 (75,[As (27) 8,As (0) 1],As (27) 8)]
theorem tO:A3 C7 1000 AcU=true:=by kernel_rfl
def Adt:C1:=[(75,[As (0) 1,As (82) 15],As (82) 15),
 (75,[As (82) 15,As (27) 8],As (1061) 120),
 (102,[As (1061) 120,As (10) 1],As (1061) 12),
 (104,[As (1061) 12],.agg [.int .i64<|88,.nils]),
 (140,[.agg [.int .i64<|88,.nils],.agg [.int .i64<|10,.nils]],As (44) 5),
 (134,[As (44) 5],.bool false),
 (135,[As (44) 5],.str [52,52,47,53]),
 (74,[As (1061) 120,As (447) 55],As (943) 1320),
 (102,[As (943) 1320,As (5) 1],As (943) 264)]
theorem rL:A3 C7 1000 Adt=true:=by kernel_rfl
def AcR:C1:=[(104,[As (943) 264],.agg [.int .i64<|4,.nils]),
 (74,[As (82) 15,As (1073) 220],As (389) 660),
 (74,[As (27) 8,As (13) 4],As (1) 8),
 (56,[As (389) 660,As (389) 660],.int .i64<|0),
 (56,[As (389) 660,As (1) 8],.int .i64<|1),
 (56,[As (1) 8,As (389) 660],.int .i64<| -1),
 (56,[As (1) 8,As (1) 8],.int .i64<|0),
 (122,[.str [55]],.int .i64<|0),
 (75,[As (0) 1,As (1) 1],As (1) 1)]
theorem yK:A3 C7 1000 AcR=true:=by kernel_rfl
def AcQ:C1:=[(75,[As (1) 1,As (2) 1],As (3) 1),
 (75,[As (3) 1,As (3) 1],As (6) 1),
 (76,[As (6) 1,As (3) 1],As (2) 1),
 (55,[.str [55]],As (7) 1),
 (75,[As (0) 1,As (2) 1],As (2) 1),
 (75,[As (2) 1,As (3) 1],As (5) 1),
 (75,[As (5) 1,As (7) 1],As (12) 1),
 (76,[As (12) 1,As (3) 1],As (4) 1),
 (74,[As (1) 1,As (2) 1],As (-1) 1)]
theorem yG:A3 C7 1000 AcQ=true:=by kernel_rfl
def AcN:C1:=[(102,[As (-1) 1,As (-1) 1],As (1) 1),
 (74,[As (2) 1,As (2) 1],As (0) 1),
 (102,[As (0) 1,As (0) 1],As (0) 1),
 (74,[As (3) 1,As (2) 1],As (1) 1),
 (102,[As (1) 1,As (1) 1],As (1) 1),
 (75,[As (1) 1,As (0) 1],As (1) 1),
 (75,[As (1) 1,As (1) 1],As (2) 1),
 (74,[As (2) 1,As (4) 1],As (-2) 1),
 (102,[As (-1) 1,As (-2) 1],As (2) 1)]
theorem sK:A3 C7 1000 AcN=true:=by kernel_rfl
def AcS:C1:=[(74,[As (3) 1,As (4) 1],As (-1) 1),
 (102,[As (0) 1,As (-1) 1],As (0) 1),
 (74,[As (7) 1,As (4) 1],As (3) 1),
 (102,[As (1) 1,As (3) 1],As (3) 1),
 (75,[As (2) 1,As (0) 1],As (2) 1),
 (76,[As (5) 1,As (2) 1],As (5) 2),
 (134,[As (5) 2],.bool false),
 (135,[As (5) 2],.str [53,47,50]),
 (102,[As (5) 2,As (2) 1],As (5) 1)]
theorem sG:A3 C7 1000 AcS=true:=by kernel_rfl
def AcT:C1:=[(74,[As (4) 1,As (5) 1],As (-1) 1),
 (134,[As (-1) 1],.bool false),
 (135,[As (-1) 1],.str [45,49]),
 (122,[.str [52]],.int .i64<|0),
 (55,[.str [52]],As (4) 1),
 (56,[As (1) 1,As (4) 1],.int .i64<| -1),
 (56,[As (3) 1,As (4) 1],.int .i64<| -1),
 (56,[As (3) 1,As (1) 1],.int .i64<|1),
 (56,[As (10) 1,As (4) 1],.int .i64<|1)]
theorem xE:A3 C7 1000 AcT=true:=by kernel_rfl
def Ada:C1:=[(75,[As (3) 1,As (4) 1],As (7) 1),
 (76,[As (7) 1,As (2) 1],As (7) 2),
 (134,[As (7) 2],.bool false),
 (135,[As (7) 2],.str [55,47,50]),
 (56,[As (9) 1,As (8) 1],.int .i64<|1),
 (56,[As (9) 1,As (9) 1],.int .i64<|0),
 (75,[As (9) 1,As (9) 1],As (18) 1),
 (76,[As (18) 1,As (2) 1],As (9) 1),
 (102,[As (447) 55,As (10) 1],As (894) 11)]
theorem sN:A3 C7 1000 Ada=true:=by kernel_rfl
def Aem:C1:=[(104,[As (894) 11],.agg [.int .i64<|81,.nils]),
 (140,[.agg [.int .i64<|81,.nils],.agg [.int .i64<|10,.nils]],As (81) 10),
 (74,[As (9) 1,As (81) 10],As (9) 10),
 (134,[As (9) 10],.bool false),
 (135,[As (9) 10],.str [57,47,49,48])]
theorem uC:A3 C7 1000 Aem=true:=by kernel_rfl
def MA:C1:=(MA0++(MA1++(MA2++(MA3++(MA4++(MA5++(MA6++(MA7++(MA8++(MA9++(AdY++(Aeb++(Adx++(AdP++(AdK++(AcU++(Adt++(AcR++(AcQ++(AcN++(AcS++(AcT++(Ada++Aem)))))))))))))))))))))))
theorem sp1:Lg prog (KN C7 1000 MA):=SD aB ME Tk<|AO AaZ<|AO Aaz<|AO AaH<|AO Aax<|AO AbT<|AO Abz<|AO Ab3<|AO AaV<|AO Abc<|AO Abr<|AO rI<|AO sD<|AO tC<|AO rR<|AO sQ<|AO tO<|AO rL<|AO yK<|AO yG<|AO sK<|AO sG<|AO xE<|AO sN uC
def zP:Ctx:=aF C7<|KN C7 1000 MA
theorem Ab4:zP.Ok prog:=Vj aB sp1
theorem dK:G4 zP:=NC ME _
def MB0:C1:=[(53,[.str [49,48],.int .i64<| -10000,.int .i64<|10000],.int .i64<|0),
 (53,[.str [48],.int .i64<| -10000,.int .i64<|10000],.int .i64<|0),
 (53,[.str [48],.int .i64<|0,.int .i64<|10000],.int .i64<|0),
 (53,[.str [50,48],.int .i64<|0,.int .i64<|10000],.int .i64<|0),
 (53,[.str [45,50,48],.int .i64<| -10000,.int .i64<|10000],.int .i64<|0),
 (53,[.str [53],.int .i64<| -10000,.int .i64<|10000],.int .i64<|0)]
theorem Aa6:A3 zP 1000 MB0=true:=by kernel_rfl
def MB1:C1:=[(53,[.str [49,53],.int .i64<|0,.int .i64<|10000],.int .i64<|0),
 (53,[.str [50,52,48],.int .i64<|1,.int .i64<|10000],.int .i64<|0),
 (53,[.str [50,48,48],.int .i64<|1,.int .i64<|10000],.int .i64<|0),
 (53,[.str [49,56,48],.int .i64<|1,.int .i64<|10000],.int .i64<|0),
 (53,[.str [49,54,48],.int .i64<|1,.int .i64<|10000],.int .i64<|0),
 (71,[As (150) 1],.tup [.str [49,53,48],.int .i64<|0])]
theorem Ab7:A3 zP 1000 MB1=true:=by kernel_rfl
def MB2:C1:=[(71,[As (4240) 11],.tup [.str [52,50,52,48,47,49,49],.int .i64<|0]),
 (71,[As (9) 20],.tup [.str [57,47,50,48],.int .i64<|0]),
 (71,[As (82) 15],.tup [.str [56,50,47,49,53],.int .i64<|0]),
 (71,[As (447) 55],.tup [.str [52,52,55,47,53,53],.int .i64<|0]),
 (101,[As (1061) 120],As (44) 5),
 (71,[As (44) 5],.tup [.str [52,52,47,53],.int .i64<|0])]
theorem Aci:A3 zP 1000 MB2=true:=by kernel_rfl
def MB3:C1:=[(66,[.int .i64 410],.bool false),
 (66,[.int .i64 150],.bool false),
 (133,[.agg [.int .i64 0,.int .i64 1]],.bool false),
 (133,[.agg [.int .i64 0,.int .i64 2]],.bool false),
 (133,[.agg [.int .i64 1,.int .i64 2]],.bool false),
 (51,[.bool false,.int .i64 8],.int .i64<|0),
 (51,[.bool false,.int .i64 9],.int .i64<|0),
 (51,[.bool false,.int .i64 3],.int .i64<|0),
 (51,[.bool false,.int .i64 5],.int .i64<|0),
 (51,[.bool false,.int .i64 12],.int .i64<|0),
 (51,[.bool false,.int .i64 2],.int .i64<|0),
 (51,[.bool false,.int .i64 10],.int .i64<|0),
 (63,[.int .i64 2,.int .i64 36],.int .i64<|0),
 (63,[.int .i64 1,.int .i64 8],.int .i64<|0),
 (63,[.int .i64 2,.int .i64 8],.int .i64<|0),
 (115,[As (1) 2],.int .i64<|1),
 (115,[As (1) 1],.int .i64<|1),
 (115,[As (2) 1],.int .i64<|1),
 (71,[As (5) 2],.tup [.str [53,47,50],.int .i64<|0]),
 (71,[As (-1) 1],.tup [.str [45,49],.int .i64<|0]),
 (71,[As (7) 2],.tup [.str [55,47,50],.int .i64<|0]),
 (101,[As (447) 55],As (81) 10),
 (71,[As (9) 10],.tup [.str [57,47,49,48],.int .i64<|0])]
theorem Aa0:A3 zP 1000 MB3=true:=by kernel_rfl
def MB:C1:=(MB0++(MB1++(MB2++MB3)))
theorem sp2:Lg prog (KN zP 1000 MB):=SD Ab4 dK Tk<|AO Aa6<|AO Ab7<|AO Aci Aa0
def S72:Yn:=orS (KN zP 1000 MB)<|KN C7 1000 MA
theorem AbY:Lg prog S72:=Up sp2 sp1
def C72:Ctx:=aF C7 S72
theorem AaJ:C72.Ok prog:=Vj aB AbY
theorem cR:G4 C72:=NC ME _
end
end Go.Det
