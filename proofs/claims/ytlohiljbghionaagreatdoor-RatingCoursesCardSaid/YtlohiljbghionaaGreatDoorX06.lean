import Derived.Test.YtlohiljbghionaaGreatDoorX04
import Derived.Test.YtlohiljbghionaaGreatDoorX05
/- A part of a proof (no law is stated here). Made by program out of texts by AI agents. -/
noncomputable section
namespace Go.Det
section
open Go.Proofs.Tryz (prog)
def Ak(n d:Int):V:=.agg [.int .i64 n,.nils,.int .i64 d,.nils]
def yH:Cy:=[(122,[.str [49,48]],.int .i64<|0),
 (55,[.str [49,48]],Ak (10) 1),
 (56,[Ak (10) 1,Ak (-10000) 1],.int .i64<|1),
 (56,[Ak (10) 1,Ak (10000) 1],.int .i64<| -1),
 (122,[.str [48]],.int .i64<|0),
 (55,[.str [48]],Ak (0) 1),
 (56,[Ak (0) 1,Ak (-10000) 1],.int .i64<|1),
 (56,[Ak (0) 1,Ak (10000) 1],.int .i64<| -1),
 (56,[Ak (0) 1,Ak (0) 1],.int .i64<|0)]
theorem oZ:AS C7 1000 yH=true:=by kernel_rfl
def yL:Cy:=[(122,[.str [50,48]],.int .i64<|0),
 (55,[.str [50,48]],Ak (20) 1),
 (56,[Ak (20) 1,Ak (0) 1],.int .i64<|1),
 (56,[Ak (20) 1,Ak (10000) 1],.int .i64<| -1),
 (52,[.str [98,117,110,107,101,114]],.bool true),
 (52,[.str [119,97,116,101,114]],.bool true),
 (122,[.str [45,50,48]],.int .i64<|0),
 (55,[.str [45,50,48]],Ak (-20) 1),
 (56,[Ak (-20) 1,Ak (-10000) 1],.int .i64<|1)]
theorem qO:AS C7 1000 yL=true:=by kernel_rfl
def yE:Cy:=[(56,[Ak (-20) 1,Ak (10000) 1],.int .i64<| -1),
 (122,[.str [53]],.int .i64<|0),
 (55,[.str [53]],Ak (5) 1),
 (56,[Ak (5) 1,Ak (-10000) 1],.int .i64<|1),
 (56,[Ak (5) 1,Ak (10000) 1],.int .i64<| -1),
 (122,[.str [49,53]],.int .i64<|0),
 (55,[.str [49,53]],Ak (15) 1),
 (56,[Ak (15) 1,Ak (0) 1],.int .i64<|1),
 (56,[Ak (15) 1,Ak (10000) 1],.int .i64<| -1)]
theorem rA:AS C7 1000 yE=true:=by kernel_rfl
def yN:Cy:=[(52,[.str [98,108,117,101]],.bool true),
 (52,[.str [115,99,114,97,116,99,104]],.bool true),
 (122,[.str [50,52,48]],.int .i64<|0),
 (55,[.str [50,52,48]],Ak (240) 1),
 (56,[Ak (240) 1,Ak (1) 1],.int .i64<|1),
 (56,[Ak (240) 1,Ak (10000) 1],.int .i64<| -1),
 (122,[.str [50,48,48]],.int .i64<|0),
 (55,[.str [50,48,48]],Ak (200) 1),
 (56,[Ak (200) 1,Ak (1) 1],.int .i64<|1)]
theorem qM:AS C7 1000 yN=true:=by kernel_rfl
def xR:Cy:=[(56,[Ak (200) 1,Ak (10000) 1],.int .i64<| -1),
 (122,[.str [49,48,48]],.int .i64<|0),
 (122,[.str [51]],.int .i64<|0),
 (55,[.str [49,48,48]],Ak (100) 1),
 (55,[.str [51]],Ak (3) 1),
 (122,[.str [53,48,48]],.int .i64<|0),
 (55,[.str [53,48,48]],Ak (500) 1),
 (56,[Ak (500) 1,Ak (100) 1],.int .i64<|1),
 (56,[Ak (5) 1,Ak (3) 1],.int .i64<|1)]
theorem oA:AS C7 1000 xR=true:=by kernel_rfl
def xM:Cy:=[(122,[.str [49,47,50]],.int .i64<|0),
 (55,[.str [49,47,50]],Ak (1) 2),
 (122,[.str [49]],.int .i64<|0),
 (55,[.str [49]],Ak (1) 1),
 (52,[.str [98,111,103,101,121]],.bool true),
 (122,[.str [49,56,48]],.int .i64<|0),
 (55,[.str [49,56,48]],Ak (180) 1),
 (56,[Ak (180) 1,Ak (1) 1],.int .i64<|1),
 (56,[Ak (180) 1,Ak (10000) 1],.int .i64<| -1)]
theorem pT:AS C7 1000 xM=true:=by kernel_rfl
def yM:Cy:=[(122,[.str [49,54,48]],.int .i64<|0),
 (55,[.str [49,54,48]],Ak (160) 1),
 (56,[Ak (160) 1,Ak (1) 1],.int .i64<|1),
 (56,[Ak (160) 1,Ak (10000) 1],.int .i64<| -1),
 (122,[.str [54]],.int .i64<|0),
 (55,[.str [54]],Ak (6) 1),
 (56,[Ak (6) 1,Ak (3) 1],.int .i64<|1),
 (122,[.str [50]],.int .i64<|0),
 (55,[.str [50]],Ak (2) 1)]
theorem nX:AS C7 1000 yM=true:=by kernel_rfl
def xP:Cy:=[(75,[Ak (0) 1,Ak (-20) 1],Ak (-20) 1),
 (75,[Ak (-20) 1,Ak (5) 1],Ak (-15) 1),
 (75,[Ak (-15) 1,Ak (15) 1],Ak (0) 1),
 (75,[Ak (150) 1,Ak (0) 1],Ak (150) 1),
 (134,[Ak (150) 1],.bool false),
 (135,[Ak (150) 1],.str [49,53,48]),
 (75,[Ak (0) 1,Ak (10) 1],Ak (10) 1),
 (75,[Ak (10) 1,Ak (0) 1],Ak (10) 1),
 (75,[Ak (410) 1,Ak (10) 1],Ak (420) 1)]
theorem oJ:AS C7 1000 xP=true:=by kernel_rfl
def yP:Cy:=[(74,[Ak (420) 1,Ak (240) 1],Ak (180) 1),
 (75,[Ak (180) 1,Ak (200) 1],Ak (380) 1),
 (75,[Ak (200) 1,Ak (20) 1],Ak (220) 1),
 (76,[Ak (380) 1,Ak (220) 1],Ak (19) 11),
 (77,[Ak (19) 11],.agg [.int .i64<|2,.nils]),
 (75,[Ak (240) 1,Ak (20) 1],Ak (260) 1),
 (56,[Ak (420) 1,Ak (260) 1],.int .i64<|1),
 (74,[Ak (420) 1,Ak (260) 1],Ak (160) 1),
 (102,[Ak (160) 1,Ak (200) 1],Ak (32000) 1)]
theorem pJ:AS C7 1000 yP=true:=by kernel_rfl
def yT:Cy:=[(76,[Ak (32000) 1,Ak (220) 1],Ak (1600) 11),
 (75,[Ak (240) 1,Ak (1600) 11],Ak (4240) 11),
 (134,[Ak (4240) 11],.bool false),
 (135,[Ak (4240) 11],.str [52,50,52,48,47,49,49]),
 (140,[.agg [.int .i64<|5,.nils],.agg [.int .i64<|10,.nils]],Ak (1) 2),
 (102,[Ak (1) 2,Ak (1) 2],Ak (1) 4),
 (75,[Ak (0) 1,Ak (1) 4],Ak (1) 4),
 (140,[.agg [.int .i64<|2,.nils],.agg [.int .i64<|10,.nils]],Ak (1) 5),
 (102,[Ak (1) 1,Ak (1) 5],Ak (1) 5)]
theorem qY:AS C7 1000 yT=true:=by kernel_rfl
def sZ:Cy:=[(75,[Ak (1) 4,Ak (1) 5],Ak (9) 20),
 (134,[Ak (9) 20],.bool false),
 (135,[Ak (9) 20],.str [57,47,50,48]),
 (75,[Ak (180) 1,Ak (20) 1],Ak (200) 1),
 (56,[Ak (420) 1,Ak (200) 1],.int .i64<|1),
 (74,[Ak (420) 1,Ak (200) 1],Ak (220) 1),
 (102,[Ak (220) 1,Ak (160) 1],Ak (35200) 1),
 (75,[Ak (160) 1,Ak (20) 1],Ak (180) 1),
 (76,[Ak (35200) 1,Ak (180) 1],Ak (1760) 9)]
theorem lF:AS C7 1000 sZ=true:=by kernel_rfl
def uI:Cy:=[(75,[Ak (180) 1,Ak (1760) 9],Ak (3380) 9),
 (56,[Ak (3380) 9,Ak (100) 1],.int .i64<|1),
 (56,[Ak (3380) 9,Ak (500) 1],.int .i64<| -1),
 (74,[Ak (6) 1,Ak (3) 1],Ak (3) 1),
 (74,[Ak (3380) 9,Ak (100) 1],Ak (2480) 9),
 (102,[Ak (3) 1,Ak (2480) 9],Ak (2480) 3),
 (74,[Ak (500) 1,Ak (100) 1],Ak (400) 1),
 (76,[Ak (2480) 3,Ak (400) 1],Ak (31) 15),
 (75,[Ak (3) 1,Ak (31) 15],Ak (76) 15)]
theorem jX:AS C7 1000 uI=true:=by kernel_rfl
def sU:Cy:=[(102,[Ak (2) 1,Ak (1) 5],Ak (2) 5),
 (75,[Ak (0) 1,Ak (2) 5],Ak (2) 5),
 (75,[Ak (76) 15,Ak (2) 5],Ak (82) 15),
 (134,[Ak (82) 15],.bool false),
 (135,[Ak (82) 15],.str [56,50,47,49,53]),
 (56,[Ak (4240) 11,Ak (100) 1],.int .i64<|1),
 (56,[Ak (4240) 11,Ak (500) 1],.int .i64<| -1),
 (74,[Ak (5) 1,Ak (3) 1],Ak (2) 1),
 (74,[Ak (4240) 11,Ak (100) 1],Ak (3140) 11)]
theorem jR:AS C7 1000 sU=true:=by kernel_rfl
def uG:Cy:=[(102,[Ak (2) 1,Ak (3140) 11],Ak (6280) 11),
 (76,[Ak (6280) 11,Ak (400) 1],Ak (157) 110),
 (75,[Ak (3) 1,Ak (157) 110],Ak (487) 110),
 (75,[Ak (487) 110,Ak (9) 20],Ak (1073) 220),
 (75,[Ak (240) 1,Ak (0) 1],Ak (240) 1),
 (56,[Ak (150) 1,Ak (240) 1],.int .i64<| -1),
 (102,[Ak (150) 1,Ak (240) 1],Ak (36000) 1),
 (76,[Ak (36000) 1,Ak (240) 1],Ak (150) 1),
 (56,[Ak (150) 1,Ak (100) 1],.int .i64<|1)]
theorem lM:AS C7 1000 uG=true:=by kernel_rfl
def sT:Cy:=[(56,[Ak (150) 1,Ak (500) 1],.int .i64<| -1),
 (74,[Ak (150) 1,Ak (100) 1],Ak (50) 1),
 (102,[Ak (2) 1,Ak (50) 1],Ak (100) 1),
 (76,[Ak (100) 1,Ak (400) 1],Ak (1) 4),
 (75,[Ak (3) 1,Ak (1) 4],Ak (13) 4),
 (75,[Ak (13) 4,Ak (0) 1],Ak (13) 4),
 (75,[Ak (0) 1,Ak (1073) 220],Ak (1073) 220),
 (75,[Ak (1073) 220,Ak (13) 4],Ak (447) 55),
 (134,[Ak (447) 55],.bool false)]
theorem iE:AS C7 1000 sT=true:=by kernel_rfl
def uM:Cy:=[(135,[Ak (447) 55],.str [52,52,55,47,53,53]),
 (75,[Ak (180) 1,Ak (0) 1],Ak (180) 1),
 (56,[Ak (150) 1,Ak (180) 1],.int .i64<| -1),
 (102,[Ak (150) 1,Ak (180) 1],Ak (27000) 1),
 (76,[Ak (27000) 1,Ak (180) 1],Ak (150) 1),
 (102,[Ak (3) 1,Ak (50) 1],Ak (150) 1),
 (76,[Ak (150) 1,Ak (400) 1],Ak (3) 8),
 (75,[Ak (3) 1,Ak (3) 8],Ak (27) 8),
 (75,[Ak (27) 8,Ak (0) 1],Ak (27) 8)]
theorem fP:AS C7 1000 uM=true:=by kernel_rfl
def sM:Cy:=[(75,[Ak (0) 1,Ak (82) 15],Ak (82) 15),
 (75,[Ak (82) 15,Ak (27) 8],Ak (1061) 120),
 (102,[Ak (1061) 120,Ak (10) 1],Ak (1061) 12),
 (104,[Ak (1061) 12],.agg [.int .i64<|88,.nils]),
 (140,[.agg [.int .i64<|88,.nils],.agg [.int .i64<|10,.nils]],Ak (44) 5),
 (134,[Ak (44) 5],.bool false),
 (135,[Ak (44) 5],.str [52,52,47,53]),
 (74,[Ak (1061) 120,Ak (447) 55],Ak (943) 1320),
 (102,[Ak (943) 1320,Ak (5) 1],Ak (943) 264)]
theorem eP:AS C7 1000 sM=true:=by kernel_rfl
def sQ:Cy:=[(104,[Ak (943) 264],.agg [.int .i64<|4,.nils]),
 (74,[Ak (82) 15,Ak (1073) 220],Ak (389) 660),
 (74,[Ak (27) 8,Ak (13) 4],Ak (1) 8),
 (56,[Ak (389) 660,Ak (389) 660],.int .i64<|0),
 (56,[Ak (389) 660,Ak (1) 8],.int .i64<|1),
 (56,[Ak (1) 8,Ak (389) 660],.int .i64<| -1),
 (56,[Ak (1) 8,Ak (1) 8],.int .i64<|0),
 (122,[.str [55]],.int .i64<|0),
 (75,[Ak (0) 1,Ak (1) 1],Ak (1) 1)]
theorem iK:AS C7 1000 sQ=true:=by kernel_rfl
def uJ:Cy:=[(75,[Ak (1) 1,Ak (2) 1],Ak (3) 1),
 (75,[Ak (3) 1,Ak (3) 1],Ak (6) 1),
 (76,[Ak (6) 1,Ak (3) 1],Ak (2) 1),
 (55,[.str [55]],Ak (7) 1),
 (75,[Ak (0) 1,Ak (2) 1],Ak (2) 1),
 (75,[Ak (2) 1,Ak (3) 1],Ak (5) 1),
 (75,[Ak (5) 1,Ak (7) 1],Ak (12) 1),
 (76,[Ak (12) 1,Ak (3) 1],Ak (4) 1),
 (74,[Ak (1) 1,Ak (2) 1],Ak (-1) 1)]
theorem eU:AS C7 1000 uJ=true:=by kernel_rfl
def uL:Cy:=[(102,[Ak (-1) 1,Ak (-1) 1],Ak (1) 1),
 (74,[Ak (2) 1,Ak (2) 1],Ak (0) 1),
 (102,[Ak (0) 1,Ak (0) 1],Ak (0) 1),
 (74,[Ak (3) 1,Ak (2) 1],Ak (1) 1),
 (102,[Ak (1) 1,Ak (1) 1],Ak (1) 1),
 (75,[Ak (1) 1,Ak (0) 1],Ak (1) 1),
 (75,[Ak (1) 1,Ak (1) 1],Ak (2) 1),
 (74,[Ak (2) 1,Ak (4) 1],Ak (-2) 1),
 (102,[Ak (-1) 1,Ak (-2) 1],Ak (2) 1)]
theorem lC:AS C7 1000 uL=true:=by kernel_rfl
def tN:Cy:=[(74,[Ak (3) 1,Ak (4) 1],Ak (-1) 1),
 (102,[Ak (0) 1,Ak (-1) 1],Ak (0) 1),
 (74,[Ak (7) 1,Ak (4) 1],Ak (3) 1),
 (102,[Ak (1) 1,Ak (3) 1],Ak (3) 1),
 (75,[Ak (2) 1,Ak (0) 1],Ak (2) 1),
 (76,[Ak (5) 1,Ak (2) 1],Ak (5) 2),
 (134,[Ak (5) 2],.bool false),
 (135,[Ak (5) 2],.str [53,47,50]),
 (102,[Ak (5) 2,Ak (2) 1],Ak (5) 1)]
theorem eZ:AS C7 1000 tN=true:=by kernel_rfl
def tQ:Cy:=[(74,[Ak (4) 1,Ak (5) 1],Ak (-1) 1),
 (134,[Ak (-1) 1],.bool false),
 (135,[Ak (-1) 1],.str [45,49]),
 (122,[.str [52]],.int .i64<|0),
 (55,[.str [52]],Ak (4) 1),
 (56,[Ak (1) 1,Ak (4) 1],.int .i64<| -1),
 (56,[Ak (3) 1,Ak (4) 1],.int .i64<| -1),
 (56,[Ak (3) 1,Ak (1) 1],.int .i64<|1),
 (56,[Ak (10) 1,Ak (4) 1],.int .i64<|1)]
theorem fY:AS C7 1000 tQ=true:=by kernel_rfl
def uO:Cy:=[(75,[Ak (3) 1,Ak (4) 1],Ak (7) 1),
 (76,[Ak (7) 1,Ak (2) 1],Ak (7) 2),
 (134,[Ak (7) 2],.bool false),
 (135,[Ak (7) 2],.str [55,47,50]),
 (56,[Ak (9) 1,Ak (8) 1],.int .i64<|1),
 (56,[Ak (9) 1,Ak (9) 1],.int .i64<|0),
 (75,[Ak (9) 1,Ak (9) 1],Ak (18) 1),
 (76,[Ak (18) 1,Ak (2) 1],Ak (9) 1),
 (102,[Ak (447) 55,Ak (10) 1],Ak (894) 11)]
theorem jU:AS C7 1000 uO=true:=by kernel_rfl
def uH:Cy:=[(104,[Ak (894) 11],.agg [.int .i64<|81,.nils]),
 (140,[.agg [.int .i64<|81,.nils],.agg [.int .i64<|10,.nils]],Ak (81) 10),
 (74,[Ak (9) 1,Ak (81) 10],Ak (9) 10),
 (134,[Ak (9) 10],.bool false),
 (135,[Ak (9) 10],.str [57,47,49,48])]
theorem kE:AS C7 1000 uH=true:=by kernel_rfl
def MA:Cy:=(yH++(yL++(yE++(yN++(xR++(xM++(yM++(xP++(yP++(yT++(sZ++(uI++(sU++(uG++(sT++(uM++(sM++(sQ++(uJ++(uL++(tN++(tQ++(uO++uH)))))))))))))))))))))))
theorem xI:JQ prog (Jx C7 1000 MA):=PF WM JP Ri<|AF oZ<|AF qO<|AF rA<|AF qM<|AF oA<|AF pT<|AF nX<|AF oJ<|AF pJ<|AF qY<|AF lF<|AF jX<|AF jR<|AF lM<|AF iE<|AF fP<|AF eP<|AF iK<|AF eU<|AF lC<|AF eZ<|AF fY<|AF jU kE
def mF:Ctx:=Vi C7<|Jx C7 1000 MA
theorem nK:mF.Ok prog:=R8 WM xI
theorem Xn:FI mF:=LJ JP _
def xK:Cy:=[(53,[.str [49,48],.int .i64<| -10000,.int .i64<|10000],.int .i64<|0),
 (53,[.str [48],.int .i64<| -10000,.int .i64<|10000],.int .i64<|0),
 (53,[.str [48],.int .i64<|0,.int .i64<|10000],.int .i64<|0),
 (53,[.str [50,48],.int .i64<|0,.int .i64<|10000],.int .i64<|0),
 (53,[.str [45,50,48],.int .i64<| -10000,.int .i64<|10000],.int .i64<|0),
 (53,[.str [53],.int .i64<| -10000,.int .i64<|10000],.int .i64<|0)]
theorem oG:AS mF 1000 xK=true:=by kernel_rfl
def xT:Cy:=[(53,[.str [49,53],.int .i64<|0,.int .i64<|10000],.int .i64<|0),
 (53,[.str [50,52,48],.int .i64<|1,.int .i64<|10000],.int .i64<|0),
 (53,[.str [50,48,48],.int .i64<|1,.int .i64<|10000],.int .i64<|0),
 (53,[.str [49,56,48],.int .i64<|1,.int .i64<|10000],.int .i64<|0),
 (53,[.str [49,54,48],.int .i64<|1,.int .i64<|10000],.int .i64<|0),
 (71,[Ak (150) 1],.tup [.str [49,53,48],.int .i64<|0])]
theorem oQ:AS mF 1000 xT=true:=by kernel_rfl
def xV:Cy:=[(71,[Ak (4240) 11],.tup [.str [52,50,52,48,47,49,49],.int .i64<|0]),
 (71,[Ak (9) 20],.tup [.str [57,47,50,48],.int .i64<|0]),
 (71,[Ak (82) 15],.tup [.str [56,50,47,49,53],.int .i64<|0]),
 (71,[Ak (447) 55],.tup [.str [52,52,55,47,53,53],.int .i64<|0]),
 (101,[Ak (1061) 120],Ak (44) 5),
 (71,[Ak (44) 5],.tup [.str [52,52,47,53],.int .i64<|0])]
theorem nM:AS mF 1000 xV=true:=by kernel_rfl
def yB:Cy:=[(71,[Ak (5) 2],.tup [.str [53,47,50],.int .i64<|0]),
 (71,[Ak (-1) 1],.tup [.str [45,49],.int .i64<|0]),
 (71,[Ak (7) 2],.tup [.str [55,47,50],.int .i64<|0]),
 (101,[Ak (447) 55],Ak (81) 10),
 (71,[Ak (9) 10],.tup [.str [57,47,49,48],.int .i64<|0])]
theorem oS:AS mF 1000 yB=true:=by kernel_rfl
def MB:Cy:=(xK++(xT++(xV++yB)))
theorem yV:JQ prog (Jx mF 1000 MB):=PF nK Xn Ri<|AF oG<|AF oQ<|AF nM oS
def xX:Ur:=rR (Jx mF 1000 MB)<|Jx C7 1000 MA
theorem nJ:JQ prog xX:=QB yV xI
def vZ:Ctx:=Vi C7 xX
theorem rE:vZ.Ok prog:=R8 WM nJ
theorem Yh:FI vZ:=LJ JP _
end
end Go.Det
