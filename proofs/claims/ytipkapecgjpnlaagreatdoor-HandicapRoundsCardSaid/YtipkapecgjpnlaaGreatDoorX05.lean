import Derived.Test.YtipkapecgjpnlaaGreatDoorX04
/- A part of a proof; no law is stated here. -/
noncomputable section
namespace Go.Det
section
open Go.Proofs.Tryz (prog)
def Ab(n d:Int):V:=.agg [.int .i64 n,.nils,.int .i64 d,.nils]
def YD:Bg:=[(86,[.str [55,50]],.int .i64<|0),
 (77,[.str [55,50]],Ab (72) 1),
 (89,[Ab (72) 1,Ab (1) 1],.int .i64<|1),
 (89,[Ab (72) 1,Ab (200) 1],.int .i64<| -1),
 (83,[Ab (85) 1,Ab (72) 1],Ab (13) 1),
 (78,[Ab (13) 1,Ab (100) 1],Ab (1300) 1),
 (80,[Ab (1300) 1,Ab (120) 1],Ab (65) 6),
 (78,[Ab (65) 6,Ab (10) 1],Ab (325) 3),
 (80,[Ab (1) 1,Ab (2) 1],Ab (1) 2)]
theorem VX:An C7 1000 YD=true:=by kernel_rfl
def Yv:Bg:=[(82,[Ab (325) 3,Ab (1) 2],Ab (653) 6),
 (155,[Ab (653) 6],.agg [.int .i64<|108,.nils]),
 (134,[.agg [.int .i64<|108,.nils],.agg [.int .i64<|10,.nils]],Ab (54) 5),
 (55,[Ab (54) 5],.str [53,52,47,53]),
 (83,[Ab (90) 1,Ab (72) 1],Ab (18) 1),
 (78,[Ab (18) 1,Ab (100) 1],Ab (1800) 1),
 (80,[Ab (1800) 1,Ab (120) 1],Ab (15) 1),
 (78,[Ab (15) 1,Ab (10) 1],Ab (150) 1),
 (82,[Ab (150) 1,Ab (1) 2],Ab (301) 2)]
theorem Vs:An C7 1000 Yv=true:=by kernel_rfl
def YG:Bg:=[(155,[Ab (301) 2],.agg [.int .i64<|150,.nils]),
 (134,[.agg [.int .i64<|150,.nils],.agg [.int .i64<|10,.nils]],Ab (15) 1),
 (83,[Ab (95) 1,Ab (72) 1],Ab (23) 1),
 (78,[Ab (23) 1,Ab (100) 1],Ab (2300) 1),
 (80,[Ab (2300) 1,Ab (120) 1],Ab (115) 6),
 (78,[Ab (115) 6,Ab (10) 1],Ab (575) 3),
 (82,[Ab (575) 3,Ab (1) 2],Ab (1153) 6),
 (155,[Ab (1153) 6],.agg [.int .i64<|192,.nils]),
 (134,[.agg [.int .i64<|192,.nils],.agg [.int .i64<|10,.nils]],Ab (96) 5)]
theorem Vl:An C7 1000 YG=true:=by kernel_rfl
def Yu:Bg:=[(80,[Ab (-3) 1,Ab (2) 1],Ab (-3) 2),
 (83,[Ab (54) 5,Ab (0) 1],Ab (54) 5),
 (83,[Ab (96) 5,Ab (0) 1],Ab (96) 5),
 (89,[Ab (54) 5,Ab (96) 5],.int .i64<| -1),
 (83,[Ab (15) 1,Ab (0) 1],Ab (15) 1),
 (89,[Ab (15) 1,Ab (96) 5],.int .i64<| -1),
 (89,[Ab (15) 1,Ab (54) 5],.int .i64<|1),
 (82,[Ab (0) 1,Ab (54) 5],Ab (54) 5),
 (80,[Ab (54) 5,Ab (1) 1],Ab (54) 5)]
theorem VD:An C7 1000 Yu=true:=by kernel_rfl
def Yl:Bg:=[(82,[Ab (54) 5,Ab (-3) 2],Ab (93) 10),
 (89,[Ab (93) 10,Ab (60) 1],.int .i64<| -1),
 (78,[Ab (93) 10,Ab (10) 1],Ab (93) 1),
 (82,[Ab (93) 1,Ab (1) 2],Ab (187) 2),
 (155,[Ab (187) 2],.agg [.int .i64<|93,.nils]),
 (134,[.agg [.int .i64<|93,.nils],.agg [.int .i64<|10,.nils]],Ab (93) 10),
 (55,[Ab (15) 1],.str [49,53]),
 (55,[Ab (0) 1],.str [48]),
 (55,[Ab (96) 5],.str [57,54,47,53])]
theorem VY:An C7 1000 Yl=true:=by kernel_rfl
def Yr:Bg:=[(55,[Ab (93) 10],.str [57,51,47,49,48]),
 (83,[Ab (73) 1,Ab (72) 1],Ab (1) 1),
 (78,[Ab (1) 1,Ab (100) 1],Ab (100) 1),
 (80,[Ab (100) 1,Ab (120) 1],Ab (5) 6),
 (78,[Ab (5) 6,Ab (10) 1],Ab (25) 3),
 (82,[Ab (25) 3,Ab (1) 2],Ab (53) 6),
 (155,[Ab (53) 6],.agg [.int .i64<|8,.nils]),
 (134,[.agg [.int .i64<|8,.nils],.agg [.int .i64<|10,.nils]],Ab (4) 5),
 (83,[Ab (93) 10,Ab (4) 5],Ab (17) 2)]
theorem V4:An C7 1000 Yr=true:=by kernel_rfl
def YK:Bg:=[(89,[Ab (17) 2,Ab (10) 1],.int .i64<| -1),
 (89,[Ab (17) 2,Ab (7) 1],.int .i64<|1),
 (80,[Ab (-2) 1,Ab (2) 1],Ab (-1) 1),
 (83,[Ab (96) 5,Ab (1) 1],Ab (91) 5),
 (83,[Ab (4) 5,Ab (1) 1],Ab (-1) 5),
 (89,[Ab (91) 5,Ab (-1) 5],.int .i64<|1),
 (83,[Ab (54) 5,Ab (1) 1],Ab (49) 5),
 (89,[Ab (49) 5,Ab (91) 5],.int .i64<| -1),
 (89,[Ab (49) 5,Ab (-1) 5],.int .i64<|1)]
theorem VA:An C7 1000 YK=true:=by kernel_rfl
def YF:Bg:=[(83,[Ab (15) 1,Ab (1) 1],Ab (14) 1),
 (89,[Ab (14) 1,Ab (91) 5],.int .i64<| -1),
 (89,[Ab (14) 1,Ab (49) 5],.int .i64<|1),
 (82,[Ab (0) 1,Ab (-1) 5],Ab (-1) 5),
 (80,[Ab (-1) 5,Ab (1) 1],Ab (-1) 5),
 (82,[Ab (-1) 5,Ab (-1) 1],Ab (-6) 5),
 (82,[Ab (93) 10,Ab (3) 1],Ab (123) 10),
 (89,[Ab (-6) 5,Ab (123) 10],.int .i64<| -1),
 (89,[Ab (-6) 5,Ab (60) 1],.int .i64<| -1)]
theorem U7:An C7 1000 YF=true:=by kernel_rfl
def YE:Bg:=[(78,[Ab (-6) 5,Ab (10) 1],Ab (-12) 1),
 (82,[Ab (-12) 1,Ab (1) 2],Ab (-23) 2),
 (155,[Ab (-23) 2],.agg [.int .i64<| -12,.nils]),
 (134,[.agg [.int .i64<| -12,.nils],.agg [.int .i64<|10,.nils]],Ab (-6) 5),
 (55,[Ab (4) 5],.str [52,47,53]),
 (55,[Ab (-6) 5],.str [45,54,47,53]),
 (83,[Ab (91) 1,Ab (72) 1],Ab (19) 1),
 (78,[Ab (19) 1,Ab (100) 1],Ab (1900) 1),
 (80,[Ab (1900) 1,Ab (120) 1],Ab (95) 6)]
theorem V0:An C7 1000 YE=true:=by kernel_rfl
def YJ:Bg:=[(78,[Ab (95) 6,Ab (10) 1],Ab (475) 3),
 (82,[Ab (475) 3,Ab (1) 2],Ab (953) 6),
 (155,[Ab (953) 6],.agg [.int .i64<|158,.nils]),
 (134,[.agg [.int .i64<|158,.nils],.agg [.int .i64<|10,.nils]],Ab (79) 5),
 (83,[Ab (79) 5,Ab (0) 1],Ab (79) 5),
 (89,[Ab (79) 5,Ab (96) 5],.int .i64<| -1),
 (89,[Ab (15) 1,Ab (79) 5],.int .i64<| -1),
 (82,[Ab (0) 1,Ab (15) 1],Ab (15) 1),
 (80,[Ab (15) 1,Ab (1) 1],Ab (15) 1)]
theorem V1:An C7 1000 YJ=true:=by kernel_rfl
def Wq:Bg:=[(82,[Ab (15) 1,Ab (-3) 2],Ab (27) 2),
 (89,[Ab (27) 2,Ab (60) 1],.int .i64<| -1),
 (78,[Ab (27) 2,Ab (10) 1],Ab (135) 1),
 (82,[Ab (135) 1,Ab (1) 2],Ab (271) 2),
 (155,[Ab (271) 2],.agg [.int .i64<|135,.nils]),
 (134,[.agg [.int .i64<|135,.nils],.agg [.int .i64<|10,.nils]],Ab (27) 2),
 (83,[Ab (27) 2,Ab (4) 5],Ab (127) 10),
 (89,[Ab (127) 10,Ab (10) 1],.int .i64<|1),
 (83,[Ab (96) 5,Ab (2) 1],Ab (86) 5)]
theorem Ul:An C7 1000 Wq=true:=by kernel_rfl
def Ww:Bg:=[(83,[Ab (4) 5,Ab (2) 1],Ab (-6) 5),
 (89,[Ab (86) 5,Ab (-6) 5],.int .i64<|1),
 (83,[Ab (79) 5,Ab (2) 1],Ab (69) 5),
 (89,[Ab (69) 5,Ab (86) 5],.int .i64<| -1),
 (89,[Ab (69) 5,Ab (-6) 5],.int .i64<|1),
 (83,[Ab (15) 1,Ab (2) 1],Ab (13) 1),
 (89,[Ab (13) 1,Ab (86) 5],.int .i64<| -1),
 (89,[Ab (13) 1,Ab (69) 5],.int .i64<| -1),
 (89,[Ab (13) 1,Ab (-6) 5],.int .i64<|1)]
theorem TJ:An C7 1000 Ww=true:=by kernel_rfl
def Xg:Bg:=[(82,[Ab (0) 1,Ab (-6) 5],Ab (-6) 5),
 (80,[Ab (-6) 5,Ab (1) 1],Ab (-6) 5),
 (82,[Ab (-6) 5,Ab (-1) 1],Ab (-11) 5),
 (82,[Ab (27) 2,Ab (3) 1],Ab (33) 2),
 (89,[Ab (-11) 5,Ab (33) 2],.int .i64<| -1),
 (89,[Ab (-11) 5,Ab (60) 1],.int .i64<| -1),
 (78,[Ab (-11) 5,Ab (10) 1],Ab (-22) 1),
 (82,[Ab (-22) 1,Ab (1) 2],Ab (-43) 2),
 (155,[Ab (-43) 2],.agg [.int .i64<| -22,.nils])]
theorem Ur:An C7 1000 Xg=true:=by kernel_rfl
def W4:Bg:=[(134,[.agg [.int .i64<| -22,.nils],.agg [.int .i64<|10,.nils]],Ab (-11) 5),
 (55,[Ab (79) 5],.str [55,57,47,53]),
 (55,[Ab (27) 2],.str [50,55,47,50]),
 (55,[Ab (-11) 5],.str [45,49,49,47,53]),
 (86,[.str [57,51,47,49,48]],.int .i64<|0),
 (77,[.str [57,51,47,49,48]],Ab (93) 10),
 (89,[Ab (93) 10,Ab (-20) 1],.int .i64<|1),
 (78,[Ab (93) 10,Ab (120) 1],Ab (1116) 1),
 (80,[Ab (1116) 1,Ab (100) 1],Ab (279) 25)]
theorem T0:An C7 1000 W4=true:=by kernel_rfl
def Xd:Bg:=[(82,[Ab (279) 25,Ab (72) 1],Ab (2079) 25),
 (83,[Ab (2079) 25,Ab (71) 1],Ab (304) 25),
 (78,[Ab (304) 25,Ab (1) 1],Ab (304) 25),
 (82,[Ab (304) 25,Ab (1) 2],Ab (633) 50),
 (155,[Ab (633) 50],.agg [.int .i64<|12,.nils]),
 (134,[.agg [.int .i64<|12,.nils],.agg [.int .i64<|1,.nils]],Ab (12) 1),
 (80,[Ab (1140) 1,Ab (100) 1],Ab (57) 5),
 (78,[Ab (57) 5,Ab (1) 1],Ab (57) 5),
 (82,[Ab (57) 5,Ab (1) 2],Ab (119) 10)]
theorem Tb:An C7 1000 Xd=true:=by kernel_rfl
def Xr:Bg:=[(155,[Ab (119) 10],.agg [.int .i64<|11,.nils]),
 (134,[.agg [.int .i64<|11,.nils],.agg [.int .i64<|1,.nils]],Ab (11) 1),
 (80,[Ab (650) 1,Ab (100) 1],Ab (13) 2),
 (78,[Ab (13) 2,Ab (1) 1],Ab (13) 2),
 (82,[Ab (13) 2,Ab (1) 2],Ab (7) 1),
 (155,[Ab (7) 1],.agg [.int .i64<|7,.nils]),
 (134,[.agg [.int .i64<|7,.nils],.agg [.int .i64<|1,.nils]],Ab (7) 1),
 (86,[.str [49]],.int .i64<|0),
 (77,[.str [49]],Ab (1) 1)]
theorem Tz:An C7 1000 Xr=true:=by kernel_rfl
def WG:Bg:=[(86,[.str [50]],.int .i64<|0),
 (77,[.str [50]],Ab (2) 1),
 (86,[.str [51]],.int .i64<|0),
 (77,[.str [51]],Ab (3) 1),
 (86,[.str [52]],.int .i64<|0),
 (77,[.str [52]],Ab (4) 1),
 (86,[.str [53]],.int .i64<|0),
 (77,[.str [53]],Ab (5) 1),
 (89,[Ab (2) 1,Ab (1) 1],.int .i64<|1)]
theorem Ux:An C7 1000 WG=true:=by kernel_rfl
def WR:Bg:=[(89,[Ab (2) 1,Ab (2) 1],.int .i64<|0),
 (89,[Ab (3) 1,Ab (2) 1],.int .i64<|1),
 (89,[Ab (3) 1,Ab (3) 1],.int .i64<|0),
 (89,[Ab (4) 1,Ab (3) 1],.int .i64<|1),
 (89,[Ab (5) 1,Ab (4) 1],.int .i64<|1),
 (89,[Ab (5) 1,Ab (5) 1],.int .i64<|0),
 (82,[Ab (3) 1,Ab (3) 1],Ab (6) 1),
 (80,[Ab (6) 1,Ab (2) 1],Ab (3) 1),
 (89,[Ab (3) 1,Ab (-1) 1],.int .i64<|1)]
theorem Uv:An C7 1000 WR=true:=by kernel_rfl
def WU:Bg:=[(78,[Ab (3) 1,Ab (1) 1],Ab (3) 1),
 (82,[Ab (3) 1,Ab (1) 2],Ab (7) 2),
 (155,[Ab (7) 2],.agg [.int .i64<|3,.nils]),
 (134,[.agg [.int .i64<|3,.nils],.agg [.int .i64<|1,.nils]],Ab (3) 1)]
theorem T3:An C7 1000 WU=true:=by kernel_rfl
def MA:Bg:=(YD++(Yv++(YG++(Yu++(Yl++(Yr++(YK++(YF++(YE++(YJ++(Wq++(Ww++(Xg++(W4++(Xd++(Xr++(WG++(WR++WU))))))))))))))))))
theorem YB:DR prog (DO C7 1000 MA):=GI Ip C1 D0<|Am VX<|Am Vs<|Am Vl<|Am VD<|Am VY<|Am V4<|Am VA<|Am U7<|Am V0<|Am V1<|Am Ul<|Am TJ<|Am Ur<|Am T0<|Am Tb<|Am Tz<|Am Ux<|Am Uv T3
def VB:Ctx:=IT C7<|DO C7 1000 MA
theorem V2:VB.Ok prog:=EA Ip YB
theorem Py:BH VB:=Cw C1 _
def Ys:Bg:=[(57,[.str [55,50],.int .i64<|1,.int .i64<|200],.int .i64<|0),
 (95,[Ab (65) 6,.int .i64<|10],Ab (54) 5),
 (95,[Ab (15) 1,.int .i64<|10],Ab (15) 1),
 (95,[Ab (115) 6,.int .i64<|10],Ab (96) 5),
 (95,[Ab (93) 10,.int .i64<|10],Ab (93) 10),
 (95,[Ab (5) 6,.int .i64<|10],Ab (4) 5)]
theorem Vm:An VB 1000 Ys=true:=by kernel_rfl
def YA:Bg:=[(95,[Ab (-6) 5,.int .i64<|10],Ab (-6) 5),
 (95,[Ab (95) 6,.int .i64<|10],Ab (79) 5),
 (95,[Ab (27) 2,.int .i64<|10],Ab (27) 2),
 (95,[Ab (-11) 5,.int .i64<|10],Ab (-11) 5),
 (57,[.str [57,51,47,49,48],.int .i64<| -20,.int .i64<|60],.int .i64<|0),
 (95,[Ab (304) 25,.int .i64<|1],Ab (12) 1)]
theorem VZ:An VB 1000 YA=true:=by kernel_rfl
def Yo:Bg:=[(95,[Ab (57) 5,.int .i64<|1],Ab (11) 1),
 (95,[Ab (13) 2,.int .i64<|1],Ab (7) 1),
 (95,[Ab (3) 1,.int .i64<|1],Ab (3) 1)]
theorem VL:An VB 1000 Yo=true:=by kernel_rfl
def MB:Bg:=(Ys++(YA++Yo))
theorem YO:DR prog (DO VB 1000 MB):=GI V2 Py D0<|Am Vm<|Am VZ VL
def XU:Ms:=SX (DO VB 1000 MB)<|DO C7 1000 MA
theorem QT:DR prog XU:=Ej YO YB
def U6:Ctx:=IT C7 XU
theorem We:U6.Ok prog:=EA Ip QT
theorem Pk:BH U6:=Cw C1 _
def Ym:Bg:=[(17,[.agg [.int .i64<|10,.int .i64<|1,.int .i64<|90,.str [55,50],.int .i64<|120,.int .i64<|0]],.int .i64<|0),
 (17,[.agg [.int .i64<|20,.int .i64<|2,.int .i64<|85,.str [55,50],.int .i64<|120,.int .i64<|0]],.int .i64<|0),
 (17,[.agg [.int .i64<|30,.int .i64<|3,.int .i64<|95,.str [55,50],.int .i64<|120,.int .i64<|0]],.int .i64<|0),
 (17,[.agg [.int .i64<|40,.int .i64<|4,.int .i64<|73,.str [55,50],.int .i64<|120,.int .i64<|0]],.int .i64<|0),
 (17,[.agg [.int .i64<|20,.int .i64<|2,.int .i64<|91,.str [55,50],.int .i64<|120,.int .i64<|0]],.int .i64<|0),
 (54,[.agg [.int .i64<|20,.int .i64<|2,.int .i64<|85,.str [55,50],.int .i64<|120,.int .i64<|0]],Ab (54) 5)]
theorem Vf:An U6 1000 Ym=true:=by kernel_rfl
def Yj:Bg:=[(54,[.agg [.int .i64<|10,.int .i64<|1,.int .i64<|90,.str [55,50],.int .i64<|120,.int .i64<|0]],Ab (15) 1),
 (54,[.agg [.int .i64<|30,.int .i64<|3,.int .i64<|95,.str [55,50],.int .i64<|120,.int .i64<|0]],Ab (96) 5),
 (54,[.agg [.int .i64<|40,.int .i64<|4,.int .i64<|73,.str [55,50],.int .i64<|120,.int .i64<|0]],Ab (4) 5),
 (54,[.agg [.int .i64<|20,.int .i64<|2,.int .i64<|91,.str [55,50],.int .i64<|120,.int .i64<|0]],Ab (79) 5),
 (81,[Ab (304) 25],.int .i64<|12),
 (81,[Ab (57) 5],.int .i64<|11)]
theorem VH:An U6 1000 Yj=true:=by kernel_rfl
def Yi:Bg:=[(81,[Ab (13) 2],.int .i64<|7),
 (81,[Ab (3) 1],.int .i64<|3)]
theorem Vn:An U6 1000 Yi=true:=by kernel_rfl
def MC:Bg:=(Ym++(Yj++Yi))
theorem YY:DR prog (DO U6 1000 MC):=GI We Pk D0<|Am Vf<|Am VH Vn
def XG:Ms:=SX (DO U6 1000 MC) XU
theorem Nq:DR prog XG:=Ej YY QT
def NV:Ctx:=IT C7 XG
theorem ME:NV.Ok prog:=EA Ip Nq
theorem GO:BH NV:=Cw C1 _
end
end Go.Det
