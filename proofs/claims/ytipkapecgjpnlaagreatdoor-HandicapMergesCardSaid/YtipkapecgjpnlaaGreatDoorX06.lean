import Derived.Test.YtipkapecgjpnlaaGreatDoorX05
/- A part of a proof; no law is stated here. -/
noncomputable section
namespace Go.Det
section
open Go.Proofs.Tryz (prog)
def Adi:Ctx:=yN WY
def Y0:MY:=⟨36,[.sl 10 0 3 4 0,.int .i64 30],C5++[(10,.cells [.int .i64 10,.int .i64 1,.int .i64 90,.str [55,50],.int .i64 120,.int .i64 0,.int .i64 20,.int .i64 2,.int .i64 85,.str [55,50],.int .i64 120,.int .i64 0,.int .i64 30,.int .i64 3,.int .i64 95,.str [55,50],.int .i64 120,.int .i64 0,.int .i64 40,.int .i64 4,.int .i64 73,.str [55,50],.int .i64 120,.int .i64 0] 25 (0,0))],11,.tup [.str [57,51,47,49,48],.int .i64 0],[],217⟩
theorem AaD:Wy WY 1000 Y0=true:=by kernel_rfl
def Y1:MY:=⟨36,[.sl 221 0 3 4 0,.int .i64 29],C5++[(221,.cells [.int .i64 10,.int .i64 1,.int .i64 90,.str [55,50],.int .i64 120,.int .i64 0,.int .i64 20,.int .i64 2,.int .i64 85,.str [55,50],.int .i64 120,.int .i64 0,.int .i64 30,.int .i64 3,.int .i64 95,.str [55,50],.int .i64 120,.int .i64 0,.int .i64 40,.int .i64 4,.int .i64 73,.str [55,50],.int .i64 120,.int .i64 0] 25 (0,0))],222,.tup [.str [],.int .i64 7],[],428⟩
theorem Aa8:Wy WY 1000 Y1=true:=by kernel_rfl
def Y2:MY:=⟨38,[.sl 432 0 4 4 0],C5++[(432,.cells [.int .i64 10,.int .i64 1,.int .i64 90,.str [55,50],.int .i64 120,.int .i64 0,.int .i64 20,.int .i64 2,.int .i64 85,.str [55,50],.int .i64 120,.int .i64 0,.int .i64 30,.int .i64 3,.int .i64 95,.str [55,50],.int .i64 120,.int .i64 0,.int .i64 40,.int .i64 4,.int .i64 73,.str [55,50],.int .i64 120,.int .i64 0] 25 (0,0))],433,.tup [.sl 836 0 4 4 6,.int .i64 0],[(836,.cells [.int .i64 10,.int .i64 1,.str [49,53],.int .i64 0,.bool false,.str [48],.int .i64 20,.int .i64 2,.str [53,52,47,53],.int .i64 0,.bool false,.str [48],.int .i64 30,.int .i64 3,.str [57,54,47,53],.int .i64 0,.bool true,.str [57,51,47,49,48],.int .i64 40,.int .i64 4,.str [52,47,53],.int .i64 1,.bool true,.str [45,54,47,53]] 88 (0,0))],837⟩
theorem AaL:Wy WY 1000 Y2=true:=by kernel_rfl
def Y3:MY:=⟨39,[.sl 841 0 3 4 0],C5++[(841,.cells [.int .i64 10,.int .i64 1,.int .i64 90,.str [55,50],.int .i64 120,.int .i64 0,.int .i64 20,.int .i64 2,.int .i64 85,.str [55,50],.int .i64 120,.int .i64 0,.int .i64 30,.int .i64 3,.int .i64 95,.str [55,50],.int .i64 120,.int .i64 0,.int .i64 40,.int .i64 4,.int .i64 73,.str [55,50],.int .i64 120,.int .i64 0] 25 (0,0))],842,.tup [.sl 1096 0 1 1 1,.int .i64 0],[(1096,.cells [.int .i64 2] 3 (0,0))],1097⟩
theorem AbP:Wy WY 1000 Y3=true:=by kernel_rfl
def Y4:MY:=⟨40,[.sl 1101 0 4 4 0],C5++[(1101,.cells [.int .i64 10,.int .i64 1,.int .i64 90,.str [55,50],.int .i64 120,.int .i64 0,.int .i64 20,.int .i64 2,.int .i64 85,.str [55,50],.int .i64 120,.int .i64 0,.int .i64 30,.int .i64 3,.int .i64 95,.str [55,50],.int .i64 120,.int .i64 0,.int .i64 40,.int .i64 4,.int .i64 73,.str [55,50],.int .i64 120,.int .i64 0] 25 (0,0))],1102,.tup [.sl 1489 0 4 4 1,.int .i64 0],[(1489,.cells [.int .i64 1,.int .i64 1,.int .i64 1,.int .i64 1] 3 (0,0))],1490⟩
theorem AbC:Wy WY 1000 Y4=true:=by kernel_rfl
def Y5:MY:=⟨23,[.sl 1495 0 4 4 0,.agg [.int .i64 20,.int .i64 2,.int .i64 91,.str [55,50],.int .i64 120,.int .i64 0]],C5++[(1495,.cells [.int .i64 10,.int .i64 1,.int .i64 90,.str [55,50],.int .i64 120,.int .i64 0,.int .i64 20,.int .i64 2,.int .i64 85,.str [55,50],.int .i64 120,.int .i64 0,.int .i64 30,.int .i64 3,.int .i64 95,.str [55,50],.int .i64 120,.int .i64 0,.int .i64 40,.int .i64 4,.int .i64 73,.str [55,50],.int .i64 120,.int .i64 0] 25 (0,0))],1496,.tup [.sl 1530 0 4 4 6,.int .i64 0],[(1530,.cells [.int .i64 10,.int .i64 1,.int .i64 90,.str [55,50],.int .i64 120,.int .i64 0,.int .i64 20,.int .i64 2,.int .i64 91,.str [55,50],.int .i64 120,.int .i64 0,.int .i64 30,.int .i64 3,.int .i64 95,.str [55,50],.int .i64 120,.int .i64 0,.int .i64 40,.int .i64 4,.int .i64 73,.str [55,50],.int .i64 120,.int .i64 0] 25 (0,0))],1540⟩
theorem Abb:Wy WY 1000 Y5=true:=by kernel_rfl
def YL:List MY:=[Y0,Y1,Y2,Y3,Y4,Y5]
theorem AbW:JV WY 1000 YL=true:=by
 simp only[YL,JV,AaD,Aa8,AaL,AbP,AbC,Abb,Bool.and_self]
def O0:MY:=⟨73,[.sl 1544 0 4 4 0],C5++[(1544,.cells [.int .i64 10,.int .i64 1,.int .i64 90,.str [55,50],.int .i64 120,.int .i64 0,.int .i64 20,.int .i64 2,.int .i64 85,.str [55,50],.int .i64 120,.int .i64 0,.int .i64 30,.int .i64 3,.int .i64 95,.str [55,50],.int .i64 120,.int .i64 0,.int .i64 40,.int .i64 4,.int .i64 73,.str [55,50],.int .i64 120,.int .i64 0] 25 (0,0))],1568,.ptr 1569 0,[(1568,.map [(.int .i64 1,.int .i64 1,0),(.int .i64 2,.int .i64 1,1),(.int .i64 3,.int .i64 1,2),(.int .i64 4,.int .i64 1,3)] 4),(1569,.cells [.sl 1783 0 4 4 16,.map 1568] 131 (0,0)),(1783,.cells [.int .i64 10,.int .i64 1,.int .i64 90,.str [55,50],.int .i64 120,.int .i64 0,.int .i64 15,.nils,.int .i64 1,.nils,.int .i64 0,.bool false,.int .i64 0,.nils,.int .i64 1,.nils,.int .i64 20,.int .i64 2,.int .i64 85,.str [55,50],.int .i64 120,.int .i64 0,.int .i64 54,.nils,.int .i64 5,.nils,.int .i64 0,.bool false,.int .i64 0,.nils,.int .i64 1,.nils,.int .i64 30,.int .i64 3,.int .i64 95,.str [55,50],.int .i64 120,.int .i64 0,.int .i64 96,.nils,.int .i64 5,.nils,.int .i64 0,.bool true,.int .i64 93,.nils,.int .i64 10,.nils,.int .i64 40,.int .i64 4,.int .i64 73,.str [55,50],.int .i64 120,.int .i64 0,.int .i64 4,.nils,.int .i64 5,.nils,.int .i64 1,.bool true,.int .i64<| -6,.nils,.int .i64 5,.nils] 127 (0,0))],1935⟩
theorem Abt:Wy WY 1000 O0=true:=by kernel_rfl
def O1:MY:=⟨73,[.sl 1530 0 4 4 6],C5++[(1530,.cells [.int .i64 10,.int .i64 1,.int .i64 90,.str [55,50],.int .i64 120,.int .i64 0,.int .i64 20,.int .i64 2,.int .i64 91,.str [55,50],.int .i64 120,.int .i64 0,.int .i64 30,.int .i64 3,.int .i64 95,.str [55,50],.int .i64 120,.int .i64 0,.int .i64 40,.int .i64 4,.int .i64 73,.str [55,50],.int .i64 120,.int .i64 0] 25 (0,0))],1954,.ptr 1955 0,[(1954,.map [(.int .i64 1,.int .i64 2,0),(.int .i64 2,.int .i64 2,1),(.int .i64 3,.int .i64 2,2),(.int .i64 4,.int .i64 2,3)] 4),(1955,.cells [.sl 2164 0 4 4 16,.map 1954] 131 (0,0)),(2164,.cells [.int .i64 10,.int .i64 1,.int .i64 90,.str [55,50],.int .i64 120,.int .i64 0,.int .i64 15,.nils,.int .i64 1,.nils,.int .i64 0,.bool false,.int .i64 0,.nils,.int .i64 1,.nils,.int .i64 20,.int .i64 2,.int .i64 91,.str [55,50],.int .i64 120,.int .i64 0,.int .i64 79,.nils,.int .i64 5,.nils,.int .i64 0,.bool false,.int .i64 0,.nils,.int .i64 1,.nils,.int .i64 30,.int .i64 3,.int .i64 95,.str [55,50],.int .i64 120,.int .i64 0,.int .i64 96,.nils,.int .i64 5,.nils,.int .i64 0,.bool true,.int .i64 27,.nils,.int .i64 2,.nils,.int .i64 40,.int .i64 4,.int .i64 73,.str [55,50],.int .i64 120,.int .i64 0,.int .i64 4,.nils,.int .i64 5,.nils,.int .i64 2,.bool true,.int .i64<| -11,.nils,.int .i64 5,.nils] 127 (0,0))],2332⟩
theorem Acr:Wy WY 1000 O1=true:=by kernel_rfl
def OL:List MY:=[O0,O1]
theorem Abo:JV WY 1000 OL=true:=by
 simp only[OL,JV,Abt,Acr,Bool.and_self]
def CE:Ctx:=PF Adi<|gY (gK WY 1000 OL) S73
theorem Acp:CE.Ok prog:=IX (qQ Wp)<|HT (dN Wp Mi GD Abo) WD
theorem cP:Du CE:=EL (Wq Mi) _
def YC:MY:=⟨41,[.sl 1544 0 4 4 0,.sl 1530 0 4 4 6],C5++[(1544,.cells [.int .i64 10,.int .i64 1,.int .i64 90,.str [55,50],.int .i64 120,.int .i64 0,.int .i64 20,.int .i64 2,.int .i64 85,.str [55,50],.int .i64 120,.int .i64 0,.int .i64 30,.int .i64 3,.int .i64 95,.str [55,50],.int .i64 120,.int .i64 0,.int .i64 40,.int .i64 4,.int .i64 73,.str [55,50],.int .i64 120,.int .i64 0] 25 (0,0)),(1530,.cells [.int .i64 10,.int .i64 1,.int .i64 90,.str [55,50],.int .i64 120,.int .i64 0,.int .i64 20,.int .i64 2,.int .i64 91,.str [55,50],.int .i64 120,.int .i64 0,.int .i64 30,.int .i64 3,.int .i64 95,.str [55,50],.int .i64 120,.int .i64 0,.int .i64 40,.int .i64 4,.int .i64 73,.str [55,50],.int .i64 120,.int .i64 0] 25 (0,0))],1545,.tup [.sl 2365 0 3 3 1,.int .i64 0],[(2365,.cells [.int .i64 2,.int .i64 3,.int .i64 4] 3 (0,0))],2371⟩
theorem Ac3:tP CE 999 YC 4 0 6=true:=by kernel_rfl
theorem Ac7:tP CE 999 YC 4 1 6=true:=by kernel_rfl
theorem Ada:tP CE 999 YC 4 2 6=true:=by kernel_rfl
theorem Adh:tP CE 999 YC 4 3 6=true:=by kernel_rfl
theorem Ac2:tP CE 999 YC 4 4 6=true:=by kernel_rfl
theorem Ac0:tP CE 999 YC 4 5 6=true:=by kernel_rfl
theorem AaC:Wy CE 1000 YC=true:=AaY (id:=4) (N:=6) rfl ag af (fun j a=>match j,a with
 |0,_=>Ac3
 |1,_=>Ac7
 |2,_=>Ada
 |3,_=>Adh
 |4,_=>Ac2
 |5,_=>Ac0
 |j+6,h=>wh h ae) ag
def YM:List MY:=[YC]
theorem Abz:JV CE 1000 YM=true:=by
 simp only[YM,JV,AaC,Bool.and_self]
def S74:Te:=gY (gK WY 1000 YL)<|gY (gK CE 1000 YM) S73
theorem xC:Fh prog S74:=HT (dN Wp Mi GD AbW)<|HT (dN Acp cP GD Abz) WD
def C74:Ctx:=PF C7 S74
theorem yQ:C74.Ok prog:=IX PA xC
theorem YX:Du C74:=EL FI _
end
end Go.Det
