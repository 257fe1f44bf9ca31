import Derived.Test.YtjbmodoofdpgcaaGreatDoorX05
/- A part of a proof; no law is stated here. -/
noncomputable section
namespace Go.Det
section
open Go.Proofs.Tryz (prog)
def AcG:Ctx:=wD VE
def Y0:MY:=⟨29,[.sl 12 0 3 4 0,.int .i64 30],Dr++[(12,.cells [.int .i64 10,.int .i64 1,.int .i64 90,.str [55,50],.int .i64 120,.int .i64 0,.int .i64 20,.int .i64 2,.int .i64 85,.str [55,50],.int .i64 120,.int .i64 0,.int .i64 30,.int .i64 3,.int .i64 95,.str [55,50],.int .i64 120,.int .i64 0,.int .i64 40,.int .i64 4,.int .i64 73,.str [55,50],.int .i64 120,.int .i64 0] 57 (0,0))],13,.tup [.str [57,51,47,49,48],.int .i64 0],[],219⟩
theorem AbG:VA VE 1000 Y0=true:=by kernel_rfl
def Y1:MY:=⟨29,[.sl 223 0 3 4 0,.int .i64 29],Dr++[(223,.cells [.int .i64 10,.int .i64 1,.int .i64 90,.str [55,50],.int .i64 120,.int .i64 0,.int .i64 20,.int .i64 2,.int .i64 85,.str [55,50],.int .i64 120,.int .i64 0,.int .i64 30,.int .i64 3,.int .i64 95,.str [55,50],.int .i64 120,.int .i64 0,.int .i64 40,.int .i64 4,.int .i64 73,.str [55,50],.int .i64 120,.int .i64 0] 57 (0,0))],224,.tup [.str [],.int .i64 7],[],430⟩
theorem zW:VA VE 1000 Y1=true:=by kernel_rfl
def Y2:MY:=⟨31,[.sl 434 0 4 4 0],Dr++[(434,.cells [.int .i64 10,.int .i64 1,.int .i64 90,.str [55,50],.int .i64 120,.int .i64 0,.int .i64 20,.int .i64 2,.int .i64 85,.str [55,50],.int .i64 120,.int .i64 0,.int .i64 30,.int .i64 3,.int .i64 95,.str [55,50],.int .i64 120,.int .i64 0,.int .i64 40,.int .i64 4,.int .i64 73,.str [55,50],.int .i64 120,.int .i64 0] 57 (0,0))],435,.tup [.sl 838 0 4 4 6,.int .i64 0],[(838,.cells [.int .i64 10,.int .i64 1,.str [49,53],.int .i64 0,.bool false,.str [48],.int .i64 20,.int .i64 2,.str [53,52,47,53],.int .i64 0,.bool false,.str [48],.int .i64 30,.int .i64 3,.str [57,54,47,53],.int .i64 0,.bool true,.str [57,51,47,49,48],.int .i64 40,.int .i64 4,.str [52,47,53],.int .i64 1,.bool true,.str [45,54,47,53]] 79 (0,0))],839⟩
theorem Abl:VA VE 1000 Y2=true:=by kernel_rfl
def Y3:MY:=⟨32,[.sl 843 0 3 4 0],Dr++[(843,.cells [.int .i64 10,.int .i64 1,.int .i64 90,.str [55,50],.int .i64 120,.int .i64 0,.int .i64 20,.int .i64 2,.int .i64 85,.str [55,50],.int .i64 120,.int .i64 0,.int .i64 30,.int .i64 3,.int .i64 95,.str [55,50],.int .i64 120,.int .i64 0,.int .i64 40,.int .i64 4,.int .i64 73,.str [55,50],.int .i64 120,.int .i64 0] 57 (0,0))],844,.tup [.sl 1098 0 1 1 1,.int .i64 0],[(1098,.cells [.int .i64 2] 3 (0,0))],1099⟩
theorem AbE:VA VE 1000 Y3=true:=by kernel_rfl
def Y4:MY:=⟨33,[.sl 1103 0 4 4 0],Dr++[(1103,.cells [.int .i64 10,.int .i64 1,.int .i64 90,.str [55,50],.int .i64 120,.int .i64 0,.int .i64 20,.int .i64 2,.int .i64 85,.str [55,50],.int .i64 120,.int .i64 0,.int .i64 30,.int .i64 3,.int .i64 95,.str [55,50],.int .i64 120,.int .i64 0,.int .i64 40,.int .i64 4,.int .i64 73,.str [55,50],.int .i64 120,.int .i64 0] 57 (0,0))],1104,.tup [.sl 1491 0 4 4 1,.int .i64 0],[(1491,.cells [.int .i64 1,.int .i64 1,.int .i64 1,.int .i64 1] 3 (0,0))],1492⟩
theorem Aaq:VA VE 1000 Y4=true:=by kernel_rfl
def Y5:MY:=⟨34,[.sl 1497 0 4 4 0,.agg [.int .i64 20,.int .i64 2,.int .i64 91,.str [55,50],.int .i64 120,.int .i64 0]],Dr++[(1497,.cells [.int .i64 10,.int .i64 1,.int .i64 90,.str [55,50],.int .i64 120,.int .i64 0,.int .i64 20,.int .i64 2,.int .i64 85,.str [55,50],.int .i64 120,.int .i64 0,.int .i64 30,.int .i64 3,.int .i64 95,.str [55,50],.int .i64 120,.int .i64 0,.int .i64 40,.int .i64 4,.int .i64 73,.str [55,50],.int .i64 120,.int .i64 0] 57 (0,0))],1498,.tup [.sl 1532 0 4 4 6,.int .i64 0],[(1532,.cells [.int .i64 10,.int .i64 1,.int .i64 90,.str [55,50],.int .i64 120,.int .i64 0,.int .i64 20,.int .i64 2,.int .i64 91,.str [55,50],.int .i64 120,.int .i64 0,.int .i64 30,.int .i64 3,.int .i64 95,.str [55,50],.int .i64 120,.int .i64 0,.int .i64 40,.int .i64 4,.int .i64 73,.str [55,50],.int .i64 120,.int .i64 0] 57 (0,0))],1542⟩
theorem Aaf:VA VE 1000 Y5=true:=by kernel_rfl
def YL:List MY:=[Y0,Y1,Y2,Y3,Y4,Y5]
theorem Abd:JI VE 1000 YL=true:=by
 simp only[YL,JI,AbG,zW,Abl,AbE,Aaq,Aaf,Bool.and_self]
def O0:MY:=⟨82,[.sl 1546 0 4 4 0],Dr++[(1546,.cells [.int .i64 10,.int .i64 1,.int .i64 90,.str [55,50],.int .i64 120,.int .i64 0,.int .i64 20,.int .i64 2,.int .i64 85,.str [55,50],.int .i64 120,.int .i64 0,.int .i64 30,.int .i64 3,.int .i64 95,.str [55,50],.int .i64 120,.int .i64 0,.int .i64 40,.int .i64 4,.int .i64 73,.str [55,50],.int .i64 120,.int .i64 0] 57 (0,0))],1570,.ptr 1571 0,[(1570,.map [(.int .i64 1,.int .i64 1,0),(.int .i64 2,.int .i64 1,1),(.int .i64 3,.int .i64 1,2),(.int .i64 4,.int .i64 1,3)] 4),(1571,.cells [.sl 1785 0 4 4 16,.map 1570] 134 (0,0)),(1785,.cells [.int .i64 10,.int .i64 1,.int .i64 90,.str [55,50],.int .i64 120,.int .i64 0,.int .i64 15,.nils,.int .i64 1,.nils,.int .i64 0,.bool false,.int .i64 0,.nils,.int .i64 1,.nils,.int .i64 20,.int .i64 2,.int .i64 85,.str [55,50],.int .i64 120,.int .i64 0,.int .i64 54,.nils,.int .i64 5,.nils,.int .i64 0,.bool false,.int .i64 0,.nils,.int .i64 1,.nils,.int .i64 30,.int .i64 3,.int .i64 95,.str [55,50],.int .i64 120,.int .i64 0,.int .i64 96,.nils,.int .i64 5,.nils,.int .i64 0,.bool true,.int .i64 93,.nils,.int .i64 10,.nils,.int .i64 40,.int .i64 4,.int .i64 73,.str [55,50],.int .i64 120,.int .i64 0,.int .i64 4,.nils,.int .i64 5,.nils,.int .i64 1,.bool true,.int .i64<| -6,.nils,.int .i64 5,.nils] 130 (0,0))],1937⟩
theorem Aav:VA VE 1000 O0=true:=by kernel_rfl
def O1:MY:=⟨82,[.sl 1532 0 4 4 6],Dr++[(1532,.cells [.int .i64 10,.int .i64 1,.int .i64 90,.str [55,50],.int .i64 120,.int .i64 0,.int .i64 20,.int .i64 2,.int .i64 91,.str [55,50],.int .i64 120,.int .i64 0,.int .i64 30,.int .i64 3,.int .i64 95,.str [55,50],.int .i64 120,.int .i64 0,.int .i64 40,.int .i64 4,.int .i64 73,.str [55,50],.int .i64 120,.int .i64 0] 57 (0,0))],1956,.ptr 1957 0,[(1956,.map [(.int .i64 1,.int .i64 2,0),(.int .i64 2,.int .i64 2,1),(.int .i64 3,.int .i64 2,2),(.int .i64 4,.int .i64 2,3)] 4),(1957,.cells [.sl 2166 0 4 4 16,.map 1956] 134 (0,0)),(2166,.cells [.int .i64 10,.int .i64 1,.int .i64 90,.str [55,50],.int .i64 120,.int .i64 0,.int .i64 15,.nils,.int .i64 1,.nils,.int .i64 0,.bool false,.int .i64 0,.nils,.int .i64 1,.nils,.int .i64 20,.int .i64 2,.int .i64 91,.str [55,50],.int .i64 120,.int .i64 0,.int .i64 79,.nils,.int .i64 5,.nils,.int .i64 0,.bool false,.int .i64 0,.nils,.int .i64 1,.nils,.int .i64 30,.int .i64 3,.int .i64 95,.str [55,50],.int .i64 120,.int .i64 0,.int .i64 96,.nils,.int .i64 5,.nils,.int .i64 0,.bool true,.int .i64 27,.nils,.int .i64 2,.nils,.int .i64 40,.int .i64 4,.int .i64 73,.str [55,50],.int .i64 120,.int .i64 0,.int .i64 4,.nils,.int .i64 5,.nils,.int .i64 2,.bool true,.int .i64<| -11,.nils,.int .i64 5,.nils] 130 (0,0))],2334⟩
theorem Abi:VA VE 1000 O1=true:=by kernel_rfl
def OL:List MY:=[O0,O1]
theorem AbI:JI VE 1000 OL=true:=by
 simp only[OL,JI,Aav,Abi,Bool.and_self]
def CE:Ctx:=NV AcG<|cQ (dR VE 1000 OL) S73
theorem Aaa:CE.Ok prog:=IB (mX VT)<|Hm (fM VT LR Gw AbI) Ve
theorem fX:DB CE:=EL (WE LR) _
def YC:MY:=⟨35,[.sl 1546 0 4 4 0,.sl 1532 0 4 4 6],Dr++[(1546,.cells [.int .i64 10,.int .i64 1,.int .i64 90,.str [55,50],.int .i64 120,.int .i64 0,.int .i64 20,.int .i64 2,.int .i64 85,.str [55,50],.int .i64 120,.int .i64 0,.int .i64 30,.int .i64 3,.int .i64 95,.str [55,50],.int .i64 120,.int .i64 0,.int .i64 40,.int .i64 4,.int .i64 73,.str [55,50],.int .i64 120,.int .i64 0] 57 (0,0)),(1532,.cells [.int .i64 10,.int .i64 1,.int .i64 90,.str [55,50],.int .i64 120,.int .i64 0,.int .i64 20,.int .i64 2,.int .i64 91,.str [55,50],.int .i64 120,.int .i64 0,.int .i64 30,.int .i64 3,.int .i64 95,.str [55,50],.int .i64 120,.int .i64 0,.int .i64 40,.int .i64 4,.int .i64 73,.str [55,50],.int .i64 120,.int .i64 0] 57 (0,0))],1547,.tup [.sl 2367 0 3 3 1,.int .i64 0],[(2367,.cells [.int .i64 2,.int .i64 3,.int .i64 4] 3 (0,0))],2373⟩
theorem Acf:tT CE 999 YC 4 0 6=true:=by kernel_rfl
theorem Acu:tT CE 999 YC 4 1 6=true:=by kernel_rfl
theorem Acy:tT CE 999 YC 4 2 6=true:=by kernel_rfl
theorem Acz:tT CE 999 YC 4 3 6=true:=by kernel_rfl
theorem Ab0:tT CE 999 YC 4 4 6=true:=by kernel_rfl
theorem Ab5:tT CE 999 YC 4 5 6=true:=by kernel_rfl
theorem AaN:VA CE 1000 YC=true:=AaQ (id:=4) (N:=6) rfl ag af (fun j a=>match j,a with
 |0,_=>Acf
 |1,_=>Acu
 |2,_=>Acy
 |3,_=>Acz
 |4,_=>Ab0
 |5,_=>Ab5
 |j+6,h=>wh h ae) ag
def YM:List MY:=[YC]
theorem Aad:JI CE 1000 YM=true:=by
 simp only[YM,JI,AaN,Bool.and_self]
def S74:S6:=cQ (dR VE 1000 YL)<|cQ (dR CE 1000 YM) S73
theorem wY:Fe prog S74:=Hm (fM VT LR Gw Abd)<|Hm (fM Aaa fX Gw Aad) Ve
def C74:Ctx:=NV C7 S74
theorem xG:C74.Ok prog:=IB Of wY
theorem ZS:DB C74:=EL FB _
end
end Go.Det
