import Derived.Test.YtlohiljbghionaaGreatDoorX06
import Derived.Test.YtlohiljbghionaaGreatDoorX04
import Derived.Test.YtlohiljbghionaaGreatDoorX05
import Derived.Shelf.Strings.OnBuilder
import Derived.Shelf.Strconv.Itoa3
import Derived.Lib.LaidTab
import Derived.Shelf.Strings.Repeat
import Derived.Lib.AppendIntMem
/- A part of a proof (no law is stated here). Made by program out of texts by AI agents. -/
noncomputable section
set_option maxRecDepth 100000
open Nat renaming eq_of_beq_eq_true -> zc, le_of_ble_eq_true -> zf, beq -> zg, lt_of_lt_of_le -> zl, mul_le_mul_right -> zu, ble -> zw, succ_mul -> zx, le_refl -> zK, blt -> zN, add -> zX, mul_one -> yo
open List renaming mem_singleton -> zd, getElem?_eq_none -> zi, getElem?_take_of_lt -> zj, mem_of_mem_drop -> zm, take_of_length_le -> zn, getElem?_drop -> zo, mem_of_mem_take -> zt, length_append -> ye, drop_take -> yf, ext_getElem? -> yp, all_eq_true -> y8
open Bool renaming and_eq_true -> ze
open Option.some renaming injEq -> zh
open Go.Proofs.Tryz renaming prog -> zk, underlying304 -> zy, underlying5 -> zL, underlying9 -> zM, underlying251 -> zO, underlying240 -> zP, underlying262 -> zQ, underlying216 -> zR, underlying20 -> zS, zeroValue251 -> zT, zeroValue240 -> zU, zeroValue262 -> zV, zeroValue216 -> zW, underlying0 -> zY, underlying3 -> zZ, underlying4 -> z6, underlying5 -> z7, underlying9 -> z8, zeroValue20 -> ya, underlying216 -> yc, underlying251 -> yd, zeroValue0 -> yg, zeroValue3 -> yh, zeroValue4 -> yi, zeroValue5 -> yj, zeroValue9 -> yk, zeroValue216 -> ym, sizeOf251 -> yq, sizeOf240 -> yr, sizeOf262 -> yt, sizeOf216 -> yu, sizeOf20 -> yv, isAgg251 -> yw, isAgg240 -> yx, isAgg262 -> yy, isAgg216 -> yz, sizeOf0 -> y9, sizeOf3 -> qc, sizeOf4 -> qd, sizeOf5 -> qe, sizeOf9 -> qf, isAgg20 -> qg
open Option renaming map_eq_some_iff -> zp
open Go.Lib renaming decDigits -> zq, nDigits -> zz, zeros24 -> yn
open Array renaming size_replicate -> zr, getElem?_append_left -> yb, toList_inj -> y7
open Go.Det.V renaming ok -> qh
open Go.Value renaming int -> qi
open Go.Det renaming Ch -> qj
namespace Go.Det
section
open Go.Proofs.Tryz (prog)
def A7:Cy:=[(8,[],.bool true)]
theorem nQ:AS vZ 1000 A7=true:=by kernel_rfl
theorem yY:JQ prog (Ji A7):=VF rE Yh Ri nQ
end
open Go.Proofs
def FM:Go.Shelf.Ren:=⟨fun|171=>211|243=>245|246=>270|283=>271|284=>272|285=>273|286=>274|129=>228|317=>284|318=>285|319=>286|320=>287|337=>291|338=>292|n=>n,fun|3=>3|9=>9|2=>2|4=>4|171=>304|0=>0|53=>216|37=>251|5=>5|173=>306|212=>320|51=>262|20=>20|213=>321|46=>240|232=>327|233=>328|n=>n,fun|17=>5|18=>8|19=>9|n=>n⟩
theorem GR:Go.Proofs.LaysM.n171 Go.Proofs.Tryz.prog FM:=
  { mixed:=by kernel_rfl,f129:=Go.Proofs.Tryz.func228.trans (wi some<|by kernel_rfl),f171:=Go.Proofs.Tryz.func211.trans (wi some<|by kernel_rfl),f243:=Go.Proofs.Tryz.func245.trans (wi some<|by kernel_rfl),f246:=Go.Proofs.Tryz.func270.trans (wi some<|by kernel_rfl),f283:=Go.Proofs.Tryz.func271.trans (wi some<|by kernel_rfl),f284:=Go.Proofs.Tryz.func272.trans (wi some<|by kernel_rfl),f285:=Go.Proofs.Tryz.func273.trans (wi some<|by kernel_rfl),f286:=Go.Proofs.Tryz.func274.trans (wi some<|by kernel_rfl),f317:=Go.Proofs.Tryz.func284.trans (wi some<|by kernel_rfl),f318:=Go.Proofs.Tryz.func285.trans (wi some<|by kernel_rfl),f319:=Go.Proofs.Tryz.func286.trans (wi some<|by kernel_rfl),f320:=Go.Proofs.Tryz.func287.trans (wi some<|by kernel_rfl),f337:=Go.Proofs.Tryz.func291.trans (wi some<|by kernel_rfl),f338:=Go.Proofs.Tryz.func292.trans (wi some<|by kernel_rfl),t0:=zY,a0:=Go.Proofs.Tryz.isAgg0,z0:=y9,v0:=yg,t2:=Go.Proofs.Tryz.underlying2,a2:=Go.Proofs.Tryz.isAgg2,z2:=Go.Proofs.Tryz.sizeOf2,v2:=Go.Proofs.Tryz.zeroValue2,t3:=zZ,a3:=Go.Proofs.Tryz.isAgg3,z3:=qc,v3:=yh,t4:=z6,a4:=Go.Proofs.Tryz.isAgg4,z4:=qd,v4:=yi,t5:=z7,a5:=Go.Proofs.Tryz.isAgg5,z5:=qe,v5:=yj,t9:=z8,a9:=Go.Proofs.Tryz.isAgg9,z9:=qf,v9:=yk,t20:=zS,a20:=qg,z20:=yv,v20:=ya,t37:=zO,a37:=yw,z37:=yq,v37:=zT,t46:=zP,a46:=yx,z46:=yr,v46:=zU,t51:=zQ,a51:=yy,z51:=yt,v51:=zV,t53:=zR,a53:=yz,z53:=yu,v53:=zW,t171:=Go.Proofs.Tryz.underlying304,a171:=Go.Proofs.Tryz.isAgg304,z171:=Go.Proofs.Tryz.sizeOf304,v171:=Go.Proofs.Tryz.zeroValue304,t173:=Go.Proofs.Tryz.underlying306,a173:=Go.Proofs.Tryz.isAgg306,z173:=Go.Proofs.Tryz.sizeOf306,v173:=Go.Proofs.Tryz.zeroValue306,t212:=Go.Proofs.Tryz.underlying320,a212:=Go.Proofs.Tryz.isAgg320,z212:=Go.Proofs.Tryz.sizeOf320,v212:=Go.Proofs.Tryz.zeroValue320,t213:=Go.Proofs.Tryz.underlying321,a213:=Go.Proofs.Tryz.isAgg321,z213:=Go.Proofs.Tryz.sizeOf321,t232:=Go.Proofs.Tryz.underlying327,a232:=Go.Proofs.Tryz.isAgg327,z232:=Go.Proofs.Tryz.sizeOf327,v232:=Go.Proofs.Tryz.zeroValue327,t233:=Go.Proofs.Tryz.underlying328,a233:=Go.Proofs.Tryz.isAgg328,z233:=Go.Proofs.Tryz.sizeOf328,v233:=Go.Proofs.Tryz.zeroValue328,g17:=by kernel_rfl,g18:=by kernel_rfl,g19:=by kernel_rfl,i0:=by kernel_rfl,i2:=by kernel_rfl,i3:=by kernel_rfl,i4:=by kernel_rfl,i5:=by kernel_rfl,i9:=by kernel_rfl,i20:=by kernel_rfl,i37:=by kernel_rfl,i46:=by kernel_rfl,i51:=by kernel_rfl,i53:=by kernel_rfl,i171:=by kernel_rfl,i173:=by kernel_rfl,i212:=by kernel_rfl,i232:=by kernel_rfl,i233:=by kernel_rfl,m17:=by kernel_rfl,m18:=by kernel_rfl,m19:=by kernel_rfl }
open Go.Proofs.Tryz (prog)
theorem Uj(s:Z):(bytesOf s).data.toList=s:=by simp[bytesOf]
def rH:List V->List Int->Bool
 |[],[]=>true
 | .int .u64 n::l,m::r=>bif decide (n=m)then rH l r else false
 |_,_=>false
theorem VG{p:Pl}:∀ {cs:List V} {r:List Int} {vs:List Value},rH cs r=true->Aq p cs vs->vs=r.map fun z=>qi .u64 z
 |[],[],vs,_,h=>by simpa using h
 | .int .u64 n::l,m::r,vs,a,h=>by
  unfold rH at a;cases b:decide (n=m)with
  |false=>rw[b]at a;cases a
  |true=>
   rw[b]at a;have e:=w6 b;subst e;cases vs with
   |nil=>simp at h
   |cons v vs=>
    simp only[A5,Ab]at h;rw[h.1,VG a h.2];rfl
def W5(h:H):Bool:=match h.get 5 with
 |some (.cells cs _ _)=>rH cs Lib.pow10Tab
 |_=>false
def lZ:List V->H->Option (V×H)
 |[.int .i64 n],h=>bif W5 h&&decide (-9223372036854775808<=n)&&decide (n<=9223372036854775807)then some (.str<|Lib.itoa n,h)else none
 |_,_=>none
def Yw:Ur:=fun f=>bif zg f 211 then some lZ else none
theorem dE:∀ {cs:List V} {r:List Int},rH cs r=true->cs.length=r.length/\∀d∈cs,d.ok=true
 |[],[],_=>⟨rfl,fun d a=>by cases a⟩
 | .int .u64 n::l,m::r,b=>by
  unfold rH at b;cases a:decide (n=m)with
  |false=>rw[a]at b;cases b
  |true=>
   rw[a]at b;obtain⟨c,e⟩:=dE (cs:=l) (r:=r) b;refine⟨by simp[c],fun d a=>?_⟩;rcases List.mem_cons.1 a with rfl|a
   ·rfl
   ·exact e d a
theorem oM : prog.globalNamed "internal/strconv.uint64pow10" = some 5 := by kernel_rfl
theorem zB{p:Pl}(a:Gp p):p[5]?=some (5,20):=a _<|List.mem_cons_self ..
theorem WO {p : Pl} {h : H} {w : World} (k : R p h w) (f : Gp p) (a : W5 h = true) : Lib.TabIs prog w "internal/strconv.uint64pow10" .u64 Lib.pow10Tab := by
 unfold W5 at a;split at a
 case h_2=>cases a
 rename_i cs t fz j;obtain⟨r,n,x,d,g,c,fz',rfl,l,o,e,_⟩:=k.obj 5 _ j;rw[zB f]at d;cases d;obtain⟨e1,e2⟩:=dE a;have m:cs.length=20:=e1.trans rfl;have b:c.toList.take cs.length=c.toList:=zn (by simp;omega);rw[b]at e;have i:=VG a (e.Mn e2);unfold Lib.TabIs World.var?;rw[oM];show(match w.heap[5]? with
  |some (.cells cs _ _)=>some cs
  |_=>none)=_
 rw[g];show some c=_;rw[<-i]
theorem aB:JQ prog Yw:=by
 intro f q c p h w args args' v h' i l m a;unfold Yw at c;cases d:zg f 211 with
 |false=>rw[d]at c;cases c
 |true=>
  rw[d]at c;cases c;cases zc d;unfold lZ at a;split at a
  case h_2=>cases a
  rename_i n;cases b:(W5 h&&decide (-9223372036854775808<=n)&&decide (n<=9223372036854775807))with
  |false=>rw[b]at a;cases a
  |true=>
   rw[b]at a;cases a;rw[ze,ze,w5,w5]at b;obtain⟨x,r,g⟩:=m.one;have:args'= #[x]:=y7.1 r;subst this;simp only[Ab]at g;subst g;refine(Any.strconv_Itoa GR n b.1.2 b.2 w<|WO i l b.1.1).mono ?_;rintro e w' ⟨rfl,k,os,rfl⟩;exact⟨_,p,rfl,by simp only[Ab];rfl,La i ⟨rfl,rfl,rfl,by show w.heap.size<=(w.heap++os).size;rw[Array.size_append];omega,fun j o=>by show(w.heap++os)[j]?=_;exact yb o⟩⟩
end Go.Det
namespace Go.Det
open Go.Proofs
def I6:Go.Shelf.Ren:=⟨fun|105=>214|212=>251|99=>173|165=>252|166=>215|170=>253|169=>216|263=>275|264=>177|206=>204|240=>254|241=>276|276=>277|277=>288|n=>n,fun|9=>9|3=>3|4=>4|20=>20|0=>0|46=>240|109=>281|5=>5|72=>253|76=>214|51=>262|146=>295|53=>216|148=>217|70=>250|37=>251|75=>213|127=>284|164=>309|80=>226|n=>n,fun|n=>n⟩
theorem XJ:Go.Proofs.Lays.n105 Go.Proofs.Tryz.prog I6:=
  { mixed:=by kernel_rfl,f99:=Go.Proofs.Tryz.func173.trans (wi some<|by kernel_rfl),f105:=Go.Proofs.Tryz.func214.trans (wi some<|by kernel_rfl),f165:=Go.Proofs.Tryz.func252.trans (wi some<|by kernel_rfl),f166:=Go.Proofs.Tryz.func215.trans (wi some<|by kernel_rfl),f169:=Go.Proofs.Tryz.func216.trans (wi some<|by kernel_rfl),f170:=Go.Proofs.Tryz.func253.trans (wi some<|by kernel_rfl),f206:=Go.Proofs.Tryz.func204.trans (wi some<|by kernel_rfl),f212:=Go.Proofs.Tryz.func251.trans (wi some<|by kernel_rfl),f240:=Go.Proofs.Tryz.func254.trans (wi some<|by kernel_rfl),f241:=Go.Proofs.Tryz.func276.trans (wi some<|by kernel_rfl),f263:=Go.Proofs.Tryz.func275.trans (wi some<|by kernel_rfl),f264:=Go.Proofs.Tryz.func177.trans (wi some<|by kernel_rfl),f276:=Go.Proofs.Tryz.func277.trans (wi some<|by kernel_rfl),f277:=Go.Proofs.Tryz.func288.trans (wi some<|by kernel_rfl),t0:=zY,a0:=Go.Proofs.Tryz.isAgg0,z0:=y9,v0:=yg,t3:=zZ,a3:=Go.Proofs.Tryz.isAgg3,z3:=qc,v3:=yh,t4:=z6,a4:=Go.Proofs.Tryz.isAgg4,z4:=qd,v4:=yi,t5:=z7,a5:=Go.Proofs.Tryz.isAgg5,z5:=qe,v5:=yj,t9:=z8,a9:=Go.Proofs.Tryz.isAgg9,z9:=qf,v9:=yk,t20:=zS,a20:=qg,z20:=yv,v20:=ya,t37:=zO,a37:=yw,z37:=yq,v37:=zT,t46:=zP,a46:=yx,z46:=yr,v46:=zU,t51:=zQ,a51:=yy,z51:=yt,v51:=zV,t53:=zR,a53:=yz,z53:=yu,v53:=zW,t70:=Go.Proofs.Tryz.underlying250,a70:=Go.Proofs.Tryz.isAgg250,z70:=Go.Proofs.Tryz.sizeOf250,v70:=Go.Proofs.Tryz.zeroValue250,t72:=Go.Proofs.Tryz.underlying253,a72:=Go.Proofs.Tryz.isAgg253,z72:=Go.Proofs.Tryz.sizeOf253,v72:=Go.Proofs.Tryz.zeroValue253,t75:=Go.Proofs.Tryz.underlying213,a75:=Go.Proofs.Tryz.isAgg213,z75:=Go.Proofs.Tryz.sizeOf213,v75:=Go.Proofs.Tryz.zeroValue213,t76:=Go.Proofs.Tryz.underlying214,a76:=Go.Proofs.Tryz.isAgg214,z76:=Go.Proofs.Tryz.sizeOf214,v76:=Go.Proofs.Tryz.zeroValue214,t109:=Go.Proofs.Tryz.underlying281,a109:=Go.Proofs.Tryz.isAgg281,z109:=Go.Proofs.Tryz.sizeOf281,v109:=Go.Proofs.Tryz.zeroValue281,t127:=Go.Proofs.Tryz.underlying284,a127:=Go.Proofs.Tryz.isAgg284,z127:=Go.Proofs.Tryz.sizeOf284,v127:=Go.Proofs.Tryz.zeroValue284,t146:=Go.Proofs.Tryz.underlying295,a146:=Go.Proofs.Tryz.isAgg295,z146:=Go.Proofs.Tryz.sizeOf295,v146:=Go.Proofs.Tryz.zeroValue295,t148:=Go.Proofs.Tryz.underlying217,a148:=Go.Proofs.Tryz.isAgg217,z148:=Go.Proofs.Tryz.sizeOf217,v148:=Go.Proofs.Tryz.zeroValue217,t164:=Go.Proofs.Tryz.underlying309,a164:=Go.Proofs.Tryz.isAgg309,z164:=Go.Proofs.Tryz.sizeOf309,v164:=Go.Proofs.Tryz.zeroValue309 }
theorem eR:Builder.Extra zk I6:=
  { sizeBuilder:=by kernel_rfl,liesBuilder:=by kernel_rfl,t5:=zL,a5:=Tryz.isAgg5,z5:=Tryz.sizeOf5,v5:=Tryz.zeroValue5,infoByte:=by kernel_rfl,cellsByte:=by kernel_rfl,sizeByte:=by kernel_rfl,neB5:=by decide }
open Go.Proofs.Tryz (prog)
def Vv:List V->H->Option (V×H)
  |[.str s,.int .i64<|.ofNat c],h=>bif zw c 9223372036854775807&&zw (EC s*c) 140737488355328 then some (.str<|Lib.repeatL s c,h)else none
  |_,_=>none
def Rv:Ur:=fun f=>bif zg f 214 then some Vv else none
theorem UM:JQ prog Rv:=by
  intro f q b p h w args args' v h' o t n a
  unfold Rv at b
  cases g:zg f 214 with
  |false=>rw[g]at b;cases b
  |true=>
    rw[g]at b;cases b
    cases zc g
    unfold Vv at a
    split at a
    case h_2=>cases a
    rename_i s c
    cases d:(zw c 9223372036854775807&&zw (EC s*c) 140737488355328)with
    |false=>rw[d]at a;cases a
    |true=>
      rw[d]at a;cases a
      rw[ze]at d
      have m:=zf d.1
      have k:=zf d.2
      rw[CQ]at k
      obtain⟨x,y,r,j,l⟩:=n.two
      have:args'= #[x,y]:=y7.1 r
      subst this
      simp only[Ab]at j l;subst j l
      refine(Any.strings_Repeat XJ eR (bytesOf s) c w m<|by rw[Bv];exact k).mono ?_
      rintro e w' ⟨rfl,i⟩
      exact⟨_,p,rfl,by simp only[Ab];rw[Uj];rfl,La o i⟩
end Go.Det
namespace Go.Proofs
open Go.Shelf Go.RowKit Go.Sort Go.Lib Go.Det
namespace FmtU
set_option maxHeartbeats 6400000 in
theorem small(i:Nat)(q:i<100)(w:World):Calls zk 250 #[.int .u64 i,.int .i64 10] w fun e w'=>e=.returned (.string ⟨(zq i).toArray⟩)/\w'=w:=by
 have mixed:=GR.mixed;have t3:=Tryz.underlying3;have a3:=Tryz.isAgg3;have z3:=Tryz.sizeOf3;have v3:=Tryz.zeroValue3;have t9:=zM;have a9:=Tryz.isAgg9;have z9:=Tryz.sizeOf9;have v9:=Tryz.zeroValue9;have t4:=Tryz.underlying4;have a4:=Tryz.isAgg4;have z4:=Tryz.sizeOf4;have v4:=Tryz.zeroValue4;have n:=yc;have b:=Tryz.isAgg216;have d:=Tryz.sizeOf216;have o:=ym;have j:=zy;have a:=Tryz.isAgg304;have c:=Tryz.sizeOf304;have p:=Tryz.zeroValue304;have t0:=Tryz.underlying0;have a0:=Tryz.isAgg0;have z0:=Tryz.sizeOf0;have v0:=Tryz.zeroValue0;have g:=yd;have f:=Tryz.isAgg251;have m:=Tryz.sizeOf251;have k:=Tryz.zeroValue251;have t5:=zL;have a5:=Tryz.isAgg5;have z5:=Tryz.sizeOf5;have v5:=Tryz.zeroValue5;have l:∀args w,(callFunc 271 args).run zk w=.ok (.enter 271 args) w:=enters_of Tryz.func271 (by kernel_rfl) rfl;go_enter Tryz.func250,Tryz.ntmps250
 go_wp2_with (go_at_fn 271;refine(Any.internal_strconv_small (ρ:=FM) { GR with } i q _).mono ?_;rintro e w' ⟨rfl,rfl⟩)
 go_ret
 exact⟨rfl,rfl⟩
set_option maxHeartbeats 6400000 in
theorem rY (u : Nat) (Q : 100 <= u) (a : u < 18446744073709551616) (w : World) (l : Lib.TabIs Tryz.prog w "internal/strconv.uint64pow10" .u64 Lib.pow10Tab) :
  Calls zk 250 #[.int .u64 u,.int .i64 10] w fun e w'=>e=.returned (.string ⟨(zq u).toArray⟩)/\∃k os,w'=grow (w.drewN k) os:=by
 have mixed:=GR.mixed;have t3:=Tryz.underlying3;have a3:=Tryz.isAgg3;have z3:=Tryz.sizeOf3;have v3:=Tryz.zeroValue3;have t9:=zM;have a9:=Tryz.isAgg9;have z9:=Tryz.sizeOf9;have v9:=Tryz.zeroValue9;have t4:=Tryz.underlying4;have a4:=Tryz.isAgg4;have z4:=Tryz.sizeOf4;have v4:=Tryz.zeroValue4;have G:=yc;have s:=Tryz.isAgg216;have x:=Tryz.sizeOf216;have I:=ym;have A:=zy;have q:=Tryz.isAgg304;have t:=Tryz.sizeOf304;have J:=Tryz.zeroValue304;have t0:=Tryz.underlying0;have a0:=Tryz.isAgg0;have z0:=Tryz.sizeOf0;have v0:=Tryz.zeroValue0;have z:=yd;have y:=Tryz.isAgg251;have E:=Tryz.sizeOf251;have D:=Tryz.zeroValue251;have t5:=zL;have a5:=Tryz.isAgg5;have z5:=Tryz.sizeOf5;have v5:=Tryz.zeroValue5;have r:∀args w,(callFunc 272 args).run zk w=.ok (.enter 272 args) w:=enters_of Tryz.func272 (by kernel_rfl) rfl;have v:∀args w,(callFunc 273 args).run zk w=.ok (.enter 273 args) w:=enters_of Tryz.func273 (by kernel_rfl) rfl;have f:1<=u:=by omega
 have n:zz u<=20:=by have:=Lib.numDigits_eq u f a;split at this<;>omega
 have g:zk.arrayLen 304=24:=by simp[Program.arrayLen,zy]
 have M:∀W,(Instr.sliceAt 304 (.pointer (some ⟨w.heap.size,0,none⟩)) none (some (.int .i64 (zz u:Int))) none).run zk W=.ok (.slice (some ⟨w.heap.size,0,none⟩) (zz u) 24) W:=fun W=>by
  rw[run_sliceAt_array_h W 304 ⟨w.heap.size,0,none⟩ (by simp[Program.arrayLen,Program.elem,zy]) .i64 (zz u:Int) (by omega) (by rw[g];omega)];go_simp
 have d:=Lib.holds_zero0 w 304 (zz u) (by omega);have c:=Any.internal_strconv_formatBase10 (ρ:=FM) (P:=zk) { GR with } w.heap.size 0 24 u (Array.replicate (zz u) 0) (w.alloc (.cells yn 304)) d (by rw[zr];exact Lib.lt_pow_nDigits u) a (by rw[zr];omega);rw[zr]at c;have o:=Lib.hid d;have O:(100:Int)<=(u:Int):=by omega
 clear d g;go_enter Tryz.func250,Tryz.ntmps250
 go_wp2_with (first
  |(go_at_fn 272;refine(Any.internal_strconv_numDigits (ρ:=FM) { GR with } u f a _ (Lib.tabIs_alloc l _)).mono ?_;rintro e w' ⟨rfl,rfl⟩))
 go_at_fn 273
 refine c.mono ?_;rintro e w' ⟨rfl,k,v',i,rfl,p⟩;have K:(convert 251 9 (.slice (some ⟨w.heap.size,0,none⟩) (zz u) 24)).run zk ((putRow (fun(b:UInt8)=>qi .u8 (b.toNat:Int)) (w.alloc (.cells yn 304)) w.heap.size 0 i).drewN k)=.ok (.string ⟨(zq u).toArray⟩) ((putRow (fun(b:UInt8)=>qi .u8 (b.toNat:Int)) (w.alloc (.cells yn 304)) w.heap.size 0 i).drewN k):=by
  have h:=run_convert_bytes_back (P:=zk) ((putRow (fun(b:UInt8)=>qi .u8 (b.toNat:Int)) (w.alloc (.cells yn 304)) w.heap.size 0 i).drewN k) 251 9 5 ⟨w.heap.size,0,none⟩ 24 (zq u) yd zL zM (fun j m=>by
   rw[Lib.row_is_numeral p j m,Lib.add_plain,World.cell?_drewN];exact cell?_putRow (fun(b:UInt8)=>qi .u8 (b.toNat:Int)) _ w.heap.size 0 _ i o.out (by rw[p.size,zr]) j (by rw[p.size];rw[Lib.decDigits_length]at m;exact m))
  rw[Lib.decDigits_length]at h;exact h
 go_wp2
 go_ret
 obtain⟨os,L⟩:=Lib.fin_at w (.cells yn 304) i k 0;exact⟨rfl,k,os,L⟩
theorem all (u : Nat) (b : u < 18446744073709551616) (w : World) (a : Lib.TabIs Tryz.prog w "internal/strconv.uint64pow10" .u64 Lib.pow10Tab) :
  Calls zk 250 #[.int .u64 u,.int .i64 10] w fun e w'=>e=.returned (.string ⟨(zq u).toArray⟩)/\∃k os,w'=grow (w.drewN k) os:=by
 by_cases h:u<100
 ·exact(small u h w).mono fun e w' ⟨c,d⟩=>⟨c,0, #[],by rw[d];simp[World.drewN_zero]⟩
 ·exact rY u (by omega) b w a
theorem outer (u : Nat) (a : u < 18446744073709551616) (w : World) (b : Lib.TabIs Tryz.prog w "internal/strconv.uint64pow10" .u64 Lib.pow10Tab) :
  Calls zk 213 #[.int .u64 u,.int .i64 10] w fun e w'=>e=.returned (.string ⟨(zq u).toArray⟩)/\∃k os,w'=grow (w.drewN k) os:=by
 have mixed:=GR.mixed;have t3:=Tryz.underlying3;have a3:=Tryz.isAgg3;have z3:=Tryz.sizeOf3;have v3:=Tryz.zeroValue3;have t9:=zM;have a9:=Tryz.isAgg9;have z9:=Tryz.sizeOf9;have v9:=Tryz.zeroValue9;have f:=yc;have c:=Tryz.isAgg216;have g:=Tryz.sizeOf216;have i:=ym;have d:∀args w,(callFunc 250 args).run zk w=.ok (.enter 250 args) w:=enters_of Tryz.func250 (by kernel_rfl) rfl;go_enter Tryz.func213,Tryz.ntmps213
 go_wp2_with (go_at_fn 250;refine(all u a _ b).mono ?_;rintro e w' ⟨rfl,k,os,rfl⟩)
 go_ret
 exact⟨rfl,k,os,rfl⟩
end FmtU
end Go.Proofs
namespace Go.Det
open Go.Proofs
open Go.Proofs.Tryz (prog)
def fmtQ:List V->H->Option (V×H)
 |[.int .u64<|.ofNat n,.int .i64<|.ofNat b],h=>bif W5 h&&(zw n 18446744073709551615&&zg b 10)then some (.str<|zq n,h)else none
 |_,_=>none
def fmtS:Ur:=fun f=>bif zg f 213 then some fmtQ else none
theorem jI:JQ prog fmtS:=by
 intro f q c p h w args args' v h' l m r a;unfold fmtS at c;cases g:zg f 213 with
 |false=>rw[g]at c;cases c
 |true=>
  rw[g]at c;cases c;cases zc g;unfold fmtQ at a;split at a
  case h_2=>cases a
  rename_i n b;cases d:(W5 h&&(zw n 18446744073709551615&&zg b 10))with
  |false=>rw[d]at a;cases a
  |true=>
   rw[d]at a;cases a;rw[ze,ze]at d;obtain⟨o,i,t⟩:=d;have i:=zf i;cases zc t;obtain⟨x,y,hl,g1,g2⟩:=r.two;have:args'= #[x,y]:=y7.1 hl;subst this;simp only[Ab]at g1 g2;subst g1 g2;refine(FmtU.outer n (by omega) w<|WO l m o).mono ?_;rintro e w' ⟨rfl,k,os,rfl⟩;exact⟨_,p,rfl,by simp only[Ab];rfl,La l ⟨rfl,rfl,rfl,by show w.heap.size<=(w.heap++os).size;rw[Array.size_append];omega,fun j s=>by show(w.heap++os)[j]?=_;exact yb s⟩⟩
end Go.Det
namespace Go.Pe
open Go.Det
@[reducible] def Bw:List Sh->Sh
 |[]=>.unit
 |[a]=>a
 |a::b::l=>.pair a<|Bw (b::l)
def Ae:(l:List Sh)->(Bw l).T->List PV
 |[],_=>[]
 |[a],x=>[B1 a x]
 |a::b::l,x=>B1 a x.1::Ae (b::l) x.2
structure Au where
 ins:List Sh
 pre:(Bw ins).T->Bool
 outs:List Sh
 f:(Bw ins).T->(Bw outs).T
 nd:Bool:=false
def Sh.sc:Sh->Bool
 | .int _| .bool| .str| .unit| .fnv=>true
 | .list _| .nlist _| .ptr _=>false
 | .pair a b=>a.sc&&b.sc
structure WN where
 ins:List Sh
 ty:TypeId
 el:Sh
 pre:(Bw ins).T->List el.T->Bool
 g:(Bw ins).T->List el.T->List el.T
structure AW where
 C:Ctx
 sp:FuncId->Option Au
 pl:FuncId->Nat->List Nat
 ct:FuncId->Nat->Bool
 fz:FuncId->Nat->List (Nat×Sh)
 ws:FuncId->Option WN:=fun _=>none
 esc:List FuncId:=[]
 escOk:∀g∈esc,C.prim g=some PK.noEsc.run:=by intro g h;cases h
def E7(st:AG)(s:Sh)(p:PV):Option (Bool×s.T):=
 bif Kk p==s.O5 then
  match Dv st p.cells with
  |some (c,cs)=>match CP s (Kx s.leaves cs).2 with
   |some x=>some ((Kx s.leaves cs).1&&c,x)
   |none=>none
  |none=>none
 else none
def D6(st:AG):(l:List Sh)->List PV->Option (Bool×(Bw l).T)
 |[],[]=>some (true,())
 |[a],[p]=>E7 st a p
 |a::b::l,p::ps=>match E7 st a p,D6 st (b::l) ps with
  |some (c,x),some (d,y)=>some (c&&d,(x,y))
  |_,_=>none
 |_,_=>none
def one:List PV->PV
 |[v]=>v
 |l=>.tup l
def Ze(sp:Au)(args:List PV)(st:AG)(k:PV->AG->Tr):Tr:=
 match D6 st sp.ins args with
 |some (c,i)=>.ite (c&&sp.pre i) (k (one<|Ae sp.outs<|sp.f i)<|bif sp.outs.all Sh.sc then st else Bg (args.flatMap PV.cells) st) .fail
 |none=>.fail
def Uz(w:WN)(args:List PV)(st:AG)(k:PV->AG->Tr):Tr:=
 match args.reverse with
 | .sl id sz 0 n none::r=>match D6 st w.ins r.reverse,(Bg (r.reverse.flatMap PV.cells) st).obj id with
  |some (c,i),some (.arr false t s l)=>bif zg t w.ty then
    match Dr (.list s) (.list w.el) l with
    |some l'=>.ite (c&&w.pre i l'&&decide (n=List.length (α:=w.el.T) l')&&zg sz w.el.sz) (k (.tup [])<|(Bg (r.reverse.flatMap PV.cells) st).setObj id<|.arr false w.ty w.el<|w.g i l') .fail
    |none=>.fail
   else .fail
  |_,_=>.fail
 | .nil::r=>match D6 st w.ins r.reverse with
  |some (c,i)=>.ite (c&&w.pre i []) (k (.tup [])<|Bg (r.reverse.flatMap PV.cells) st) .fail
  |none=>.fail
 |_=>.fail
mutual
def wG:PV->List Nat
 | .ptr id _| .eptr id _ _ _| .sl id _ _ _ _| .mp id| .yl id=>[id]
 | .agg l| .tup l=>Jg l
 | .fn _ a b=>Jg a++Jg b
 |_=>[]
def Jg:List PV->List Nat
 |[]=>[]
 |v::vs=>wG v++Jg vs
end
def tP:Obj->List Nat
 | .box cs=>Jg cs
 | .tbox _ cs=>Jg cs
 | .lp _ _ _ _ _ _ _ sl=>Jg (sl.map (·.2))
 |_=>[]
def HP(st:AG)(base:Nat):Nat->List Nat->List Nat->List Nat
 |0,_,acc=>acc
 |_+1,[],acc=>acc
 |f+1,i::a,acc=>bif zN i base||acc.any (zg i)then HP st base f a acc
  else match st.obj i with
   |some o=>HP st base f (a++tP o)<|acc++[i]
   |none=>HP st base f a acc
def OT(base:Nat):List Nat->Nat->Nat->Option Nat
 |[],_,i=>bif zN i base then some i else none
 |j::a,n,i=>bif zg i j then some n else OT base a (zX n 1) i
mutual
def Fp(f:Nat->Option Nat):PV->PV
 | .ptr i o=>match f i with|some j=>.ptr j o|none=>.any
 | .eptr i a b c=>match f i with|some j=>.eptr j a b c|none=>.any
 | .sl i a b c d=>match f i with|some j=>.sl j a b c d|none=>.any
 | .mp i=>match f i with|some j=>.mp j|none=>.any
 | .yl i=>match f i with|some j=>.yl j|none=>.any
 | .agg l=>.agg<|I4 f l
 | .tup l=>.tup<|I4 f l
 | .fn g a b=>.fn g (I4 f a)<|I4 f b
 |v=>v
def I4(f:Nat->Option Nat):List PV->List PV
 |[]=>[]
 |v::vs=>Fp f v::I4 f vs
end
def QL(f:Nat->Option Nat):Obj->Obj
 | .box cs=>.box<|I4 f cs
 | .tbox t cs=>.tbox t<|I4 f cs
 | .lp g r ps asg body s n sl=>.lp g r ps asg body s n<|sl.map fun x=>(x.1,Fp f x.2)
 |o=>o
def low(f:Nat->Option Nat)(base:Nat):Ob->Ob
 |[]=>[]
 |(i,o)::l=>bif zN i base then(i,QL f o)::low f base l else low f base l
def kept(st:AG)(f:Nat->Option Nat):List Nat->Nat->Ob->Ob
 |[],_,a=>a
 |j::b,n,a=>match st.obj j with
  |some o=>kept st f b (zX n 1) ((n,QL f o)::a)
  |none=>kept st f b (zX n 1) a
def MS(base:Nat):Ob->List Nat
 |[]=>[]
 |(i,o)::l=>bif zN i base then tP o++MS base l else MS base l
def Ax(n:Nat)(vs:List (Nat×PV))(ob:Ob)(nx:Nat):AG:=⟨n,ES vs,ob,nx⟩
def canon(base:Nat)(L:List Nat)(st:AG):AG:=
 let vs:=L.map fun t=>(t,st.get t)
 let a:=HP st base 100 (Jg (vs.map (·.2))++MS base st.ob) []
 let f:=OT base a base
 Ax st.n (vs.map fun x=>(x.1,Fp f x.2)) (kept st f a base<|low f base st.ob) (zX base a.length)
def jD(base:Nat)(x:Nat×Sh)(st:AG):AG:=
 match st.get x.1 with
 | .nil=>st.set x.1<|.dat (.list x.2) []
 | .sl id sz off len _=>match st.obj id with
  |some (.arr _ e s l)=>bif zg sz s.sz then(st.setObj id<|.arr true e s l).set x.1 (.dat (.list s)<|(l.drop off).take len)else st
  |_=>st
 | .ptr id 0=>bif zw base id then match st.obj id with
   |some (.box ps)=>match CP x.2 ps with
    |some v=>(st.N6 id).set x.1<|.D7 x.2 v 0
    |none=>st
   |_=>st
  else st
 |_=>st
def jP(base:Nat):List (Nat×Sh)->AG->AG
 |[],st=>st
 |x::l,st=>jP base l<|jD base x st
def CW:Code->Nat
 | .region id _ _=>id
 | .seq a _=>CW a
 | .block _ b=>CW b
 | .loop b=>CW b
 | .scope b=>CW b
 |_=>0
def Ng(X:AW)(f:FuncId)(r:Nat)(base:Nat)(st:AG):AG:=canon base (X.pl f r)<|jP base (X.fz f r) st
inductive pZ where
 |fn (g:FuncId)
 |rnd (id:Nat)
abbrev Fa:=pZ->List PV->AG->(PV->AG->Tr)->Tr
def OP(d:Option Nat)(k:AG->Tr):PO->Tr
 | .bad=>.fail
 | .val v st=>match st.put d v with
  |some st'=>k st'
  |none=>.fail
 | .ite c a b=>.ite c (OP d k a)<|OP d k b
inductive CK where
 |no
 |bad
 |yes (g:pZ) (args:List PV)
def Jz(st:AG)(o:Op):CK:=
 match o with
 | .call c=>match c.callee with
  | .value f=>match Pf st f,K8 st c.args.toList with
   |some (.fn (.func g) first cap),some args=>.yes (.fn g)<|first++args++cap
   |some (.yl id),some args=>.yes (.rnd id) args
   |_,_=>.bad
  |_=>.no
 |_=>.no
def Hd(T:BR)(call:Fa)(o:Oper)(st:AG)(k:AG->Tr):Tr:=
 match Jz st o.op with
 | .yes g args=>call g args st fun v st=>match st.put o.dst v with
  |some st'=>k st'
  |none=>.fail
 | .bad=>.fail
 | .no=>OP o.dst k<|pop o.op T st
def RG(T:BR)(st:AG)(o:Op):Option (PV×AG):=
 match o with
 | .convert s d x=>match T.und s,T.und d,Pf st x with
  |some .string,some<|.slice e,some (.dat .str l)=>match T.und e with
   |some (.int .u8)=>some (.sl st.nx 1 0 (List.length l) none,st.push<|.arr false e (.int .u8)<|List.map (fun b:UInt8=>(b.toNat:Int)) l)
   |_=>none
  |_,_,_=>none
 |_=>none
def oP(T:BR)(st:AG)(o:Op):Option PV:=
 match o with
 | .convert s d x=>match T.und s,T.und d,Pf st x with
  |some (.pointer t),some .unsafePointer,some (.ptr id off)=>match T.inf t,st.obj id with
   |some i,some (.tbox _ cs)=>bif zN 0 i.size&&zN off (EC cs)then some (.ptr id off)else none
   |_,_=>none
  |some .unsafePointer,some<|.pointer u,some (.ptr id off)=>match T.inf u,st.obj id with
   |some i,some (.tbox e cs)=>bif zN 0 i.size&&zw i.size (EC cs)&&zg e u&&zg off 0 then some (.ptr id 0)else none
   |_,_=>none
  |_,_,_=>none
 |_=>none
def Va(T:BR)(st:AG)(o:Op):Option (PV×AG):=
 match RG T st o with
 |some r=>some r
 |none=>match oP T st o with
  |some v=>some (v,st)
  |none=>none
def nB(T:BR)(call:Fa)(o:Oper)(st:AG)(k:AG->Tr):Tr:=
 match Va T st o.op with
 |some (v,b)=>match b.put o.dst v with
  |some a=>k a
  |none=>.fail
 |none=>Hd T call o st k
def guarded(ops:Array Oper)(o:Oper)(st:AG)(yes no:AG->Tr):Tr:=
 match o.guard with
 |none=>yes st
 |some (j,a)=>match (ops[j]?).bind (·.dst)with
  |some t=>bif zN t st.n then(match st.get t with
   | .bl b=>bif b==a then yes st else no st
   | .dat .bool b=>bif a then .ite b (yes<|st.set t<|.bl true) (no<|st.set t<|.bl false)else .ite b (no<|st.set t<|.bl true)<|yes<|st.set t<|.bl false
   | .tup _=>no st
   | .ub=>.both (bif a then yes (st.set t<|.bl true)else no<|st.set t<|.bl true)<|bif a then no (st.set t<|.bl false)else yes<|st.set t<|.bl false
   |_=>.fail)else .fail
  |none=>.fail
def Lq(o:Oper)(k:AG->Tr)(st:AG):Tr:=
 match st.put o.dst (.tup [])with
 |some st'=>k st'
 |none=>.fail
def prun(T:BR)(call:Fa)(ops:Array Oper):List Oper->AG->(AG->Tr)->Tr
 |[],st,k=>k st
 |o::a,st,k=>guarded ops o st
   (fun st=>nB T call o st fun st'=>prun T call ops a st' k)
   (fun st=>Lq o (fun st'=>prun T call ops a st' k) st)
def gV(st:AG)(o:Op):Option (List Nat):=
 match o with
 | .load _ x=>match Pf st x with
  |some (.ptr id _)|some (.eptr id _ _ _)=>some [id]
  |some (.D7 _ _ _)=>some []
  |_=>none
 | .convert _ _ x=>match Pf st x with
  |some (.dat (.int _) _)|some (.dat .str _)=>some []
  |_=>none
 | .call c=>match c.callee,K8 st c.args.toList with
  | .builtin .len,some [.dat _ _]| .builtin .len,some [.sl _ _ _ _ _]| .builtin .len,some [.nil]=>some []
  | .builtin .len,some [.mp id]=>some [id]
  |_,_=>none
 | .lookup _ x _ _=>match Pf st x with
  |some (.mp id)=>some [id]
  |some .nilm=>some []
  |_=>none
 |_=>none
def Gj(sp:FuncId->Option Au)(st:AG)(o:Op):Option (List Nat):=
 match o with
 | .store _ x _=>match Pf st x with
  |some (.ptr id _)|some (.eptr id _ _ _)=>some [id]
  |_=>none
 | .mapUpdate _ x _ _| .insert _ x _ _=>match Pf st x with
  |some (.mp id)=>some [id]
  |_=>none
 | .makeMap _ _| .makeSlice _ _ _=>some []
 | .call c=>match c.callee with
  | .value f=>match Pf st f with
   |some (.fn (.func g) _ _)=>match sp g with
    |some _=>some []
    |none=>none
   |_=>none
  | .builtin .append=>match K8 st c.args.toList with
   |some (.sl id _ _ _ _::_)=>some [id]
   |some _=>some []
   |none=>none
  | .builtin .delete=>match K8 st c.args.toList with
   |some (.mp id::_)=>some [id]
   |_=>none
  | .builtin .unsafeString=>match K8 st c.args.toList with
   |some (.eptr id _ _ _::_)=>some [id]
   |_=>none
  |_=>none
 |_=>none
abbrev Rs:=List<|Nat×Option (List Nat)
def WZ:Option (List Nat)->Option (List Nat)->Bool
 |some a,some b=>a.all fun i=> !(b.any<|zg i)
 |some [],none=>true
 |_,_=>false
def Kr(st:AG):Option (List Nat)->Bool
 |some l=>l.all fun i=>Hu<|st.obj i
 |none=>false
def apart(anc:Nat->Nat->Bool)(i:Nat)(st:AG)(t:Option (List Nat))(a:Rs):Bool:=a.all fun r=>anc i r.1||(WZ r.2 t&&Kr st r.2)
def behind(st:AG)(t:Option (List Nat))(a:Rs):Rs:=a.map fun r=>bif WZ r.2 t&&Kr st r.2 then r else(r.1,none)
def ZV(st:AG)(o:Op):Bool:=match Jz st o with
 | .yes (.rnd _) _=>false
 |_=>true
def Jf(T:BR)(sp:FuncId->Option Au)(call:Fa)(ops:Array Oper)(anc:Nat->Nat->Bool):List Nat->AG->Rs->(AG->Tr)->Tr
 |[],st,_,k=>k st
 |i::b,st,a,k=>match ops[i]? with
  |none=>.fail
  |some o=>guarded ops o st
    (fun st=>bif DW o then Hd T call o st (fun st'=>Jf T sp call ops anc b st' (bif Ol o then(i,gV st o.op)::a else a) k)
     else bif Ce o then Hd T call o st (fun st'=>Jf T sp call ops anc b st' a k)
     else bif apart anc i st (Gj sp st o.op) a&&ZV st o.op then Hd T call o st (fun st'=>Jf T sp call ops anc b st' (behind st (Gj sp st o.op) a) k)else .fail)
    (fun st=>bif Cw o then(bif apart anc i st (some []) a then Lq o (fun st'=>Jf T sp call ops anc b st' (behind st (some []) a) k) st else .fail)
     else Lq o (fun st'=>Jf T sp call ops anc b st' a k) st)
def exec(X:AW)(call c:Fa)(nd ro:Bool)(d:Nat)(f:FuncId)(base:Nat):Code->AG->(DX->AG->Tr)->Tr
 | .skip,st,k| .label _,st,k=>k .normal st
 | .region _ ops dr,st,k=>bif dr then(bif !ro||Hm ops (Ed ops)then Jf X.C.T X.sp c ops (Ed ops).a (Ed ops).ord st [] (k .normal)else .fail)else prun X.C.T call ops ops.toList st<|k .normal
 | .seq a b,st,k=>exec X call c nd ro d f base a st fun e st'=>match e with
  | .normal=>bif X.ct f (CW b)then .cut nd ro d f base b (Ng X f (CW b) base st') k else exec X call c nd ro d f base b st' k
  |e=>k e st'
 | .cond x a b,st,k=>match Pf st x with
  |some (.bl t)=>bif t then exec X call c nd ro d f base a st k else exec X call c nd ro d f base b st k
  |some (.dat .bool t)=>match x with
   | .tmp s=>.ite t (exec X call c nd ro d f base a (st.set s<|.bl true) k)<|exec X call c nd ro d f base b (st.set s<|.bl false) k
   |_=>.ite t (exec X call c nd ro d f base a st k)<|exec X call c nd ro d f base b st k
  |some .ub=>match x with
   | .tmp s=>.both (exec X call c nd ro d f base a (st.set s<|.bl true) k)<|exec X call c nd ro d f base b (st.set s<|.bl false) k
   |_=>.fail
  |_=>.fail
 | .block id b,st,k=>exec X call c nd ro d f base b st fun e st'=>match e with
  | .exit i=>bif zg i id then k .normal st' else k e st'
  |e=>k e st'
 | .loop b,st,k=>.loop nd ro d f base b (Ng X f (CW b) base st) k
 | .exit i,st,k=>k (.exit i) st
 | .ret,st,k=>k .ret st
 | .scope b,st,k=>exec X call c nd ro d f base b st k
 |_,_,_=>.fail
def YE(T:BR)(st:AG):ResultVar->Option PV
 | .tmp t=>some<|st.get t
 | .cell a t=>match Lz T st t (st.get a)with
  | .val v _=>some v
  | .Hv _ v _=>some v
  |_=>none
def Kt(T:BR)(st:AG):List ResultVar->List Bool
 |[]=>[]
 | .tmp _::b=>Kt T st b
 | .cell a t::b=>match Lz T st t (st.get a)with
  | .Hv c _ _=>c::Kt T st b
  |_=>Kt T st b
def NN:List Bool->Tr->Tr
 |[],t=>t
 |c::cs,t=>.ite c (NN cs t) .fail
def ZC(T:BR)(st:AG):List ResultVar->Option (List PV)
 |[]=>some []
 |r::a=>match YE T st r,ZC T st a with
  |some v,some vs=>some (v::vs)
  |_,_=>none
def D1:List PV->Nat->List (Nat×PV)
 |[],_=>[]
 |v::vs,i=>(i,v)::D1 vs (zX i 1)
def enter(X:AW)(call a:Fa)(nd:Bool)(d:Nat)(f:FuncId)(args:List PV)(st:AG)(k:PV->AG->Tr):Tr:=
 match X.C.fn f with
 |none=>.fail
 |some i=>bif i.cert then
   exec X call a nd false d f st.nx i.body (Ax (zX args.length<|Nat.sub i.ntmps args.length) (D1 args 0) st.ob st.nx) fun e s=>match e with
    | .exit _=>.fail
    |_=>match ZC X.C.T s i.results.toList with
     |some vs=>NN (Kt X.C.T s i.results.toList)<|k (one vs) ⟨st.n,st.fr,s.ob,s.nx⟩
     |none=>.fail
  else .fail
def Lu:List Tmp->List PV->AG->AG
 |t::ts,v::vs,st=>Lu ts vs<|bif zN t st.n then st.set t v else st
 |_,_,st=>st
def ZR(X:AW)(call a:Fa)(nd:Bool)(d:Nat)(id:Nat)(args:List PV)(st:AG)(k:PV->AG->Tr):Tr:=
 match st.obj id with
 |some (.lp f _ ps asg b .ready n sl)=>bif zg args.length ps.size then
   exec X call a nd true d f st.nx asg (Lu ps.toList args<|Ax n sl st.ob st.nx) fun e s=>match e with
   | .normal=>match s.obj id with
    |some (.lp w x p l v .ready n1 q)=>
     exec X call a nd true d f st.nx b (s.setObj id<|.lp w x p l v .busy n1 q) fun u s2=>
      match s2.obj id with
      |some (.lp r m j c t _ o g)=>match u with
       | .normal=>k (.bl true) ⟨st.n,st.fr,(s2.setObj id<|.lp r m j c t .ready o g).ob,s2.nx⟩
       | .ret=>k (.bl false) ⟨st.n,st.fr,(s2.setObj id<|.lp r m j c t .ret o g).ob,s2.nx⟩
       | .exit i=>k (.bl false) ⟨st.n,st.fr,(s2.setObj id<|.lp r m j c t (.exit i) o g).ob,s2.nx⟩
      |_=>.fail
    |_=>.fail
   |_=>.fail
  else .fail
 |_=>.fail
def rX(args:List PV)(st:AG)(k:PV->AG->Tr):Tr:=
 match args with
 |[.ptr id off]=>bif Hu (st.obj id)then k (.ptr id off) st else .fail
 |_=>.fail
def Cg(X:AW)(nd:Bool):Nat->Fa
 |0=>fun _ _ _ _=>.fail
 |d+1=>fun c args st k=>match c with
  | .fn g=>match X.sp g with
   |some sp=>bif nd|| !sp.nd then Ze sp args st k else .fail
   |none=>match X.ws g with
    |some w=>Uz w args st k
    |none=>bif X.esc.any (zg g)then rX args st k else match X.C.prim g,X.C.spec g with
     |none,none=>enter X (Cg X nd d) (Cg X false d) nd d g args st k
     |_,_=>.fail
  | .rnd _=>.fail
def tree(X:AW)(nd:Bool)(d:Nat)(f:FuncId)(args:List PV):Tr:=
 enter X (Cg X nd d) (Cg X false d) nd d f args (Ax 0 [] [] 0) fun v st=>.leaf v st.ob
def body(X:AW)(nd ro:Bool)(d:Nat)(f:FuncId)(base:Nat)(b:Code)(st:AG)(k:DX->AG->Tr):Tr:=
 exec X (Cg X nd d) (Cg X false d) nd ro d f base b st fun e st'=>match e with
  | .normal=>.loop nd ro d f base b (Ng X f (CW b) base st') k
  |e=>k e st'
def AJ(X:AW)(nd ro:Bool)(d:Nat)(f:FuncId)(base:Nat)(b:Code)(st:AG)(k:DX->AG->Tr):Tr:=exec X (Cg X nd d) (Cg X false d) nd ro d f base b st k
inductive Ev (X:AW) (Q:PV->Ob->Prop):Nat->Tr->Prop where
 |leaf {n:Nat} {v:PV} {ob:Ob}:Q v ob->Ev X Q n (.leaf v ob)
 |ite {n:Nat} {c:Bool} {a b:Tr}:(c=true->Ev X Q n a)->(c=false->Ev X Q n b)->Ev X Q n (.ite c a b)
 |both {n:Nat} {a b:Tr}:Ev X Q n a->Ev X Q n b->Ev X Q n (.both a b)
 |cut {n:Nat} {nd ro:Bool} {d:Nat} {f:FuncId} {base:Nat} {b:Code} {st:AG} {k:DX->AG->Tr}:Ev X Q n (AJ X nd ro d f base b st k)->Ev X Q n (.cut nd ro d f base b st k)
 |alts {n m:Nat} {f:Nat->Tr}:(∀i,i<m->Ev X Q n (f i))->Ev X Q n (.alts m f)
 |loop {n:Nat} {nd ro:Bool} {d:Nat} {f:FuncId} {base:Nat} {b:Code} {st:AG} {k:DX->AG->Tr}:Ev X Q n (body X nd ro d f base b st k)->Ev X Q (n+1) (.loop nd ro d f base b st k)
abbrev Fz:=Nat->Option (List V)
abbrev DM:=Nat->Option (Nat×Nat)
def DC(F:Fz):(s:Sh)->s.T->List V->Prop
 | .int k,x,cs=>cs=[.int k x]
 | .bool,x,cs=>cs=[.bool x]
 | .str,x,cs=>cs=[.str x]
 | .list s,l,cs=>∃v,cs=[v]/\((l=[]/\(v=.nils\/v=.esl\/v=.es0))\/
   ∃b off cap o e,v=.sl b off l.length cap o/\l.length<=cap/\F b=some e/\off+l.length*s.sz<=e.length/\(o=0\/o=s.sz)/\
    ∀i (h:i<l.length),DC F s l[i]<|(e.drop<|off+i*s.sz).take s.sz)
 | .pair a b,x,cs=>∃c d,cs=c++d/\DC F a x.1 c/\DC F b x.2 d
 | .unit,_,cs=>cs=[]
 | .fnv,x,cs=>cs=[match (x:Option Fn)with|some f=>.fn f [] []|none=>.nilf]
 | .ptr s,x,cs=>∃b o e,cs=[.ptr b o]/\F b=some e/\o+s.sz<=e.length/\DC F s x ((e.drop o).take s.sz)
 | .nlist s,l,cs=>∃v,cs=[v]/\((l=[]/\v=.nils)\/(l≠[]/\
   ∃b off cap o e,v=.sl b off l.length cap o/\l.length<=cap/\F b=some e/\off+l.length*s.sz<=e.length/\(o=0\/o=s.sz)/\
    ∀i (h:i<l.length),DC F s l[i]<|(e.drop<|off+i*s.sz).take s.sz))
theorem DC.len{F:Fz}:∀ {s:Sh} {x:s.T} {cs:List V},DC F s x cs->cs.length=s.sz
 | .int _,_,_,h=>by simp only[DC]at h;subst h;rfl
 | .bool,_,_,h=>by simp only[DC]at h;subst h;rfl
 | .str,_,_,h=>by simp only[DC]at h;subst h;rfl
 | .list _,_,_,h=>by simp only[DC]at h;obtain⟨v,rfl,_⟩:=h;rfl
 | .pair a b,x,_,h=>by
  simp only[DC]at h;obtain⟨c,d,rfl,e,f⟩:=h;rw[ye,e.len,f.len];rfl
 | .unit,_,_,h=>by simp only[DC]at h;subst h;rfl
 | .nlist _,_,_,h=>by simp only[DC]at h;obtain⟨v,rfl,_⟩:=h;rfl
 | .fnv,_,_,h=>by simp only[DC]at h;subst h;rfl
 | .ptr _,_,_,h=>by simp only[DC]at h;obtain⟨b,o,g,rfl,_⟩:=h;rfl
theorem DC.ok{F:Fz}:∀ {s:Sh} {x:s.T} {cs:List V},DC F s x cs->∀v∈cs,v.ok=true
 | .int _,_,_,h=>by simp only[DC]at h;subst h;simp[qh]
 | .bool,_,_,h=>by simp only[DC]at h;subst h;simp[qh]
 | .str,_,_,h=>by simp only[DC]at h;subst h;simp[qh]
 | .list s,_,_,h=>by
  simp only[DC]at h;obtain⟨v,rfl,⟨_,rfl|rfl|rfl⟩|⟨b,off,cap,o,f,rfl,_⟩⟩:=h<;>simp[qh]
 | .pair a b,x,_,h=>by
  simp only[DC]at h;obtain⟨c,d,rfl,g,i⟩:=h;intro v e;rcases List.mem_append.1 e with e|e
  ·exact g.ok v e
  ·exact i.ok v e
 | .unit,_,_,h=>by simp only[DC]at h;subst h;simp
 | .fnv,x,_,h=>by simp only[DC]at h;subst h;intro v e;rw[zd.1 e];cases (x:Option Fn)<;>rfl
 | .nlist s,_,_,h=>by
  simp only[DC]at h;obtain⟨v,rfl,⟨_,rfl⟩|⟨_,b,off,cap,o,f,rfl,_⟩⟩:=h<;>simp[qh]
 | .ptr _,_,_,h=>by simp only[DC]at h;obtain⟨b,o,f,rfl,_⟩:=h;simp[qh]
theorem DC.mono{F F':Fz}(e:∀b cs,F b=some cs->F' b=some cs):∀ {s:Sh} {x:s.T} {cs:List V},DC F s x cs->DC F' s x cs
 | .int _,_,_,h=>by simpa only[DC]using h
 | .bool,_,_,h=>by simpa only[DC]using h
 | .str,_,_,h=>by simpa only[DC]using h
 | .list s,l,_,h=>by
  simp only[DC]at h ⊢;obtain⟨v,rfl,h⟩:=h;refine⟨v,rfl,?_⟩;rcases h with h|⟨b,off,cap,o,k,f,g,m,j,p,n⟩
  ·exact .inl h
  ·exact .inr ⟨b,off,cap,o,k,f,g,e _ _ m,j,p,fun i q=>(n i q).mono e⟩
 | .pair a b,x,_,h=>by
  simp only[DC]at h ⊢;obtain⟨c,d,rfl,f,g⟩:=h;exact⟨c,d,rfl,f.mono e,g.mono e⟩
 | .unit,_,_,h=>by simpa only[DC]using h
 | .fnv,_,_,h=>by simpa only[DC]using h
 | .ptr s,x,_,h=>by
  simp only[DC]at h ⊢;obtain⟨b,o,k,f,g,m,j⟩:=h;exact⟨b,o,k,f,e _ _ g,m,j.mono e⟩
 | .nlist s,l,_,h=>by
  simp only[DC]at h ⊢;obtain⟨v,rfl,h⟩:=h;refine⟨v,rfl,?_⟩;rcases h with h|⟨h0,b,off,cap,o,k,f,g,m,j,p,n⟩
  ·exact .inl h
  ·exact .inr ⟨h0,b,off,cap,o,k,f,g,e _ _ m,j,p,fun i q=>(n i q).mono e⟩
theorem DC.nl{F:Fz}{s:Sh}{l:List s.T}{cs:List V}(h:DC F (.nlist s) l cs):DC F (.list s) l cs:=by
 simp only[DC]at h ⊢;obtain⟨v,rfl,h⟩:=h;rcases h with⟨rfl,rfl⟩|⟨_,h⟩
 ·exact⟨_,rfl,.inl ⟨rfl,.inl rfl⟩⟩
 ·exact⟨_,rfl,.inr h⟩
theorem DC.zA{F:Fz}{s:Sh}{l:List s.T}{cs:List V}(h:DC F (.list s) l cs)(h0:0<l.length):DC F (.nlist s) l cs:=by
 have a:l≠[]:=by rintro rfl;simp at h0
 simp only[DC]at h ⊢;obtain⟨v,rfl,h⟩:=h;rcases h with⟨rfl,_⟩|h
 ·exact wh rfl a
 ·exact⟨_,rfl,.inr ⟨a,h⟩⟩
mutual
def PR(F:Fz)(ρ:DM)(N:Nat):PV->V->Prop
 | .any,_=>True
 | .bl b,v=>v=.bool b
 | .ub,v=>∃b,v=.bool b
 | .dat s x,v=>DC F s x [v]
 | .nil,v=>v=.nils
 | .nilp,v=>v=.nilp
 | .nilm,v=>v=.nilm
 | .nilf,v=>v=.nilf
 | .nili,v=>v=.nili
 | .agg l,v=>∃cs,v=.agg cs/\A9 F ρ N l cs
 | .tup l,v=>∃cs,v=.tup cs/\A9 F ρ N l cs
 | .ptr id off,v=>id<N/\∀b n,ρ id=some (b,n)->v=.ptr b off
 | .eptr id sz i off,v=>id<N/\∀b n,ρ id=some (b,n)->v=.ptr b (i*sz+off)
 | .D7 s x off,v=>∃b o cs,v=.ptr b (o+off)/\F b=some cs/\o+s.sz<=cs.length/\DC F s x ((cs.drop o).take s.sz)
 | .sl id sz off len cap,v=>id<N/\∀b n,ρ id=some (b,n)->
   (len<=cap.getD len/\off+cap.getD len<=n/\∃o,(o=0\/o=sz)/\v=.sl b (off*sz) len (cap.getD len) o)\/
   (len=0/\cap=some 0/\off<=n/\(v=.esl\/∃c,v=.sl b c 0 0 0/\c<=off*sz))
 | .mp id,v=>id<N/\∀b n,ρ id=some (b,n)->v=.map b
 | .fn f first captured,v=>∃a b,v=.fn f a b/\A9 F ρ N first a/\A9 F ρ N captured b
 | .yl id,v=>id<N/\∀b n,ρ id=some (b,n)->v=.yld b
def A9(F:Fz)(ρ:DM)(N:Nat):List PV->List V->Prop
 |[],l=>l=[]
 |p::ps,l=>∃v vs,l=v::vs/\PR F ρ N p v/\A9 F ρ N ps vs
end
section
variable {F F':Fz}{ρ ρ':DM}{N N':Nat}
@[simp] theorem BU(l:List V):A9 F ρ N [] l↔l=[]:=by simp[A9]
@[simp] theorem AU(p:PV)(ps:List PV)(v:V)(vs:List V):A9 F ρ N (p::ps) (v::vs)↔PR F ρ N p v/\A9 F ρ N ps vs:=by
 simp only[A9];constructor
 ·rintro⟨_,_,h,a,b⟩;cases h;exact⟨a,b⟩
 ·rintro⟨a,b⟩;exact⟨v,vs,rfl,a,b⟩
theorem A9.len:∀ {ps:List PV} {vs:List V},A9 F ρ N ps vs->ps.length=vs.length
 |[],vs,h=>by simp at h;simp[h]
 |p::ps,vs,h=>by
  simp only[A9]at h;obtain⟨v,vs,rfl,_,a⟩:=h;simp[a.len]
theorem A9.append:∀ {a:List PV} {x:List V} {b:List PV} {y:List V},A9 F ρ N a x->A9 F ρ N b y->A9 F ρ N (a++b) (x++y)
 |[],x,b,y,h,h'=>by simp at h;subst h;simpa using h'
 |p::ps,x,b,y,h,h'=>by
  simp only[A9]at h;obtain⟨v,vs,rfl,c,d⟩:=h;simp only[List.cons_append,AU];exact⟨c,d.append h'⟩
theorem A9.drop:∀ {a:List PV} {x:List V} (n:Nat),A9 F ρ N a x->A9 F ρ N (a.drop n) (x.drop n)
 |[],x,n,h=>by simp at h;subst h;simp
 |p::ps,x,0,h=>by simpa using h
 |p::ps,x,n+1,h=>by
  simp only[A9]at h;obtain⟨v,vs,rfl,c,b⟩:=h;simpa using b.drop n
theorem A9.take:∀ {a:List PV} {x:List V} (n:Nat),A9 F ρ N a x->A9 F ρ N (a.take n) (x.take n)
 |[],x,n,h=>by simp at h;subst h;simp
 |p::ps,x,0,h=>by simp
 |p::ps,x,n+1,h=>by
  simp only[A9]at h;obtain⟨v,vs,rfl,b,c⟩:=h;simpa using⟨b,c.take n⟩
theorem A9.get:∀ {a:List PV} {x:List V},A9 F ρ N a x->∀ {i:Nat} {p:PV},a[i]?=some p->∃v,x[i]?=some v/\PR F ρ N p v
 |[],x,h,i,p,b=>by simp at b
 |q::ps,x,h,i,p,b=>by
  simp only[A9]at h;obtain⟨v,vs,rfl,c,d⟩:=h;cases i with
  |zero=>simp at b;subst b;exact⟨v,rfl,c⟩
  |succ i=>simp at b;simpa using d.get b
structure Le(F:Fz)(ρ:DM)(N:Nat)(F':Fz)(ρ':DM)(N':Nat):Prop where
 fz:∀b cs,F b=some cs->F' b=some cs
 rho:∀id,id<N->ρ' id=ρ id\/ρ' id=none
 n:N<=N'
theorem Le.refl:Le F ρ N F ρ N:=⟨fun _ _ h=>h,fun _ _=>.inl rfl,zK _⟩
theorem Le.trans{g:Fz}{d:DM}{f:Nat}(a:Le F ρ N F' ρ' N')(b:Le F' ρ' N' g d f):Le F ρ N g d f:=
 ⟨fun c cs h=>b.fz c cs<|a.fz c cs h,fun id h=>by
  rcases b.rho id (zl h a.n)with e|e
  ·rw[e];exact a.rho id h
  ·exact .inr e,Nat.le_trans a.n b.n⟩
theorem Le.at(b:Le F ρ N F' ρ' N'){id:Nat}(h:id<N){x:Nat×Nat}(a:ρ' id=some x):ρ id=some x:=by
 rcases b.rho id h with e|e
 ·rw[<-e];exact a
 ·rw[e]at a;cases a
mutual
theorem PR.mono(c:Le F ρ N F' ρ' N'):∀ {p:PV} {v:V},PR F ρ N p v->PR F' ρ' N' p v
 | .any,_,_=>by simp[PR]
 | .bl _,_,h=>by simpa only[PR]using h
 | .ub,_,h=>by simpa only[PR]using h
 | .dat s x,_,h=>by simp only[PR]at h ⊢;exact h.mono c.fz
 | .nil,_,h| .nilp,_,h| .nilm,_,h| .nilf,_,h| .nili,_,h=>by simpa only[PR]using h
 | .agg l,_,h=>by simp only[PR]at h ⊢;obtain⟨cs,rfl,e⟩:=h;exact⟨cs,rfl,e.mono c⟩
 | .tup l,_,h=>by simp only[PR]at h ⊢;obtain⟨cs,rfl,e⟩:=h;exact⟨cs,rfl,e.mono c⟩
 | .ptr _ _,_,h=>by simp only[PR]at h ⊢;exact⟨zl h.1 c.n,fun b n d=>h.2 b n<|c.at h.1 d⟩
 | .eptr _ _ _ _,_,h=>by simp only[PR]at h ⊢;exact⟨zl h.1 c.n,fun b n d=>h.2 b n<|c.at h.1 d⟩
 | .D7 s x off,_,h=>by
  simp only[PR]at h ⊢;obtain⟨b,o,cs,e,g,j,i⟩:=h;exact⟨b,o,cs,e,c.fz _ _ g,j,i.mono c.fz⟩
 | .sl _ _ _ _ _,_,h=>by simp only[PR]at h ⊢;exact⟨zl h.1 c.n,fun b n d=>h.2 b n<|c.at h.1 d⟩
 | .mp _,_,h=>by simp only[PR]at h ⊢;exact⟨zl h.1 c.n,fun b n d=>h.2 b n<|c.at h.1 d⟩
 | .fn f a b,_,h=>by
  simp only[PR]at h ⊢;obtain⟨x,y,rfl,e,g⟩:=h;exact⟨x,y,rfl,e.mono c,g.mono c⟩
 | .yl _,_,h=>by simp only[PR]at h ⊢;exact⟨zl h.1 c.n,fun b n d=>h.2 b n<|c.at h.1 d⟩
theorem A9.mono(a:Le F ρ N F' ρ' N'):∀ {ps:List PV} {vs:List V},A9 F ρ N ps vs->A9 F' ρ' N' ps vs
 |[],_,h=>by simpa using h
 |p::ps,_,h=>by
  simp only[A9]at h ⊢;obtain⟨v,vs,rfl,b,c⟩:=h;exact⟨v,vs,rfl,b.mono a,c.mono a⟩
end
theorem PR.lz:∀ {p:PV} {v:V},PR F ρ N p v->PR F ρ N (lz p) v:=by
 intro p v h;unfold Pe.lz;split
 ·simp only[PR]at h ⊢;exact h.nl
 ·exact h
theorem A9.lz:∀ {ps:List PV} {vs:List V},A9 F ρ N ps vs->A9 F ρ N (ps.map Pe.lz) vs
 |[],_,h=>by simpa using h
 |p::ps,_,h=>by
  simp only[A9]at h;obtain⟨v,vs,rfl,a,b⟩:=h;simp only[List.map_cons,AU];exact⟨a.lz,b.lz⟩
theorem Xe{s:Sh}{p:PV}{v:V}(h:PR F ρ N p v)(a:(Sv s p).1=true):PR F ρ N (Sv s p).2 v:=by
 unfold Sv at a ⊢;split
 ·rename_i s b x;cases c:(s==b)with
  |false=>exact h
  |true=>
   have a:(bif s==b then(decide (0<List.length x),PV.dat b.nlist x)else(true,PV.dat b.list x)).1=true:=a;rw[c]at a;simp only[we,w5]at a;simp only[PR,we]at h ⊢;exact h.zA a
 ·rename_i s b x;cases c:(s==b)with
  |false=>exact h
  |true=>simp only[PR,we]at h ⊢;exact h.nl
 ·exact h
theorem PL:∀ {l:List Sh} {ps:List PV} {vs:List V},A9 F ρ N ps vs->(Kx l ps).1=true->A9 F ρ N (Kx l ps).2 vs
 |[],ps,vs,h,_=>h
 |s::l,[],vs,h,_=>h
 |s::l,p::ps,vs,h,a=>by
  simp only[A9]at h;obtain⟨v,vs,rfl,b,c⟩:=h;simp only[Kx,ze]at a;simp only[Kx,AU];exact⟨Xe b a.1,PL c a.2⟩
def DN(F:Fz)(s:Sh)(l:List s.T)(cs:List V):Prop:=cs.length=l.length*s.sz/\∀i (h:i<l.length),DC F s l[i]<|(cs.drop<|i*s.sz).take s.sz
theorem DN.mono(c:∀b cs,F b=some cs->F' b=some cs){s:Sh}{l:List s.T}{cs:List V}(h:DN F s l cs):DN F' s l cs:=⟨h.1,fun i a=>(h.2 i a).mono c⟩
theorem DN.ok{F:Fz}{s:Sh}{l:List s.T}{cs:List V}(h:DN F s l cs):∀v∈cs,v.ok=true:=by
 intro v f;obtain⟨k,c⟩:=List.mem_iff_getElem?.1 f;have a:=(List.getElem?_eq_some_iff.1 c).1;have b:0<s.sz:=by
  rcases Nat.eq_zero_or_pos s.sz with e|e
  ·rw[h.1,e,Nat.mul_zero]at a;omega
  ·exact e
 have d:k/s.sz<l.length:=Nat.div_lt_of_lt_mul (by rw[Nat.mul_comm, <-h.1];exact a);refine(h.2 _ d).ok v ?_;refine List.mem_iff_getElem?.2 ⟨k % s.sz,?_⟩;rw[zj<|Nat.mod_lt _ b,zo,show k/s.sz*s.sz+k % s.sz=k from by rw[Nat.mul_comm];exact Nat.div_add_mod _ _];exact c
def DV(F:Fz)(s:Sh)(x:s.T)(v:V):Prop:=(s.O5=true->∃cs,v=.agg cs/\DC F s x cs)/\(s.O5=false->DC F s x [v])
theorem DV.mono(a:∀b cs,F b=some cs->F' b=some cs){s:Sh}{x:s.T}{v:V}(h:DV F s x v):DV F' s x v:=
 ⟨fun e=>by obtain⟨cs,c,d⟩:=h.1 e;exact⟨cs,c,d.mono a⟩,fun e=>(h.2 e).mono a⟩
inductive MR (F:Fz) (ks vs:Sh):List (ks.T×vs.T)->List (V×V×Nat)->Prop where
 |nil:MR F ks vs [] []
 |cons {k:ks.T} {v:vs.T} {l:List (ks.T×vs.T)} {a b:V} {n:Nat} {es:List (V×V×Nat)}:DV F ks k a->DV F vs v b->MR F ks vs l es->MR F ks vs ((k,v)::l) ((a,b,n)::es)
theorem MR.mono(a:∀b cs,F b=some cs->F' b=some cs){ks vs:Sh}{l:List (ks.T×vs.T)}{es:List (V×V×Nat)}(h:MR F ks vs l es):MR F' ks vs l es:=by
 induction h with
 |nil=>exact .nil
 |cons c e _ d=>exact .cons (c.mono a) (e.mono a) d
def RN(sl:List (Nat×PV))(t:Nat):PV:=((ES sl).get t).getD .any
def yF:wB->LoopState->Option Code->Prop
 | .ready,st,a=>st=.ready/\a=none
 | .busy,st,_=>st=.busy
 | .ret,st,a=>st=.done/\a=some .ret
 | .exit i,st,a=>st=.done/\a=some (.exit i)
def VR(F:Fz)(ρ:DM)(N n:Nat):Obj->O->Prop
 | .arr _ e s l,o=>∃cs fz,o=.cells cs e fz/\DN F s l cs/\fz.2<=fz.1/\l.length=n
 | .box ps,o=>∃cs t fz,o=.cells cs t fz/\A9 F ρ N ps cs/\fz.2<=fz.1/\∀v∈cs,v.ok=true
 | .tbox t ps,o=>∃cs fz,o=.cells cs t fz/\A9 F ρ N ps cs/\fz.2<=fz.1/\∀v∈cs,v.ok=true
 | .map ks vs l,o=>∃es a,o=.map es a/\MR F ks vs l es
 | .siter s pos,o=>o=.siter s pos
 | .lp _ _ ps asg body s n' sl,o=>∃ls,o=.loop ls/\ls.ps=ps/\ls.asg=asg/\ls.body=body/\yF s ls.st ls.pend/\ls.fr.n=n'/\∀t,PR F ρ N (RN sl t)<|ls.fr.get t
theorem VR.mono(d:Le F ρ N F' ρ' N'){n:Nat}{x:Obj}{o:O}(h:VR F ρ N n x o):VR F' ρ' N' n x o:=by
 cases x with
 |arr fz e s l=>obtain⟨cs,f,a,b,c⟩:=h;exact⟨cs,f,a,b.mono d.fz,c⟩
 |box ps=>obtain⟨cs,t,f,a,b,c⟩:=h;exact⟨cs,t,f,a,b.mono d,c⟩
 |tbox t ps=>obtain⟨cs,f,a,b,c⟩:=h;exact⟨cs,f,a,b.mono d,c⟩
 |map ks vs l=>obtain⟨es,g,a,b⟩:=h;exact⟨es,g,a,b.mono d.fz⟩
 |siter s pos=>exact h
 |lp f r ps asg body s n sl=>obtain⟨ls,a,b,c,k,m,j,i⟩:=h;exact⟨ls,a,b,c,k,m,j,fun t=>(i t).mono d⟩
def Obj.frozen:Obj->Bool
 | .arr fz _ _ _=>fz
 |_=>false
structure H0 where
 h:H
 F:Fz
 pin:List Nat
 ex:Nat->Prop:=fun _=>False
def H0.pins(h0:H0)(ps:List Nat):H0:={ h0 with pin:=ps++h0.pin }
def H0.Yf(h0:H0)(B b:Nat):Prop:=B<=b\/h0.ex b
theorem Mm{h0:H0}{B b c:Nat}(h:h0.Yf B b)(d:c<B)(a:¬h0.ex c):c≠b:=by
 rintro rfl;rcases h with h|h
 ·omega
 ·exact a h
structure SR(B:Nat)(h0:H0)(F:Fz)(ρ:DM)(N:Nat)(ob:Ob)(h:H):Prop where
 obj:∀id o,AH ob id=some o->∃b n x,ρ id=some (b,n)/\h.get b=some x/\VR F ρ N n o x/\(o.frozen=false->F b=none)/\
  (o.frozen=true->∃cs t fz,x=.cells cs t fz/\F b=some cs)
 inj:∀id id' o o' b n n',AH ob id=some o->AH ob id'=some o'->ρ id=some (b,n)->ρ id'=some (b,n')->id=id'
 frz:∀b cs,F b=some cs->∃t fz,h.get b=some (.cells cs t fz)
 own:∀id b n,ρ id=some (b,n)->id<N/\h0.Yf B b
 dead:∀id,AH ob id=none->ρ id=none
 old:∀b,b<B->¬h0.ex b->h.get b=h0.h.get b
 lt:∀b o,h.get b=some o->b<h.nx
 le:B<=h.nx
 fo:∀b cs,F b=some cs->h0.F b=some cs\/h0.Yf B b
 gl:∀x∈F5,x.1<B/\¬h0.ex x.1/\h0.h.get x.1=some x.2
 pn:∀b∈h0.pin,h.get b=some (.defd true)/\B<=b/\∀id n,ρ id≠some (b,n)
structure FP(F:Fz)(ρ:DM)(N:Nat)(st:AG)(fr:Fr):Prop where
 n:st.n=fr.n
 slot:∀t,PR F ρ N (st.get t) (fr.get t)
theorem FP.mono(a:Le F ρ N F' ρ' N'){st:AG}{fr:Fr}(h:FP F ρ N st fr):FP F' ρ' N' st fr:=⟨h.n,fun t=>(h.slot t).mono a⟩
end
section
variable {B:Nat}{h0:H0}{F:Fz}{ρ:DM}{N:Nat}
mutual
theorem We:∀ {v:Value} {p:PV},L0 v=some p->∃x,cv v=some x/\PR F ρ N p x
 | .bool b,p,h=>by simp[L0]at h;subst h;exact⟨_,rfl,by simp[PR]⟩
 | .int k n,p,h=>by simp[L0]at h;subst h;exact⟨_,rfl,by simp[PR,DC]⟩
 | .string s,p,h=>by simp[L0]at h;subst h;exact⟨_,rfl,by simp[PR,DC]⟩
 | .pointer none,p,h=>by simp[L0]at h;subst h;exact⟨_,rfl,by simp[PR]⟩
 | .pointer (some a),p,h=>by simp[L0]at h
 | .slice none 0 0,p,h=>by simp[L0]at h;subst h;exact⟨_,rfl,by simp[PR]⟩
 | .slice none 0 (_+1),p,h=>by simp[L0]at h
 | .slice none (_+1) _,p,h=>by simp[L0]at h
 | .slice (some a) _ _,p,h=>by simp[L0]at h
 | .map none,p,h=>by simp[L0]at h;subst h;exact⟨_,rfl,by simp[PR]⟩
 | .map (some a),p,h=>by simp[L0]at h
 | .nilFunc,p,h=>by simp[L0]at h;subst h;exact⟨_,rfl,by simp[PR]⟩
 | .nilIface,p,h=>by simp[L0]at h;subst h;exact⟨_,rfl,by simp[PR]⟩
 | .func f ⟨[]⟩ ⟨[]⟩,p,h=>by simp[L0]at h;subst h;exact⟨_,rfl,by simp[PR]⟩
 | .func f ⟨_::_⟩ _,p,h=>by simp[L0]at h
 | .func f ⟨[]⟩ ⟨_::_⟩,p,h=>by simp[L0]at h
 | .agg ⟨cs⟩,p,h=>by
  simp only[L0,zp]at h;obtain⟨xs,c,rfl⟩:=h;obtain⟨ys,h2,h3⟩:=NX c;exact⟨.agg ys,by simp[cv,h2],by simp only[PR];exact⟨ys,rfl,h3⟩⟩
 | .tuple ⟨cs⟩,p,h=>by
  simp only[L0,zp]at h;obtain⟨xs,c,rfl⟩:=h;obtain⟨ys,h2,h3⟩:=NX c;exact⟨.tup ys,by simp[cv,h2],by simp only[PR];exact⟨ys,rfl,h3⟩⟩
 | .float _ _,p,h=>by simp[L0]at h
 | .complex _ _ _,p,h=>by simp[L0]at h
 | .chan _,p,h=>by simp[L0]at h
 | .iface _ _,p,h=>by simp[L0]at h
theorem NX:∀ {vs:List Value} {ps:List PV},XZ vs=some ps->∃xs,mM vs=some xs/\A9 F ρ N ps xs
 |[],ps,h=>by simp[XZ]at h;subst h;exact⟨[],rfl,by simp⟩
 |v::vs,ps,h=>by
  unfold XZ at h;split at h
  case h_2=>cases h
  rename_i x xs b d;cases h;obtain⟨y,c,a⟩:=We b;obtain⟨ys,g3,g4⟩:=NX d;exact⟨y::ys,by simp[mM,c,g3],by simp[a,g4]⟩
end
theorem kM(v:V):PR F ρ N (Ue v) v:=by
 cases v<;>simp[Ue,PR,DC]
theorem D0:∀vs:List V,A9 F ρ N (vs.map Ue) vs
 |[]=>by simp
 |v::vs=>by simp only[List.map_cons,AU];exact⟨kM v,D0 vs⟩
variable {C:Ctx}{st st':AG}{fr:Fr}{h:H}
theorem B2(b:FP F ρ N st fr){x:Operand}{p:PV}(a:Pf st x=some p):∃v,ev C fr x=some v/\PR F ρ N p v:=by
 cases x with
 |tmp t=>simp only[Pf,zh]at a;subst a;exact⟨_,rfl,b.slot t⟩
 |const v=>exact We a
 |global g=>simp[Pf]at a
 |func f=>simp only[Pf,zh]at a;subst a;exact⟨_,rfl,by simp[PR]⟩
theorem EB(b:FP F ρ N st fr):∀ {xs:List Operand} {ps:List PV},K8 st xs=some ps->∃vs,PY C fr xs=some vs/\A9 F ρ N ps vs
 |[],ps,a=>by simp[K8]at a;subst a;exact⟨[],rfl,by simp⟩
 |x::xs,ps,a=>by
  unfold K8 at a;split at a
  case h_2=>cases a
  rename_i v vs d f;cases a;obtain⟨y,e,c⟩:=B2 (C:=C) b d;obtain⟨ys,g3,g4⟩:=EB b f;exact⟨y::ys,by simp[PY,e,g3],by simp[c,g4]⟩
inductive pE (F:Fz) (ρ:DM) (N:Nat):List (Nat×PV)->List (Nat×V)->Prop
 |nil:pE F ρ N [] []
 |cons {i:Nat} {p:PV} {v:V} {l:List (Nat×PV)} {l':List (Nat×V)}:PR F ρ N p v->pE F ρ N l l'->pE F ρ N ((i,p)::l) ((i,v)::l')
theorem NR(b:FP F ρ N st fr):∀ {xs:List (Nat×Operand)} {ps:List (Nat×PV)},W6 st xs=some ps->∃vs,UI C fr xs=some vs/\pE F ρ N ps vs
 |[],ps,a=>by simp[W6]at a;subst a;exact⟨[],rfl,.nil⟩
 |(i,x)::xs,ps,a=>by
  unfold W6 at a;split at a
  case h_2=>cases a
  rename_i v vs d f;cases a;obtain⟨y,e,c⟩:=B2 (C:=C) b d;obtain⟨ys,g3,g4⟩:=NR b f;exact⟨(i,y)::ys,by simp[UI,e,g3],.cons c g4⟩
structure Rel(B:Nat)(h0:H0)(F:Fz)(ρ:DM)(st:AG)(fr:Fr)(h:H):Prop where
 fp:FP F ρ st.nx st fr
 sr:SR B h0 F ρ st.nx st.ob h
inductive PO.To:PO->PV->AG->Prop
 |val {v:PV} {st:AG}:PO.To (.val v st) v st
 |tt {a b:PO} {v:PV} {st:AG}:PO.To a v st->PO.To (.ite true a b) v st
 |ff {a b:PO} {v:PV} {st:AG}:PO.To b v st->PO.To (.ite false a b) v st
@[simp] theorem KT{v:PV}{s:AG}:¬PO.To .bad v s:=by intro h;cases h
@[simp] theorem AO{v u:PV}{s t:AG}:PO.To (.val v s) u t↔v=u/\s=t:=by
 constructor
 ·intro h;cases h;exact⟨rfl,rfl⟩
 ·rintro⟨rfl,rfl⟩;exact .val
@[simp] theorem BA{c:Bool}{v u:PV}{s t:AG}:PO.To (.Hv c v s) u t↔c=true/\v=u/\s=t:=by
 constructor
 ·intro h;unfold PO.Hv at h;cases h with
  |tt h=>cases h;exact⟨rfl,rfl,rfl⟩
  |ff h=>cases h
 ·rintro⟨rfl,rfl,rfl⟩;exact .tt .val
@[simp] theorem JM{o:Option PV}{u:PV}{s t:AG}:PO.To (ov s o) u t↔o=some u/\s=t:=by
 cases o with
 |none=>simp[ov]
 |some v=>simp only[ov,AO,zh]
@[simp] theorem Nz{c:Bool}{o:Option PV}{u:PV}{s t:AG}:PO.To (rP c s o) u t↔c=true/\o=some u/\s=t:=by
 cases o with
 |none=>simp[rP]
 |some v=>simp only[rP,BA,zh]
def OK(B:Nat)(h0:H0)(F:Fz)(ρ:DM)(st:AG)(h:H)(a:List Nat)(d:Option OR)(v:PV)(st':AG):Prop:=
 ∃v' h' F' ρ',(d=some (.val v' h')\/(d=some (.skip h')/\v'=.tup []))/\PR F' ρ' st'.nx v v'/\SR B h0 F' ρ' st'.nx st'.ob h'/\Le F ρ st.nx F' ρ' st'.nx/\
  st'.fr=st.fr/\st'.n=st.n/\h.nx<=h'.nx/\∀b,b<h.nx->h'.get b=h.get b\/∃id∈a,∃n,ρ id=some (b,n)
theorem OK.pure{a:List Nat}(c:SR B h0 F ρ st.nx st.ob h){d:Option OR}{v:PV}{v':V}(b:d=some (.val v' h))(e:PR F ρ st.nx v v'):OK B h0 F ρ st h a d v st:=
 ⟨v',h,F,ρ,.inl b,e,c,Le.refl,rfl,rfl,zK _,fun _ _=>.inl rfl⟩
theorem K2{α:Type}(n:Nat)(l:List α):Det.I8 n l=l.drop n:=Nf n l
theorem rd_some{h:H}{b off n:Nat}{cs:List V}{t:TypeId}{fz:Nat×Nat}(a:h.get b=some (.cells cs t fz))(c:off+n<=cs.length)(d:∀v∈(cs.drop off).take n,v.ok=true):rd h b off n=some ((cs.drop off).take n):=by
 rw[Vp];unfold rI;rw[a];simp only;rw[wd ⟨c,y8.2 d⟩]
theorem J9{d:TypeDesc}{n:Nat}{ps:List PV}{cs:List V}(c:A9 F ρ N ps cs){p:PV}(a:pick d n ps=some p):
  (DB d=true/\0<n/\n<=cs.length/\PR F ρ N p (.agg<|cs.take n))\/(DB d=false/\∃v vs,cs=v::vs/\PR F ρ N p v):=by
 unfold pick at a;cases f:DB d with
 |true=>
  left;simp only[f,we]at a;rw[CQ,Nq]at a;cases b:(zw n ps.length&&zN 0 n)with
  |false=>rw[b]at a;cases a
  |true=>
   rw[b]at a;simp only[we,zh]at a;subst a;simp only[ze]at b;obtain⟨b,e⟩:=b;refine⟨rfl,zf e,by rw[<-c.len];exact zf b,?_⟩;simp only[PR];exact⟨_,rfl,c.take n⟩
 |false=>
  right;simp only[f,wg]at a;cases ps with
  |nil=>cases a
  |cons q i=>
   cases a;simp only[A9]at c;obtain⟨v,vs,rfl,g,_⟩:=c;exact⟨rfl,v,vs,rfl,g⟩
theorem CM:∀ {s:Sh} {x:s.T} {cs:List V},DC F s x cs->A9 F ρ N (flat s x) cs
 | .pair a b,(x,y),cs,h=>by
  simp only[DC]at h;obtain⟨c,d,rfl,f,e⟩:=h;exact(CM f).append<|CM e
 | .unit,_,cs,h=>by simp only[DC]at h;subst h;simp[flat]
 | .int k,x,cs,h=>by simp only[DC]at h;subst h;simp only[flat,AU,BU,vc];simp[PR,DC]
 | .bool,x,cs,h=>by simp only[DC]at h;subst h;simp only[flat,AU,BU,vc];simp[PR,DC]
 | .str,x,cs,h=>by simp only[DC]at h;subst h;simp only[flat,AU,BU,vc];simp[PR,DC]
 | .list s,x,cs,h=>by
  have h':=h;simp only[DC]at h;obtain⟨v,rfl,_⟩:=h;simp only[flat,AU,BU,vc,PR];exact h'
 | .fnv,x,cs,h=>by simp only[DC]at h;subst h;simp only[flat,AU,BU,vc];cases (x:Option Fn)<;>simp[PR]
 | .ptr s,x,cs,h=>by
  simp only[DC]at h;obtain⟨b,o,i,rfl,e,j,g⟩:=h;simp only[flat,AU,BU,vc,PR];exact⟨b,o,i,rfl,e,j,g⟩
 | .nlist s,x,cs,h=>by
  have h':=h;simp only[DC]at h;obtain⟨v,rfl,_⟩:=h;simp only[flat,AU,BU,vc,PR];exact h'
theorem Fk{α:Type}(l:List α)(a b:Nat):l.drop (a+b)=(l.drop a).drop b:=by rw[List.drop_drop]
theorem Gx{T:BR}{t:TypeId}{d:TypeDesc}{i:TI}(A:T.und t=some d)(E:T.inf t=some i){b off:Nat}{cs:List V}{D:TypeId}{fz:Nat×Nat}(n:h.get b=some (.cells cs D fz))
  {m:Nat} (g:∀v∈(cs.drop off).take m,v.ok=true) {ps:List PV} (q:A9 F ρ N ps ((cs.drop off).take m)) {p:PV} (f:pick d i.size ps=some p):∃v,Ex T h t (.ptr b off)=some v/\PR F ρ N p v:=by
 unfold Ex;simp only[A,E];have r:((cs.drop off).take m).length<=cs.length-off:=by simp;omega
 have s:off<=cs.length:=by
  have:0<((cs.drop off).take m).length:=by
   rcases J9 q f with⟨_,h0,x,_⟩|⟨_,v,vs,e,_⟩
   ·omega
   ·rw[e];simp
  simp at this;omega
 rcases J9 q f with⟨l,_,x,j⟩|⟨l,v,vs,c,j⟩
 ·simp only[l,we];have:(cs.drop off).take i.size=((cs.drop off).take m).take i.size:=by
   rw[List.take_take];have:i.size<=m:=by
    have:=x;simp at this;omega
   rw[Nat.min_eq_left this]
  rw[rd_some n (by omega)<|fun v j=>g v<|zt<|by rwa [this]at j];refine⟨_,rfl,?_⟩;rw[this];exact j
 ·simp only[l,wg];have z:off+1<=cs.length:=by
   have:((cs.drop off).take m).length=vs.length+1:=by rw[c];rfl
   omega
  have o:(cs.drop off).take 1=[v]:=by
   have:m≠0:=by rintro rfl;simp at c
   obtain⟨k,rfl⟩:=Nat.exists_eq_succ_of_ne_zero this;cases w:cs.drop off with
   |nil=>rw[w]at c;simp at c
   |cons a G=>rw[w]at c;simp only[List.take_succ_cons,List.cons.injEq]at c;simp[c.1]
  rw[rd_some n z (fun u y=>by rw[o]at y;cases zd.1 y;exact g v (by rw[c];simp)),o];exact⟨v,rfl,j⟩
end
section
variable {B:Nat}{h0:H0}{F:Fz}{ρ:DM}{N:Nat}{C:Ctx}{st st':AG}{fr:Fr}{h:H}
theorem SR.at(a:SR B h0 F ρ N st.ob h){id:Nat}{o:Obj}(c:st.obj id=some o):∃b n x,ρ id=some (b,n)/\h.get b=some x/\VR F ρ N n o x/\(o.frozen=false->F b=none)/\
  (o.frozen=true->∃cs t fz,x=.cells cs t fz/\F b=some cs):=a.obj id o c
theorem N8{s:Sh}{l:List s.T}{cs:List V}(c:DN F s l cs)(b:s.sz=1):∀(n j:Nat),j+n=l.length->A9 F ρ N (OE s l j n) (cs.drop j)
 |0,j,f=>by
  have:cs.length=l.length:=by rw[c.1,b,yo]
  rw[List.drop_eq_nil_of_le<|by omega];unfold OE;simp
 |n+1,j,f=>by
  have g:cs.length=l.length:=by rw[c.1,b,yo]
  have a:j<l.length:=by omega
  have d:=c.2 j a;rw[b,yo]at d;have e:cs.drop j=(cs.drop j).take 1++cs.drop (j+1):=by
   have:=List.take_append_drop 1<|cs.drop j;rw[List.drop_drop]at this;exact this.symm
  unfold OE;rw[e,show l.getD j s.GB=l[j]from by simp[a]];exact(CM d).append (N8 c b n (j+1) (by omega))
theorem cW(r:SR B h0 F ρ st.nx st.ob h){t:TypeId}{p:PV}{a:V}(q:PR F ρ st.nx p a){v:PV}(f:(Lz C.T st t p).To v st'):
  OK B h0 F ρ st h [] (Bp h<|Ex C.T h t a) v st':=by
 unfold Lz at f;split at f
 case h_2=>simp at f
 rename_i d i A G;split at f
 case h_4=>simp at f
 case h_1=>
  rename_i id off;split at f
  case h_4=>simp at f
  case h_3=>
   rename_i tb ps z;simp only[JM]at f;obtain⟨c,rfl⟩:=f;obtain⟨b,n,x,h1,h2,⟨cs,fz,rfl,h4,_,hbok⟩,_⟩:=r.at z;simp only[PR]at q;obtain rfl:=q.2 b n h1;rw[K2]at c;obtain⟨v',w,y⟩:=Gx (h:=h) A G h2 (m:=cs.length) (fun u k=>hbok u<|zm<|zt k) (by rw[zn<|by simp];exact h4.drop off) c;exact OK.pure r (by rw[w];rfl) y
  case h_2=>
   rename_i I e s l z;cases g:(zg off 0&&zg s.sz 1)with
   |false=>rw[g]at f;simp at f
   |true=>
    rw[g]at f;simp only[we,Nz,w5]at f;obtain⟨K,c,rfl⟩:=f;rw[ze]at g;have h0:=zc g.1;have J:=zc g.2;subst h0;obtain⟨b,n,x,h1,h2,⟨cs,fz,rfl,h4,_⟩,_⟩:=r.at z;simp only[PR]at q;obtain rfl:=q.2 b n h1;have D:=N8 (ρ:=ρ) (N:=st.nx) h4 J i.size 0 (by omega);obtain⟨v',w,y⟩:=Gx (h:=h) A G h2 (m:=cs.length) (fun u k=>h4.ok u<|zm<|zt k) (by rw[zn<|by simp];exact D) c;exact OK.pure r (by rw[w];rfl) y
  rename_i ps z;simp only[JM]at f;obtain⟨c,rfl⟩:=f;obtain⟨b,n,x,h1,h2,⟨cs,te,fz,rfl,h4,_,hbok⟩,_⟩:=r.at z;simp only[PR]at q;obtain rfl:=q.2 b n h1;rw[K2]at c;obtain⟨v',w,y⟩:=Gx (h:=h) A G h2 (m:=cs.length) (fun u k=>hbok u<|zm<|zt k) (by rw[zn<|by simp];exact h4.drop off) c;exact OK.pure r (by rw[w];rfl) y
 case h_2=>
  rename_i id sz j off;split at f
  case h_2=>simp at f
  rename_i I e s l z;cases g:zg sz s.sz with
  |false=>rw[g]at f;simp at f
  |true=>
   rw[g]at f;simp only[we,Nz,w5]at f;obtain⟨K,c,rfl⟩:=f;have g:=zc g;subst g;obtain⟨b,n,x,h1,h2,⟨cs,fz,rfl,h4,_⟩,_⟩:=r.at z;simp only[PR]at q;obtain rfl:=q.2 b n h1;have E:=h4.2 j K;rw[show l.getD j s.GB=l[j]from by simp[K],K2]at c;have D:A9 F ρ st.nx ((flat s l[j]).drop off) ((cs.drop<|j*s.sz+off).take<|s.sz-off):=by
    have:=(CM (F:=F) (ρ:=ρ) (N:=st.nx) E).drop off;rw[Fk, <-yf]at*;exact this
   obtain⟨v',w,y⟩:=Gx (h:=h) A G h2 (fun u k=>E.ok u<|zm (i:=off)<|by rw[Fk, <-yf]at k;exact k) D c;exact OK.pure r (by rw[w];rfl) y
 case h_3=>
  rename_i s x off;simp only[JM]at f;obtain⟨c,rfl⟩:=f;simp only[PR]at q;obtain⟨b,o,cs,rfl,h1,h2,h3⟩:=q;obtain⟨te,fz,h4⟩:=r.frz b cs h1;rw[K2]at c;have D:A9 F ρ st.nx ((flat s x).drop off) ((cs.drop<|o+off).take<|s.sz-off):=by
   have:=(CM (F:=F) (ρ:=ρ) (N:=st.nx) h3).drop off;rw[Fk, <-yf]at*;exact this
  obtain⟨v',w,y⟩:=Gx (h:=h) A G h4 (fun u k=>h3.ok u<|zm (i:=off)<|by rw[Fk, <-yf]at k;exact k) D c;exact OK.pure r (by rw[w];rfl) y
theorem DC.Ra:∀ {s:Sh} {x:s.T} {cs:List V},DC F s x cs->∀v∈cs,v.one=true
 | .int _,_,_,h=>by simp only[DC]at h;subst h;intro v e;rw[zd.1 e];rfl
 | .bool,_,_,h=>by simp only[DC]at h;subst h;intro v e;rw[zd.1 e];rfl
 | .str,_,_,h=>by simp only[DC]at h;subst h;intro v e;rw[zd.1 e];rfl
 | .list s,l,_,h=>by
  simp only[DC]at h;obtain⟨u,rfl,h⟩:=h;intro v e;rw[zd.1 e];rcases h with⟨_,rfl|rfl|rfl⟩|⟨b,off,cap,o,f,rfl,_⟩<;>rfl
 | .pair a b,x,_,h=>by
  simp only[DC]at h;obtain⟨c,d,rfl,g,i⟩:=h;intro v e;rcases List.mem_append.1 e with e|e
  ·exact g.Ra v e
  ·exact i.Ra v e
 | .unit,_,_,h=>by simp only[DC]at h;subst h;intro v e;cases e
 | .fnv,x,_,h=>by simp only[DC]at h;subst h;intro v e;rw[zd.1 e];cases (x:Option Fn)<;>rfl
 | .ptr _,x,_,h=>by simp only[DC]at h;obtain⟨b,o,f,rfl,_⟩:=h;intro v e;rw[zd.1 e];rfl
 | .nlist s,l,_,h=>by
  simp only[DC]at h;obtain⟨u,rfl,h⟩:=h;intro v e;rw[zd.1 e];rcases h with⟨_,rfl⟩|⟨_,b,off,cap,o,f,rfl,_⟩<;>rfl
theorem HM{o:Option Obj}(h:Hu o=true):∃x,o=some x:=by cases o with|none=>cases h|some x=>exact⟨x,rfl⟩
theorem P9(g:SR B h0 F ρ st.nx st.ob h){p:PV}{v:V}(e:Jh st p=true)(c:PR F ρ st.nx p v):v.one=true:=by
 have key:∀ {id:Nat},Hu (st.obj id)=true->∃b n,ρ id=some (b,n):=by
  intro id f;obtain⟨o,i⟩:=HM f;obtain⟨b,n,_,d,_⟩:=g.at i;exact⟨b,n,d⟩
 cases p<;>simp only[Jh]at e<;>simp only[PR]at c<;>try (cases e;done)
 case bl=>subst c;rfl
 case dat=>exact c.Ra v<|zd.2 rfl
 case nil|nilp|nilm|nilf|nili=>subst c;rfl
 case ptr=>obtain⟨b,n,d⟩:=key e;rw[c.2 b n d];rfl
 case eptr=>obtain⟨b,n,d⟩:=key e;rw[c.2 b n d];rfl
 case D7=>obtain⟨b,o,cs,rfl,_⟩:=c;rfl
 case sl=>
  obtain⟨b,n,d⟩:=key e;rcases c.2 b n d with⟨_,_,o,_,rfl⟩|⟨_,_,_,rfl|⟨_,rfl,_⟩⟩<;>rfl
 case mp|yl=>obtain⟨b,n,d⟩:=key e;rw[c.2 b n d];rfl
 case fn=>obtain⟨a,b,rfl,_⟩:=c;rfl
theorem X9{v:V}(h:v.one=true):v.cells=[v]:=by cases v<;>first|rfl|cases h
theorem Mr(d:SR B h0 F ρ st.nx st.ob h){p:PV}{v:V}{ps:List PV}(b:PR F ρ st.nx p v)(a:rQ st p=some ps):A9 F ρ st.nx ps v.cells:=by
 unfold rQ at a;split at a
 ·cases a;simp only[PR]at b;obtain⟨cs,rfl,e⟩:=b;exact e
 ·rename_i q f;cases c:Jh st p with
  |false=>rw[c]at a;cases a
  |true=>
   rw[c]at a;cases a;rw[X9<|P9 d c b];simpa using b
theorem Jw(b:SR B h0 F ρ st.nx st.ob h):∀ {ps:List PV} {vs:List V},ps.all (Jh st)=true->A9 F ρ st.nx ps vs->vs.all V.one=true
 |[],vs,_,h=>by simp at h;subst h;rfl
 |p::ps,vs,a,h=>by
  simp only[A9]at h;obtain⟨v,vs,rfl,c,d⟩:=h;simp only[List.all_cons,ze]at a ⊢;exact⟨P9 b a.1 c,Jw b a.2 d⟩
theorem A9.I2:∀ {a:List PV} {x:List V} {b:List PV} {y:List V},A9 F ρ N a x->A9 F ρ N b y->A9 F ρ N (I2 a b) (I2 x y)
 |[],x,b,y,h,h'=>by simp at h;subst h;exact h'
 |p::ps,x,b,y,h,h'=>by
  simp only[A9]at h;obtain⟨v,vs,rfl,c,d⟩:=h;cases b with
  |nil=>simp at h';subst h';show A9 F ρ N [] [];simp
  |cons q f=>
   simp only[A9]at h';obtain⟨u,e,rfl,i,g⟩:=h';show A9 F ρ N (p::Det.I2 ps f) (v::Det.I2 vs e);simp only[AU];exact⟨c,d.I2 g⟩
theorem A9.Ch{a:List PV}{x:List V}(c:A9 F ρ N a x):∀(n:Nat) {b:List PV} {y:List V},A9 F ρ N b y->A9 F ρ N (Ch n a b) (Ch n x y)
 |0,b,y,h=>c.I2 h
 |n+1,[],y,h=>by simp at h;subst h;show A9 F ρ N [] [];simp
 |n+1,q::d,y,h=>by
  simp only[A9]at h;obtain⟨u,g,rfl,f,e⟩:=h;show A9 F ρ N (q::qj n a d) (u::qj n x g);simp only[AU];exact⟨f,A9.Ch c n e⟩
theorem Gs:∀(l:Ob) (i:Nat) (x:Obj) (j:Nat),(AH l i).isSome=true->AH (Dl l i x) j=if j=i then some x else AH l j
 |[],i,x,j,h=>by cases h
 |(a,o)::l,i,x,j,h=>by
  simp only[Dl,AH,Bf]at h ⊢;by_cases e:a=i
  ·subst e;simp only[decide_true,we,AH,Bf];by_cases b:a=j
   ·subst b;simp
   ·rw[wc<|fun h=>b h.symm];simp[b]
  ·simp only[e,decide_false,wg]at h ⊢;simp only[AH,Bf];by_cases b:a=j
   ·subst b;simp[e]
   ·simp only[b,decide_false,wg];exact Gs l i x j h
theorem LN{b off:Nat}{vs cs:List V}{t:TypeId}{fz:Nat×Nat}(c:h.get b=some (.cells cs t fz))(d:off+vs.length<=cs.length)(a:fz.2<=fz.1)(g:vs.all V.one=true):
  wr h b off vs=some (h.put b<|.cells (Ch off vs cs) t fz):=by
 unfold wr;simp only[c,CQ,EX,g];have e:zw (zX off vs.length) cs.length=true:=Nat.ble_eq_true_of_le d;have f:Det.clear fz off vs.length=true:=by
  unfold Det.clear;rw[show zw fz.2 fz.1=true from Nat.ble_eq_true_of_le a,Bool.or_true]
 rw[e,f];rfl
theorem SR.set(d:SR B h0 F ρ st.nx st.ob h){id b n:Nat}{o o':Obj}{x x':O}(D:st.obj id=some o)(u:ρ id=some (b,n))(I:h.get b=some x)(K:o.frozen=false)(w:o'.frozen=false)
  (J:VR F ρ st.nx n o' x'):SR B h0 F ρ st.nx (Dl st.ob id o') (h.put b x'):=by
 have r:AH st.ob id=some o:=D;have t:F b=none:=by
  obtain⟨b',n',_,q,_,_,s,_⟩:=d.at D;rw[u]at q;cases q;exact s K
 have l:∀j,AH (Dl st.ob id o') j=if j=id then some o' else AH st.ob j:=fun j=>Gs _ _ _ _ (by rw[r];rfl)
 refine⟨fun j oj f=>?_,fun i j oi oj c m L U f q s=>?_,fun c cs g=>?_,d.own,fun j f=>?_,fun c g E=>?_,fun c S g=>?_,d.le,d.fo,d.gl,fun c g=>?_⟩
 ·rw[l]at f;by_cases e:j=id
  ·subst e;simp only[wk,zh]at f;subst f;exact⟨b,n,x',u,by simp,J,fun _=>t,fun e=>by rw[w]at e;cases e⟩
  ·rw[wc e]at f;obtain⟨c,m,y,q,s,R,P,T⟩:=d.obj j oj f;have a:c≠b:=fun Q=>e<|d.inj j id oj o c m n f r q<|Q▸u
   exact⟨c,m,y,q,by rw[H.Bc,wc a];exact s,R,P,T⟩
 ·have p:∀k ok,AH (Dl st.ob id o') k=some ok->∃M,AH st.ob k=some M:=by
   intro k ok A;rw[l]at A;by_cases e:k=id
   ·exact⟨o,e▸r⟩
   ·rw[wc e]at A;exact⟨ok,A⟩
  obtain⟨_,v⟩:=p i oi U;obtain⟨_,z⟩:=p j oj f;exact d.inj i j _ _ c m L v z q s
 ·have a:c≠b:=fun e=>by rw[e,t]at g;cases g
  rw[H.Bc,wc a];exact d.frz c cs g
 ·rw[l]at f;by_cases e:j=id
  ·rw[wd e]at f;cases f
  ·rw[wc e]at f;exact d.dead j f
 ·have a:c≠b:=Mm (d.own id b n u).2 g E;rw[H.Bc,wc a];exact d.old c g E
 ·rw[H.Bc]at g;by_cases e:c=b
  ·subst e;exact d.lt _ _ I
  ·rw[wc e]at g;exact d.lt c S g
 ·obtain⟨v,z,G⟩:=d.pn c g;have a:c≠b:=fun e=>G id n<|e▸u
  exact⟨by rw[H.Bc,wc a];exact v,z,G⟩
def BB(ρ:DM)(i:Nat)(x:Option (Nat×Nat)):DM:=fun j=>if j=i then x else ρ j
theorem Le.MF(i:Nat):Le F ρ N F (BB ρ i none) N:=⟨fun _ _ h=>h,fun id _=>by unfold BB;split<;>simp_all,zK _⟩
theorem Le.new(x:Nat×Nat):Le F ρ N F (BB ρ N<|some x) (N+1):=⟨fun _ _ h=>h,fun id h=>by unfold BB;rw[wc<|by omega];exact .inl rfl,Nat.le_succ _⟩
theorem SR.push{ob:Ob}(d:SR B h0 F ρ N ob h){o:Obj}{x:O}{n:Nat}(M:o.frozen=false)(L:VR F (BB ρ N<|some (h.nx,n)) (N+1) n o x):
  SR B h0 F (BB ρ N<|some (h.nx,n)) (N+1) ((N,o)::ob) (h.push x):=by
 have U:Le F ρ N F (BB ρ N<|some (h.nx,n)) (N+1):=Le.new _;have g:∀j,AH ((N,o)::ob) j=if j=N then some o else AH ob j:=by
  intro j;simp only[AH,Bf];by_cases e:N=j
  ·subst e;simp
  ·rw[wc<|fun h=>e h.symm];simp[e]
 have R:∀id b m,ρ id=some (b,m)->id<N:=fun id b m q=>(d.own id b m q).1
 have a:∀b y,h.get b=some y->b≠h.nx:=fun b y q=>by have:=d.lt b y q;omega
 refine⟨fun j oj f=>?_,fun i j oi oj c m A K f w v=>?_,fun c cs p=>?_,fun id b m q=>?_,fun j f=>?_,fun c p T=>?_,fun c X p=>?_,?_,?_,d.gl,fun c p=>?_⟩
 ·rw[g]at f;by_cases e:j=N
  ·subst e;simp only[wk,zh]at f;subst f;refine⟨h.nx,n,x,by simp[BB],by simp,L,fun _=>?_,fun e=>by rw[M]at e;cases e⟩;cases p:F h.nx with
   |none=>rfl
   |some cs=>
    obtain⟨t,fz,u⟩:=d.frz _ _ p;exact wh rfl (a _ _ u)
  ·rw[wc e]at f;obtain⟨c,m,y,w,v,W,S,Y⟩:=d.obj j oj f;exact⟨c,m,y,by simp[BB,e,w],by rw[H.Bz,wc<|a c y v];exact v,W.mono U,S,Y⟩
 ·rw[g]at K f;have key:∀k ok m,(if k=N then some o else AH ob k)=some ok->BB ρ N (some (h.nx,n)) k=some (c,m)->(k=N/\c=h.nx)\/(k≠N/\AH ob k=some ok/\ρ k=some (c,m)/\c≠h.nx):=by
   intro k ok m E l;by_cases e:k=N
   ·subst e;simp[BB]at l;exact .inl ⟨rfl,l.1.symm⟩
   ·rw[wc e]at E;simp only[BB,e,vf]at l;obtain⟨c',A,y,r,z,_⟩:=d.obj k ok E;rw[l]at r;cases r;exact .inr ⟨e,E,l,a c y z⟩
  rcases key i oi m K w with⟨I,D⟩|⟨I,D,Q,V⟩<;>rcases key j oj A f v with⟨J,G⟩|⟨J,G,f3,P⟩
  ·rw[I,J]
  ·exact wh D P
  ·exact wh G V
  ·exact d.inj i j oi oj c m A D G Q f3
 ·obtain⟨t,fz,u⟩:=d.frz c cs p;exact⟨t,fz,by rw[H.Bz,wc<|a c _ u];exact u⟩
 ·unfold BB at q;split at q
  ·rename_i e;cases q;subst e;exact⟨Nat.lt_succ_self _,.inl d.le⟩
  ·have:=d.own id b m q;exact⟨by omega,this.2⟩
 ·rw[g]at f;by_cases e:j=N
  ·rw[wd e]at f;cases f
  ·rw[wc e]at f;simp[BB,e,d.dead j f]
 ·have:=d.le;rw[H.Bz,wc<|by omega];exact d.old c p T
 ·rw[H.Bz]at p;by_cases e:c=h.nx
  ·subst e;exact Nat.lt_succ_self _
  ·rw[wc e]at p;have:=d.lt c X p;show c<h.nx+1;omega
 ·have:=d.le;show B<=h.nx+1;omega
 ·exact d.fo
 ·obtain⟨r,z,Z⟩:=d.pn c p;have s:=a c _ r;refine⟨by rw[H.Bz,wc s];exact r,z,fun id m e=>?_⟩;unfold BB at e;split at e
  ·cases e;exact s rfl
  ·exact Z id m e
theorem DI:∀(l:Ob) (i j:Nat),AH (Fv l i) j=if j=i then none else AH l j
 |[],i,j=>by simp[Fv,AH]
 |(a,o)::l,i,j=>by
  simp only[Fv,Bf];by_cases e:a=i
  ·subst e;simp only[decide_true,we];rw[DI l a j];simp only[AH,Bf];by_cases b:j=a
   ·simp[b]
   ·rw[wc b];have c:¬a=j:=fun h=>b h.symm
    simp[c,b]
  ·simp only[e,decide_false,wg,AH,Bf];rw[DI l i j];by_cases b:a=j
   ·subst b;simp[e]
   ·simp[b]
theorem SR.del{ob:Ob}(d:SR B h0 F ρ N ob h)(id:Nat):SR B h0 F (BB ρ id none) N (Fv ob id) h:=by
 have t:Le F ρ N F (BB ρ id none) N:=Le.MF id;refine⟨fun j oj a=>?_,fun i j oi oj c m s l a f g=>?_,d.frz,fun j b m k=>?_,fun j a=>?_,d.old,d.lt,d.le,d.fo,d.gl,fun c r=>?_⟩
 ·rw[DI]at a;split at a
  ·cases a
  ·rename_i e;obtain⟨c,m,y,f,g,u,p⟩:=d.obj j oj a;exact⟨c,m,y,by simp[BB,e,f],g,u.mono t,p⟩
 ·rw[DI]at l a;split at l
  ·cases l
  split at a
  ·cases a
  rename_i v n;simp only[BB,v,n,vf]at f g;exact d.inj i j oi oj c m s l a f g
 ·unfold BB at k;split at k
  ·cases k
  ·exact d.own j b m k
 ·rw[DI]at a;unfold BB;split
  ·rfl
  ·rename_i e;rw[wc e]at a;exact d.dead j a
 ·obtain⟨o,q,w⟩:=d.pn c r;refine⟨o,q,fun j m e=>?_⟩;unfold BB at e;split at e
  ·cases e
  ·exact w j m e
theorem SR.kill{ob:Ob}(d:SR B h0 F ρ N ob h){b:Nat}(q:∀id o n,AH ob id=some o->ρ id≠some (b,n))(s:F b=none)(t:h0.Yf B b)(r:b∉h0.pin):SR B h0 F ρ N ob (h.kill b):=by
 refine⟨fun j oj l=>?_,d.inj,fun c cs a=>?_,d.own,d.dead,fun c a p=>?_,fun c u a=>?_,d.le,d.fo,d.gl,fun c a=>?_⟩
 ·obtain⟨c,m,y,f,g,k⟩:=d.obj j oj l;have:c≠b:=fun e=>q j oj m l<|e▸f
  exact⟨c,m,y,f,by rw[H.B0,wc this];exact g,k⟩
 ·have:c≠b:=fun e=>by rw[e,s]at a;cases a
  rw[H.B0,wc this];exact d.frz c cs a
 ·have:c≠b:=Mm t a p;rw[H.B0,wc this];exact d.old c a p
 ·rw[H.B0]at a;split at a
  ·cases a
  ·exact d.lt c u a
 ·obtain⟨f,g,k⟩:=d.pn c a;have i:c≠b:=fun e=>r<|e▸a
  exact⟨by rw[H.B0,wc i];exact f,g,k⟩
theorem Cp{s a:Sh}{x:s.T}{y:a.T}(h:Dr s a x=some y):∃e:s=a,e▸x=y:=by
 unfold Dr at h;split at h
 ·rename_i e;cases h;exact⟨e,rfl⟩
 ·cases h
theorem Fy{s:Sh}{p:PV}{x:s.T}{v:V}(c:PR F ρ N p v)(a:lN s p=some x):DC F s x [v]:=by
 unfold lN at a;split at a
 ·unfold yC at a;split at a
  ·obtain⟨rfl,rfl⟩:=Cp a;simp only[PR]at c;obtain⟨b,o,cs,rfl,h2,h3,h4⟩:=c;simp only[DC];exact⟨b,o,cs,rfl,h2,h3,h4⟩
  ·cases a
 ·obtain⟨rfl,rfl⟩:=Cp a;simpa only[PR]using c
 ·obtain⟨rfl,rfl⟩:=Cp a;simp only[PR]at c;subst c;simp[DC]
 ·obtain⟨rfl,rfl⟩:=Cp a;simp only[PR,BU]at c;obtain⟨_,_,rfl,rfl,rfl⟩:=c;simp[DC]
 ·obtain⟨rfl,rfl⟩:=Cp a;simp only[PR]at c;subst c;simp[DC]
 ·split at a
  ·cases a;simp only[PR]at c;subst c;simp[DC]
  ·cases a;simp only[PR]at c;subst c;simp[DC]
  ·cases a
 ·cases a
theorem GJ:∀ {s:Sh} {ps:List PV} {vs:List V} {x:s.T} {f:List PV},A9 F ρ N ps vs->B7 s ps=some (x,f)->∃a b,vs=a++b/\DC F s x a/\A9 F ρ N f b
 | .pair s t,ps,vs,x,f,g,e=>by
  unfold B7 at e;split at e
  case h_2=>cases e
  rename_i y q i;split at e
  case h_2=>cases e
  rename_i z o j;cases e;obtain⟨a,b,rfl,m,n⟩:=GJ g i;obtain⟨c,d,rfl,g3,g4⟩:=GJ n j;exact⟨a++c,d,by simp,by simp only[DC];exact⟨a,c,rfl,m,g3⟩,g4⟩
 | .unit,ps,vs,x,f,g,e=>by
  unfold B7 at e;cases e;exact⟨[],vs,rfl,by simp[DC],g⟩
 | .int k,[],vs,x,f,g,e=>by simp[B7]at e
 | .bool,[],vs,x,f,g,e=>by simp[B7]at e
 | .str,[],vs,x,f,g,e=>by simp[B7]at e
 | .list s,[],vs,x,f,g,e=>by simp[B7]at e
 | .nlist s,[],vs,x,f,g,e=>by simp[B7]at e
 | .fnv,[],vs,x,f,g,e=>by simp[B7]at e
 | .ptr _,[],vs,x,f,g,e=>by simp[B7]at e
 | .int k,p::ps,vs,x,f,g,e=>by
  simp only[A9]at g;obtain⟨v,vs,rfl,i,j⟩:=g;simp only[B7]at e;split at e
  ·rename_i y l;cases e;exact⟨[v],vs,rfl,Fy i l,j⟩
  ·cases e
 | .bool,p::ps,vs,x,f,g,e=>by
  simp only[A9]at g;obtain⟨v,vs,rfl,i,j⟩:=g;simp only[B7]at e;split at e
  ·rename_i y l;cases e;exact⟨[v],vs,rfl,Fy i l,j⟩
  ·cases e
 | .str,p::ps,vs,x,f,g,e=>by
  simp only[A9]at g;obtain⟨v,vs,rfl,i,j⟩:=g;simp only[B7]at e;split at e
  ·rename_i y l;cases e;exact⟨[v],vs,rfl,Fy i l,j⟩
  ·cases e
 | .list s,p::ps,vs,x,f,g,e=>by
  simp only[A9]at g;obtain⟨v,vs,rfl,i,j⟩:=g;simp only[B7]at e;split at e
  ·rename_i y l;cases e;exact⟨[v],vs,rfl,Fy i l,j⟩
  ·cases e
 | .fnv,p::ps,vs,x,f,g,e=>by
  simp only[A9]at g;obtain⟨v,vs,rfl,i,j⟩:=g;simp only[B7]at e;split at e
  ·rename_i y l;cases e;exact⟨[v],vs,rfl,Fy i l,j⟩
  ·cases e
 | .ptr s,p::ps,vs,x,f,g,e=>by
  simp only[A9]at g;obtain⟨v,vs,rfl,i,j⟩:=g;simp only[B7]at e;split at e
  ·rename_i y l;cases e;exact⟨[v],vs,rfl,Fy i l,j⟩
  ·cases e
 | .nlist s,p::ps,vs,x,f,g,e=>by
  simp only[A9]at g;obtain⟨v,vs,rfl,i,j⟩:=g;simp only[B7]at e;split at e
  ·rename_i y l;cases e;exact⟨[v],vs,rfl,Fy i l,j⟩
  ·cases e
theorem CF{s:Sh}{ps:List PV}{vs:List V}{x:s.T}(g:A9 F ρ N ps vs)(c:CP s ps=some x):DC F s x vs:=by
 unfold CP at c;split at c
 ·rename_i y f;cases c;obtain⟨a,b,rfl,e,d⟩:=GJ g f;simp at d;subst d;simpa using e
 ·cases c
theorem Ss{v:V}:∀(vs cs:List V) (off:Nat),v∈FO cs off vs->v∈vs\/v∈cs
 |[],cs,off,h=>.inr h
 |u::vs,cs,off,h=>by
  have h:v∈FO (cs.set off u) (off+1) vs:=h;rcases Ss vs _ _ h with h|h
  ·exact .inl<|List.mem_cons_of_mem _ h
  ·rcases List.mem_or_eq_of_mem_set h with h|h
   ·exact .inr h
   ·exact .inl (by simp[h])
theorem Sx{v:V}{vs cs:List V}{off:Nat}(h:v∈qj off vs cs):v∈vs\/v∈cs:=by
 rw[Il]at h;exact Ss _ _ _ h
theorem Gf{cs vs:List V}{off:Nat}(a:off+vs.length<=cs.length)(j:Nat):(Ch off vs cs)[j]?=if off<=j/\j<off+vs.length then vs[j-off]? else cs[j]?:=by
 rw[Il];exact OX vs cs off j a
theorem cG{cs vs:List V}{off:Nat}:(Ch off vs cs).length=cs.length:=by
 rw[Il];exact Fu vs cs off
theorem pO{cs vs:List V}{m off k:Nat}(c:off+vs.length<=k)(d:m+k<=cs.length):((Ch (m+off) vs cs).drop m).take k=Ch off vs ((cs.drop m).take k):=by
 apply yp;intro j;rw[Gf<|by simp;omega];by_cases a:j<k
 ·rw[zj a,zo,Gf<|by omega];by_cases b:off<=j/\j<off+vs.length
  ·rw[wd b,wd<|by omega];congr 1;omega
  ·rw[wc b,wc (by omega),zj a,zo]
 ·rw[wc (by omega),zi (by simp;omega),zi<|by simp;omega]
theorem kS{cs vs:List V}{m p k:Nat}(c:p+vs.length<=m\/m+k<=p)(b:p+vs.length<=cs.length):((Ch p vs cs).drop m).take k=(cs.drop m).take k:=by
 apply yp;intro j;by_cases a:j<k
 ·rw[zj a,zj a,zo,zo,Gf b,wc<|by omega]
 ·rw[zi (by simp;omega),zi<|by simp;omega]
theorem DN.set{s:Sh}{l:List s.T}{cs vs:List V}{j off:Nat}{y:s.T}(d:DN F s l cs)(k:j<l.length)(a:off+vs.length<=s.sz)(f:DC F s y (Ch off vs<|(cs.drop<|j*s.sz).take s.sz)):
  DN F s (l.set j y) (Ch (j*s.sz+off) vs cs):=by
 have m:j*s.sz+s.sz<=cs.length:=by
  rw[d.1, <-zx];exact zu _ k
 refine⟨by rw[cG,List.length_set];exact d.1,fun i g=>?_⟩;have b:i<l.length:=by simpa using g
 by_cases e:i=j
 ·subst e;rw[pO a m,List.getElem_set_self];exact f
 ·rw[List.getElem_set_ne<|fun h=>e h.symm,kS ?_<|by omega]
  ·exact d.2 i b
  ·rcases Nat.lt_or_gt_of_ne e with c|c
   ·right;have:(i+1)*s.sz<=j*s.sz:=zu _ c;rw[zx]at this;omega
   ·left;have:(j+1)*s.sz<=i*s.sz:=zu _ c;rw[zx]at this;omega
theorem Io{s:Sh}:∀ {n:Nat} {ps:List PV} {vs:List V} {l:List s.T},A9 F ρ N ps vs->chunk s n ps=some l->vs.length=n*s.sz->l.length=n/\DN F s l vs
 |0,ps,vs,l,k,c,f=>by
  cases c;simp at f;subst f;exact⟨rfl,by simp[DN]⟩
 |n+1,ps,vs,l,k,c,f=>by
  unfold chunk at c;split at c
  case h_2=>cases c
  rename_i x m p;rw[zp]at c;obtain⟨l',q,rfl⟩:=c;obtain⟨a,b,rfl,h2,h3⟩:=GJ k p;have d:=h2.len;have o:b.length=n*s.sz:=by rw[ye,d,zx]at f;omega
  obtain⟨j,r⟩:=Io h3 q o;refine⟨by simp[j],by rw[ye,d,o,List.length_cons,j,zx];omega,fun i t=>?_⟩;cases i with
  |zero=>
   simp only[Nat.zero_mul,List.drop_zero,List.getElem_cons_zero];rw[<-d,List.take_left];exact h2
  |succ i=>
   simp only[List.getElem_cons_succ];have g:i<l'.length:=by simpa using t
   have:=r.2 i g;have e:(a++b).drop ((i+1)*s.sz)=b.drop (i*s.sz):=by
    rw[zx,Nat.add_comm,Fk, <-d,List.drop_left]
   rw[e];exact this
theorem aK{cs xs:List V}(h:xs.length=cs.length):qj 0 xs cs=xs:=by
 apply yp;intro j;rw[Gf<|by omega];by_cases a:j<xs.length
 ·rw[wd<|by omega];rfl
 ·rw[wc (by omega),zi (by omega),zi<|by omega]
theorem fW(D:SR B h0 F ρ st.nx st.ob h){t:TypeId}{p q:PV}{a x:V}(G:PR F ρ st.nx p a)(Z:PR F ρ st.nx q x){v:PV}(d:(UE C.T st t p q).To v st'):
  ∃id,((∃off,p=.ptr id off)\/∃sz j off,p=.eptr id sz j off)/\OK B h0 F ρ st h [id] (dM<|GH C.T h t a x) v st':=by
 unfold UE at d;split at d
 case h_2=>simp at d
 rename_i i xs R Y;cases P:(zg (Det.EC xs) i.size&&Det.J2 (Jh st) xs)with
 |false=>rw[P]at d;simp at d
 |true=>
  rw[P]at d;simp only[ze]at P;obtain⟨K,M⟩:=P;rw[CQ]at K;rw[EX]at M;have o:=Mr D Z Y;have k:x.cells.length=i.size:=by rw[<-o.len];exact zc K
  have m:=Jw D M o;have E:zg x.cells.length i.size=true:=by rw[k];exact Nat.beq_refl _
  simp only[we]at d;split at d
  case h_3=>simp at d
  case h_1=>
   rename_i id off;split at d
   case h_4=>exact wh d (by simp)
   case h_3=>
    rename_i tb ps A;cases f:zw (zX off i.size) (Det.EC ps)with
    |false=>rw[f]at d;simp at d
    |true=>
     rw[f]at d;simp only[we,AO]at d;obtain⟨rfl,rfl⟩:=d;obtain⟨b,n,y,h1,h2,⟨cs,fz,rfl,h4,h5,hbok⟩,hf,_⟩:=D.at A;simp only[PR]at G;obtain rfl:=G.2 b n h1;rw[CQ]at f;have r:off+x.cells.length<=cs.length:=by rw[<-h4.len,k];exact zf f
     refine⟨id,.inl ⟨off,rfl⟩,.tup [],_,F,ρ,.inr ⟨?_,rfl⟩,by simp[PR],D.set A h1 h2 rfl rfl (o':=.tbox tb<|qj off xs ps) ⟨_,fz,rfl,o.Ch off h4,h5,fun u I=>(Sx I).elim (fun I=>V.KN<|y8.1 m u I)<|hbok u⟩,Le.refl,rfl,rfl,zK _,fun c _=>?_⟩
     ·unfold GH;simp only[R,E,we];rw[LN h2 r h5 m];rfl
     ·rw[H.Bc];by_cases e:c=b
      ·exact .inr ⟨id,zd.2 rfl,n,e▸h1⟩
      ·rw[wc e];exact .inl rfl
   case h_2=>
    rename_i e s l A;cases g:(zg off 0&&zg s.sz 1)with
    |false=>rw[g]at d;simp at d
    |true=>
     rw[g]at d;rw[ze]at g;have w:=zc g.1;have L:=zc g.2;subst w;simp only[we]at d;split at d
     case h_2=>exact wh d (by simp)
     rename_i y Q;simp only[BA,w5]at d;obtain⟨J,rfl,rfl⟩:=d;obtain⟨b,n,z,h1,h2,⟨cs,fz,rfl,h4,h5,h6⟩,hf,_⟩:=D.at A;simp only[PR]at G;obtain rfl:=G.2 b n h1;have W:cs.length=x.cells.length:=by rw[h4.1,L,yo,k];exact J
     obtain⟨k1,k2⟩:=Io o Q (by rw[L,yo];exact k);have r:0+x.cells.length<=cs.length:=by omega
     refine⟨id,.inl ⟨0,rfl⟩,.tup [],_,F,ρ,.inr ⟨?_,rfl⟩,by simp[PR],D.set A h1 h2 rfl rfl (o':=.arr false e s y) ⟨qj 0 x.cells cs,fz,rfl,by rw[aK W.symm];exact k2,h5,by omega⟩,Le.refl,rfl,rfl,zK _,fun c _=>?_⟩
     ·unfold GH;simp only[R,E,we];rw[LN h2 r h5 m];rfl
     ·rw[H.Bc];by_cases e:c=b
      ·exact .inr ⟨id,zd.2 rfl,n,e▸h1⟩
      ·rw[wc e];exact .inl rfl
   rename_i ps A;cases f:zw (zX off i.size) (Det.EC ps)with
   |false=>rw[f]at d;simp at d
   |true=>
    rw[f]at d;simp only[we,AO]at d;obtain⟨rfl,rfl⟩:=d;obtain⟨b,n,y,h1,h2,⟨cs,te,fz,rfl,h4,h5,hbok⟩,hf,_⟩:=D.at A;simp only[PR]at G;obtain rfl:=G.2 b n h1;rw[CQ]at f;have r:off+x.cells.length<=cs.length:=by rw[<-h4.len,k];exact zf f
    refine⟨id,.inl ⟨off,rfl⟩,.tup [],_,F,ρ,.inr ⟨?_,rfl⟩,by simp[PR],D.set A h1 h2 rfl rfl (o':=.box<|qj off xs ps) ⟨_,te,fz,rfl,o.Ch off h4,h5,fun u I=>(Sx I).elim (fun I=>V.KN<|y8.1 m u I)<|hbok u⟩,Le.refl,rfl,rfl,zK _,fun c _=>?_⟩
    ·unfold GH;simp only[R,E,we];rw[LN h2 r h5 m];rfl
    ·rw[H.Bc];by_cases e:c=b
     ·exact .inr ⟨id,zd.2 rfl,n,e▸h1⟩
     ·rw[wc e];exact .inl rfl
  case h_2=>
   rename_i id sz j off;split at d
   case h_2=>simp at d
   rename_i e s l A;cases g:(zg sz s.sz&&zw (zX off i.size) sz)with
   |false=>rw[g]at d;simp at d
   |true=>
    rw[g]at d;simp only[ze]at g;have S:=zc g.1;have w:=zf g.2;subst S;simp only[we]at d;split at d
    case h_2=>simp at d
    rename_i y Q;simp only[BA,w5]at d;obtain⟨J,rfl,rfl⟩:=d;obtain⟨b,n,z,h1,h2,⟨cs,fz,rfl,h4,h5,h6⟩,hf,_⟩:=D.at A;simp only[PR]at G;obtain rfl:=G.2 b n h1;rw[show l.getD j s.GB=l[j]from by simp[J]]at Q;have U:=CM (F:=F) (ρ:=ρ) (N:=st.nx)<|h4.2 j J;have X:=CF (o.Ch off U) Q;have O:=DN.set h4 J (by rw[k];exact w) X;have r:j*s.sz+off+x.cells.length<=cs.length:=by
     have:j*s.sz+s.sz<=cs.length:=by rw[h4.1, <-zx];exact zu _ J
     have:off+i.size<=s.sz:=w;omega
    refine⟨id,.inr ⟨_,_,_,rfl⟩,.tup [],_,F,ρ,.inr ⟨?_,rfl⟩,by simp[PR],D.set A h1 h2 rfl rfl (o':=.arr false e s<|l.set j y) ⟨_,fz,rfl,O,h5,by simpa using h6⟩,Le.refl,rfl,rfl,zK _,fun c _=>?_⟩
    ·unfold GH;simp only[R,E,we];rw[LN h2 r h5 m];rfl
    ·rw[H.Bc];by_cases e:c=b
     ·exact .inr ⟨id,zd.2 rfl,n,e▸h1⟩
     ·rw[wc e];exact .inl rfl
theorem De{k:IntKind}{n:Int}{v:V}(h:PR F ρ N (.dat (.int k) n) v):v=.int k n:=by simpa [PR,DC]using h
theorem Fe{s:Z}{v:V}(h:PR F ρ N (.dat .str s) v):v=.str s:=by simpa [PR,DC]using h
theorem GY{b:Bool}{v:V}(h:PR F ρ N (.dat .bool b) v):v=.bool b:=by simpa [PR,DC]using h
theorem Nh{b:Bool}{v:V}(h:PR F ρ N (.bl b) v):v=.bool b:=by simpa [PR]using h
theorem C3(k:IntKind)(n:Int):PR F ρ N (.dat (.int k) n) (.int k n):=by simp[PR,DC]
theorem Ru(s:Z):PR F ρ N (.dat .str s) (.str s):=by simp[PR,DC]
theorem Dt(b:Bool):PR F ρ N (.dat .bool b) (.bool b):=by simp[PR,DC]
theorem Ib(b:Bool):PR F ρ N (.bl b) (.bool b):=by simp[PR]
theorem GV{p:PV}{b:Bool}{v:V}(h:IM p=some b)(a:PR F ρ N p v):v=.bool b:=by
 unfold IM at h;split at h
 ·cases h;exact Nh a
 ·cases h;exact GY a
 ·cases h
theorem uF(d:SR B h0 F ρ st.nx st.ob h){op:BinOp}{k:IntKind}{a b:Int}{v:PV}(c:(rD op k a b st).To v st'):OK B h0 F ρ st h [] (Bp h<|O4 op k a b) v st':=by
 unfold rD at c;split at c<;>simp only[KT,AO,BA,w5,wm]at c
 all_goals first
  |(obtain⟨rfl,rfl⟩:=c;exact OK.pure d rfl (C3 _ _))
  |(obtain⟨rfl,rfl⟩:=c;exact OK.pure d rfl (Dt _))
  |(obtain⟨e,rfl,rfl⟩:=c;exact OK.pure d (by simp only[O4,e,vf,Bp])<|C3 _ _)
theorem wF(d:SR B h0 F ρ st.nx st.ob h){op:BinOp}{k:IntKind}{a b:Int}{v:PV}(c:(wT op k a b st).To v st'):OK B h0 F ρ st h [] (Bp h<|Xi op k a b) v st':=by
 unfold wT at c;split at c<;>simp only[KT,BA,w5]at c
 all_goals
  obtain⟨e,rfl,rfl⟩:=c;exact OK.pure d (by simp only[Xi,Int.not_lt.2 e,vf,Bp])<|C3 _ _
theorem sL(b:SR B h0 F ρ st.nx st.ob h){op:BinOp}{x y:Z}{v:PV}(a:(oX op x y st).To v st'):OK B h0 F ρ st h [] (Bp h<|SF op x y) v st':=by
 unfold oX at a;split at a<;>simp only[KT,AO,BA,w5]at a
 all_goals first
  |(obtain⟨rfl,rfl⟩:=a;exact OK.pure b rfl (Dt _))
  |(obtain⟨c,rfl,rfl⟩:=a;exact OK.pure b (by simp only[SF,c,wk,Bp])<|Ru _)
theorem PN:∀ {ks:List FK} {ps s:List PV} {xs f:List V} {r:Bool},A9 F ρ N ps xs->A9 F ρ N s f->Ge ks ps s=some r->fit ks xs=true/\fit ks f=true/\BK xs f=some r
 |[],[],[],xs,f,r,g,i,d=>by
  simp at g i;subst g i;simp only[Ge,zh]at d;subst d;exact⟨rfl,rfl,rfl⟩
 |[],_::_,_,xs,f,r,g,i,d=>by simp[Ge]at d
 |[],[],_::_,xs,f,r,g,i,d=>by simp[Ge]at d
 |k::ks,[],_,xs,f,r,g,i,d=>by cases k<;>simp[Ge]at d
 |k::ks,_::_,[],xs,f,r,g,i,d=>by cases k<;>simp[Ge]at d
 |k::ks,p::ps,q::s,xs,f,r,g,i,d=>by
  simp only[A9]at g i;obtain⟨x,xs,rfl,j,t⟩:=g;obtain⟨y,f,rfl,hy1,hy2⟩:=i;have key:∀ {c:Bool},k.ok x=true->k.ok y=true->Dj x y=some c->(Ge ks ps s).map (fun r=>c&&r)=some r->fit (k::ks) (x::xs)=true/\fit (k::ks) (y::f)=true/\BK (x::xs) (y::f)=some r:=by
   intro c z D v u;rw[zp]at u;obtain⟨P,O,rfl⟩:=u;obtain⟨g1,g2,g3⟩:=PN t hy2 O;refine⟨by simp[fit,z,g1],by simp[fit,D,g2],?_⟩;have M:xs.length=f.length:=by rw[<-QS g1, <-QS g2]
   cases c with
   |true=>simp only[BK,v,g3,Bool.true_and]
   |false=>simp only[BK,v,Bool.false_and,M,wk]
  unfold Ge at d;split at d
  case h_1=>rename_i e _ _;cases e
  case h_2=>
   rename_i w J G a I E b L m n l;cases m;cases n;cases l;cases o:(w==G&&w==E)with
   |false=>rw[o]at d;cases d
   |true=>
    rw[o]at d;simp only[ze,wj]at o;obtain⟨rfl,rfl⟩:=o;obtain rfl:=De j;obtain rfl:=De hy1;exact key (by simp[FK.ok]) (by simp[FK.ok]) (by simp[Dj]) d
  case h_3=>
   rename_i m n l;cases m;cases n;cases l;obtain rfl:=Fe j;obtain rfl:=Fe hy1;exact key rfl rfl (by simp[Dj]) d
  case h_4=>
   rename_i m n l;cases m;cases n;cases l;split at d
   case h_2=>cases d
   rename_i a b A K;obtain rfl:=GV A j;obtain rfl:=GV K hy1;exact key rfl rfl rfl d
  case h_5=>cases d
theorem Vs(r:SR B h0 F ρ st.nx st.ob h){op:BinOp}{t e:TypeId}(m:C.T.und t=some (.slice e)){p:PV}{x:V}(d:PR F ρ st.nx p x){ng:Bool}{v:PV}(a:(Q3 st ng p).To v st'):
  (∀(_:x=.nili),False)/\∃b,Bk C.T t x .nils=some b/\PR F ρ st.nx v (.bool<|b !=ng)/\K5 C.T op t x .nils=(match op with| .eql=>(Bk C.T t x .nils).map fun b=>.bool b| .neq=>(Bk C.T t x .nils).map fun b=>.bool !b|_=>none)/\st'=st:=by
 have dq:∀ {x:V},x=.nils\/x=.esl\/x=.es0\/(∃b off len cap o,x=.sl b off len cap o)->K5 C.T op t x .nils=(match op with| .eql=>(Bk C.T t x .nils).map fun b=>.bool b| .neq=>(Bk C.T t x .nils).map fun b=>.bool !b|_=>none):=by
  rintro x (rfl|rfl|rfl|⟨b,off,len,cap,o,rfl⟩)<;>cases op<;>rfl
 have no:∀ {x:V},x=.esl\/x=.es0\/(∃b off len cap o,x=.sl b off len cap o)->Bk C.T t x .nils=some false:=by
  rintro x (rfl|rfl|⟨b,off,len,cap,o,rfl⟩)<;>simp[Bk,m]
 have yes:Bk C.T t .nils .nils=some true:=by simp[Bk,m]
 unfold Q3 at a;split at a
 case h_1=>
  simp only[AO]at a;obtain⟨rfl,rfl⟩:=a;simp only[PR]at d;subst d;exact⟨fun e=>(by cases e),true,yes,by simp[PR],dq<|.inl rfl,rfl⟩
 case h_2=>
  rename_i id sz off len cap;cases j:Hu (st.obj id)with
  |false=>rw[j]at a;simp at a
  |true=>
   rw[j]at a;simp only[we,AO]at a;obtain⟨rfl,rfl⟩:=a;obtain⟨o,ho⟩:=HM j;obtain⟨b,n,_,h1,_⟩:=r.at ho;simp only[PR]at d;have:x=.esl\/x=.es0\/(∃b off len cap o,x=.sl b off len cap o):=by
    rcases d.2 b n h1 with⟨_,_,o,_,rfl⟩|⟨rfl,_,_,rfl|⟨_,rfl,_⟩⟩
    ·exact .inr<|.inr ⟨_,_,_,_,_,rfl⟩
    ·exact .inl rfl
    ·exact .inr<|.inr ⟨_,_,_,_,_,rfl⟩
   exact⟨fun e=>(by subst e;rcases this with h|h|⟨_,_,_,_,_,h⟩<;>cases h),false,no this,by simp[PR],dq<|.inr this,rfl⟩
 case h_3=>
  rename_i s l;simp only[PR,DC]at d;obtain⟨u,f,d⟩:=d;obtain rfl:x=u:=by simpa using f
  have i:(decide (0<(l:List s.T).length)=true/\v=.bl ng/\st'=st)\/(v=.ub/\st'=st):=by
   generalize decide (0<(l:List s.T).length)=c at a;cases a with
   |tt a=>simp only[AO]at a;exact .inl ⟨rfl,a.1.symm,a.2.symm⟩
   |ff a=>simp only[AO]at a;exact .inr ⟨a.1.symm,a.2.symm⟩
  rcases i with⟨q,rfl,rfl⟩|⟨rfl,rfl⟩
  ·rcases d with⟨rfl,_⟩|⟨b,off,cap,o,k,rfl,_⟩
   ·simp at q
   ·exact⟨fun e=>(by cases e),false,no<|.inr<|.inr ⟨_,_,_,_,_,rfl⟩,by simp[PR],dq<|.inr<|.inr<|.inr ⟨_,_,_,_,_,rfl⟩,rfl⟩
  ·rcases d with⟨rfl,rfl|rfl|rfl⟩|⟨b,off,cap,o,k,rfl,_⟩
   ·exact⟨fun e=>(by cases e),true,yes,by simp[PR],dq<|.inl rfl,rfl⟩
   ·exact⟨fun e=>(by cases e),false,no<|.inl rfl,by simp[PR],dq<|.inr<|.inl rfl,rfl⟩
   ·exact⟨fun e=>(by cases e),false,no<|.inr<|.inl rfl,by simp[PR],dq<|.inr<|.inr<|.inl rfl,rfl⟩
   ·exact⟨fun e=>(by cases e),false,no<|.inr<|.inr ⟨_,_,_,_,_,rfl⟩,by simp[PR],dq<|.inr<|.inr<|.inr ⟨_,_,_,_,_,rfl⟩,rfl⟩
 case h_4=>
  rename_i s l;simp only[AO]at a;obtain⟨rfl,rfl⟩:=a;simp only[PR,DC]at d;obtain⟨u,f,d⟩:=d;obtain rfl:x=u:=by simpa using f
  rcases d with⟨rfl,rfl⟩|⟨h0,b,off,cap,o,k,rfl,_⟩
  ·exact⟨fun e=>(by cases e),true,yes,by cases ng<;>simp[PR,DC],dq<|.inl rfl,rfl⟩
  ·have g:0<(l:List s.T).length:=List.length_pos_iff.2 h0;exact⟨fun e=>(by cases e),false,no<|.inr<|.inr ⟨_,_,_,_,_,rfl⟩,by cases ng<;>simp[PR,DC,g],dq<|.inr<|.inr<|.inr ⟨_,_,_,_,_,rfl⟩,rfl⟩
 case h_5=>simp at a
theorem Ug{o:Option Obj}(h:Hu o=true):∃x,o=some x:=by
 cases o with
 |none=>cases h
 |some x=>exact⟨x,rfl⟩
theorem PH(D:SR B h0 F ρ st.nx st.ob h){t e:TypeId}{p q:PV}{x y:V}(k:C.T.und t=some (.pointer e))(f:PR F ρ st.nx p x)(g:PR F ρ st.nx q y){r:Bool}(c:ptrEq C.T e st p q=some r):
  Bk C.T t x y=some r/\x≠ .nili/\∀op,K5 C.T op t x y=(match op with| .eql=>(Bk C.T t x y).map .bool| .neq=>(Bk C.T t x y).map fun b=>.bool !b|_=>none):=by
 have live:∀ {id off:Nat} {v:V},PR F ρ st.nx (.ptr id off) v->Hu (st.obj id)=true->∃b n,ρ id=some (b,n)/\v=.ptr b off:=by
  intro id off v u d;obtain⟨o,A⟩:=Ug d;obtain⟨b,n,_,h1,_⟩:=D.at A;simp only[PR]at u;exact⟨b,n,h1,u.2 b n h1⟩
 unfold ptrEq at c;split at c
 case h_5=>cases c
 case h_1=>
  cases c;simp only[PR]at f g;subst f g;exact⟨by unfold Bk;rw[k],(by intro e;cases e),fun op=>by cases op<;>rfl⟩
 case h_2=>
  rename_i id off;cases d:Hu (st.obj id)with
  |false=>rw[d]at c;cases c
  |true=>
   rw[d]at c;cases c;obtain⟨b,n,_,rfl⟩:=live f d;simp only[PR]at g;subst g;exact⟨by unfold Bk;rw[k],(by intro e;cases e),fun op=>by cases op<;>rfl⟩
 case h_3=>
  rename_i id off;cases d:Hu (st.obj id)with
  |false=>rw[d]at c;cases c
  |true=>
   rw[d]at c;cases c;obtain⟨b,n,_,rfl⟩:=live g d;simp only[PR]at f;subst f;exact⟨by unfold Bk;rw[k],(by intro e;cases e),fun op=>by cases op<;>rfl⟩
 case h_4=>
  rename_i a i b j;cases d:(zg a b&&Hu (st.obj a))with
  |false=>rw[d]at c;cases c
  |true=>
   rw[d]at c;rw[ze]at d;have s:=zc d.1;subst s;simp only[we]at c;split at c
   case h_2=>cases c
   rename_i z m;cases l:zN 0 z.size with
   |false=>rw[l]at c;cases c
   |true=>
    rw[l]at c;cases c;rw[Nat.blt_eq]at l;obtain⟨b,n,w,rfl⟩:=live f d.2;obtain⟨b',n',g2,rfl⟩:=live g d.2;rw[w]at g2;cases g2;refine⟨?_,(by intro e;cases e),fun op=>by cases op<;>rfl⟩;unfold Bk;rw[k];simp only[wk,m];rw[wd<|by omega];congr 1;rw[Bf,Bool.eq_iff_iff];simp
theorem uU(d:SR B h0 F ρ st.nx st.ob h){op:BinOp}{t:TypeId}{D E:Operand}{p q:PV}{x y:V}(g:PR F ρ st.nx p x)(f:PR F ρ st.nx q y){v:PV}(c:(nI C.T op t p q st).To v st'):
  OK B h0 F ρ st h [] (Bp h<|LI C.T op t D E x y) v st':=by
 have l:∀ {x y:V},(∀(e:x=.nili),False)->LI C.T op t D E x y=K5 C.T op t x y:=by
  intro x y n;unfold LI hJ;split
  ·rename_i h;split at h
   ·exact(n rfl).elim
   ·exact(n rfl).elim
   ·cases h
  ·rfl
 unfold nI at c;split at c
 case h_1=>
  rename_i k a M b;obtain rfl:=De g;obtain rfl:=De f;rw[l<|fun e=>by cases e];cases j:jZ op with
  |true=>
   rw[j]at c;simp only[we]at c;have:=wF d c;unfold K5;cases op<;>simp only[jZ]at j<;>first|(cases j;done)|exact this
  |false=>
   rw[j]at c;simp only[wg]at c;cases o:(k==M)with
   |false=>rw[o]at c;simp at c
   |true=>
    rw[o]at c;simp only[we]at c;have:=uF d c;have o:=wj.1 o;subst o;unfold K5;cases op<;>simp only[jZ]at j<;>first|(cases j;done)|(simp only[wk];exact this)
 case h_2=>
  rename_i a b;obtain rfl:=Fe g;obtain rfl:=Fe f;rw[l<|fun e=>by cases e];have:=sL d c;unfold K5;cases op<;>exact this
 case h_3=>
  rename_i ps L;simp only[PR]at g f;obtain⟨xs,rfl,g⟩:=g;obtain⟨ys,rfl,f⟩:=f;rw[l<|fun e=>by cases e];split at c
  case h_2=>simp at c
  rename_i ks w;have eq:∀ {r:Bool},Ge ks ps L=some r->Bk C.T t (.agg xs) (.agg ys)=some r:=by
   intro r i;obtain⟨I,J,O⟩:=PN g f i;have:LW (C.T.flat t) xs ys=some r:=by simp[LW,w,I,J,O]
   unfold Bk;split<;>first|exact this|(simp_all;done)
  split at c
  case h_1=>
   rename_i r i;simp only[AO]at c;obtain⟨rfl,rfl⟩:=c;exact OK.pure d (by show Bp h ((Bk C.T t (.agg xs)<|.agg ys).map _)=_;rw[eq i];rfl)<|Dt _
  case h_2=>
   rename_i r i;simp only[AO]at c;obtain⟨rfl,rfl⟩:=c;exact OK.pure d (by show Bp h ((Bk C.T t (.agg xs)<|.agg ys).map _)=_;rw[eq i];rfl)<|Dt _
  case h_3=>simp at c
 case h_4=>
  split at c
  case h_4=>simp at c
  case h_3=>
   rename_i e _ _ m;split at c
   case h_3=>simp at c
   case h_1=>
    rename_i r z;simp only[AO]at c;obtain⟨rfl,rfl⟩:=c;obtain⟨k1,k2,k3⟩:=PH d m g f z;rw[l k2,k3];exact OK.pure d (by simp only[k1];rfl)<|Ib _
   case h_2=>
    rename_i r z;simp only[AO]at c;obtain⟨rfl,rfl⟩:=c;obtain⟨k1,k2,k3⟩:=PH d m g f z;rw[l k2,k3];exact OK.pure d (by simp only[k1];rfl)<|Ib _
  case h_2=>
   rename_i e _ _ m;unfold aR at c;split at c
   case h_3=>simp at c
   case h_1=>
    have j:=Vs (op:=.eql) d m g c;obtain⟨n,b,s,u,A,e⟩:=j;subst e;simp only[PR]at f;subst f;rw[l n,A];exact OK.pure d (v':=.bool b) (by simp only[s];rfl) (by simpa using u)
   case h_2=>
    have j:=Vs (op:=.neq) d m g c;obtain⟨n,b,s,u,A,e⟩:=j;subst e;simp only[PR]at f;subst f;rw[l n,A];exact OK.pure d (v':=.bool<|!b) (by simp only[s];rfl) (by simpa using u)
  rename_i a b G K m;obtain rfl:=GV G g;obtain rfl:=GV K f;rw[l<|fun e=>by cases e];have eq:Bk C.T t (.bool a) (.bool b)=some (a==b):=by unfold Bk;rw[m]
  split at c
  case h_1=>
   simp only[AO]at c;obtain⟨rfl,rfl⟩:=c;exact OK.pure d (by show Bp h ((Bk C.T t (.bool a)<|.bool b).map _)=_;rw[eq];rfl)<|Dt _
  case h_2=>
   simp only[AO]at c;obtain⟨rfl,rfl⟩:=c;exact OK.pure d (by show Bp h ((Bk C.T t (.bool a)<|.bool b).map _)=_;rw[eq];rfl)<|Dt _
  case h_3=>simp at c
theorem wZ(d:SR B h0 F ρ st.nx st.ob h){op:UnOp}{p:PV}{x:V}(c:PR F ρ st.nx p x){v:PV}(a:(wY op p st).To v st'):OK B h0 F ρ st h [] (Bp h<|uR op x) v st':=by
 unfold wY at a;split at a<;>simp only[KT,AO]at a
 ·obtain⟨rfl,rfl⟩:=a;obtain rfl:=De c;exact OK.pure d rfl (C3 _ _)
 ·obtain⟨rfl,rfl⟩:=a;obtain rfl:=Nh c;exact OK.pure d rfl (Ib _)
 ·obtain⟨rfl,rfl⟩:=a;simp only[PR]at c;obtain⟨b,rfl⟩:=c;exact OK.pure d (v':=.bool<|!b) rfl (by simp[PR])
 ·obtain⟨rfl,rfl⟩:=a;obtain rfl:=GY c;exact OK.pure d rfl (Dt _)
theorem oK(f:SR B h0 F ρ st.nx st.ob h){s d:TypeId}{p:PV}{x:V}(e:PR F ρ st.nx p x){v:PV}(a:(eE C.T s d p st).To v st'):OK B h0 F ρ st h [] (Bp h<|Fc C.T h s d x) v st':=by
 unfold eE at a;split at a<;>simp only[KT,AO]at a
 ·rename_i b c;obtain⟨rfl,rfl⟩:=a;obtain rfl:=De e;exact OK.pure f (by simp[Fc,b,c,Bp])<|C3 _ _
 ·rename_i b c;obtain⟨rfl,rfl⟩:=a;obtain rfl:=Fe e;exact OK.pure f (by simp[Fc,b,c,Bp])<|Ru _
theorem qC(e:SR B h0 F ρ st.nx st.ob h){c a b:PV}{x y z:V}(i:PR F ρ st.nx c x)(f:PR F ρ st.nx a y)(g:PR F ρ st.nx b z){v:PV}(d:(Z1 c a b st).To v st'):
  ∃t,x=.bool t/\OK B h0 F ρ st h [] (Bp h<|some<|if t then y else z) v st':=by
 unfold Z1 at d;split at d
 case h_3=>simp at d
 case h_1=>
  rename_i t;simp only[AO]at d;obtain⟨rfl,rfl⟩:=d;refine⟨t,Nh i,OK.pure e rfl ?_⟩;cases t<;>assumption
 case h_2=>
  rename_i t;refine⟨t,GY i,?_⟩;split at d
  case h_1=>
   simp only[AO]at d;obtain⟨rfl,rfl⟩:=d;obtain rfl:=GY f;obtain rfl:=Nh g;refine OK.pure e rfl ?_;cases t<;>exact Dt _
  case h_2=>
   simp only[AO]at d;obtain⟨rfl,rfl⟩:=d;obtain rfl:=Nh f;obtain rfl:=GY g;refine OK.pure e rfl ?_;cases t<;>exact Dt _
  case h_3=>
   cases d with
   |tt h=>simp only[AO]at h;obtain⟨rfl,rfl⟩:=h;exact OK.pure e rfl f
   |ff h=>simp only[AO]at h;obtain⟨rfl,rfl⟩:=h;exact OK.pure e rfl g
theorem lR(n:SR B h0 F ρ st.nx st.ob h){t:TypeId}{p:PV}{x:V}(k:PR F ρ st.nx p x){f:Nat}{v:PV}(a:(T5 C.T t p f st).To v st'):OK B h0 F ρ st h [] (Bp h<|Jm C.T t x f) v st':=by
 unfold T5 at a;split at a
 case h_2=>simp at a
 rename_i fs ps o;split at a
 case h_2=>simp at a
 rename_i l b;split at a
 case h_2=>simp at a
 rename_i d i m q;simp only[JM]at a;obtain⟨c,rfl⟩:=a;simp only[PR]at k;obtain⟨cs,rfl,hps⟩:=k;rw[K2]at c;have r:=hps.drop l.offset;rcases J9 r c with⟨g,_,w,j⟩|⟨g,u,s,e,j⟩
 ·exact OK.pure n (by simp only[Jm,o,b,Kd,m,q,g,we,Bp]) j
 ·have:cs[l.offset]?=some u:=by
   have:=wi (·[0]?) e;simpa using this
  exact OK.pure n (by simp only[Jm,o,b,Kd,m,q,g,wg,this,Bp]) j
theorem kY(q:SR B h0 F ρ st.nx st.ob h){t:TypeId}{p:PV}{x:V}(l:PR F ρ st.nx p x){f:Nat}{v:PV}(a:(T0 C.T t p f st).To v st'):
  OK B h0 F ρ st h [] (Bp h<|Jt C.T t x f) v st':=by
 have live:∀ {id},Hu (st.obj id)=true->∃b n,ρ id=some (b,n):=by
  intro id w;obtain⟨o,A⟩:=HM w;obtain⟨b,n,_,h1,_⟩:=q.at A;exact⟨b,n,h1⟩
 unfold T0 at a;split at a
 case h_2=>simp at a
 rename_i fs D;split at a
 case h_2=>simp at a
 rename_i z u;split at a
 case h_2=>simp at a
 rename_i i w;cases m:zg i.size 0 with
 |true=>rw[m]at a;simp at a
 |false=>
  have r:i.size≠0:=by intro e;rw[e]at m;cases m
  rw[m]at a;simp only[wg]at a;have d:∀b off,Jt C.T t (.ptr b off) f=some (.ptr b<|off+z.offset):=by
   intro b off;simp only[Jt,D,u,w,r,vf]
  split at a
  ·rename_i id off;cases g:Hu (st.obj id)with
   |false=>rw[g]at a;simp at a
   |true=>
   rw[g]at a;simp only[we,AO]at a;obtain⟨rfl,rfl⟩:=a;have c:=l;simp only[PR]at c;obtain⟨b,n,h1⟩:=live g;obtain rfl:=c.2 b n h1;refine OK.pure q (by rw[d];rfl) ?_;simp only[PR];exact⟨c.1,fun b' n' k=>by rw[h1]at k;cases k;rfl⟩
  ·rename_i id sz j off;cases g:Hu (st.obj id)with
   |false=>rw[g]at a;simp at a
   |true=>
   rw[g]at a;simp only[we,AO]at a;obtain⟨rfl,rfl⟩:=a;have c:=l;simp only[PR]at c;obtain⟨b,n,h1⟩:=live g;obtain rfl:=c.2 b n h1;refine OK.pure q (by rw[d];rfl) ?_;simp only[PR];exact⟨c.1,fun b' n' k=>by rw[h1]at k;cases k;simp[Nat.add_assoc]⟩
  ·rename_i s y off;simp only[AO]at a;obtain⟨rfl,rfl⟩:=a;simp only[PR]at l;obtain⟨b,o,cs,rfl,h1,h2⟩:=l;refine OK.pure q (by rw[d];rfl) ?_;simp only[PR];exact⟨b,o,cs,by simp[Nat.add_assoc],h1,h2⟩
  ·simp at a
end
end Go.Pe
