import Derived.Test.YtlohiljbghionaaGreatDoorX06b
import Derived.Shelf.Strings.OnBuilder
import Derived.Shelf.Strconv.Itoa3
import Derived.Lib.LaidTab
import Derived.Shelf.Strings.Repeat
import Derived.Lib.AppendIntMem
/- A part of a proof; no law is stated here. -/
noncomputable section
set_option maxRecDepth 100000
open Nat renaming eq_of_beq_eq_true -> zc, le_of_ble_eq_true -> zf, beq -> zg, lt_of_lt_of_le -> zl, mul_le_mul_right -> zu, ble -> zw, succ_mul -> zx, le_refl -> z6, blt -> ya, add -> yk, mul_one -> qe
open List renaming mem_singleton -> zd, getElem?_eq_none -> zi, getElem?_take_of_lt -> zj, mem_of_mem_drop -> zm, take_of_length_le -> zn, getElem?_drop -> zo, mem_of_mem_take -> zt, length_append -> yw, drop_take -> yx, ext_getElem? -> qf, all_eq_true -> qq
open Bool renaming and_eq_true -> ze
open Option.some renaming injEq -> zh
open Go.Proofs.Tryz renaming prog -> zk, underlying304 -> zy, underlying5 -> z7, underlying9 -> z8, underlying251 -> yb, underlying240 -> yc, underlying262 -> yd, underlying216 -> ye, underlying20 -> yf, zeroValue251 -> yg, zeroValue240 -> yh, zeroValue262 -> yi, zeroValue216 -> yj, underlying0 -> ym, underlying3 -> yn, underlying4 -> yo, underlying5 -> yp, underlying9 -> yq, zeroValue20 -> yr, underlying216 -> yu, underlying251 -> yv, zeroValue0 -> yy, zeroValue3 -> yz, zeroValue4 -> y7, zeroValue5 -> y8, zeroValue9 -> y9, zeroValue216 -> qc, sizeOf251 -> qg, sizeOf240 -> qh, sizeOf262 -> qi, sizeOf216 -> qj, sizeOf20 -> qk, isAgg251 -> ql, isAgg240 -> qm, isAgg262 -> qn, isAgg216 -> qo, sizeOf0 -> qt, sizeOf3 -> qu, sizeOf4 -> qv, sizeOf5 -> qw, sizeOf9 -> qx, isAgg20 -> qy
open Option renaming map_eq_some_iff -> zp
open Go.Lib renaming decDigits -> zq, nDigits -> zz, zeros24 -> qd
open Array renaming size_replicate -> zr, getElem?_append_left -> yt, toList_inj -> qp
open Go.Det.V renaming ok -> qz
open Go.Value renaming int -> q9
open Go.Det renaming CE -> jc
namespace Go.Det
open Go.Proofs
def GG:Go.Shelf.Ren:=⟨fun|171=>211|243=>245|246=>270|283=>271|284=>272|285=>273|286=>274|129=>228|317=>284|318=>285|319=>286|320=>287|337=>291|338=>292|n=>n,fun|3=>3|9=>9|2=>2|4=>4|171=>304|0=>0|53=>216|37=>251|5=>5|173=>306|212=>320|51=>262|20=>20|213=>321|46=>240|232=>327|233=>328|n=>n,fun|17=>5|18=>8|19=>9|n=>n⟩
theorem HJ:Go.Proofs.LaysM.n171 Go.Proofs.Tryz.prog GG:=
  { mixed:=by kernel_rfl,f129:=Go.Proofs.Tryz.func228.trans (wi some ag),f171:=Go.Proofs.Tryz.func211.trans (wi some ag),f243:=Go.Proofs.Tryz.func245.trans (wi some ag),f246:=Go.Proofs.Tryz.func270.trans (wi some ag),f283:=Go.Proofs.Tryz.func271.trans (wi some ag),f284:=Go.Proofs.Tryz.func272.trans (wi some ag),f285:=Go.Proofs.Tryz.func273.trans (wi some ag),f286:=Go.Proofs.Tryz.func274.trans (wi some ag),f317:=Go.Proofs.Tryz.func284.trans (wi some ag),f318:=Go.Proofs.Tryz.func285.trans (wi some ag),f319:=Go.Proofs.Tryz.func286.trans (wi some ag),f320:=Go.Proofs.Tryz.func287.trans (wi some ag),f337:=Go.Proofs.Tryz.func291.trans (wi some ag),f338:=Go.Proofs.Tryz.func292.trans (wi some ag),t0:=ym,a0:=Go.Proofs.Tryz.isAgg0,z0:=qt,v0:=yy,t2:=Go.Proofs.Tryz.underlying2,a2:=Go.Proofs.Tryz.isAgg2,z2:=Go.Proofs.Tryz.sizeOf2,v2:=Go.Proofs.Tryz.zeroValue2,t3:=yn,a3:=Go.Proofs.Tryz.isAgg3,z3:=qu,v3:=yz,t4:=yo,a4:=Go.Proofs.Tryz.isAgg4,z4:=qv,v4:=y7,t5:=yp,a5:=Go.Proofs.Tryz.isAgg5,z5:=qw,v5:=y8,t9:=yq,a9:=Go.Proofs.Tryz.isAgg9,z9:=qx,v9:=y9,t20:=yf,a20:=qy,z20:=qk,v20:=yr,t37:=yb,a37:=ql,z37:=qg,v37:=yg,t46:=yc,a46:=qm,z46:=qh,v46:=yh,t51:=yd,a51:=qn,z51:=qi,v51:=yi,t53:=ye,a53:=qo,z53:=qj,v53:=yj,t171:=Go.Proofs.Tryz.underlying304,a171:=Go.Proofs.Tryz.isAgg304,z171:=Go.Proofs.Tryz.sizeOf304,v171:=Go.Proofs.Tryz.zeroValue304,t173:=Go.Proofs.Tryz.underlying306,a173:=Go.Proofs.Tryz.isAgg306,z173:=Go.Proofs.Tryz.sizeOf306,v173:=Go.Proofs.Tryz.zeroValue306,t212:=Go.Proofs.Tryz.underlying320,a212:=Go.Proofs.Tryz.isAgg320,z212:=Go.Proofs.Tryz.sizeOf320,v212:=Go.Proofs.Tryz.zeroValue320,t213:=Go.Proofs.Tryz.underlying321,a213:=Go.Proofs.Tryz.isAgg321,z213:=Go.Proofs.Tryz.sizeOf321,t232:=Go.Proofs.Tryz.underlying327,a232:=Go.Proofs.Tryz.isAgg327,z232:=Go.Proofs.Tryz.sizeOf327,v232:=Go.Proofs.Tryz.zeroValue327,t233:=Go.Proofs.Tryz.underlying328,a233:=Go.Proofs.Tryz.isAgg328,z233:=Go.Proofs.Tryz.sizeOf328,v233:=Go.Proofs.Tryz.zeroValue328,g17:=by kernel_rfl,g18:=by kernel_rfl,g19:=by kernel_rfl,i0:=by kernel_rfl,i2:=by kernel_rfl,i3:=by kernel_rfl,i4:=by kernel_rfl,i5:=by kernel_rfl,i9:=by kernel_rfl,i20:=by kernel_rfl,i37:=by kernel_rfl,i46:=by kernel_rfl,i51:=by kernel_rfl,i53:=by kernel_rfl,i171:=by kernel_rfl,i173:=by kernel_rfl,i212:=by kernel_rfl,i232:=by kernel_rfl,i233:=by kernel_rfl,m17:=by kernel_rfl,m18:=by kernel_rfl,m19:=by kernel_rfl }
open Go.Proofs.Tryz (prog)
theorem Xd(s:Z):(bytesOf s).data.toList=s:=by simp[bytesOf]
def eqU:List V->List Int->Bool
 |[],[]=>true
 | .int .u64 n::l,m::r=>bif decide (n=m)then eqU l r else false
 |_,_=>false
theorem ZM{p:Pl}:∀ {cs:List V} {r:List Int} {vs:List Value},eqU cs r=true->At p cs vs->vs=r.map fun z=>q9 .u64 z
 |[],[],vs,_,h=>by simpa using h
 | .int .u64 n::l,m::r,vs,a,h=>by
  unfold eqU at a;cases b:decide (n=m)with
  |false=>rw[b]at a;cases a
  |true=>
   rw[b]at a;have e:=w6 b;subst e;cases vs with
   |nil=>simp at h
   |cons v vs=>
    simp only[Bh,Ac]at h;rw[h.1,ZM a h.2];rfl
def Sk(h:H):Bool:=match h.get 5 with
 |some (.cells cs _ _)=>eqU cs Lib.pow10Tab
 |_=>false
def ZF:List V->H->Option (V×H)
 |[.int .i64 n],h=>bif Sk h&&decide (-9223372036854775808<=n)&&decide (n<=9223372036854775807)then some (.str<|Lib.itoa n,h)else none
 |_,_=>none
def mH:XN:=fun f=>bif zg f 211 then some ZF else none
theorem hO:∀ {cs:List V} {r:List Int},eqU cs r=true->cs.length=r.length/\∀d∈cs,d.ok=true
 |[],[],_=>⟨rfl,fun d a=>by cases a⟩
 | .int .u64 n::l,m::r,b=>by
  unfold eqU at b;cases a:decide (n=m)with
  |false=>rw[a]at b;cases b
  |true=>
   rw[a]at b;obtain⟨c,e⟩:=hO (cs:=l) (r:=r) b;refine⟨by simp[c],fun d a=>?_⟩;rcases List.mem_cons.1 a with rfl|a
   ·rfl
   ·exact e d a
theorem Aby : prog.globalNamed "internal/strconv.uint64pow10" = some 5 := by kernel_rfl
theorem at5{p:Pl}(a:Gp p):p[5]?=some (5,20):=a _<|List.mem_cons_self ..
theorem Zf {p : Pl} {h : H} {w : World} (hr : R p h w) (i : Gp p) (a : Sk h = true) : Lib.TabIs prog w "internal/strconv.uint64pow10" .u64 Lib.pow10Tab := by
 unfold Sk at a;split at a
 case h_2=>cases a
 rename_i cs t fz f;obtain⟨r,n,x,d,j,c,fz',rfl,k,l,e,_⟩:=hr.obj 5 _ f;rw[at5 i]at d;cases d;obtain⟨e1,e2⟩:=hO a;have m:cs.length=20:=e1.trans rfl;have b:c.toList.take cs.length=c.toList:=zn (by simp;omega);rw[b]at e;have g:=ZM a (e.NL e2);unfold Lib.TabIs World.var?;rw[Aby];show(match w.heap[5]? with
  |some (.cells cs _ _)=>some cs
  |_=>none)=_
 rw[j];show some c=_;rw[<-g]
theorem mN:LD prog mH:=by
 intro f q c p h w args args' v h' hr l m a;unfold mH at c;cases d:zg f 211 with
 |false=>rw[d]at c;cases c
 |true=>
  rw[d]at c;cases c;cases zc d;unfold ZF at a;split at a
  case h_2=>cases a
  rename_i n;cases b:(Sk h&&decide (-9223372036854775808<=n)&&decide (n<=9223372036854775807))with
  |false=>rw[b]at a;cases a
  |true=>
   rw[b]at a;cases a;rw[ze,ze,w5,w5]at b;obtain⟨x,o,g⟩:=m.one;have:args'= #[x]:=qp.1 o;subst this;simp only[Ac]at g;subst g;refine(Any.strconv_Itoa HJ n b.1.2 b.2 w<|Zf hr l b.1.1).mono ?_;rintro e w' ⟨rfl,k,os,rfl⟩;exact⟨_,p,rfl,by simp only[Ac];rfl,MP hr ⟨rfl,rfl,rfl,by show w.heap.size<=(w.heap++os).size;rw[Array.size_append];omega,fun j i=>by show(w.heap++os)[j]?=_;exact yt i⟩⟩
open Go.Proofs
def J0:Go.Shelf.Ren:=⟨fun|105=>214|212=>251|99=>173|165=>252|166=>215|170=>253|169=>216|263=>275|264=>177|206=>204|240=>254|241=>276|276=>277|277=>288|n=>n,fun|9=>9|3=>3|4=>4|20=>20|0=>0|46=>240|109=>281|5=>5|72=>253|76=>214|51=>262|146=>295|53=>216|148=>217|70=>250|37=>251|75=>213|127=>284|164=>309|80=>226|n=>n,fun|n=>n⟩
theorem cO:Go.Proofs.Lays.n105 Go.Proofs.Tryz.prog J0:=
  { mixed:=by kernel_rfl,f99:=Go.Proofs.Tryz.func173.trans (wi some ag),f105:=Go.Proofs.Tryz.func214.trans (wi some ag),f165:=Go.Proofs.Tryz.func252.trans (wi some ag),f166:=Go.Proofs.Tryz.func215.trans (wi some ag),f169:=Go.Proofs.Tryz.func216.trans (wi some ag),f170:=Go.Proofs.Tryz.func253.trans (wi some ag),f206:=Go.Proofs.Tryz.func204.trans (wi some ag),f212:=Go.Proofs.Tryz.func251.trans (wi some ag),f240:=Go.Proofs.Tryz.func254.trans (wi some ag),f241:=Go.Proofs.Tryz.func276.trans (wi some ag),f263:=Go.Proofs.Tryz.func275.trans (wi some ag),f264:=Go.Proofs.Tryz.func177.trans (wi some ag),f276:=Go.Proofs.Tryz.func277.trans (wi some ag),f277:=Go.Proofs.Tryz.func288.trans (wi some ag),t0:=ym,a0:=Go.Proofs.Tryz.isAgg0,z0:=qt,v0:=yy,t3:=yn,a3:=Go.Proofs.Tryz.isAgg3,z3:=qu,v3:=yz,t4:=yo,a4:=Go.Proofs.Tryz.isAgg4,z4:=qv,v4:=y7,t5:=yp,a5:=Go.Proofs.Tryz.isAgg5,z5:=qw,v5:=y8,t9:=yq,a9:=Go.Proofs.Tryz.isAgg9,z9:=qx,v9:=y9,t20:=yf,a20:=qy,z20:=qk,v20:=yr,t37:=yb,a37:=ql,z37:=qg,v37:=yg,t46:=yc,a46:=qm,z46:=qh,v46:=yh,t51:=yd,a51:=qn,z51:=qi,v51:=yi,t53:=ye,a53:=qo,z53:=qj,v53:=yj,t70:=Go.Proofs.Tryz.underlying250,a70:=Go.Proofs.Tryz.isAgg250,z70:=Go.Proofs.Tryz.sizeOf250,v70:=Go.Proofs.Tryz.zeroValue250,t72:=Go.Proofs.Tryz.underlying253,a72:=Go.Proofs.Tryz.isAgg253,z72:=Go.Proofs.Tryz.sizeOf253,v72:=Go.Proofs.Tryz.zeroValue253,t75:=Go.Proofs.Tryz.underlying213,a75:=Go.Proofs.Tryz.isAgg213,z75:=Go.Proofs.Tryz.sizeOf213,v75:=Go.Proofs.Tryz.zeroValue213,t76:=Go.Proofs.Tryz.underlying214,a76:=Go.Proofs.Tryz.isAgg214,z76:=Go.Proofs.Tryz.sizeOf214,v76:=Go.Proofs.Tryz.zeroValue214,t109:=Go.Proofs.Tryz.underlying281,a109:=Go.Proofs.Tryz.isAgg281,z109:=Go.Proofs.Tryz.sizeOf281,v109:=Go.Proofs.Tryz.zeroValue281,t127:=Go.Proofs.Tryz.underlying284,a127:=Go.Proofs.Tryz.isAgg284,z127:=Go.Proofs.Tryz.sizeOf284,v127:=Go.Proofs.Tryz.zeroValue284,t146:=Go.Proofs.Tryz.underlying295,a146:=Go.Proofs.Tryz.isAgg295,z146:=Go.Proofs.Tryz.sizeOf295,v146:=Go.Proofs.Tryz.zeroValue295,t148:=Go.Proofs.Tryz.underlying217,a148:=Go.Proofs.Tryz.isAgg217,z148:=Go.Proofs.Tryz.sizeOf217,v148:=Go.Proofs.Tryz.zeroValue217,t164:=Go.Proofs.Tryz.underlying309,a164:=Go.Proofs.Tryz.isAgg309,z164:=Go.Proofs.Tryz.sizeOf309,v164:=Go.Proofs.Tryz.zeroValue309 }
theorem qU:Builder.Extra zk J0:=
  { sizeBuilder:=by kernel_rfl,liesBuilder:=by kernel_rfl,t5:=z7,a5:=Tryz.isAgg5,z5:=Tryz.sizeOf5,v5:=Tryz.zeroValue5,infoByte:=by kernel_rfl,cellsByte:=by kernel_rfl,sizeByte:=by kernel_rfl,neB5:=by decide }
open Go.Proofs.Tryz (prog)
def Si:List V->H->Option (V×H)
  |[.str s,.int .i64<|.ofNat c],h=>bif zw c 9223372036854775807&&zw (EN s*c) 140737488355328 then some (.str<|Lib.repeatL s c,h)else none
  |_,_=>none
def TL:XN:=fun f=>bif zg f 214 then some Si else none
theorem XX:LD prog TL:=by
  intro f q d p h w args args' v h' hr r n a
  unfold TL at d
  cases g:zg f 214 with
  |false=>rw[g]at d;cases d
  |true=>
    rw[g]at d;cases d
    cases zc g
    unfold Si at a
    split at a
    case h_2=>cases a
    rename_i s c
    cases b:(zw c 9223372036854775807&&zw (EN s*c) 140737488355328)with
    |false=>rw[b]at a;cases a
    |true=>
      rw[b]at a;cases a
      rw[ze]at b
      have m:=zf b.1
      have j:=zf b.2
      rw[Db]at j
      obtain⟨x,y,o,l,k⟩:=n.two
      have:args'= #[x,y]:=qp.1 o
      subst this
      simp only[Ac]at l k;subst l k
      refine(Any.strings_Repeat cO qU (bytesOf s) c w m<|by rw[BE];exact j).mono ?_
      rintro e w' ⟨rfl,i⟩
      exact⟨_,p,rfl,by simp only[Ac];rw[Xd];rfl,MP hr i⟩
end Go.Det
namespace Go.Proofs
open Go.Shelf Go.RowKit Go.Sort Go.Lib Go.Det
namespace FmtU
set_option maxHeartbeats 6400000 in
theorem small(i:Nat)(q:i<100)(w:World):Calls zk 250 #[.int .u64 i,.int .i64 10] w fun e w'=>e=.returned (.string ⟨(zq i).toArray⟩)/\w'=w:=by
 have mixed:=HJ.mixed;have t3:=Tryz.underlying3;have a3:=Tryz.isAgg3;have z3:=Tryz.sizeOf3;have v3:=Tryz.zeroValue3;have t9:=z8;have a9:=Tryz.isAgg9;have z9:=Tryz.sizeOf9;have v9:=Tryz.zeroValue9;have t4:=Tryz.underlying4;have a4:=Tryz.isAgg4;have z4:=Tryz.sizeOf4;have v4:=Tryz.zeroValue4;have o:=yu;have p:=Tryz.isAgg216;have c:=Tryz.sizeOf216;have m:=qc;have d:=zy;have k:=Tryz.isAgg304;have g:=Tryz.sizeOf304;have a:=Tryz.zeroValue304;have t0:=Tryz.underlying0;have a0:=Tryz.isAgg0;have z0:=Tryz.sizeOf0;have v0:=Tryz.zeroValue0;have f:=yv;have b:=Tryz.isAgg251;have j:=Tryz.sizeOf251;have n:=Tryz.zeroValue251;have t5:=z7;have a5:=Tryz.isAgg5;have z5:=Tryz.sizeOf5;have v5:=Tryz.zeroValue5;have l:∀args w,(callFunc 271 args).run zk w=.ok (.enter 271 args) w:=enters_of Tryz.func271 ag rfl;go_enter Tryz.func250,Tryz.ntmps250
 go_wp2_with (go_at_fn 271;refine(Any.internal_strconv_small (ρ:=GG) { HJ with } i q _).mono ?_;rintro e w' ⟨rfl,rfl⟩)
 go_ret
 exact⟨rfl,rfl⟩
set_option maxHeartbeats 6400000 in
theorem big (u : Nat) (Q : 100 <= u) (a : u < 18446744073709551616) (w : World) (l : Lib.TabIs Tryz.prog w "internal/strconv.uint64pow10" .u64 Lib.pow10Tab) :
  Calls zk 250 #[.int .u64 u,.int .i64 10] w fun e w'=>e=.returned (.string ⟨(zq u).toArray⟩)/\∃k os,w'=grow (w.drewN k) os:=by
 have mixed:=HJ.mixed;have t3:=Tryz.underlying3;have a3:=Tryz.isAgg3;have z3:=Tryz.sizeOf3;have v3:=Tryz.zeroValue3;have t9:=z8;have a9:=Tryz.isAgg9;have z9:=Tryz.sizeOf9;have v9:=Tryz.zeroValue9;have t4:=Tryz.underlying4;have a4:=Tryz.isAgg4;have z4:=Tryz.sizeOf4;have v4:=Tryz.zeroValue4;have I:=yu;have J:=Tryz.isAgg216;have s:=Tryz.sizeOf216;have E:=qc;have t:=zy;have D:=Tryz.isAgg304;have x:=Tryz.sizeOf304;have q:=Tryz.zeroValue304;have t0:=Tryz.underlying0;have a0:=Tryz.isAgg0;have z0:=Tryz.sizeOf0;have v0:=Tryz.zeroValue0;have v:=yv;have r:=Tryz.isAgg251;have y:=Tryz.sizeOf251;have G:=Tryz.zeroValue251;have t5:=z7;have a5:=Tryz.isAgg5;have z5:=Tryz.sizeOf5;have v5:=Tryz.zeroValue5;have A:∀args w,(callFunc 272 args).run zk w=.ok (.enter 272 args) w:=enters_of Tryz.func272 ag rfl;have z:∀args w,(callFunc 273 args).run zk w=.ok (.enter 273 args) w:=enters_of Tryz.func273 ag rfl;have f:1<=u:=ae
 have n:zz u<=20:=by have:=Lib.numDigits_eq u f a;split at this<;>omega
 have g:zk.arrayLen 304=24:=by simp[Program.arrayLen,zy]
 have K:∀W,(Instr.sliceAt 304 (.pointer (some ⟨w.heap.size,0,none⟩)) none (some (.int .i64 (zz u:Int))) none).run zk W=.ok (.slice (some ⟨w.heap.size,0,none⟩) (zz u) 24) W:=fun W=>by
  rw[run_sliceAt_array_h W 304 ⟨w.heap.size,0,none⟩ (by simp[Program.arrayLen,Program.elem,zy]) .i64 (zz u:Int) ae (by rw[g];omega)];go_simp
 have d:=Lib.holds_zero0 w 304 (zz u) ae;have c:=Any.internal_strconv_formatBase10 (ρ:=GG) (P:=zk) { HJ with } w.heap.size 0 24 u (Array.replicate (zz u) 0) (w.alloc (.cells qd 304)) d (by rw[zr];exact Lib.lt_pow_nDigits u) a (by rw[zr];omega);rw[zr]at c;have m:=Lib.hid d;have O:(100:Int)<=(u:Int):=ae
 clear d g;go_enter Tryz.func250,Tryz.ntmps250
 go_wp2_with (first
  |(go_at_fn 272;refine(Any.internal_strconv_numDigits (ρ:=GG) { HJ with } u f a _ (Lib.tabIs_alloc l _)).mono ?_;rintro e w' ⟨rfl,rfl⟩))
 go_at_fn 273
 refine c.mono ?_;rintro e w' ⟨rfl,k,v',i,rfl,p⟩;have M:(convert 251 9 (.slice (some ⟨w.heap.size,0,none⟩) (zz u) 24)).run zk ((putRow (fun(b:UInt8)=>q9 .u8 (b.toNat:Int)) (w.alloc (.cells qd 304)) w.heap.size 0 i).drewN k)=.ok (.string ⟨(zq u).toArray⟩) ((putRow (fun(b:UInt8)=>q9 .u8 (b.toNat:Int)) (w.alloc (.cells qd 304)) w.heap.size 0 i).drewN k):=by
  have h:=run_convert_bytes_back (P:=zk) ((putRow (fun(b:UInt8)=>q9 .u8 (b.toNat:Int)) (w.alloc (.cells qd 304)) w.heap.size 0 i).drewN k) 251 9 5 ⟨w.heap.size,0,none⟩ 24 (zq u) yv z7 z8 (fun j o=>by
   rw[Lib.row_is_numeral p j o,Lib.add_plain,World.cell?_drewN];exact cell?_putRow (fun(b:UInt8)=>q9 .u8 (b.toNat:Int)) _ w.heap.size 0 _ i m.out (by rw[p.size,zr]) j (by rw[p.size];rw[Lib.decDigits_length]at o;exact o))
  rw[Lib.decDigits_length]at h;exact h
 go_wp2
 go_ret
 obtain⟨os,L⟩:=Lib.fin_at w (.cells qd 304) i k 0;exact⟨rfl,k,os,L⟩
theorem all (u : Nat) (b : u < 18446744073709551616) (w : World) (a : Lib.TabIs Tryz.prog w "internal/strconv.uint64pow10" .u64 Lib.pow10Tab) :
  Calls zk 250 #[.int .u64 u,.int .i64 10] w fun e w'=>e=.returned (.string ⟨(zq u).toArray⟩)/\∃k os,w'=grow (w.drewN k) os:=by
 by_cases h:u<100
 ·exact(small u h w).mono fun e w' ⟨c,d⟩=>⟨c,0, #[],by rw[d];simp[World.drewN_zero]⟩
 ·exact big u ae b w a
theorem outer (u : Nat) (b : u < 18446744073709551616) (w : World) (a : Lib.TabIs Tryz.prog w "internal/strconv.uint64pow10" .u64 Lib.pow10Tab) :
  Calls zk 213 #[.int .u64 u,.int .i64 10] w fun e w'=>e=.returned (.string ⟨(zq u).toArray⟩)/\∃k os,w'=grow (w.drewN k) os:=by
 have mixed:=HJ.mixed;have t3:=Tryz.underlying3;have a3:=Tryz.isAgg3;have z3:=Tryz.sizeOf3;have v3:=Tryz.zeroValue3;have t9:=z8;have a9:=Tryz.isAgg9;have z9:=Tryz.sizeOf9;have v9:=Tryz.zeroValue9;have f:=yu;have g:=Tryz.isAgg216;have d:=Tryz.sizeOf216;have c:=qc;have i:∀args w,(callFunc 250 args).run zk w=.ok (.enter 250 args) w:=enters_of Tryz.func250 ag rfl;go_enter Tryz.func213,Tryz.ntmps213
 go_wp2_with (go_at_fn 250;refine(all u b _ a).mono ?_;rintro e w' ⟨rfl,k,os,rfl⟩)
 go_ret
 exact⟨rfl,k,os,rfl⟩
end FmtU
end Go.Proofs
namespace Go.Det
open Go.Proofs
open Go.Proofs.Tryz (prog)
def fmtQ:List V->H->Option (V×H)
 |[.int .u64<|.ofNat n,.int .i64<|.ofNat b],h=>bif Sk h&&(zw n 18446744073709551615&&zg b 10)then some (.str<|zq n,h)else none
 |_,_=>none
def fmtS:XN:=fun f=>bif zg f 213 then some fmtQ else none
theorem qK:LD prog fmtS:=by
 intro f q c p h w args args' v h' hr r s a;unfold fmtS at c;cases g:zg f 213 with
 |false=>rw[g]at c;cases c
 |true=>
  rw[g]at c;cases c;cases zc g;unfold fmtQ at a;split at a
  case h_2=>cases a
  rename_i n b;cases d:(Sk h&&(zw n 18446744073709551615&&zg b 10))with
  |false=>rw[d]at a;cases a
  |true=>
   rw[d]at a;cases a;rw[ze,ze]at d;obtain⟨l,i,m⟩:=d;have i:=zf i;cases zc m;obtain⟨x,y,hl,g1,g2⟩:=s.two;have:args'= #[x,y]:=qp.1 hl;subst this;simp only[Ac]at g1 g2;subst g1 g2;refine(FmtU.outer n ae w<|Zf hr r l).mono ?_;rintro e w' ⟨rfl,k,os,rfl⟩;exact⟨_,p,rfl,by simp only[Ac];rfl,MP hr ⟨rfl,rfl,rfl,by show w.heap.size<=(w.heap++os).size;rw[Array.size_append];omega,fun j o=>by show(w.heap++os)[j]?=_;exact yt o⟩⟩
end Go.Det
namespace Go.Pe
open Go.Det
@[reducible] def BC:List Sh->Sh
 |[]=>.unit
 |[a]=>a
 |a::b::l=>.pair a<|BC (b::l)
def Ae:(l:List Sh)->(BC l).T->List PV
 |[],_=>[]
 |[a],x=>[Ci a x]
 |a::b::l,x=>Ci a x.1::Ae (b::l) x.2
structure An where
 ins:List Sh
 pre:(BC ins).T->Bool
 outs:List Sh
 f:(BC ins).T->(BC outs).T
 nd:Bool:=false
def Sh.sc:Sh->Bool
 | .int _| .bool| .str| .unit| .fnv=>true
 | .list _| .nlist _| .ptr _=>false
 | .pair a b=>a.sc&&b.sc
structure ZH where
 ins:List Sh
 ty:TypeId
 el:Sh
 pre:(BC ins).T->List el.T->Bool
 g:(BC ins).T->List el.T->List el.T
structure AT where
 C:Ctx
 sp:FuncId->Option An
 pl:FuncId->Nat->List Nat
 ct:FuncId->Nat->Bool
 fz:FuncId->Nat->List (Nat×Sh)
 ws:FuncId->Option ZH:=fun _=>none
 esc:List FuncId:=[]
 escOk:∀g∈esc,C.prim g=some PK.noEsc.run:=by intro g h;cases h
def Ew(st:AL)(s:Sh)(p:PV):Option (Bool×s.T):=
 bif Mf p==s.QU then
  match Dj st p.cells with
  |some (c,cs)=>match Dn s (K1 s.leaves cs).2 with
   |some x=>some ((K1 s.leaves cs).1&&c,x)
   |none=>none
  |none=>none
 else none
def Dy(st:AL):(l:List Sh)->List PV->Option (Bool×(BC l).T)
 |[],[]=>some (true,())
 |[a],[p]=>Ew st a p
 |a::b::l,p::ps=>match Ew st a p,Dy st (b::l) ps with
  |some (c,x),some (d,y)=>some (c&&d,(x,y))
  |_,_=>none
 |_,_=>none
def one:List PV->PV
 |[v]=>v
 |l=>.tup l
def fU(sp:An)(args:List PV)(st:AL)(k:PV->AL->Tr):Tr:=
 match Dy st sp.ins args with
 |some (c,i)=>.ite (c&&sp.pre i) (k (one<|Ae sp.outs<|sp.f i)<|bif sp.outs.all Sh.sc then st else Br (args.flatMap PV.cells) st) .fail
 |none=>.fail
def XO(w:ZH)(args:List PV)(st:AL)(k:PV->AL->Tr):Tr:=
 match args.reverse with
 | .sl id sz 0 n none::r=>match Dy st w.ins r.reverse,(Br (r.reverse.flatMap PV.cells) st).obj id with
  |some (c,i),some (.arr false t s l)=>bif zg t w.ty then
    match DP (.list s) (.list w.el) l with
    |some l'=>.ite (c&&w.pre i l'&&decide (n=List.length (α:=w.el.T) l')&&zg sz w.el.sz) (k (.tup [])<|(Br (r.reverse.flatMap PV.cells) st).setObj id<|.arr false w.ty w.el<|w.g i l') .fail
    |none=>.fail
   else .fail
  |_,_=>.fail
 | .nil::r=>match Dy st w.ins r.reverse with
  |some (c,i)=>.ite (c&&w.pre i []) (k (.tup [])<|Br (r.reverse.flatMap PV.cells) st) .fail
  |none=>.fail
 |_=>.fail
mutual
def Aed:PV->List Nat
 | .ptr id _| .eptr id _ _ _| .sl id _ _ _ _| .mp id| .yl id=>[id]
 | .agg l| .tup l=>J9 l
 | .fn _ a b=>J9 a++J9 b
 |_=>[]
def J9:List PV->List Nat
 |[]=>[]
 |v::vs=>Aed v++J9 vs
end
def Ach:Obj->List Nat
 | .box cs=>J9 cs
 | .tbox _ cs=>J9 cs
 | .lp _ _ _ _ _ _ _ sl=>J9 (sl.map (·.2))
 |_=>[]
def I5(st:AL)(base:Nat):Nat->List Nat->List Nat->List Nat
 |0,_,acc=>acc
 |_+1,[],acc=>acc
 |f+1,i::a,acc=>bif ya i base||acc.any (zg i)then I5 st base f a acc
  else match st.obj i with
   |some o=>I5 st base f (a++Ach o)<|acc++[i]
   |none=>I5 st base f a acc
def OX(base:Nat):List Nat->Nat->Nat->Option Nat
 |[],_,i=>bif ya i base then some i else none
 |j::a,n,i=>bif zg i j then some n else OX base a (yk n 1) i
mutual
def Gq(f:Nat->Option Nat):PV->PV
 | .ptr i o=>match f i with|some j=>.ptr j o|none=>.any
 | .eptr i a b c=>match f i with|some j=>.eptr j a b c|none=>.any
 | .sl i a b c d=>match f i with|some j=>.sl j a b c d|none=>.any
 | .mp i=>match f i with|some j=>.mp j|none=>.any
 | .yl i=>match f i with|some j=>.yl j|none=>.any
 | .agg l=>.agg<|J2 f l
 | .tup l=>.tup<|J2 f l
 | .fn g a b=>.fn g (J2 f a)<|J2 f b
 |v=>v
def J2(f:Nat->Option Nat):List PV->List PV
 |[]=>[]
 |v::vs=>Gq f v::J2 f vs
end
def Sb(f:Nat->Option Nat):Obj->Obj
 | .box cs=>.box<|J2 f cs
 | .tbox t cs=>.tbox t<|J2 f cs
 | .lp g r ps asg body s n sl=>.lp g r ps asg body s n<|sl.map fun x=>(x.1,Gq f x.2)
 |o=>o
def low(f:Nat->Option Nat)(base:Nat):Ob->Ob
 |[]=>[]
 |(i,o)::l=>bif ya i base then(i,Sb f o)::low f base l else low f base l
def kept(st:AL)(f:Nat->Option Nat):List Nat->Nat->Ob->Ob
 |[],_,a=>a
 |j::b,n,a=>match st.obj j with
  |some o=>kept st f b (yk n 1) ((n,Sb f o)::a)
  |none=>kept st f b (yk n 1) a
def PH(base:Nat):Ob->List Nat
 |[]=>[]
 |(i,o)::l=>bif ya i base then Ach o++PH base l else PH base l
def Av(n:Nat)(vs:List (Nat×PV))(ob:Ob)(nx:Nat):AL:=⟨n,FM vs,ob,nx⟩
def canon(base:Nat)(L:List Nat)(st:AL):AL:=
 let vs:=L.map fun t=>(t,st.get t)
 let a:=I5 st base 100 (J9 (vs.map (·.2))++PH base st.ob) []
 let f:=OX base a base
 Av st.n (vs.map fun x=>(x.1,Gq f x.2)) (kept st f a base<|low f base st.ob) (yk base a.length)
def rU(base:Nat)(x:Nat×Sh)(st:AL):AL:=
 match st.get x.1 with
 | .nil=>st.set x.1<|.dat (.list x.2) []
 | .sl id sz off len _=>match st.obj id with
  |some (.arr _ e s l)=>bif zg sz s.sz then(st.setObj id<|.arr true e s l).set x.1 (.dat (.list s)<|(l.drop off).take len)else st
  |_=>st
 | .ptr id 0=>bif zw base id then match st.obj id with
   |some (.box ps)=>match Dn x.2 ps with
    |some v=>(st.PQ id).set x.1<|.BF x.2 v 0
    |none=>st
   |_=>st
  else st
 |_=>st
def xI(base:Nat):List (Nat×Sh)->AL->AL
 |[],st=>st
 |x::l,st=>xI base l<|rU base x st
def Dt:Code->Nat
 | .region id _ _=>id
 | .seq a _=>Dt a
 | .block _ b=>Dt b
 | .loop b=>Dt b
 | .scope b=>Dt b
 |_=>0
def OP(X:AT)(f:FuncId)(r:Nat)(base:Nat)(st:AL):AL:=canon base (X.pl f r)<|xI base (X.fz f r) st
inductive Cal where
 |fn (g:FuncId)
 |rnd (id:Nat)
abbrev Gi:=Cal->List PV->AL->(PV->AL->Tr)->Tr
def PZ(d:Option Nat)(k:AL->Tr):PO->Tr
 | .bad=>.fail
 | .val v st=>match st.put d v with
  |some st'=>k st'
  |none=>.fail
 | .ite c a b=>.ite c (PZ d k a)<|PZ d k b
inductive CK where
 |no
 |bad
 |yes (g:Cal) (args:List PV)
def Kp(st:AL)(o:Op):CK:=
 match o with
 | .call c=>match c.callee with
  | .value f=>match QX st f,MY st c.args.toList with
   |some (.fn (.func g) first cap),some args=>.yes (.fn g)<|first++args++cap
   |some (.yl id),some args=>.yes (.rnd id) args
   |_,_=>.bad
  |_=>.no
 |_=>.no
def HL(T:B6)(call:Gi)(o:Oper)(st:AL)(k:AL->Tr):Tr:=
 match Kp st o.op with
 | .yes g args=>call g args st fun v st=>match st.put o.dst v with
  |some st'=>k st'
  |none=>.fail
 | .bad=>.fail
 | .no=>PZ o.dst k<|pop o.op T st
def Sx(T:B6)(st:AL)(o:Op):Option (PV×AL):=
 match o with
 | .convert s d x=>match T.und s,T.und d,QX st x with
  |some .string,some<|.slice e,some (.dat .str l)=>match T.und e with
   |some (.int .u8)=>some (.sl st.nx 1 0 (List.length l) none,st.push<|.arr false e (.int .u8)<|List.map (fun b:UInt8=>(b.toNat:Int)) l)
   |_=>none
  |_,_,_=>none
 |_=>none
def AbO(T:B6)(st:AL)(o:Op):Option PV:=
 match o with
 | .convert s d x=>match T.und s,T.und d,QX st x with
  |some (.pointer t),some .unsafePointer,some (.ptr id off)=>match T.inf t,st.obj id with
   |some i,some (.tbox _ cs)=>bif ya 0 i.size&&ya off (EN cs)then some (.ptr id off)else none
   |_,_=>none
  |some .unsafePointer,some<|.pointer u,some (.ptr id off)=>match T.inf u,st.obj id with
   |some i,some (.tbox e cs)=>bif ya 0 i.size&&zw i.size (EN cs)&&zg e u&&zg off 0 then some (.ptr id 0)else none
   |_,_=>none
  |_,_,_=>none
 |_=>none
def Wp(T:B6)(st:AL)(o:Op):Option (PV×AL):=
 match Sx T st o with
 |some r=>some r
 |none=>match AbO T st o with
  |some v=>some (v,st)
  |none=>none
def xS(T:B6)(call:Gi)(o:Oper)(st:AL)(k:AL->Tr):Tr:=
 match Wp T st o.op with
 |some (v,a)=>match a.put o.dst v with
  |some b=>k b
  |none=>.fail
 |none=>HL T call o st k
def guarded(ops:Array Oper)(o:Oper)(st:AL)(yes no:AL->Tr):Tr:=
 match o.guard with
 |none=>yes st
 |some (j,a)=>match (ops[j]?).bind (·.dst)with
  |some t=>bif ya t st.n then(match st.get t with
   | .bl b=>bif b==a then yes st else no st
   | .dat .bool b=>bif a then .ite b (yes<|st.set t<|.bl true) (no<|st.set t<|.bl false)else .ite b (no<|st.set t<|.bl true)<|yes<|st.set t<|.bl false
   | .tup _=>no st
   | .ub=>.both (bif a then yes (st.set t<|.bl true)else no<|st.set t<|.bl true)<|bif a then no (st.set t<|.bl false)else yes<|st.set t<|.bl false
   |_=>.fail)else .fail
  |none=>.fail
def MG(o:Oper)(k:AL->Tr)(st:AL):Tr:=
 match st.put o.dst (.tup [])with
 |some st'=>k st'
 |none=>.fail
def prun(T:B6)(call:Gi)(ops:Array Oper):List Oper->AL->(AL->Tr)->Tr
 |[],st,k=>k st
 |o::a,st,k=>guarded ops o st
   (fun st=>xS T call o st fun st'=>prun T call ops a st' k)
   (fun st=>MG o (fun st'=>prun T call ops a st' k) st)
def uO(st:AL)(o:Op):Option (List Nat):=
 match o with
 | .load _ x=>match QX st x with
  |some (.ptr id _)|some (.eptr id _ _ _)=>some [id]
  |some (.BF _ _ _)=>some []
  |_=>none
 | .convert _ _ x=>match QX st x with
  |some (.dat (.int _) _)|some (.dat .str _)=>some []
  |_=>none
 | .call c=>match c.callee,MY st c.args.toList with
  | .builtin .len,some [.dat _ _]| .builtin .len,some [.sl _ _ _ _ _]| .builtin .len,some [.nil]=>some []
  | .builtin .len,some [.mp id]=>some [id]
  |_,_=>none
 | .lookup _ x _ _=>match QX st x with
  |some (.mp id)=>some [id]
  |some .nilm=>some []
  |_=>none
 |_=>none
def G6(sp:FuncId->Option An)(st:AL)(o:Op):Option (List Nat):=
 match o with
 | .store _ x _=>match QX st x with
  |some (.ptr id _)|some (.eptr id _ _ _)=>some [id]
  |_=>none
 | .mapUpdate _ x _ _| .insert _ x _ _=>match QX st x with
  |some (.mp id)=>some [id]
  |_=>none
 | .makeMap _ _| .makeSlice _ _ _=>some []
 | .call c=>match c.callee with
  | .value f=>match QX st f with
   |some (.fn (.func g) _ _)=>match sp g with
    |some _=>some []
    |none=>none
   |_=>none
  | .builtin .append=>match MY st c.args.toList with
   |some (.sl id _ _ _ _::_)=>some [id]
   |some _=>some []
   |none=>none
  | .builtin .delete=>match MY st c.args.toList with
   |some (.mp id::_)=>some [id]
   |_=>none
  | .builtin .unsafeString=>match MY st c.args.toList with
   |some (.eptr id _ _ _::_)=>some [id]
   |_=>none
  |_=>none
 |_=>none
abbrev Rs:=List<|Nat×Option (List Nat)
def aF:Option (List Nat)->Option (List Nat)->Bool
 |some a,some b=>a.all fun i=> !(b.any<|zg i)
 |some [],none=>true
 |_,_=>false
def La(st:AL):Option (List Nat)->Bool
 |some l=>l.all fun i=>Is<|st.obj i
 |none=>false
def apart(anc:Nat->Nat->Bool)(i:Nat)(st:AL)(t:Option (List Nat))(a:Rs):Bool:=a.all fun r=>anc i r.1||(aF r.2 t&&La st r.2)
def behind(st:AL)(t:Option (List Nat))(a:Rs):Rs:=a.map fun r=>bif aF r.2 t&&La st r.2 then r else(r.1,none)
def jU(st:AL)(o:Op):Bool:=match Kp st o with
 | .yes (.rnd _) _=>false
 |_=>true
def JW(T:B6)(sp:FuncId->Option An)(call:Gi)(ops:Array Oper)(anc:Nat->Nat->Bool):List Nat->AL->Rs->(AL->Tr)->Tr
 |[],st,_,k=>k st
 |i::b,st,a,k=>match ops[i]? with
  |none=>.fail
  |some o=>guarded ops o st
    (fun st=>bif EG o then HL T call o st (fun st'=>JW T sp call ops anc b st' (bif PN o then(i,uO st o.op)::a else a) k)
     else bif CA o then HL T call o st (fun st'=>JW T sp call ops anc b st' a k)
     else bif apart anc i st (G6 sp st o.op) a&&jU st o.op then HL T call o st (fun st'=>JW T sp call ops anc b st' (behind st (G6 sp st o.op) a) k)else .fail)
    (fun st=>bif CQ o then(bif apart anc i st (some []) a then MG o (fun st'=>JW T sp call ops anc b st' (behind st (some []) a) k) st else .fail)
     else MG o (fun st'=>JW T sp call ops anc b st' a k) st)
def exec(X:AT)(call c:Gi)(nd ro:Bool)(d:Nat)(f:FuncId)(base:Nat):Code->AL->(DX->AL->Tr)->Tr
 | .skip,st,k| .label _,st,k=>k .normal st
 | .region _ ops dr,st,k=>bif dr then(bif !ro||Ii ops (EY ops)then JW X.C.T X.sp c ops (EY ops).a (EY ops).ord st [] (k .normal)else .fail)else prun X.C.T call ops ops.toList st<|k .normal
 | .seq a b,st,k=>exec X call c nd ro d f base a st fun e st'=>match e with
  | .normal=>bif X.ct f (Dt b)then .cut nd ro d f base b (OP X f (Dt b) base st') k else exec X call c nd ro d f base b st' k
  |e=>k e st'
 | .cond x a b,st,k=>match QX st x with
  |some (.bl t)=>bif t then exec X call c nd ro d f base a st k else exec X call c nd ro d f base b st k
  |some (.dat .bool t)=>match x with
   | .tmp s=>.ite t (exec X call c nd ro d f base a (st.set s<|.bl true) k)<|exec X call c nd ro d f base b (st.set s<|.bl false) k
   |_=>.ite t (exec X call c nd ro d f base a st k)<|exec X call c nd ro d f base b st k
  |some .ub=>match x with
   | .tmp s=>.both (exec X call c nd ro d f base a (st.set s<|.bl true) k)<|exec X call c nd ro d f base b (st.set s<|.bl false) k
   |_=>.fail
  |_=>.fail
 | .block id b,st,k=>exec X call c nd ro d f base b st fun e st'=>match e with
  | .exit i=>bif zg i id then k .normal st' else k e st'
  |e=>k e st'
 | .loop b,st,k=>.loop nd ro d f base b (OP X f (Dt b) base st) k
 | .exit i,st,k=>k (.exit i) st
 | .ret,st,k=>k .ret st
 | .scope b,st,k=>exec X call c nd ro d f base b st k
 |_,_,_=>.fail
def jK(T:B6)(st:AL):ResultVar->Option PV
 | .tmp t=>some<|st.get t
 | .cell a t=>match Ni T st t (st.get a)with
  | .val v _=>some v
  | .It _ v _=>some v
  |_=>none
def LI(T:B6)(st:AL):List ResultVar->List Bool
 |[]=>[]
 | .tmp _::b=>LI T st b
 | .cell a t::b=>match Ni T st t (st.get a)with
  | .It c _ _=>c::LI T st b
  |_=>LI T st b
def Qg:List Bool->Tr->Tr
 |[],t=>t
 |c::cs,t=>.ite c (Qg cs t) .fail
def lN(T:B6)(st:AL):List ResultVar->Option (List PV)
 |[]=>some []
 |r::a=>match jK T st r,lN T st a with
  |some v,some vs=>some (v::vs)
  |_,_=>none
def EL:List PV->Nat->List (Nat×PV)
 |[],_=>[]
 |v::vs,i=>(i,v)::EL vs (yk i 1)
def enter(X:AT)(call a:Gi)(nd:Bool)(d:Nat)(f:FuncId)(args:List PV)(st:AL)(k:PV->AL->Tr):Tr:=
 match X.C.fn f with
 |none=>.fail
 |some i=>bif i.cert then
   exec X call a nd false d f st.nx i.body (Av (yk args.length<|Nat.sub i.ntmps args.length) (EL args 0) st.ob st.nx) fun e s=>match e with
    | .exit _=>.fail
    |_=>match lN X.C.T s i.results.toList with
     |some vs=>Qg (LI X.C.T s i.results.toList)<|k (one vs) ⟨st.n,st.fr,s.ob,s.nx⟩
     |none=>.fail
  else .fail
def Nt:List Tmp->List PV->AL->AL
 |t::ts,v::vs,st=>Nt ts vs<|bif ya t st.n then st.set t v else st
 |_,_,st=>st
def pD(X:AT)(call a:Gi)(nd:Bool)(d:Nat)(id:Nat)(args:List PV)(st:AL)(k:PV->AL->Tr):Tr:=
 match st.obj id with
 |some (.lp f _ ps asg b .ready n sl)=>bif zg args.length ps.size then
   exec X call a nd true d f st.nx asg (Nt ps.toList args<|Av n sl st.ob st.nx) fun e s=>match e with
   | .normal=>match s.obj id with
    |some (.lp v u r l x .ready n1 o)=>
     exec X call a nd true d f st.nx b (s.setObj id<|.lp v u r l x .busy n1 o) fun w s2=>
      match s2.obj id with
      |some (.lp m t g c p _ q j)=>match w with
       | .normal=>k (.bl true) ⟨st.n,st.fr,(s2.setObj id<|.lp m t g c p .ready q j).ob,s2.nx⟩
       | .ret=>k (.bl false) ⟨st.n,st.fr,(s2.setObj id<|.lp m t g c p .ret q j).ob,s2.nx⟩
       | .exit i=>k (.bl false) ⟨st.n,st.fr,(s2.setObj id<|.lp m t g c p (.exit i) q j).ob,s2.nx⟩
      |_=>.fail
    |_=>.fail
   |_=>.fail
  else .fail
 |_=>.fail
def Acd(args:List PV)(st:AL)(k:PV->AL->Tr):Tr:=
 match args with
 |[.ptr id off]=>bif Is (st.obj id)then k (.ptr id off) st else .fail
 |_=>.fail
def CC(X:AT)(nd:Bool):Nat->Gi
 |0=>fun _ _ _ _=>.fail
 |d+1=>fun c args st k=>match c with
  | .fn g=>match X.sp g with
   |some sp=>bif nd|| !sp.nd then fU sp args st k else .fail
   |none=>match X.ws g with
    |some w=>XO w args st k
    |none=>bif X.esc.any (zg g)then Acd args st k else match X.C.prim g,X.C.spec g with
     |none,none=>enter X (CC X nd d) (CC X false d) nd d g args st k
     |_,_=>.fail
  | .rnd _=>.fail
def fA:PV->Bool
 | .dat _ _| .BF _ _ _| .bl _| .nil=>true
 |_=>false
def VR(v:PV):Bool:=v.cells.all fA
def yI:PV->Bool
 | .tup a=>a.all VR
 |v=>VR v
def gcO(v:PV)(ob:Ob):Ob:=bif yI v then[]else ob
def tree(X:AT)(nd:Bool)(d:Nat)(f:FuncId)(args:List PV):Tr:=
 enter X (CC X nd d) (CC X false d) nd d f args (Av 0 [] [] 0) fun v st=>.leaf v<|gcO v st.ob
def body(X:AT)(nd ro:Bool)(d:Nat)(f:FuncId)(base:Nat)(b:Code)(st:AL)(k:DX->AL->Tr):Tr:=
 exec X (CC X nd d) (CC X false d) nd ro d f base b st fun e st'=>match e with
  | .normal=>.loop nd ro d f base b (OP X f (Dt b) base st') k
  |e=>k e st'
def AS(X:AT)(nd ro:Bool)(d:Nat)(f:FuncId)(base:Nat)(b:Code)(st:AL)(k:DX->AL->Tr):Tr:=exec X (CC X nd d) (CC X false d) nd ro d f base b st k
inductive Ev (X:AT) (Q:PV->Ob->Prop):Nat->Tr->Prop where
 |leaf {n:Nat} {v:PV} {ob:Ob}:Q v ob->Ev X Q n (.leaf v ob)
 |ite {n:Nat} {c:Bool} {a b:Tr}:(c=true->Ev X Q n a)->(c=false->Ev X Q n b)->Ev X Q n (.ite c a b)
 |both {n:Nat} {a b:Tr}:Ev X Q n a->Ev X Q n b->Ev X Q n (.both a b)
 |cut {n:Nat} {nd ro:Bool} {d:Nat} {f:FuncId} {base:Nat} {b:Code} {st:AL} {k:DX->AL->Tr}:Ev X Q n (AS X nd ro d f base b st k)->Ev X Q n (.cut nd ro d f base b st k)
 |alts {n m:Nat} {f:Nat->Tr}:(∀i,i<m->Ev X Q n (f i))->Ev X Q n (.alts m f)
 |loop {n:Nat} {nd ro:Bool} {d:Nat} {f:FuncId} {base:Nat} {b:Code} {st:AL} {k:DX->AL->Tr}:Ev X Q n (body X nd ro d f base b st k)->Ev X Q (n+1) (.loop nd ro d f base b st k)
abbrev Fz:=Nat->Option (List V)
abbrev En:=Nat->Option (Nat×Nat)
def DC(F:Fz):(s:Sh)->s.T->List V->Prop
 | .int k,x,cs=>cs=[.int k x]
 | .bool,x,cs=>cs=[.bool x]
 | .str,x,cs=>cs=[.str x]
 | .list s,l,cs=>∃v,cs=[v]/\((l=[]/\(v=.nils\/v=.esl\/v=.es0))\/
   ∃b off cap o e,v=.sl b off l.length cap o/\l.length<=cap/\F b=some e/\off+l.length*s.sz<=e.length/\(o=0\/o=s.sz)/\
    ∀i (h:i<l.length),DC F s l[i]<|(e.drop<|off+i*s.sz).take s.sz)
 | .pair a b,x,cs=>∃c d,cs=c++d/\DC F a x.1 c/\DC F b x.2 d
 | .unit,_,cs=>cs=[]
 | .fnv,x,cs=>cs=[match (x:Option Fn)with|some f=>.fn f [] []|none=>.nilf]
 | .ptr s,x,cs=>∃b o e,cs=[.ptr b o]/\F b=some e/\o+s.sz<=e.length/\DC F s x ((e.drop o).take s.sz)
 | .nlist s,l,cs=>∃v,cs=[v]/\((l=[]/\v=.nils)\/(l≠[]/\
   ∃b off cap o e,v=.sl b off l.length cap o/\l.length<=cap/\F b=some e/\off+l.length*s.sz<=e.length/\(o=0\/o=s.sz)/\
    ∀i (h:i<l.length),DC F s l[i]<|(e.drop<|off+i*s.sz).take s.sz))
theorem DC.len{F:Fz}:∀ {s:Sh} {x:s.T} {cs:List V},DC F s x cs->cs.length=s.sz
 | .int _,_,_,h=>by simp only[DC]at h;subst h;rfl
 | .bool,_,_,h=>by simp only[DC]at h;subst h;rfl
 | .str,_,_,h=>by simp only[DC]at h;subst h;rfl
 | .list _,_,_,h=>by simp only[DC]at h;obtain⟨v,rfl,_⟩:=h;rfl
 | .pair a b,x,_,h=>by
  simp only[DC]at h;obtain⟨c,d,rfl,e,f⟩:=h;rw[yw,e.len,f.len];rfl
 | .unit,_,_,h=>by simp only[DC]at h;subst h;rfl
 | .nlist _,_,_,h=>by simp only[DC]at h;obtain⟨v,rfl,_⟩:=h;rfl
 | .fnv,_,_,h=>by simp only[DC]at h;subst h;rfl
 | .ptr _,_,_,h=>by simp only[DC]at h;obtain⟨b,o,g,rfl,_⟩:=h;rfl
theorem DC.ok{F:Fz}:∀ {s:Sh} {x:s.T} {cs:List V},DC F s x cs->∀v∈cs,v.ok=true
 | .int _,_,_,h=>by simp only[DC]at h;subst h;simp[qz]
 | .bool,_,_,h=>by simp only[DC]at h;subst h;simp[qz]
 | .str,_,_,h=>by simp only[DC]at h;subst h;simp[qz]
 | .list s,_,_,h=>by
  simp only[DC]at h;obtain⟨v,rfl,⟨_,rfl|rfl|rfl⟩|⟨b,off,cap,o,f,rfl,_⟩⟩:=h<;>simp[qz]
 | .pair a b,x,_,h=>by
  simp only[DC]at h;obtain⟨c,d,rfl,g,i⟩:=h;intro v e;rcases List.mem_append.1 e with e|e
  ·exact g.ok v e
  ·exact i.ok v e
 | .unit,_,_,h=>by simp only[DC]at h;subst h;simp
 | .fnv,x,_,h=>by simp only[DC]at h;subst h;intro v e;rw[zd.1 e];cases (x:Option Fn)<;>rfl
 | .nlist s,_,_,h=>by
  simp only[DC]at h;obtain⟨v,rfl,⟨_,rfl⟩|⟨_,b,off,cap,o,f,rfl,_⟩⟩:=h<;>simp[qz]
 | .ptr _,_,_,h=>by simp only[DC]at h;obtain⟨b,o,f,rfl,_⟩:=h;simp[qz]
theorem DC.mono{F F':Fz}(e:∀b cs,F b=some cs->F' b=some cs):∀ {s:Sh} {x:s.T} {cs:List V},DC F s x cs->DC F' s x cs
 | .int _,_,_,h=>by simpa only[DC]using h
 | .bool,_,_,h=>by simpa only[DC]using h
 | .str,_,_,h=>by simpa only[DC]using h
 | .list s,l,_,h=>by
  simp only[DC]at h ⊢;obtain⟨v,rfl,h⟩:=h;refine⟨v,rfl,?_⟩;rcases h with h|⟨b,off,cap,o,k,f,g,j,m,q,n⟩
  ·exact .inl h
  ·exact .inr ⟨b,off,cap,o,k,f,g,e _ _ j,m,q,fun i p=>(n i p).mono e⟩
 | .pair a b,x,_,h=>by
  simp only[DC]at h ⊢;obtain⟨c,d,rfl,f,g⟩:=h;exact⟨c,d,rfl,f.mono e,g.mono e⟩
 | .unit,_,_,h=>by simpa only[DC]using h
 | .fnv,_,_,h=>by simpa only[DC]using h
 | .ptr s,x,_,h=>by
  simp only[DC]at h ⊢;obtain⟨b,o,k,f,g,j,m⟩:=h;exact⟨b,o,k,f,e _ _ g,j,m.mono e⟩
 | .nlist s,l,_,h=>by
  simp only[DC]at h ⊢;obtain⟨v,rfl,h⟩:=h;refine⟨v,rfl,?_⟩;rcases h with h|⟨h0,b,off,cap,o,k,f,g,j,m,q,n⟩
  ·exact .inl h
  ·exact .inr ⟨h0,b,off,cap,o,k,f,g,e _ _ j,m,q,fun i p=>(n i p).mono e⟩
theorem DC.nl{F:Fz}{s:Sh}{l:List s.T}{cs:List V}(h:DC F (.nlist s) l cs):DC F (.list s) l cs:=by
 simp only[DC]at h ⊢;obtain⟨v,rfl,h⟩:=h;rcases h with⟨rfl,rfl⟩|⟨_,h⟩
 ·exact⟨_,rfl,.inl ⟨rfl,.inl rfl⟩⟩
 ·exact⟨_,rfl,.inr h⟩
theorem DC.nl'{F:Fz}{s:Sh}{l:List s.T}{cs:List V}(h:DC F (.list s) l cs)(h0:0<l.length):DC F (.nlist s) l cs:=by
 have a:l≠[]:=by rintro rfl;simp at h0
 simp only[DC]at h ⊢;obtain⟨v,rfl,h⟩:=h;rcases h with⟨rfl,_⟩|h
 ·exact wh rfl a
 ·exact⟨_,rfl,.inr ⟨a,h⟩⟩
mutual
def PR(F:Fz)(ρ:En)(N:Nat):PV->V->Prop
 | .any,_=>True
 | .bl b,v=>v=.bool b
 | .ub,v=>∃b,v=.bool b
 | .dat s x,v=>DC F s x [v]
 | .nil,v=>v=.nils
 | .nilp,v=>v=.nilp
 | .nilm,v=>v=.nilm
 | .nilf,v=>v=.nilf
 | .nili,v=>v=.nili
 | .agg l,v=>∃cs,v=.agg cs/\Bf F ρ N l cs
 | .tup l,v=>∃cs,v=.tup cs/\Bf F ρ N l cs
 | .ptr id off,v=>id<N/\∀b n,ρ id=some (b,n)->v=.ptr b off
 | .eptr id sz i off,v=>id<N/\∀b n,ρ id=some (b,n)->v=.ptr b (i*sz+off)
 | .BF s x off,v=>∃b o cs,v=.ptr b (o+off)/\F b=some cs/\o+s.sz<=cs.length/\DC F s x ((cs.drop o).take s.sz)
 | .sl id sz off len cap,v=>id<N/\∀b n,ρ id=some (b,n)->
   (len<=cap.getD len/\off+cap.getD len<=n/\∃o,(o=0\/o=sz)/\v=.sl b (off*sz) len (cap.getD len) o)\/
   (len=0/\cap=some 0/\off<=n/\(v=.esl\/∃c,v=.sl b c 0 0 0/\c<=off*sz))
 | .mp id,v=>id<N/\∀b n,ρ id=some (b,n)->v=.map b
 | .fn f first captured,v=>∃a b,v=.fn f a b/\Bf F ρ N first a/\Bf F ρ N captured b
 | .yl id,v=>id<N/\∀b n,ρ id=some (b,n)->v=.yld b
def Bf(F:Fz)(ρ:En)(N:Nat):List PV->List V->Prop
 |[],l=>l=[]
 |p::ps,l=>∃v vs,l=v::vs/\PR F ρ N p v/\Bf F ρ N ps vs
end
section
variable {F F':Fz}{ρ ρ':En}{N N':Nat}
@[simp] theorem B7(l:List V):Bf F ρ N [] l↔l=[]:=by simp[Bf]
@[simp] theorem A4(p:PV)(ps:List PV)(v:V)(vs:List V):Bf F ρ N (p::ps) (v::vs)↔PR F ρ N p v/\Bf F ρ N ps vs:=by
 simp only[Bf];constructor
 ·rintro⟨_,_,h,a,b⟩;cases h;exact⟨a,b⟩
 ·rintro⟨a,b⟩;exact⟨v,vs,rfl,a,b⟩
theorem Bf.len:∀ {ps:List PV} {vs:List V},Bf F ρ N ps vs->ps.length=vs.length
 |[],vs,h=>by simp at h;simp[h]
 |p::ps,vs,h=>by
  simp only[Bf]at h;obtain⟨v,vs,rfl,_,a⟩:=h;simp[a.len]
theorem Bf.append:∀ {a:List PV} {x:List V} {b:List PV} {y:List V},Bf F ρ N a x->Bf F ρ N b y->Bf F ρ N (a++b) (x++y)
 |[],x,b,y,h,h'=>by simp at h;subst h;simpa using h'
 |p::ps,x,b,y,h,h'=>by
  simp only[Bf]at h;obtain⟨v,vs,rfl,c,d⟩:=h;simp only[List.cons_append,A4];exact⟨c,d.append h'⟩
theorem Bf.drop:∀ {a:List PV} {x:List V} (n:Nat),Bf F ρ N a x->Bf F ρ N (a.drop n) (x.drop n)
 |[],x,n,h=>by simp at h;subst h;simp
 |p::ps,x,0,h=>by simpa using h
 |p::ps,x,n+1,h=>by
  simp only[Bf]at h;obtain⟨v,vs,rfl,c,b⟩:=h;simpa using b.drop n
theorem Bf.take:∀ {a:List PV} {x:List V} (n:Nat),Bf F ρ N a x->Bf F ρ N (a.take n) (x.take n)
 |[],x,n,h=>by simp at h;subst h;simp
 |p::ps,x,0,h=>by simp
 |p::ps,x,n+1,h=>by
  simp only[Bf]at h;obtain⟨v,vs,rfl,b,c⟩:=h;simpa using⟨b,c.take n⟩
theorem Bf.get:∀ {a:List PV} {x:List V},Bf F ρ N a x->∀ {i:Nat} {p:PV},a[i]?=some p->∃v,x[i]?=some v/\PR F ρ N p v
 |[],x,h,i,p,hp=>by simp at hp
 |q::ps,x,h,i,p,hp=>by
  simp only[Bf]at h;obtain⟨v,vs,rfl,b,c⟩:=h;cases i with
  |zero=>simp at hp;subst hp;exact⟨v,rfl,b⟩
  |succ i=>simp at hp;simpa using c.get hp
structure Le(F:Fz)(ρ:En)(N:Nat)(F':Fz)(ρ':En)(N':Nat):Prop where
 fz:∀b cs,F b=some cs->F' b=some cs
 rho:∀id,id<N->ρ' id=ρ id\/ρ' id=none
 n:N<=N'
theorem Le.refl:Le F ρ N F ρ N:=⟨fun _ _ h=>h,fun _ _=>.inl rfl,z6 _⟩
theorem Le.trans{f:Fz}{d:En}{g:Nat}(a:Le F ρ N F' ρ' N')(b:Le F' ρ' N' f d g):Le F ρ N f d g:=
 ⟨fun c cs h=>b.fz c cs<|a.fz c cs h,fun id h=>by
  rcases b.rho id (zl h a.n)with e|e
  ·rw[e];exact a.rho id h
  ·exact .inr e,Nat.le_trans a.n b.n⟩
theorem Le.at(b:Le F ρ N F' ρ' N'){id:Nat}(h:id<N){x:Nat×Nat}(a:ρ' id=some x):ρ id=some x:=by
 rcases b.rho id h with e|e
 ·rw[<-e];exact a
 ·rw[e]at a;cases a
mutual
theorem PR.mono(c:Le F ρ N F' ρ' N'):∀ {p:PV} {v:V},PR F ρ N p v->PR F' ρ' N' p v
 | .any,_,_=>by simp[PR]
 | .bl _,_,h=>by simpa only[PR]using h
 | .ub,_,h=>by simpa only[PR]using h
 | .dat s x,_,h=>by simp only[PR]at h ⊢;exact h.mono c.fz
 | .nil,_,h| .nilp,_,h| .nilm,_,h| .nilf,_,h| .nili,_,h=>by simpa only[PR]using h
 | .agg l,_,h=>by simp only[PR]at h ⊢;obtain⟨cs,rfl,e⟩:=h;exact⟨cs,rfl,e.mono c⟩
 | .tup l,_,h=>by simp only[PR]at h ⊢;obtain⟨cs,rfl,e⟩:=h;exact⟨cs,rfl,e.mono c⟩
 | .ptr _ _,_,h=>by simp only[PR]at h ⊢;exact⟨zl h.1 c.n,fun b n d=>h.2 b n<|c.at h.1 d⟩
 | .eptr _ _ _ _,_,h=>by simp only[PR]at h ⊢;exact⟨zl h.1 c.n,fun b n d=>h.2 b n<|c.at h.1 d⟩
 | .BF s x off,_,h=>by
  simp only[PR]at h ⊢;obtain⟨b,o,cs,e,g,i,j⟩:=h;exact⟨b,o,cs,e,c.fz _ _ g,i,j.mono c.fz⟩
 | .sl _ _ _ _ _,_,h=>by simp only[PR]at h ⊢;exact⟨zl h.1 c.n,fun b n d=>h.2 b n<|c.at h.1 d⟩
 | .mp _,_,h=>by simp only[PR]at h ⊢;exact⟨zl h.1 c.n,fun b n d=>h.2 b n<|c.at h.1 d⟩
 | .fn f a b,_,h=>by
  simp only[PR]at h ⊢;obtain⟨x,y,rfl,e,g⟩:=h;exact⟨x,y,rfl,e.mono c,g.mono c⟩
 | .yl _,_,h=>by simp only[PR]at h ⊢;exact⟨zl h.1 c.n,fun b n d=>h.2 b n<|c.at h.1 d⟩
theorem Bf.mono(a:Le F ρ N F' ρ' N'):∀ {ps:List PV} {vs:List V},Bf F ρ N ps vs->Bf F' ρ' N' ps vs
 |[],_,h=>by simpa using h
 |p::ps,_,h=>by
  simp only[Bf]at h ⊢;obtain⟨v,vs,rfl,b,c⟩:=h;exact⟨v,vs,rfl,b.mono a,c.mono a⟩
end
theorem PR.lz:∀ {p:PV} {v:V},PR F ρ N p v->PR F ρ N (lz p) v:=by
 intro p v h;unfold Pe.lz;split
 ·simp only[PR]at h ⊢;exact h.nl
 ·exact h
theorem Bf.lz:∀ {ps:List PV} {vs:List V},Bf F ρ N ps vs->Bf F ρ N (ps.map Pe.lz) vs
 |[],_,h=>by simpa using h
 |p::ps,_,h=>by
  simp only[Bf]at h;obtain⟨v,vs,rfl,a,b⟩:=h;simp only[List.map_cons,A4];exact⟨a.lz,b.lz⟩
theorem Z8{s:Sh}{p:PV}{v:V}(h:PR F ρ N p v)(b:(U0 s p).1=true):PR F ρ N (U0 s p).2 v:=by
 unfold U0 at b ⊢;split
 ·rename_i s a x;cases c:(s==a)with
  |false=>exact h
  |true=>
   have b:(bif s==a then(decide (0<List.length x),PV.dat a.nlist x)else(true,PV.dat a.list x)).1=true:=b;rw[c]at b;simp only[we,w5]at b;simp only[PR,we]at h ⊢;exact h.nl' b
 ·rename_i s a x;cases c:(s==a)with
  |false=>exact h
  |true=>simp only[PR,we]at h ⊢;exact h.nl
 ·exact h
theorem Rk:∀ {l:List Sh} {ps:List PV} {vs:List V},Bf F ρ N ps vs->(K1 l ps).1=true->Bf F ρ N (K1 l ps).2 vs
 |[],ps,vs,h,_=>h
 |s::l,[],vs,h,_=>h
 |s::l,p::ps,vs,h,a=>by
  simp only[Bf]at h;obtain⟨v,vs,rfl,b,c⟩:=h;simp only[K1,ze]at a;simp only[K1,A4];exact⟨Z8 b a.1,Rk c a.2⟩
def Eo(F:Fz)(s:Sh)(l:List s.T)(cs:List V):Prop:=cs.length=l.length*s.sz/\∀i (h:i<l.length),DC F s l[i]<|(cs.drop<|i*s.sz).take s.sz
theorem Eo.mono(c:∀b cs,F b=some cs->F' b=some cs){s:Sh}{l:List s.T}{cs:List V}(h:Eo F s l cs):Eo F' s l cs:=⟨h.1,fun i a=>(h.2 i a).mono c⟩
theorem Eo.ok{F:Fz}{s:Sh}{l:List s.T}{cs:List V}(h:Eo F s l cs):∀v∈cs,v.ok=true:=by
 intro v d;obtain⟨k,c⟩:=List.mem_iff_getElem?.1 d;have a:=(List.getElem?_eq_some_iff.1 c).1;have b:0<s.sz:=by
  rcases Nat.eq_zero_or_pos s.sz with e|e
  ·rw[h.1,e,Nat.mul_zero]at a;omega
  ·exact e
 have f:k/s.sz<l.length:=Nat.div_lt_of_lt_mul (by rw[Nat.mul_comm, <-h.1];exact a);refine(h.2 _ f).ok v ?_;refine List.mem_iff_getElem?.2 ⟨k % s.sz,?_⟩;rw[zj<|Nat.mod_lt _ b,zo,show k/s.sz*s.sz+k % s.sz=k from by rw[Nat.mul_comm];exact Nat.div_add_mod _ _];exact c
def DV(F:Fz)(s:Sh)(x:s.T)(v:V):Prop:=(s.QU=true->∃cs,v=.agg cs/\DC F s x cs)/\(s.QU=false->DC F s x [v])
theorem DV.mono(a:∀b cs,F b=some cs->F' b=some cs){s:Sh}{x:s.T}{v:V}(h:DV F s x v):DV F' s x v:=
 ⟨fun e=>by obtain⟨cs,c,d⟩:=h.1 e;exact⟨cs,c,d.mono a⟩,fun e=>(h.2 e).mono a⟩
inductive MR (F:Fz) (ks vs:Sh):List (ks.T×vs.T)->List (V×V×Nat)->Prop where
 |nil:MR F ks vs [] []
 |cons {k:ks.T} {v:vs.T} {l:List (ks.T×vs.T)} {a b:V} {n:Nat} {es:List (V×V×Nat)}:DV F ks k a->DV F vs v b->MR F ks vs l es->MR F ks vs ((k,v)::l) ((a,b,n)::es)
theorem MR.mono(a:∀b cs,F b=some cs->F' b=some cs){ks vs:Sh}{l:List (ks.T×vs.T)}{es:List (V×V×Nat)}(h:MR F ks vs l es):MR F' ks vs l es:=by
 induction h with
 |nil=>exact .nil
 |cons c e _ d=>exact .cons (c.mono a) (e.mono a) d
def Tq(sl:List (Nat×PV))(t:Nat):PV:=((FM sl).get t).getD .any
def LpR:LpS->LoopState->Option Code->Prop
 | .ready,st,a=>st=.ready/\a=none
 | .busy,st,_=>st=.busy
 | .ret,st,a=>st=.done/\a=some .ret
 | .exit i,st,a=>st=.done/\a=some (.exit i)
def ZP(F:Fz)(ρ:En)(N n:Nat):Obj->O->Prop
 | .arr _ e s l,o=>∃cs fz,o=.cells cs e fz/\Eo F s l cs/\fz.2<=fz.1/\l.length=n
 | .box ps,o=>∃cs t fz,o=.cells cs t fz/\Bf F ρ N ps cs/\fz.2<=fz.1/\∀v∈cs,v.ok=true
 | .tbox t ps,o=>∃cs fz,o=.cells cs t fz/\Bf F ρ N ps cs/\fz.2<=fz.1/\∀v∈cs,v.ok=true
 | .map ks vs l,o=>∃es a,o=.map es a/\MR F ks vs l es
 | .siter s pos,o=>o=.siter s pos
 | .lp _ _ ps asg body s n' sl,o=>∃ls,o=.loop ls/\ls.ps=ps/\ls.asg=asg/\ls.body=body/\LpR s ls.st ls.pend/\ls.fr.n=n'/\∀t,PR F ρ N (Tq sl t)<|ls.fr.get t
theorem ZP.mono(d:Le F ρ N F' ρ' N'){n:Nat}{x:Obj}{o:O}(h:ZP F ρ N n x o):ZP F' ρ' N' n x o:=by
 cases x with
 |arr fz e s l=>obtain⟨cs,f,a,b,c⟩:=h;exact⟨cs,f,a,b.mono d.fz,c⟩
 |box ps=>obtain⟨cs,t,f,a,b,c⟩:=h;exact⟨cs,t,f,a,b.mono d,c⟩
 |tbox t ps=>obtain⟨cs,f,a,b,c⟩:=h;exact⟨cs,f,a,b.mono d,c⟩
 |map ks vs l=>obtain⟨es,g,a,b⟩:=h;exact⟨es,g,a,b.mono d.fz⟩
 |siter s pos=>exact h
 |lp f r ps asg body s n sl=>obtain⟨ls,a,b,c,i,m,k,j⟩:=h;exact⟨ls,a,b,c,i,m,k,fun t=>(j t).mono d⟩
def Obj.frozen:Obj->Bool
 | .arr fz _ _ _=>fz
 |_=>false
structure H0 where
 h:H
 F:Fz
 pin:List Nat
 ex:Nat->Prop:=fun _=>False
def H0.pins(h0:H0)(ps:List Nat):H0:={ h0 with pin:=ps++h0.pin }
def H0.cD(h0:H0)(B b:Nat):Prop:=B<=b\/h0.ex b
theorem NM{h0:H0}{B b c:Nat}(h:h0.cD B b)(d:c<B)(a:¬h0.ex c):c≠b:=by
 rintro rfl;rcases h with h|h
 ·omega
 ·exact a h
structure SR(B:Nat)(h0:H0)(F:Fz)(ρ:En)(N:Nat)(ob:Ob)(h:H):Prop where
 obj:∀id o,AP ob id=some o->∃b n x,ρ id=some (b,n)/\h.get b=some x/\ZP F ρ N n o x/\(o.frozen=false->F b=none)/\
  (o.frozen=true->∃cs t fz,x=.cells cs t fz/\F b=some cs)
 inj:∀id id' o o' b n n',AP ob id=some o->AP ob id'=some o'->ρ id=some (b,n)->ρ id'=some (b,n')->id=id'
 frz:∀b cs,F b=some cs->∃t fz,h.get b=some (.cells cs t fz)
 own:∀id b n,ρ id=some (b,n)->id<N/\h0.cD B b
 dead:∀id,AP ob id=none->ρ id=none
 old:∀b,b<B->¬h0.ex b->h.get b=h0.h.get b
 lt:∀b o,h.get b=some o->b<h.nx
 le:B<=h.nx
 fo:∀b cs,F b=some cs->h0.F b=some cs\/h0.cD B b
 gl:∀x∈Gr,x.1<B/\¬h0.ex x.1/\h0.h.get x.1=some x.2
 pn:∀b∈h0.pin,h.get b=some (.defd true)/\B<=b/\∀id n,ρ id≠some (b,n)
structure FP(F:Fz)(ρ:En)(N:Nat)(st:AL)(fr:Fr):Prop where
 n:st.n=fr.n
 slot:∀t,PR F ρ N (st.get t) (fr.get t)
theorem FP.mono(a:Le F ρ N F' ρ' N'){st:AL}{fr:Fr}(h:FP F ρ N st fr):FP F' ρ' N' st fr:=⟨h.n,fun t=>(h.slot t).mono a⟩
end
section
variable {B:Nat}{h0:H0}{F:Fz}{ρ:En}{N:Nat}
mutual
theorem Zy:∀ {v:Value} {p:PV},NF v=some p->∃x,cv v=some x/\PR F ρ N p x
 | .bool b,p,h=>by simp[NF]at h;subst h;exact⟨_,rfl,by simp[PR]⟩
 | .int k n,p,h=>by simp[NF]at h;subst h;exact⟨_,rfl,by simp[PR,DC]⟩
 | .string s,p,h=>by simp[NF]at h;subst h;exact⟨_,rfl,by simp[PR,DC]⟩
 | .pointer none,p,h=>by simp[NF]at h;subst h;exact⟨_,rfl,by simp[PR]⟩
 | .pointer (some a),p,h=>by simp[NF]at h
 | .slice none 0 0,p,h=>by simp[NF]at h;subst h;exact⟨_,rfl,by simp[PR]⟩
 | .slice none 0 (_+1),p,h=>by simp[NF]at h
 | .slice none (_+1) _,p,h=>by simp[NF]at h
 | .slice (some a) _ _,p,h=>by simp[NF]at h
 | .map none,p,h=>by simp[NF]at h;subst h;exact⟨_,rfl,by simp[PR]⟩
 | .map (some a),p,h=>by simp[NF]at h
 | .nilFunc,p,h=>by simp[NF]at h;subst h;exact⟨_,rfl,by simp[PR]⟩
 | .nilIface,p,h=>by simp[NF]at h;subst h;exact⟨_,rfl,by simp[PR]⟩
 | .func f ⟨[]⟩ ⟨[]⟩,p,h=>by simp[NF]at h;subst h;exact⟨_,rfl,by simp[PR]⟩
 | .func f ⟨_::_⟩ _,p,h=>by simp[NF]at h
 | .func f ⟨[]⟩ ⟨_::_⟩,p,h=>by simp[NF]at h
 | .agg ⟨cs⟩,p,h=>by
  simp only[NF,zp]at h;obtain⟨xs,c,rfl⟩:=h;obtain⟨ys,h2,h3⟩:=PA c;exact⟨.agg ys,by simp[cv,h2],by simp only[PR];exact⟨ys,rfl,h3⟩⟩
 | .tuple ⟨cs⟩,p,h=>by
  simp only[NF,zp]at h;obtain⟨xs,c,rfl⟩:=h;obtain⟨ys,h2,h3⟩:=PA c;exact⟨.tup ys,by simp[cv,h2],by simp only[PR];exact⟨ys,rfl,h3⟩⟩
 | .float _ _,p,h=>by simp[NF]at h
 | .complex _ _ _,p,h=>by simp[NF]at h
 | .chan _,p,h=>by simp[NF]at h
 | .iface _ _,p,h=>by simp[NF]at h
theorem PA:∀ {vs:List Value} {ps:List PV},dK vs=some ps->∃xs,yW vs=some xs/\Bf F ρ N ps xs
 |[],ps,h=>by simp[dK]at h;subst h;exact⟨[],rfl,by simp⟩
 |v::vs,ps,h=>by
  unfold dK at h;split at h
  case h_2=>cases h
  rename_i x xs a d;cases h;obtain⟨y,c,b⟩:=Zy a;obtain⟨ys,g3,g4⟩:=PA d;exact⟨y::ys,by simp[yW,c,g3],by simp[b,g4]⟩
end
theorem sV(v:V):PR F ρ N (X0 v) v:=by
 cases v<;>simp[X0,PR,DC]
theorem Ez:∀vs:List V,Bf F ρ N (vs.map X0) vs
 |[]=>by simp
 |v::vs=>by simp only[List.map_cons,A4];exact⟨sV v,Ez vs⟩
variable {C:Ctx}{st st':AL}{fr:Fr}{h:H}
theorem Cj(b:FP F ρ N st fr){x:Operand}{p:PV}(a:QX st x=some p):∃v,ev C fr x=some v/\PR F ρ N p v:=by
 cases x with
 |tmp t=>simp only[QX,zh]at a;subst a;exact⟨_,rfl,b.slot t⟩
 |const v=>exact Zy a
 |global g=>simp[QX]at a
 |func f=>simp only[QX,zh]at a;subst a;exact⟨_,rfl,by simp[PR]⟩
theorem Fg(b:FP F ρ N st fr):∀ {xs:List Operand} {ps:List PV},MY st xs=some ps->∃vs,R1 C fr xs=some vs/\Bf F ρ N ps vs
 |[],ps,a=>by simp[MY]at a;subst a;exact⟨[],rfl,by simp⟩
 |x::xs,ps,a=>by
  unfold MY at a;split at a
  case h_2=>cases a
  rename_i v vs c f;cases a;obtain⟨y,e,d⟩:=Cj (C:=C) b c;obtain⟨ys,g3,g4⟩:=Fg b f;exact⟨y::ys,by simp[R1,e,g3],by simp[d,g4]⟩
inductive PRn (F:Fz) (ρ:En) (N:Nat):List (Nat×PV)->List (Nat×V)->Prop
 |nil:PRn F ρ N [] []
 |cons {i:Nat} {p:PV} {v:V} {l:List (Nat×PV)} {l':List (Nat×V)}:PR F ρ N p v->PRn F ρ N l l'->PRn F ρ N ((i,p)::l) ((i,v)::l')
theorem PG(b:FP F ρ N st fr):∀ {xs:List (Nat×Operand)} {ps:List (Nat×PV)},cW st xs=some ps->∃vs,W8 C fr xs=some vs/\PRn F ρ N ps vs
 |[],ps,a=>by simp[cW]at a;subst a;exact⟨[],rfl,.nil⟩
 |(i,x)::xs,ps,a=>by
  unfold cW at a;split at a
  case h_2=>cases a
  rename_i v vs c f;cases a;obtain⟨y,e,d⟩:=Cj (C:=C) b c;obtain⟨ys,g3,g4⟩:=PG b f;exact⟨(i,y)::ys,by simp[W8,e,g3],.cons d g4⟩
structure Rel(B:Nat)(h0:H0)(F:Fz)(ρ:En)(st:AL)(fr:Fr)(h:H):Prop where
 fp:FP F ρ st.nx st fr
 sr:SR B h0 F ρ st.nx st.ob h
inductive PO.To:PO->PV->AL->Prop
 |val {v:PV} {st:AL}:PO.To (.val v st) v st
 |tt {a b:PO} {v:PV} {st:AL}:PO.To a v st->PO.To (.ite true a b) v st
 |ff {a b:PO} {v:PV} {st:AL}:PO.To b v st->PO.To (.ite false a b) v st
@[simp] theorem Mj{v:PV}{s:AL}:¬PO.To .bad v s:=by intro h;cases h
@[simp] theorem AU{v u:PV}{s t:AL}:PO.To (.val v s) u t↔v=u/\s=t:=by
 constructor
 ·intro h;cases h;exact⟨rfl,rfl⟩
 ·rintro⟨rfl,rfl⟩;exact .val
@[simp] theorem BJ{c:Bool}{v u:PV}{s t:AL}:PO.To (.It c v s) u t↔c=true/\v=u/\s=t:=by
 constructor
 ·intro h;unfold PO.It at h;cases h with
  |tt h=>cases h;exact⟨rfl,rfl,rfl⟩
  |ff h=>cases h
 ·rintro⟨rfl,rfl,rfl⟩;exact .tt .val
@[simp] theorem K4{o:Option PV}{u:PV}{s t:AL}:PO.To (ov s o) u t↔o=some u/\s=t:=by
 cases o with
 |none=>simp[ov]
 |some v=>simp only[ov,AU,zh]
@[simp] theorem Pv{c:Bool}{o:Option PV}{u:PV}{s t:AL}:PO.To (ovc c s o) u t↔c=true/\o=some u/\s=t:=by
 cases o with
 |none=>simp[ovc]
 |some v=>simp only[ovc,BJ,zh]
def OK(B:Nat)(h0:H0)(F:Fz)(ρ:En)(st:AL)(h:H)(a:List Nat)(d:Option OR)(v:PV)(st':AL):Prop:=
 ∃v' h' F' ρ',(d=some (.val v' h')\/(d=some (.skip h')/\v'=.tup []))/\PR F' ρ' st'.nx v v'/\SR B h0 F' ρ' st'.nx st'.ob h'/\Le F ρ st.nx F' ρ' st'.nx/\
  st'.fr=st.fr/\st'.n=st.n/\h.nx<=h'.nx/\∀b,b<h.nx->h'.get b=h.get b\/∃id∈a,∃n,ρ id=some (b,n)
theorem OK.pure{a:List Nat}(hr:SR B h0 F ρ st.nx st.ob h){d:Option OR}{v:PV}{v':V}(b:d=some (.val v' h))(c:PR F ρ st.nx v v'):OK B h0 F ρ st h a d v st:=
 ⟨v',h,F,ρ,.inl b,c,hr,Le.refl,rfl,rfl,z6 _,fun _ _=>.inl rfl⟩
theorem Mq{α:Type}(n:Nat)(l:List α):Det.JX n l=l.drop n:=Pa n l
theorem rd_some{h:H}{b off n:Nat}{cs:List V}{t:TypeId}{fz:Nat×Nat}(c:h.get b=some (.cells cs t fz))(a:off+n<=cs.length)(d:∀v∈(cs.drop off).take n,v.ok=true):rd h b off n=some ((cs.drop off).take n):=by
 rw[YI];unfold rd0;rw[c];simp only;rw[wd ⟨a,qq.2 d⟩]
theorem Lo{d:TypeDesc}{n:Nat}{ps:List PV}{cs:List V}(hp:Bf F ρ N ps cs){p:PV}(a:pick d n ps=some p):
  (D8 d=true/\0<n/\n<=cs.length/\PR F ρ N p (.agg<|cs.take n))\/(D8 d=false/\∃v vs,cs=v::vs/\PR F ρ N p v):=by
 unfold pick at a;cases e:D8 d with
 |true=>
  left;simp only[e,we]at a;rw[Db,OB]at a;cases b:(zw n ps.length&&ya 0 n)with
  |false=>rw[b]at a;cases a
  |true=>
   rw[b]at a;simp only[we,zh]at a;subst a;simp only[ze]at b;obtain⟨b,c⟩:=b;refine⟨rfl,zf c,by rw[<-hp.len];exact zf b,?_⟩;simp only[PR];exact⟨_,rfl,hp.take n⟩
 |false=>
  right;simp only[e,wg]at a;cases ps with
  |nil=>cases a
  |cons q g=>
   cases a;simp only[Bf]at hp;obtain⟨v,vs,rfl,f,_⟩:=hp;exact⟨rfl,v,vs,rfl,f⟩
theorem Df:∀ {s:Sh} {x:s.T} {cs:List V},DC F s x cs->Bf F ρ N (flat s x) cs
 | .pair a b,(x,y),cs,h=>by
  simp only[DC]at h;obtain⟨c,d,rfl,f,e⟩:=h;exact(Df f).append<|Df e
 | .unit,_,cs,h=>by simp only[DC]at h;subst h;simp[flat]
 | .int k,x,cs,h=>by simp only[DC]at h;subst h;simp only[flat,A4,B7,ve];simp[PR,DC]
 | .bool,x,cs,h=>by simp only[DC]at h;subst h;simp only[flat,A4,B7,ve];simp[PR,DC]
 | .str,x,cs,h=>by simp only[DC]at h;subst h;simp only[flat,A4,B7,ve];simp[PR,DC]
 | .list s,x,cs,h=>by
  have h':=h;simp only[DC]at h;obtain⟨v,rfl,_⟩:=h;simp only[flat,A4,B7,ve,PR];exact h'
 | .fnv,x,cs,h=>by simp only[DC]at h;subst h;simp only[flat,A4,B7,ve];cases (x:Option Fn)<;>simp[PR]
 | .ptr s,x,cs,h=>by
  simp only[DC]at h;obtain⟨b,o,j,rfl,e,g,i⟩:=h;simp only[flat,A4,B7,ve,PR];exact⟨b,o,j,rfl,e,g,i⟩
 | .nlist s,x,cs,h=>by
  have h':=h;simp only[DC]at h;obtain⟨v,rfl,_⟩:=h;simp only[flat,A4,B7,ve,PR];exact h'
theorem F4{α:Type}(l:List α)(a b:Nat):l.drop (a+b)=(l.drop a).drop b:=by rw[List.drop_drop]
theorem G9{T:B6}{t:TypeId}{d:TypeDesc}{i:TI}(D:T.und t=some d)(A:T.inf t=some i){b off:Nat}{cs:List V}{te:TypeId}{fz:Nat×Nat}(q:h.get b=some (.cells cs te fz))
  {m:Nat} (f:∀v∈(cs.drop off).take m,v.ok=true) {ps:List PV} (hp:Bf F ρ N ps ((cs.drop off).take m)) {p:PV} (j:pick d i.size ps=some p):∃v,Ft T h t (.ptr b off)=some v/\PR F ρ N p v:=by
 unfold Ft;simp only[D,A];have s:((cs.drop off).take m).length<=cs.length-off:=by simp;omega
 have w:off<=cs.length:=by
  have:0<((cs.drop off).take m).length:=by
   rcases Lo hp j with⟨_,h0,n,_⟩|⟨_,v,vs,e,_⟩
   ·omega
   ·rw[e];simp
  simp at this;omega
 rcases Lo hp j with⟨l,_,n,g⟩|⟨l,v,vs,c,g⟩
 ·simp only[l,we];have:(cs.drop off).take i.size=((cs.drop off).take m).take i.size:=by
   rw[List.take_take];have:i.size<=m:=by
    have:=n;simp at this;omega
   rw[Nat.min_eq_left this]
  rw[rd_some q ae<|fun v g=>f v<|zt<|by rwa [this]at g];refine⟨_,rfl,?_⟩;rw[this];exact g
 ·simp only[l,wg];have y:off+1<=cs.length:=by
   have:((cs.drop off).take m).length=vs.length+1:=by rw[c];rfl
   omega
  have r:(cs.drop off).take 1=[v]:=by
   have:m≠0:=by rintro rfl;simp at c
   obtain⟨k,rfl⟩:=Nat.exists_eq_succ_of_ne_zero this;cases x:cs.drop off with
   |nil=>rw[x]at c;simp at c
   |cons a z=>rw[x]at c;simp only[List.take_succ_cons,List.cons.injEq]at c;simp[c.1]
  rw[rd_some q y (fun u o=>by rw[r]at o;cases zd.1 o;exact f v (by rw[c];simp)),r];exact⟨v,rfl,g⟩
end
section
variable {B:Nat}{h0:H0}{F:Fz}{ρ:En}{N:Nat}{C:Ctx}{st st':AL}{fr:Fr}{h:H}
theorem SR.at(hr:SR B h0 F ρ N st.ob h){id:Nat}{o:Obj}(a:st.obj id=some o):∃b n x,ρ id=some (b,n)/\h.get b=some x/\ZP F ρ N n o x/\(o.frozen=false->F b=none)/\
  (o.frozen=true->∃cs t fz,x=.cells cs t fz/\F b=some cs):=hr.obj id o a
theorem Pb{s:Sh}{l:List s.T}{cs:List V}(c:Eo F s l cs)(b:s.sz=1):∀(n j:Nat),j+n=l.length->Bf F ρ N (Pj s l j n) (cs.drop j)
 |0,j,f=>by
  have:cs.length=l.length:=by rw[c.1,b,qe]
  rw[List.drop_eq_nil_of_le ae];unfold Pj;simp
 |n+1,j,f=>by
  have g:cs.length=l.length:=by rw[c.1,b,qe]
  have a:j<l.length:=ae
  have d:=c.2 j a;rw[b,qe]at d;have e:cs.drop j=(cs.drop j).take 1++cs.drop (j+1):=by
   have:=List.take_append_drop 1<|cs.drop j;rw[List.drop_drop]at this;exact this.symm
  unfold Pj;rw[e,show l.getD j s.Hb=l[j]from by simp[a]];exact(Df d).append (Pb c b n (j+1) ae)
theorem mL(hr:SR B h0 F ρ st.nx st.ob h){t:TypeId}{p:PV}{a:V}(q:PR F ρ st.nx p a){v:PV}(f:(Ni C.T st t p).To v st'):
  OK B h0 F ρ st h [] (Bx h<|Ft C.T h t a) v st':=by
 unfold Ni at f;split at f
 case h_2=>simp at f
 rename_i d i D A;split at f
 case h_4=>simp at f
 case h_1=>
  rename_i id off;split at f
  case h_4=>simp at f
  case h_3=>
   rename_i tb ps y;simp only[K4]at f;obtain⟨c,rfl⟩:=f;obtain⟨b,n,x,h1,h2,⟨cs,fz,rfl,h4,_,hbok⟩,_⟩:=hr.at y;simp only[PR]at q;obtain rfl:=q.2 b n h1;rw[Mq]at c;obtain⟨v',r,w⟩:=G9 (h:=h) D A h2 (m:=cs.length) (fun u k=>hbok u<|zm<|zt k) (by rw[zn<|by simp];exact h4.drop off) c;exact OK.pure hr (by rw[r];rfl) w
  case h_2=>
   rename_i E e s l y;cases g:(zg off 0&&zg s.sz 1)with
   |false=>rw[g]at f;simp at f
   |true=>
    rw[g]at f;simp only[we,Pv,w5]at f;obtain⟨I,c,rfl⟩:=f;rw[ze]at g;have h0:=zc g.1;have G:=zc g.2;subst h0;obtain⟨b,n,x,h1,h2,⟨cs,fz,rfl,h4,_⟩,_⟩:=hr.at y;simp only[PR]at q;obtain rfl:=q.2 b n h1;have hp:=Pb (ρ:=ρ) (N:=st.nx) h4 G i.size 0 ae;obtain⟨v',r,w⟩:=G9 (h:=h) D A h2 (m:=cs.length) (fun u k=>h4.ok u<|zm<|zt k) (by rw[zn<|by simp];exact hp) c;exact OK.pure hr (by rw[r];rfl) w
  rename_i ps y;simp only[K4]at f;obtain⟨c,rfl⟩:=f;obtain⟨b,n,x,h1,h2,⟨cs,te,fz,rfl,h4,_,hbok⟩,_⟩:=hr.at y;simp only[PR]at q;obtain rfl:=q.2 b n h1;rw[Mq]at c;obtain⟨v',r,w⟩:=G9 (h:=h) D A h2 (m:=cs.length) (fun u k=>hbok u<|zm<|zt k) (by rw[zn<|by simp];exact h4.drop off) c;exact OK.pure hr (by rw[r];rfl) w
 case h_2=>
  rename_i id sz j off;split at f
  case h_2=>simp at f
  rename_i E e s l y;cases g:zg sz s.sz with
  |false=>rw[g]at f;simp at f
  |true=>
   rw[g]at f;simp only[we,Pv,w5]at f;obtain⟨I,c,rfl⟩:=f;have g:=zc g;subst g;obtain⟨b,n,x,h1,h2,⟨cs,fz,rfl,h4,_⟩,_⟩:=hr.at y;simp only[PR]at q;obtain rfl:=q.2 b n h1;have z:=h4.2 j I;rw[show l.getD j s.Hb=l[j]from by simp[I],Mq]at c;have hp:Bf F ρ st.nx ((flat s l[j]).drop off) ((cs.drop<|j*s.sz+off).take<|s.sz-off):=by
    have:=(Df (F:=F) (ρ:=ρ) (N:=st.nx) z).drop off;rw[F4, <-yx]at*;exact this
   obtain⟨v',r,w⟩:=G9 (h:=h) D A h2 (fun u k=>z.ok u<|zm (i:=off)<|by rw[F4, <-yx]at k;exact k) hp c;exact OK.pure hr (by rw[r];rfl) w
 case h_3=>
  rename_i s x off;simp only[K4]at f;obtain⟨c,rfl⟩:=f;simp only[PR]at q;obtain⟨b,o,cs,rfl,h1,h2,h3⟩:=q;obtain⟨te,fz,h4⟩:=hr.frz b cs h1;rw[Mq]at c;have hp:Bf F ρ st.nx ((flat s x).drop off) ((cs.drop<|o+off).take<|s.sz-off):=by
   have:=(Df (F:=F) (ρ:=ρ) (N:=st.nx) h3).drop off;rw[F4, <-yx]at*;exact this
  obtain⟨v',r,w⟩:=G9 (h:=h) D A h4 (fun u k=>h3.ok u<|zm (i:=off)<|by rw[F4, <-yx]at k;exact k) hp c;exact OK.pure hr (by rw[r];rfl) w
theorem DC.S0:∀ {s:Sh} {x:s.T} {cs:List V},DC F s x cs->∀v∈cs,v.one=true
 | .int _,_,_,h=>by simp only[DC]at h;subst h;intro v e;rw[zd.1 e];rfl
 | .bool,_,_,h=>by simp only[DC]at h;subst h;intro v e;rw[zd.1 e];rfl
 | .str,_,_,h=>by simp only[DC]at h;subst h;intro v e;rw[zd.1 e];rfl
 | .list s,l,_,h=>by
  simp only[DC]at h;obtain⟨u,rfl,h⟩:=h;intro v e;rw[zd.1 e];rcases h with⟨_,rfl|rfl|rfl⟩|⟨b,off,cap,o,f,rfl,_⟩<;>rfl
 | .pair a b,x,_,h=>by
  simp only[DC]at h;obtain⟨c,d,rfl,g,i⟩:=h;intro v e;rcases List.mem_append.1 e with e|e
  ·exact g.S0 v e
  ·exact i.S0 v e
 | .unit,_,_,h=>by simp only[DC]at h;subst h;intro v e;cases e
 | .fnv,x,_,h=>by simp only[DC]at h;subst h;intro v e;rw[zd.1 e];cases (x:Option Fn)<;>rfl
 | .ptr _,x,_,h=>by simp only[DC]at h;obtain⟨b,o,f,rfl,_⟩:=h;intro v e;rw[zd.1 e];rfl
 | .nlist s,l,_,h=>by
  simp only[DC]at h;obtain⟨u,rfl,h⟩:=h;intro v e;rw[zd.1 e];rcases h with⟨_,rfl⟩|⟨_,b,off,cap,o,f,rfl,_⟩<;>rfl
theorem Jb{o:Option Obj}(h:Is o=true):∃x,o=some x:=by cases o with|none=>cases h|some x=>exact⟨x,rfl⟩
theorem RA(hr:SR B h0 F ρ st.nx st.ob h){p:PV}{v:V}(d:J8 st p=true)(hp:PR F ρ st.nx p v):v.one=true:=by
 have key:∀ {id:Nat},Is (st.obj id)=true->∃b n,ρ id=some (b,n):=by
  intro id e;obtain⟨o,f⟩:=Jb e;obtain⟨b,n,_,c,_⟩:=hr.at f;exact⟨b,n,c⟩
 cases p<;>simp only[J8]at d<;>simp only[PR]at hp<;>try (cases d;done)
 case bl=>subst hp;rfl
 case dat=>exact hp.S0 v<|zd.2 rfl
 case nil|nilp|nilm|nilf|nili=>subst hp;rfl
 case ptr=>obtain⟨b,n,c⟩:=key d;rw[hp.2 b n c];rfl
 case eptr=>obtain⟨b,n,c⟩:=key d;rw[hp.2 b n c];rfl
 case BF=>obtain⟨b,o,cs,rfl,_⟩:=hp;rfl
 case sl=>
  obtain⟨b,n,c⟩:=key d;rcases hp.2 b n c with⟨_,_,o,_,rfl⟩|⟨_,_,_,rfl|⟨_,rfl,_⟩⟩<;>rfl
 case mp|yl=>obtain⟨b,n,c⟩:=key d;rw[hp.2 b n c];rfl
 case fn=>obtain⟨a,b,rfl,_⟩:=hp;rfl
theorem bE{v:V}(h:v.one=true):v.cells=[v]:=by cases v<;>first|rfl|cases h
theorem NT(hr:SR B h0 F ρ st.nx st.ob h){p:PV}{v:V}{ps:List PV}(hp:PR F ρ st.nx p v)(a:pcs st p=some ps):Bf F ρ st.nx ps v.cells:=by
 unfold pcs at a;split at a
 ·cases a;simp only[PR]at hp;obtain⟨cs,rfl,c⟩:=hp;exact c
 ·rename_i q d;cases b:J8 st p with
  |false=>rw[b]at a;cases a
  |true=>
   rw[b]at a;cases a;rw[bE<|RA hr b hp];simpa using hp
theorem Kz(hr:SR B h0 F ρ st.nx st.ob h):∀ {ps:List PV} {vs:List V},ps.all (J8 st)=true->Bf F ρ st.nx ps vs->vs.all V.one=true
 |[],vs,_,h=>by simp at h;subst h;rfl
 |p::ps,vs,a,h=>by
  simp only[Bf]at h;obtain⟨v,vs,rfl,b,c⟩:=h;simp only[List.all_cons,ze]at a ⊢;exact⟨RA hr a.1 b,Kz hr a.2 c⟩
theorem Bf.Ka:∀ {a:List PV} {x:List V} {b:List PV} {y:List V},Bf F ρ N a x->Bf F ρ N b y->Bf F ρ N (Ka a b) (Ka x y)
 |[],x,b,y,h,h'=>by simp at h;subst h;exact h'
 |p::ps,x,b,y,h,h'=>by
  simp only[Bf]at h;obtain⟨v,vs,rfl,c,d⟩:=h;cases b with
  |nil=>simp at h';subst h';show Bf F ρ N [] [];simp
  |cons q g=>
   simp only[Bf]at h';obtain⟨u,e,rfl,i,f⟩:=h';show Bf F ρ N (p::Det.Ka ps g) (v::Det.Ka vs e);simp only[A4];exact⟨c,d.Ka f⟩
theorem Bf.CE{a:List PV}{x:List V}(c:Bf F ρ N a x):∀(n:Nat) {b:List PV} {y:List V},Bf F ρ N b y->Bf F ρ N (CE n a b) (CE n x y)
 |0,b,y,h=>c.Ka h
 |n+1,[],y,h=>by simp at h;subst h;show Bf F ρ N [] [];simp
 |n+1,q::e,y,h=>by
  simp only[Bf]at h;obtain⟨u,g,rfl,f,d⟩:=h;show Bf F ρ N (q::jc n a e) (u::jc n x g);simp only[A4];exact⟨f,Bf.CE c n d⟩
theorem Hf:∀(l:Ob) (i:Nat) (x:Obj) (j:Nat),(AP l i).isSome=true->AP (DW l i x) j=if j=i then some x else AP l j
 |[],i,x,j,h=>by cases h
 |(a,o)::l,i,x,j,h=>by
  simp only[DW,AP,Bp]at h ⊢;by_cases e:a=i
  ·subst e;simp only[decide_true,we,AP,Bp];by_cases b:a=j
   ·subst b;simp
   ·rw[wc<|fun h=>b h.symm];simp[b]
  ·simp only[e,decide_false,wg]at h ⊢;simp only[AP,Bp];by_cases b:a=j
   ·subst b;simp[e]
   ·simp only[b,decide_false,wg];exact Hf l i x j h
theorem Nv{b off:Nat}{vs cs:List V}{t:TypeId}{fz:Nat×Nat}(f:h.get b=some (.cells cs t fz))(e:off+vs.length<=cs.length)(a:fz.2<=fz.1)(d:vs.all V.one=true):
  wr h b off vs=some (h.put b<|.cells (CE off vs cs) t fz):=by
 unfold wr;simp only[f,Db,FL,d];have c:zw (yk off vs.length) cs.length=true:=Nat.ble_eq_true_of_le e;have g:Det.clear fz off vs.length=true:=by
  unfold Det.clear;rw[show zw fz.2 fz.1=true from Nat.ble_eq_true_of_le a,Bool.or_true]
 rw[c,g];rfl
theorem SR.set(hr:SR B h0 F ρ st.nx st.ob h){id b n:Nat}{o o':Obj}{x x':O}(A:st.obj id=some o)(r:ρ id=some (b,n))(R:h.get b=some x)(J:o.frozen=false)(u:o'.frozen=false)
  (K:ZP F ρ st.nx n o' x'):SR B h0 F ρ st.nx (DW st.ob id o') (h.put b x'):=by
 have q:AP st.ob id=some o:=A;have s:F b=none:=by
  obtain⟨b',n',_,p,_,_,t,_⟩:=hr.at A;rw[r]at p;cases p;exact t J
 have g:∀j,AP (DW st.ob id o') j=if j=id then some o' else AP st.ob j:=fun j=>Hf _ _ _ _ (by rw[q];rfl)
 refine⟨fun j oj d=>?_,fun i j oi oj c m S P d p t=>?_,fun c cs f=>?_,hr.own,fun j d=>?_,fun c f E=>?_,fun c G f=>?_,hr.le,hr.fo,hr.gl,fun c f=>?_⟩
 ·rw[g]at d;by_cases e:j=id
  ·subst e;simp only[wk,zh]at d;subst d;exact⟨b,n,x',r,by simp,K,fun _=>s,fun e=>by rw[u]at e;cases e⟩
  ·rw[wc e]at d;obtain⟨c,m,y,p,t,Q,L,T⟩:=hr.obj j oj d;have a:c≠b:=fun I=>e<|hr.inj j id oj o c m n d q p<|I▸r
   exact⟨c,m,y,p,by rw[H.Bm,wc a];exact t,Q,L,T⟩
 ·have l:∀k ok,AP (DW st.ob id o') k=some ok->∃M,AP st.ob k=some M:=by
   intro k ok w;rw[g]at w;by_cases e:k=id
   ·exact⟨o,e▸q⟩
   ·rw[wc e]at w;exact⟨ok,w⟩
  obtain⟨_,v⟩:=l i oi P;obtain⟨_,z⟩:=l j oj d;exact hr.inj i j _ _ c m S v z p t
 ·have a:c≠b:=fun e=>by rw[e,s]at f;cases f
  rw[H.Bm,wc a];exact hr.frz c cs f
 ·rw[g]at d;by_cases e:j=id
  ·rw[wd e]at d;cases d
  ·rw[wc e]at d;exact hr.dead j d
 ·have a:c≠b:=NM (hr.own id b n r).2 f E;rw[H.Bm,wc a];exact hr.old c f E
 ·rw[H.Bm]at f;by_cases e:c=b
  ·subst e;exact hr.lt _ _ R
  ·rw[wc e]at f;exact hr.lt c G f
 ·obtain⟨v,z,D⟩:=hr.pn c f;have a:c≠b:=fun e=>D id n<|e▸r
  exact⟨by rw[H.Bm,wc a];exact v,z,D⟩
def BL(ρ:En)(i:Nat)(x:Option (Nat×Nat)):En:=fun j=>if j=i then x else ρ j
theorem Le.NY(i:Nat):Le F ρ N F (BL ρ i none) N:=⟨fun _ _ h=>h,fun id _=>by unfold BL;split<;>simp_all,z6 _⟩
theorem Le.new(x:Nat×Nat):Le F ρ N F (BL ρ N<|some x) (N+1):=⟨fun _ _ h=>h,fun id h=>by unfold BL;rw[wc ae];exact .inl rfl,Nat.le_succ _⟩
theorem SR.push{ob:Ob}(hr:SR B h0 F ρ N ob h){o:Obj}{x:O}{n:Nat}(M:o.frozen=false)(P:ZP F (BL ρ N<|some (h.nx,n)) (N+1) n o x):
  SR B h0 F (BL ρ N<|some (h.nx,n)) (N+1) ((N,o)::ob) (h.push x):=by
 have S:Le F ρ N F (BL ρ N<|some (h.nx,n)) (N+1):=Le.new _;have f:∀j,AP ((N,o)::ob) j=if j=N then some o else AP ob j:=by
  intro j;simp only[AP,Bp];by_cases e:N=j
  ·subst e;simp
  ·rw[wc<|fun h=>e h.symm];simp[e]
 have U:∀id b m,ρ id=some (b,m)->id<N:=fun id b m p=>(hr.own id b m p).1
 have a:∀b y,h.get b=some y->b≠h.nx:=fun b y p=>by have:=hr.lt b y p;omega
 refine⟨fun j oj d=>?_,fun i j oi oj c m D G d v u=>?_,fun c cs l=>?_,fun id b m p=>?_,fun j d=>?_,fun c l Y=>?_,fun c K l=>?_,?_,?_,hr.gl,fun c l=>?_⟩
 ·rw[f]at d;by_cases e:j=N
  ·subst e;simp only[wk,zh]at d;subst d;refine⟨h.nx,n,x,by simp[BL],by simp,P,fun _=>?_,fun e=>by rw[M]at e;cases e⟩;cases l:F h.nx with
   |none=>rfl
   |some cs=>
    obtain⟨t,fz,s⟩:=hr.frz _ _ l;exact wh rfl (a _ _ s)
  ·rw[wc e]at d;obtain⟨c,m,y,v,u,V,R,X⟩:=hr.obj j oj d;exact⟨c,m,y,by simp[BL,e,v],by rw[H.BI,wc<|a c y u];exact u,V.mono S,R,X⟩
 ·rw[f]at G d;have key:∀k ok m,(if k=N then some o else AP ob k)=some ok->BL ρ N (some (h.nx,n)) k=some (c,m)->(k=N/\c=h.nx)\/(k≠N/\AP ob k=some ok/\ρ k=some (c,m)/\c≠h.nx):=by
   intro k ok m A g;by_cases e:k=N
   ·subst e;simp[BL]at g;exact .inl ⟨rfl,g.1.symm⟩
   ·rw[wc e]at A;simp only[BL,e,vg]at g;obtain⟨c',D,y,q,E,_⟩:=hr.obj k ok A;rw[g]at q;cases q;exact .inr ⟨e,A,g,a c y E⟩
  rcases key i oi m G v with⟨J,z⟩|⟨J,z,L,T⟩<;>rcases key j oj D d u with⟨I,w⟩|⟨I,w,Q,Z⟩
  ·rw[J,I]
  ·exact wh z Z
  ·exact wh w T
  ·exact hr.inj i j oi oj c m D z w L Q
 ·obtain⟨t,fz,s⟩:=hr.frz c cs l;exact⟨t,fz,by rw[H.BI,wc<|a c _ s];exact s⟩
 ·unfold BL at p;split at p
  ·rename_i e;cases p;subst e;exact⟨Nat.lt_succ_self _,.inl hr.le⟩
  ·have:=hr.own id b m p;exact⟨by omega,this.2⟩
 ·rw[f]at d;by_cases e:j=N
  ·rw[wd e]at d;cases d
  ·rw[wc e]at d;simp[BL,e,hr.dead j d]
 ·have:=hr.le;rw[H.BI,wc ae];exact hr.old c l Y
 ·rw[H.BI]at l;by_cases e:c=h.nx
  ·subst e;exact Nat.lt_succ_self _
  ·rw[wc e]at l;have:=hr.lt c K l;show c<h.nx+1;omega
 ·have:=hr.le;show B<=h.nx+1;omega
 ·exact hr.fo
 ·obtain⟨q,E,W⟩:=hr.pn c l;have r:=a c _ q;refine⟨by rw[H.BI,wc r];exact q,E,fun id m e=>?_⟩;unfold BL at e;split at e
  ·cases e;exact r rfl
  ·exact W id m e
theorem Ed:∀(l:Ob) (i j:Nat),AP (GP l i) j=if j=i then none else AP l j
 |[],i,j=>by simp[GP,AP]
 |(a,o)::l,i,j=>by
  simp only[GP,Bp];by_cases e:a=i
  ·subst e;simp only[decide_true,we];rw[Ed l a j];simp only[AP,Bp];by_cases b:j=a
   ·simp[b]
   ·rw[wc b];have c:¬a=j:=fun h=>b h.symm
    simp[c,b]
  ·simp only[e,decide_false,wg,AP,Bp];rw[Ed l i j];by_cases b:a=j
   ·subst b;simp[e]
   ·simp[b]
theorem SR.del{ob:Ob}(hr:SR B h0 F ρ N ob h)(id:Nat):SR B h0 F (BL ρ id none) N (GP ob id) h:=by
 have u:Le F ρ N F (BL ρ id none) N:=Le.NY id;refine⟨fun j oj a=>?_,fun i j oi oj c m o k a d g=>?_,hr.frz,fun j b m f=>?_,fun j a=>?_,hr.old,hr.lt,hr.le,hr.fo,hr.gl,fun c v=>?_⟩
 ·rw[Ed]at a;split at a
  ·cases a
  ·rename_i e;obtain⟨c,m,y,d,g,l,q⟩:=hr.obj j oj a;exact⟨c,m,y,by simp[BL,e,d],g,l.mono u,q⟩
 ·rw[Ed]at k a;split at k
  ·cases k
  split at a
  ·cases a
  rename_i s p;simp only[BL,s,p,vg]at d g;exact hr.inj i j oi oj c m o k a d g
 ·unfold BL at f;split at f
  ·cases f
  ·exact hr.own j b m f
 ·rw[Ed]at a;unfold BL;split
  ·rfl
  ·rename_i e;rw[wc e]at a;exact hr.dead j a
 ·obtain⟨t,r,n⟩:=hr.pn c v;refine⟨t,r,fun j m e=>?_⟩;unfold BL at e;split at e
  ·cases e
  ·exact n j m e
theorem SR.kill{ob:Ob}(hr:SR B h0 F ρ N ob h){b:Nat}(p:∀id o n,AP ob id=some o->ρ id≠some (b,n))(s:F b=none)(q:h0.cD B b)(t:b∉h0.pin):SR B h0 F ρ N ob (h.kill b):=by
 refine⟨fun j oj k=>?_,hr.inj,fun c cs a=>?_,hr.own,hr.dead,fun c a l=>?_,fun c r a=>?_,hr.le,hr.fo,hr.gl,fun c a=>?_⟩
 ·obtain⟨c,m,y,d,g,f⟩:=hr.obj j oj k;have:c≠b:=fun e=>p j oj m k<|e▸d
  exact⟨c,m,y,d,by rw[H.Ch,wc this];exact g,f⟩
 ·have:c≠b:=fun e=>by rw[e,s]at a;cases a
  rw[H.Ch,wc this];exact hr.frz c cs a
 ·have:c≠b:=NM q a l;rw[H.Ch,wc this];exact hr.old c a l
 ·rw[H.Ch]at a;split at a
  ·cases a
  ·exact hr.lt c r a
 ·obtain⟨d,g,f⟩:=hr.pn c a;have i:c≠b:=fun e=>t<|e▸a
  exact⟨by rw[H.Ch,wc i];exact d,g,f⟩
theorem CJ{s a:Sh}{x:s.T}{y:a.T}(h:DP s a x=some y):∃e:s=a,e▸x=y:=by
 unfold DP at h;split at h
 ·rename_i e;cases h;exact⟨e,rfl⟩
 ·cases h
theorem GM{s:Sh}{p:PV}{x:s.T}{v:V}(hp:PR F ρ N p v)(a:sD s p=some x):DC F s x [v]:=by
 unfold sD at a;split at a
 ·unfold asP at a;split at a
  ·obtain⟨rfl,rfl⟩:=CJ a;simp only[PR]at hp;obtain⟨b,o,cs,rfl,h2,h3,h4⟩:=hp;simp only[DC];exact⟨b,o,cs,rfl,h2,h3,h4⟩
  ·cases a
 ·obtain⟨rfl,rfl⟩:=CJ a;simpa only[PR]using hp
 ·obtain⟨rfl,rfl⟩:=CJ a;simp only[PR]at hp;subst hp;simp[DC]
 ·obtain⟨rfl,rfl⟩:=CJ a;simp only[PR,B7]at hp;obtain⟨_,_,rfl,rfl,rfl⟩:=hp;simp[DC]
 ·obtain⟨rfl,rfl⟩:=CJ a;simp only[PR]at hp;subst hp;simp[DC]
 ·split at a
  ·cases a;simp only[PR]at hp;subst hp;simp[DC]
  ·cases a;simp only[PR]at hp;subst hp;simp[DC]
  ·cases a
 ·cases a
theorem HS:∀ {s:Sh} {ps:List PV} {vs:List V} {x:s.T} {f:List PV},Bf F ρ N ps vs->Cx s ps=some (x,f)->∃a b,vs=a++b/\DC F s x a/\Bf F ρ N f b
 | .pair s t,ps,vs,x,f,hp,e=>by
  unfold Cx at e;split at e
  case h_2=>cases e
  rename_i y l1 g;split at e
  case h_2=>cases e
  rename_i z n i;cases e;obtain⟨a,b,rfl,m,l⟩:=HS hp g;obtain⟨c,d,rfl,g3,g4⟩:=HS l i;exact⟨a++c,d,by simp,by simp only[DC];exact⟨a,c,rfl,m,g3⟩,g4⟩
 | .unit,ps,vs,x,f,hp,e=>by
  unfold Cx at e;cases e;exact⟨[],vs,rfl,by simp[DC],hp⟩
 | .int k,[],vs,x,f,hp,e=>by simp[Cx]at e
 | .bool,[],vs,x,f,hp,e=>by simp[Cx]at e
 | .str,[],vs,x,f,hp,e=>by simp[Cx]at e
 | .list s,[],vs,x,f,hp,e=>by simp[Cx]at e
 | .nlist s,[],vs,x,f,hp,e=>by simp[Cx]at e
 | .fnv,[],vs,x,f,hp,e=>by simp[Cx]at e
 | .ptr _,[],vs,x,f,hp,e=>by simp[Cx]at e
 | .int k,p::ps,vs,x,f,hp,e=>by
  simp only[Bf]at hp;obtain⟨v,vs,rfl,g,i⟩:=hp;simp only[Cx]at e;split at e
  ·rename_i y j;cases e;exact⟨[v],vs,rfl,GM g j,i⟩
  ·cases e
 | .bool,p::ps,vs,x,f,hp,e=>by
  simp only[Bf]at hp;obtain⟨v,vs,rfl,g,i⟩:=hp;simp only[Cx]at e;split at e
  ·rename_i y j;cases e;exact⟨[v],vs,rfl,GM g j,i⟩
  ·cases e
 | .str,p::ps,vs,x,f,hp,e=>by
  simp only[Bf]at hp;obtain⟨v,vs,rfl,g,i⟩:=hp;simp only[Cx]at e;split at e
  ·rename_i y j;cases e;exact⟨[v],vs,rfl,GM g j,i⟩
  ·cases e
 | .list s,p::ps,vs,x,f,hp,e=>by
  simp only[Bf]at hp;obtain⟨v,vs,rfl,g,i⟩:=hp;simp only[Cx]at e;split at e
  ·rename_i y j;cases e;exact⟨[v],vs,rfl,GM g j,i⟩
  ·cases e
 | .fnv,p::ps,vs,x,f,hp,e=>by
  simp only[Bf]at hp;obtain⟨v,vs,rfl,g,i⟩:=hp;simp only[Cx]at e;split at e
  ·rename_i y j;cases e;exact⟨[v],vs,rfl,GM g j,i⟩
  ·cases e
 | .ptr s,p::ps,vs,x,f,hp,e=>by
  simp only[Bf]at hp;obtain⟨v,vs,rfl,g,i⟩:=hp;simp only[Cx]at e;split at e
  ·rename_i y j;cases e;exact⟨[v],vs,rfl,GM g j,i⟩
  ·cases e
 | .nlist s,p::ps,vs,x,f,hp,e=>by
  simp only[Bf]at hp;obtain⟨v,vs,rfl,g,i⟩:=hp;simp only[Cx]at e;split at e
  ·rename_i y j;cases e;exact⟨[v],vs,rfl,GM g j,i⟩
  ·cases e
theorem C6{s:Sh}{ps:List PV}{vs:List V}{x:s.T}(hp:Bf F ρ N ps vs)(c:Dn s ps=some x):DC F s x vs:=by
 unfold Dn at c;split at c
 ·rename_i y f;cases c;obtain⟨a,b,rfl,e,d⟩:=HS hp f;simp at d;subst d;simpa using e
 ·cases c
theorem UO{v:V}:∀(vs cs:List V) (off:Nat),v∈GU cs off vs->v∈vs\/v∈cs
 |[],cs,off,h=>.inr h
 |u::vs,cs,off,h=>by
  have h:v∈GU (cs.set off u) (off+1) vs:=h;rcases UO vs _ _ h with h|h
  ·exact .inl<|List.mem_cons_of_mem _ h
  ·rcases List.mem_or_eq_of_mem_set h with h|h
   ·exact .inr h
   ·exact .inl (by simp[h])
theorem VZ{v:V}{vs cs:List V}{off:Nat}(h:v∈jc off vs cs):v∈vs\/v∈cs:=by
 rw[JJ]at h;exact UO _ _ _ h
theorem Hs{cs vs:List V}{off:Nat}(a:off+vs.length<=cs.length)(j:Nat):(CE off vs cs)[j]?=if off<=j/\j<off+vs.length then vs[j-off]? else cs[j]?:=by
 rw[JJ];exact QT vs cs off j a
theorem eL{cs vs:List V}{off:Nat}:(CE off vs cs).length=cs.length:=by
 rw[JJ];exact GA vs cs off
theorem Aae{cs vs:List V}{m off k:Nat}(c:off+vs.length<=k)(d:m+k<=cs.length):((CE (m+off) vs cs).drop m).take k=CE off vs ((cs.drop m).take k):=by
 apply qf;intro j;rw[Hs<|by simp;omega];by_cases a:j<k
 ·rw[zj a,zo,Hs ae];by_cases b:off<=j/\j<off+vs.length
  ·rw[wd b,wd ae];congr 1;omega
  ·rw[wc b,wc ae,zj a,zo]
 ·rw[wc ae,zi (by simp;omega),zi<|by simp;omega]
theorem uZ{cs vs:List V}{m p k:Nat}(c:p+vs.length<=m\/m+k<=p)(b:p+vs.length<=cs.length):((CE p vs cs).drop m).take k=(cs.drop m).take k:=by
 apply qf;intro j;by_cases a:j<k
 ·rw[zj a,zj a,zo,zo,Hs b,wc ae]
 ·rw[zi (by simp;omega),zi<|by simp;omega]
theorem Eo.set{s:Sh}{l:List s.T}{cs vs:List V}{j off:Nat}{y:s.T}(c:Eo F s l cs)(f:j<l.length)(a:off+vs.length<=s.sz)(k:DC F s y (CE off vs<|(cs.drop<|j*s.sz).take s.sz)):
  Eo F s (l.set j y) (CE (j*s.sz+off) vs cs):=by
 have g:j*s.sz+s.sz<=cs.length:=by
  rw[c.1, <-zx];exact zu _ f
 refine⟨by rw[eL,List.length_set];exact c.1,fun i m=>?_⟩;have d:i<l.length:=by simpa using m
 by_cases e:i=j
 ·subst e;rw[Aae a g,List.getElem_set_self];exact k
 ·rw[List.getElem_set_ne<|fun h=>e h.symm,uZ ?_ ae]
  ·exact c.2 i d
  ·rcases Nat.lt_or_gt_of_ne e with b|b
   ·right;have:(i+1)*s.sz<=j*s.sz:=zu _ b;rw[zx]at this;omega
   ·left;have:(j+1)*s.sz<=i*s.sz:=zu _ b;rw[zx]at this;omega
theorem Js{s:Sh}:∀ {n:Nat} {ps:List PV} {vs:List V} {l:List s.T},Bf F ρ N ps vs->chunk s n ps=some l->vs.length=n*s.sz->l.length=n/\Eo F s l vs
 |0,ps,vs,l,hp,c,d=>by
  cases c;simp at d;subst d;exact⟨rfl,by simp[Eo]⟩
 |n+1,ps,vs,l,hp,c,d=>by
  unfold chunk at c;split at c
  case h_2=>cases c
  rename_i x m p;rw[zp]at c;obtain⟨l',o,rfl⟩:=c;obtain⟨a,b,rfl,h2,h3⟩:=HS hp p;have f:=h2.len;have j:b.length=n*s.sz:=by rw[yw,f,zx]at d;omega
  obtain⟨k,r⟩:=Js h3 o j;refine⟨by simp[k],by rw[yw,f,j,List.length_cons,k,zx];omega,fun i q=>?_⟩;cases i with
  |zero=>
   simp only[Nat.zero_mul,List.drop_zero,List.getElem_cons_zero];rw[<-f,List.take_left];exact h2
  |succ i=>
   simp only[List.getElem_cons_succ];have g:i<l'.length:=by simpa using q
   have:=r.2 i g;have e:(a++b).drop ((i+1)*s.sz)=b.drop (i*s.sz):=by
    rw[zx,Nat.add_comm,F4, <-f,List.drop_left]
   rw[e];exact this
theorem oT{cs xs:List V}(h:xs.length=cs.length):jc 0 xs cs=xs:=by
 apply qf;intro j;rw[Hs ae];by_cases a:j<xs.length
 ·rw[wd ae];rfl
 ·rw[wc ae,zi ae,zi ae]
theorem tP(hr:SR B h0 F ρ st.nx st.ob h){t:TypeId}{p q:PV}{a x:V}(E:PR F ρ st.nx p a)(Y:PR F ρ st.nx q x){v:PV}(d:(WZ C.T st t p q).To v st'):
  ∃id,((∃off,p=.ptr id off)\/∃sz j off,p=.eptr id sz j off)/\OK B h0 F ρ st h [id] (iR<|HP C.T h t a x) v st':=by
 unfold WZ at d;split at d
 case h_2=>simp at d
 rename_i i xs O W;cases Q:(zg (Det.EN xs) i.size&&Det.KZ (J8 st) xs)with
 |false=>rw[Q]at d;simp at d
 |true=>
  rw[Q]at d;simp only[ze]at Q;obtain⟨J,K⟩:=Q;rw[Db]at J;rw[FL]at K;have m:=NT hr Y W;have o:x.cells.length=i.size:=by rw[<-m.len];exact zc J
  have k:=Kz hr K m;have D:zg x.cells.length i.size=true:=by rw[o];exact Nat.beq_refl _
  simp only[we]at d;split at d
  case h_3=>simp at d
  case h_1=>
   rename_i id off;split at d
   case h_4=>exact wh d (by simp)
   case h_3=>
    rename_i tb ps A;cases f:zw (yk off i.size) (Det.EN ps)with
    |false=>rw[f]at d;simp at d
    |true=>
     rw[f]at d;simp only[we,AU]at d;obtain⟨rfl,rfl⟩:=d;obtain⟨b,n,y,h1,h2,⟨cs,fz,rfl,h4,h5,hbok⟩,hf,_⟩:=hr.at A;simp only[PR]at E;obtain rfl:=E.2 b n h1;rw[Db]at f;have r:off+x.cells.length<=cs.length:=by rw[<-h4.len,o];exact zf f
     refine⟨id,.inl ⟨off,rfl⟩,.tup [],_,F,ρ,.inr ⟨?_,rfl⟩,by simp[PR],hr.set A h1 h2 rfl rfl (o':=.tbox tb<|jc off xs ps) ⟨_,fz,rfl,m.CE off h4,h5,fun u G=>(VZ G).elim (fun G=>V.Mt<|qq.1 k u G)<|hbok u⟩,Le.refl,rfl,rfl,z6 _,fun c _=>?_⟩
     ·unfold HP;simp only[O,D,we];rw[Nv h2 r h5 k];rfl
     ·rw[H.Bm];by_cases e:c=b
      ·exact .inr ⟨id,zd.2 rfl,n,e▸h1⟩
      ·rw[wc e];exact .inl rfl
   case h_2=>
    rename_i e s l A;cases g:(zg off 0&&zg s.sz 1)with
    |false=>rw[g]at d;simp at d
    |true=>
     rw[g]at d;rw[ze]at g;have w:=zc g.1;have M:=zc g.2;subst w;simp only[we]at d;split at d
     case h_2=>exact wh d (by simp)
     rename_i y P;simp only[BJ,w5]at d;obtain⟨I,rfl,rfl⟩:=d;obtain⟨b,n,z,h1,h2,⟨cs,fz,rfl,h4,h5,h6⟩,hf,_⟩:=hr.at A;simp only[PR]at E;obtain rfl:=E.2 b n h1;have X:cs.length=x.cells.length:=by rw[h4.1,M,qe,o];exact I
     obtain⟨k1,Z⟩:=Js m P (by rw[M,qe];exact o);have r:0+x.cells.length<=cs.length:=ae
     refine⟨id,.inl ⟨0,rfl⟩,.tup [],_,F,ρ,.inr ⟨?_,rfl⟩,by simp[PR],hr.set A h1 h2 rfl rfl (o':=.arr false e s y) ⟨jc 0 x.cells cs,fz,rfl,by rw[oT X.symm];exact Z,h5,by omega⟩,Le.refl,rfl,rfl,z6 _,fun c _=>?_⟩
     ·unfold HP;simp only[O,D,we];rw[Nv h2 r h5 k];rfl
     ·rw[H.Bm];by_cases e:c=b
      ·exact .inr ⟨id,zd.2 rfl,n,e▸h1⟩
      ·rw[wc e];exact .inl rfl
   rename_i ps A;cases f:zw (yk off i.size) (Det.EN ps)with
   |false=>rw[f]at d;simp at d
   |true=>
    rw[f]at d;simp only[we,AU]at d;obtain⟨rfl,rfl⟩:=d;obtain⟨b,n,y,h1,h2,⟨cs,te,fz,rfl,h4,h5,hbok⟩,hf,_⟩:=hr.at A;simp only[PR]at E;obtain rfl:=E.2 b n h1;rw[Db]at f;have r:off+x.cells.length<=cs.length:=by rw[<-h4.len,o];exact zf f
    refine⟨id,.inl ⟨off,rfl⟩,.tup [],_,F,ρ,.inr ⟨?_,rfl⟩,by simp[PR],hr.set A h1 h2 rfl rfl (o':=.box<|jc off xs ps) ⟨_,te,fz,rfl,m.CE off h4,h5,fun u G=>(VZ G).elim (fun G=>V.Mt<|qq.1 k u G)<|hbok u⟩,Le.refl,rfl,rfl,z6 _,fun c _=>?_⟩
    ·unfold HP;simp only[O,D,we];rw[Nv h2 r h5 k];rfl
    ·rw[H.Bm];by_cases e:c=b
     ·exact .inr ⟨id,zd.2 rfl,n,e▸h1⟩
     ·rw[wc e];exact .inl rfl
  case h_2=>
   rename_i id sz j off;split at d
   case h_2=>simp at d
   rename_i e s l A;cases g:(zg sz s.sz&&zw (yk off i.size) sz)with
   |false=>rw[g]at d;simp at d
   |true=>
    rw[g]at d;simp only[ze]at g;have R:=zc g.1;have w:=zf g.2;subst R;simp only[we]at d;split at d
    case h_2=>simp at d
    rename_i y P;simp only[BJ,w5]at d;obtain⟨I,rfl,rfl⟩:=d;obtain⟨b,n,z,h1,h2,⟨cs,fz,rfl,h4,h5,h6⟩,hf,_⟩:=hr.at A;simp only[PR]at E;obtain rfl:=E.2 b n h1;rw[show l.getD j s.Hb=l[j]from by simp[I]]at P;have S:=Df (F:=F) (ρ:=ρ) (N:=st.nx)<|h4.2 j I;have U:=C6 (m.CE off S) P;have L:=Eo.set h4 I (by rw[o];exact w) U;have r:j*s.sz+off+x.cells.length<=cs.length:=by
     have:j*s.sz+s.sz<=cs.length:=by rw[h4.1, <-zx];exact zu _ I
     have:off+i.size<=s.sz:=w;omega
    refine⟨id,.inr ⟨_,_,_,rfl⟩,.tup [],_,F,ρ,.inr ⟨?_,rfl⟩,by simp[PR],hr.set A h1 h2 rfl rfl (o':=.arr false e s<|l.set j y) ⟨_,fz,rfl,L,h5,by simpa using h6⟩,Le.refl,rfl,rfl,z6 _,fun c _=>?_⟩
    ·unfold HP;simp only[O,D,we];rw[Nv h2 r h5 k];rfl
    ·rw[H.Bm];by_cases e:c=b
     ·exact .inr ⟨id,zd.2 rfl,n,e▸h1⟩
     ·rw[wc e];exact .inl rfl
theorem CU{k:IntKind}{n:Int}{v:V}(h:PR F ρ N (.dat (.int k) n) v):v=.int k n:=by simpa [PR,DC]using h
theorem FC{s:Z}{v:V}(h:PR F ρ N (.dat .str s) v):v=.str s:=by simpa [PR,DC]using h
theorem HU{b:Bool}{v:V}(h:PR F ρ N (.dat .bool b) v):v=.bool b:=by simpa [PR,DC]using h
theorem O8{b:Bool}{v:V}(h:PR F ρ N (.bl b) v):v=.bool b:=by simpa [PR]using h
theorem Ds(k:IntKind)(n:Int):PR F ρ N (.dat (.int k) n) (.int k n):=by simp[PR,DC]
theorem Ki(s:Z):PR F ρ N (.dat .str s) (.str s):=by simp[PR,DC]
theorem D2(b:Bool):PR F ρ N (.dat .bool b) (.bool b):=by simp[PR,DC]
theorem Iz(b:Bool):PR F ρ N (.bl b) (.bool b):=by simp[PR]
theorem H8{p:PV}{b:Bool}{v:V}(h:Jp p=some b)(hp:PR F ρ N p v):v=.bool b:=by
 unfold Jp at h;split at h
 ·cases h;exact O8 hp
 ·cases h;exact HU hp
 ·cases h
theorem AcA(hr:SR B h0 F ρ st.nx st.ob h){op:BinOp}{k:IntKind}{a b:Int}{v:PV}(c:(Aaf op k a b st).To v st'):OK B h0 F ρ st h [] (Bx h<|OV op k a b) v st':=by
 unfold Aaf at c;split at c<;>simp only[Mj,AU,BJ,w5,wm]at c
 all_goals first
  |(obtain⟨rfl,rfl⟩:=c;exact OK.pure hr rfl (Ds _ _))
  |(obtain⟨rfl,rfl⟩:=c;exact OK.pure hr rfl (D2 _))
  |(obtain⟨d,rfl,rfl⟩:=c;exact OK.pure hr (by simp only[OV,d,vg,Bx])<|Ds _ _)
theorem AeJ(hr:SR B h0 F ρ st.nx st.ob h){op:BinOp}{k:IntKind}{a b:Int}{v:PV}(c:(psh op k a b st).To v st'):OK B h0 F ρ st h [] (Bx h<|bV op k a b) v st':=by
 unfold psh at c;split at c<;>simp only[Mj,BJ,w5]at c
 all_goals
  obtain⟨d,rfl,rfl⟩:=c;exact OK.pure hr (by simp only[bV,Int.not_lt.2 d,vg,Bx])<|Ds _ _
theorem AcT(hr:SR B h0 F ρ st.nx st.ob h){op:BinOp}{x y:Z}{v:PV}(a:(AbK op x y st).To v st'):OK B h0 F ρ st h [] (Bx h<|Vj op x y) v st':=by
 unfold AbK at a;split at a<;>simp only[Mj,AU,BJ,w5]at a
 all_goals first
  |(obtain⟨rfl,rfl⟩:=a;exact OK.pure hr rfl (D2 _))
  |(obtain⟨b,rfl,rfl⟩:=a;exact OK.pure hr (by simp only[Vj,b,wk,Bx])<|Ki _)
theorem RM:∀ {ks:List FK} {ps o:List PV} {xs f:List V} {r:Bool},Bf F ρ N ps xs->Bf F ρ N o f->Hc ks ps o=some r->fit ks xs=true/\fit ks f=true/\BY xs f=some r
 |[],[],[],xs,f,r,g,i,d=>by
  simp at g i;subst g i;simp only[Hc,zh]at d;subst d;exact⟨rfl,rfl,rfl⟩
 |[],_::_,_,xs,f,r,g,i,d=>by simp[Hc]at d
 |[],[],_::_,xs,f,r,g,i,d=>by simp[Hc]at d
 |k::ks,[],_,xs,f,r,g,i,d=>by cases k<;>simp[Hc]at d
 |k::ks,_::_,[],xs,f,r,g,i,d=>by cases k<;>simp[Hc]at d
 |k::ks,p::ps,q::o,xs,f,r,g,i,d=>by
  simp only[Bf]at g i;obtain⟨x,xs,rfl,j,t⟩:=g;obtain⟨y,f,rfl,hy1,hy2⟩:=i;have key:∀ {c:Bool},k.ok x=true->k.ok y=true->DN x y=some c->(Hc ks ps o).map (fun r=>c&&r)=some r->fit (k::ks) (x::xs)=true/\fit (k::ks) (y::f)=true/\BY (x::xs) (y::f)=some r:=by
   intro c z K v u;rw[zp]at u;obtain⟨P,M,rfl⟩:=u;obtain⟨g1,g2,g3⟩:=RM t hy2 M;refine⟨by simp[fit,z,g1],by simp[fit,K,g2],?_⟩;have G:xs.length=f.length:=by rw[<-TO g1, <-TO g2]
   cases c with
   |true=>simp only[BY,v,g3,Bool.true_and]
   |false=>simp only[BY,v,Bool.false_and,G,wk]
  unfold Hc at d;split at d
  case h_1=>rename_i e _ _;cases e
  case h_2=>
   rename_i w A J a L O b I n m l;cases n;cases m;cases l;cases s:(w==J&&w==O)with
   |false=>rw[s]at d;cases d
   |true=>
    rw[s]at d;simp only[ze,wj]at s;obtain⟨rfl,rfl⟩:=s;obtain rfl:=CU j;obtain rfl:=CU hy1;exact key (by simp[FK.ok]) (by simp[FK.ok]) (by simp[DN]) d
  case h_3=>
   rename_i n m l;cases n;cases m;cases l;obtain rfl:=FC j;obtain rfl:=FC hy1;exact key rfl rfl (by simp[DN]) d
  case h_4=>
   rename_i n m l;cases n;cases m;cases l;split at d
   case h_2=>cases d
   rename_i a b E D;obtain rfl:=H8 E j;obtain rfl:=H8 D hy1;exact key rfl rfl rfl d
  case h_5=>cases d
theorem Ze(hr:SR B h0 F ρ st.nx st.ob h){op:BinOp}{t e:TypeId}(k:C.T.und t=some (.slice e)){p:PV}{x:V}(d:PR F ρ st.nx p x){ng:Bool}{v:PV}(a:(TP st ng p).To v st'):
  (∀(_:x=.nili),False)/\∃b,Bu C.T t x .nils=some b/\PR F ρ st.nx v (.bool<|b !=ng)/\Mr C.T op t x .nils=(match op with| .eql=>(Bu C.T t x .nils).map fun b=>.bool b| .neq=>(Bu C.T t x .nils).map fun b=>.bool !b|_=>none)/\st'=st:=by
 have dq:∀ {x:V},x=.nils\/x=.esl\/x=.es0\/(∃b off len cap o,x=.sl b off len cap o)->Mr C.T op t x .nils=(match op with| .eql=>(Bu C.T t x .nils).map fun b=>.bool b| .neq=>(Bu C.T t x .nils).map fun b=>.bool !b|_=>none):=by
  rintro x (rfl|rfl|rfl|⟨b,off,len,cap,o,rfl⟩)<;>cases op<;>rfl
 have no:∀ {x:V},x=.esl\/x=.es0\/(∃b off len cap o,x=.sl b off len cap o)->Bu C.T t x .nils=some false:=by
  rintro x (rfl|rfl|⟨b,off,len,cap,o,rfl⟩)<;>simp[Bu,k]
 have yes:Bu C.T t .nils .nils=some true:=by simp[Bu,k]
 unfold TP at a;split at a
 case h_1=>
  simp only[AU]at a;obtain⟨rfl,rfl⟩:=a;simp only[PR]at d;subst d;exact⟨fun e=>(by cases e),true,yes,by simp[PR],dq<|.inl rfl,rfl⟩
 case h_2=>
  rename_i id sz off len cap;cases j:Is (st.obj id)with
  |false=>rw[j]at a;simp at a
  |true=>
   rw[j]at a;simp only[we,AU]at a;obtain⟨rfl,rfl⟩:=a;obtain⟨o,ho⟩:=Jb j;obtain⟨b,n,_,h1,_⟩:=hr.at ho;simp only[PR]at d;have:x=.esl\/x=.es0\/(∃b off len cap o,x=.sl b off len cap o):=by
    rcases d.2 b n h1 with⟨_,_,o,_,rfl⟩|⟨rfl,_,_,rfl|⟨_,rfl,_⟩⟩
    ·exact .inr<|.inr ⟨_,_,_,_,_,rfl⟩
    ·exact .inl rfl
    ·exact .inr<|.inr ⟨_,_,_,_,_,rfl⟩
   exact⟨fun e=>(by subst e;rcases this with h|h|⟨_,_,_,_,_,h⟩<;>cases h),false,no this,by simp[PR],dq<|.inr this,rfl⟩
 case h_3=>
  rename_i s l;simp only[PR,DC]at d;obtain⟨u,f,d⟩:=d;obtain rfl:x=u:=by simpa using f
  have i:(decide (0<(l:List s.T).length)=true/\v=.bl ng/\st'=st)\/(v=.ub/\st'=st):=by
   generalize decide (0<(l:List s.T).length)=c at a;cases a with
   |tt a=>simp only[AU]at a;exact .inl ⟨rfl,a.1.symm,a.2.symm⟩
   |ff a=>simp only[AU]at a;exact .inr ⟨a.1.symm,a.2.symm⟩
  rcases i with⟨q,rfl,rfl⟩|⟨rfl,rfl⟩
  ·rcases d with⟨rfl,_⟩|⟨b,off,cap,o,m,rfl,_⟩
   ·simp at q
   ·exact⟨fun e=>(by cases e),false,no<|.inr<|.inr ⟨_,_,_,_,_,rfl⟩,by simp[PR],dq<|.inr<|.inr<|.inr ⟨_,_,_,_,_,rfl⟩,rfl⟩
  ·rcases d with⟨rfl,rfl|rfl|rfl⟩|⟨b,off,cap,o,m,rfl,_⟩
   ·exact⟨fun e=>(by cases e),true,yes,by simp[PR],dq<|.inl rfl,rfl⟩
   ·exact⟨fun e=>(by cases e),false,no<|.inl rfl,by simp[PR],dq<|.inr<|.inl rfl,rfl⟩
   ·exact⟨fun e=>(by cases e),false,no<|.inr<|.inl rfl,by simp[PR],dq<|.inr<|.inr<|.inl rfl,rfl⟩
   ·exact⟨fun e=>(by cases e),false,no<|.inr<|.inr ⟨_,_,_,_,_,rfl⟩,by simp[PR],dq<|.inr<|.inr<|.inr ⟨_,_,_,_,_,rfl⟩,rfl⟩
 case h_4=>
  rename_i s l;simp only[AU]at a;obtain⟨rfl,rfl⟩:=a;simp only[PR,DC]at d;obtain⟨u,f,d⟩:=d;obtain rfl:x=u:=by simpa using f
  rcases d with⟨rfl,rfl⟩|⟨h0,b,off,cap,o,m,rfl,_⟩
  ·exact⟨fun e=>(by cases e),true,yes,by cases ng<;>simp[PR,DC],dq<|.inl rfl,rfl⟩
  ·have g:0<(l:List s.T).length:=List.length_pos_iff.2 h0;exact⟨fun e=>(by cases e),false,no<|.inr<|.inr ⟨_,_,_,_,_,rfl⟩,by cases ng<;>simp[PR,DC,g],dq<|.inr<|.inr<|.inr ⟨_,_,_,_,_,rfl⟩,rfl⟩
 case h_5=>simp at a
theorem WT{o:Option Obj}(h:Is o=true):∃x,o=some x:=by
 cases o with
 |none=>cases h
 |some x=>exact⟨x,rfl⟩
theorem RP(hr:SR B h0 F ρ st.nx st.ob h){t e:TypeId}{p q:PV}{x y:V}(k:C.T.und t=some (.pointer e))(f:PR F ρ st.nx p x)(g:PR F ρ st.nx q y){r:Bool}(c:ptrEq C.T e st p q=some r):
  Bu C.T t x y=some r/\x≠ .nili/\∀op,Mr C.T op t x y=(match op with| .eql=>(Bu C.T t x y).map .bool| .neq=>(Bu C.T t x y).map fun b=>.bool !b|_=>none):=by
 have live:∀ {id off:Nat} {v:V},PR F ρ st.nx (.ptr id off) v->Is (st.obj id)=true->∃b n,ρ id=some (b,n)/\v=.ptr b off:=by
  intro id off v u d;obtain⟨o,w⟩:=WT d;obtain⟨b,n,_,h1,_⟩:=hr.at w;simp only[PR]at u;exact⟨b,n,h1,u.2 b n h1⟩
 unfold ptrEq at c;split at c
 case h_5=>cases c
 case h_1=>
  cases c;simp only[PR]at f g;subst f g;exact⟨by unfold Bu;rw[k],(by intro e;cases e),fun op=>by cases op<;>rfl⟩
 case h_2=>
  rename_i id off;cases d:Is (st.obj id)with
  |false=>rw[d]at c;cases c
  |true=>
   rw[d]at c;cases c;obtain⟨b,n,_,rfl⟩:=live f d;simp only[PR]at g;subst g;exact⟨by unfold Bu;rw[k],(by intro e;cases e),fun op=>by cases op<;>rfl⟩
 case h_3=>
  rename_i id off;cases d:Is (st.obj id)with
  |false=>rw[d]at c;cases c
  |true=>
   rw[d]at c;cases c;obtain⟨b,n,_,rfl⟩:=live g d;simp only[PR]at f;subst f;exact⟨by unfold Bu;rw[k],(by intro e;cases e),fun op=>by cases op<;>rfl⟩
 case h_4=>
  rename_i a i b j;cases d:(zg a b&&Is (st.obj a))with
  |false=>rw[d]at c;cases c
  |true=>
   rw[d]at c;rw[ze]at d;have l:=zc d.1;subst l;simp only[we]at c;split at c
   case h_2=>cases c
   rename_i A s;cases m:ya 0 A.size with
   |false=>rw[m]at c;cases c
   |true=>
    rw[m]at c;cases c;rw[Nat.blt_eq]at m;obtain⟨b,n,z,rfl⟩:=live f d.2;obtain⟨b',n',g2,rfl⟩:=live g d.2;rw[z]at g2;cases g2;refine⟨?_,(by intro e;cases e),fun op=>by cases op<;>rfl⟩;unfold Bu;rw[k];simp only[wk,s];rw[wd ae];congr 1;rw[Bp,Bool.eq_iff_iff];simp
theorem Adc(hr:SR B h0 F ρ st.nx st.ob h){op:BinOp}{t:TypeId}{D A:Operand}{p q:PV}{x y:V}(f:PR F ρ st.nx p x)(d:PR F ρ st.nx q y){v:PV}(c:(AbJ C.T op t p q st).To v st'):
  OK B h0 F ρ st h [] (Bx h<|Nh C.T op t D A x y) v st':=by
 have j:∀ {x y:V},(∀(e:x=.nili),False)->Nh C.T op t D A x y=Mr C.T op t x y:=by
  intro x y m;unfold Nh sS;split
  ·rename_i h;split at h
   ·exact(m rfl).elim
   ·exact(m rfl).elim
   ·cases h
  ·rfl
 unfold AbJ at c;split at c
 case h_1=>
  rename_i k a K b;obtain rfl:=CU f;obtain rfl:=CU d;rw[j<|fun e=>by cases e];cases i:uW op with
  |true=>
   rw[i]at c;simp only[we]at c;have:=AeJ hr c;unfold Mr;cases op<;>simp only[uW]at i<;>first|(cases i;done)|exact this
  |false=>
   rw[i]at c;simp only[wg]at c;cases n:(k==K)with
   |false=>rw[n]at c;simp at c
   |true=>
    rw[n]at c;simp only[we]at c;have:=AcA hr c;have n:=wj.1 n;subst n;unfold Mr;cases op<;>simp only[uW]at i<;>first|(cases i;done)|(simp only[wk];exact this)
 case h_2=>
  rename_i a b;obtain rfl:=FC f;obtain rfl:=FC d;rw[j<|fun e=>by cases e];have:=AcT hr c;unfold Mr;cases op<;>exact this
 case h_3=>
  rename_i ps I;simp only[PR]at f d;obtain⟨xs,rfl,f⟩:=f;obtain⟨ys,rfl,d⟩:=d;rw[j<|fun e=>by cases e];split at c
  case h_2=>simp at c
  rename_i ks u;have eq:∀ {r:Bool},Hc ks ps I=some r->Bu C.T t (.agg xs) (.agg ys)=some r:=by
   intro r g;obtain⟨J,M,L⟩:=RM f d g;have:M5 (C.T.flat t) xs ys=some r:=by simp[M5,u,J,M,L]
   unfold Bu;split<;>first|exact this|(simp_all;done)
  split at c
  case h_1=>
   rename_i r g;simp only[AU]at c;obtain⟨rfl,rfl⟩:=c;exact OK.pure hr (by show Bx h ((Bu C.T t (.agg xs)<|.agg ys).map _)=_;rw[eq g];rfl)<|D2 _
  case h_2=>
   rename_i r g;simp only[AU]at c;obtain⟨rfl,rfl⟩:=c;exact OK.pure hr (by show Bx h ((Bu C.T t (.agg xs)<|.agg ys).map _)=_;rw[eq g];rfl)<|D2 _
  case h_3=>simp at c
 case h_4=>
  split at c
  case h_4=>simp at c
  case h_3=>
   rename_i e _ _ l;split at c
   case h_3=>simp at c
   case h_1=>
    rename_i r z;simp only[AU]at c;obtain⟨rfl,rfl⟩:=c;obtain⟨k1,k2,k3⟩:=RP hr l f d z;rw[j k2,k3];exact OK.pure hr (by simp only[k1];rfl)<|Iz _
   case h_2=>
    rename_i r z;simp only[AU]at c;obtain⟨rfl,rfl⟩:=c;obtain⟨k1,k2,k3⟩:=RP hr l f d z;rw[j k2,k3];exact OK.pure hr (by simp only[k1];rfl)<|Iz _
  case h_2=>
   rename_i e _ _ l;unfold jW at c;split at c
   case h_3=>simp at c
   case h_1=>
    have i:=Ze (op:=.eql) hr l f c;obtain⟨m,b,o,w,s,e⟩:=i;subst e;simp only[PR]at d;subst d;rw[j m,s];exact OK.pure hr (v':=.bool b) (by simp only[o];rfl) (by simpa using w)
   case h_2=>
    have i:=Ze (op:=.neq) hr l f c;obtain⟨m,b,o,w,s,e⟩:=i;subst e;simp only[PR]at d;subst d;rw[j m,s];exact OK.pure hr (v':=.bool<|!b) (by simp only[o];rfl) (by simpa using w)
  rename_i a b G E l;obtain rfl:=H8 G f;obtain rfl:=H8 E d;rw[j<|fun e=>by cases e];have eq:Bu C.T t (.bool a) (.bool b)=some (a==b):=by unfold Bu;rw[l]
  split at c
  case h_1=>
   simp only[AU]at c;obtain⟨rfl,rfl⟩:=c;exact OK.pure hr (by show Bx h ((Bu C.T t (.bool a)<|.bool b).map _)=_;rw[eq];rfl)<|D2 _
  case h_2=>
   simp only[AU]at c;obtain⟨rfl,rfl⟩:=c;exact OK.pure hr (by show Bx h ((Bu C.T t (.bool a)<|.bool b).map _)=_;rw[eq];rfl)<|D2 _
  case h_3=>simp at c
theorem AeG(hr:SR B h0 F ρ st.nx st.ob h){op:UnOp}{p:PV}{x:V}(c:PR F ρ st.nx p x){v:PV}(a:(pun op p st).To v st'):OK B h0 F ρ st h [] (Bx h<|dun op x) v st':=by
 unfold pun at a;split at a<;>simp only[Mj,AU]at a
 ·obtain⟨rfl,rfl⟩:=a;obtain rfl:=CU c;exact OK.pure hr rfl (Ds _ _)
 ·obtain⟨rfl,rfl⟩:=a;obtain rfl:=O8 c;exact OK.pure hr rfl (Iz _)
 ·obtain⟨rfl,rfl⟩:=a;simp only[PR]at c;obtain⟨b,rfl⟩:=c;exact OK.pure hr (v':=.bool<|!b) rfl (by simp[PR])
 ·obtain⟨rfl,rfl⟩:=a;obtain rfl:=HU c;exact OK.pure hr rfl (D2 _)
theorem Abu(hr:SR B h0 F ρ st.nx st.ob h){s d:TypeId}{p:PV}{x:V}(e:PR F ρ st.nx p x){v:PV}(a:(gB C.T s d p st).To v st'):OK B h0 F ρ st h [] (Bx h<|F9 C.T h s d x) v st':=by
 unfold gB at a;split at a<;>simp only[Mj,AU]at a
 ·rename_i b c;obtain⟨rfl,rfl⟩:=a;obtain rfl:=CU e;exact OK.pure hr (by simp[F9,b,c,Bx])<|Ds _ _
 ·rename_i b c;obtain⟨rfl,rfl⟩:=a;obtain rfl:=FC e;exact OK.pure hr (by simp[F9,b,c,Bx])<|Ki _
theorem AbH(hr:SR B h0 F ρ st.nx st.ob h){c a b:PV}{x y z:V}(g:PR F ρ st.nx c x)(f:PR F ρ st.nx a y)(e:PR F ρ st.nx b z){v:PV}(d:(oO c a b st).To v st'):
  ∃t,x=.bool t/\OK B h0 F ρ st h [] (Bx h<|some<|if t then y else z) v st':=by
 unfold oO at d;split at d
 case h_3=>simp at d
 case h_1=>
  rename_i t;simp only[AU]at d;obtain⟨rfl,rfl⟩:=d;refine⟨t,O8 g,OK.pure hr rfl ?_⟩;cases t<;>assumption
 case h_2=>
  rename_i t;refine⟨t,HU g,?_⟩;split at d
  case h_1=>
   simp only[AU]at d;obtain⟨rfl,rfl⟩:=d;obtain rfl:=HU f;obtain rfl:=O8 e;refine OK.pure hr rfl ?_;cases t<;>exact D2 _
  case h_2=>
   simp only[AU]at d;obtain⟨rfl,rfl⟩:=d;obtain rfl:=O8 f;obtain rfl:=HU e;refine OK.pure hr rfl ?_;cases t<;>exact D2 _
  case h_3=>
   cases d with
   |tt h=>simp only[AU]at h;obtain⟨rfl,rfl⟩:=h;exact OK.pure hr rfl f
   |ff h=>simp only[AU]at h;obtain⟨rfl,rfl⟩:=h;exact OK.pure hr rfl e
theorem tK(hr:SR B h0 F ρ st.nx st.ob h){t:TypeId}{p:PV}{x:V}(m:PR F ρ st.nx p x){f:Nat}{v:PV}(a:(XY C.T t p f st).To v st'):OK B h0 F ρ st h [] (Bx h<|Ks C.T t x f) v st':=by
 unfold XY at a;split at a
 case h_2=>simp at a
 rename_i fs ps n;split at a
 case h_2=>simp at a
 rename_i k c;split at a
 case h_2=>simp at a
 rename_i d i l o;simp only[K4]at a;obtain⟨b,rfl⟩:=a;simp only[PR]at m;obtain⟨cs,rfl,hps⟩:=m;rw[Mq]at b;have hp:=hps.drop k.offset;rcases Lo hp b with⟨j,_,q,g⟩|⟨j,u,r,e,g⟩
 ·exact OK.pure hr (by simp only[Ks,n,c,Lg,l,o,j,we,Bx]) g
 ·have:cs[k.offset]?=some u:=by
   have:=wi (·[0]?) e;simpa using this
  exact OK.pure hr (by simp only[Ks,n,c,Lg,l,o,j,wg,this,Bx]) g
theorem wF(hr:SR B h0 F ρ st.nx st.ob h){t:TypeId}{p:PV}{x:V}(l:PR F ρ st.nx p x){f:Nat}{v:PV}(a:(WO C.T t p f st).To v st'):
  OK B h0 F ρ st h [] (Bx h<|Kx C.T t x f) v st':=by
 have live:∀ {id},Is (st.obj id)=true->∃b n,ρ id=some (b,n):=by
  intro id u;obtain⟨o,z⟩:=Jb u;obtain⟨b,n,_,h1,_⟩:=hr.at z;exact⟨b,n,h1⟩
 unfold WO at a;split at a
 case h_2=>simp at a
 rename_i fs A;split at a
 case h_2=>simp at a
 rename_i w q;split at a
 case h_2=>simp at a
 rename_i i u;cases m:zg i.size 0 with
 |true=>rw[m]at a;simp at a
 |false=>
  have r:i.size≠0:=by intro e;rw[e]at m;cases m
  rw[m]at a;simp only[wg]at a;have d:∀b off,Kx C.T t (.ptr b off) f=some (.ptr b<|off+w.offset):=by
   intro b off;simp only[Kx,A,q,u,r,vg]
  split at a
  ·rename_i id off;cases g:Is (st.obj id)with
   |false=>rw[g]at a;simp at a
   |true=>
   rw[g]at a;simp only[we,AU]at a;obtain⟨rfl,rfl⟩:=a;have c:=l;simp only[PR]at c;obtain⟨b,n,h1⟩:=live g;obtain rfl:=c.2 b n h1;refine OK.pure hr (by rw[d];rfl) ?_;simp only[PR];exact⟨c.1,fun b' n' k=>by rw[h1]at k;cases k;rfl⟩
  ·rename_i id sz j off;cases g:Is (st.obj id)with
   |false=>rw[g]at a;simp at a
   |true=>
   rw[g]at a;simp only[we,AU]at a;obtain⟨rfl,rfl⟩:=a;have c:=l;simp only[PR]at c;obtain⟨b,n,h1⟩:=live g;obtain rfl:=c.2 b n h1;refine OK.pure hr (by rw[d];rfl) ?_;simp only[PR];exact⟨c.1,fun b' n' k=>by rw[h1]at k;cases k;simp[Nat.add_assoc]⟩
  ·rename_i s y off;simp only[AU]at a;obtain⟨rfl,rfl⟩:=a;simp only[PR]at l;obtain⟨b,o,cs,rfl,h1,h2⟩:=l;refine OK.pure hr (by rw[d];rfl) ?_;simp only[PR];exact⟨b,o,cs,by simp[Nat.add_assoc],h1,h2⟩
  ·simp at a
end
end Go.Pe
