import Derived.Test.YtlohiljbghionaaGreatDoorX06
import Derived.Test.YtlohiljbghionaaGreatDoorX04
import Derived.Test.YtlohiljbghionaaGreatDoorX05
import Derived.Shelf.Strings.OnBuilder
import Derived.Shelf.Strconv.Itoa3
import Derived.Lib.LaidTab
import Derived.Shelf.Strings.Repeat
import Derived.Lib.AppendIntMem
/- A part of a proof (no law is stated here). Made by program out of texts by AI agents. -/
noncomputable section
set_option maxRecDepth 100000
open Nat renaming eq_of_beq_eq_true -> zc, le_of_ble_eq_true -> zf, beq -> zg, lt_of_lt_of_le -> zl, mul_le_mul_right -> zu, ble -> zw, succ_mul -> zx, le_refl -> z6, blt -> ya, add -> yk, mul_one -> qe
open List renaming mem_singleton -> zd, getElem?_eq_none -> zi, getElem?_take_of_lt -> zj, mem_of_mem_drop -> zm, take_of_length_le -> zn, getElem?_drop -> zo, mem_of_mem_take -> zt, length_append -> yw, drop_take -> yx, ext_getElem? -> qf, all_eq_true -> qq
open Bool renaming and_eq_true -> ze
open Option.some renaming injEq -> zh
open Go.Proofs.Tryz renaming prog -> zk, underlying304 -> zy, underlying5 -> z7, underlying9 -> z8, underlying251 -> yb, underlying240 -> yc, underlying262 -> yd, underlying216 -> ye, underlying20 -> yf, zeroValue251 -> yg, zeroValue240 -> yh, zeroValue262 -> yi, zeroValue216 -> yj, underlying0 -> ym, underlying3 -> yn, underlying4 -> yo, underlying5 -> yp, underlying9 -> yq, zeroValue20 -> yr, underlying216 -> yu, underlying251 -> yv, zeroValue0 -> yy, zeroValue3 -> yz, zeroValue4 -> y7, zeroValue5 -> y8, zeroValue9 -> y9, zeroValue216 -> qc, sizeOf251 -> qg, sizeOf240 -> qh, sizeOf262 -> qi, sizeOf216 -> qj, sizeOf20 -> qk, isAgg251 -> ql, isAgg240 -> qm, isAgg262 -> qn, isAgg216 -> qo, sizeOf0 -> qt, sizeOf3 -> qu, sizeOf4 -> qv, sizeOf5 -> qw, sizeOf9 -> qx, isAgg20 -> qy
open Option renaming map_eq_some_iff -> zp
open Go.Lib renaming decDigits -> zq, nDigits -> zz, zeros24 -> qd
open Array renaming size_replicate -> zr, getElem?_append_left -> yt, toList_inj -> qp
open Go.Det.V renaming ok -> qz
open Go.Value renaming int -> q9
open Go.Det renaming CG -> jc
namespace Go.Det
section
open Go.Proofs.Tryz (prog)
def A7:CX:=[(8,[],.bool true)]
theorem Aar:A3 C72 1000 A7=true:=by kernel_rfl
theorem spA:LI prog (KM A7):=Z5 Abf eT Sw Aar
end
open Go.Proofs
def G1:Go.Shelf.Ren:=⟨fun|171=>211|243=>245|246=>270|283=>271|284=>272|285=>273|286=>274|129=>228|317=>284|318=>285|319=>286|320=>287|337=>291|338=>292|n=>n,fun|3=>3|9=>9|2=>2|4=>4|171=>304|0=>0|53=>216|37=>251|5=>5|173=>306|212=>320|51=>262|20=>20|213=>321|46=>240|232=>327|233=>328|n=>n,fun|17=>5|18=>8|19=>9|n=>n⟩
theorem HP:Go.Proofs.LaysM.n171 Go.Proofs.Tryz.prog G1:=
  { mixed:=by kernel_rfl,f129:=Go.Proofs.Tryz.func228.trans (wi some<|by kernel_rfl),f171:=Go.Proofs.Tryz.func211.trans (wi some<|by kernel_rfl),f243:=Go.Proofs.Tryz.func245.trans (wi some<|by kernel_rfl),f246:=Go.Proofs.Tryz.func270.trans (wi some<|by kernel_rfl),f283:=Go.Proofs.Tryz.func271.trans (wi some<|by kernel_rfl),f284:=Go.Proofs.Tryz.func272.trans (wi some<|by kernel_rfl),f285:=Go.Proofs.Tryz.func273.trans (wi some<|by kernel_rfl),f286:=Go.Proofs.Tryz.func274.trans (wi some<|by kernel_rfl),f317:=Go.Proofs.Tryz.func284.trans (wi some<|by kernel_rfl),f318:=Go.Proofs.Tryz.func285.trans (wi some<|by kernel_rfl),f319:=Go.Proofs.Tryz.func286.trans (wi some<|by kernel_rfl),f320:=Go.Proofs.Tryz.func287.trans (wi some<|by kernel_rfl),f337:=Go.Proofs.Tryz.func291.trans (wi some<|by kernel_rfl),f338:=Go.Proofs.Tryz.func292.trans (wi some<|by kernel_rfl),t0:=ym,a0:=Go.Proofs.Tryz.isAgg0,z0:=qt,v0:=yy,t2:=Go.Proofs.Tryz.underlying2,a2:=Go.Proofs.Tryz.isAgg2,z2:=Go.Proofs.Tryz.sizeOf2,v2:=Go.Proofs.Tryz.zeroValue2,t3:=yn,a3:=Go.Proofs.Tryz.isAgg3,z3:=qu,v3:=yz,t4:=yo,a4:=Go.Proofs.Tryz.isAgg4,z4:=qv,v4:=y7,t5:=yp,a5:=Go.Proofs.Tryz.isAgg5,z5:=qw,v5:=y8,t9:=yq,a9:=Go.Proofs.Tryz.isAgg9,z9:=qx,v9:=y9,t20:=yf,a20:=qy,z20:=qk,v20:=yr,t37:=yb,a37:=ql,z37:=qg,v37:=yg,t46:=yc,a46:=qm,z46:=qh,v46:=yh,t51:=yd,a51:=qn,z51:=qi,v51:=yi,t53:=ye,a53:=qo,z53:=qj,v53:=yj,t171:=Go.Proofs.Tryz.underlying304,a171:=Go.Proofs.Tryz.isAgg304,z171:=Go.Proofs.Tryz.sizeOf304,v171:=Go.Proofs.Tryz.zeroValue304,t173:=Go.Proofs.Tryz.underlying306,a173:=Go.Proofs.Tryz.isAgg306,z173:=Go.Proofs.Tryz.sizeOf306,v173:=Go.Proofs.Tryz.zeroValue306,t212:=Go.Proofs.Tryz.underlying320,a212:=Go.Proofs.Tryz.isAgg320,z212:=Go.Proofs.Tryz.sizeOf320,v212:=Go.Proofs.Tryz.zeroValue320,t213:=Go.Proofs.Tryz.underlying321,a213:=Go.Proofs.Tryz.isAgg321,z213:=Go.Proofs.Tryz.sizeOf321,t232:=Go.Proofs.Tryz.underlying327,a232:=Go.Proofs.Tryz.isAgg327,z232:=Go.Proofs.Tryz.sizeOf327,v232:=Go.Proofs.Tryz.zeroValue327,t233:=Go.Proofs.Tryz.underlying328,a233:=Go.Proofs.Tryz.isAgg328,z233:=Go.Proofs.Tryz.sizeOf328,v233:=Go.Proofs.Tryz.zeroValue328,g17:=by kernel_rfl,g18:=by kernel_rfl,g19:=by kernel_rfl,i0:=by kernel_rfl,i2:=by kernel_rfl,i3:=by kernel_rfl,i4:=by kernel_rfl,i5:=by kernel_rfl,i9:=by kernel_rfl,i20:=by kernel_rfl,i37:=by kernel_rfl,i46:=by kernel_rfl,i51:=by kernel_rfl,i53:=by kernel_rfl,i171:=by kernel_rfl,i173:=by kernel_rfl,i212:=by kernel_rfl,i232:=by kernel_rfl,i233:=by kernel_rfl,m17:=by kernel_rfl,m18:=by kernel_rfl,m19:=by kernel_rfl }
open Go.Proofs.Tryz (prog)
theorem Xr(s:Z):(bytesOf s).data.toList=s:=by simp[bytesOf]
def eqU:List V->List Int->Bool
 |[],[]=>true
 | .int .u64 n::l,m::r=>bif decide (n=m)then eqU l r else false
 |_,_=>false
theorem YA{p:Pl}:∀ {cs:List V} {r:List Int} {vs:List Value},eqU cs r=true->Av p cs vs->vs=r.map fun z=>q9 .u64 z
 |[],[],vs,_,h=>by simpa using h
 | .int .u64 n::l,m::r,vs,a,h=>by
  unfold eqU at a;cases b:decide (n=m)with
  |false=>rw[b]at a;cases a
  |true=>
   rw[b]at a;have e:=w6 b;subst e;cases vs with
   |nil=>simp at h
   |cons v vs=>
    simp only[Bi,Ac]at h;rw[h.1,YA a h.2];rfl
def SC(h:H):Bool:=match h.get 5 with
 |some (.cells cs _ _)=>eqU cs Lib.pow10Tab
 |_=>false
def YF:List V->H->Option (V×H)
 |[.int .i64 n],h=>bif SC h&&decide (-9223372036854775808<=n)&&decide (n<=9223372036854775807)then some (.str<|Lib.itoa n,h)else none
 |_,_=>none
def lK:X5:=fun f=>bif zg f 211 then some YF else none
theorem mL:∀ {cs:List V} {r:List Int},eqU cs r=true->cs.length=r.length/\∀d∈cs,d.ok=true
 |[],[],_=>⟨rfl,fun d a=>by cases a⟩
 | .int .u64 n::l,m::r,b=>by
  unfold eqU at b;cases a:decide (n=m)with
  |false=>rw[a]at b;cases b
  |true=>
   rw[a]at b;obtain⟨c,e⟩:=mL (cs:=l) (r:=r) b;refine⟨by simp[c],fun d a=>?_⟩;rcases List.mem_cons.1 a with rfl|a
   ·rfl
   ·exact e d a
theorem AaR : prog.globalNamed "internal/strconv.uint64pow10" = some 5 := by kernel_rfl
theorem at5{p:Pl}(a:Gp p):p[5]?=some (5,20):=a _<|List.mem_cons_self ..
theorem YW {p : Pl} {h : H} {w : World} (hr : R p h w) (i : Gp p) (a : SC h = true) : Lib.TabIs prog w "internal/strconv.uint64pow10" .u64 Lib.pow10Tab := by
 unfold SC at a;split at a
 case h_2=>cases a
 rename_i cs t fz j;obtain⟨r,n,x,e,g,c,fz',rfl,l,m,d,_⟩:=hr.obj 5 _ j;rw[at5 i]at e;cases e;obtain⟨e1,e2⟩:=mL a;have k:cs.length=20:=e1.trans rfl;have b:c.toList.take cs.length=c.toList:=zn (by simp;omega);rw[b]at d;have f:=YA a (d.Ol e2);unfold Lib.TabIs World.var?;rw[AaR];show(match w.heap[5]? with
  |some (.cells cs _ _)=>some cs
  |_=>none)=_
 rw[g];show some c=_;rw[<-f]
theorem kU:LI prog lK:=by
 intro f q c p h w args args' v h' hr m o a;unfold lK at c;cases d:zg f 211 with
 |false=>rw[d]at c;cases c
 |true=>
  rw[d]at c;cases c;cases zc d;unfold YF at a;split at a
  case h_2=>cases a
  rename_i n;cases b:(SC h&&decide (-9223372036854775808<=n)&&decide (n<=9223372036854775807))with
  |false=>rw[b]at a;cases a
  |true=>
   rw[b]at a;cases a;rw[ze,ze,w5,w5]at b;obtain⟨x,i,g⟩:=o.one;have:args'= #[x]:=qp.1 i;subst this;simp only[Ac]at g;subst g;refine(Any.strconv_Itoa HP n b.1.2 b.2 w<|YW hr m b.1.1).mono ?_;rintro e w' ⟨rfl,k,os,rfl⟩;exact⟨_,p,rfl,by simp only[Ac];rfl,Mx hr ⟨rfl,rfl,rfl,by show w.heap.size<=(w.heap++os).size;rw[Array.size_append];omega,fun j l=>by show(w.heap++os)[j]?=_;exact yt l⟩⟩
end Go.Det
namespace Go.Det
open Go.Proofs
def Ki:Go.Shelf.Ren:=⟨fun|105=>214|212=>251|99=>173|165=>252|166=>215|170=>253|169=>216|263=>275|264=>177|206=>204|240=>254|241=>276|276=>277|277=>288|n=>n,fun|9=>9|3=>3|4=>4|20=>20|0=>0|46=>240|109=>281|5=>5|72=>253|76=>214|51=>262|146=>295|53=>216|148=>217|70=>250|37=>251|75=>213|127=>284|164=>309|80=>226|n=>n,fun|n=>n⟩
theorem bI:Go.Proofs.Lays.n105 Go.Proofs.Tryz.prog Ki:=
  { mixed:=by kernel_rfl,f99:=Go.Proofs.Tryz.func173.trans (wi some<|by kernel_rfl),f105:=Go.Proofs.Tryz.func214.trans (wi some<|by kernel_rfl),f165:=Go.Proofs.Tryz.func252.trans (wi some<|by kernel_rfl),f166:=Go.Proofs.Tryz.func215.trans (wi some<|by kernel_rfl),f169:=Go.Proofs.Tryz.func216.trans (wi some<|by kernel_rfl),f170:=Go.Proofs.Tryz.func253.trans (wi some<|by kernel_rfl),f206:=Go.Proofs.Tryz.func204.trans (wi some<|by kernel_rfl),f212:=Go.Proofs.Tryz.func251.trans (wi some<|by kernel_rfl),f240:=Go.Proofs.Tryz.func254.trans (wi some<|by kernel_rfl),f241:=Go.Proofs.Tryz.func276.trans (wi some<|by kernel_rfl),f263:=Go.Proofs.Tryz.func275.trans (wi some<|by kernel_rfl),f264:=Go.Proofs.Tryz.func177.trans (wi some<|by kernel_rfl),f276:=Go.Proofs.Tryz.func277.trans (wi some<|by kernel_rfl),f277:=Go.Proofs.Tryz.func288.trans (wi some<|by kernel_rfl),t0:=ym,a0:=Go.Proofs.Tryz.isAgg0,z0:=qt,v0:=yy,t3:=yn,a3:=Go.Proofs.Tryz.isAgg3,z3:=qu,v3:=yz,t4:=yo,a4:=Go.Proofs.Tryz.isAgg4,z4:=qv,v4:=y7,t5:=yp,a5:=Go.Proofs.Tryz.isAgg5,z5:=qw,v5:=y8,t9:=yq,a9:=Go.Proofs.Tryz.isAgg9,z9:=qx,v9:=y9,t20:=yf,a20:=qy,z20:=qk,v20:=yr,t37:=yb,a37:=ql,z37:=qg,v37:=yg,t46:=yc,a46:=qm,z46:=qh,v46:=yh,t51:=yd,a51:=qn,z51:=qi,v51:=yi,t53:=ye,a53:=qo,z53:=qj,v53:=yj,t70:=Go.Proofs.Tryz.underlying250,a70:=Go.Proofs.Tryz.isAgg250,z70:=Go.Proofs.Tryz.sizeOf250,v70:=Go.Proofs.Tryz.zeroValue250,t72:=Go.Proofs.Tryz.underlying253,a72:=Go.Proofs.Tryz.isAgg253,z72:=Go.Proofs.Tryz.sizeOf253,v72:=Go.Proofs.Tryz.zeroValue253,t75:=Go.Proofs.Tryz.underlying213,a75:=Go.Proofs.Tryz.isAgg213,z75:=Go.Proofs.Tryz.sizeOf213,v75:=Go.Proofs.Tryz.zeroValue213,t76:=Go.Proofs.Tryz.underlying214,a76:=Go.Proofs.Tryz.isAgg214,z76:=Go.Proofs.Tryz.sizeOf214,v76:=Go.Proofs.Tryz.zeroValue214,t109:=Go.Proofs.Tryz.underlying281,a109:=Go.Proofs.Tryz.isAgg281,z109:=Go.Proofs.Tryz.sizeOf281,v109:=Go.Proofs.Tryz.zeroValue281,t127:=Go.Proofs.Tryz.underlying284,a127:=Go.Proofs.Tryz.isAgg284,z127:=Go.Proofs.Tryz.sizeOf284,v127:=Go.Proofs.Tryz.zeroValue284,t146:=Go.Proofs.Tryz.underlying295,a146:=Go.Proofs.Tryz.isAgg295,z146:=Go.Proofs.Tryz.sizeOf295,v146:=Go.Proofs.Tryz.zeroValue295,t148:=Go.Proofs.Tryz.underlying217,a148:=Go.Proofs.Tryz.isAgg217,z148:=Go.Proofs.Tryz.sizeOf217,v148:=Go.Proofs.Tryz.zeroValue217,t164:=Go.Proofs.Tryz.underlying309,a164:=Go.Proofs.Tryz.isAgg309,z164:=Go.Proofs.Tryz.sizeOf309,v164:=Go.Proofs.Tryz.zeroValue309 }
theorem sI:Builder.Extra zk Ki:=
  { sizeBuilder:=by kernel_rfl,liesBuilder:=by kernel_rfl,t5:=z7,a5:=Tryz.isAgg5,z5:=Tryz.sizeOf5,v5:=Tryz.zeroValue5,infoByte:=by kernel_rfl,cellsByte:=by kernel_rfl,sizeByte:=by kernel_rfl,neB5:=by decide }
open Go.Proofs.Tryz (prog)
def TC:List V->H->Option (V×H)
  |[.str s,.int .i64<|.ofNat c],h=>bif zw c 9223372036854775807&&zw (EP s*c) 140737488355328 then some (.str<|Lib.repeatL s c,h)else none
  |_,_=>none
def Tu:X5:=fun f=>bif zg f 214 then some TC else none
theorem X4:LI prog Tu:=by
  intro f q d p h w args args' v h' hr r n a
  unfold Tu at d
  cases i:zg f 214 with
  |false=>rw[i]at d;cases d
  |true=>
    rw[i]at d;cases d
    cases zc i
    unfold TC at a
    split at a
    case h_2=>cases a
    rename_i s c
    cases b:(zw c 9223372036854775807&&zw (EP s*c) 140737488355328)with
    |false=>rw[b]at a;cases a
    |true=>
      rw[b]at a;cases a
      rw[ze]at b
      have o:=zf b.1
      have j:=zf b.2
      rw[Da]at j
      obtain⟨x,y,m,l,k⟩:=n.two
      have:args'= #[x,y]:=qp.1 m
      subst this
      simp only[Ac]at l k;subst l k
      refine(Any.strings_Repeat bI sI (bytesOf s) c w o<|by rw[BK];exact j).mono ?_
      rintro e w' ⟨rfl,g⟩
      exact⟨_,p,rfl,by simp only[Ac];rw[Xr];rfl,Mx hr g⟩
end Go.Det
namespace Go.Proofs
open Go.Shelf Go.RowKit Go.Sort Go.Lib Go.Det
namespace FmtU
set_option maxHeartbeats 6400000 in
theorem small(i:Nat)(q:i<100)(w:World):Calls zk 250 #[.int .u64 i,.int .i64 10] w fun e w'=>e=.returned (.string ⟨(zq i).toArray⟩)/\w'=w:=by
 have mixed:=HP.mixed;have t3:=Tryz.underlying3;have a3:=Tryz.isAgg3;have z3:=Tryz.sizeOf3;have v3:=Tryz.zeroValue3;have t9:=z8;have a9:=Tryz.isAgg9;have z9:=Tryz.sizeOf9;have v9:=Tryz.zeroValue9;have t4:=Tryz.underlying4;have a4:=Tryz.isAgg4;have z4:=Tryz.sizeOf4;have v4:=Tryz.zeroValue4;have l:=yu;have d:=Tryz.isAgg216;have k:=Tryz.sizeOf216;have m:=qc;have p:=zy;have o:=Tryz.isAgg304;have n:=Tryz.sizeOf304;have j:=Tryz.zeroValue304;have t0:=Tryz.underlying0;have a0:=Tryz.isAgg0;have z0:=Tryz.sizeOf0;have v0:=Tryz.zeroValue0;have c:=yv;have b:=Tryz.isAgg251;have a:=Tryz.sizeOf251;have g:=Tryz.zeroValue251;have t5:=z7;have a5:=Tryz.isAgg5;have z5:=Tryz.sizeOf5;have v5:=Tryz.zeroValue5;have f:∀args w,(callFunc 271 args).run zk w=.ok (.enter 271 args) w:=enters_of Tryz.func271 (by kernel_rfl) rfl;go_enter Tryz.func250,Tryz.ntmps250
 go_wp2_with (go_at_fn 271;refine(Any.internal_strconv_small (ρ:=G1) { HP with } i q _).mono ?_;rintro e w' ⟨rfl,rfl⟩)
 go_ret
 exact⟨rfl,rfl⟩
set_option maxHeartbeats 6400000 in
theorem big (u : Nat) (O : 100 <= u) (a : u < 18446744073709551616) (w : World) (g : Lib.TabIs Tryz.prog w "internal/strconv.uint64pow10" .u64 Lib.pow10Tab) :
  Calls zk 250 #[.int .u64 u,.int .i64 10] w fun e w'=>e=.returned (.string ⟨(zq u).toArray⟩)/\∃k os,w'=grow (w.drewN k) os:=by
 have mixed:=HP.mixed;have t3:=Tryz.underlying3;have a3:=Tryz.isAgg3;have z3:=Tryz.sizeOf3;have v3:=Tryz.zeroValue3;have t9:=z8;have a9:=Tryz.isAgg9;have z9:=Tryz.sizeOf9;have v9:=Tryz.zeroValue9;have t4:=Tryz.underlying4;have a4:=Tryz.isAgg4;have z4:=Tryz.sizeOf4;have v4:=Tryz.zeroValue4;have A:=yu;have v:=Tryz.isAgg216;have z:=Tryz.sizeOf216;have D:=qc;have J:=zy;have I:=Tryz.isAgg304;have G:=Tryz.sizeOf304;have y:=Tryz.zeroValue304;have t0:=Tryz.underlying0;have a0:=Tryz.isAgg0;have z0:=Tryz.sizeOf0;have v0:=Tryz.zeroValue0;have s:=yv;have r:=Tryz.isAgg251;have q:=Tryz.sizeOf251;have x:=Tryz.zeroValue251;have t5:=z7;have a5:=Tryz.isAgg5;have z5:=Tryz.sizeOf5;have v5:=Tryz.zeroValue5;have t:∀args w,(callFunc 272 args).run zk w=.ok (.enter 272 args) w:=enters_of Tryz.func272 (by kernel_rfl) rfl;have E:∀args w,(callFunc 273 args).run zk w=.ok (.enter 273 args) w:=enters_of Tryz.func273 (by kernel_rfl) rfl;have l:1<=u:=by omega
 have p:zz u<=20:=by have:=Lib.numDigits_eq u l a;split at this<;>omega
 have i:zk.arrayLen 304=24:=by simp[Program.arrayLen,zy]
 have L:∀W,(Instr.sliceAt 304 (.pointer (some ⟨w.heap.size,0,none⟩)) none (some (.int .i64 (zz u:Int))) none).run zk W=.ok (.slice (some ⟨w.heap.size,0,none⟩) (zz u) 24) W:=fun W=>by
  rw[run_sliceAt_array_h W 304 ⟨w.heap.size,0,none⟩ (by simp[Program.arrayLen,Program.elem,zy]) .i64 (zz u:Int) (by omega) (by rw[i];omega)];go_simp
 have d:=Lib.holds_zero0 w 304 (zz u) (by omega);have c:=Any.internal_strconv_formatBase10 (ρ:=G1) (P:=zk) { HP with } w.heap.size 0 24 u (Array.replicate (zz u) 0) (w.alloc (.cells qd 304)) d (by rw[zr];exact Lib.lt_pow_nDigits u) a (by rw[zr];omega);rw[zr]at c;have n:=Lib.hid d;have Q:(100:Int)<=(u:Int):=by omega
 clear d i;go_enter Tryz.func250,Tryz.ntmps250
 go_wp2_with (first
  |(go_at_fn 272;refine(Any.internal_strconv_numDigits (ρ:=G1) { HP with } u l a _ (Lib.tabIs_alloc g _)).mono ?_;rintro e w' ⟨rfl,rfl⟩))
 go_at_fn 273
 refine c.mono ?_;rintro e w' ⟨rfl,k,v',f,rfl,o⟩;have K:(convert 251 9 (.slice (some ⟨w.heap.size,0,none⟩) (zz u) 24)).run zk ((putRow (fun(b:UInt8)=>q9 .u8 (b.toNat:Int)) (w.alloc (.cells qd 304)) w.heap.size 0 f).drewN k)=.ok (.string ⟨(zq u).toArray⟩) ((putRow (fun(b:UInt8)=>q9 .u8 (b.toNat:Int)) (w.alloc (.cells qd 304)) w.heap.size 0 f).drewN k):=by
  have h:=run_convert_bytes_back (P:=zk) ((putRow (fun(b:UInt8)=>q9 .u8 (b.toNat:Int)) (w.alloc (.cells qd 304)) w.heap.size 0 f).drewN k) 251 9 5 ⟨w.heap.size,0,none⟩ 24 (zq u) yv z7 z8 (fun j m=>by
   rw[Lib.row_is_numeral o j m,Lib.add_plain,World.cell?_drewN];exact cell?_putRow (fun(b:UInt8)=>q9 .u8 (b.toNat:Int)) _ w.heap.size 0 _ f n.out (by rw[o.size,zr]) j (by rw[o.size];rw[Lib.decDigits_length]at m;exact m))
  rw[Lib.decDigits_length]at h;exact h
 go_wp2
 go_ret
 obtain⟨os,M⟩:=Lib.fin_at w (.cells qd 304) f k 0;exact⟨rfl,k,os,M⟩
theorem all (u : Nat) (a : u < 18446744073709551616) (w : World) (b : Lib.TabIs Tryz.prog w "internal/strconv.uint64pow10" .u64 Lib.pow10Tab) :
  Calls zk 250 #[.int .u64 u,.int .i64 10] w fun e w'=>e=.returned (.string ⟨(zq u).toArray⟩)/\∃k os,w'=grow (w.drewN k) os:=by
 by_cases h:u<100
 ·exact(small u h w).mono fun e w' ⟨c,d⟩=>⟨c,0, #[],by rw[d];simp[World.drewN_zero]⟩
 ·exact big u (by omega) a w b
theorem outer (u : Nat) (a : u < 18446744073709551616) (w : World) (b : Lib.TabIs Tryz.prog w "internal/strconv.uint64pow10" .u64 Lib.pow10Tab) :
  Calls zk 213 #[.int .u64 u,.int .i64 10] w fun e w'=>e=.returned (.string ⟨(zq u).toArray⟩)/\∃k os,w'=grow (w.drewN k) os:=by
 have mixed:=HP.mixed;have t3:=Tryz.underlying3;have a3:=Tryz.isAgg3;have z3:=Tryz.sizeOf3;have v3:=Tryz.zeroValue3;have t9:=z8;have a9:=Tryz.isAgg9;have z9:=Tryz.sizeOf9;have v9:=Tryz.zeroValue9;have c:=yu;have f:=Tryz.isAgg216;have i:=Tryz.sizeOf216;have d:=qc;have g:∀args w,(callFunc 250 args).run zk w=.ok (.enter 250 args) w:=enters_of Tryz.func250 (by kernel_rfl) rfl;go_enter Tryz.func213,Tryz.ntmps213
 go_wp2_with (go_at_fn 250;refine(all u a _ b).mono ?_;rintro e w' ⟨rfl,k,os,rfl⟩)
 go_ret
 exact⟨rfl,k,os,rfl⟩
end FmtU
end Go.Proofs
namespace Go.Det
open Go.Proofs
open Go.Proofs.Tryz (prog)
def fmtQ:List V->H->Option (V×H)
 |[.int .u64<|.ofNat n,.int .i64<|.ofNat b],h=>bif SC h&&(zw n 18446744073709551615&&zg b 10)then some (.str<|zq n,h)else none
 |_,_=>none
def fmtS:X5:=fun f=>bif zg f 213 then some fmtQ else none
theorem yC:LI prog fmtS:=by
 intro f q c p h w args args' v h' hr m o a;unfold fmtS at c;cases g:zg f 213 with
 |false=>rw[g]at c;cases c
 |true=>
  rw[g]at c;cases c;cases zc g;unfold fmtQ at a;split at a
  case h_2=>cases a
  rename_i n b;cases d:(SC h&&(zw n 18446744073709551615&&zg b 10))with
  |false=>rw[d]at a;cases a
  |true=>
   rw[d]at a;cases a;rw[ze,ze]at d;obtain⟨r,i,s⟩:=d;have i:=zf i;cases zc s;obtain⟨x,y,hl,g1,g2⟩:=o.two;have:args'= #[x,y]:=qp.1 hl;subst this;simp only[Ac]at g1 g2;subst g1 g2;refine(FmtU.outer n (by omega) w<|YW hr m r).mono ?_;rintro e w' ⟨rfl,k,os,rfl⟩;exact⟨_,p,rfl,by simp only[Ac];rfl,Mx hr ⟨rfl,rfl,rfl,by show w.heap.size<=(w.heap++os).size;rw[Array.size_append];omega,fun j l=>by show(w.heap++os)[j]?=_;exact yt l⟩⟩
end Go.Det
namespace Go.Pe
open Go.Det
@[reducible] def By:List Sh->Sh
 |[]=>.unit
 |[a]=>a
 |a::b::l=>.pair a<|By (b::l)
def Ae:(l:List Sh)->(By l).T->List PV
 |[],_=>[]
 |[a],x=>[Cm a x]
 |a::b::l,x=>Cm a x.1::Ae (b::l) x.2
structure Am where
 ins:List Sh
 pre:(By ins).T->Bool
 outs:List Sh
 f:(By ins).T->(By outs).T
 nd:Bool:=false
def Sh.sc:Sh->Bool
 | .int _| .bool| .str| .unit| .fnv=>true
 | .list _| .nlist _| .ptr _=>false
 | .pair a b=>a.sc&&b.sc
structure Za where
 ins:List Sh
 ty:TypeId
 el:Sh
 pre:(By ins).T->List el.T->Bool
 g:(By ins).T->List el.T->List el.T
structure AV where
 C:Ctx
 sp:FuncId->Option Am
 pl:FuncId->Nat->List Nat
 ct:FuncId->Nat->Bool
 fz:FuncId->Nat->List (Nat×Sh)
 ws:FuncId->Option Za:=fun _=>none
 esc:List FuncId:=[]
 escOk:∀g∈esc,C.prim g=some PK.noEsc.run:=by intro g h;cases h
def EC(st:AM)(s:Sh)(p:PV):Option (Bool×s.T):=
 bif Mr p==s.Q4 then
  match Dk st p.cells with
  |some (c,cs)=>match Dq s (Lf s.leaves cs).2 with
   |some x=>some ((Lf s.leaves cs).1&&c,x)
   |none=>none
  |none=>none
 else none
def Dx(st:AM):(l:List Sh)->List PV->Option (Bool×(By l).T)
 |[],[]=>some (true,())
 |[a],[p]=>EC st a p
 |a::b::l,p::ps=>match EC st a p,Dx st (b::l) ps with
  |some (c,x),some (d,y)=>some (c&&d,(x,y))
  |_,_=>none
 |_,_=>none
def one:List PV->PV
 |[v]=>v
 |l=>.tup l
def qF(sp:Am)(args:List PV)(st:AM)(k:PV->AM->Tr):Tr:=
 match Dx st sp.ins args with
 |some (c,i)=>.ite (c&&sp.pre i) (k (one<|Ae sp.outs<|sp.f i)<|bif sp.outs.all Sh.sc then st else Bv (args.flatMap PV.cells) st) .fail
 |none=>.fail
def WX(w:Za)(args:List PV)(st:AM)(k:PV->AM->Tr):Tr:=
 match args.reverse with
 | .sl id sz 0 n none::r=>match Dx st w.ins r.reverse,(Bv (r.reverse.flatMap PV.cells) st).obj id with
  |some (c,i),some (.arr false t s l)=>bif zg t w.ty then
    match DT (.list s) (.list w.el) l with
    |some l'=>.ite (c&&w.pre i l'&&decide (n=List.length (α:=w.el.T) l')&&zg sz w.el.sz) (k (.tup [])<|(Bv (r.reverse.flatMap PV.cells) st).setObj id<|.arr false w.ty w.el<|w.g i l') .fail
    |none=>.fail
   else .fail
  |_,_=>.fail
 | .nil::r=>match Dx st w.ins r.reverse with
  |some (c,i)=>.ite (c&&w.pre i []) (k (.tup [])<|Bv (r.reverse.flatMap PV.cells) st) .fail
  |none=>.fail
 |_=>.fail
mutual
def Ae7:PV->List Nat
 | .ptr id _| .eptr id _ _ _| .sl id _ _ _ _| .mp id| .yl id=>[id]
 | .agg l| .tup l=>Kc l
 | .fn _ a b=>Kc a++Kc b
 |_=>[]
def Kc:List PV->List Nat
 |[]=>[]
 |v::vs=>Ae7 v++Kc vs
end
def AdF:Obj->List Nat
 | .box cs=>Kc cs
 | .tbox _ cs=>Kc cs
 | .lp _ _ _ _ _ _ _ sl=>Kc (sl.map (·.2))
 |_=>[]
def Jn(st:AM)(base:Nat):Nat->List Nat->List Nat->List Nat
 |0,_,acc=>acc
 |_+1,[],acc=>acc
 |f+1,i::a,acc=>bif ya i base||acc.any (zg i)then Jn st base f a acc
  else match st.obj i with
   |some o=>Jn st base f (a++AdF o)<|acc++[i]
   |none=>Jn st base f a acc
def Pg(base:Nat):List Nat->Nat->Nat->Option Nat
 |[],_,i=>bif ya i base then some i else none
 |j::a,n,i=>bif zg i j then some n else Pg base a (yk n 1) i
mutual
def GA(f:Nat->Option Nat):PV->PV
 | .ptr i o=>match f i with|some j=>.ptr j o|none=>.any
 | .eptr i a b c=>match f i with|some j=>.eptr j a b c|none=>.any
 | .sl i a b c d=>match f i with|some j=>.sl j a b c d|none=>.any
 | .mp i=>match f i with|some j=>.mp j|none=>.any
 | .yl i=>match f i with|some j=>.yl j|none=>.any
 | .agg l=>.agg<|Kk f l
 | .tup l=>.tup<|Kk f l
 | .fn g a b=>.fn g (Kk f a)<|Kk f b
 |v=>v
def Kk(f:Nat->Option Nat):List PV->List PV
 |[]=>[]
 |v::vs=>GA f v::Kk f vs
end
def SL(f:Nat->Option Nat):Obj->Obj
 | .box cs=>.box<|Kk f cs
 | .tbox t cs=>.tbox t<|Kk f cs
 | .lp g r ps asg body s n sl=>.lp g r ps asg body s n<|sl.map fun x=>(x.1,GA f x.2)
 |o=>o
def low(f:Nat->Option Nat)(base:Nat):Ob->Ob
 |[]=>[]
 |(i,o)::l=>bif ya i base then(i,SL f o)::low f base l else low f base l
def kept(st:AM)(f:Nat->Option Nat):List Nat->Nat->Ob->Ob
 |[],_,a=>a
 |j::b,n,a=>match st.obj j with
  |some o=>kept st f b (yk n 1) ((n,SL f o)::a)
  |none=>kept st f b (yk n 1) a
def Qh(base:Nat):Ob->List Nat
 |[]=>[]
 |(i,o)::l=>bif ya i base then AdF o++Qh base l else Qh base l
def Aw(n:Nat)(vs:List (Nat×PV))(ob:Ob)(nx:Nat):AM:=⟨n,FY vs,ob,nx⟩
def canon(base:Nat)(L:List Nat)(st:AM):AM:=
 let vs:=L.map fun t=>(t,st.get t)
 let a:=Jn st base 100 (Kc (vs.map (·.2))++Qh base st.ob) []
 let f:=Pg base a base
 Aw st.n (vs.map fun x=>(x.1,GA f x.2)) (kept st f a base<|low f base st.ob) (yk base a.length)
def rB(base:Nat)(x:Nat×Sh)(st:AM):AM:=
 match st.get x.1 with
 | .nil=>st.set x.1<|.dat (.list x.2) []
 | .sl id sz off len _=>match st.obj id with
  |some (.arr _ e s l)=>bif zg sz s.sz then(st.setObj id<|.arr true e s l).set x.1 (.dat (.list s)<|(l.drop off).take len)else st
  |_=>st
 | .ptr id 0=>bif zw base id then match st.obj id with
   |some (.box ps)=>match Dq x.2 ps with
    |some v=>(st.OP id).set x.1<|.Bx x.2 v 0
    |none=>st
   |_=>st
  else st
 |_=>st
def vX(base:Nat):List (Nat×Sh)->AM->AM
 |[],st=>st
 |x::l,st=>vX base l<|rB base x st
def DD:Code->Nat
 | .region id _ _=>id
 | .seq a _=>DD a
 | .block _ b=>DD b
 | .loop b=>DD b
 | .scope b=>DD b
 |_=>0
def QJ(X:AV)(f:FuncId)(r:Nat)(base:Nat)(st:AM):AM:=canon base (X.pl f r)<|vX base (X.fz f r) st
inductive Cal where
 |fn (g:FuncId)
 |rnd (id:Nat)
abbrev Gi:=Cal->List PV->AM->(PV->AM->Tr)->Tr
def Pv(d:Option Nat)(k:AM->Tr):PO->Tr
 | .bad=>.fail
 | .val v st=>match st.put d v with
  |some st'=>k st'
  |none=>.fail
 | .ite c a b=>.ite c (Pv d k a)<|Pv d k b
inductive CK where
 |no
 |bad
 |yes (g:Cal) (args:List PV)
def KQ(st:AM)(o:Op):CK:=
 match o with
 | .call c=>match c.callee with
  | .value f=>match Q6 st f,MW st c.args.toList with
   |some (.fn (.func g) first cap),some args=>.yes (.fn g)<|first++args++cap
   |some (.yl id),some args=>.yes (.rnd id) args
   |_,_=>.bad
  |_=>.no
 |_=>.no
def HK(T:Cc)(call:Gi)(o:Oper)(st:AM)(k:AM->Tr):Tr:=
 match KQ st o.op with
 | .yes g args=>call g args st fun v st=>match st.put o.dst v with
  |some st'=>k st'
  |none=>.fail
 | .bad=>.fail
 | .no=>Pv o.dst k<|pop o.op T st
def T6(T:Cc)(st:AM)(o:Op):Option (PV×AM):=
 match o with
 | .convert s d x=>match T.und s,T.und d,Q6 st x with
  |some .string,some<|.slice e,some (.dat .str l)=>match T.und e with
   |some (.int .u8)=>some (.sl st.nx 1 0 (List.length l) none,st.push<|.arr false e (.int .u8)<|List.map (fun b:UInt8=>(b.toNat:Int)) l)
   |_=>none
  |_,_,_=>none
 |_=>none
def Abl(T:Cc)(st:AM)(o:Op):Option PV:=
 match o with
 | .convert s d x=>match T.und s,T.und d,Q6 st x with
  |some (.pointer t),some .unsafePointer,some (.ptr id off)=>match T.inf t,st.obj id with
   |some i,some (.tbox _ cs)=>bif ya 0 i.size&&ya off (EP cs)then some (.ptr id off)else none
   |_,_=>none
  |some .unsafePointer,some<|.pointer u,some (.ptr id off)=>match T.inf u,st.obj id with
   |some i,some (.tbox e cs)=>bif ya 0 i.size&&zw i.size (EP cs)&&zg e u&&zg off 0 then some (.ptr id 0)else none
   |_,_=>none
  |_,_,_=>none
 |_=>none
def Yd(T:Cc)(st:AM)(o:Op):Option (PV×AM):=
 match T6 T st o with
 |some r=>some r
 |none=>match Abl T st o with
  |some v=>some (v,st)
  |none=>none
def zA(T:Cc)(call:Gi)(o:Oper)(st:AM)(k:AM->Tr):Tr:=
 match Yd T st o.op with
 |some (v,b)=>match b.put o.dst v with
  |some a=>k a
  |none=>.fail
 |none=>HK T call o st k
def guarded(ops:Array Oper)(o:Oper)(st:AM)(yes no:AM->Tr):Tr:=
 match o.guard with
 |none=>yes st
 |some (j,a)=>match (ops[j]?).bind (·.dst)with
  |some t=>bif ya t st.n then(match st.get t with
   | .bl b=>bif b==a then yes st else no st
   | .dat .bool b=>bif a then .ite b (yes<|st.set t<|.bl true) (no<|st.set t<|.bl false)else .ite b (no<|st.set t<|.bl true)<|yes<|st.set t<|.bl false
   | .tup _=>no st
   | .ub=>.both (bif a then yes (st.set t<|.bl true)else no<|st.set t<|.bl true)<|bif a then no (st.set t<|.bl false)else yes<|st.set t<|.bl false
   |_=>.fail)else .fail
  |none=>.fail
def M5(o:Oper)(k:AM->Tr)(st:AM):Tr:=
 match st.put o.dst (.tup [])with
 |some st'=>k st'
 |none=>.fail
def prun(T:Cc)(call:Gi)(ops:Array Oper):List Oper->AM->(AM->Tr)->Tr
 |[],st,k=>k st
 |o::a,st,k=>guarded ops o st
   (fun st=>zA T call o st fun st'=>prun T call ops a st' k)
   (fun st=>M5 o (fun st'=>prun T call ops a st' k) st)
def tX(st:AM)(o:Op):Option (List Nat):=
 match o with
 | .load _ x=>match Q6 st x with
  |some (.ptr id _)|some (.eptr id _ _ _)=>some [id]
  |some (.Bx _ _ _)=>some []
  |_=>none
 | .convert _ _ x=>match Q6 st x with
  |some (.dat (.int _) _)|some (.dat .str _)=>some []
  |_=>none
 | .call c=>match c.callee,MW st c.args.toList with
  | .builtin .len,some [.dat _ _]| .builtin .len,some [.sl _ _ _ _ _]| .builtin .len,some [.nil]=>some []
  | .builtin .len,some [.mp id]=>some [id]
  |_,_=>none
 | .lookup _ x _ _=>match Q6 st x with
  |some (.mp id)=>some [id]
  |some .nilm=>some []
  |_=>none
 |_=>none
def Hi(sp:FuncId->Option Am)(st:AM)(o:Op):Option (List Nat):=
 match o with
 | .store _ x _=>match Q6 st x with
  |some (.ptr id _)|some (.eptr id _ _ _)=>some [id]
  |_=>none
 | .mapUpdate _ x _ _| .insert _ x _ _=>match Q6 st x with
  |some (.mp id)=>some [id]
  |_=>none
 | .makeMap _ _| .makeSlice _ _ _=>some []
 | .call c=>match c.callee with
  | .value f=>match Q6 st f with
   |some (.fn (.func g) _ _)=>match sp g with
    |some _=>some []
    |none=>none
   |_=>none
  | .builtin .append=>match MW st c.args.toList with
   |some (.sl id _ _ _ _::_)=>some [id]
   |some _=>some []
   |none=>none
  | .builtin .delete=>match MW st c.args.toList with
   |some (.mp id::_)=>some [id]
   |_=>none
  | .builtin .unsafeString=>match MW st c.args.toList with
   |some (.eptr id _ _ _::_)=>some [id]
   |_=>none
  |_=>none
 |_=>none
abbrev Rs:=List<|Nat×Option (List Nat)
def eJ:Option (List Nat)->Option (List Nat)->Bool
 |some a,some b=>a.all fun i=> !(b.any<|zg i)
 |some [],none=>true
 |_,_=>false
def Mp(st:AM):Option (List Nat)->Bool
 |some l=>l.all fun i=>IC<|st.obj i
 |none=>false
def apart(anc:Nat->Nat->Bool)(i:Nat)(st:AM)(t:Option (List Nat))(a:Rs):Bool:=a.all fun r=>anc i r.1||(eJ r.2 t&&Mp st r.2)
def behind(st:AM)(t:Option (List Nat))(a:Rs):Rs:=a.map fun r=>bif eJ r.2 t&&Mp st r.2 then r else(r.1,none)
def jT(st:AM)(o:Op):Bool:=match KQ st o with
 | .yes (.rnd _) _=>false
 |_=>true
def Ko(T:Cc)(sp:FuncId->Option Am)(call:Gi)(ops:Array Oper)(anc:Nat->Nat->Bool):List Nat->AM->Rs->(AM->Tr)->Tr
 |[],st,_,k=>k st
 |i::b,st,a,k=>match ops[i]? with
  |none=>.fail
  |some o=>guarded ops o st
    (fun st=>bif EB o then HK T call o st (fun st'=>Ko T sp call ops anc b st' (bif QX o then(i,tX st o.op)::a else a) k)
     else bif CB o then HK T call o st (fun st'=>Ko T sp call ops anc b st' a k)
     else bif apart anc i st (Hi sp st o.op) a&&jT st o.op then HK T call o st (fun st'=>Ko T sp call ops anc b st' (behind st (Hi sp st o.op) a) k)else .fail)
    (fun st=>bif CT o then(bif apart anc i st (some []) a then M5 o (fun st'=>Ko T sp call ops anc b st' (behind st (some []) a) k) st else .fail)
     else M5 o (fun st'=>Ko T sp call ops anc b st' a k) st)
def exec(X:AV)(call c:Gi)(nd ro:Bool)(d:Nat)(f:FuncId)(base:Nat):Code->AM->(DX->AM->Tr)->Tr
 | .skip,st,k| .label _,st,k=>k .normal st
 | .region _ ops dr,st,k=>bif dr then(bif !ro||Is ops (E9 ops)then Ko X.C.T X.sp c ops (E9 ops).a (E9 ops).ord st [] (k .normal)else .fail)else prun X.C.T call ops ops.toList st<|k .normal
 | .seq a b,st,k=>exec X call c nd ro d f base a st fun e st'=>match e with
  | .normal=>bif X.ct f (DD b)then .cut nd ro d f base b (QJ X f (DD b) base st') k else exec X call c nd ro d f base b st' k
  |e=>k e st'
 | .cond x a b,st,k=>match Q6 st x with
  |some (.bl t)=>bif t then exec X call c nd ro d f base a st k else exec X call c nd ro d f base b st k
  |some (.dat .bool t)=>match x with
   | .tmp s=>.ite t (exec X call c nd ro d f base a (st.set s<|.bl true) k)<|exec X call c nd ro d f base b (st.set s<|.bl false) k
   |_=>.ite t (exec X call c nd ro d f base a st k)<|exec X call c nd ro d f base b st k
  |some .ub=>match x with
   | .tmp s=>.both (exec X call c nd ro d f base a (st.set s<|.bl true) k)<|exec X call c nd ro d f base b (st.set s<|.bl false) k
   |_=>.fail
  |_=>.fail
 | .block id b,st,k=>exec X call c nd ro d f base b st fun e st'=>match e with
  | .exit i=>bif zg i id then k .normal st' else k e st'
  |e=>k e st'
 | .loop b,st,k=>.loop nd ro d f base b (QJ X f (DD b) base st) k
 | .exit i,st,k=>k (.exit i) st
 | .ret,st,k=>k .ret st
 | .scope b,st,k=>exec X call c nd ro d f base b st k
 |_,_,_=>.fail
def oH(T:Cc)(st:AM):ResultVar->Option PV
 | .tmp t=>some<|st.get t
 | .cell a t=>match Nt T st t (st.get a)with
  | .val v _=>some v
  | .ID _ v _=>some v
  |_=>none
def LU(T:Cc)(st:AM):List ResultVar->List Bool
 |[]=>[]
 | .tmp _::b=>LU T st b
 | .cell a t::b=>match Nt T st t (st.get a)with
  | .ID c _ _=>c::LU T st b
  |_=>LU T st b
def Pn:List Bool->Tr->Tr
 |[],t=>t
 |c::cs,t=>.ite c (Pn cs t) .fail
def pS(T:Cc)(st:AM):List ResultVar->Option (List PV)
 |[]=>some []
 |r::a=>match oH T st r,pS T st a with
  |some v,some vs=>some (v::vs)
  |_,_=>none
def Ez:List PV->Nat->List (Nat×PV)
 |[],_=>[]
 |v::vs,i=>(i,v)::Ez vs (yk i 1)
def enter(X:AV)(call a:Gi)(nd:Bool)(d:Nat)(f:FuncId)(args:List PV)(st:AM)(k:PV->AM->Tr):Tr:=
 match X.C.fn f with
 |none=>.fail
 |some i=>bif i.cert then
   exec X call a nd false d f st.nx i.body (Aw (yk args.length<|Nat.sub i.ntmps args.length) (Ez args 0) st.ob st.nx) fun e s=>match e with
    | .exit _=>.fail
    |_=>match pS X.C.T s i.results.toList with
     |some vs=>Pn (LU X.C.T s i.results.toList)<|k (one vs) ⟨st.n,st.fr,s.ob,s.nx⟩
     |none=>.fail
  else .fail
def Nr:List Tmp->List PV->AM->AM
 |t::ts,v::vs,st=>Nr ts vs<|bif ya t st.n then st.set t v else st
 |_,_,st=>st
def mG(X:AV)(call a:Gi)(nd:Bool)(d:Nat)(id:Nat)(args:List PV)(st:AM)(k:PV->AM->Tr):Tr:=
 match st.obj id with
 |some (.lp f _ ps asg b .ready n sl)=>bif zg args.length ps.size then
   exec X call a nd true d f st.nx asg (Nr ps.toList args<|Aw n sl st.ob st.nx) fun e s=>match e with
   | .normal=>match s.obj id with
    |some (.lp w x o l v .ready n1 p)=>
     exec X call a nd true d f st.nx b (s.setObj id<|.lp w x o l v .busy n1 p) fun u s2=>
      match s2.obj id with
      |some (.lp q m j c r _ t g)=>match u with
       | .normal=>k (.bl true) ⟨st.n,st.fr,(s2.setObj id<|.lp q m j c r .ready t g).ob,s2.nx⟩
       | .ret=>k (.bl false) ⟨st.n,st.fr,(s2.setObj id<|.lp q m j c r .ret t g).ob,s2.nx⟩
       | .exit i=>k (.bl false) ⟨st.n,st.fr,(s2.setObj id<|.lp q m j c r (.exit i) t g).ob,s2.nx⟩
      |_=>.fail
    |_=>.fail
   |_=>.fail
  else .fail
 |_=>.fail
def Adq(args:List PV)(st:AM)(k:PV->AM->Tr):Tr:=
 match args with
 |[.ptr id off]=>bif IC (st.obj id)then k (.ptr id off) st else .fail
 |_=>.fail
def CC(X:AV)(nd:Bool):Nat->Gi
 |0=>fun _ _ _ _=>.fail
 |d+1=>fun c args st k=>match c with
  | .fn g=>match X.sp g with
   |some sp=>bif nd|| !sp.nd then qF sp args st k else .fail
   |none=>match X.ws g with
    |some w=>WX w args st k
    |none=>bif X.esc.any (zg g)then Adq args st k else match X.C.prim g,X.C.spec g with
     |none,none=>enter X (CC X nd d) (CC X false d) nd d g args st k
     |_,_=>.fail
  | .rnd _=>.fail
def oA:PV->Bool
 | .dat _ _| .Bx _ _ _| .bl _| .nil=>true
 |_=>false
def Vx(v:PV):Bool:=v.cells.all oA
def zV:PV->Bool
 | .tup a=>a.all Vx
 |v=>Vx v
def gcO(v:PV)(ob:Ob):Ob:=bif zV v then[]else ob
def tree(X:AV)(nd:Bool)(d:Nat)(f:FuncId)(args:List PV):Tr:=
 enter X (CC X nd d) (CC X false d) nd d f args (Aw 0 [] [] 0) fun v st=>.leaf v<|gcO v st.ob
def body(X:AV)(nd ro:Bool)(d:Nat)(f:FuncId)(base:Nat)(b:Code)(st:AM)(k:DX->AM->Tr):Tr:=
 exec X (CC X nd d) (CC X false d) nd ro d f base b st fun e st'=>match e with
  | .normal=>.loop nd ro d f base b (QJ X f (DD b) base st') k
  |e=>k e st'
def AS(X:AV)(nd ro:Bool)(d:Nat)(f:FuncId)(base:Nat)(b:Code)(st:AM)(k:DX->AM->Tr):Tr:=exec X (CC X nd d) (CC X false d) nd ro d f base b st k
inductive Ev (X:AV) (Q:PV->Ob->Prop):Nat->Tr->Prop where
 |leaf {n:Nat} {v:PV} {ob:Ob}:Q v ob->Ev X Q n (.leaf v ob)
 |ite {n:Nat} {c:Bool} {a b:Tr}:(c=true->Ev X Q n a)->(c=false->Ev X Q n b)->Ev X Q n (.ite c a b)
 |both {n:Nat} {a b:Tr}:Ev X Q n a->Ev X Q n b->Ev X Q n (.both a b)
 |cut {n:Nat} {nd ro:Bool} {d:Nat} {f:FuncId} {base:Nat} {b:Code} {st:AM} {k:DX->AM->Tr}:Ev X Q n (AS X nd ro d f base b st k)->Ev X Q n (.cut nd ro d f base b st k)
 |alts {n m:Nat} {f:Nat->Tr}:(∀i,i<m->Ev X Q n (f i))->Ev X Q n (.alts m f)
 |loop {n:Nat} {nd ro:Bool} {d:Nat} {f:FuncId} {base:Nat} {b:Code} {st:AM} {k:DX->AM->Tr}:Ev X Q n (body X nd ro d f base b st k)->Ev X Q (n+1) (.loop nd ro d f base b st k)
abbrev Fz:=Nat->Option (List V)
abbrev Ex:=Nat->Option (Nat×Nat)
def DC(F:Fz):(s:Sh)->s.T->List V->Prop
 | .int k,x,cs=>cs=[.int k x]
 | .bool,x,cs=>cs=[.bool x]
 | .str,x,cs=>cs=[.str x]
 | .list s,l,cs=>∃v,cs=[v]/\((l=[]/\(v=.nils\/v=.esl\/v=.es0))\/
   ∃b off cap o e,v=.sl b off l.length cap o/\l.length<=cap/\F b=some e/\off+l.length*s.sz<=e.length/\(o=0\/o=s.sz)/\
    ∀i (h:i<l.length),DC F s l[i]<|(e.drop<|off+i*s.sz).take s.sz)
 | .pair a b,x,cs=>∃c d,cs=c++d/\DC F a x.1 c/\DC F b x.2 d
 | .unit,_,cs=>cs=[]
 | .fnv,x,cs=>cs=[match (x:Option Fn)with|some f=>.fn f [] []|none=>.nilf]
 | .ptr s,x,cs=>∃b o e,cs=[.ptr b o]/\F b=some e/\o+s.sz<=e.length/\DC F s x ((e.drop o).take s.sz)
 | .nlist s,l,cs=>∃v,cs=[v]/\((l=[]/\v=.nils)\/(l≠[]/\
   ∃b off cap o e,v=.sl b off l.length cap o/\l.length<=cap/\F b=some e/\off+l.length*s.sz<=e.length/\(o=0\/o=s.sz)/\
    ∀i (h:i<l.length),DC F s l[i]<|(e.drop<|off+i*s.sz).take s.sz))
theorem DC.len{F:Fz}:∀ {s:Sh} {x:s.T} {cs:List V},DC F s x cs->cs.length=s.sz
 | .int _,_,_,h=>by simp only[DC]at h;subst h;rfl
 | .bool,_,_,h=>by simp only[DC]at h;subst h;rfl
 | .str,_,_,h=>by simp only[DC]at h;subst h;rfl
 | .list _,_,_,h=>by simp only[DC]at h;obtain⟨v,rfl,_⟩:=h;rfl
 | .pair a b,x,_,h=>by
  simp only[DC]at h;obtain⟨c,d,rfl,f,e⟩:=h;rw[yw,f.len,e.len];rfl
 | .unit,_,_,h=>by simp only[DC]at h;subst h;rfl
 | .nlist _,_,_,h=>by simp only[DC]at h;obtain⟨v,rfl,_⟩:=h;rfl
 | .fnv,_,_,h=>by simp only[DC]at h;subst h;rfl
 | .ptr _,_,_,h=>by simp only[DC]at h;obtain⟨b,o,g,rfl,_⟩:=h;rfl
theorem DC.ok{F:Fz}:∀ {s:Sh} {x:s.T} {cs:List V},DC F s x cs->∀v∈cs,v.ok=true
 | .int _,_,_,h=>by simp only[DC]at h;subst h;simp[qz]
 | .bool,_,_,h=>by simp only[DC]at h;subst h;simp[qz]
 | .str,_,_,h=>by simp only[DC]at h;subst h;simp[qz]
 | .list s,_,_,h=>by
  simp only[DC]at h;obtain⟨v,rfl,⟨_,rfl|rfl|rfl⟩|⟨b,off,cap,o,f,rfl,_⟩⟩:=h<;>simp[qz]
 | .pair a b,x,_,h=>by
  simp only[DC]at h;obtain⟨c,d,rfl,i,g⟩:=h;intro v e;rcases List.mem_append.1 e with e|e
  ·exact i.ok v e
  ·exact g.ok v e
 | .unit,_,_,h=>by simp only[DC]at h;subst h;simp
 | .fnv,x,_,h=>by simp only[DC]at h;subst h;intro v e;rw[zd.1 e];cases (x:Option Fn)<;>rfl
 | .nlist s,_,_,h=>by
  simp only[DC]at h;obtain⟨v,rfl,⟨_,rfl⟩|⟨_,b,off,cap,o,f,rfl,_⟩⟩:=h<;>simp[qz]
 | .ptr _,_,_,h=>by simp only[DC]at h;obtain⟨b,o,f,rfl,_⟩:=h;simp[qz]
theorem DC.mono{F F':Fz}(e:∀b cs,F b=some cs->F' b=some cs):∀ {s:Sh} {x:s.T} {cs:List V},DC F s x cs->DC F' s x cs
 | .int _,_,_,h=>by simpa only[DC]using h
 | .bool,_,_,h=>by simpa only[DC]using h
 | .str,_,_,h=>by simpa only[DC]using h
 | .list s,l,_,h=>by
  simp only[DC]at h ⊢;obtain⟨v,rfl,h⟩:=h;refine⟨v,rfl,?_⟩;rcases h with h|⟨b,off,cap,o,k,g,f,m,j,p,n⟩
  ·exact .inl h
  ·exact .inr ⟨b,off,cap,o,k,g,f,e _ _ m,j,p,fun i q=>(n i q).mono e⟩
 | .pair a b,x,_,h=>by
  simp only[DC]at h ⊢;obtain⟨c,d,rfl,g,f⟩:=h;exact⟨c,d,rfl,g.mono e,f.mono e⟩
 | .unit,_,_,h=>by simpa only[DC]using h
 | .fnv,_,_,h=>by simpa only[DC]using h
 | .ptr s,x,_,h=>by
  simp only[DC]at h ⊢;obtain⟨b,o,k,g,f,m,j⟩:=h;exact⟨b,o,k,g,e _ _ f,m,j.mono e⟩
 | .nlist s,l,_,h=>by
  simp only[DC]at h ⊢;obtain⟨v,rfl,h⟩:=h;refine⟨v,rfl,?_⟩;rcases h with h|⟨h0,b,off,cap,o,k,g,f,m,j,p,n⟩
  ·exact .inl h
  ·exact .inr ⟨h0,b,off,cap,o,k,g,f,e _ _ m,j,p,fun i q=>(n i q).mono e⟩
theorem DC.nl{F:Fz}{s:Sh}{l:List s.T}{cs:List V}(h:DC F (.nlist s) l cs):DC F (.list s) l cs:=by
 simp only[DC]at h ⊢;obtain⟨v,rfl,h⟩:=h;rcases h with⟨rfl,rfl⟩|⟨_,h⟩
 ·exact⟨_,rfl,.inl ⟨rfl,.inl rfl⟩⟩
 ·exact⟨_,rfl,.inr h⟩
theorem DC.nl'{F:Fz}{s:Sh}{l:List s.T}{cs:List V}(h:DC F (.list s) l cs)(h0:0<l.length):DC F (.nlist s) l cs:=by
 have a:l≠[]:=by rintro rfl;simp at h0
 simp only[DC]at h ⊢;obtain⟨v,rfl,h⟩:=h;rcases h with⟨rfl,_⟩|h
 ·exact wh rfl a
 ·exact⟨_,rfl,.inr ⟨a,h⟩⟩
mutual
def PR(F:Fz)(ρ:Ex)(N:Nat):PV->V->Prop
 | .any,_=>True
 | .bl b,v=>v=.bool b
 | .ub,v=>∃b,v=.bool b
 | .dat s x,v=>DC F s x [v]
 | .nil,v=>v=.nils
 | .nilp,v=>v=.nilp
 | .nilm,v=>v=.nilm
 | .nilf,v=>v=.nilf
 | .nili,v=>v=.nili
 | .agg l,v=>∃cs,v=.agg cs/\Bf F ρ N l cs
 | .tup l,v=>∃cs,v=.tup cs/\Bf F ρ N l cs
 | .ptr id off,v=>id<N/\∀b n,ρ id=some (b,n)->v=.ptr b off
 | .eptr id sz i off,v=>id<N/\∀b n,ρ id=some (b,n)->v=.ptr b (i*sz+off)
 | .Bx s x off,v=>∃b o cs,v=.ptr b (o+off)/\F b=some cs/\o+s.sz<=cs.length/\DC F s x ((cs.drop o).take s.sz)
 | .sl id sz off len cap,v=>id<N/\∀b n,ρ id=some (b,n)->
   (len<=cap.getD len/\off+cap.getD len<=n/\∃o,(o=0\/o=sz)/\v=.sl b (off*sz) len (cap.getD len) o)\/
   (len=0/\cap=some 0/\off<=n/\(v=.esl\/∃c,v=.sl b c 0 0 0/\c<=off*sz))
 | .mp id,v=>id<N/\∀b n,ρ id=some (b,n)->v=.map b
 | .fn f first captured,v=>∃a b,v=.fn f a b/\Bf F ρ N first a/\Bf F ρ N captured b
 | .yl id,v=>id<N/\∀b n,ρ id=some (b,n)->v=.yld b
def Bf(F:Fz)(ρ:Ex)(N:Nat):List PV->List V->Prop
 |[],l=>l=[]
 |p::ps,l=>∃v vs,l=v::vs/\PR F ρ N p v/\Bf F ρ N ps vs
end
section
variable {F F':Fz}{ρ ρ':Ex}{N N':Nat}
@[simp] theorem Cf(l:List V):Bf F ρ N [] l↔l=[]:=by simp[Bf]
@[simp] theorem A4(p:PV)(ps:List PV)(v:V)(vs:List V):Bf F ρ N (p::ps) (v::vs)↔PR F ρ N p v/\Bf F ρ N ps vs:=by
 simp only[Bf];constructor
 ·rintro⟨_,_,h,a,b⟩;cases h;exact⟨a,b⟩
 ·rintro⟨a,b⟩;exact⟨v,vs,rfl,a,b⟩
theorem Bf.len:∀ {ps:List PV} {vs:List V},Bf F ρ N ps vs->ps.length=vs.length
 |[],vs,h=>by simp at h;simp[h]
 |p::ps,vs,h=>by
  simp only[Bf]at h;obtain⟨v,vs,rfl,_,a⟩:=h;simp[a.len]
theorem Bf.append:∀ {a:List PV} {x:List V} {b:List PV} {y:List V},Bf F ρ N a x->Bf F ρ N b y->Bf F ρ N (a++b) (x++y)
 |[],x,b,y,h,h'=>by simp at h;subst h;simpa using h'
 |p::ps,x,b,y,h,h'=>by
  simp only[Bf]at h;obtain⟨v,vs,rfl,c,d⟩:=h;simp only[List.cons_append,A4];exact⟨c,d.append h'⟩
theorem Bf.drop:∀ {a:List PV} {x:List V} (n:Nat),Bf F ρ N a x->Bf F ρ N (a.drop n) (x.drop n)
 |[],x,n,h=>by simp at h;subst h;simp
 |p::ps,x,0,h=>by simpa using h
 |p::ps,x,n+1,h=>by
  simp only[Bf]at h;obtain⟨v,vs,rfl,c,b⟩:=h;simpa using b.drop n
theorem Bf.take:∀ {a:List PV} {x:List V} (n:Nat),Bf F ρ N a x->Bf F ρ N (a.take n) (x.take n)
 |[],x,n,h=>by simp at h;subst h;simp
 |p::ps,x,0,h=>by simp
 |p::ps,x,n+1,h=>by
  simp only[Bf]at h;obtain⟨v,vs,rfl,b,c⟩:=h;simpa using⟨b,c.take n⟩
theorem Bf.get:∀ {a:List PV} {x:List V},Bf F ρ N a x->∀ {i:Nat} {p:PV},a[i]?=some p->∃v,x[i]?=some v/\PR F ρ N p v
 |[],x,h,i,p,hp=>by simp at hp
 |q::ps,x,h,i,p,hp=>by
  simp only[Bf]at h;obtain⟨v,vs,rfl,b,c⟩:=h;cases i with
  |zero=>simp at hp;subst hp;exact⟨v,rfl,b⟩
  |succ i=>simp at hp;simpa using c.get hp
structure Le(F:Fz)(ρ:Ex)(N:Nat)(F':Fz)(ρ':Ex)(N':Nat):Prop where
 fz:∀b cs,F b=some cs->F' b=some cs
 rho:∀id,id<N->ρ' id=ρ id\/ρ' id=none
 n:N<=N'
theorem Le.refl:Le F ρ N F ρ N:=⟨fun _ _ h=>h,fun _ _=>.inl rfl,z6 _⟩
theorem Le.trans{f:Fz}{d:Ex}{g:Nat}(a:Le F ρ N F' ρ' N')(b:Le F' ρ' N' f d g):Le F ρ N f d g:=
 ⟨fun c cs h=>b.fz c cs<|a.fz c cs h,fun id h=>by
  rcases b.rho id (zl h a.n)with e|e
  ·rw[e];exact a.rho id h
  ·exact .inr e,Nat.le_trans a.n b.n⟩
theorem Le.at(b:Le F ρ N F' ρ' N'){id:Nat}(h:id<N){x:Nat×Nat}(a:ρ' id=some x):ρ id=some x:=by
 rcases b.rho id h with e|e
 ·rw[<-e];exact a
 ·rw[e]at a;cases a
mutual
theorem PR.mono(c:Le F ρ N F' ρ' N'):∀ {p:PV} {v:V},PR F ρ N p v->PR F' ρ' N' p v
 | .any,_,_=>by simp[PR]
 | .bl _,_,h=>by simpa only[PR]using h
 | .ub,_,h=>by simpa only[PR]using h
 | .dat s x,_,h=>by simp only[PR]at h ⊢;exact h.mono c.fz
 | .nil,_,h| .nilp,_,h| .nilm,_,h| .nilf,_,h| .nili,_,h=>by simpa only[PR]using h
 | .agg l,_,h=>by simp only[PR]at h ⊢;obtain⟨cs,rfl,e⟩:=h;exact⟨cs,rfl,e.mono c⟩
 | .tup l,_,h=>by simp only[PR]at h ⊢;obtain⟨cs,rfl,e⟩:=h;exact⟨cs,rfl,e.mono c⟩
 | .ptr _ _,_,h=>by simp only[PR]at h ⊢;exact⟨zl h.1 c.n,fun b n d=>h.2 b n<|c.at h.1 d⟩
 | .eptr _ _ _ _,_,h=>by simp only[PR]at h ⊢;exact⟨zl h.1 c.n,fun b n d=>h.2 b n<|c.at h.1 d⟩
 | .Bx s x off,_,h=>by
  simp only[PR]at h ⊢;obtain⟨b,o,cs,e,g,j,i⟩:=h;exact⟨b,o,cs,e,c.fz _ _ g,j,i.mono c.fz⟩
 | .sl _ _ _ _ _,_,h=>by simp only[PR]at h ⊢;exact⟨zl h.1 c.n,fun b n d=>h.2 b n<|c.at h.1 d⟩
 | .mp _,_,h=>by simp only[PR]at h ⊢;exact⟨zl h.1 c.n,fun b n d=>h.2 b n<|c.at h.1 d⟩
 | .fn f a b,_,h=>by
  simp only[PR]at h ⊢;obtain⟨x,y,rfl,e,g⟩:=h;exact⟨x,y,rfl,e.mono c,g.mono c⟩
 | .yl _,_,h=>by simp only[PR]at h ⊢;exact⟨zl h.1 c.n,fun b n d=>h.2 b n<|c.at h.1 d⟩
theorem Bf.mono(a:Le F ρ N F' ρ' N'):∀ {ps:List PV} {vs:List V},Bf F ρ N ps vs->Bf F' ρ' N' ps vs
 |[],_,h=>by simpa using h
 |p::ps,_,h=>by
  simp only[Bf]at h ⊢;obtain⟨v,vs,rfl,b,c⟩:=h;exact⟨v,vs,rfl,b.mono a,c.mono a⟩
end
theorem PR.lz:∀ {p:PV} {v:V},PR F ρ N p v->PR F ρ N (lz p) v:=by
 intro p v h;unfold Pe.lz;split
 ·simp only[PR]at h ⊢;exact h.nl
 ·exact h
theorem Bf.lz:∀ {ps:List PV} {vs:List V},Bf F ρ N ps vs->Bf F ρ N (ps.map Pe.lz) vs
 |[],_,h=>by simpa using h
 |p::ps,_,h=>by
  simp only[Bf]at h;obtain⟨v,vs,rfl,a,b⟩:=h;simp only[List.map_cons,A4];exact⟨a.lz,b.lz⟩
theorem dQ{s:Sh}{p:PV}{v:V}(h:PR F ρ N p v)(a:(Wd s p).1=true):PR F ρ N (Wd s p).2 v:=by
 unfold Wd at a ⊢;split
 ·rename_i s b x;cases c:(s==b)with
  |false=>exact h
  |true=>
   have a:(bif s==b then(decide (0<List.length x),PV.dat b.nlist x)else(true,PV.dat b.list x)).1=true:=a;rw[c]at a;simp only[we,w5]at a;simp only[PR,we]at h ⊢;exact h.nl' a
 ·rename_i s b x;cases c:(s==b)with
  |false=>exact h
  |true=>simp only[PR,we]at h ⊢;exact h.nl
 ·exact h
theorem RM:∀ {l:List Sh} {ps:List PV} {vs:List V},Bf F ρ N ps vs->(Lf l ps).1=true->Bf F ρ N (Lf l ps).2 vs
 |[],ps,vs,h,_=>h
 |s::l,[],vs,h,_=>h
 |s::l,p::ps,vs,h,a=>by
  simp only[Bf]at h;obtain⟨v,vs,rfl,b,c⟩:=h;simp only[Lf,ze]at a;simp only[Lf,A4];exact⟨dQ b a.1,RM c a.2⟩
def Ey(F:Fz)(s:Sh)(l:List s.T)(cs:List V):Prop:=cs.length=l.length*s.sz/\∀i (h:i<l.length),DC F s l[i]<|(cs.drop<|i*s.sz).take s.sz
theorem Ey.mono(c:∀b cs,F b=some cs->F' b=some cs){s:Sh}{l:List s.T}{cs:List V}(h:Ey F s l cs):Ey F' s l cs:=⟨h.1,fun i a=>(h.2 i a).mono c⟩
theorem Ey.ok{F:Fz}{s:Sh}{l:List s.T}{cs:List V}(h:Ey F s l cs):∀v∈cs,v.ok=true:=by
 intro v d;obtain⟨k,c⟩:=List.mem_iff_getElem?.1 d;have a:=(List.getElem?_eq_some_iff.1 c).1;have b:0<s.sz:=by
  rcases Nat.eq_zero_or_pos s.sz with e|e
  ·rw[h.1,e,Nat.mul_zero]at a;omega
  ·exact e
 have f:k/s.sz<l.length:=Nat.div_lt_of_lt_mul (by rw[Nat.mul_comm, <-h.1];exact a);refine(h.2 _ f).ok v ?_;refine List.mem_iff_getElem?.2 ⟨k % s.sz,?_⟩;rw[zj<|Nat.mod_lt _ b,zo,show k/s.sz*s.sz+k % s.sz=k from by rw[Nat.mul_comm];exact Nat.div_add_mod _ _];exact c
def DV(F:Fz)(s:Sh)(x:s.T)(v:V):Prop:=(s.Q4=true->∃cs,v=.agg cs/\DC F s x cs)/\(s.Q4=false->DC F s x [v])
theorem DV.mono(a:∀b cs,F b=some cs->F' b=some cs){s:Sh}{x:s.T}{v:V}(h:DV F s x v):DV F' s x v:=
 ⟨fun e=>by obtain⟨cs,c,d⟩:=h.1 e;exact⟨cs,c,d.mono a⟩,fun e=>(h.2 e).mono a⟩
inductive MR (F:Fz) (ks vs:Sh):List (ks.T×vs.T)->List (V×V×Nat)->Prop where
 |nil:MR F ks vs [] []
 |cons {k:ks.T} {v:vs.T} {l:List (ks.T×vs.T)} {a b:V} {n:Nat} {es:List (V×V×Nat)}:DV F ks k a->DV F vs v b->MR F ks vs l es->MR F ks vs ((k,v)::l) ((a,b,n)::es)
theorem MR.mono(a:∀b cs,F b=some cs->F' b=some cs){ks vs:Sh}{l:List (ks.T×vs.T)}{es:List (V×V×Nat)}(h:MR F ks vs l es):MR F' ks vs l es:=by
 induction h with
 |nil=>exact .nil
 |cons c d _ e=>exact .cons (c.mono a) (d.mono a) e
def SB(sl:List (Nat×PV))(t:Nat):PV:=((FY sl).get t).getD .any
def LpR:LpS->LoopState->Option Code->Prop
 | .ready,st,a=>st=.ready/\a=none
 | .busy,st,_=>st=.busy
 | .ret,st,a=>st=.done/\a=some .ret
 | .exit i,st,a=>st=.done/\a=some (.exit i)
def YE(F:Fz)(ρ:Ex)(N n:Nat):Obj->O->Prop
 | .arr _ e s l,o=>∃cs fz,o=.cells cs e fz/\Ey F s l cs/\fz.2<=fz.1/\l.length=n
 | .box ps,o=>∃cs t fz,o=.cells cs t fz/\Bf F ρ N ps cs/\fz.2<=fz.1/\∀v∈cs,v.ok=true
 | .tbox t ps,o=>∃cs fz,o=.cells cs t fz/\Bf F ρ N ps cs/\fz.2<=fz.1/\∀v∈cs,v.ok=true
 | .map ks vs l,o=>∃es a,o=.map es a/\MR F ks vs l es
 | .siter s pos,o=>o=.siter s pos
 | .lp _ _ ps asg body s n' sl,o=>∃ls,o=.loop ls/\ls.ps=ps/\ls.asg=asg/\ls.body=body/\LpR s ls.st ls.pend/\ls.fr.n=n'/\∀t,PR F ρ N (SB sl t)<|ls.fr.get t
theorem YE.mono(d:Le F ρ N F' ρ' N'){n:Nat}{x:Obj}{o:O}(h:YE F ρ N n x o):YE F' ρ' N' n x o:=by
 cases x with
 |arr fz e s l=>obtain⟨cs,f,b,a,c⟩:=h;exact⟨cs,f,b,a.mono d.fz,c⟩
 |box ps=>obtain⟨cs,t,f,b,a,c⟩:=h;exact⟨cs,t,f,b,a.mono d,c⟩
 |tbox t ps=>obtain⟨cs,f,b,a,c⟩:=h;exact⟨cs,f,b,a.mono d,c⟩
 |map ks vs l=>obtain⟨es,g,b,a⟩:=h;exact⟨es,g,b,a.mono d.fz⟩
 |siter s pos=>exact h
 |lp f r ps asg body s n sl=>obtain⟨ls,b,a,c,k,j,i,m⟩:=h;exact⟨ls,b,a,c,k,j,i,fun t=>(m t).mono d⟩
def Obj.frozen:Obj->Bool
 | .arr fz _ _ _=>fz
 |_=>false
structure H0 where
 h:H
 F:Fz
 pin:List Nat
 ex:Nat->Prop:=fun _=>False
def H0.pins(h0:H0)(ps:List Nat):H0:={ h0 with pin:=ps++h0.pin }
def H0.bE(h0:H0)(B b:Nat):Prop:=B<=b\/h0.ex b
theorem N1{h0:H0}{B b c:Nat}(h:h0.bE B b)(d:c<B)(a:¬h0.ex c):c≠b:=by
 rintro rfl;rcases h with h|h
 ·omega
 ·exact a h
structure SR(B:Nat)(h0:H0)(F:Fz)(ρ:Ex)(N:Nat)(ob:Ob)(h:H):Prop where
 obj:∀id o,AP ob id=some o->∃b n x,ρ id=some (b,n)/\h.get b=some x/\YE F ρ N n o x/\(o.frozen=false->F b=none)/\
  (o.frozen=true->∃cs t fz,x=.cells cs t fz/\F b=some cs)
 inj:∀id id' o o' b n n',AP ob id=some o->AP ob id'=some o'->ρ id=some (b,n)->ρ id'=some (b,n')->id=id'
 frz:∀b cs,F b=some cs->∃t fz,h.get b=some (.cells cs t fz)
 own:∀id b n,ρ id=some (b,n)->id<N/\h0.bE B b
 dead:∀id,AP ob id=none->ρ id=none
 old:∀b,b<B->¬h0.ex b->h.get b=h0.h.get b
 lt:∀b o,h.get b=some o->b<h.nx
 le:B<=h.nx
 fo:∀b cs,F b=some cs->h0.F b=some cs\/h0.bE B b
 gl:∀x∈GC,x.1<B/\¬h0.ex x.1/\h0.h.get x.1=some x.2
 pn:∀b∈h0.pin,h.get b=some (.defd true)/\B<=b/\∀id n,ρ id≠some (b,n)
structure FP(F:Fz)(ρ:Ex)(N:Nat)(st:AM)(fr:Fr):Prop where
 n:st.n=fr.n
 slot:∀t,PR F ρ N (st.get t) (fr.get t)
theorem FP.mono(a:Le F ρ N F' ρ' N'){st:AM}{fr:Fr}(h:FP F ρ N st fr):FP F' ρ' N' st fr:=⟨h.n,fun t=>(h.slot t).mono a⟩
end
section
variable {B:Nat}{h0:H0}{F:Fz}{ρ:Ex}{N:Nat}
mutual
theorem ZS:∀ {v:Value} {p:PV},NT v=some p->∃x,cv v=some x/\PR F ρ N p x
 | .bool b,p,h=>by simp[NT]at h;subst h;exact⟨_,rfl,by simp[PR]⟩
 | .int k n,p,h=>by simp[NT]at h;subst h;exact⟨_,rfl,by simp[PR,DC]⟩
 | .string s,p,h=>by simp[NT]at h;subst h;exact⟨_,rfl,by simp[PR,DC]⟩
 | .pointer none,p,h=>by simp[NT]at h;subst h;exact⟨_,rfl,by simp[PR]⟩
 | .pointer (some a),p,h=>by simp[NT]at h
 | .slice none 0 0,p,h=>by simp[NT]at h;subst h;exact⟨_,rfl,by simp[PR]⟩
 | .slice none 0 (_+1),p,h=>by simp[NT]at h
 | .slice none (_+1) _,p,h=>by simp[NT]at h
 | .slice (some a) _ _,p,h=>by simp[NT]at h
 | .map none,p,h=>by simp[NT]at h;subst h;exact⟨_,rfl,by simp[PR]⟩
 | .map (some a),p,h=>by simp[NT]at h
 | .nilFunc,p,h=>by simp[NT]at h;subst h;exact⟨_,rfl,by simp[PR]⟩
 | .nilIface,p,h=>by simp[NT]at h;subst h;exact⟨_,rfl,by simp[PR]⟩
 | .func f ⟨[]⟩ ⟨[]⟩,p,h=>by simp[NT]at h;subst h;exact⟨_,rfl,by simp[PR]⟩
 | .func f ⟨_::_⟩ _,p,h=>by simp[NT]at h
 | .func f ⟨[]⟩ ⟨_::_⟩,p,h=>by simp[NT]at h
 | .agg ⟨cs⟩,p,h=>by
  simp only[NT,zp]at h;obtain⟨xs,c,rfl⟩:=h;obtain⟨ys,h2,h3⟩:=OQ c;exact⟨.agg ys,by simp[cv,h2],by simp only[PR];exact⟨ys,rfl,h3⟩⟩
 | .tuple ⟨cs⟩,p,h=>by
  simp only[NT,zp]at h;obtain⟨xs,c,rfl⟩:=h;obtain⟨ys,h2,h3⟩:=OQ c;exact⟨.tup ys,by simp[cv,h2],by simp only[PR];exact⟨ys,rfl,h3⟩⟩
 | .float _ _,p,h=>by simp[NT]at h
 | .complex _ _ _,p,h=>by simp[NT]at h
 | .chan _,p,h=>by simp[NT]at h
 | .iface _ _,p,h=>by simp[NT]at h
theorem OQ:∀ {vs:List Value} {ps:List PV},cG vs=some ps->∃xs,zQ vs=some xs/\Bf F ρ N ps xs
 |[],ps,h=>by simp[cG]at h;subst h;exact⟨[],rfl,by simp⟩
 |v::vs,ps,h=>by
  unfold cG at h;split at h
  case h_2=>cases h
  rename_i x xs b d;cases h;obtain⟨y,c,a⟩:=ZS b;obtain⟨ys,g3,g4⟩:=OQ d;exact⟨y::ys,by simp[zQ,c,g3],by simp[a,g4]⟩
end
theorem uK(v:V):PR F ρ N (Yu v) v:=by
 cases v<;>simp[Yu,PR,DC]
theorem EM:∀vs:List V,Bf F ρ N (vs.map Yu) vs
 |[]=>by simp
 |v::vs=>by simp only[List.map_cons,A4];exact⟨uK v,EM vs⟩
variable {C:Ctx}{st st':AM}{fr:Fr}{h:H}
theorem Co(b:FP F ρ N st fr){x:Operand}{p:PV}(a:Q6 st x=some p):∃v,ev C fr x=some v/\PR F ρ N p v:=by
 cases x with
 |tmp t=>simp only[Q6,zh]at a;subst a;exact⟨_,rfl,b.slot t⟩
 |const v=>exact ZS a
 |global g=>simp[Q6]at a
 |func f=>simp only[Q6,zh]at a;subst a;exact⟨_,rfl,by simp[PR]⟩
theorem Fu(b:FP F ρ N st fr):∀ {xs:List Operand} {ps:List PV},MW st xs=some ps->∃vs,RH C fr xs=some vs/\Bf F ρ N ps vs
 |[],ps,a=>by simp[MW]at a;subst a;exact⟨[],rfl,by simp⟩
 |x::xs,ps,a=>by
  unfold MW at a;split at a
  case h_2=>cases a
  rename_i v vs d f;cases a;obtain⟨y,e,c⟩:=Co (C:=C) b d;obtain⟨ys,g3,g4⟩:=Fu b f;exact⟨y::ys,by simp[RH,e,g3],by simp[c,g4]⟩
inductive PRn (F:Fz) (ρ:Ex) (N:Nat):List (Nat×PV)->List (Nat×V)->Prop
 |nil:PRn F ρ N [] []
 |cons {i:Nat} {p:PV} {v:V} {l:List (Nat×PV)} {l':List (Nat×V)}:PR F ρ N p v->PRn F ρ N l l'->PRn F ρ N ((i,p)::l) ((i,v)::l')
theorem Ql(b:FP F ρ N st fr):∀ {xs:List (Nat×Operand)} {ps:List (Nat×PV)},aO st xs=some ps->∃vs,Ye C fr xs=some vs/\PRn F ρ N ps vs
 |[],ps,a=>by simp[aO]at a;subst a;exact⟨[],rfl,.nil⟩
 |(i,x)::xs,ps,a=>by
  unfold aO at a;split at a
  case h_2=>cases a
  rename_i v vs d f;cases a;obtain⟨y,e,c⟩:=Co (C:=C) b d;obtain⟨ys,g3,g4⟩:=Ql b f;exact⟨(i,y)::ys,by simp[Ye,e,g3],.cons c g4⟩
structure Rel(B:Nat)(h0:H0)(F:Fz)(ρ:Ex)(st:AM)(fr:Fr)(h:H):Prop where
 fp:FP F ρ st.nx st fr
 sr:SR B h0 F ρ st.nx st.ob h
inductive PO.To:PO->PV->AM->Prop
 |val {v:PV} {st:AM}:PO.To (.val v st) v st
 |tt {a b:PO} {v:PV} {st:AM}:PO.To a v st->PO.To (.ite true a b) v st
 |ff {a b:PO} {v:PV} {st:AM}:PO.To b v st->PO.To (.ite false a b) v st
@[simp] theorem M8{v:PV}{s:AM}:¬PO.To .bad v s:=by intro h;cases h
@[simp] theorem AW{v u:PV}{s t:AM}:PO.To (.val v s) u t↔v=u/\s=t:=by
 constructor
 ·intro h;cases h;exact⟨rfl,rfl⟩
 ·rintro⟨rfl,rfl⟩;exact .val
@[simp] theorem BT{c:Bool}{v u:PV}{s t:AM}:PO.To (.ID c v s) u t↔c=true/\v=u/\s=t:=by
 constructor
 ·intro h;unfold PO.ID at h;cases h with
  |tt h=>cases h;exact⟨rfl,rfl,rfl⟩
  |ff h=>cases h
 ·rintro⟨rfl,rfl,rfl⟩;exact .tt .val
@[simp] theorem Me{o:Option PV}{u:PV}{s t:AM}:PO.To (ov s o) u t↔o=some u/\s=t:=by
 cases o with
 |none=>simp[ov]
 |some v=>simp only[ov,AW,zh]
@[simp] theorem P9{c:Bool}{o:Option PV}{u:PV}{s t:AM}:PO.To (ovc c s o) u t↔c=true/\o=some u/\s=t:=by
 cases o with
 |none=>simp[ovc]
 |some v=>simp only[ovc,BT,zh]
def OK(B:Nat)(h0:H0)(F:Fz)(ρ:Ex)(st:AM)(h:H)(a:List Nat)(d:Option OR)(v:PV)(st':AM):Prop:=
 ∃v' h' F' ρ',(d=some (.val v' h')\/(d=some (.skip h')/\v'=.tup []))/\PR F' ρ' st'.nx v v'/\SR B h0 F' ρ' st'.nx st'.ob h'/\Le F ρ st.nx F' ρ' st'.nx/\
  st'.fr=st.fr/\st'.n=st.n/\h.nx<=h'.nx/\∀b,b<h.nx->h'.get b=h.get b\/∃id∈a,∃n,ρ id=some (b,n)
theorem OK.pure{a:List Nat}(hr:SR B h0 F ρ st.nx st.ob h){d:Option OR}{v:PV}{v':V}(c:d=some (.val v' h))(b:PR F ρ st.nx v v'):OK B h0 F ρ st h a d v st:=
 ⟨v',h,F,ρ,.inl c,b,hr,Le.refl,rfl,rfl,z6 _,fun _ _=>.inl rfl⟩
theorem Na{α:Type}(n:Nat)(l:List α):Det.Kr n l=l.drop n:=Qe n l
theorem rd_some{h:H}{b off n:Nat}{cs:List V}{t:TypeId}{fz:Nat×Nat}(d:h.get b=some (.cells cs t fz))(a:off+n<=cs.length)(c:∀v∈(cs.drop off).take n,v.ok=true):rd h b off n=some ((cs.drop off).take n):=by
 rw[aF];unfold rd0;rw[d];simp only;rw[wd ⟨a,qq.2 c⟩]
theorem Lj{d:TypeDesc}{n:Nat}{ps:List PV}{cs:List V}(hp:Bf F ρ N ps cs){p:PV}(a:pick d n ps=some p):
  (Eb d=true/\0<n/\n<=cs.length/\PR F ρ N p (.agg<|cs.take n))\/(Eb d=false/\∃v vs,cs=v::vs/\PR F ρ N p v):=by
 unfold pick at a;cases e:Eb d with
 |true=>
  left;simp only[e,we]at a;rw[Da,QK]at a;cases b:(zw n ps.length&&ya 0 n)with
  |false=>rw[b]at a;cases a
  |true=>
   rw[b]at a;simp only[we,zh]at a;subst a;simp only[ze]at b;obtain⟨b,c⟩:=b;refine⟨rfl,zf c,by rw[<-hp.len];exact zf b,?_⟩;simp only[PR];exact⟨_,rfl,hp.take n⟩
 |false=>
  right;simp only[e,wg]at a;cases ps with
  |nil=>cases a
  |cons q g=>
   cases a;simp only[Bf]at hp;obtain⟨v,vs,rfl,f,_⟩:=hp;exact⟨rfl,v,vs,rfl,f⟩
theorem De:∀ {s:Sh} {x:s.T} {cs:List V},DC F s x cs->Bf F ρ N (flat s x) cs
 | .pair a b,(x,y),cs,h=>by
  simp only[DC]at h;obtain⟨c,d,rfl,i,e⟩:=h;exact(De i).append<|De e
 | .unit,_,cs,h=>by simp only[DC]at h;subst h;simp[flat]
 | .int k,x,cs,h=>by simp only[DC]at h;subst h;simp only[flat,A4,Cf,ve];simp[PR,DC]
 | .bool,x,cs,h=>by simp only[DC]at h;subst h;simp only[flat,A4,Cf,ve];simp[PR,DC]
 | .str,x,cs,h=>by simp only[DC]at h;subst h;simp only[flat,A4,Cf,ve];simp[PR,DC]
 | .list s,x,cs,h=>by
  have h':=h;simp only[DC]at h;obtain⟨v,rfl,_⟩:=h;simp only[flat,A4,Cf,ve,PR];exact h'
 | .fnv,x,cs,h=>by simp only[DC]at h;subst h;simp only[flat,A4,Cf,ve];cases (x:Option Fn)<;>simp[PR]
 | .ptr s,x,cs,h=>by
  simp only[DC]at h;obtain⟨b,o,g,rfl,e,j,f⟩:=h;simp only[flat,A4,Cf,ve,PR];exact⟨b,o,g,rfl,e,j,f⟩
 | .nlist s,x,cs,h=>by
  have h':=h;simp only[DC]at h;obtain⟨v,rfl,_⟩:=h;simp only[flat,A4,Cf,ve,PR];exact h'
theorem Gt{α:Type}(l:List α)(a b:Nat):l.drop (a+b)=(l.drop a).drop b:=by rw[List.drop_drop]
theorem Hr{T:Cc}{t:TypeId}{d:TypeDesc}{i:TI}(D:T.und t=some d)(z:T.inf t=some i){b off:Nat}{cs:List V}{te:TypeId}{fz:Nat×Nat}(w:h.get b=some (.cells cs te fz))
  {m:Nat} (g:∀v∈(cs.drop off).take m,v.ok=true) {ps:List PV} (hp:Bf F ρ N ps ((cs.drop off).take m)) {p:PV} (j:pick d i.size ps=some p):∃v,Fv T h t (.ptr b off)=some v/\PR F ρ N p v:=by
 unfold Fv;simp only[D,z];have s:((cs.drop off).take m).length<=cs.length-off:=by simp;omega
 have q:off<=cs.length:=by
  have:0<((cs.drop off).take m).length:=by
   rcases Lj hp j with⟨_,h0,r,_⟩|⟨_,v,vs,e,_⟩
   ·omega
   ·rw[e];simp
  simp at this;omega
 rcases Lj hp j with⟨l,_,r,f⟩|⟨l,v,vs,c,f⟩
 ·simp only[l,we];have:(cs.drop off).take i.size=((cs.drop off).take m).take i.size:=by
   rw[List.take_take];have:i.size<=m:=by
    have:=r;simp at this;omega
   rw[Nat.min_eq_left this]
  rw[rd_some w (by omega)<|fun v f=>g v<|zt<|by rwa [this]at f];refine⟨_,rfl,?_⟩;rw[this];exact f
 ·simp only[l,wg];have y:off+1<=cs.length:=by
   have:((cs.drop off).take m).length=vs.length+1:=by rw[c];rfl
   omega
  have o:(cs.drop off).take 1=[v]:=by
   have:m≠0:=by rintro rfl;simp at c
   obtain⟨k,rfl⟩:=Nat.exists_eq_succ_of_ne_zero this;cases n:cs.drop off with
   |nil=>rw[n]at c;simp at c
   |cons a A=>rw[n]at c;simp only[List.take_succ_cons,List.cons.injEq]at c;simp[c.1]
  rw[rd_some w y (fun u x=>by rw[o]at x;cases zd.1 x;exact g v (by rw[c];simp)),o];exact⟨v,rfl,f⟩
end
section
variable {B:Nat}{h0:H0}{F:Fz}{ρ:Ex}{N:Nat}{C:Ctx}{st st':AM}{fr:Fr}{h:H}
theorem SR.at(hr:SR B h0 F ρ N st.ob h){id:Nat}{o:Obj}(a:st.obj id=some o):∃b n x,ρ id=some (b,n)/\h.get b=some x/\YE F ρ N n o x/\(o.frozen=false->F b=none)/\
  (o.frozen=true->∃cs t fz,x=.cells cs t fz/\F b=some cs):=hr.obj id o a
theorem O5{s:Sh}{l:List s.T}{cs:List V}(b:Ey F s l cs)(c:s.sz=1):∀(n j:Nat),j+n=l.length->Bf F ρ N (Qg s l j n) (cs.drop j)
 |0,j,f=>by
  have:cs.length=l.length:=by rw[b.1,c,qe]
  rw[List.drop_eq_nil_of_le<|by omega];unfold Qg;simp
 |n+1,j,f=>by
  have g:cs.length=l.length:=by rw[b.1,c,qe]
  have a:j<l.length:=by omega
  have d:=b.2 j a;rw[c,qe]at d;have e:cs.drop j=(cs.drop j).take 1++cs.drop (j+1):=by
   have:=List.take_append_drop 1<|cs.drop j;rw[List.drop_drop]at this;exact this.symm
  unfold Qg;rw[e,show l.getD j s.Hz=l[j]from by simp[a]];exact(De d).append (O5 b c n (j+1) (by omega))
theorem jH(hr:SR B h0 F ρ st.nx st.ob h){t:TypeId}{p:PV}{a:V}(q:PR F ρ st.nx p a){v:PV}(f:(Nt C.T st t p).To v st'):
  OK B h0 F ρ st h [] (BE h<|Fv C.T h t a) v st':=by
 unfold Nt at f;split at f
 case h_2=>simp at f
 rename_i d i D z;split at f
 case h_4=>simp at f
 case h_1=>
  rename_i id off;split at f
  case h_4=>simp at f
  case h_3=>
   rename_i tb ps y;simp only[Me]at f;obtain⟨c,rfl⟩:=f;obtain⟨b,n,x,h1,h2,⟨cs,fz,rfl,h4,_,hbok⟩,_⟩:=hr.at y;simp only[PR]at q;obtain rfl:=q.2 b n h1;rw[Na]at c;obtain⟨v',w,r⟩:=Hr (h:=h) D z h2 (m:=cs.length) (fun u k=>hbok u<|zm<|zt k) (by rw[zn<|by simp];exact h4.drop off) c;exact OK.pure hr (by rw[w];rfl) r
  case h_2=>
   rename_i G e s l y;cases g:(zg off 0&&zg s.sz 1)with
   |false=>rw[g]at f;simp at f
   |true=>
    rw[g]at f;simp only[we,P9,w5]at f;obtain⟨E,c,rfl⟩:=f;rw[ze]at g;have h0:=zc g.1;have I:=zc g.2;subst h0;obtain⟨b,n,x,h1,h2,⟨cs,fz,rfl,h4,_⟩,_⟩:=hr.at y;simp only[PR]at q;obtain rfl:=q.2 b n h1;have hp:=O5 (ρ:=ρ) (N:=st.nx) h4 I i.size 0 (by omega);obtain⟨v',w,r⟩:=Hr (h:=h) D z h2 (m:=cs.length) (fun u k=>h4.ok u<|zm<|zt k) (by rw[zn<|by simp];exact hp) c;exact OK.pure hr (by rw[w];rfl) r
  rename_i ps y;simp only[Me]at f;obtain⟨c,rfl⟩:=f;obtain⟨b,n,x,h1,h2,⟨cs,te,fz,rfl,h4,_,hbok⟩,_⟩:=hr.at y;simp only[PR]at q;obtain rfl:=q.2 b n h1;rw[Na]at c;obtain⟨v',w,r⟩:=Hr (h:=h) D z h2 (m:=cs.length) (fun u k=>hbok u<|zm<|zt k) (by rw[zn<|by simp];exact h4.drop off) c;exact OK.pure hr (by rw[w];rfl) r
 case h_2=>
  rename_i id sz j off;split at f
  case h_2=>simp at f
  rename_i G e s l y;cases g:zg sz s.sz with
  |false=>rw[g]at f;simp at f
  |true=>
   rw[g]at f;simp only[we,P9,w5]at f;obtain⟨E,c,rfl⟩:=f;have g:=zc g;subst g;obtain⟨b,n,x,h1,h2,⟨cs,fz,rfl,h4,_⟩,_⟩:=hr.at y;simp only[PR]at q;obtain rfl:=q.2 b n h1;have A:=h4.2 j E;rw[show l.getD j s.Hz=l[j]from by simp[E],Na]at c;have hp:Bf F ρ st.nx ((flat s l[j]).drop off) ((cs.drop<|j*s.sz+off).take<|s.sz-off):=by
    have:=(De (F:=F) (ρ:=ρ) (N:=st.nx) A).drop off;rw[Gt, <-yx]at*;exact this
   obtain⟨v',w,r⟩:=Hr (h:=h) D z h2 (fun u k=>A.ok u<|zm (i:=off)<|by rw[Gt, <-yx]at k;exact k) hp c;exact OK.pure hr (by rw[w];rfl) r
 case h_3=>
  rename_i s x off;simp only[Me]at f;obtain⟨c,rfl⟩:=f;simp only[PR]at q;obtain⟨b,o,cs,rfl,h1,h2,h3⟩:=q;obtain⟨te,fz,h4⟩:=hr.frz b cs h1;rw[Na]at c;have hp:Bf F ρ st.nx ((flat s x).drop off) ((cs.drop<|o+off).take<|s.sz-off):=by
   have:=(De (F:=F) (ρ:=ρ) (N:=st.nx) h3).drop off;rw[Gt, <-yx]at*;exact this
  obtain⟨v',w,r⟩:=Hr (h:=h) D z h4 (fun u k=>h3.ok u<|zm (i:=off)<|by rw[Gt, <-yx]at k;exact k) hp c;exact OK.pure hr (by rw[w];rfl) r
theorem DC.Uz:∀ {s:Sh} {x:s.T} {cs:List V},DC F s x cs->∀v∈cs,v.one=true
 | .int _,_,_,h=>by simp only[DC]at h;subst h;intro v e;rw[zd.1 e];rfl
 | .bool,_,_,h=>by simp only[DC]at h;subst h;intro v e;rw[zd.1 e];rfl
 | .str,_,_,h=>by simp only[DC]at h;subst h;intro v e;rw[zd.1 e];rfl
 | .list s,l,_,h=>by
  simp only[DC]at h;obtain⟨u,rfl,h⟩:=h;intro v e;rw[zd.1 e];rcases h with⟨_,rfl|rfl|rfl⟩|⟨b,off,cap,o,f,rfl,_⟩<;>rfl
 | .pair a b,x,_,h=>by
  simp only[DC]at h;obtain⟨c,d,rfl,i,g⟩:=h;intro v e;rcases List.mem_append.1 e with e|e
  ·exact i.Uz v e
  ·exact g.Uz v e
 | .unit,_,_,h=>by simp only[DC]at h;subst h;intro v e;cases e
 | .fnv,x,_,h=>by simp only[DC]at h;subst h;intro v e;rw[zd.1 e];cases (x:Option Fn)<;>rfl
 | .ptr _,x,_,h=>by simp only[DC]at h;obtain⟨b,o,f,rfl,_⟩:=h;intro v e;rw[zd.1 e];rfl
 | .nlist s,l,_,h=>by
  simp only[DC]at h;obtain⟨u,rfl,h⟩:=h;intro v e;rw[zd.1 e];rcases h with⟨_,rfl⟩|⟨_,b,off,cap,o,f,rfl,_⟩<;>rfl
theorem Jp{o:Option Obj}(h:IC o=true):∃x,o=some x:=by cases o with|none=>cases h|some x=>exact⟨x,rfl⟩
theorem RF(hr:SR B h0 F ρ st.nx st.ob h){p:PV}{v:V}(d:Kl st p=true)(hp:PR F ρ st.nx p v):v.one=true:=by
 have key:∀ {id:Nat},IC (st.obj id)=true->∃b n,ρ id=some (b,n):=by
  intro id f;obtain⟨o,e⟩:=Jp f;obtain⟨b,n,_,c,_⟩:=hr.at e;exact⟨b,n,c⟩
 cases p<;>simp only[Kl]at d<;>simp only[PR]at hp<;>try (cases d;done)
 case bl=>subst hp;rfl
 case dat=>exact hp.Uz v<|zd.2 rfl
 case nil|nilp|nilm|nilf|nili=>subst hp;rfl
 case ptr=>obtain⟨b,n,c⟩:=key d;rw[hp.2 b n c];rfl
 case eptr=>obtain⟨b,n,c⟩:=key d;rw[hp.2 b n c];rfl
 case Bx=>obtain⟨b,o,cs,rfl,_⟩:=hp;rfl
 case sl=>
  obtain⟨b,n,c⟩:=key d;rcases hp.2 b n c with⟨_,_,o,_,rfl⟩|⟨_,_,_,rfl|⟨_,rfl,_⟩⟩<;>rfl
 case mp|yl=>obtain⟨b,n,c⟩:=key d;rw[hp.2 b n c];rfl
 case fn=>obtain⟨a,b,rfl,_⟩:=hp;rfl
theorem cU{v:V}(h:v.one=true):v.cells=[v]:=by cases v<;>first|rfl|cases h
theorem Om(hr:SR B h0 F ρ st.nx st.ob h){p:PV}{v:V}{ps:List PV}(hp:PR F ρ st.nx p v)(a:pcs st p=some ps):Bf F ρ st.nx ps v.cells:=by
 unfold pcs at a;split at a
 ·cases a;simp only[PR]at hp;obtain⟨cs,rfl,c⟩:=hp;exact c
 ·rename_i q d;cases b:Kl st p with
  |false=>rw[b]at a;cases a
  |true=>
   rw[b]at a;cases a;rw[cU<|RF hr b hp];simpa using hp
theorem KW(hr:SR B h0 F ρ st.nx st.ob h):∀ {ps:List PV} {vs:List V},ps.all (Kl st)=true->Bf F ρ st.nx ps vs->vs.all V.one=true
 |[],vs,_,h=>by simp at h;subst h;rfl
 |p::ps,vs,a,h=>by
  simp only[Bf]at h;obtain⟨v,vs,rfl,b,c⟩:=h;simp only[List.all_cons,ze]at a ⊢;exact⟨RF hr a.1 b,KW hr a.2 c⟩
theorem Bf.Km:∀ {a:List PV} {x:List V} {b:List PV} {y:List V},Bf F ρ N a x->Bf F ρ N b y->Bf F ρ N (Km a b) (Km x y)
 |[],x,b,y,h,h'=>by simp at h;subst h;exact h'
 |p::ps,x,b,y,h,h'=>by
  simp only[Bf]at h;obtain⟨v,vs,rfl,e,c⟩:=h;cases b with
  |nil=>simp at h';subst h';show Bf F ρ N [] [];simp
  |cons q g=>
   simp only[Bf]at h';obtain⟨u,f,rfl,i,d⟩:=h';show Bf F ρ N (p::Det.Km ps g) (v::Det.Km vs f);simp only[A4];exact⟨e,c.Km d⟩
theorem Bf.CG{a:List PV}{x:List V}(c:Bf F ρ N a x):∀(n:Nat) {b:List PV} {y:List V},Bf F ρ N b y->Bf F ρ N (CG n a b) (CG n x y)
 |0,b,y,h=>c.Km h
 |n+1,[],y,h=>by simp at h;subst h;show Bf F ρ N [] [];simp
 |n+1,q::g,y,h=>by
  simp only[Bf]at h;obtain⟨u,f,rfl,e,d⟩:=h;show Bf F ρ N (q::jc n a g) (u::jc n x f);simp only[A4];exact⟨e,Bf.CG c n d⟩
theorem Hn:∀(l:Ob) (i:Nat) (x:Obj) (j:Nat),(AP l i).isSome=true->AP (DR l i x) j=if j=i then some x else AP l j
 |[],i,x,j,h=>by cases h
 |(a,o)::l,i,x,j,h=>by
  simp only[DR,AP,Bt]at h ⊢;by_cases e:a=i
  ·subst e;simp only[decide_true,we,AP,Bt];by_cases b:a=j
   ·subst b;simp
   ·rw[wc<|fun h=>b h.symm];simp[b]
  ·simp only[e,decide_false,wg]at h ⊢;simp only[AP,Bt];by_cases b:a=j
   ·subst b;simp[e]
   ·simp only[b,decide_false,wg];exact Hn l i x j h
theorem Np{b off:Nat}{vs cs:List V}{t:TypeId}{fz:Nat×Nat}(g:h.get b=some (.cells cs t fz))(c:off+vs.length<=cs.length)(a:fz.2<=fz.1)(f:vs.all V.one=true):
  wr h b off vs=some (h.put b<|.cells (CG off vs cs) t fz):=by
 unfold wr;simp only[g,Da,FU,f];have d:zw (yk off vs.length) cs.length=true:=Nat.ble_eq_true_of_le c;have e:Det.clear fz off vs.length=true:=by
  unfold Det.clear;rw[show zw fz.2 fz.1=true from Nat.ble_eq_true_of_le a,Bool.or_true]
 rw[d,e];rfl
theorem SR.set(hr:SR B h0 F ρ st.nx st.ob h){id b n:Nat}{o o':Obj}{x x':O}(E:st.obj id=some o)(s:ρ id=some (b,n))(Q:h.get b=some x)(R:o.frozen=false)(w:o'.frozen=false)
  (T:YE F ρ st.nx n o' x'):SR B h0 F ρ st.nx (DR st.ob id o') (h.put b x'):=by
 have q:AP st.ob id=some o:=E;have t:F b=none:=by
  obtain⟨b',n',_,p,_,_,r,_⟩:=hr.at E;rw[s]at p;cases p;exact r R
 have g:∀j,AP (DR st.ob id o') j=if j=id then some o' else AP st.ob j:=fun j=>Hn _ _ _ _ (by rw[q];rfl)
 refine⟨fun j oj d=>?_,fun i j oi oj c m I K d p r=>?_,fun c cs f=>?_,hr.own,fun j d=>?_,fun c f A=>?_,fun c G f=>?_,hr.le,hr.fo,hr.gl,fun c f=>?_⟩
 ·rw[g]at d;by_cases e:j=id
  ·subst e;simp only[wk,zh]at d;subst d;exact⟨b,n,x',s,by simp,T,fun _=>t,fun e=>by rw[w]at e;cases e⟩
  ·rw[wc e]at d;obtain⟨c,m,y,p,r,M,P,J⟩:=hr.obj j oj d;have a:c≠b:=fun S=>e<|hr.inj j id oj o c m n d q p<|S▸s
   exact⟨c,m,y,p,by rw[H.Bq,wc a];exact r,M,P,J⟩
 ·have l:∀k ok,AP (DR st.ob id o') k=some ok->∃L,AP st.ob k=some L:=by
   intro k ok z;rw[g]at z;by_cases e:k=id
   ·exact⟨o,e▸q⟩
   ·rw[wc e]at z;exact⟨ok,z⟩
  obtain⟨_,v⟩:=l i oi K;obtain⟨_,u⟩:=l j oj d;exact hr.inj i j _ _ c m I v u p r
 ·have a:c≠b:=fun e=>by rw[e,t]at f;cases f
  rw[H.Bq,wc a];exact hr.frz c cs f
 ·rw[g]at d;by_cases e:j=id
  ·rw[wd e]at d;cases d
  ·rw[wc e]at d;exact hr.dead j d
 ·have a:c≠b:=N1 (hr.own id b n s).2 f A;rw[H.Bq,wc a];exact hr.old c f A
 ·rw[H.Bq]at f;by_cases e:c=b
  ·subst e;exact hr.lt _ _ Q
  ·rw[wc e]at f;exact hr.lt c G f
 ·obtain⟨v,u,D⟩:=hr.pn c f;have a:c≠b:=fun e=>D id n<|e▸s
  exact⟨by rw[H.Bq,wc a];exact v,u,D⟩
def BV(ρ:Ex)(i:Nat)(x:Option (Nat×Nat)):Ex:=fun j=>if j=i then x else ρ j
theorem Le.Oh(i:Nat):Le F ρ N F (BV ρ i none) N:=⟨fun _ _ h=>h,fun id _=>by unfold BV;split<;>simp_all,z6 _⟩
theorem Le.new(x:Nat×Nat):Le F ρ N F (BV ρ N<|some x) (N+1):=⟨fun _ _ h=>h,fun id h=>by unfold BV;rw[wc<|by omega];exact .inl rfl,Nat.le_succ _⟩
theorem SR.push{ob:Ob}(hr:SR B h0 F ρ N ob h){o:Obj}{x:O}{n:Nat}(W:o.frozen=false)(Y:YE F (BV ρ N<|some (h.nx,n)) (N+1) n o x):
  SR B h0 F (BV ρ N<|some (h.nx,n)) (N+1) ((N,o)::ob) (h.push x):=by
 have M:Le F ρ N F (BV ρ N<|some (h.nx,n)) (N+1):=Le.new _;have g:∀j,AP ((N,o)::ob) j=if j=N then some o else AP ob j:=by
  intro j;simp only[AP,Bt];by_cases e:N=j
  ·subst e;simp
  ·rw[wc<|fun h=>e h.symm];simp[e]
 have U:∀id b m,ρ id=some (b,m)->id<N:=fun id b m p=>(hr.own id b m p).1
 have a:∀b y,h.get b=some y->b≠h.nx:=fun b y p=>by have:=hr.lt b y p;omega
 refine⟨fun j oj d=>?_,fun i j oi oj c m v J d w s=>?_,fun c cs f=>?_,fun id b m p=>?_,fun j d=>?_,fun c f R=>?_,fun c K f=>?_,?_,?_,hr.gl,fun c f=>?_⟩
 ·rw[g]at d;by_cases e:j=N
  ·subst e;simp only[wk,zh]at d;subst d;refine⟨h.nx,n,x,by simp[BV],by simp,Y,fun _=>?_,fun e=>by rw[W]at e;cases e⟩;cases f:F h.nx with
   |none=>rfl
   |some cs=>
    obtain⟨t,fz,u⟩:=hr.frz _ _ f;exact wh rfl (a _ _ u)
  ·rw[wc e]at d;obtain⟨c,m,y,w,s,T,V,P⟩:=hr.obj j oj d;exact⟨c,m,y,by simp[BV,e,w],by rw[H.BP,wc<|a c y s];exact s,T.mono M,V,P⟩
 ·rw[g]at J d;have key:∀k ok m,(if k=N then some o else AP ob k)=some ok->BV ρ N (some (h.nx,n)) k=some (c,m)->(k=N/\c=h.nx)\/(k≠N/\AP ob k=some ok/\ρ k=some (c,m)/\c≠h.nx):=by
   intro k ok m E l;by_cases e:k=N
   ·subst e;simp[BV]at l;exact .inl ⟨rfl,l.1.symm⟩
   ·rw[wc e]at E;simp only[BV,e,vg]at l;obtain⟨c',v,y,r,D,_⟩:=hr.obj k ok E;rw[l]at r;cases r;exact .inr ⟨e,E,l,a c y D⟩
  rcases key i oi m J w with⟨G,z⟩|⟨G,z,Q,L⟩<;>rcases key j oj v d s with⟨I,A⟩|⟨I,A,X,Z⟩
  ·rw[G,I]
  ·exact wh z Z
  ·exact wh A L
  ·exact hr.inj i j oi oj c m v z A Q X
 ·obtain⟨t,fz,u⟩:=hr.frz c cs f;exact⟨t,fz,by rw[H.BP,wc<|a c _ u];exact u⟩
 ·unfold BV at p;split at p
  ·rename_i e;cases p;subst e;exact⟨Nat.lt_succ_self _,.inl hr.le⟩
  ·have:=hr.own id b m p;exact⟨by omega,this.2⟩
 ·rw[g]at d;by_cases e:j=N
  ·rw[wd e]at d;cases d
  ·rw[wc e]at d;simp[BV,e,hr.dead j d]
 ·have:=hr.le;rw[H.BP,wc<|by omega];exact hr.old c f R
 ·rw[H.BP]at f;by_cases e:c=h.nx
  ·subst e;exact Nat.lt_succ_self _
  ·rw[wc e]at f;have:=hr.lt c K f;show c<h.nx+1;omega
 ·have:=hr.le;show B<=h.nx+1;omega
 ·exact hr.fo
 ·obtain⟨r,D,S⟩:=hr.pn c f;have q:=a c _ r;refine⟨by rw[H.BP,wc q];exact r,D,fun id m e=>?_⟩;unfold BV at e;split at e
  ·cases e;exact q rfl
  ·exact S id m e
theorem Ej:∀(l:Ob) (i j:Nat),AP (GS l i) j=if j=i then none else AP l j
 |[],i,j=>by simp[GS,AP]
 |(a,o)::l,i,j=>by
  simp only[GS,Bt];by_cases e:a=i
  ·subst e;simp only[decide_true,we];rw[Ej l a j];simp only[AP,Bt];by_cases b:j=a
   ·simp[b]
   ·rw[wc b];have c:¬a=j:=fun h=>b h.symm
    simp[c,b]
  ·simp only[e,decide_false,wg,AP,Bt];rw[Ej l i j];by_cases b:a=j
   ·subst b;simp[e]
   ·simp[b]
theorem SR.del{ob:Ob}(hr:SR B h0 F ρ N ob h)(id:Nat):SR B h0 F (BV ρ id none) N (GS ob id) h:=by
 have n:Le F ρ N F (BV ρ id none) N:=Le.Oh id;refine⟨fun j oj a=>?_,fun i j oi oj c m q k a g d=>?_,hr.frz,fun j b m f=>?_,fun j a=>?_,hr.old,hr.lt,hr.le,hr.fo,hr.gl,fun c l=>?_⟩
 ·rw[Ej]at a;split at a
  ·cases a
  ·rename_i e;obtain⟨c,m,y,g,d,v,r⟩:=hr.obj j oj a;exact⟨c,m,y,by simp[BV,e,g],d,v.mono n,r⟩
 ·rw[Ej]at k a;split at k
  ·cases k
  split at a
  ·cases a
  rename_i o p;simp only[BV,o,p,vg]at g d;exact hr.inj i j oi oj c m q k a g d
 ·unfold BV at f;split at f
  ·cases f
  ·exact hr.own j b m f
 ·rw[Ej]at a;unfold BV;split
  ·rfl
  ·rename_i e;rw[wc e]at a;exact hr.dead j a
 ·obtain⟨t,s,u⟩:=hr.pn c l;refine⟨t,s,fun j m e=>?_⟩;unfold BV at e;split at e
  ·cases e
  ·exact u j m e
theorem SR.kill{ob:Ob}(hr:SR B h0 F ρ N ob h){b:Nat}(s:∀id o n,AP ob id=some o->ρ id≠some (b,n))(q:F b=none)(t:h0.bE B b)(r:b∉h0.pin):SR B h0 F ρ N ob (h.kill b):=by
 refine⟨fun j oj k=>?_,hr.inj,fun c cs a=>?_,hr.own,hr.dead,fun c a l=>?_,fun c p a=>?_,hr.le,hr.fo,hr.gl,fun c a=>?_⟩
 ·obtain⟨c,m,y,d,g,i⟩:=hr.obj j oj k;have:c≠b:=fun e=>s j oj m k<|e▸d
  exact⟨c,m,y,d,by rw[H.Ck,wc this];exact g,i⟩
 ·have:c≠b:=fun e=>by rw[e,q]at a;cases a
  rw[H.Ck,wc this];exact hr.frz c cs a
 ·have:c≠b:=N1 t a l;rw[H.Ck,wc this];exact hr.old c a l
 ·rw[H.Ck]at a;split at a
  ·cases a
  ·exact hr.lt c p a
 ·obtain⟨d,g,i⟩:=hr.pn c a;have f:c≠b:=fun e=>r<|e▸a
  exact⟨by rw[H.Ck,wc f];exact d,g,i⟩
theorem CM{s a:Sh}{x:s.T}{y:a.T}(h:DT s a x=some y):∃e:s=a,e▸x=y:=by
 unfold DT at h;split at h
 ·rename_i e;cases h;exact⟨e,rfl⟩
 ·cases h
theorem GF{s:Sh}{p:PV}{x:s.T}{v:V}(hp:PR F ρ N p v)(a:uT s p=some x):DC F s x [v]:=by
 unfold uT at a;split at a
 ·unfold asP at a;split at a
  ·obtain⟨rfl,rfl⟩:=CM a;simp only[PR]at hp;obtain⟨b,o,cs,rfl,h2,h3,h4⟩:=hp;simp only[DC];exact⟨b,o,cs,rfl,h2,h3,h4⟩
  ·cases a
 ·obtain⟨rfl,rfl⟩:=CM a;simpa only[PR]using hp
 ·obtain⟨rfl,rfl⟩:=CM a;simp only[PR]at hp;subst hp;simp[DC]
 ·obtain⟨rfl,rfl⟩:=CM a;simp only[PR,Cf]at hp;obtain⟨_,_,rfl,rfl,rfl⟩:=hp;simp[DC]
 ·obtain⟨rfl,rfl⟩:=CM a;simp only[PR]at hp;subst hp;simp[DC]
 ·split at a
  ·cases a;simp only[PR]at hp;subst hp;simp[DC]
  ·cases a;simp only[PR]at hp;subst hp;simp[DC]
  ·cases a
 ·cases a
theorem H6:∀ {s:Sh} {ps:List PV} {vs:List V} {x:s.T} {f:List PV},Bf F ρ N ps vs->Cx s ps=some (x,f)->∃a b,vs=a++b/\DC F s x a/\Bf F ρ N f b
 | .pair s t,ps,vs,x,f,hp,e=>by
  unfold Cx at e;split at e
  case h_2=>cases e
  rename_i y l1 i;split at e
  case h_2=>cases e
  rename_i z n g;cases e;obtain⟨a,b,rfl,m,l⟩:=H6 hp i;obtain⟨c,d,rfl,g3,g4⟩:=H6 l g;exact⟨a++c,d,by simp,by simp only[DC];exact⟨a,c,rfl,m,g3⟩,g4⟩
 | .unit,ps,vs,x,f,hp,e=>by
  unfold Cx at e;cases e;exact⟨[],vs,rfl,by simp[DC],hp⟩
 | .int k,[],vs,x,f,hp,e=>by simp[Cx]at e
 | .bool,[],vs,x,f,hp,e=>by simp[Cx]at e
 | .str,[],vs,x,f,hp,e=>by simp[Cx]at e
 | .list s,[],vs,x,f,hp,e=>by simp[Cx]at e
 | .nlist s,[],vs,x,f,hp,e=>by simp[Cx]at e
 | .fnv,[],vs,x,f,hp,e=>by simp[Cx]at e
 | .ptr _,[],vs,x,f,hp,e=>by simp[Cx]at e
 | .int k,p::ps,vs,x,f,hp,e=>by
  simp only[Bf]at hp;obtain⟨v,vs,rfl,i,g⟩:=hp;simp only[Cx]at e;split at e
  ·rename_i y j;cases e;exact⟨[v],vs,rfl,GF i j,g⟩
  ·cases e
 | .bool,p::ps,vs,x,f,hp,e=>by
  simp only[Bf]at hp;obtain⟨v,vs,rfl,i,g⟩:=hp;simp only[Cx]at e;split at e
  ·rename_i y j;cases e;exact⟨[v],vs,rfl,GF i j,g⟩
  ·cases e
 | .str,p::ps,vs,x,f,hp,e=>by
  simp only[Bf]at hp;obtain⟨v,vs,rfl,i,g⟩:=hp;simp only[Cx]at e;split at e
  ·rename_i y j;cases e;exact⟨[v],vs,rfl,GF i j,g⟩
  ·cases e
 | .list s,p::ps,vs,x,f,hp,e=>by
  simp only[Bf]at hp;obtain⟨v,vs,rfl,i,g⟩:=hp;simp only[Cx]at e;split at e
  ·rename_i y j;cases e;exact⟨[v],vs,rfl,GF i j,g⟩
  ·cases e
 | .fnv,p::ps,vs,x,f,hp,e=>by
  simp only[Bf]at hp;obtain⟨v,vs,rfl,i,g⟩:=hp;simp only[Cx]at e;split at e
  ·rename_i y j;cases e;exact⟨[v],vs,rfl,GF i j,g⟩
  ·cases e
 | .ptr s,p::ps,vs,x,f,hp,e=>by
  simp only[Bf]at hp;obtain⟨v,vs,rfl,i,g⟩:=hp;simp only[Cx]at e;split at e
  ·rename_i y j;cases e;exact⟨[v],vs,rfl,GF i j,g⟩
  ·cases e
 | .nlist s,p::ps,vs,x,f,hp,e=>by
  simp only[Bf]at hp;obtain⟨v,vs,rfl,i,g⟩:=hp;simp only[Cx]at e;split at e
  ·rename_i y j;cases e;exact⟨[v],vs,rfl,GF i j,g⟩
  ·cases e
theorem C3{s:Sh}{ps:List PV}{vs:List V}{x:s.T}(hp:Bf F ρ N ps vs)(c:Dq s ps=some x):DC F s x vs:=by
 unfold Dq at c;split at c
 ·rename_i y f;cases c;obtain⟨a,b,rfl,e,d⟩:=H6 hp f;simp at d;subst d;simpa using e
 ·cases c
theorem Vh{v:V}:∀(vs cs:List V) (off:Nat),v∈G4 cs off vs->v∈vs\/v∈cs
 |[],cs,off,h=>.inr h
 |u::vs,cs,off,h=>by
  have h:v∈G4 (cs.set off u) (off+1) vs:=h;rcases Vh vs _ _ h with h|h
  ·exact .inl<|List.mem_cons_of_mem _ h
  ·rcases List.mem_or_eq_of_mem_set h with h|h
   ·exact .inr h
   ·exact .inl (by simp[h])
theorem Wz{v:V}{vs cs:List V}{off:Nat}(h:v∈jc off vs cs):v∈vs\/v∈cs:=by
 rw[JR]at h;exact Vh _ _ _ h
theorem Hu{cs vs:List V}{off:Nat}(a:off+vs.length<=cs.length)(j:Nat):(CG off vs cs)[j]?=if off<=j/\j<off+vs.length then vs[j-off]? else cs[j]?:=by
 rw[JR];exact Q3 vs cs off j a
theorem oC{cs vs:List V}{off:Nat}:(CG off vs cs).length=cs.length:=by
 rw[JR];exact GN vs cs off
theorem AaJ{cs vs:List V}{m off k:Nat}(d:off+vs.length<=k)(c:m+k<=cs.length):((CG (m+off) vs cs).drop m).take k=CG off vs ((cs.drop m).take k):=by
 apply qf;intro j;rw[Hu<|by simp;omega];by_cases b:j<k
 ·rw[zj b,zo,Hu<|by omega];by_cases a:off<=j/\j<off+vs.length
  ·rw[wd a,wd<|by omega];congr 1;omega
  ·rw[wc a,wc (by omega),zj b,zo]
 ·rw[wc (by omega),zi (by simp;omega),zi<|by simp;omega]
theorem vQ{cs vs:List V}{m p k:Nat}(c:p+vs.length<=m\/m+k<=p)(b:p+vs.length<=cs.length):((CG p vs cs).drop m).take k=(cs.drop m).take k:=by
 apply qf;intro j;by_cases a:j<k
 ·rw[zj a,zj a,zo,zo,Hu b,wc<|by omega]
 ·rw[zi (by simp;omega),zi<|by simp;omega]
theorem Ey.set{s:Sh}{l:List s.T}{cs vs:List V}{j off:Nat}{y:s.T}(c:Ey F s l cs)(m:j<l.length)(a:off+vs.length<=s.sz)(g:DC F s y (CG off vs<|(cs.drop<|j*s.sz).take s.sz)):
  Ey F s (l.set j y) (CG (j*s.sz+off) vs cs):=by
 have f:j*s.sz+s.sz<=cs.length:=by
  rw[c.1, <-zx];exact zu _ m
 refine⟨by rw[oC,List.length_set];exact c.1,fun i k=>?_⟩;have b:i<l.length:=by simpa using k
 by_cases e:i=j
 ·subst e;rw[AaJ a f,List.getElem_set_self];exact g
 ·rw[List.getElem_set_ne<|fun h=>e h.symm,vQ ?_<|by omega]
  ·exact c.2 i b
  ·rcases Nat.lt_or_gt_of_ne e with d|d
   ·right;have:(i+1)*s.sz<=j*s.sz:=zu _ d;rw[zx]at this;omega
   ·left;have:(j+1)*s.sz<=i*s.sz:=zu _ d;rw[zx]at this;omega
theorem Js{s:Sh}:∀ {n:Nat} {ps:List PV} {vs:List V} {l:List s.T},Bf F ρ N ps vs->chunk s n ps=some l->vs.length=n*s.sz->l.length=n/\Ey F s l vs
 |0,ps,vs,l,hp,c,d=>by
  cases c;simp at d;subst d;exact⟨rfl,by simp[Ey]⟩
 |n+1,ps,vs,l,hp,c,d=>by
  unfold chunk at c;split at c
  case h_2=>cases c
  rename_i x k r;rw[zp]at c;obtain⟨l',o,rfl⟩:=c;obtain⟨a,b,rfl,h2,h3⟩:=H6 hp r;have f:=h2.len;have j:b.length=n*s.sz:=by rw[yw,f,zx]at d;omega
  obtain⟨m,q⟩:=Js h3 o j;refine⟨by simp[m],by rw[yw,f,j,List.length_cons,m,zx];omega,fun i p=>?_⟩;cases i with
  |zero=>
   simp only[Nat.zero_mul,List.drop_zero,List.getElem_cons_zero];rw[<-f,List.take_left];exact h2
  |succ i=>
   simp only[List.getElem_cons_succ];have g:i<l'.length:=by simpa using p
   have:=q.2 i g;have e:(a++b).drop ((i+1)*s.sz)=b.drop (i*s.sz):=by
    rw[zx,Nat.add_comm,Gt, <-f,List.drop_left]
   rw[e];exact this
theorem mV{cs xs:List V}(h:xs.length=cs.length):jc 0 xs cs=xs:=by
 apply qf;intro j;rw[Hu<|by omega];by_cases a:j<xs.length
 ·rw[wd<|by omega];rfl
 ·rw[wc (by omega),zi (by omega),zi<|by omega]
theorem tD(hr:SR B h0 F ρ st.nx st.ob h){t:TypeId}{p q:PV}{a x:V}(E:PR F ρ st.nx p a)(Y:PR F ρ st.nx q x){v:PV}(d:(Xt C.T st t p q).To v st'):
  ∃id,((∃off,p=.ptr id off)\/∃sz j off,p=.eptr id sz j off)/\OK B h0 F ρ st h [id] (hZ<|HN C.T h t a x) v st':=by
 unfold Xt at d;split at d
 case h_2=>simp at d
 rename_i i xs P R;cases O:(zg (Det.EP xs) i.size&&Det.Ly (Kl st) xs)with
 |false=>rw[O]at d;simp at d
 |true=>
  rw[O]at d;simp only[ze]at O;obtain⟨K,L⟩:=O;rw[Da]at K;rw[FU]at L;have m:=Om hr Y R;have o:x.cells.length=i.size:=by rw[<-m.len];exact zc K
  have k:=KW hr L m;have D:zg x.cells.length i.size=true:=by rw[o];exact Nat.beq_refl _
  simp only[we]at d;split at d
  case h_3=>simp at d
  case h_1=>
   rename_i id off;split at d
   case h_4=>exact wh d (by simp)
   case h_3=>
    rename_i tb ps A;cases f:zw (yk off i.size) (Det.EP ps)with
    |false=>rw[f]at d;simp at d
    |true=>
     rw[f]at d;simp only[we,AW]at d;obtain⟨rfl,rfl⟩:=d;obtain⟨b,n,y,h1,h2,⟨cs,fz,rfl,h4,h5,hbok⟩,hf,_⟩:=hr.at A;simp only[PR]at E;obtain rfl:=E.2 b n h1;rw[Da]at f;have r:off+x.cells.length<=cs.length:=by rw[<-h4.len,o];exact zf f
     refine⟨id,.inl ⟨off,rfl⟩,.tup [],_,F,ρ,.inr ⟨?_,rfl⟩,by simp[PR],hr.set A h1 h2 rfl rfl (o':=.tbox tb<|jc off xs ps) ⟨_,fz,rfl,m.CG off h4,h5,fun u G=>(Wz G).elim (fun G=>V.M9<|qq.1 k u G)<|hbok u⟩,Le.refl,rfl,rfl,z6 _,fun c _=>?_⟩
     ·unfold HN;simp only[P,D,we];rw[Np h2 r h5 k];rfl
     ·rw[H.Bq];by_cases e:c=b
      ·exact .inr ⟨id,zd.2 rfl,n,e▸h1⟩
      ·rw[wc e];exact .inl rfl
   case h_2=>
    rename_i e s l A;cases g:(zg off 0&&zg s.sz 1)with
    |false=>rw[g]at d;simp at d
    |true=>
     rw[g]at d;rw[ze]at g;have w:=zc g.1;have J:=zc g.2;subst w;simp only[we]at d;split at d
     case h_2=>exact wh d (by simp)
     rename_i y Q;simp only[BT,w5]at d;obtain⟨I,rfl,rfl⟩:=d;obtain⟨b,n,z,h1,h2,⟨cs,fz,rfl,h4,h5,h6⟩,hf,_⟩:=hr.at A;simp only[PR]at E;obtain rfl:=E.2 b n h1;have U:cs.length=x.cells.length:=by rw[h4.1,J,qe,o];exact I
     obtain⟨k1,Z⟩:=Js m Q (by rw[J,qe];exact o);have r:0+x.cells.length<=cs.length:=by omega
     refine⟨id,.inl ⟨0,rfl⟩,.tup [],_,F,ρ,.inr ⟨?_,rfl⟩,by simp[PR],hr.set A h1 h2 rfl rfl (o':=.arr false e s y) ⟨jc 0 x.cells cs,fz,rfl,by rw[mV U.symm];exact Z,h5,by omega⟩,Le.refl,rfl,rfl,z6 _,fun c _=>?_⟩
     ·unfold HN;simp only[P,D,we];rw[Np h2 r h5 k];rfl
     ·rw[H.Bq];by_cases e:c=b
      ·exact .inr ⟨id,zd.2 rfl,n,e▸h1⟩
      ·rw[wc e];exact .inl rfl
   rename_i ps A;cases f:zw (yk off i.size) (Det.EP ps)with
   |false=>rw[f]at d;simp at d
   |true=>
    rw[f]at d;simp only[we,AW]at d;obtain⟨rfl,rfl⟩:=d;obtain⟨b,n,y,h1,h2,⟨cs,te,fz,rfl,h4,h5,hbok⟩,hf,_⟩:=hr.at A;simp only[PR]at E;obtain rfl:=E.2 b n h1;rw[Da]at f;have r:off+x.cells.length<=cs.length:=by rw[<-h4.len,o];exact zf f
    refine⟨id,.inl ⟨off,rfl⟩,.tup [],_,F,ρ,.inr ⟨?_,rfl⟩,by simp[PR],hr.set A h1 h2 rfl rfl (o':=.box<|jc off xs ps) ⟨_,te,fz,rfl,m.CG off h4,h5,fun u G=>(Wz G).elim (fun G=>V.M9<|qq.1 k u G)<|hbok u⟩,Le.refl,rfl,rfl,z6 _,fun c _=>?_⟩
    ·unfold HN;simp only[P,D,we];rw[Np h2 r h5 k];rfl
    ·rw[H.Bq];by_cases e:c=b
     ·exact .inr ⟨id,zd.2 rfl,n,e▸h1⟩
     ·rw[wc e];exact .inl rfl
  case h_2=>
   rename_i id sz j off;split at d
   case h_2=>simp at d
   rename_i e s l A;cases g:(zg sz s.sz&&zw (yk off i.size) sz)with
   |false=>rw[g]at d;simp at d
   |true=>
    rw[g]at d;simp only[ze]at g;have X:=zc g.1;have w:=zf g.2;subst X;simp only[we]at d;split at d
    case h_2=>simp at d
    rename_i y Q;simp only[BT,w5]at d;obtain⟨I,rfl,rfl⟩:=d;obtain⟨b,n,z,h1,h2,⟨cs,fz,rfl,h4,h5,h6⟩,hf,_⟩:=hr.at A;simp only[PR]at E;obtain rfl:=E.2 b n h1;rw[show l.getD j s.Hz=l[j]from by simp[I]]at Q;have W:=De (F:=F) (ρ:=ρ) (N:=st.nx)<|h4.2 j I;have S:=C3 (m.CG off W) Q;have M:=Ey.set h4 I (by rw[o];exact w) S;have r:j*s.sz+off+x.cells.length<=cs.length:=by
     have:j*s.sz+s.sz<=cs.length:=by rw[h4.1, <-zx];exact zu _ I
     have:off+i.size<=s.sz:=w;omega
    refine⟨id,.inr ⟨_,_,_,rfl⟩,.tup [],_,F,ρ,.inr ⟨?_,rfl⟩,by simp[PR],hr.set A h1 h2 rfl rfl (o':=.arr false e s<|l.set j y) ⟨_,fz,rfl,M,h5,by simpa using h6⟩,Le.refl,rfl,rfl,z6 _,fun c _=>?_⟩
    ·unfold HN;simp only[P,D,we];rw[Np h2 r h5 k];rfl
    ·rw[H.Bq];by_cases e:c=b
     ·exact .inr ⟨id,zd.2 rfl,n,e▸h1⟩
     ·rw[wc e];exact .inl rfl
theorem CU{k:IntKind}{n:Int}{v:V}(h:PR F ρ N (.dat (.int k) n) v):v=.int k n:=by simpa [PR,DC]using h
theorem FI{s:Z}{v:V}(h:PR F ρ N (.dat .str s) v):v=.str s:=by simpa [PR,DC]using h
theorem H8{b:Bool}{v:V}(h:PR F ρ N (.dat .bool b) v):v=.bool b:=by simpa [PR,DC]using h
theorem OZ{b:Bool}{v:V}(h:PR F ρ N (.bl b) v):v=.bool b:=by simpa [PR]using h
theorem Dz(k:IntKind)(n:Int):PR F ρ N (.dat (.int k) n) (.int k n):=by simp[PR,DC]
theorem KT(s:Z):PR F ρ N (.dat .str s) (.str s):=by simp[PR,DC]
theorem D4(b:Bool):PR F ρ N (.dat .bool b) (.bool b):=by simp[PR,DC]
theorem IV(b:Bool):PR F ρ N (.bl b) (.bool b):=by simp[PR]
theorem HR{p:PV}{b:Bool}{v:V}(h:JA p=some b)(hp:PR F ρ N p v):v=.bool b:=by
 unfold JA at h;split at h
 ·cases h;exact OZ hp
 ·cases h;exact H8 hp
 ·cases h
theorem Ads(hr:SR B h0 F ρ st.nx st.ob h){op:BinOp}{k:IntKind}{a b:Int}{v:PV}(c:(AaX op k a b st).To v st'):OK B h0 F ρ st h [] (BE h<|QY op k a b) v st':=by
 unfold AaX at c;split at c<;>simp only[M8,AW,BT,w5,wm]at c
 all_goals first
  |(obtain⟨rfl,rfl⟩:=c;exact OK.pure hr rfl (Dz _ _))
  |(obtain⟨rfl,rfl⟩:=c;exact OK.pure hr rfl (D4 _))
  |(obtain⟨d,rfl,rfl⟩:=c;exact OK.pure hr (by simp only[QY,d,vg,BE])<|Dz _ _)
theorem Aff(hr:SR B h0 F ρ st.nx st.ob h){op:BinOp}{k:IntKind}{a b:Int}{v:PV}(c:(psh op k a b st).To v st'):OK B h0 F ρ st h [] (BE h<|dE op k a b) v st':=by
 unfold psh at c;split at c<;>simp only[M8,BT,w5]at c
 all_goals
  obtain⟨d,rfl,rfl⟩:=c;exact OK.pure hr (by simp only[dE,Int.not_lt.2 d,vg,BE])<|Dz _ _
theorem AcP(hr:SR B h0 F ρ st.nx st.ob h){op:BinOp}{x y:Z}{v:PV}(a:(Abs op x y st).To v st'):OK B h0 F ρ st h [] (BE h<|VR op x y) v st':=by
 unfold Abs at a;split at a<;>simp only[M8,AW,BT,w5]at a
 all_goals first
  |(obtain⟨rfl,rfl⟩:=a;exact OK.pure hr rfl (D4 _))
  |(obtain⟨b,rfl,rfl⟩:=a;exact OK.pure hr (by simp only[VR,b,wk,BE])<|KT _)
theorem Rv:∀ {ks:List FK} {ps o:List PV} {xs f:List V} {r:Bool},Bf F ρ N ps xs->Bf F ρ N o f->Hj ks ps o=some r->fit ks xs=true/\fit ks f=true/\B6 xs f=some r
 |[],[],[],xs,f,r,g,i,d=>by
  simp at g i;subst g i;simp only[Hj,zh]at d;subst d;exact⟨rfl,rfl,rfl⟩
 |[],_::_,_,xs,f,r,g,i,d=>by simp[Hj]at d
 |[],[],_::_,xs,f,r,g,i,d=>by simp[Hj]at d
 |k::ks,[],_,xs,f,r,g,i,d=>by cases k<;>simp[Hj]at d
 |k::ks,_::_,[],xs,f,r,g,i,d=>by cases k<;>simp[Hj]at d
 |k::ks,p::ps,q::o,xs,f,r,g,i,d=>by
  simp only[Bf]at g i;obtain⟨x,xs,rfl,j,t⟩:=g;obtain⟨y,f,rfl,hy1,hy2⟩:=i;have key:∀ {c:Bool},k.ok x=true->k.ok y=true->D2 x y=some c->(Hj ks ps o).map (fun r=>c&&r)=some r->fit (k::ks) (x::xs)=true/\fit (k::ks) (y::f)=true/\B6 (x::xs) (y::f)=some r:=by
   intro c J D u v;rw[zp]at v;obtain⟨P,I,rfl⟩:=v;obtain⟨g1,g2,g3⟩:=Rv t hy2 I;refine⟨by simp[fit,J,g1],by simp[fit,D,g2],?_⟩;have A:xs.length=f.length:=by rw[<-TU g1, <-TU g2]
   cases c with
   |true=>simp only[B6,u,g3,Bool.true_and]
   |false=>simp only[B6,u,Bool.false_and,A,wk]
  unfold Hj at d;split at d
  case h_1=>rename_i e _ _;cases e
  case h_2=>
   rename_i w E K a G O b z l n m;cases l;cases n;cases m;cases s:(w==K&&w==O)with
   |false=>rw[s]at d;cases d
   |true=>
    rw[s]at d;simp only[ze,wj]at s;obtain⟨rfl,rfl⟩:=s;obtain rfl:=CU j;obtain rfl:=CU hy1;exact key (by simp[FK.ok]) (by simp[FK.ok]) (by simp[D2]) d
  case h_3=>
   rename_i l n m;cases l;cases n;cases m;obtain rfl:=FI j;obtain rfl:=FI hy1;exact key rfl rfl (by simp[D2]) d
  case h_4=>
   rename_i l n m;cases l;cases n;cases m;split at d
   case h_2=>cases d
   rename_i a b M L;obtain rfl:=HR M j;obtain rfl:=HR L hy1;exact key rfl rfl rfl d
  case h_5=>cases d
theorem Z4(hr:SR B h0 F ρ st.nx st.ob h){op:BinOp}{t e:TypeId}(m:C.T.und t=some (.slice e)){p:PV}{x:V}(d:PR F ρ st.nx p x){ng:Bool}{v:PV}(a:(TF st ng p).To v st'):
  (∀(_:x=.nili),False)/\∃b,Bz C.T t x .nils=some b/\PR F ρ st.nx v (.bool<|b !=ng)/\MD C.T op t x .nils=(match op with| .eql=>(Bz C.T t x .nils).map fun b=>.bool b| .neq=>(Bz C.T t x .nils).map fun b=>.bool !b|_=>none)/\st'=st:=by
 have dq:∀ {x:V},x=.nils\/x=.esl\/x=.es0\/(∃b off len cap o,x=.sl b off len cap o)->MD C.T op t x .nils=(match op with| .eql=>(Bz C.T t x .nils).map fun b=>.bool b| .neq=>(Bz C.T t x .nils).map fun b=>.bool !b|_=>none):=by
  rintro x (rfl|rfl|rfl|⟨b,off,len,cap,o,rfl⟩)<;>cases op<;>rfl
 have no:∀ {x:V},x=.esl\/x=.es0\/(∃b off len cap o,x=.sl b off len cap o)->Bz C.T t x .nils=some false:=by
  rintro x (rfl|rfl|⟨b,off,len,cap,o,rfl⟩)<;>simp[Bz,m]
 have yes:Bz C.T t .nils .nils=some true:=by simp[Bz,m]
 unfold TF at a;split at a
 case h_1=>
  simp only[AW]at a;obtain⟨rfl,rfl⟩:=a;simp only[PR]at d;subst d;exact⟨fun e=>(by cases e),true,yes,by simp[PR],dq<|.inl rfl,rfl⟩
 case h_2=>
  rename_i id sz off len cap;cases i:IC (st.obj id)with
  |false=>rw[i]at a;simp at a
  |true=>
   rw[i]at a;simp only[we,AW]at a;obtain⟨rfl,rfl⟩:=a;obtain⟨o,ho⟩:=Jp i;obtain⟨b,n,_,h1,_⟩:=hr.at ho;simp only[PR]at d;have:x=.esl\/x=.es0\/(∃b off len cap o,x=.sl b off len cap o):=by
    rcases d.2 b n h1 with⟨_,_,o,_,rfl⟩|⟨rfl,_,_,rfl|⟨_,rfl,_⟩⟩
    ·exact .inr<|.inr ⟨_,_,_,_,_,rfl⟩
    ·exact .inl rfl
    ·exact .inr<|.inr ⟨_,_,_,_,_,rfl⟩
   exact⟨fun e=>(by subst e;rcases this with h|h|⟨_,_,_,_,_,h⟩<;>cases h),false,no this,by simp[PR],dq<|.inr this,rfl⟩
 case h_3=>
  rename_i s l;simp only[PR,DC]at d;obtain⟨u,f,d⟩:=d;obtain rfl:x=u:=by simpa using f
  have j:(decide (0<(l:List s.T).length)=true/\v=.bl ng/\st'=st)\/(v=.ub/\st'=st):=by
   generalize decide (0<(l:List s.T).length)=c at a;cases a with
   |tt a=>simp only[AW]at a;exact .inl ⟨rfl,a.1.symm,a.2.symm⟩
   |ff a=>simp only[AW]at a;exact .inr ⟨a.1.symm,a.2.symm⟩
  rcases j with⟨q,rfl,rfl⟩|⟨rfl,rfl⟩
  ·rcases d with⟨rfl,_⟩|⟨b,off,cap,o,k,rfl,_⟩
   ·simp at q
   ·exact⟨fun e=>(by cases e),false,no<|.inr<|.inr ⟨_,_,_,_,_,rfl⟩,by simp[PR],dq<|.inr<|.inr<|.inr ⟨_,_,_,_,_,rfl⟩,rfl⟩
  ·rcases d with⟨rfl,rfl|rfl|rfl⟩|⟨b,off,cap,o,k,rfl,_⟩
   ·exact⟨fun e=>(by cases e),true,yes,by simp[PR],dq<|.inl rfl,rfl⟩
   ·exact⟨fun e=>(by cases e),false,no<|.inl rfl,by simp[PR],dq<|.inr<|.inl rfl,rfl⟩
   ·exact⟨fun e=>(by cases e),false,no<|.inr<|.inl rfl,by simp[PR],dq<|.inr<|.inr<|.inl rfl,rfl⟩
   ·exact⟨fun e=>(by cases e),false,no<|.inr<|.inr ⟨_,_,_,_,_,rfl⟩,by simp[PR],dq<|.inr<|.inr<|.inr ⟨_,_,_,_,_,rfl⟩,rfl⟩
 case h_4=>
  rename_i s l;simp only[AW]at a;obtain⟨rfl,rfl⟩:=a;simp only[PR,DC]at d;obtain⟨u,f,d⟩:=d;obtain rfl:x=u:=by simpa using f
  rcases d with⟨rfl,rfl⟩|⟨h0,b,off,cap,o,k,rfl,_⟩
  ·exact⟨fun e=>(by cases e),true,yes,by cases ng<;>simp[PR,DC],dq<|.inl rfl,rfl⟩
  ·have g:0<(l:List s.T).length:=List.length_pos_iff.2 h0;exact⟨fun e=>(by cases e),false,no<|.inr<|.inr ⟨_,_,_,_,_,rfl⟩,by cases ng<;>simp[PR,DC,g],dq<|.inr<|.inr<|.inr ⟨_,_,_,_,_,rfl⟩,rfl⟩
 case h_5=>simp at a
theorem Xm{o:Option Obj}(h:IC o=true):∃x,o=some x:=by
 cases o with
 |none=>cases h
 |some x=>exact⟨x,rfl⟩
theorem RW(hr:SR B h0 F ρ st.nx st.ob h){t e:TypeId}{p q:PV}{x y:V}(k:C.T.und t=some (.pointer e))(f:PR F ρ st.nx p x)(g:PR F ρ st.nx q y){r:Bool}(c:ptrEq C.T e st p q=some r):
  Bz C.T t x y=some r/\x≠ .nili/\∀op,MD C.T op t x y=(match op with| .eql=>(Bz C.T t x y).map .bool| .neq=>(Bz C.T t x y).map fun b=>.bool !b|_=>none):=by
 have live:∀ {id off:Nat} {v:V},PR F ρ st.nx (.ptr id off) v->IC (st.obj id)=true->∃b n,ρ id=some (b,n)/\v=.ptr b off:=by
  intro id off v u d;obtain⟨o,z⟩:=Xm d;obtain⟨b,n,_,h1,_⟩:=hr.at z;simp only[PR]at u;exact⟨b,n,h1,u.2 b n h1⟩
 unfold ptrEq at c;split at c
 case h_5=>cases c
 case h_1=>
  cases c;simp only[PR]at f g;subst f g;exact⟨by unfold Bz;rw[k],(by intro e;cases e),fun op=>by cases op<;>rfl⟩
 case h_2=>
  rename_i id off;cases d:IC (st.obj id)with
  |false=>rw[d]at c;cases c
  |true=>
   rw[d]at c;cases c;obtain⟨b,n,_,rfl⟩:=live f d;simp only[PR]at g;subst g;exact⟨by unfold Bz;rw[k],(by intro e;cases e),fun op=>by cases op<;>rfl⟩
 case h_3=>
  rename_i id off;cases d:IC (st.obj id)with
  |false=>rw[d]at c;cases c
  |true=>
   rw[d]at c;cases c;obtain⟨b,n,_,rfl⟩:=live g d;simp only[PR]at f;subst f;exact⟨by unfold Bz;rw[k],(by intro e;cases e),fun op=>by cases op<;>rfl⟩
 case h_4=>
  rename_i a i b j;cases d:(zg a b&&IC (st.obj a))with
  |false=>rw[d]at c;cases c
  |true=>
   rw[d]at c;rw[ze]at d;have l:=zc d.1;subst l;simp only[we]at c;split at c
   case h_2=>cases c
   rename_i w s;cases m:ya 0 w.size with
   |false=>rw[m]at c;cases c
   |true=>
    rw[m]at c;cases c;rw[Nat.blt_eq]at m;obtain⟨b,n,A,rfl⟩:=live f d.2;obtain⟨b',n',g2,rfl⟩:=live g d.2;rw[A]at g2;cases g2;refine⟨?_,(by intro e;cases e),fun op=>by cases op<;>rfl⟩;unfold Bz;rw[k];simp only[wk,s];rw[wd<|by omega];congr 1;rw[Bt,Bool.eq_iff_iff];simp
theorem AcG(hr:SR B h0 F ρ st.nx st.ob h){op:BinOp}{t:TypeId}{D A:Operand}{p q:PV}{x y:V}(f:PR F ρ st.nx p x)(d:PR F ρ st.nx q y){v:PV}(c:(Aa3 C.T op t p q st).To v st'):
  OK B h0 F ρ st h [] (BE h<|Nx C.T op t D A x y) v st':=by
 have j:∀ {x y:V},(∀(e:x=.nili),False)->Nx C.T op t D A x y=MD C.T op t x y:=by
  intro x y m;unfold Nx vT;split
  ·rename_i h;split at h
   ·exact(m rfl).elim
   ·exact(m rfl).elim
   ·cases h
  ·rfl
 unfold Aa3 at c;split at c
 case h_1=>
  rename_i k a M b;obtain rfl:=CU f;obtain rfl:=CU d;rw[j<|fun e=>by cases e];cases i:sF op with
  |true=>
   rw[i]at c;simp only[we]at c;have:=Aff hr c;unfold MD;cases op<;>simp only[sF]at i<;>first|(cases i;done)|exact this
  |false=>
   rw[i]at c;simp only[wg]at c;cases n:(k==M)with
   |false=>rw[n]at c;simp at c
   |true=>
    rw[n]at c;simp only[we]at c;have:=Ads hr c;have n:=wj.1 n;subst n;unfold MD;cases op<;>simp only[sF]at i<;>first|(cases i;done)|(simp only[wk];exact this)
 case h_2=>
  rename_i a b;obtain rfl:=FI f;obtain rfl:=FI d;rw[j<|fun e=>by cases e];have:=AcP hr c;unfold MD;cases op<;>exact this
 case h_3=>
  rename_i ps G;simp only[PR]at f d;obtain⟨xs,rfl,f⟩:=f;obtain⟨ys,rfl,d⟩:=d;rw[j<|fun e=>by cases e];split at c
  case h_2=>simp at c
  rename_i ks z;have eq:∀ {r:Bool},Hj ks ps G=some r->Bz C.T t (.agg xs) (.agg ys)=some r:=by
   intro r g;obtain⟨L,K,E⟩:=Rv f d g;have:Ns (C.T.flat t) xs ys=some r:=by simp[Ns,z,L,K,E]
   unfold Bz;split<;>first|exact this|(simp_all;done)
  split at c
  case h_1=>
   rename_i r g;simp only[AW]at c;obtain⟨rfl,rfl⟩:=c;exact OK.pure hr (by show BE h ((Bz C.T t (.agg xs)<|.agg ys).map _)=_;rw[eq g];rfl)<|D4 _
  case h_2=>
   rename_i r g;simp only[AW]at c;obtain⟨rfl,rfl⟩:=c;exact OK.pure hr (by show BE h ((Bz C.T t (.agg xs)<|.agg ys).map _)=_;rw[eq g];rfl)<|D4 _
  case h_3=>simp at c
 case h_4=>
  split at c
  case h_4=>simp at c
  case h_3=>
   rename_i e _ _ l;split at c
   case h_3=>simp at c
   case h_1=>
    rename_i r s;simp only[AW]at c;obtain⟨rfl,rfl⟩:=c;obtain⟨k1,k2,k3⟩:=RW hr l f d s;rw[j k2,k3];exact OK.pure hr (by simp only[k1];rfl)<|IV _
   case h_2=>
    rename_i r s;simp only[AW]at c;obtain⟨rfl,rfl⟩:=c;obtain⟨k1,k2,k3⟩:=RW hr l f d s;rw[j k2,k3];exact OK.pure hr (by simp only[k1];rfl)<|IV _
  case h_2=>
   rename_i e _ _ l;unfold kY at c;split at c
   case h_3=>simp at c
   case h_1=>
    have i:=Z4 (op:=.eql) hr l f c;obtain⟨m,b,u,o,w,e⟩:=i;subst e;simp only[PR]at d;subst d;rw[j m,w];exact OK.pure hr (v':=.bool b) (by simp only[u];rfl) (by simpa using o)
   case h_2=>
    have i:=Z4 (op:=.neq) hr l f c;obtain⟨m,b,u,o,w,e⟩:=i;subst e;simp only[PR]at d;subst d;rw[j m,w];exact OK.pure hr (v':=.bool<|!b) (by simp only[u];rfl) (by simpa using o)
  rename_i a b J I l;obtain rfl:=HR J f;obtain rfl:=HR I d;rw[j<|fun e=>by cases e];have eq:Bz C.T t (.bool a) (.bool b)=some (a==b):=by unfold Bz;rw[l]
  split at c
  case h_1=>
   simp only[AW]at c;obtain⟨rfl,rfl⟩:=c;exact OK.pure hr (by show BE h ((Bz C.T t (.bool a)<|.bool b).map _)=_;rw[eq];rfl)<|D4 _
  case h_2=>
   simp only[AW]at c;obtain⟨rfl,rfl⟩:=c;exact OK.pure hr (by show BE h ((Bz C.T t (.bool a)<|.bool b).map _)=_;rw[eq];rfl)<|D4 _
  case h_3=>simp at c
theorem Afd(hr:SR B h0 F ρ st.nx st.ob h){op:UnOp}{p:PV}{x:V}(c:PR F ρ st.nx p x){v:PV}(a:(pun op p st).To v st'):OK B h0 F ρ st h [] (BE h<|dun op x) v st':=by
 unfold pun at a;split at a<;>simp only[M8,AW]at a
 ·obtain⟨rfl,rfl⟩:=a;obtain rfl:=CU c;exact OK.pure hr rfl (Dz _ _)
 ·obtain⟨rfl,rfl⟩:=a;obtain rfl:=OZ c;exact OK.pure hr rfl (IV _)
 ·obtain⟨rfl,rfl⟩:=a;simp only[PR]at c;obtain⟨b,rfl⟩:=c;exact OK.pure hr (v':=.bool<|!b) rfl (by simp[PR])
 ·obtain⟨rfl,rfl⟩:=a;obtain rfl:=H8 c;exact OK.pure hr rfl (D4 _)
theorem AbT(hr:SR B h0 F ρ st.nx st.ob h){s d:TypeId}{p:PV}{x:V}(e:PR F ρ st.nx p x){v:PV}(a:(kV C.T s d p st).To v st'):OK B h0 F ρ st h [] (BE h<|Gm C.T h s d x) v st':=by
 unfold kV at a;split at a<;>simp only[M8,AW]at a
 ·rename_i b c;obtain⟨rfl,rfl⟩:=a;obtain rfl:=CU e;exact OK.pure hr (by simp[Gm,b,c,BE])<|Dz _ _
 ·rename_i b c;obtain⟨rfl,rfl⟩:=a;obtain rfl:=FI e;exact OK.pure hr (by simp[Gm,b,c,BE])<|KT _
theorem AaZ(hr:SR B h0 F ρ st.nx st.ob h){c a b:PV}{x y z:V}(g:PR F ρ st.nx c x)(f:PR F ρ st.nx a y)(e:PR F ρ st.nx b z){v:PV}(d:(gL c a b st).To v st'):
  ∃t,x=.bool t/\OK B h0 F ρ st h [] (BE h<|some<|if t then y else z) v st':=by
 unfold gL at d;split at d
 case h_3=>simp at d
 case h_1=>
  rename_i t;simp only[AW]at d;obtain⟨rfl,rfl⟩:=d;refine⟨t,OZ g,OK.pure hr rfl ?_⟩;cases t<;>assumption
 case h_2=>
  rename_i t;refine⟨t,H8 g,?_⟩;split at d
  case h_1=>
   simp only[AW]at d;obtain⟨rfl,rfl⟩:=d;obtain rfl:=H8 f;obtain rfl:=OZ e;refine OK.pure hr rfl ?_;cases t<;>exact D4 _
  case h_2=>
   simp only[AW]at d;obtain⟨rfl,rfl⟩:=d;obtain rfl:=OZ f;obtain rfl:=H8 e;refine OK.pure hr rfl ?_;cases t<;>exact D4 _
  case h_3=>
   cases d with
   |tt h=>simp only[AW]at h;obtain⟨rfl,rfl⟩:=h;exact OK.pure hr rfl f
   |ff h=>simp only[AW]at h;obtain⟨rfl,rfl⟩:=h;exact OK.pure hr rfl e
theorem xF(hr:SR B h0 F ρ st.nx st.ob h){t:TypeId}{p:PV}{x:V}(m:PR F ρ st.nx p x){f:Nat}{v:PV}(a:(Yo C.T t p f st).To v st'):OK B h0 F ρ st h [] (BE h<|KI C.T t x f) v st':=by
 unfold Yo at a;split at a
 case h_2=>simp at a
 rename_i fs ps n;split at a
 case h_2=>simp at a
 rename_i k b;split at a
 case h_2=>simp at a
 rename_i d i l o;simp only[Me]at a;obtain⟨c,rfl⟩:=a;simp only[PR]at m;obtain⟨cs,rfl,hps⟩:=m;rw[Na]at c;have hp:=hps.drop k.offset;rcases Lj hp c with⟨j,_,q,g⟩|⟨j,u,r,e,g⟩
 ·exact OK.pure hr (by simp only[KI,n,b,Mi,l,o,j,we,BE]) g
 ·have:cs[k.offset]?=some u:=by
   have:=wi (·[0]?) e;simpa using this
  exact OK.pure hr (by simp only[KI,n,b,Mi,l,o,j,wg,this,BE]) g
theorem sN(hr:SR B h0 F ρ st.nx st.ob h){t:TypeId}{p:PV}{x:V}(m:PR F ρ st.nx p x){f:Nat}{v:PV}(a:(Yf C.T t p f st).To v st'):
  OK B h0 F ρ st h [] (BE h<|Kz C.T t x f) v st':=by
 have live:∀ {id},IC (st.obj id)=true->∃b n,ρ id=some (b,n):=by
  intro id r;obtain⟨o,z⟩:=Jp r;obtain⟨b,n,_,h1,_⟩:=hr.at z;exact⟨b,n,h1⟩
 unfold Yf at a;split at a
 case h_2=>simp at a
 rename_i fs A;split at a
 case h_2=>simp at a
 rename_i w q;split at a
 case h_2=>simp at a
 rename_i i r;cases l:zg i.size 0 with
 |true=>rw[l]at a;simp at a
 |false=>
  have u:i.size≠0:=by intro e;rw[e]at l;cases l
  rw[l]at a;simp only[wg]at a;have d:∀b off,Kz C.T t (.ptr b off) f=some (.ptr b<|off+w.offset):=by
   intro b off;simp only[Kz,A,q,r,u,vg]
  split at a
  ·rename_i id off;cases g:IC (st.obj id)with
   |false=>rw[g]at a;simp at a
   |true=>
   rw[g]at a;simp only[we,AW]at a;obtain⟨rfl,rfl⟩:=a;have c:=m;simp only[PR]at c;obtain⟨b,n,h1⟩:=live g;obtain rfl:=c.2 b n h1;refine OK.pure hr (by rw[d];rfl) ?_;simp only[PR];exact⟨c.1,fun b' n' k=>by rw[h1]at k;cases k;rfl⟩
  ·rename_i id sz j off;cases g:IC (st.obj id)with
   |false=>rw[g]at a;simp at a
   |true=>
   rw[g]at a;simp only[we,AW]at a;obtain⟨rfl,rfl⟩:=a;have c:=m;simp only[PR]at c;obtain⟨b,n,h1⟩:=live g;obtain rfl:=c.2 b n h1;refine OK.pure hr (by rw[d];rfl) ?_;simp only[PR];exact⟨c.1,fun b' n' k=>by rw[h1]at k;cases k;simp[Nat.add_assoc]⟩
  ·rename_i s y off;simp only[AW]at a;obtain⟨rfl,rfl⟩:=a;simp only[PR]at m;obtain⟨b,o,cs,rfl,h1,h2⟩:=m;refine OK.pure hr (by rw[d];rfl) ?_;simp only[PR];exact⟨b,o,cs,by simp[Nat.add_assoc],h1,h2⟩
  ·simp at a
end
end Go.Pe
