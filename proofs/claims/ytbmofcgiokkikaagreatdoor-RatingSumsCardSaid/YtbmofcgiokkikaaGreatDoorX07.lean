import Derived.Test.YtbmofcgiokkikaaGreatDoorX06b
import Derived.Shelf.Strings.OnBuilder
import Derived.Shelf.Strconv.Itoa3
import Derived.Lib.LaidTab
import Derived.Shelf.Strings.Repeat
import Derived.Lib.AppendIntMem
/- A part of a proof; no law is stated here. -/
noncomputable section
set_option maxRecDepth 100000
open Bool renaming and_eq_true -> zc
open Nat renaming eq_of_beq_eq_true -> zd, beq -> ze, le_of_ble_eq_true -> zg, mul_le_mul_right -> zj, lt_of_lt_of_le -> zl, ble_eq_true_of_le -> zr, ble -> zw, succ_mul -> zx, le_refl -> z7, blt -> z8, add -> ym, beq_refl -> yn, mul_one -> qg
open List renaming mem_singleton -> zf, getElem?_eq_none -> zi, mem_of_mem_drop -> zm, getElem?_take_of_lt -> zn, take_of_length_le -> zo, mem_of_mem_take -> zu, getElem?_drop -> zz, length_append -> yy, drop_take -> yz, ext_getElem? -> qh, all_eq_true -> qu, length_nil -> jc
open Option.some renaming injEq -> zh
open Go.Proofs.Tryz renaming prog -> zk, underlying302 -> zy, underlying5 -> ya, underlying9 -> yb, underlying251 -> yc, underlying233 -> yd, underlying264 -> ye, underlying217 -> yf, underlying20 -> yg, zeroValue251 -> yh, zeroValue233 -> yi, zeroValue264 -> yj, zeroValue217 -> yk, underlying0 -> yo, underlying3 -> yp, underlying4 -> yq, underlying5 -> yr, underlying9 -> yt, zeroValue20 -> yu, underlying217 -> yw, underlying251 -> yx, zeroValue0 -> y7, zeroValue3 -> y8, zeroValue4 -> y9, zeroValue5 -> qc, zeroValue9 -> qd, zeroValue217 -> qe, sizeOf251 -> qi, sizeOf233 -> qj, sizeOf264 -> qk, sizeOf217 -> ql, sizeOf20 -> qm, isAgg251 -> qn, isAgg233 -> qo, isAgg264 -> qp, isAgg217 -> qq, sizeOf0 -> qv, sizeOf3 -> qw, sizeOf4 -> qx, sizeOf5 -> qy, sizeOf9 -> qz, isAgg20 -> q9
open Option renaming map_eq_some_iff -> zp
open Go.Lib renaming decDigits -> zq, nDigits -> z6, zeros24 -> qf
open Array renaming size_replicate -> zt, getElem?_append_left -> yv, toList_inj -> qt
open Go.Det.V renaming ok -> je
open Go.Value renaming int -> jf
open Go.Det renaming CN -> jg
namespace Go.Det
open Go.Proofs
def G4:Go.Shelf.Ren:=⟨fun|171=>209|243=>238|246=>271|283=>272|284=>273|285=>274|286=>275|129=>229|317=>289|318=>290|319=>291|320=>292|337=>299|338=>300|n=>n,fun|3=>3|9=>9|2=>2|4=>4|171=>302|0=>0|53=>217|37=>251|5=>5|173=>304|212=>325|51=>264|20=>20|213=>326|46=>233|232=>337|233=>338|n=>n,fun|17=>5|18=>8|19=>9|n=>n⟩
theorem H3:Go.Proofs.LaysM.n171 Go.Proofs.Tryz.prog G4:=
  { mixed:=by kernel_rfl,f129:=Go.Proofs.Tryz.func229.trans (wi some ag),f171:=Go.Proofs.Tryz.func209.trans (wi some ag),f243:=Go.Proofs.Tryz.func238.trans (wi some ag),f246:=Go.Proofs.Tryz.func271.trans (wi some ag),f283:=Go.Proofs.Tryz.func272.trans (wi some ag),f284:=Go.Proofs.Tryz.func273.trans (wi some ag),f285:=Go.Proofs.Tryz.func274.trans (wi some ag),f286:=Go.Proofs.Tryz.func275.trans (wi some ag),f317:=Go.Proofs.Tryz.func289.trans (wi some ag),f318:=Go.Proofs.Tryz.func290.trans (wi some ag),f319:=Go.Proofs.Tryz.func291.trans (wi some ag),f320:=Go.Proofs.Tryz.func292.trans (wi some ag),f337:=Go.Proofs.Tryz.func299.trans (wi some ag),f338:=Go.Proofs.Tryz.func300.trans (wi some ag),t0:=yo,a0:=Go.Proofs.Tryz.isAgg0,z0:=qv,v0:=y7,t2:=Go.Proofs.Tryz.underlying2,a2:=Go.Proofs.Tryz.isAgg2,z2:=Go.Proofs.Tryz.sizeOf2,v2:=Go.Proofs.Tryz.zeroValue2,t3:=yp,a3:=Go.Proofs.Tryz.isAgg3,z3:=qw,v3:=y8,t4:=yq,a4:=Go.Proofs.Tryz.isAgg4,z4:=qx,v4:=y9,t5:=yr,a5:=Go.Proofs.Tryz.isAgg5,z5:=qy,v5:=qc,t9:=yt,a9:=Go.Proofs.Tryz.isAgg9,z9:=qz,v9:=qd,t20:=yg,a20:=q9,z20:=qm,v20:=yu,t37:=yc,a37:=qn,z37:=qi,v37:=yh,t46:=yd,a46:=qo,z46:=qj,v46:=yi,t51:=ye,a51:=qp,z51:=qk,v51:=yj,t53:=yf,a53:=qq,z53:=ql,v53:=yk,t171:=Go.Proofs.Tryz.underlying302,a171:=Go.Proofs.Tryz.isAgg302,z171:=Go.Proofs.Tryz.sizeOf302,v171:=Go.Proofs.Tryz.zeroValue302,t173:=Go.Proofs.Tryz.underlying304,a173:=Go.Proofs.Tryz.isAgg304,z173:=Go.Proofs.Tryz.sizeOf304,v173:=Go.Proofs.Tryz.zeroValue304,t212:=Go.Proofs.Tryz.underlying325,a212:=Go.Proofs.Tryz.isAgg325,z212:=Go.Proofs.Tryz.sizeOf325,v212:=Go.Proofs.Tryz.zeroValue325,t213:=Go.Proofs.Tryz.underlying326,a213:=Go.Proofs.Tryz.isAgg326,z213:=Go.Proofs.Tryz.sizeOf326,t232:=Go.Proofs.Tryz.underlying337,a232:=Go.Proofs.Tryz.isAgg337,z232:=Go.Proofs.Tryz.sizeOf337,v232:=Go.Proofs.Tryz.zeroValue337,t233:=Go.Proofs.Tryz.underlying338,a233:=Go.Proofs.Tryz.isAgg338,z233:=Go.Proofs.Tryz.sizeOf338,v233:=Go.Proofs.Tryz.zeroValue338,g17:=by kernel_rfl,g18:=by kernel_rfl,g19:=by kernel_rfl,i0:=by kernel_rfl,i2:=by kernel_rfl,i3:=by kernel_rfl,i4:=by kernel_rfl,i5:=by kernel_rfl,i9:=by kernel_rfl,i20:=by kernel_rfl,i37:=by kernel_rfl,i46:=by kernel_rfl,i51:=by kernel_rfl,i53:=by kernel_rfl,i171:=by kernel_rfl,i173:=by kernel_rfl,i212:=by kernel_rfl,i232:=by kernel_rfl,i233:=by kernel_rfl,m17:=by kernel_rfl,m18:=by kernel_rfl,m19:=by kernel_rfl }
open Go.Proofs.Tryz (prog)
theorem Ze(s:Z):(bytesOf s).data.toList=s:=by simp[bytesOf]
def eqU:List V->List Int->Bool
 |[],[]=>true
 | .int .u64 n::l,m::r=>bif decide (n=m)then eqU l r else false
 |_,_=>false
theorem aO{p:Pl}:∀ {cs:List V} {r:List Int} {vs:List Value},eqU cs r=true->Ax p cs vs->vs=r.map fun z=>jf .u64 z
 |[],[],vs,_,h=>by simpa using h
 | .int .u64 n::l,m::r,vs,a,h=>by
  unfold eqU at a;cases b:decide (n=m)with
  |false=>rw[b]at a;cases a
  |true=>
   rw[b]at a;have e:=w6 b;subst e;cases vs with
   |nil=>simp at h
   |cons v vs=>
    simp only[Bu,Ad]at h;rw[h.1,aO a h.2];rfl
def T0(h:H):Bool:=match h.get 5 with
 |some (.cells cs _ _)=>eqU cs Lib.pow10Tab
 |_=>false
def aA:List V->H->Option (V×H)
 |[.int .i64 n],h=>bif T0 h&&decide (-9223372036854775808<=n)&&decide (n<=9223372036854775807)then some (.str<|Lib.itoa n,h)else none
 |_,_=>none
def sL:Za:=fun f=>bif ze f 209 then some aA else none
theorem sN:∀ {cs:List V} {r:List Int},eqU cs r=true->cs.length=r.length/\∀d∈cs,d.ok=true
 |[],[],_=>⟨rfl,fun d a=>by cases a⟩
 | .int .u64 n::l,m::r,b=>by
  unfold eqU at b;cases a:decide (n=m)with
  |false=>rw[a]at b;cases b
  |true=>
   rw[a]at b;obtain⟨c,e⟩:=sN (cs:=l) (r:=r) b;refine⟨by simp[c],fun d a=>?_⟩;rcases List.mem_cons.1 a with rfl|a
   ·rfl
   ·exact e d a
theorem Acw : prog.globalNamed "internal/strconv.uint64pow10" = some 5 := by kernel_rfl
theorem at5{p:Pl}(a:Gp p):p[5]?=some (5,20):=a _<|List.mem_cons_self ..
theorem cO {p : Pl} {h : H} {w : World} (hr : R p h w) (g : Gp p) (a : T0 h = true) : Lib.TabIs prog w "internal/strconv.uint64pow10" .u64 Lib.pow10Tab := by
 unfold T0 at a;split at a
 case h_2=>cases a
 rename_i cs t fz i;obtain⟨r,n,x,d,j,c,fz',rfl,k,m,e,_⟩:=hr.obj 5 _ i;rw[at5 g]at d;cases d;obtain⟨e1,e2⟩:=sN a;have l:cs.length=20:=e1.trans rfl;have b:c.toList.take cs.length=c.toList:=zo (by simp;omega);rw[b]at e;have f:=aO a (e.OS e2);unfold Lib.TabIs World.var?;rw[Acw];show(match w.heap[5]? with
  |some (.cells cs _ _)=>some cs
  |_=>none)=_
 rw[j];show some c=_;rw[<-f]
theorem rU:LG prog sL:=by
 intro f q c p h w args args' v h' hr i o a;unfold sL at c;cases d:ze f 209 with
 |false=>rw[d]at c;cases c
 |true=>
  rw[d]at c;cases c;cases zd d;unfold aA at a;split at a
  case h_2=>cases a
  rename_i n;cases b:(T0 h&&decide (-9223372036854775808<=n)&&decide (n<=9223372036854775807))with
  |false=>rw[b]at a;cases a
  |true=>
   rw[b]at a;cases a;rw[zc,zc,w5,w5]at b;obtain⟨x,m,g⟩:=o.one;have:args'= #[x]:=qt.1 m;subst this;simp only[Ad]at g;subst g;refine(Any.strconv_Itoa H3 n b.1.2 b.2 w<|cO hr i b.1.1).mono ?_;rintro e w' ⟨rfl,k,os,rfl⟩;exact⟨_,p,rfl,by simp only[Ad];rfl,Nd hr ⟨rfl,rfl,rfl,by show w.heap.size<=(w.heap++os).size;rw[Array.size_append];omega,fun j l=>by show(w.heap++os)[j]?=_;exact yv l⟩⟩
open Go.Proofs
def KX:Go.Shelf.Ren:=⟨fun|105=>212|212=>244|99=>196|165=>245|166=>213|170=>246|169=>214|263=>276|264=>178|206=>231|240=>247|241=>277|276=>278|277=>293|n=>n,fun|9=>9|3=>3|4=>4|20=>20|0=>0|46=>233|109=>273|5=>5|72=>253|76=>238|51=>264|146=>306|53=>217|148=>218|70=>250|37=>251|75=>237|127=>276|164=>308|80=>210|n=>n,fun|n=>n⟩
theorem dE:Go.Proofs.Lays.n105 Go.Proofs.Tryz.prog KX:=
  { mixed:=by kernel_rfl,f99:=Go.Proofs.Tryz.func196.trans (wi some ag),f105:=Go.Proofs.Tryz.func212.trans (wi some ag),f165:=Go.Proofs.Tryz.func245.trans (wi some ag),f166:=Go.Proofs.Tryz.func213.trans (wi some ag),f169:=Go.Proofs.Tryz.func214.trans (wi some ag),f170:=Go.Proofs.Tryz.func246.trans (wi some ag),f206:=Go.Proofs.Tryz.func231.trans (wi some ag),f212:=Go.Proofs.Tryz.func244.trans (wi some ag),f240:=Go.Proofs.Tryz.func247.trans (wi some ag),f241:=Go.Proofs.Tryz.func277.trans (wi some ag),f263:=Go.Proofs.Tryz.func276.trans (wi some ag),f264:=Go.Proofs.Tryz.func178.trans (wi some ag),f276:=Go.Proofs.Tryz.func278.trans (wi some ag),f277:=Go.Proofs.Tryz.func293.trans (wi some ag),t0:=yo,a0:=Go.Proofs.Tryz.isAgg0,z0:=qv,v0:=y7,t3:=yp,a3:=Go.Proofs.Tryz.isAgg3,z3:=qw,v3:=y8,t4:=yq,a4:=Go.Proofs.Tryz.isAgg4,z4:=qx,v4:=y9,t5:=yr,a5:=Go.Proofs.Tryz.isAgg5,z5:=qy,v5:=qc,t9:=yt,a9:=Go.Proofs.Tryz.isAgg9,z9:=qz,v9:=qd,t20:=yg,a20:=q9,z20:=qm,v20:=yu,t37:=yc,a37:=qn,z37:=qi,v37:=yh,t46:=yd,a46:=qo,z46:=qj,v46:=yi,t51:=ye,a51:=qp,z51:=qk,v51:=yj,t53:=yf,a53:=qq,z53:=ql,v53:=yk,t70:=Go.Proofs.Tryz.underlying250,a70:=Go.Proofs.Tryz.isAgg250,z70:=Go.Proofs.Tryz.sizeOf250,v70:=Go.Proofs.Tryz.zeroValue250,t72:=Go.Proofs.Tryz.underlying253,a72:=Go.Proofs.Tryz.isAgg253,z72:=Go.Proofs.Tryz.sizeOf253,v72:=Go.Proofs.Tryz.zeroValue253,t75:=Go.Proofs.Tryz.underlying237,a75:=Go.Proofs.Tryz.isAgg237,z75:=Go.Proofs.Tryz.sizeOf237,v75:=Go.Proofs.Tryz.zeroValue237,t76:=Go.Proofs.Tryz.underlying238,a76:=Go.Proofs.Tryz.isAgg238,z76:=Go.Proofs.Tryz.sizeOf238,v76:=Go.Proofs.Tryz.zeroValue238,t109:=Go.Proofs.Tryz.underlying273,a109:=Go.Proofs.Tryz.isAgg273,z109:=Go.Proofs.Tryz.sizeOf273,v109:=Go.Proofs.Tryz.zeroValue273,t127:=Go.Proofs.Tryz.underlying276,a127:=Go.Proofs.Tryz.isAgg276,z127:=Go.Proofs.Tryz.sizeOf276,v127:=Go.Proofs.Tryz.zeroValue276,t146:=Go.Proofs.Tryz.underlying306,a146:=Go.Proofs.Tryz.isAgg306,z146:=Go.Proofs.Tryz.sizeOf306,v146:=Go.Proofs.Tryz.zeroValue306,t148:=Go.Proofs.Tryz.underlying218,a148:=Go.Proofs.Tryz.isAgg218,z148:=Go.Proofs.Tryz.sizeOf218,v148:=Go.Proofs.Tryz.zeroValue218,t164:=Go.Proofs.Tryz.underlying308,a164:=Go.Proofs.Tryz.isAgg308,z164:=Go.Proofs.Tryz.sizeOf308,v164:=Go.Proofs.Tryz.zeroValue308 }
theorem uM:Builder.Extra zk KX:=
  { sizeBuilder:=by kernel_rfl,liesBuilder:=by kernel_rfl,t5:=ya,a5:=Tryz.isAgg5,z5:=Tryz.sizeOf5,v5:=Tryz.zeroValue5,infoByte:=by kernel_rfl,cellsByte:=by kernel_rfl,sizeByte:=by kernel_rfl,neB5:=by decide }
open Go.Proofs.Tryz (prog)
def UB:List V->H->Option (V×H)
  |[.str s,.int .i64<|.ofNat c],h=>bif zw c 9223372036854775807&&zw (EY s*c) 140737488355328 then some (.str<|Lib.repeatL s c,h)else none
  |_,_=>none
def Tc:Za:=fun f=>bif ze f 212 then some UB else none
theorem XB:LG prog Tc:=by
  intro f q b p h w args args' v h' hr r o a
  unfold Tc at b
  cases i:ze f 212 with
  |false=>rw[i]at b;cases b
  |true=>
    rw[i]at b;cases b
    cases zd i
    unfold UB at a
    split at a
    case h_2=>cases a
    rename_i s c
    cases d:(zw c 9223372036854775807&&zw (EY s*c) 140737488355328)with
    |false=>rw[d]at a;cases a
    |true=>
      rw[d]at a;cases a
      rw[zc]at d
      have m:=zg d.1
      have l:=zg d.2
      rw[Dw]at l
      obtain⟨x,y,n,k,j⟩:=o.two
      have:args'= #[x,y]:=qt.1 n
      subst this
      simp only[Ad]at k j;subst k j
      refine(Any.strings_Repeat dE uM (bytesOf s) c w m<|by rw[BV];exact l).mono ?_
      rintro e w' ⟨rfl,g⟩
      exact⟨_,p,rfl,by simp only[Ad];rw[Ze];rfl,Nd hr g⟩
end Go.Det
namespace Go.Proofs
open Go.Shelf Go.RowKit Go.Sort Go.Lib Go.Det
namespace FmtU
set_option maxHeartbeats 6400000 in
theorem small(i:Nat)(q:i<100)(w:World):Calls zk 243 #[.int .u64 i,.int .i64 10] w fun e w'=>e=.returned (.string ⟨(zq i).toArray⟩)/\w'=w:=by
 have mixed:=H3.mixed;have t3:=Tryz.underlying3;have a3:=Tryz.isAgg3;have z3:=Tryz.sizeOf3;have v3:=Tryz.zeroValue3;have t9:=yb;have a9:=Tryz.isAgg9;have z9:=Tryz.sizeOf9;have v9:=Tryz.zeroValue9;have t4:=Tryz.underlying4;have a4:=Tryz.isAgg4;have z4:=Tryz.sizeOf4;have v4:=Tryz.zeroValue4;have f:=yw;have o:=Tryz.isAgg217;have a:=Tryz.sizeOf217;have j:=qe;have m:=zy;have g:=Tryz.isAgg302;have n:=Tryz.sizeOf302;have l:=Tryz.zeroValue302;have t0:=Tryz.underlying0;have a0:=Tryz.isAgg0;have z0:=Tryz.sizeOf0;have v0:=Tryz.zeroValue0;have c:=yx;have p:=Tryz.isAgg251;have d:=Tryz.sizeOf251;have k:=Tryz.zeroValue251;have t5:=ya;have a5:=Tryz.isAgg5;have z5:=Tryz.sizeOf5;have v5:=Tryz.zeroValue5;have b:∀args w,(callFunc 272 args).run zk w=.ok (.enter 272 args) w:=enters_of Tryz.func272 ag rfl;go_enter Tryz.func243,Tryz.ntmps243
 go_wp2_with (go_at_fn 272;refine(Any.internal_strconv_small (ρ:=G4) { H3 with } i q _).mono ?_;rintro e w' ⟨rfl,rfl⟩)
 go_ret
 exact⟨rfl,rfl⟩
set_option maxHeartbeats 6400000 in
theorem big (u : Nat) (Q : 100 <= u) (a : u < 18446744073709551616) (w : World) (g : Lib.TabIs Tryz.prog w "internal/strconv.uint64pow10" .u64 Lib.pow10Tab) :
  Calls zk 243 #[.int .u64 u,.int .i64 10] w fun e w'=>e=.returned (.string ⟨(zq u).toArray⟩)/\∃k os,w'=grow (w.drewN k) os:=by
 have mixed:=H3.mixed;have t3:=Tryz.underlying3;have a3:=Tryz.isAgg3;have z3:=Tryz.sizeOf3;have v3:=Tryz.zeroValue3;have t9:=yb;have a9:=Tryz.isAgg9;have z9:=Tryz.sizeOf9;have v9:=Tryz.zeroValue9;have t4:=Tryz.underlying4;have a4:=Tryz.isAgg4;have z4:=Tryz.sizeOf4;have v4:=Tryz.zeroValue4;have t:=yw;have I:=Tryz.isAgg217;have q:=Tryz.sizeOf217;have x:=qe;have D:=zy;have v:=Tryz.isAgg302;have E:=Tryz.sizeOf302;have A:=Tryz.zeroValue302;have t0:=Tryz.underlying0;have a0:=Tryz.isAgg0;have z0:=Tryz.sizeOf0;have v0:=Tryz.zeroValue0;have r:=yx;have J:=Tryz.isAgg251;have s:=Tryz.sizeOf251;have z:=Tryz.zeroValue251;have t5:=ya;have a5:=Tryz.isAgg5;have z5:=Tryz.sizeOf5;have v5:=Tryz.zeroValue5;have G:∀args w,(callFunc 273 args).run zk w=.ok (.enter 273 args) w:=enters_of Tryz.func273 ag rfl;have y:∀args w,(callFunc 274 args).run zk w=.ok (.enter 274 args) w:=enters_of Tryz.func274 ag rfl;have f:1<=u:=ae
 have p:z6 u<=20:=by have:=Lib.numDigits_eq u f a;split at this<;>omega
 have i:zk.arrayLen 302=24:=by simp[Program.arrayLen,zy]
 have M:∀W,(Instr.sliceAt 302 (.pointer (some ⟨w.heap.size,0,none⟩)) none (some (.int .i64 (z6 u:Int))) none).run zk W=.ok (.slice (some ⟨w.heap.size,0,none⟩) (z6 u) 24) W:=fun W=>by
  rw[run_sliceAt_array_h W 302 ⟨w.heap.size,0,none⟩ (by simp[Program.arrayLen,Program.elem,zy]) .i64 (z6 u:Int) ae (by rw[i];omega)];go_simp
 have d:=Lib.holds_zero0 w 302 (z6 u) ae;have c:=Any.internal_strconv_formatBase10 (ρ:=G4) (P:=zk) { H3 with } w.heap.size 0 24 u (Array.replicate (z6 u) 0) (w.alloc (.cells qf 302)) d (by rw[zt];exact Lib.lt_pow_nDigits u) a (by rw[zt];omega);rw[zt]at c;have m:=Lib.hid d;have O:(100:Int)<=(u:Int):=ae
 clear d i;go_enter Tryz.func243,Tryz.ntmps243
 go_wp2_with (first
  |(go_at_fn 273;refine(Any.internal_strconv_numDigits (ρ:=G4) { H3 with } u f a _ (Lib.tabIs_alloc g _)).mono ?_;rintro e w' ⟨rfl,rfl⟩))
 go_at_fn 274
 refine c.mono ?_;rintro e w' ⟨rfl,k,v',l,rfl,o⟩;have L:(convert 251 9 (.slice (some ⟨w.heap.size,0,none⟩) (z6 u) 24)).run zk ((putRow (fun(b:UInt8)=>jf .u8 (b.toNat:Int)) (w.alloc (.cells qf 302)) w.heap.size 0 l).drewN k)=.ok (.string ⟨(zq u).toArray⟩) ((putRow (fun(b:UInt8)=>jf .u8 (b.toNat:Int)) (w.alloc (.cells qf 302)) w.heap.size 0 l).drewN k):=by
  have h:=run_convert_bytes_back (P:=zk) ((putRow (fun(b:UInt8)=>jf .u8 (b.toNat:Int)) (w.alloc (.cells qf 302)) w.heap.size 0 l).drewN k) 251 9 5 ⟨w.heap.size,0,none⟩ 24 (zq u) yx ya yb (fun j n=>by
   rw[Lib.row_is_numeral o j n,Lib.add_plain,World.cell?_drewN];exact cell?_putRow (fun(b:UInt8)=>jf .u8 (b.toNat:Int)) _ w.heap.size 0 _ l m.out (by rw[o.size,zt]) j (by rw[o.size];rw[Lib.decDigits_length]at n;exact n))
  rw[Lib.decDigits_length]at h;exact h
 go_wp2
 go_ret
 obtain⟨os,K⟩:=Lib.fin_at w (.cells qf 302) l k 0;exact⟨rfl,k,os,K⟩
theorem all (u : Nat) (b : u < 18446744073709551616) (w : World) (a : Lib.TabIs Tryz.prog w "internal/strconv.uint64pow10" .u64 Lib.pow10Tab) :
  Calls zk 243 #[.int .u64 u,.int .i64 10] w fun e w'=>e=.returned (.string ⟨(zq u).toArray⟩)/\∃k os,w'=grow (w.drewN k) os:=by
 by_cases h:u<100
 ·exact(small u h w).mono fun e w' ⟨c,d⟩=>⟨c,0, #[],by rw[d];simp[World.drewN_zero]⟩
 ·exact big u ae b w a
theorem outer (u : Nat) (b : u < 18446744073709551616) (w : World) (a : Lib.TabIs Tryz.prog w "internal/strconv.uint64pow10" .u64 Lib.pow10Tab) :
  Calls zk 211 #[.int .u64 u,.int .i64 10] w fun e w'=>e=.returned (.string ⟨(zq u).toArray⟩)/\∃k os,w'=grow (w.drewN k) os:=by
 have mixed:=H3.mixed;have t3:=Tryz.underlying3;have a3:=Tryz.isAgg3;have z3:=Tryz.sizeOf3;have v3:=Tryz.zeroValue3;have t9:=yb;have a9:=Tryz.isAgg9;have z9:=Tryz.sizeOf9;have v9:=Tryz.zeroValue9;have f:=yw;have g:=Tryz.isAgg217;have c:=Tryz.sizeOf217;have i:=qe;have d:∀args w,(callFunc 243 args).run zk w=.ok (.enter 243 args) w:=enters_of Tryz.func243 ag rfl;go_enter Tryz.func211,Tryz.ntmps211
 go_wp2_with (go_at_fn 243;refine(all u b _ a).mono ?_;rintro e w' ⟨rfl,k,os,rfl⟩)
 go_ret
 exact⟨rfl,k,os,rfl⟩
end FmtU
end Go.Proofs
namespace Go.Det
open Go.Proofs
open Go.Proofs.Tryz (prog)
def fmtQ:List V->H->Option (V×H)
 |[.int .u64<|.ofNat n,.int .i64<|.ofNat b],h=>bif T0 h&&(zw n 18446744073709551615&&ze b 10)then some (.str<|zq n,h)else none
 |_,_=>none
def fmtS:Za:=fun f=>bif ze f 211 then some fmtQ else none
theorem zM:LG prog fmtS:=by
 intro f q c p h w args args' v h' hr o s a;unfold fmtS at c;cases g:ze f 211 with
 |false=>rw[g]at c;cases c
 |true=>
  rw[g]at c;cases c;cases zd g;unfold fmtQ at a;split at a
  case h_2=>cases a
  rename_i n b;cases d:(T0 h&&(zw n 18446744073709551615&&ze b 10))with
  |false=>rw[d]at a;cases a
  |true=>
   rw[d]at a;cases a;rw[zc,zc]at d;obtain⟨l,i,m⟩:=d;have i:=zg i;cases zd m;obtain⟨x,y,hl,g1,g2⟩:=s.two;have:args'= #[x,y]:=qt.1 hl;subst this;simp only[Ad]at g1 g2;subst g1 g2;refine(FmtU.outer n ae w<|cO hr o l).mono ?_;rintro e w' ⟨rfl,k,os,rfl⟩;exact⟨_,p,rfl,by simp only[Ad];rfl,Nd hr ⟨rfl,rfl,rfl,by show w.heap.size<=(w.heap++os).size;rw[Array.size_append];omega,fun j r=>by show(w.heap++os)[j]?=_;exact yv r⟩⟩
end Go.Det
namespace Go.Pe
open Go.Det
@[reducible] def BE:List Sh->Sh
 |[]=>.unit
 |[a]=>a
 |a::b::l=>.pair a<|BE (b::l)
def Ag:(l:List Sh)->(BE l).T->List PV
 |[],_=>[]
 |[a],x=>[Cx a x]
 |a::b::l,x=>Cx a x.1::Ag (b::l) x.2
structure Am where
 ins:List Sh
 pre:(BE ins).T->Bool
 outs:List Sh
 f:(BE ins).T->(BE outs).T
 nd:Bool:=false
def Sh.sc:Sh->Bool
 | .int _| .bool| .str| .unit| .fnv=>true
 | .list _| .nlist _| .ptr _=>false
 | .pair a b=>a.sc&&b.sc
structure cT where
 ins:List Sh
 ty:TypeId
 el:Sh
 pre:(BE ins).T->List el.T->Bool
 g:(BE ins).T->List el.T->List el.T
structure AL where
 C:Ctx
 sp:FuncId->Option Am
 pl:FuncId->Nat->List Nat
 ct:FuncId->Nat->Bool
 fz:FuncId->Nat->List (Nat×Sh)
 ws:FuncId->Option cT:=fun _=>none
 esc:List FuncId:=[]
 escOk:∀g∈esc,C.prim g=some PK.noEsc.run:=by intro g h;cases h
def FG(st:AQ)(s:Sh)(p:PV):Option (Bool×s.T):=
 bif Ni p==s.RV then
  match Dr st p.cells with
  |some (c,cs)=>match Dv s (L0 s.leaves cs).2 with
   |some x=>some ((L0 s.leaves cs).1&&c,x)
   |none=>none
  |none=>none
 else none
def Dt(st:AQ):(l:List Sh)->List PV->Option (Bool×(BE l).T)
 |[],[]=>some (true,())
 |[a],[p]=>FG st a p
 |a::b::l,p::ps=>match FG st a p,Dt st (b::l) ps with
  |some (c,x),some (d,y)=>some (c&&d,(x,y))
  |_,_=>none
 |_,_=>none
def one:List PV->PV
 |[v]=>v
 |l=>.tup l
def pB(sp:Am)(args:List PV)(st:AQ)(k:PV->AQ->Tr):Tr:=
 match Dt st sp.ins args with
 |some (c,i)=>.ite (c&&sp.pre i) (k (one<|Ag sp.outs<|sp.f i)<|bif sp.outs.all Sh.sc then st else BB (args.flatMap PV.cells) st) .fail
 |none=>.fail
def XQ(w:cT)(args:List PV)(st:AQ)(k:PV->AQ->Tr):Tr:=
 match args.reverse with
 | .sl id sz 0 n none::r=>match Dt st w.ins r.reverse,(BB (r.reverse.flatMap PV.cells) st).obj id with
  |some (c,i),some (.arr false t s l)=>bif ze t w.ty then
    match E4 (.list s) (.list w.el) l with
    |some l'=>.ite (c&&w.pre i l'&&decide (n=List.length (α:=w.el.T) l')&&ze sz w.el.sz) (k (.tup [])<|(BB (r.reverse.flatMap PV.cells) st).setObj id<|.arr false w.ty w.el<|w.g i l') .fail
    |none=>.fail
   else .fail
  |_,_=>.fail
 | .nil::r=>match Dt st w.ins r.reverse with
  |some (c,i)=>.ite (c&&w.pre i []) (k (.tup [])<|BB (r.reverse.flatMap PV.cells) st) .fail
  |none=>.fail
 |_=>.fail
mutual
def AhD:PV->List Nat
 | .ptr id _| .eptr id _ _ _| .sl id _ _ _ _| .mp id| .yl id=>[id]
 | .agg l| .tup l=>KY l
 | .fn _ a b=>KY a++KY b
 |_=>[]
def KY:List PV->List Nat
 |[]=>[]
 |v::vs=>AhD v++KY vs
end
def AeO:Obj->List Nat
 | .box cs=>KY cs
 | .tbox _ cs=>KY cs
 | .lp _ _ _ _ _ _ _ sl=>KY (sl.map (·.2))
 |_=>[]
def JR(st:AQ)(base:Nat):Nat->List Nat->List Nat->List Nat
 |0,_,acc=>acc
 |_+1,[],acc=>acc
 |f+1,i::a,acc=>bif z8 i base||acc.any (ze i)then JR st base f a acc
  else match st.obj i with
   |some o=>JR st base f (a++AeO o)<|acc++[i]
   |none=>JR st base f a acc
def Rf(base:Nat):List Nat->Nat->Nat->Option Nat
 |[],_,i=>bif z8 i base then some i else none
 |j::a,n,i=>bif ze i j then some n else Rf base a (ym n 1) i
mutual
def GR(f:Nat->Option Nat):PV->PV
 | .ptr i o=>match f i with|some j=>.ptr j o|none=>.any
 | .eptr i a b c=>match f i with|some j=>.eptr j a b c|none=>.any
 | .sl i a b c d=>match f i with|some j=>.sl j a b c d|none=>.any
 | .mp i=>match f i with|some j=>.mp j|none=>.any
 | .yl i=>match f i with|some j=>.yl j|none=>.any
 | .agg l=>.agg<|KN f l
 | .tup l=>.tup<|KN f l
 | .fn g a b=>.fn g (KN f a)<|KN f b
 |v=>v
def KN(f:Nat->Option Nat):List PV->List PV
 |[]=>[]
 |v::vs=>GR f v::KN f vs
end
def TW(f:Nat->Option Nat):Obj->Obj
 | .box cs=>.box<|KN f cs
 | .tbox t cs=>.tbox t<|KN f cs
 | .lp g r ps asg body s n sl=>.lp g r ps asg body s n<|sl.map fun x=>(x.1,GR f x.2)
 |o=>o
def low(f:Nat->Option Nat)(base:Nat):Ob->Ob
 |[]=>[]
 |(i,o)::l=>bif z8 i base then(i,TW f o)::low f base l else low f base l
def kept(st:AQ)(f:Nat->Option Nat):List Nat->Nat->Ob->Ob
 |[],_,a=>a
 |j::b,n,a=>match st.obj j with
  |some o=>kept st f b (ym n 1) ((n,TW f o)::a)
  |none=>kept st f b (ym n 1) a
def P3(base:Nat):Ob->List Nat
 |[]=>[]
 |(i,o)::l=>bif z8 i base then AeO o++P3 base l else P3 base l
def Aw(n:Nat)(vs:List (Nat×PV))(ob:Ob)(nx:Nat):AQ:=⟨n,Fl vs,ob,nx⟩
def canon(base:Nat)(L:List Nat)(st:AQ):AQ:=
 let vs:=L.map fun t=>(t,st.get t)
 let a:=JR st base 100 (KY (vs.map (·.2))++P3 base st.ob) []
 let f:=Rf base a base
 Aw st.n (vs.map fun x=>(x.1,GR f x.2)) (kept st f a base<|low f base st.ob) (ym base a.length)
def Aab(base:Nat)(x:Nat×Sh)(st:AQ):AQ:=
 match st.get x.1 with
 | .nil=>st.set x.1<|.dat (.list x.2) []
 | .sl id sz off len _=>match st.obj id with
  |some (.arr _ e s l)=>bif ze sz s.sz then(st.setObj id<|.arr true e s l).set x.1 (.dat (.list s)<|(l.drop off).take len)else st
  |_=>st
 | .ptr id 0=>bif zw base id then match st.obj id with
   |some (.box ps)=>match Dv x.2 ps with
    |some v=>(st.Gu id).set x.1<|.Bb x.2 v 0
    |none=>st
   |_=>st
  else st
 |_=>st
def pA(base:Nat):List (Nat×Sh)->AQ->AQ
 |[],st=>st
 |x::l,st=>pA base l<|Aab base x st
def BR:Code->Nat
 | .region id _ _=>id
 | .seq a _=>BR a
 | .block _ b=>BR b
 | .loop b=>BR b
 | .scope b=>BR b
 |_=>0
def Nf(X:AL)(f:FuncId)(r:Nat)(base:Nat)(st:AQ):AQ:=canon base (X.pl f r)<|pA base (X.fz f r) st
inductive Cal where
 |fn (g:FuncId)
 |rnd (id:Nat)
abbrev GM:=Cal->List PV->AQ->(PV->AQ->Tr)->Tr
def SK(d:Option Nat)(k:AQ->Tr):PO->Tr
 | .bad=>.fail
 | .val v st=>match st.put d v with
  |some st'=>k st'
  |none=>.fail
 | .ite c a b=>.ite c (SK d k a)<|SK d k b
inductive CK where
 |no
 |bad
 |yes (g:Cal) (args:List PV)
def NO(st:AQ)(o:Op):CK:=
 match o with
 | .call c=>match c.callee with
  | .value f=>match RH st f,NA st c.args.toList with
   |some (.fn (.func g) first cap),some args=>.yes (.fn g)<|first++args++cap
   |some (.yl id),some args=>.yes (.rnd id) args
   |_,_=>.bad
  |_=>.no
 |_=>.no
def Ib(T:Cg)(call:GM)(o:Oper)(st:AQ)(k:AQ->Tr):Tr:=
 match NO st o.op with
 | .yes g args=>call g args st fun v st=>match st.put o.dst v with
  |some st'=>k st'
  |none=>.fail
 | .bad=>.fail
 | .no=>SK o.dst k<|pop o.op T st
def TR(T:Cg)(st:AQ)(o:Op):Option (PV×AQ):=
 match o with
 | .convert s d x=>match T.und s,T.und d,RH st x with
  |some .string,some<|.slice e,some (.dat .str l)=>match T.und e with
   |some (.int .u8)=>some (.sl st.nx 1 0 (List.length l) none,st.push<|.arr false e (.int .u8)<|List.map (fun b:UInt8=>(b.toNat:Int)) l)
   |_=>none
  |_,_,_=>none
 |_=>none
def Ab1(T:Cg)(st:AQ)(o:Op):Option PV:=
 match o with
 | .convert s d x=>match T.und s,T.und d,RH st x with
  |some (.pointer t),some .unsafePointer,some (.ptr id off)=>match T.inf t,st.obj id with
   |some i,some (.tbox _ cs)=>bif z8 0 i.size&&z8 off (EY cs)then some (.ptr id off)else none
   |_,_=>none
  |some .unsafePointer,some<|.pointer u,some (.ptr id off)=>match T.inf u,st.obj id with
   |some i,some (.tbox e cs)=>bif z8 0 i.size&&zw i.size (EY cs)&&ze e u&&ze off 0 then some (.ptr id 0)else none
   |_,_=>none
  |_,_,_=>none
 |_=>none
def X4(T:Cg)(st:AQ)(o:Op):Option (PV×AQ):=
 match TR T st o with
 |some r=>some r
 |none=>match Ab1 T st o with
  |some v=>some (v,st)
  |none=>none
def Abg(T:Cg)(call:GM)(o:Oper)(st:AQ)(k:AQ->Tr):Tr:=
 match X4 T st o.op with
 |some (v,a)=>match a.put o.dst v with
  |some b=>k b
  |none=>.fail
 |none=>Ib T call o st k
def guarded(ops:Array Oper)(o:Oper)(st:AQ)(yes no:AQ->Tr):Tr:=
 match o.guard with
 |none=>yes st
 |some (j,a)=>match (ops[j]?).bind (·.dst)with
  |some t=>bif z8 t st.n then(match st.get t with
   | .bl b=>bif b==a then yes st else no st
   | .dat .bool b=>bif a then .ite b (yes<|st.set t<|.bl true) (no<|st.set t<|.bl false)else .ite b (no<|st.set t<|.bl true)<|yes<|st.set t<|.bl false
   | .tup _=>no st
   | .ub=>.both (bif a then yes (st.set t<|.bl true)else no<|st.set t<|.bl true)<|bif a then no (st.set t<|.bl false)else yes<|st.set t<|.bl false
   |_=>.fail)else .fail
  |none=>.fail
def NP(o:Oper)(k:AQ->Tr)(st:AQ):Tr:=
 match st.put o.dst (.tup [])with
 |some st'=>k st'
 |none=>.fail
def prun(T:Cg)(call:GM)(ops:Array Oper):List Oper->AQ->(AQ->Tr)->Tr
 |[],st,k=>k st
 |o::a,st,k=>guarded ops o st
   (fun st=>Abg T call o st fun st'=>prun T call ops a st' k)
   (fun st=>NP o (fun st'=>prun T call ops a st' k) st)
def yV(st:AQ)(o:Op):Option (List Nat):=
 match o with
 | .load _ x=>match RH st x with
  |some (.ptr id _)|some (.eptr id _ _ _)=>some [id]
  |some (.Bb _ _ _)=>some []
  |_=>none
 | .convert _ _ x=>match RH st x with
  |some (.dat (.int _) _)|some (.dat .str _)=>some []
  |_=>none
 | .call c=>match c.callee,NA st c.args.toList with
  | .builtin .len,some [.dat _ _]| .builtin .len,some [.sl _ _ _ _ _]| .builtin .len,some [.nil]=>some []
  | .builtin .len,some [.mp id]=>some [id]
  |_,_=>none
 | .lookup _ x _ _=>match RH st x with
  |some (.mp id)=>some [id]
  |some .nilm=>some []
  |_=>none
 |_=>none
def Hu(sp:FuncId->Option Am)(st:AQ)(o:Op):Option (List Nat):=
 match o with
 | .store _ x _=>match RH st x with
  |some (.ptr id _)|some (.eptr id _ _ _)=>some [id]
  |_=>none
 | .mapUpdate _ x _ _| .insert _ x _ _=>match RH st x with
  |some (.mp id)=>some [id]
  |_=>none
 | .makeMap _ _| .makeSlice _ _ _=>some []
 | .call c=>match c.callee with
  | .value f=>match RH st f with
   |some (.fn (.func g) _ _)=>match sp g with
    |some _=>some []
    |none=>none
   |_=>none
  | .builtin .append=>match NA st c.args.toList with
   |some (.sl id _ _ _ _::_)=>some [id]
   |some _=>some []
   |none=>none
  | .builtin .delete=>match NA st c.args.toList with
   |some (.mp id::_)=>some [id]
   |_=>none
  | .builtin .unsafeString=>match NA st c.args.toList with
   |some (.eptr id _ _ _::_)=>some [id]
   |_=>none
  |_=>none
 |_=>none
abbrev Rs:=List<|Nat×Option (List Nat)
def W5:Option (List Nat)->Option (List Nat)->Bool
 |some a,some b=>a.all fun i=> !(b.any<|ze i)
 |some [],none=>true
 |_,_=>false
def LP(st:AQ):Option (List Nat)->Bool
 |some l=>l.all fun i=>IU<|st.obj i
 |none=>false
def apart(anc:Nat->Nat->Bool)(i:Nat)(st:AQ)(t:Option (List Nat))(a:Rs):Bool:=a.all fun r=>anc i r.1||(W5 r.2 t&&LP st r.2)
def behind(st:AQ)(t:Option (List Nat))(a:Rs):Rs:=a.map fun r=>bif W5 r.2 t&&LP st r.2 then r else(r.1,none)
def nT(st:AQ)(o:Op):Bool:=match NO st o with
 | .yes (.rnd _) _=>false
 |_=>true
def KS(T:Cg)(sp:FuncId->Option Am)(call:GM)(ops:Array Oper)(anc:Nat->Nat->Bool):List Nat->AQ->Rs->(AQ->Tr)->Tr
 |[],st,_,k=>k st
 |i::b,st,a,k=>match ops[i]? with
  |none=>.fail
  |some o=>guarded ops o st
    (fun st=>bif EM o then Ib T call o st (fun st'=>KS T sp call ops anc b st' (bif R4 o then(i,yV st o.op)::a else a) k)
     else bif CL o then Ib T call o st (fun st'=>KS T sp call ops anc b st' a k)
     else bif apart anc i st (Hu sp st o.op) a&&nT st o.op then Ib T call o st (fun st'=>KS T sp call ops anc b st' (behind st (Hu sp st o.op) a) k)else .fail)
    (fun st=>bif Da o then(bif apart anc i st (some []) a then NP o (fun st'=>KS T sp call ops anc b st' (behind st (some []) a) k) st else .fail)
     else NP o (fun st'=>KS T sp call ops anc b st' a k) st)
def LR(X:AL)(f:FuncId)(r:Nat)(st:AQ):List (Nat×PV):=(X.pl f r).map fun t=>(t,st.get t)
def exec(X:AL)(call c:GM)(nd ro:Bool)(d:Nat)(f:FuncId)(base:Nat):Code->AQ->(DX->AQ->Tr)->Tr
 | .skip,st,k| .label _,st,k=>k .normal st
 | .region _ ops dr,st,k=>bif dr then(bif !ro||IE ops (Ff ops)then KS X.C.T X.sp c ops (Ff ops).a (Ff ops).ord st [] (k .normal)else .fail)else prun X.C.T call ops ops.toList st<|k .normal
 | .seq a b,st,k=>exec X call c nd ro d f base a st fun e st'=>match e with
  | .normal=>bif X.ct f (BR b)then .cut nd ro d f base b (Nf X f (BR b) base st') k else exec X call c nd ro d f base b st' k
  |e=>k e st'
 | .cond x a b,st,k=>match RH st x with
  |some (.bl t)=>bif t then exec X call c nd ro d f base a st k else exec X call c nd ro d f base b st k
  |some (.dat .bool t)=>match x with
   | .tmp s=>.ite t (exec X call c nd ro d f base a (st.set s<|.bl true) k)<|exec X call c nd ro d f base b (st.set s<|.bl false) k
   |_=>.ite t (exec X call c nd ro d f base a st k)<|exec X call c nd ro d f base b st k
  |some .ub=>match x with
   | .tmp s=>.both (exec X call c nd ro d f base a (st.set s<|.bl true) k)<|exec X call c nd ro d f base b (st.set s<|.bl false) k
   |_=>.fail
  |_=>.fail
 | .block id b,st,k=>exec X call c nd ro d f base b st fun e st'=>match e with
  | .exit i=>bif ze i id then k .normal st' else k e st'
  |e=>k e st'
 | .loop b,st,k=>.loop nd ro d f base b (Nf X f (BR b) base st) k
 | .exit i,st,k=>k (.exit i) st
 | .ret,st,k=>k .ret st
 | .scope b,st,k=>exec X call c nd ro d f base b st k
 | .rangeFunc g ps asg b,st,k=>bif ro then .fail else match RH st g with
  |some (.fn (.func l) first cap)=>bif (X.C.prim l).isSome then .fail else
   call (.fn l) (first++[.yl st.nx]++cap) (st.push<|.lp f (BR b) ps asg b .ready st.n<|LR X f (BR b) st) fun _ j=>
    match j.obj st.nx with
    |some (.lp _ _ _ _ _ s _ _)=>match s with
     | .ready=>k .normal<|j.Gu st.nx
     | .ret=>k .ret<|j.Gu st.nx
     | .exit i=>k (.exit i)<|j.Gu st.nx
     | .busy=>.fail
    |_=>.fail
  |_=>.fail
 |_,_,_=>.fail
def iR(T:Cg)(st:AQ):ResultVar->Option PV
 | .tmp t=>some<|st.get t
 | .cell a t=>match NZ T st t (st.get a)with
  | .val v _=>some v
  | .IV _ v _=>some v
  |_=>none
def N3(T:Cg)(st:AQ):List ResultVar->List Bool
 |[]=>[]
 | .tmp _::b=>N3 T st b
 | .cell a t::b=>match NZ T st t (st.get a)with
  | .IV c _ _=>c::N3 T st b
  |_=>N3 T st b
def TX:List Bool->Tr->Tr
 |[],t=>t
 |c::cs,t=>.ite c (TX cs t) .fail
def tA(T:Cg)(st:AQ):List ResultVar->Option (List PV)
 |[]=>some []
 |r::a=>match iR T st r,tA T st a with
  |some v,some vs=>some (v::vs)
  |_,_=>none
def FM:List PV->Nat->List (Nat×PV)
 |[],_=>[]
 |v::vs,i=>(i,v)::FM vs (ym i 1)
def enter(X:AL)(call a:GM)(nd:Bool)(d:Nat)(f:FuncId)(args:List PV)(st:AQ)(k:PV->AQ->Tr):Tr:=
 match X.C.fn f with
 |none=>.fail
 |some i=>bif i.cert then
   exec X call a nd false d f st.nx i.body (Aw (ym args.length<|Nat.sub i.ntmps args.length) (FM args 0) st.ob st.nx) fun e s=>match e with
    | .exit _=>.fail
    |_=>match tA X.C.T s i.results.toList with
     |some vs=>TX (N3 X.C.T s i.results.toList)<|k (one vs) ⟨st.n,st.fr,s.ob,s.nx⟩
     |none=>.fail
  else .fail
def N9:List Tmp->List PV->AQ->AQ
 |t::ts,v::vs,st=>N9 ts vs<|bif z8 t st.n then st.set t v else st
 |_,_,st=>st
def Yy(X:AL)(call c:GM)(nd:Bool)(d:Nat)(id:Nat)(args:List PV)(st:AQ)(k:PV->AQ->Tr):Tr:=
 match st.obj id with
 |some (.lp f _ ps asg b .ready n sl)=>bif ze args.length ps.size then
   exec X call c nd true d f st.nx asg (N9 ps.toList args<|Aw n sl st.ob st.nx) fun e s=>match e with
   | .normal=>match s.obj id with
    |some (.lp w u r l v .ready n1 t)=>
     exec X call c nd true d f st.nx b (s.setObj id<|.lp w u r l v .busy n1 t) fun x s2=>
      match s2.obj id with
      |some (.lp m p g a q _ o j)=>match x with
       | .normal=>k (.bl true) ⟨st.n,st.fr,(s2.setObj id<|.lp m p g a q .ready o j).ob,s2.nx⟩
       | .ret=>k (.bl false) ⟨st.n,st.fr,(s2.setObj id<|.lp m p g a q .ret o j).ob,s2.nx⟩
       | .exit i=>k (.bl false) ⟨st.n,st.fr,(s2.setObj id<|.lp m p g a q (.exit i) o j).ob,s2.nx⟩
      |_=>.fail
    |_=>.fail
   |_=>.fail
  else .fail
 |_=>.fail
def Afp(args:List PV)(st:AQ)(k:PV->AQ->Tr):Tr:=
 match args with
 |[.ptr id off]=>bif IU (st.obj id)then k (.ptr id off) st else .fail
 |_=>.fail
def Cy(X:AL)(nd:Bool):Nat->GM
 |0=>fun _ _ _ _=>.fail
 |d+1=>fun c args st k=>match c with
  | .fn g=>match X.sp g with
   |some sp=>bif nd|| !sp.nd then pB sp args st k else .fail
   |none=>match X.ws g with
    |some w=>XQ w args st k
    |none=>bif X.esc.any (ze g)then Afp args st k else match X.C.prim g,X.C.spec g with
     |none,none=>enter X (Cy X nd d) (Cy X false d) nd d g args st k
     |_,_=>.fail
  | .rnd id=>Yy X (Cy X nd d) (Cy X false d) nd d id args st k
def kI:PV->Bool
 | .dat _ _| .Bb _ _ _| .bl _| .nil=>true
 |_=>false
def SU(v:PV):Bool:=v.cells.all kI
def AaV:PV->Bool
 | .tup a=>a.all SU
 |v=>SU v
def gcO(v:PV)(ob:Ob):Ob:=bif AaV v then[]else ob
def tree(X:AL)(nd:Bool)(d:Nat)(f:FuncId)(args:List PV):Tr:=
 enter X (Cy X nd d) (Cy X false d) nd d f args (Aw 0 [] [] 0) fun v st=>.leaf v<|gcO v st.ob
def body(X:AL)(nd ro:Bool)(d:Nat)(f:FuncId)(base:Nat)(b:Code)(st:AQ)(k:DX->AQ->Tr):Tr:=
 exec X (Cy X nd d) (Cy X false d) nd ro d f base b st fun e st'=>match e with
  | .normal=>.loop nd ro d f base b (Nf X f (BR b) base st') k
  |e=>k e st'
def AV(X:AL)(nd ro:Bool)(d:Nat)(f:FuncId)(base:Nat)(b:Code)(st:AQ)(k:DX->AQ->Tr):Tr:=exec X (Cy X nd d) (Cy X false d) nd ro d f base b st k
inductive Ev (X:AL) (Q:PV->Ob->Prop):Nat->Tr->Prop where
 |leaf {n:Nat} {v:PV} {ob:Ob}:Q v ob->Ev X Q n (.leaf v ob)
 |ite {n:Nat} {c:Bool} {a b:Tr}:(c=true->Ev X Q n a)->(c=false->Ev X Q n b)->Ev X Q n (.ite c a b)
 |both {n:Nat} {a b:Tr}:Ev X Q n a->Ev X Q n b->Ev X Q n (.both a b)
 |cut {n:Nat} {nd ro:Bool} {d:Nat} {f:FuncId} {base:Nat} {b:Code} {st:AQ} {k:DX->AQ->Tr}:Ev X Q n (AV X nd ro d f base b st k)->Ev X Q n (.cut nd ro d f base b st k)
 |alts {n m:Nat} {f:Nat->Tr}:(∀i,i<m->Ev X Q n (f i))->Ev X Q n (.alts m f)
 |loop {n:Nat} {nd ro:Bool} {d:Nat} {f:FuncId} {base:Nat} {b:Code} {st:AQ} {k:DX->AQ->Tr}:Ev X Q n (body X nd ro d f base b st k)->Ev X Q (n+1) (.loop nd ro d f base b st k)
abbrev Fz:=Nat->Option (List V)
abbrev EA:=Nat->Option (Nat×Nat)
def DC(F:Fz):(s:Sh)->s.T->List V->Prop
 | .int k,x,cs=>cs=[.int k x]
 | .bool,x,cs=>cs=[.bool x]
 | .str,x,cs=>cs=[.str x]
 | .list s,l,cs=>∃v,cs=[v]/\((l=[]/\(v=.nils\/v=.esl\/v=.es0))\/
   ∃b off cap o e,v=.sl b off l.length cap o/\l.length<=cap/\F b=some e/\off+l.length*s.sz<=e.length/\(o=0\/o=s.sz)/\
    ∀i (h:i<l.length),DC F s l[i]<|(e.drop<|off+i*s.sz).take s.sz)
 | .pair a b,x,cs=>∃c d,cs=c++d/\DC F a x.1 c/\DC F b x.2 d
 | .unit,_,cs=>cs=[]
 | .fnv,x,cs=>cs=[match (x:Option Fn)with|some f=>.fn f [] []|none=>.nilf]
 | .ptr s,x,cs=>∃b o e,cs=[.ptr b o]/\F b=some e/\o+s.sz<=e.length/\DC F s x ((e.drop o).take s.sz)
 | .nlist s,l,cs=>∃v,cs=[v]/\((l=[]/\v=.nils)\/(l≠[]/\
   ∃b off cap o e,v=.sl b off l.length cap o/\l.length<=cap/\F b=some e/\off+l.length*s.sz<=e.length/\(o=0\/o=s.sz)/\
    ∀i (h:i<l.length),DC F s l[i]<|(e.drop<|off+i*s.sz).take s.sz))
theorem DC.len{F:Fz}:∀ {s:Sh} {x:s.T} {cs:List V},DC F s x cs->cs.length=s.sz
 | .int _,_,_,h=>by subst h;rfl
 | .bool,_,_,h=>by subst h;rfl
 | .str,_,_,h=>by subst h;rfl
 | .list _,_,_,h=>by obtain⟨v,rfl,_⟩:=h;rfl
 | .pair a b,x,_,h=>by
  obtain⟨c,d,rfl,e,f⟩:=h;rw[yy,e.len,f.len];rfl
 | .unit,_,_,h=>by subst h;rfl
 | .nlist _,_,_,h=>by obtain⟨v,rfl,_⟩:=h;rfl
 | .fnv,_,_,h=>by subst h;rfl
 | .ptr _,_,_,h=>by obtain⟨b,o,g,rfl,_⟩:=h;rfl
theorem DC.ok{F:Fz}:∀ {s:Sh} {x:s.T} {cs:List V},DC F s x cs->∀v∈cs,v.ok=true
 | .int _,_,_,h=>by grind [DC,je]
 | .bool,_,_,h=>by grind [DC,je]
 | .str,_,_,h=>by grind [DC,je]
 | .list s,_,_,h=>by
  obtain⟨v,rfl,⟨_,rfl|rfl|rfl⟩|⟨b,off,cap,o,f,rfl,_⟩⟩:=h<;>simp[je]
 | .pair a b,x,_,h=>by
  obtain⟨c,d,rfl,g,i⟩:=h;intro v e;rcases List.mem_append.1 e with e|e
  ·exact g.ok v e
  ·exact i.ok v e
 | .unit,_,_,h=>by grind [DC]
 | .fnv,x,_,h=>by subst h;intro v e;rw[zf.1 e];cases (x:Option Fn)<;>rfl
 | .nlist s,_,_,h=>by
  obtain⟨v,rfl,⟨_,rfl⟩|⟨_,b,off,cap,o,f,rfl,_⟩⟩:=h<;>simp[je]
 | .ptr _,_,_,h=>by obtain⟨b,o,f,rfl,_⟩:=h;simp[je]
theorem DC.mono{F F':Fz}(e:∀b cs,F b=some cs->F' b=some cs):∀ {s:Sh} {x:s.T} {cs:List V},DC F s x cs->DC F' s x cs
 | .int _,_,_,h=>by simpa only[DC]using h
 | .bool,_,_,h=>by simpa only[DC]using h
 | .str,_,_,h=>by simpa only[DC]using h
 | .list s,l,_,h=>by
  obtain⟨v,rfl,h⟩:=h;refine⟨v,rfl,?_⟩;rcases h with h|⟨b,off,cap,o,m,f,g,j,k,q,n⟩
  ·grind
  ·exact .inr ⟨b,off,cap,o,m,f,g,e _ _ j,k,q,fun i p=>(n i p).mono e⟩
 | .pair a b,x,_,h=>by
  obtain⟨c,d,rfl,f,g⟩:=h;exact⟨c,d,rfl,f.mono e,g.mono e⟩
 | .unit,_,_,h=>by simpa only[DC]using h
 | .fnv,_,_,h=>by simpa only[DC]using h
 | .ptr s,x,_,h=>by
  obtain⟨b,o,m,f,g,j,k⟩:=h;exact⟨b,o,m,f,e _ _ g,j,k.mono e⟩
 | .nlist s,l,_,h=>by
  obtain⟨v,rfl,h⟩:=h;refine⟨v,rfl,?_⟩;rcases h with h|⟨h0,b,off,cap,o,m,f,g,j,k,q,n⟩
  ·grind
  ·exact .inr ⟨h0,b,off,cap,o,m,f,g,e _ _ j,k,q,fun i p=>(n i p).mono e⟩
theorem DC.nl{F:Fz}{s:Sh}{l:List s.T}{cs:List V}(h:DC F (.nlist s) l cs):DC F (.list s) l cs:=by
 simp only[DC]at h ⊢;obtain⟨v,rfl,h⟩:=h;rcases h with⟨rfl,rfl⟩|⟨_,h⟩
 ·simp
 simp_all
theorem DC.nl'{F:Fz}{s:Sh}{l:List s.T}{cs:List V}(h:DC F (.list s) l cs)(h0:0<l.length):DC F (.nlist s) l cs:=by
 have a:l≠[]:=ah
 simp_all [DC]
mutual
def PR(F:Fz)(ρ:EA)(N:Nat):PV->V->Prop
 | .any,_=>True
 | .bl b,v=>v=.bool b
 | .ub,v=>∃b,v=.bool b
 | .dat s x,v=>DC F s x [v]
 | .nil,v=>v=.nils
 | .nilp,v=>v=.nilp
 | .nilm,v=>v=.nilm
 | .nilf,v=>v=.nilf
 | .nili,v=>v=.nili
 | .agg l,v=>∃cs,v=.agg cs/\BJ F ρ N l cs
 | .tup l,v=>∃cs,v=.tup cs/\BJ F ρ N l cs
 | .ptr id off,v=>id<N/\∀b n,ρ id=some (b,n)->v=.ptr b off
 | .eptr id sz i off,v=>id<N/\∀b n,ρ id=some (b,n)->v=.ptr b (i*sz+off)
 | .Bb s x off,v=>∃b o cs,v=.ptr b (o+off)/\F b=some cs/\o+s.sz<=cs.length/\DC F s x ((cs.drop o).take s.sz)
 | .sl id sz off len cap,v=>id<N/\∀b n,ρ id=some (b,n)->
   (len<=cap.getD len/\off+cap.getD len<=n/\∃o,(o=0\/o=sz)/\v=.sl b (off*sz) len (cap.getD len) o)\/
   (len=0/\cap=some 0/\off<=n/\(v=.esl\/∃c,v=.sl b c 0 0 0/\c<=off*sz))
 | .mp id,v=>id<N/\∀b n,ρ id=some (b,n)->v=.map b
 | .fn f first captured,v=>∃a b,v=.fn f a b/\BJ F ρ N first a/\BJ F ρ N captured b
 | .yl id,v=>id<N/\∀b n,ρ id=some (b,n)->v=.yld b
def BJ(F:Fz)(ρ:EA)(N:Nat):List PV->List V->Prop
 |[],l=>l=[]
 |p::ps,l=>∃v vs,l=v::vs/\PR F ρ N p v/\BJ F ρ N ps vs
end
section
variable {F F':Fz}{ρ ρ':EA}{N N':Nat}
@[simp] theorem CH(l:List V):BJ F ρ N [] l↔l=[]:=by rfl
@[simp] theorem Bo(p:PV)(ps:List PV)(v:V)(vs:List V):BJ F ρ N (p::ps) (v::vs)↔PR F ρ N p v/\BJ F ρ N ps vs:=by
 simp only[BJ];grind
theorem BJ.len:∀ {ps:List PV} {vs:List V},BJ F ρ N ps vs->ps.length=vs.length
 |[],vs,h=>by simp_all
 |p::ps,vs,h=>by
  obtain⟨v,vs,rfl,_,a⟩:=h;simp[a.len]
theorem BJ.append:∀ {a:List PV} {x:List V} {b:List PV} {y:List V},BJ F ρ N a x->BJ F ρ N b y->BJ F ρ N (a++b) (x++y)
 |[],x,b,y,h,h'=>by simp_all
 |p::ps,x,b,y,h,h'=>by
  obtain⟨v,vs,rfl,c,d⟩:=h;simp only[List.cons_append,Bo];exact⟨c,d.append h'⟩
theorem BJ.drop:∀ {a:List PV} {x:List V} (n:Nat),BJ F ρ N a x->BJ F ρ N (a.drop n) (x.drop n)
 |[],x,n,h=>by simp_all
 |p::ps,x,0,h=>by grind
 |p::ps,x,n+1,h=>by
  obtain⟨v,vs,rfl,c,b⟩:=h;simpa using b.drop n
theorem BJ.take:∀ {a:List PV} {x:List V} (n:Nat),BJ F ρ N a x->BJ F ρ N (a.take n) (x.take n)
 |[],x,n,h=>by simp_all
 |p::ps,x,0,h=>by simp
 |p::ps,x,n+1,h=>by
  obtain⟨v,vs,rfl,b,c⟩:=h;simpa using⟨b,c.take n⟩
theorem BJ.get:∀ {a:List PV} {x:List V},BJ F ρ N a x->∀ {i:Nat} {p:PV},a[i]?=some p->∃v,x[i]?=some v/\PR F ρ N p v
 |[],x,h,i,p,hp=>by grind
 |q::ps,x,h,i,p,hp=>by
  obtain⟨v,vs,rfl,c,b⟩:=h;cases i with
  |zero=>grind
  |succ i=>simpa using b.get hp
structure Le(F:Fz)(ρ:EA)(N:Nat)(F':Fz)(ρ':EA)(N':Nat):Prop where
 fz:∀b cs,F b=some cs->F' b=some cs
 rho:∀id,id<N->ρ' id=ρ id\/ρ' id=none
 n:N<=N'
theorem Le.refl:Le F ρ N F ρ N:=⟨fun _ _ h=>h,(by simp),z7 _⟩
theorem Le.trans{f:Fz}{d:EA}{g:Nat}(a:Le F ρ N F' ρ' N')(b:Le F' ρ' N' f d g):Le F ρ N f d g:=
 ⟨fun c cs h=>b.fz c cs<|a.fz c cs h,fun id h=>by
  rcases b.rho id (zl h a.n)with e|e
  ·rw[e];exact a.rho id h
  grind,Nat.le_trans a.n b.n⟩
theorem Le.at(a:Le F ρ N F' ρ' N'){id:Nat}(h:id<N){x:Nat×Nat}(b:ρ' id=some x):ρ id=some x:=by
 rcases a.rho id h with e|e
 ·grind
 grind
mutual
theorem PR.mono(c:Le F ρ N F' ρ' N'):∀ {p:PV} {v:V},PR F ρ N p v->PR F' ρ' N' p v
 | .any,_,_=>by simp[PR]
 | .bl _,_,h=>by simpa only[PR]using h
 | .ub,_,h=>by simpa only[PR]using h
 | .dat s x,_,h=>by simp only[PR]at h ⊢;exact h.mono c.fz
 | .nil,_,h| .nilp,_,h| .nilm,_,h| .nilf,_,h| .nili,_,h=>by simpa only[PR]using h
 | .agg l,_,h=>by obtain⟨cs,rfl,e⟩:=h;exact⟨cs,rfl,e.mono c⟩
 | .tup l,_,h=>by obtain⟨cs,rfl,e⟩:=h;exact⟨cs,rfl,e.mono c⟩
 | .ptr _ _,_,h=>by exact⟨zl h.1 c.n,fun b n d=>h.2 b n<|c.at h.1 d⟩
 | .eptr _ _ _ _,_,h=>by exact⟨zl h.1 c.n,fun b n d=>h.2 b n<|c.at h.1 d⟩
 | .Bb s x off,_,h=>by
  obtain⟨b,o,cs,e,g,i,j⟩:=h;exact⟨b,o,cs,e,c.fz _ _ g,i,j.mono c.fz⟩
 | .sl _ _ _ _ _,_,h=>by exact⟨zl h.1 c.n,fun b n d=>h.2 b n<|c.at h.1 d⟩
 | .mp _,_,h=>by exact⟨zl h.1 c.n,fun b n d=>h.2 b n<|c.at h.1 d⟩
 | .fn f a b,_,h=>by
  obtain⟨x,y,rfl,e,g⟩:=h;exact⟨x,y,rfl,e.mono c,g.mono c⟩
 | .yl _,_,h=>by exact⟨zl h.1 c.n,fun b n d=>h.2 b n<|c.at h.1 d⟩
theorem BJ.mono(a:Le F ρ N F' ρ' N'):∀ {ps:List PV} {vs:List V},BJ F ρ N ps vs->BJ F' ρ' N' ps vs
 |[],_,h=>by simp_all
 |p::ps,_,h=>by
  obtain⟨v,vs,rfl,b,c⟩:=h;exact⟨v,vs,rfl,b.mono a,c.mono a⟩
end
theorem PR.lz:∀ {p:PV} {v:V},PR F ρ N p v->PR F ρ N (lz p) v:=by
 intro p v h;unfold Pe.lz;split
 ·exact h.nl
 omega
theorem BJ.lz:∀ {ps:List PV} {vs:List V},BJ F ρ N ps vs->BJ F ρ N (ps.map Pe.lz) vs
 |[],_,h=>by grind
 |p::ps,_,h=>by
  obtain⟨v,vs,rfl,a,b⟩:=h;simp only[List.map_cons,Bo];exact⟨a.lz,b.lz⟩
theorem dJ{s:Sh}{p:PV}{v:V}(h:PR F ρ N p v)(a:(WH s p).1=true):PR F ρ N (WH s p).2 v:=by
 unfold WH at a ⊢;split
 ·rename_i s b x;cases c:(s==b)with
  |false=>exact h
  |true=>
   have a:(bif s==b then(decide (0<List.length x),PV.dat b.nlist x)else(true,PV.dat b.list x)).1=true:=a;rw[c]at a;simp only[we,w5]at a;exact h.nl' a
 ·rename_i s b x;cases c:(s==b)with
  |false=>exact h
  |true=>exact h.nl
 omega
theorem S1:∀ {l:List Sh} {ps:List PV} {vs:List V},BJ F ρ N ps vs->(L0 l ps).1=true->BJ F ρ N (L0 l ps).2 vs
 |[],ps,vs,h,_=>h
 |s::l,[],vs,h,_=>h
 |s::l,p::ps,vs,h,a=>by
  obtain⟨v,vs,rfl,b,c⟩:=h;simp only[L0,zc]at a;simp only[L0,Bo];exact⟨dJ b a.1,S1 c a.2⟩
def Ez(F:Fz)(s:Sh)(l:List s.T)(cs:List V):Prop:=cs.length=l.length*s.sz/\∀i (h:i<l.length),DC F s l[i]<|(cs.drop<|i*s.sz).take s.sz
theorem Ez.mono(c:∀b cs,F b=some cs->F' b=some cs){s:Sh}{l:List s.T}{cs:List V}(h:Ez F s l cs):Ez F' s l cs:=⟨h.1,fun i a=>(h.2 i a).mono c⟩
theorem Ez.ok{F:Fz}{s:Sh}{l:List s.T}{cs:List V}(h:Ez F s l cs):∀v∈cs,v.ok=true:=by
 intro v d;obtain⟨k,b⟩:=List.mem_iff_getElem?.1 d;have a:=(List.getElem?_eq_some_iff.1 b).1;have f:0<s.sz:=by
  rcases Nat.eq_zero_or_pos s.sz with e|e
  ·rw[h.1,e,Nat.mul_zero]at a;omega
  omega
 have c:k/s.sz<l.length:=Nat.div_lt_of_lt_mul (by rw[Nat.mul_comm, <-h.1];exact a);refine(h.2 _ c).ok v ?_;refine List.mem_iff_getElem?.2 ⟨k % s.sz,?_⟩;grind [Nat.mod_lt,Nat.div_add_mod]
def DV(F:Fz)(s:Sh)(x:s.T)(v:V):Prop:=(s.RV=true->∃cs,v=.agg cs/\DC F s x cs)/\(s.RV=false->DC F s x [v])
theorem DV.mono(a:∀b cs,F b=some cs->F' b=some cs){s:Sh}{x:s.T}{v:V}(h:DV F s x v):DV F' s x v:=
 ⟨fun e=>by obtain⟨cs,c,d⟩:=h.1 e;exact⟨cs,c,d.mono a⟩,fun e=>(h.2 e).mono a⟩
inductive MR (F:Fz) (ks vs:Sh):List (ks.T×vs.T)->List (V×V×Nat)->Prop where
 |nil:MR F ks vs [] []
 |cons {k:ks.T} {v:vs.T} {l:List (ks.T×vs.T)} {a b:V} {n:Nat} {es:List (V×V×Nat)}:DV F ks k a->DV F vs v b->MR F ks vs l es->MR F ks vs ((k,v)::l) ((a,b,n)::es)
theorem MR.mono(a:∀b cs,F b=some cs->F' b=some cs){ks vs:Sh}{l:List (ks.T×vs.T)}{es:List (V×V×Nat)}(h:MR F ks vs l es):MR F' ks vs l es:=by
 induction h with
 |nil=>exact .nil
 |cons c e _ d=>exact .cons (c.mono a) (e.mono a) d
def Qv(sl:List (Nat×PV))(t:Nat):PV:=((Fl sl).get t).getD .any
def LpR:LpS->LoopState->Option Code->Prop
 | .ready,st,a=>st=.ready/\a=none
 | .busy,st,_=>st=.busy
 | .ret,st,a=>st=.done/\a=some .ret
 | .exit i,st,a=>st=.done/\a=some (.exit i)
def aI(F:Fz)(ρ:EA)(N n:Nat):Obj->O->Prop
 | .arr _ e s l,o=>∃cs fz,o=.cells cs e fz/\Ez F s l cs/\fz.2<=fz.1/\l.length=n
 | .box ps,o=>∃cs t fz,o=.cells cs t fz/\BJ F ρ N ps cs/\fz.2<=fz.1/\∀v∈cs,v.ok=true
 | .tbox t ps,o=>∃cs fz,o=.cells cs t fz/\BJ F ρ N ps cs/\fz.2<=fz.1/\∀v∈cs,v.ok=true
 | .map ks vs l,o=>∃es a,o=.map es a/\MR F ks vs l es
 | .siter s pos,o=>o=.siter s pos
 | .lp _ _ ps asg body s n' sl,o=>∃ls,o=.loop ls/\ls.ps=ps/\ls.asg=asg/\ls.body=body/\LpR s ls.st ls.pend/\ls.fr.n=n'/\∀t,PR F ρ N (Qv sl t)<|ls.fr.get t
theorem aI.mono(d:Le F ρ N F' ρ' N'){n:Nat}{x:Obj}{o:O}(h:aI F ρ N n x o):aI F' ρ' N' n x o:=by
 cases x with
 |arr fz e s l=>obtain⟨cs,f,a,b,c⟩:=h;exact⟨cs,f,a,b.mono d.fz,c⟩
 |box ps=>obtain⟨cs,t,f,a,b,c⟩:=h;exact⟨cs,t,f,a,b.mono d,c⟩
 |tbox t ps=>obtain⟨cs,f,a,b,c⟩:=h;exact⟨cs,f,a,b.mono d,c⟩
 |map ks vs l=>obtain⟨es,g,a,b⟩:=h;exact⟨es,g,a,b.mono d.fz⟩
 |siter s pos=>exact h
 |lp f r ps asg body s n sl=>obtain⟨ls,a,b,c,k,j,m,i⟩:=h;exact⟨ls,a,b,c,k,j,m,fun t=>(i t).mono d⟩
def Obj.frozen:Obj->Bool
 | .arr fz _ _ _=>fz
 |_=>false
structure H0 where
 h:H
 F:Fz
 pin:List Nat
 ex:Nat->Prop:=fun _=>False
def H0.pins(h0:H0)(ps:List Nat):H0:={ h0 with pin:=ps++h0.pin }
def H0.dU(h0:H0)(B b:Nat):Prop:=B<=b\/h0.ex b
theorem OO{h0:H0}{B b c:Nat}(h:h0.dU B b)(a:c<B)(d:¬h0.ex c):c≠b:=by
 rcases h with h|h
 ·omega
 grind
structure SR(B:Nat)(h0:H0)(F:Fz)(ρ:EA)(N:Nat)(ob:Ob)(h:H):Prop where
 obj:∀id o,AS ob id=some o->∃b n x,ρ id=some (b,n)/\h.get b=some x/\aI F ρ N n o x/\(o.frozen=false->F b=none)/\
  (o.frozen=true->∃cs t fz,x=.cells cs t fz/\F b=some cs)
 inj:∀id id' o o' b n n',AS ob id=some o->AS ob id'=some o'->ρ id=some (b,n)->ρ id'=some (b,n')->id=id'
 frz:∀b cs,F b=some cs->∃t fz,h.get b=some (.cells cs t fz)
 own:∀id b n,ρ id=some (b,n)->id<N/\h0.dU B b
 dead:∀id,AS ob id=none->ρ id=none
 old:∀b,b<B->¬h0.ex b->h.get b=h0.h.get b
 lt:∀b o,h.get b=some o->b<h.nx
 le:B<=h.nx
 fo:∀b cs,F b=some cs->h0.F b=some cs\/h0.dU B b
 gl:∀x∈GP,x.1<B/\¬h0.ex x.1/\h0.h.get x.1=some x.2
 pn:∀b∈h0.pin,h.get b=some (.defd true)/\B<=b/\∀id n,ρ id≠some (b,n)
structure FP(F:Fz)(ρ:EA)(N:Nat)(st:AQ)(fr:Fr):Prop where
 n:st.n=fr.n
 slot:∀t,PR F ρ N (st.get t) (fr.get t)
theorem FP.mono(a:Le F ρ N F' ρ' N'){st:AQ}{fr:Fr}(h:FP F ρ N st fr):FP F' ρ' N' st fr:=⟨h.n,fun t=>(h.slot t).mono a⟩
end
section
variable {B:Nat}{h0:H0}{F:Fz}{ρ:EA}{N:Nat}
mutual
theorem aW:∀ {v:Value} {p:PV},Ow v=some p->∃x,cv v=some x/\PR F ρ N p x
 | .bool b,p,h=>by simp[Ow]at h;subst h;exact⟨_,rfl,by simp[PR]⟩
 | .int k n,p,h=>by simp[Ow]at h;subst h;exact⟨_,rfl,by simp[PR,DC]⟩
 | .string s,p,h=>by simp[Ow]at h;subst h;exact⟨_,rfl,by simp[PR,DC]⟩
 | .pointer none,p,h=>by simp[Ow]at h;subst h;exact⟨_,rfl,by simp[PR]⟩
 | .pointer (some a),p,h=>by simp[Ow]at h
 | .slice none 0 0,p,h=>by simp[Ow]at h;subst h;exact⟨_,rfl,by simp[PR]⟩
 | .slice none 0 (_+1),p,h=>by simp[Ow]at h
 | .slice none (_+1) _,p,h=>by simp[Ow]at h
 | .slice (some a) _ _,p,h=>by simp[Ow]at h
 | .map none,p,h=>by simp[Ow]at h;subst h;exact⟨_,rfl,by simp[PR]⟩
 | .map (some a),p,h=>by simp[Ow]at h
 | .nilFunc,p,h=>by simp[Ow]at h;subst h;exact⟨_,rfl,by simp[PR]⟩
 | .nilIface,p,h=>by simp[Ow]at h;subst h;exact⟨_,rfl,by simp[PR]⟩
 | .func f ⟨[]⟩ ⟨[]⟩,p,h=>by simp[Ow]at h;subst h;exact⟨_,rfl,by simp[PR]⟩
 | .func f ⟨_::_⟩ _,p,h=>by simp[Ow]at h
 | .func f ⟨[]⟩ ⟨_::_⟩,p,h=>by simp[Ow]at h
 | .agg ⟨cs⟩,p,h=>by
  simp only[Ow,zp]at h;obtain⟨xs,c,rfl⟩:=h;obtain⟨ys,h2,h3⟩:=PH c;exact⟨.agg ys,by simp[cv,h2],by simp only[PR];exact⟨ys,rfl,h3⟩⟩
 | .tuple ⟨cs⟩,p,h=>by
  simp only[Ow,zp]at h;obtain⟨xs,c,rfl⟩:=h;obtain⟨ys,h2,h3⟩:=PH c;exact⟨.tup ys,by simp[cv,h2],by simp only[PR];exact⟨ys,rfl,h3⟩⟩
 | .float _ _,p,h=>by simp[Ow]at h
 | .complex _ _ _,p,h=>by simp[Ow]at h
 | .chan _,p,h=>by simp[Ow]at h
 | .iface _ _,p,h=>by simp[Ow]at h
theorem PH:∀ {vs:List Value} {ps:List PV},eN vs=some ps->∃xs,cvs vs=some xs/\BJ F ρ N ps xs
 |[],ps,h=>by simp[eN]at h;subst h;exact⟨[],rfl,by simp⟩
 |v::vs,ps,h=>by
  unfold eN at h;split at h
  case h_2=>cases h
  rename_i x xs a d;cases h;obtain⟨y,c,b⟩:=aW a;obtain⟨ys,g3,g4⟩:=PH d;exact⟨y::ys,by simp[cvs,c,g3],by simp[b,g4]⟩
end
theorem uL(v:V):PR F ρ N (Yg v) v:=by
 cases v<;>simp[Yg,PR,DC]
theorem ET:∀vs:List V,BJ F ρ N (vs.map Yg) vs
 |[]=>by simp
 |v::vs=>by simp only[List.map_cons,Bo];exact⟨uL v,ET vs⟩
variable {C:Ctx}{st st':AQ}{fr:Fr}{h:H}
theorem Cn(b:FP F ρ N st fr){x:Operand}{p:PV}(a:RH st x=some p):∃v,ev C fr x=some v/\PR F ρ N p v:=by
 cases x with
 |tmp t=>simp only[RH,zh]at a;subst a;exact⟨_,rfl,b.slot t⟩
 |const v=>exact aW a
 |global g=>simp[RH]at a
 |func f=>simp only[RH,zh]at a;subst a;exact⟨_,rfl,by simp[PR]⟩
theorem FB(b:FP F ρ N st fr):∀ {xs:List Operand} {ps:List PV},NA st xs=some ps->∃vs,Sv C fr xs=some vs/\BJ F ρ N ps vs
 |[],ps,a=>by simp[NA]at a;subst a;exact⟨[],rfl,by simp⟩
 |x::xs,ps,a=>by
  unfold NA at a;split at a
  case h_2=>cases a
  rename_i v vs c f;cases a;obtain⟨y,e,d⟩:=Cn (C:=C) b c;obtain⟨ys,g3,g4⟩:=FB b f;exact⟨y::ys,by simp[Sv,e,g3],by simp[d,g4]⟩
inductive PRn (F:Fz) (ρ:EA) (N:Nat):List (Nat×PV)->List (Nat×V)->Prop
 |nil:PRn F ρ N [] []
 |cons {i:Nat} {p:PV} {v:V} {l:List (Nat×PV)} {l':List (Nat×V)}:PR F ρ N p v->PRn F ρ N l l'->PRn F ρ N ((i,p)::l) ((i,v)::l')
theorem QV(b:FP F ρ N st fr):∀ {xs:List (Nat×Operand)} {ps:List (Nat×PV)},fX st xs=some ps->∃vs,XW C fr xs=some vs/\PRn F ρ N ps vs
 |[],ps,a=>by simp[fX]at a;subst a;exact⟨[],rfl,.nil⟩
 |(i,x)::xs,ps,a=>by
  unfold fX at a;split at a
  case h_2=>cases a
  rename_i v vs c f;cases a;obtain⟨y,e,d⟩:=Cn (C:=C) b c;obtain⟨ys,g3,g4⟩:=QV b f;exact⟨(i,y)::ys,by simp[XW,e,g3],.cons d g4⟩
structure Rel(B:Nat)(h0:H0)(F:Fz)(ρ:EA)(st:AQ)(fr:Fr)(h:H):Prop where
 fp:FP F ρ st.nx st fr
 sr:SR B h0 F ρ st.nx st.ob h
inductive PO.To:PO->PV->AQ->Prop
 |val {v:PV} {st:AQ}:PO.To (.val v st) v st
 |tt {a b:PO} {v:PV} {st:AQ}:PO.To a v st->PO.To (.ite true a b) v st
 |ff {a b:PO} {v:PV} {st:AQ}:PO.To b v st->PO.To (.ite false a b) v st
@[simp] theorem M0{v:PV}{s:AQ}:¬PO.To .bad v s:=by intro h;cases h
@[simp] theorem Bj{v u:PV}{s t:AQ}:PO.To (.val v s) u t↔v=u/\s=t:=by
 constructor
 ·intro h;cases h;exact⟨rfl,rfl⟩
 ·rintro⟨rfl,rfl⟩;exact .val
@[simp] theorem Cu{c:Bool}{v u:PV}{s t:AQ}:PO.To (.IV c v s) u t↔c=true/\v=u/\s=t:=by
 constructor
 ·intro h;unfold PO.IV at h;cases h with
  |tt h=>cases h;exact⟨rfl,rfl,rfl⟩
  |ff h=>cases h
 ·rintro⟨rfl,rfl,rfl⟩;exact .tt .val
@[simp] theorem SC{o:Option PV}{u:PV}{s t:AQ}:PO.To (ov s o) u t↔o=some u/\s=t:=by
 cases o with
 |none=>simp[ov]
 |some v=>simp only[ov,Bj,zh]
@[simp] theorem Yz{c:Bool}{o:Option PV}{u:PV}{s t:AQ}:PO.To (ovc c s o) u t↔c=true/\o=some u/\s=t:=by
 cases o with
 |none=>simp[ovc]
 |some v=>simp only[ovc,Cu,zh]
def OK(B:Nat)(h0:H0)(F:Fz)(ρ:EA)(st:AQ)(h:H)(a:List Nat)(d:Option OR)(v:PV)(st':AQ):Prop:=
 ∃v' h' F' ρ',(d=some (.val v' h')\/(d=some (.skip h')/\v'=.tup []))/\PR F' ρ' st'.nx v v'/\SR B h0 F' ρ' st'.nx st'.ob h'/\Le F ρ st.nx F' ρ' st'.nx/\
  st'.fr=st.fr/\st'.n=st.n/\h.nx<=h'.nx/\∀b,b<h.nx->h'.get b=h.get b\/∃id∈a,∃n,ρ id=some (b,n)
theorem OK.pure{a:List Nat}(hr:SR B h0 F ρ st.nx st.ob h){d:Option OR}{v:PV}{v':V}(b:d=some (.val v' h))(c:PR F ρ st.nx v v'):OK B h0 F ρ st h a d v st:=
 ⟨v',h,F,ρ,.inl b,c,hr,Le.refl,rfl,rfl,z7 _,fun _ _=>.inl rfl⟩
theorem MT{α:Type}(n:Nat)(l:List α):Det.KL n l=l.drop n:=Qt n l
theorem rd_some{h:H}{b off n:Nat}{cs:List V}{t:TypeId}{fz:Nat×Nat}(c:h.get b=some (.cells cs t fz))(d:off+n<=cs.length)(a:∀v∈(cs.drop off).take n,v.ok=true):rd h b off n=some ((cs.drop off).take n):=by
 rw[aJ];unfold rd0;rw[c];simp only;rw[wd ⟨d,qu.2 a⟩]
theorem ME{d:TypeDesc}{n:Nat}{ps:List PV}{cs:List V}(hp:BJ F ρ N ps cs){p:PV}(a:pick d n ps=some p):
  (EV d=true/\0<n/\n<=cs.length/\PR F ρ N p (.agg<|cs.take n))\/(EV d=false/\∃v vs,cs=v::vs/\PR F ρ N p v):=by
 unfold pick at a;cases e:EV d with
 |true=>
  left;simp only[e,we]at a;rw[Dw,Rb]at a;cases b:(zw n ps.length&&z8 0 n)with
  |false=>rw[b]at a;cases a
  |true=>
   rw[b]at a;simp only[we,zh]at a;subst a;simp only[zc]at b;obtain⟨b,c⟩:=b;refine⟨rfl,zg c,by rw[<-hp.len];exact zg b,?_⟩;simp only[PR];exact⟨_,rfl,hp.take n⟩
 |false=>
  right;simp only[e,wg]at a;cases ps with
  |nil=>cases a
  |cons q g=>
   cases a;simp only[BJ]at hp;obtain⟨v,vs,rfl,f,_⟩:=hp;exact⟨rfl,v,vs,rfl,f⟩
theorem Dl:∀ {s:Sh} {x:s.T} {cs:List V},DC F s x cs->BJ F ρ N (flat s x) cs
 | .pair a b,(x,y),cs,h=>by
  simp only[DC]at h;obtain⟨c,d,rfl,f,e⟩:=h;exact(Dl f).append<|Dl e
 | .unit,_,cs,h=>by simp only[DC]at h;subst h;simp[flat]
 | .int k,x,cs,h=>by simp only[DC]at h;subst h;simp only[flat,Bo,CH,ve];simp[PR,DC]
 | .bool,x,cs,h=>by simp only[DC]at h;subst h;simp only[flat,Bo,CH,ve];simp[PR,DC]
 | .str,x,cs,h=>by simp only[DC]at h;subst h;simp only[flat,Bo,CH,ve];simp[PR,DC]
 | .list s,x,cs,h=>by
  have h':=h;simp only[DC]at h;obtain⟨v,rfl,_⟩:=h;simp only[flat,Bo,CH,ve,PR];exact h'
 | .fnv,x,cs,h=>by simp only[DC]at h;subst h;simp only[flat,Bo,CH,ve];cases (x:Option Fn)<;>simp[PR]
 | .ptr s,x,cs,h=>by
  simp only[DC]at h;obtain⟨b,o,j,rfl,e,g,i⟩:=h;simp only[flat,Bo,CH,ve,PR];exact⟨b,o,j,rfl,e,g,i⟩
 | .nlist s,x,cs,h=>by
  have h':=h;simp only[DC]at h;obtain⟨v,rfl,_⟩:=h;simp only[flat,Bo,CH,ve,PR];exact h'
theorem GB{α:Type}(l:List α)(a b:Nat):l.drop (a+b)=(l.drop a).drop b:=by rw[List.drop_drop]
theorem HI{T:Cg}{t:TypeId}{d:TypeDesc}{i:TI}(A:T.und t=some d)(z:T.inf t=some i){b off:Nat}{cs:List V}{te:TypeId}{fz:Nat×Nat}(n:h.get b=some (.cells cs te fz))
  {m:Nat} (j:∀v∈(cs.drop off).take m,v.ok=true) {ps:List PV} (hp:BJ F ρ N ps ((cs.drop off).take m)) {p:PV} (g:pick d i.size ps=some p):∃v,FC T h t (.ptr b off)=some v/\PR F ρ N p v:=by
 unfold FC;simp only[A,z];have o:((cs.drop off).take m).length<=cs.length-off:=by simp;omega
 have q:off<=cs.length:=by
  have:0<((cs.drop off).take m).length:=by
   rcases ME hp g with⟨_,h0,w,_⟩|⟨_,v,vs,e,_⟩
   ·omega
   ·rw[e];simp
  simp at this;omega
 rcases ME hp g with⟨l,_,w,f⟩|⟨l,v,vs,c,f⟩
 ·simp only[l,we];have:(cs.drop off).take i.size=((cs.drop off).take m).take i.size:=by
   rw[List.take_take];have:i.size<=m:=by
    have:=w;simp at this;omega
   rw[Nat.min_eq_left this]
  rw[rd_some n ae<|fun v f=>j v<|zu<|by rwa [this]at f];refine⟨_,rfl,?_⟩;rw[this];exact f
 ·simp only[l,wg];have y:off+1<=cs.length:=by
   have:((cs.drop off).take m).length=vs.length+1:=by rw[c];rfl
   omega
  have x:(cs.drop off).take 1=[v]:=by
   have:m≠0:=by rintro rfl;simp at c
   obtain⟨k,rfl⟩:=Nat.exists_eq_succ_of_ne_zero this;cases s:cs.drop off with
   |nil=>rw[s]at c;simp at c
   |cons a D=>rw[s]at c;simp only[List.take_succ_cons,List.cons.injEq]at c;simp[c.1]
  rw[rd_some n y (fun u r=>by rw[x]at r;cases zf.1 r;exact j v (by rw[c];simp)),x];exact⟨v,rfl,f⟩
end
section
variable {B:Nat}{h0:H0}{F:Fz}{ρ:EA}{N:Nat}{C:Ctx}{st st':AQ}{fr:Fr}{h:H}
theorem SR.at(hr:SR B h0 F ρ N st.ob h){id:Nat}{o:Obj}(a:st.obj id=some o):∃b n x,ρ id=some (b,n)/\h.get b=some x/\aI F ρ N n o x/\(o.frozen=false->F b=none)/\
  (o.frozen=true->∃cs t fz,x=.cells cs t fz/\F b=some cs):=hr.obj id o a
theorem PS{s:Sh}{l:List s.T}{cs:List V}(c:Ez F s l cs)(b:s.sz=1):∀(n j:Nat),j+n=l.length->BJ F ρ N (Qj s l j n) (cs.drop j)
 |0,j,f=>by
  have:cs.length=l.length:=by rw[c.1,b,qg]
  rw[List.drop_eq_nil_of_le ae];unfold Qj;simp
 |n+1,j,f=>by
  have g:cs.length=l.length:=by rw[c.1,b,qg]
  have a:j<l.length:=ae
  have d:=c.2 j a;rw[b,qg]at d;have e:cs.drop j=(cs.drop j).take 1++cs.drop (j+1):=by
   have:=List.take_append_drop 1<|cs.drop j;rw[List.drop_drop]at this;exact this.symm
  unfold Qj;rw[e,show l.getD j s.Iq=l[j]from by simp[a]];exact(Dl d).append (PS c b n (j+1) ae)
theorem qL(hr:SR B h0 F ρ st.nx st.ob h){t:TypeId}{p:PV}{a:V}(q:PR F ρ st.nx p a){v:PV}(f:(NZ C.T st t p).To v st'):
  OK B h0 F ρ st h [] (BU h<|FC C.T h t a) v st':=by
 unfold NZ at f;split at f
 case h_2=>simp at f
 rename_i d i A z;split at f
 case h_4=>simp at f
 case h_1=>
  rename_i id off;split at f
  case h_4=>simp at f
  case h_3=>
   rename_i tb ps y;simp only[SC]at f;obtain⟨c,rfl⟩:=f;obtain⟨b,n,x,h1,h2,⟨cs,fz,rfl,h4,_,hbok⟩,_⟩:=hr.at y;simp only[PR]at q;obtain rfl:=q.2 b n h1;rw[MT]at c;obtain⟨v',w,r⟩:=HI (h:=h) A z h2 (m:=cs.length) (fun u k=>hbok u<|zm<|zu k) (by rw[zo<|by simp];exact h4.drop off) c;exact OK.pure hr (by rw[w];rfl) r
  case h_2=>
   rename_i E e s l y;cases g:(ze off 0&&ze s.sz 1)with
   |false=>rw[g]at f;simp at f
   |true=>
    rw[g]at f;simp only[we,Yz,w5]at f;obtain⟨I,c,rfl⟩:=f;rw[zc]at g;have h0:=zd g.1;have G:=zd g.2;subst h0;obtain⟨b,n,x,h1,h2,⟨cs,fz,rfl,h4,_⟩,_⟩:=hr.at y;simp only[PR]at q;obtain rfl:=q.2 b n h1;have hp:=PS (ρ:=ρ) (N:=st.nx) h4 G i.size 0 ae;obtain⟨v',w,r⟩:=HI (h:=h) A z h2 (m:=cs.length) (fun u k=>h4.ok u<|zm<|zu k) (by rw[zo<|by simp];exact hp) c;exact OK.pure hr (by rw[w];rfl) r
  rename_i ps y;simp only[SC]at f;obtain⟨c,rfl⟩:=f;obtain⟨b,n,x,h1,h2,⟨cs,te,fz,rfl,h4,_,hbok⟩,_⟩:=hr.at y;simp only[PR]at q;obtain rfl:=q.2 b n h1;rw[MT]at c;obtain⟨v',w,r⟩:=HI (h:=h) A z h2 (m:=cs.length) (fun u k=>hbok u<|zm<|zu k) (by rw[zo<|by simp];exact h4.drop off) c;exact OK.pure hr (by rw[w];rfl) r
 case h_2=>
  rename_i id sz j off;split at f
  case h_2=>simp at f
  rename_i E e s l y;cases g:ze sz s.sz with
  |false=>rw[g]at f;simp at f
  |true=>
   rw[g]at f;simp only[we,Yz,w5]at f;obtain⟨I,c,rfl⟩:=f;have g:=zd g;subst g;obtain⟨b,n,x,h1,h2,⟨cs,fz,rfl,h4,_⟩,_⟩:=hr.at y;simp only[PR]at q;obtain rfl:=q.2 b n h1;have D:=h4.2 j I;rw[show l.getD j s.Iq=l[j]from by simp[I],MT]at c;have hp:BJ F ρ st.nx ((flat s l[j]).drop off) ((cs.drop<|j*s.sz+off).take<|s.sz-off):=by
    have:=(Dl (F:=F) (ρ:=ρ) (N:=st.nx) D).drop off;rw[GB, <-yz]at*;exact this
   obtain⟨v',w,r⟩:=HI (h:=h) A z h2 (fun u k=>D.ok u<|zm (i:=off)<|by rw[GB, <-yz]at k;exact k) hp c;exact OK.pure hr (by rw[w];rfl) r
 case h_3=>
  rename_i s x off;simp only[SC]at f;obtain⟨c,rfl⟩:=f;simp only[PR]at q;obtain⟨b,o,cs,rfl,h1,h2,h3⟩:=q;obtain⟨te,fz,h4⟩:=hr.frz b cs h1;rw[MT]at c;have hp:BJ F ρ st.nx ((flat s x).drop off) ((cs.drop<|o+off).take<|s.sz-off):=by
   have:=(Dl (F:=F) (ρ:=ρ) (N:=st.nx) h3).drop off;rw[GB, <-yz]at*;exact this
  obtain⟨v',w,r⟩:=HI (h:=h) A z h4 (fun u k=>h3.ok u<|zm (i:=off)<|by rw[GB, <-yz]at k;exact k) hp c;exact OK.pure hr (by rw[w];rfl) r
theorem DC.Ul:∀ {s:Sh} {x:s.T} {cs:List V},DC F s x cs->∀v∈cs,v.one=true
 | .int _,_,_,h=>by simp only[DC]at h;subst h;intro v e;rw[zf.1 e];rfl
 | .bool,_,_,h=>by simp only[DC]at h;subst h;intro v e;rw[zf.1 e];rfl
 | .str,_,_,h=>by simp only[DC]at h;subst h;intro v e;rw[zf.1 e];rfl
 | .list s,l,_,h=>by
  simp only[DC]at h;obtain⟨u,rfl,h⟩:=h;intro v e;rw[zf.1 e];rcases h with⟨_,rfl|rfl|rfl⟩|⟨b,off,cap,o,f,rfl,_⟩<;>rfl
 | .pair a b,x,_,h=>by
  simp only[DC]at h;obtain⟨c,d,rfl,g,i⟩:=h;intro v e;rcases List.mem_append.1 e with e|e
  ·exact g.Ul v e
  ·exact i.Ul v e
 | .unit,_,_,h=>by simp only[DC]at h;subst h;intro v e;cases e
 | .fnv,x,_,h=>by simp only[DC]at h;subst h;intro v e;rw[zf.1 e];cases (x:Option Fn)<;>rfl
 | .ptr _,x,_,h=>by simp only[DC]at h;obtain⟨b,o,f,rfl,_⟩:=h;intro v e;rw[zf.1 e];rfl
 | .nlist s,l,_,h=>by
  simp only[DC]at h;obtain⟨u,rfl,h⟩:=h;intro v e;rw[zf.1 e];rcases h with⟨_,rfl⟩|⟨_,b,off,cap,o,f,rfl,_⟩<;>rfl
theorem JA{o:Option Obj}(h:IU o=true):∃x,o=some x:=by cases o with|none=>cases h|some x=>exact⟨x,rfl⟩
theorem Sk(hr:SR B h0 F ρ st.nx st.ob h){p:PV}{v:V}(d:KP st p=true)(hp:PR F ρ st.nx p v):v.one=true:=by
 have key:∀ {id:Nat},IU (st.obj id)=true->∃b n,ρ id=some (b,n):=by
  intro id e;obtain⟨o,f⟩:=JA e;obtain⟨b,n,_,c,_⟩:=hr.at f;exact⟨b,n,c⟩
 cases p<;>simp only[KP]at d<;>simp only[PR]at hp<;>try (cases d;done)
 case bl=>subst hp;rfl
 case dat=>exact hp.Ul v<|zf.2 rfl
 case nil|nilp|nilm|nilf|nili=>subst hp;rfl
 case ptr=>obtain⟨b,n,c⟩:=key d;rw[hp.2 b n c];rfl
 case eptr=>obtain⟨b,n,c⟩:=key d;rw[hp.2 b n c];rfl
 case Bb=>obtain⟨b,o,cs,rfl,_⟩:=hp;rfl
 case sl=>
  obtain⟨b,n,c⟩:=key d;rcases hp.2 b n c with⟨_,_,o,_,rfl⟩|⟨_,_,_,rfl|⟨_,rfl,_⟩⟩<;>rfl
 case mp|yl=>obtain⟨b,n,c⟩:=key d;rw[hp.2 b n c];rfl
 case fn=>obtain⟨a,b,rfl,_⟩:=hp;rfl
theorem gL{v:V}(h:v.one=true):v.cells=[v]:=by cases v<;>first|rfl|cases h
theorem Pg(hr:SR B h0 F ρ st.nx st.ob h){p:PV}{v:V}{ps:List PV}(hp:PR F ρ st.nx p v)(a:pcs st p=some ps):BJ F ρ st.nx ps v.cells:=by
 unfold pcs at a;split at a
 ·cases a;simp only[PR]at hp;obtain⟨cs,rfl,c⟩:=hp;exact c
 ·rename_i q d;cases b:KP st p with
  |false=>rw[b]at a;cases a
  |true=>
   rw[b]at a;cases a;rw[gL<|Sk hr b hp];simpa using hp
theorem Lt(hr:SR B h0 F ρ st.nx st.ob h):∀ {ps:List PV} {vs:List V},ps.all (KP st)=true->BJ F ρ st.nx ps vs->vs.all V.one=true
 |[],vs,_,h=>by simp at h;subst h;rfl
 |p::ps,vs,a,h=>by
  simp only[BJ]at h;obtain⟨v,vs,rfl,b,c⟩:=h;simp only[List.all_cons,zc]at a ⊢;exact⟨Sk hr a.1 b,Lt hr a.2 c⟩
theorem BJ.KM:∀ {a:List PV} {x:List V} {b:List PV} {y:List V},BJ F ρ N a x->BJ F ρ N b y->BJ F ρ N (KM a b) (KM x y)
 |[],x,b,y,h,h'=>by simp at h;subst h;exact h'
 |p::ps,x,b,y,h,h'=>by
  simp only[BJ]at h;obtain⟨v,vs,rfl,c,g⟩:=h;cases b with
  |nil=>simp at h';subst h';show BJ F ρ N [] [];simp
  |cons q d=>
   simp only[BJ]at h';obtain⟨u,e,rfl,i,f⟩:=h';show BJ F ρ N (p::Det.KM ps d) (v::Det.KM vs e);simp only[Bo];exact⟨c,g.KM f⟩
theorem BJ.CN{a:List PV}{x:List V}(c:BJ F ρ N a x):∀(n:Nat) {b:List PV} {y:List V},BJ F ρ N b y->BJ F ρ N (CN n a b) (CN n x y)
 |0,b,y,h=>c.KM h
 |n+1,[],y,h=>by simp at h;subst h;show BJ F ρ N [] [];simp
 |n+1,q::d,y,h=>by
  simp only[BJ]at h;obtain⟨u,e,rfl,g,f⟩:=h;show BJ F ρ N (q::jg n a d) (u::jg n x e);simp only[Bo];exact⟨g,BJ.CN c n f⟩
theorem Hv:∀(l:Ob) (i:Nat) (x:Obj) (j:Nat),(AS l i).isSome=true->AS (DZ l i x) j=if j=i then some x else AS l j
 |[],i,x,j,h=>by cases h
 |(a,o)::l,i,x,j,h=>by
  simp only[DZ,AS,BA]at h ⊢;by_cases e:a=i
  ·subst e;simp only[decide_true,we,AS,BA];by_cases b:a=j
   ·subst b;simp
   ·rw[wc<|fun h=>b h.symm];simp[b]
  ·simp only[e,decide_false,wg]at h ⊢;simp only[AS,BA];by_cases b:a=j
   ·subst b;simp[e]
   ·simp only[b,decide_false,wg];exact Hv l i x j h
theorem NW{b off:Nat}{vs cs:List V}{t:TypeId}{fz:Nat×Nat}(d:h.get b=some (.cells cs t fz))(e:off+vs.length<=cs.length)(a:fz.2<=fz.1)(f:vs.all V.one=true):
  wr h b off vs=some (h.put b<|.cells (CN off vs cs) t fz):=by
 unfold wr;simp only[d,Dw,Gf,f];have c:zw (ym off vs.length) cs.length=true:=zr e;have g:Det.clear fz off vs.length=true:=by
  unfold Det.clear;rw[show zw fz.2 fz.1=true from zr a,Bool.or_true]
 rw[c,g];rfl
theorem SR.set(hr:SR B h0 F ρ st.nx st.ob h){id b n:Nat}{o o':Obj}{x x':O}(D:st.obj id=some o)(r:ρ id=some (b,n))(G:h.get b=some x)(K:o.frozen=false)(v:o'.frozen=false)
  (J:aI F ρ st.nx n o' x'):SR B h0 F ρ st.nx (DZ st.ob id o') (h.put b x'):=by
 have q:AS st.ob id=some o:=D;have s:F b=none:=by
  obtain⟨b',n',_,p,_,_,t,_⟩:=hr.at D;rw[r]at p;cases p;exact t K
 have g:∀j,AS (DZ st.ob id o') j=if j=id then some o' else AS st.ob j:=fun j=>Hv _ _ _ _ (by rw[q];rfl)
 refine⟨fun j oj d=>?_,fun i j oi oj c m I M d p t=>?_,fun c cs f=>?_,hr.own,fun j d=>?_,fun c f A=>?_,fun c L f=>?_,hr.le,hr.fo,hr.gl,fun c f=>?_⟩
 ·rw[g]at d;by_cases e:j=id
  ·subst e;simp only[wk,zh]at d;subst d;exact⟨b,n,x',r,by simp,J,fun _=>s,fun e=>by rw[v]at e;cases e⟩
  ·rw[wc e]at d;obtain⟨c,m,y,p,t,R,S,Q⟩:=hr.obj j oj d;have a:c≠b:=fun P=>e<|hr.inj j id oj o c m n d q p<|P▸r
   exact⟨c,m,y,p,by rw[H.B6,wc a];exact t,R,S,Q⟩
 ·have l:∀k ok,AS (DZ st.ob id o') k=some ok->∃T,AS st.ob k=some T:=by
   intro k ok u;rw[g]at u;by_cases e:k=id
   ·exact⟨o,e▸q⟩
   ·rw[wc e]at u;exact⟨ok,u⟩
  obtain⟨_,z⟩:=l i oi M;obtain⟨_,w⟩:=l j oj d;exact hr.inj i j _ _ c m I z w p t
 ·have a:c≠b:=fun e=>by rw[e,s]at f;cases f
  rw[H.B6,wc a];exact hr.frz c cs f
 ·rw[g]at d;by_cases e:j=id
  ·rw[wd e]at d;cases d
  ·rw[wc e]at d;exact hr.dead j d
 ·have a:c≠b:=OO (hr.own id b n r).2 f A;rw[H.B6,wc a];exact hr.old c f A
 ·rw[H.B6]at f;by_cases e:c=b
  ·subst e;exact hr.lt _ _ G
  ·rw[wc e]at f;exact hr.lt c L f
 ·obtain⟨z,w,E⟩:=hr.pn c f;have a:c≠b:=fun e=>E id n<|e▸r
  exact⟨by rw[H.B6,wc a];exact z,w,E⟩
def BI(ρ:EA)(i:Nat)(x:Option (Nat×Nat)):EA:=fun j=>if j=i then x else ρ j
theorem Le.JV(i:Nat):Le F ρ N F (BI ρ i none) N:=⟨fun _ _ h=>h,fun id _=>by unfold BI;split<;>simp_all,z7 _⟩
theorem Le.new(x:Nat×Nat):Le F ρ N F (BI ρ N<|some x) (N+1):=⟨fun _ _ h=>h,fun id h=>by unfold BI;rw[wc ae];exact .inl rfl,Nat.le_succ _⟩
theorem SR.push{ob:Ob}(hr:SR B h0 F ρ N ob h){o:Obj}{x:O}{n:Nat}(M:o.frozen=false)(L:aI F (BI ρ N<|some (h.nx,n)) (N+1) n o x):
  SR B h0 F (BI ρ N<|some (h.nx,n)) (N+1) ((N,o)::ob) (h.push x):=by
 have K:Le F ρ N F (BI ρ N<|some (h.nx,n)) (N+1):=Le.new _;have f:∀j,AS ((N,o)::ob) j=if j=N then some o else AS ob j:=by
  intro j;simp only[AS,BA];by_cases e:N=j
  ·subst e;simp
  ·rw[wc<|fun h=>e h.symm];simp[e]
 have S:∀id b m,ρ id=some (b,m)->id<N:=fun id b m p=>(hr.own id b m p).1
 have a:∀b y,h.get b=some y->b≠h.nx:=fun b y p=>by have:=hr.lt b y p;omega
 refine⟨fun j oj d=>?_,fun i j oi oj c m z I d w u=>?_,fun c cs g=>?_,fun id b m p=>?_,fun j d=>?_,fun c g T=>?_,fun c P g=>?_,?_,?_,hr.gl,fun c g=>?_⟩
 ·rw[f]at d;by_cases e:j=N
  ·subst e;simp only[wk,zh]at d;subst d;refine⟨h.nx,n,x,by simp[BI],by simp,L,fun _=>?_,fun e=>by rw[M]at e;cases e⟩;cases g:F h.nx with
   |none=>rfl
   |some cs=>
    obtain⟨t,fz,s⟩:=hr.frz _ _ g;exact wh rfl (a _ _ s)
  ·rw[wc e]at d;obtain⟨c,m,y,w,u,R,U,Q⟩:=hr.obj j oj d;exact⟨c,m,y,by simp[BI,e,w],by rw[H.Ce,wc<|a c y u];exact u,R.mono K,U,Q⟩
 ·rw[f]at I d;have key:∀k ok m,(if k=N then some o else AS ob k)=some ok->BI ρ N (some (h.nx,n)) k=some (c,m)->(k=N/\c=h.nx)\/(k≠N/\AS ob k=some ok/\ρ k=some (c,m)/\c≠h.nx):=by
   intro k ok m v l;by_cases e:k=N
   ·subst e;simp[BI]at l;exact .inl ⟨rfl,l.1.symm⟩
   ·rw[wc e]at v;simp only[BI,e,vf]at l;obtain⟨c',z,y,r,E,_⟩:=hr.obj k ok v;rw[l]at r;cases r;exact .inr ⟨e,v,l,a c y E⟩
  rcases key i oi m I w with⟨G,D⟩|⟨G,D,W,Z⟩<;>rcases key j oj z d u with⟨J,A⟩|⟨J,A,X,V⟩
  ·rw[G,J]
  ·exact wh D V
  ·exact wh A Z
  ·exact hr.inj i j oi oj c m z D A W X
 ·obtain⟨t,fz,s⟩:=hr.frz c cs g;exact⟨t,fz,by rw[H.Ce,wc<|a c _ s];exact s⟩
 ·unfold BI at p;split at p
  ·rename_i e;cases p;subst e;exact⟨Nat.lt_succ_self _,.inl hr.le⟩
  ·have:=hr.own id b m p;exact⟨by omega,this.2⟩
 ·rw[f]at d;by_cases e:j=N
  ·rw[wd e]at d;cases d
  ·rw[wc e]at d;simp[BI,e,hr.dead j d]
 ·have:=hr.le;rw[H.Ce,wc ae];exact hr.old c g T
 ·rw[H.Ce]at g;by_cases e:c=h.nx
  ·subst e;exact Nat.lt_succ_self _
  ·rw[wc e]at g;have:=hr.lt c P g;show c<h.nx+1;omega
 ·have:=hr.le;show B<=h.nx+1;omega
 ·exact hr.fo
 ·obtain⟨r,E,Y⟩:=hr.pn c g;have q:=a c _ r;refine⟨by rw[H.Ce,wc q];exact r,E,fun id m e=>?_⟩;unfold BI at e;split at e
  ·cases e;exact q rfl
  ·exact Y id m e
theorem DN:∀(l:Ob) (i j:Nat),AS (G1 l i) j=if j=i then none else AS l j
 |[],i,j=>by simp[G1,AS]
 |(a,o)::l,i,j=>by
  simp only[G1,BA];by_cases e:a=i
  ·subst e;simp only[decide_true,we];rw[DN l a j];simp only[AS,BA];by_cases b:j=a
   ·simp[b]
   ·rw[wc b];have c:¬a=j:=fun h=>b h.symm
    simp[c,b]
  ·simp only[e,decide_false,wg,AS,BA];rw[DN l i j];by_cases b:a=j
   ·subst b;simp[e]
   ·simp[b]
theorem SR.del{ob:Ob}(hr:SR B h0 F ρ N ob h)(id:Nat):SR B h0 F (BI ρ id none) N (G1 ob id) h:=by
 have r:Le F ρ N F (BI ρ id none) N:=Le.JV id;refine⟨fun j oj a=>?_,fun i j oi oj c m p f a d k=>?_,hr.frz,fun j b m g=>?_,fun j a=>?_,hr.old,hr.lt,hr.le,hr.fo,hr.gl,fun c u=>?_⟩
 ·rw[DN]at a;split at a
  ·cases a
  ·rename_i e;obtain⟨c,m,y,d,k,n,q⟩:=hr.obj j oj a;exact⟨c,m,y,by simp[BI,e,d],k,n.mono r,q⟩
 ·rw[DN]at f a;split at f
  ·cases f
  split at a
  ·cases a
  rename_i s l;simp only[BI,s,l,vf]at d k;exact hr.inj i j oi oj c m p f a d k
 ·unfold BI at g;split at g
  ·cases g
  ·exact hr.own j b m g
 ·rw[DN]at a;unfold BI;split
  ·rfl
  ·rename_i e;rw[wc e]at a;exact hr.dead j a
 ·obtain⟨t,o,v⟩:=hr.pn c u;refine⟨t,o,fun j m e=>?_⟩;unfold BI at e;split at e
  ·cases e
  ·exact v j m e
theorem SR.kill{ob:Ob}(hr:SR B h0 F ρ N ob h){b:Nat}(p:∀id o n,AS ob id=some o->ρ id≠some (b,n))(t:F b=none)(q:h0.dU B b)(r:b∉h0.pin):SR B h0 F ρ N ob (h.kill b):=by
 refine⟨fun j oj l=>?_,hr.inj,fun c cs a=>?_,hr.own,hr.dead,fun c a k=>?_,fun c s a=>?_,hr.le,hr.fo,hr.gl,fun c a=>?_⟩
 ·obtain⟨c,m,y,d,f,i⟩:=hr.obj j oj l;have:c≠b:=fun e=>p j oj m l<|e▸d
  exact⟨c,m,y,d,by rw[H.C6,wc this];exact f,i⟩
 ·have:c≠b:=fun e=>by rw[e,t]at a;cases a
  rw[H.C6,wc this];exact hr.frz c cs a
 ·have:c≠b:=OO q a k;rw[H.C6,wc this];exact hr.old c a k
 ·rw[H.C6]at a;split at a
  ·cases a
  ·exact hr.lt c s a
 ·obtain⟨d,f,i⟩:=hr.pn c a;have g:c≠b:=fun e=>r<|e▸a
  exact⟨by rw[H.C6,wc g];exact d,f,i⟩
theorem CU{s a:Sh}{x:s.T}{y:a.T}(h:E4 s a x=some y):∃e:s=a,e▸x=y:=by
 unfold E4 at h;split at h
 ·rename_i e;cases h;exact⟨e,rfl⟩
 ·cases h
theorem G2{s:Sh}{p:PV}{x:s.T}{v:V}(hp:PR F ρ N p v)(a:asD s p=some x):DC F s x [v]:=by
 unfold asD at a;split at a
 ·unfold asP at a;split at a
  ·obtain⟨rfl,rfl⟩:=CU a;simp only[PR]at hp;obtain⟨b,o,cs,rfl,h2,h3,h4⟩:=hp;simp only[DC];exact⟨b,o,cs,rfl,h2,h3,h4⟩
  ·cases a
 ·obtain⟨rfl,rfl⟩:=CU a;simpa only[PR]using hp
 ·obtain⟨rfl,rfl⟩:=CU a;simp only[PR]at hp;subst hp;simp[DC]
 ·obtain⟨rfl,rfl⟩:=CU a;simp only[PR,CH]at hp;obtain⟨_,_,rfl,rfl,rfl⟩:=hp;simp[DC]
 ·obtain⟨rfl,rfl⟩:=CU a;simp only[PR]at hp;subst hp;simp[DC]
 ·split at a
  ·cases a;simp only[PR]at hp;subst hp;simp[DC]
  ·cases a;simp only[PR]at hp;subst hp;simp[DC]
  ·cases a
 ·cases a
theorem HX:∀ {s:Sh} {ps:List PV} {vs:List V} {x:s.T} {f:List PV},BJ F ρ N ps vs->CG s ps=some (x,f)->∃a b,vs=a++b/\DC F s x a/\BJ F ρ N f b
 | .pair s t,ps,vs,x,f,hp,e=>by
  unfold CG at e;split at e
  case h_2=>cases e
  rename_i y l1 g;split at e
  case h_2=>cases e
  rename_i z n i;cases e;obtain⟨a,b,rfl,m,l⟩:=HX hp g;obtain⟨c,d,rfl,g3,g4⟩:=HX l i;exact⟨a++c,d,by simp,by simp only[DC];exact⟨a,c,rfl,m,g3⟩,g4⟩
 | .unit,ps,vs,x,f,hp,e=>by
  unfold CG at e;cases e;exact⟨[],vs,rfl,by simp[DC],hp⟩
 | .int k,[],vs,x,f,hp,e=>by simp[CG]at e
 | .bool,[],vs,x,f,hp,e=>by simp[CG]at e
 | .str,[],vs,x,f,hp,e=>by simp[CG]at e
 | .list s,[],vs,x,f,hp,e=>by simp[CG]at e
 | .nlist s,[],vs,x,f,hp,e=>by simp[CG]at e
 | .fnv,[],vs,x,f,hp,e=>by simp[CG]at e
 | .ptr _,[],vs,x,f,hp,e=>by simp[CG]at e
 | .int k,p::ps,vs,x,f,hp,e=>by
  simp only[BJ]at hp;obtain⟨v,vs,rfl,g,i⟩:=hp;simp only[CG]at e;split at e
  ·rename_i y j;cases e;exact⟨[v],vs,rfl,G2 g j,i⟩
  ·cases e
 | .bool,p::ps,vs,x,f,hp,e=>by
  simp only[BJ]at hp;obtain⟨v,vs,rfl,g,i⟩:=hp;simp only[CG]at e;split at e
  ·rename_i y j;cases e;exact⟨[v],vs,rfl,G2 g j,i⟩
  ·cases e
 | .str,p::ps,vs,x,f,hp,e=>by
  simp only[BJ]at hp;obtain⟨v,vs,rfl,g,i⟩:=hp;simp only[CG]at e;split at e
  ·rename_i y j;cases e;exact⟨[v],vs,rfl,G2 g j,i⟩
  ·cases e
 | .list s,p::ps,vs,x,f,hp,e=>by
  simp only[BJ]at hp;obtain⟨v,vs,rfl,g,i⟩:=hp;simp only[CG]at e;split at e
  ·rename_i y j;cases e;exact⟨[v],vs,rfl,G2 g j,i⟩
  ·cases e
 | .fnv,p::ps,vs,x,f,hp,e=>by
  simp only[BJ]at hp;obtain⟨v,vs,rfl,g,i⟩:=hp;simp only[CG]at e;split at e
  ·rename_i y j;cases e;exact⟨[v],vs,rfl,G2 g j,i⟩
  ·cases e
 | .ptr s,p::ps,vs,x,f,hp,e=>by
  simp only[BJ]at hp;obtain⟨v,vs,rfl,g,i⟩:=hp;simp only[CG]at e;split at e
  ·rename_i y j;cases e;exact⟨[v],vs,rfl,G2 g j,i⟩
  ·cases e
 | .nlist s,p::ps,vs,x,f,hp,e=>by
  simp only[BJ]at hp;obtain⟨v,vs,rfl,g,i⟩:=hp;simp only[CG]at e;split at e
  ·rename_i y j;cases e;exact⟨[v],vs,rfl,G2 g j,i⟩
  ·cases e
theorem Df{s:Sh}{ps:List PV}{vs:List V}{x:s.T}(hp:BJ F ρ N ps vs)(c:Dv s ps=some x):DC F s x vs:=by
 unfold Dv at c;split at c
 ·rename_i y f;cases c;obtain⟨a,b,rfl,e,d⟩:=HX hp f;simp at d;subst d;simpa using e
 ·cases c
theorem Xm{v:V}:∀(vs cs:List V) (off:Nat),v∈Hj cs off vs->v∈vs\/v∈cs
 |[],cs,off,h=>.inr h
 |u::vs,cs,off,h=>by
  have h:v∈Hj (cs.set off u) (off+1) vs:=h;rcases Xm vs _ _ h with h|h
  ·exact .inl<|List.mem_cons_of_mem _ h
  ·rcases List.mem_or_eq_of_mem_set h with h|h
   ·exact .inr h
   ·exact .inl (by simp[h])
theorem Wj{v:V}{vs cs:List V}{off:Nat}(h:v∈jg off vs cs):v∈vs\/v∈cs:=by
 rw[Kj]at h;exact Xm _ _ _ h
theorem HT{cs vs:List V}{off:Nat}(a:off+vs.length<=cs.length)(j:Nat):(CN off vs cs)[j]?=if off<=j/\j<off+vs.length then vs[j-off]? else cs[j]?:=by
 rw[Kj];exact Px vs cs off j a
theorem lO{cs vs:List V}{off:Nat}:(CN off vs cs).length=cs.length:=by
 rw[Kj];exact Jy vs cs off
theorem AdU{cs vs:List V}{m off k:Nat}(c:off+vs.length<=k)(d:m+k<=cs.length):((CN (m+off) vs cs).drop m).take k=CN off vs ((cs.drop m).take k):=by
 apply qh;intro j;rw[HT<|by simp;omega];by_cases b:j<k
 ·rw[zn b,zz,HT ae];by_cases a:off<=j/\j<off+vs.length
  ·rw[wd a,wd ae];congr 1;omega
  ·rw[wc a,wc ae,zn b,zz]
 ·rw[wc ae,zi (by simp;omega),zi<|by simp;omega]
theorem zQ{cs vs:List V}{m p k:Nat}(c:p+vs.length<=m\/m+k<=p)(b:p+vs.length<=cs.length):((CN p vs cs).drop m).take k=(cs.drop m).take k:=by
 apply qh;intro j;by_cases a:j<k
 ·rw[zn a,zn a,zz,zz,HT b,wc ae]
 ·rw[zi (by simp;omega),zi<|by simp;omega]
theorem Ez.set{s:Sh}{l:List s.T}{cs vs:List V}{j off:Nat}{y:s.T}(d:Ez F s l cs)(m:j<l.length)(a:off+vs.length<=s.sz)(k:DC F s y (CN off vs<|(cs.drop<|j*s.sz).take s.sz)):
  Ez F s (l.set j y) (CN (j*s.sz+off) vs cs):=by
 have g:j*s.sz+s.sz<=cs.length:=by
  rw[d.1, <-zx];exact zj _ m
 refine⟨by rw[lO,List.length_set];exact d.1,fun i f=>?_⟩;have c:i<l.length:=by simpa using f
 by_cases e:i=j
 ·subst e;rw[AdU a g,List.getElem_set_self];exact k
 ·rw[List.getElem_set_ne<|fun h=>e h.symm,zQ ?_ ae]
  ·exact d.2 i c
  ·rcases Nat.lt_or_gt_of_ne e with b|b
   ·right;have:(i+1)*s.sz<=j*s.sz:=zj _ b;rw[zx]at this;omega
   ·left;have:(j+1)*s.sz<=i*s.sz:=zj _ b;rw[zx]at this;omega
theorem Ko{s:Sh}:∀ {n:Nat} {ps:List PV} {vs:List V} {l:List s.T},BJ F ρ N ps vs->chunk s n ps=some l->vs.length=n*s.sz->l.length=n/\Ez F s l vs
 |0,ps,vs,l,hp,c,f=>by
  cases c;simp at f;subst f;exact⟨rfl,by simp[Ez]⟩
 |n+1,ps,vs,l,hp,c,f=>by
  unfold chunk at c;split at c
  case h_2=>cases c
  rename_i x k p;rw[zp]at c;obtain⟨l',o,rfl⟩:=c;obtain⟨a,b,rfl,h2,h3⟩:=HX hp p;have d:=h2.len;have j:b.length=n*s.sz:=by rw[yy,d,zx]at f;omega
  obtain⟨m,r⟩:=Ko h3 o j;refine⟨by simp[m],by rw[yy,d,j,List.length_cons,m,zx];omega,fun i q=>?_⟩;cases i with
  |zero=>
   simp only[Nat.zero_mul,List.drop_zero,List.getElem_cons_zero];rw[<-d,List.take_left];exact h2
  |succ i=>
   simp only[List.getElem_cons_succ];have g:i<l'.length:=by simpa using q
   have:=r.2 i g;have e:(a++b).drop ((i+1)*s.sz)=b.drop (i*s.sz):=by
    rw[zx,Nat.add_comm,GB, <-d,List.drop_left]
   rw[e];exact this
theorem lI{cs xs:List V}(h:xs.length=cs.length):jg 0 xs cs=xs:=by
 apply qh;intro j;rw[HT ae];by_cases a:j<xs.length
 ·rw[wd ae];rfl
 ·rw[wc ae,zi ae,zi ae]
theorem xD(hr:SR B h0 F ρ st.nx st.ob h){t:TypeId}{p q:PV}{a x:V}(E:PR F ρ st.nx p a)(Z:PR F ρ st.nx q x){v:PV}(d:(YA C.T st t p q).To v st'):
  ∃id,((∃off,p=.ptr id off)\/∃sz j off,p=.eptr id sz j off)/\OK B h0 F ρ st h [id] (qY<|H4 C.T h t a x) v st':=by
 unfold YA at d;split at d
 case h_2=>simp at d
 rename_i i xs O U;cases P:(ze (Det.EY xs) i.size&&Det.Mz (KP st) xs)with
 |false=>rw[P]at d;simp at d
 |true=>
  rw[P]at d;simp only[zc]at P;obtain⟨K,L⟩:=P;rw[Dw]at K;rw[Gf]at L;have m:=Pg hr Z U;have k:x.cells.length=i.size:=by rw[<-m.len];exact zd K
  have o:=Lt hr L m;have D:ze x.cells.length i.size=true:=by rw[k];exact yn _
  simp only[we]at d;split at d
  case h_3=>simp at d
  case h_1=>
   rename_i id off;split at d
   case h_4=>exact wh d (by simp)
   case h_3=>
    rename_i tb ps A;cases f:zw (ym off i.size) (Det.EY ps)with
    |false=>rw[f]at d;simp at d
    |true=>
     rw[f]at d;simp only[we,Bj]at d;obtain⟨rfl,rfl⟩:=d;obtain⟨b,n,y,h1,h2,⟨cs,fz,rfl,h4,h5,hbok⟩,hf,_⟩:=hr.at A;simp only[PR]at E;obtain rfl:=E.2 b n h1;rw[Dw]at f;have r:off+x.cells.length<=cs.length:=by rw[<-h4.len,k];exact zg f
     refine⟨id,.inl ⟨off,rfl⟩,.tup [],_,F,ρ,.inr ⟨?_,rfl⟩,by simp[PR],hr.set A h1 h2 rfl rfl (o':=.tbox tb<|jg off xs ps) ⟨_,fz,rfl,m.CN off h4,h5,fun u G=>(Wj G).elim (fun G=>V.NC<|qu.1 o u G)<|hbok u⟩,Le.refl,rfl,rfl,z7 _,fun c _=>?_⟩
     ·unfold H4;simp only[O,D,we];rw[NW h2 r h5 o];rfl
     ·rw[H.B6];by_cases e:c=b
      ·exact .inr ⟨id,zf.2 rfl,n,e▸h1⟩
      ·rw[wc e];exact .inl rfl
   case h_2=>
    rename_i e s l A;cases g:(ze off 0&&ze s.sz 1)with
    |false=>rw[g]at d;simp at d
    |true=>
     rw[g]at d;rw[zc]at g;have w:=zd g.1;have J:=zd g.2;subst w;simp only[we]at d;split at d
     case h_2=>exact wh d (by simp)
     rename_i y Q;simp only[Cu,w5]at d;obtain⟨I,rfl,rfl⟩:=d;obtain⟨b,n,z,h1,h2,⟨cs,fz,rfl,h4,h5,h6⟩,hf,_⟩:=hr.at A;simp only[PR]at E;obtain rfl:=E.2 b n h1;have W:cs.length=x.cells.length:=by rw[h4.1,J,qg,k];exact I
     obtain⟨k1,Y⟩:=Ko m Q (by rw[J,qg];exact k);have r:0+x.cells.length<=cs.length:=ae
     refine⟨id,.inl ⟨0,rfl⟩,.tup [],_,F,ρ,.inr ⟨?_,rfl⟩,by simp[PR],hr.set A h1 h2 rfl rfl (o':=.arr false e s y) ⟨jg 0 x.cells cs,fz,rfl,by rw[lI W.symm];exact Y,h5,by omega⟩,Le.refl,rfl,rfl,z7 _,fun c _=>?_⟩
     ·unfold H4;simp only[O,D,we];rw[NW h2 r h5 o];rfl
     ·rw[H.B6];by_cases e:c=b
      ·exact .inr ⟨id,zf.2 rfl,n,e▸h1⟩
      ·rw[wc e];exact .inl rfl
   rename_i ps A;cases f:zw (ym off i.size) (Det.EY ps)with
   |false=>rw[f]at d;simp at d
   |true=>
    rw[f]at d;simp only[we,Bj]at d;obtain⟨rfl,rfl⟩:=d;obtain⟨b,n,y,h1,h2,⟨cs,te,fz,rfl,h4,h5,hbok⟩,hf,_⟩:=hr.at A;simp only[PR]at E;obtain rfl:=E.2 b n h1;rw[Dw]at f;have r:off+x.cells.length<=cs.length:=by rw[<-h4.len,k];exact zg f
    refine⟨id,.inl ⟨off,rfl⟩,.tup [],_,F,ρ,.inr ⟨?_,rfl⟩,by simp[PR],hr.set A h1 h2 rfl rfl (o':=.box<|jg off xs ps) ⟨_,te,fz,rfl,m.CN off h4,h5,fun u G=>(Wj G).elim (fun G=>V.NC<|qu.1 o u G)<|hbok u⟩,Le.refl,rfl,rfl,z7 _,fun c _=>?_⟩
    ·unfold H4;simp only[O,D,we];rw[NW h2 r h5 o];rfl
    ·rw[H.B6];by_cases e:c=b
     ·exact .inr ⟨id,zf.2 rfl,n,e▸h1⟩
     ·rw[wc e];exact .inl rfl
  case h_2=>
   rename_i id sz j off;split at d
   case h_2=>simp at d
   rename_i e s l A;cases g:(ze sz s.sz&&zw (ym off i.size) sz)with
   |false=>rw[g]at d;simp at d
   |true=>
    rw[g]at d;simp only[zc]at g;have S:=zd g.1;have w:=zg g.2;subst S;simp only[we]at d;split at d
    case h_2=>simp at d
    rename_i y Q;simp only[Cu,w5]at d;obtain⟨I,rfl,rfl⟩:=d;obtain⟨b,n,z,h1,h2,⟨cs,fz,rfl,h4,h5,h6⟩,hf,_⟩:=hr.at A;simp only[PR]at E;obtain rfl:=E.2 b n h1;rw[show l.getD j s.Iq=l[j]from by simp[I]]at Q;have R:=Dl (F:=F) (ρ:=ρ) (N:=st.nx)<|h4.2 j I;have X:=Df (m.CN off R) Q;have M:=Ez.set h4 I (by rw[k];exact w) X;have r:j*s.sz+off+x.cells.length<=cs.length:=by
     have:j*s.sz+s.sz<=cs.length:=by rw[h4.1, <-zx];exact zj _ I
     have:off+i.size<=s.sz:=w;omega
    refine⟨id,.inr ⟨_,_,_,rfl⟩,.tup [],_,F,ρ,.inr ⟨?_,rfl⟩,by simp[PR],hr.set A h1 h2 rfl rfl (o':=.arr false e s<|l.set j y) ⟨_,fz,rfl,M,h5,by simpa using h6⟩,Le.refl,rfl,rfl,z7 _,fun c _=>?_⟩
    ·unfold H4;simp only[O,D,we];rw[NW h2 r h5 o];rfl
    ·rw[H.B6];by_cases e:c=b
     ·exact .inr ⟨id,zf.2 rfl,n,e▸h1⟩
     ·rw[wc e];exact .inl rfl
theorem C5{k:IntKind}{n:Int}{v:V}(h:PR F ρ N (.dat (.int k) n) v):v=.int k n:=by simpa [PR,DC]using h
theorem FX{s:Z}{v:V}(h:PR F ρ N (.dat .str s) v):v=.str s:=by simpa [PR,DC]using h
theorem LJ{b:Bool}{v:V}(h:PR F ρ N (.dat .bool b) v):v=.bool b:=by simpa [PR,DC]using h
theorem Qc{b:Bool}{v:V}(h:PR F ρ N (.bl b) v):v=.bool b:=by simpa [PR]using h
theorem DI(k:IntKind)(n:Int):PR F ρ N (.dat (.int k) n) (.int k n):=by simp[PR,DC]
theorem Nh(s:Z):PR F ρ N (.dat .str s) (.str s):=by simp[PR,DC]
theorem Ea(b:Bool):PR F ρ N (.dat .bool b) (.bool b):=by simp[PR,DC]
theorem oB(b:Bool):PR F ρ N (.bl b) (.bool b):=by simp[PR]
theorem Ij{p:PV}{b:Bool}{v:V}(h:J4 p=some b)(hp:PR F ρ N p v):v=.bool b:=by
 unfold J4 at h;split at h
 ·cases h;exact Qc hp
 ·cases h;exact LJ hp
 ·cases h
theorem Afz(hr:SR B h0 F ρ st.nx st.ob h){op:BinOp}{k:IntKind}{a b:Int}{v:PV}(c:(AdY op k a b st).To v st'):OK B h0 F ρ st h [] (BU h<|Qr op k a b) v st':=by
 unfold AdY at c;split at c<;>simp only[M0,Bj,Cu,w5,wm]at c
 all_goals first
  |(obtain⟨rfl,rfl⟩:=c;exact OK.pure hr rfl (DI _ _))
  |(obtain⟨rfl,rfl⟩:=c;exact OK.pure hr rfl (Ea _))
  |(obtain⟨d,rfl,rfl⟩:=c;exact OK.pure hr (by simp only[Qr,d,vf,BU])<|DI _ _)
theorem AgU(hr:SR B h0 F ρ st.nx st.ob h){op:BinOp}{k:IntKind}{a b:Int}{v:PV}(c:(psh op k a b st).To v st'):OK B h0 F ρ st h [] (BU h<|gM op k a b) v st':=by
 unfold psh at c;split at c<;>simp only[M0,Cu,w5]at c
 all_goals
  obtain⟨d,rfl,rfl⟩:=c;exact OK.pure hr (by simp only[gM,Int.not_lt.2 d,vf,BU])<|DI _ _
theorem AeT(hr:SR B h0 F ρ st.nx st.ob h){op:BinOp}{x y:Z}{v:PV}(a:(Ac2 op x y st).To v st'):OK B h0 F ρ st h [] (BU h<|Vw op x y) v st':=by
 unfold Ac2 at a;split at a<;>simp only[M0,Bj,Cu,w5]at a
 all_goals first
  |(obtain⟨rfl,rfl⟩:=a;exact OK.pure hr rfl (Ea _))
  |(obtain⟨b,rfl,rfl⟩:=a;exact OK.pure hr (by simp only[Vw,b,wk,BU])<|Nh _)
theorem SD:∀ {ks:List FK} {ps n:List PV} {xs e:List V} {r:Bool},BJ F ρ N ps xs->BJ F ρ N n e->HV ks ps n=some r->fit ks xs=true/\fit ks e=true/\B8 xs e=some r
 |[],[],[],xs,e,r,f,i,d=>by
  subst f i;simp only[HV,zh]at d;subst d;exact⟨rfl,rfl,rfl⟩
 |[],_::_,_,xs,e,r,f,i,d=>by simp[HV]at d
 |[],[],_::_,xs,e,r,f,i,d=>by simp[HV]at d
 |k::ks,[],_,xs,e,r,f,i,d=>by grind [HV]
 |k::ks,_::_,[],xs,e,r,f,i,d=>by grind [HV]
 |k::ks,p::ps,q::n,xs,e,r,f,i,d=>by
  obtain⟨x,xs,rfl,g,o⟩:=f;obtain⟨y,e,rfl,hy1,hy2⟩:=i;have key:∀ {c:Bool},k.ok x=true->k.ok y=true->EU x y=some c->(HV ks ps n).map (fun r=>c&&r)=some r->fit (k::ks) (x::xs)=true/\fit (k::ks) (y::e)=true/\B8 (x::xs) (y::e)=some r:=by
   intro c u J O t;rw[zp]at t;obtain⟨M,D,rfl⟩:=t;obtain⟨g1,g2,g3⟩:=SD o hy2 D;refine⟨by simp[fit,u,g1],by simp[fit,J,g2],?_⟩;have L:xs.length=e.length:=by rw[<-Ub g1, <-Ub g2]
   cases c with
   |true=>simp_all [B8]
   |false=>simp_all [B8]
  unfold HV at d;split at d
  case h_1=>grind
  case h_2=>
   rename_i s z I a v w b E m j l;cases j;cases l;cases K:(s==I&&s==w)with
   |false=>grind
   |true=>
    obtain rfl:=C5 g;obtain rfl:=C5 hy1;grind [FK.ok,EU]
  case h_3=>
   rename_i m j l;cases m;cases j;cases l;obtain rfl:=FX g;obtain rfl:=FX hy1;exact key rfl rfl (by rfl) d
  case h_4=>
   rename_i m j l;cases m;cases j;cases l;split at d
   case h_2=>cases d
   rename_i a b G A;obtain rfl:=Ij G g;obtain rfl:=Ij A hy1;exact key rfl rfl rfl d
  grind
theorem ZL(hr:SR B h0 F ρ st.nx st.ob h){op:BinOp}{t e:TypeId}(m:C.T.und t=some (.slice e)){p:PV}{x:V}(d:PR F ρ st.nx p x){ng:Bool}{v:PV}(a:(Th st ng p).To v st'):
  (∀(_:x=.nili),False)/\∃b,BG C.T t x .nils=some b/\PR F ρ st.nx v (.bool<|b !=ng)/\Ll C.T op t x .nils=(match op with| .eql=>(BG C.T t x .nils).map fun b=>.bool b| .neq=>(BG C.T t x .nils).map fun b=>.bool !b|_=>none)/\st'=st:=by
 have dq:∀ {x:V},x=.nils\/x=.esl\/x=.es0\/(∃b off len cap o,x=.sl b off len cap o)->Ll C.T op t x .nils=(match op with| .eql=>(BG C.T t x .nils).map fun b=>.bool b| .neq=>(BG C.T t x .nils).map fun b=>.bool !b|_=>none):=by
  rintro x (rfl|rfl|rfl|⟨b,off,len,cap,o,rfl⟩)<;>cases op<;>rfl
 have no:∀ {x:V},x=.esl\/x=.es0\/(∃b off len cap o,x=.sl b off len cap o)->BG C.T t x .nils=some false:=by
  rintro x (rfl|rfl|⟨b,off,len,cap,o,rfl⟩)<;>simp[BG,m]
 have yes:BG C.T t .nils .nils=some true:=by simp[BG,m]
 unfold Th at a;split at a
 case h_1=>
  simp only[Bj]at a;obtain⟨rfl,rfl⟩:=a;simp only[PR]at d;subst d;exact⟨(by simp),true,yes,by simp[PR],dq<|.inl rfl,rfl⟩
 case h_2=>
  rename_i id sz off len cap;cases f:IU (st.obj id)with
  |false=>rw[f]at a;simp at a
  |true=>
   rw[f]at a;simp only[we,Bj]at a;obtain⟨rfl,rfl⟩:=a;obtain⟨o,ho⟩:=JA f;obtain⟨b,n,_,h1,_⟩:=hr.at ho;simp only[PR]at d;have:x=.esl\/x=.es0\/(∃b off len cap o,x=.sl b off len cap o):=by
    grind
   exact⟨ah,false,no this,by simp[PR],dq<|.inr this,rfl⟩
 case h_3=>
  rename_i s l;simp only[PR,DC]at d;obtain⟨u,i,d⟩:=d;obtain rfl:x=u:=ah
  have g:(decide (0<(l:List s.T).length)=true/\v=.bl ng/\st'=st)\/(v=.ub/\st'=st):=by
   generalize decide (0<(l:List s.T).length)=c at a;cases a with
   |tt a=>simp only[Bj]at a;grind
   |ff a=>grind [Bj]
  rcases g with⟨q,rfl,rfl⟩|⟨rfl,rfl⟩
  ·rcases d with⟨rfl,_⟩|⟨b,off,cap,o,k,rfl,_⟩
   ·grind
   ·exact⟨(by simp),false,ah,by simp[PR],ah,rfl⟩
  ·rcases d with⟨rfl,rfl|rfl|rfl⟩|⟨b,off,cap,o,k,rfl,_⟩
   ·exact⟨(by simp),true,yes,by simp[PR],dq<|.inl rfl,rfl⟩
   ·exact⟨(by simp),false,no<|.inl rfl,by simp[PR],ah,rfl⟩
   ·exact⟨(by simp),false,ah,by simp[PR],ah,rfl⟩
   ·exact⟨(by simp),false,ah,by simp[PR],ah,rfl⟩
 case h_4=>
  rename_i s l;simp only[Bj]at a;obtain⟨rfl,rfl⟩:=a;simp only[PR,DC]at d;obtain⟨u,i,d⟩:=d;obtain rfl:x=u:=ah
  rcases d with⟨rfl,rfl⟩|⟨h0,b,off,cap,o,k,rfl,_⟩
  ·exact⟨(by simp),true,yes,by cases ng<;>simp[PR,DC],dq<|.inl rfl,rfl⟩
  ·have j:0<(l:List s.T).length:=ah;exact⟨(by simp),false,ah,by grind [PR,DC],ah,rfl⟩
 case h_5=>simp at a
theorem YO{o:Option Obj}(h:IU o=true):∃x,o=some x:=by
 cases o with
 |none=>cases h
 |some x=>simp
theorem R6(hr:SR B h0 F ρ st.nx st.ob h){t e:TypeId}{p q:PV}{x y:V}(g:C.T.und t=some (.pointer e))(f:PR F ρ st.nx p x)(k:PR F ρ st.nx q y){r:Bool}(c:ptrEq C.T e st p q=some r):
  BG C.T t x y=some r/\x≠ .nili/\∀op,Ll C.T op t x y=(match op with| .eql=>(BG C.T t x y).map .bool| .neq=>(BG C.T t x y).map fun b=>.bool !b|_=>none):=by
 have live:∀ {id off:Nat} {v:V},PR F ρ st.nx (.ptr id off) v->IU (st.obj id)=true->∃b n,ρ id=some (b,n)/\v=.ptr b off:=by
  intro id off v A d;obtain⟨o,z⟩:=YO d;obtain⟨b,n,_,h1,_⟩:=hr.at z;grind [PR]
 unfold ptrEq at c;split at c
 case h_5=>cases c
 case h_1=>
  cases c;subst f k;exact⟨by unfold BG;rw[g],(by simp),fun op=>by cases op<;>rfl⟩
 case h_2=>
  rename_i id off;cases d:IU (st.obj id)with
  |false=>grind
  |true=>
   rw[d]at c;cases c;obtain⟨b,n,_,rfl⟩:=live f d;subst k;exact⟨by unfold BG;rw[g],(by simp),fun op=>by cases op<;>rfl⟩
 case h_3=>
  rename_i id off;cases d:IU (st.obj id)with
  |false=>grind
  |true=>
   rw[d]at c;cases c;obtain⟨b,n,_,rfl⟩:=live k d;subst f;exact⟨by unfold BG;rw[g],(by simp),fun op=>by cases op<;>rfl⟩
 case h_4=>
  rename_i a i b j;cases d:(ze a b&&IU (st.obj a))with
  |false=>grind
  |true=>
   rw[d]at c;rw[zc]at d;have l:=zd d.1;subst l;split at c
   case h_2=>cases c
   rename_i u m;cases s:z8 0 u.size with
   |false=>grind
   |true=>
    rw[s]at c;cases c;rw[Nat.blt_eq]at s;obtain⟨b,n,w,rfl⟩:=live f d.2;obtain⟨b',n',g2,rfl⟩:=live k d.2;rw[w]at g2;cases g2;refine⟨?_,(by simp),fun op=>by cases op<;>rfl⟩;unfold BG;rw[g];simp only[wk,m];rw[wd ae];congr 1;rw[BA,Bool.eq_iff_iff];simp
theorem Afe(hr:SR B h0 F ρ st.nx st.ob h){op:BinOp}{t:TypeId}{u w:Operand}{p q:PV}{x y:V}(f:PR F ρ st.nx p x)(i:PR F ρ st.nx q y){v:PV}(c:(AcM C.T op t p q st).To v st'):
  OK B h0 F ρ st h [] (BU h<|KJ C.T op t u w x y) v st':=by
 have n:∀ {x y:V},(∀(e:x=.nili),False)->KJ C.T op t u w x y=Ll C.T op t x y:=by
  simp_all [KJ,wW]
 unfold AcM at c;split at c
 case h_1=>
  rename_i k a z b;obtain rfl:=C5 f;obtain rfl:=C5 i;rw[n<|by simp];cases g:AaB op with
  |true=>
   rw[g]at c;have:=AgU hr c;unfold Ll;grind [AaB]
  |false=>
   rw[g]at c;cases j:(k==z)with
   |false=>simp_all
   |true=>
    rw[j]at c;have:=Afz hr c;have j:=wj.1 j;subst j;unfold Ll;cases op<;>simp only[AaB]at g<;>first|(cases g;done)|(simp only[wk];exact this)
 case h_2=>
  obtain rfl:=FX f;obtain rfl:=FX i;grind [AeT,Ll]
 case h_3=>
  rename_i ps E;obtain⟨xs,rfl,f⟩:=f;obtain⟨ys,rfl,i⟩:=i;split at c
  case h_2=>simp at c
  rename_i ks D;have eq:∀ {r:Bool},HV ks ps E=some r->BG C.T t (.agg xs) (.agg ys)=some r:=by
   intro r d;obtain⟨K,J,L⟩:=SD f i d;simp_all [Ps,BG]
  split at c
  case h_1=>
   rename_i r d;obtain⟨rfl,rfl⟩:=c;exact OK.pure hr (by show BU h ((BG C.T t (.agg xs)<|.agg ys).map _)=_;rw[eq d];rfl)<|Ea _
  case h_2=>
   rename_i r d;obtain⟨rfl,rfl⟩:=c;exact OK.pure hr (by show BU h ((BG C.T t (.agg xs)<|.agg ys).map _)=_;rw[eq d];rfl) (Ea _)
  simp_all
 case h_4=>
  split at c
  case h_4=>simp at c
  case h_3=>
   split at c
   case h_3=>simp at c
   case h_1=>
    simp only[Bj]at c;grind [R6,OK.pure,BU,KJ,PR,Ll]
   case h_2=>
    simp only[Bj]at c;grind [R6,OK.pure,BU,KJ,PR,Ll]
  case h_2=>
   rename_i e _ _ l;unfold pG at c;split at c
   case h_3=>simp at c
   case h_1=>
    have g:=ZL (op:=.eql) hr l f c;obtain⟨s,b,m,I,o,e⟩:=g;subst e;subst i;rw[n s,o];exact OK.pure hr (v':=.bool b) (by simp only[m];rfl) (by simp_all)
   case h_2=>
    have g:=ZL (op:=.neq) hr l f c;obtain⟨s,b,m,I,o,e⟩:=g;subst e;subst i;rw[n s,o];exact OK.pure hr (v':=.bool<|!b) (by simp only[m];rfl) (by simp_all)
  rename_i a b G A l;obtain rfl:=Ij G f;obtain rfl:=Ij A i;have eq:BG C.T t (.bool a) (.bool b)=some (a==b):=by unfold BG;rw[l]
  split at c
  case h_1=>
   obtain⟨rfl,rfl⟩:=c;exact OK.pure hr (by show BU h ((BG C.T t (.bool a)<|.bool b).map _)=_;rw[eq];rfl)<|Ea _
  case h_2=>
   obtain⟨rfl,rfl⟩:=c;exact OK.pure hr (by show BU h ((BG C.T t (.bool a)<|.bool b).map _)=_;rw[eq];rfl) (Ea _)
  simp_all
theorem Ag1(hr:SR B h0 F ρ st.nx st.ob h){op:UnOp}{p:PV}{x:V}(c:PR F ρ st.nx p x){v:PV}(a:(pun op p st).To v st'):OK B h0 F ρ st h [] (BU h<|dun op x) v st':=by
 unfold pun at a;split at a<;>simp only[M0,Bj]at a
 ·obtain⟨rfl,rfl⟩:=a;obtain rfl:=C5 c;exact OK.pure hr rfl (DI _ _)
 ·obtain⟨rfl,rfl⟩:=a;obtain rfl:=Qc c;exact OK.pure hr rfl (oB _)
 ·obtain⟨rfl,rfl⟩:=a;obtain⟨b,rfl⟩:=c;exact OK.pure hr (v':=.bool<|!b) rfl (by simp[PR])
 ·obtain⟨rfl,rfl⟩:=a;obtain rfl:=LJ c;exact OK.pure hr rfl (Ea _)
theorem AcS(hr:SR B h0 F ρ st.nx st.ob h){s d:TypeId}{p:PV}{x:V}(b:PR F ρ st.nx p x){v:PV}(a:(qG C.T s d p st).To v st'):OK B h0 F ρ st h [] (BU h<|Gz C.T h s d x) v st':=by
 unfold qG at a;split at a<;>simp only[M0,Bj]at a
 ·obtain⟨rfl,rfl⟩:=a;obtain rfl:=C5 b;simp_all [OK.pure,Gz,BU,DI]
 ·obtain rfl:=FX b;simp_all [OK.pure,Gz,BU]
theorem Adb(hr:SR B h0 F ρ st.nx st.ob h){c a b:PV}{x y z:V}(f:PR F ρ st.nx c x)(e:PR F ρ st.nx a y)(g:PR F ρ st.nx b z){v:PV}(d:(iN c a b st).To v st'):
  ∃t,x=.bool t/\OK B h0 F ρ st h [] (BU h<|some<|if t then y else z) v st':=by
 unfold iN at d;split at d
 case h_3=>simp at d
 case h_1=>
  rename_i t;obtain⟨rfl,rfl⟩:=d;refine⟨t,Qc f,OK.pure hr rfl ?_⟩;grind
 case h_2=>
  rename_i t;refine⟨t,LJ f,?_⟩;split at d
  case h_1=>
   obtain⟨rfl,rfl⟩:=d;obtain rfl:=Qc g;refine OK.pure hr rfl ?_;grind [Ea]
  case h_2=>
   obtain⟨rfl,rfl⟩:=d;obtain rfl:=Qc e;refine OK.pure hr rfl ?_;grind [Ea]
  case h_3=>
   cases d with
   |tt h=>obtain⟨rfl,rfl⟩:=h;exact OK.pure hr rfl e
   |ff h=>obtain⟨rfl,rfl⟩:=h;exact OK.pure hr rfl g
theorem Aaq(hr:SR B h0 F ρ st.nx st.ob h){t:TypeId}{p:PV}{x:V}(g:PR F ρ st.nx p x){f:Nat}{v:PV}(a:(YK C.T t p f st).To v st'):OK B h0 F ρ st h [] (BU h<|Ld C.T t x f) v st':=by
 unfold YK at a;split at a
 case h_2=>simp at a
 split at a
 case h_2=>simp at a
 rename_i c i;split at a
 case h_2=>simp at a
 simp only[SC]at a;obtain⟨b,rfl⟩:=a;obtain⟨cs,rfl,hps⟩:=g;rw[MT]at b;have hp:=hps.drop c.offset;rcases ME hp b with⟨j,_,l,d⟩|⟨j,u,k,e,d⟩
 ·simp_all [OK.pure,Ld,MJ,BU]
 ·have:cs[c.offset]?=some u:=by
   have:=wi (·[0]?) e;grind
  simp_all [OK.pure,Ld,MJ,BU]
theorem uK(hr:SR B h0 F ρ st.nx st.ob h){t:TypeId}{p:PV}{x:V}(k:PR F ρ st.nx p x){f:Nat}{v:PV}(a:(Yw C.T t p f st).To v st'):
  OK B h0 F ρ st h [] (BU h<|K9 C.T t x f) v st':=by
 have live:∀ {id},IU (st.obj id)=true->∃b n,ρ id=some (b,n):=by
  intro id l;obtain⟨o,r⟩:=JA l;obtain⟨b,n,_,h1,_⟩:=hr.at r;grind
 unfold Yw at a;split at a
 case h_2=>simp at a
 split at a
 case h_2=>simp at a
 rename_i m q;split at a
 case h_2=>simp at a
 rename_i i l;cases u:ze i.size 0 with
 |true=>simp_all
 |false=>
  have s:i.size≠0:=by intro e;simp_all
  rw[u]at a;have c:∀b off,K9 C.T t (.ptr b off) f=some (.ptr b<|off+m.offset):=by
   simp_all [K9]
  split at a
  ·rename_i id off;cases g:IU (st.obj id)with
   |false=>simp_all
   |true=>
   rw[g]at a;obtain⟨rfl,rfl⟩:=a;have d:=k;obtain⟨b,n,h1⟩:=live g;obtain rfl:=d.2 b n h1;refine OK.pure hr (by rw[c];rfl) ?_;grind [PR]
  ·rename_i id sz j off;cases g:IU (st.obj id)with
   |false=>simp_all
   |true=>
   rw[g]at a;obtain⟨rfl,rfl⟩:=a;have d:=k;obtain⟨b,n,h1⟩:=live g;obtain rfl:=d.2 b n h1;refine OK.pure hr (by rw[c];rfl) ?_;grind [PR]
  ·obtain⟨rfl,rfl⟩:=a;obtain⟨b,o,cs,rfl,h1,h2⟩:=k;refine OK.pure hr (by rw[c];rfl) ?_;grind [PR]
  simp_all
theorem SR.live(hr:SR B h0 F ρ st.nx st.ob h){id:Nat}(c:IU (st.obj id)=true):∃b n,ρ id=some (b,n):=by
 obtain⟨o,a⟩:=JA c;obtain⟨b,n,_,h1,_⟩:=hr.at a;grind
theorem EG{i:Int}(h:0<=i):∃n:Nat,i=Int.ofNat n/\i.toNat=n:=ah
theorem D1{a b:Nat}(h:a<b):z8 a b=true:=zr h
theorem jY(hr:SR B h0 F ρ st.nx st.ob h){t:TypeId}{p q:PV}{x y:V}(w:PR F ρ st.nx p x)(K:PR F ρ st.nx q y){v:PV}(a:(UE C.T t p q st).To v st'):
  OK B h0 F ρ st h [] (BU h<|FY C.T t x y) v st':=by
 unfold UE at a;split at a
 case h_3=>simp at a
 case h_2=>
  rename_i J e k i W;obtain rfl:=C5 K;split at a
  case h_2=>simp at a
  rename_i g G;split at a
  case h_4=>simp at a
  case h_1=>
   rename_i id off;simp only[PR]at w;split at a
   case h_3=>simp_all
   case h_1=>
    rename_i M te s l I;cases r:(ze off 0&&ze g.size s.sz)with
    |false=>simp_all
    |true=>
     rw[r]at a;rw[zc]at r;have A:=zd r.1;have O:=zd r.2;subst A;simp only[we,Cu,zc,w5]at a;obtain⟨⟨c,d⟩,rfl,rfl⟩:=a;obtain⟨n,rfl,hn⟩:=EG c;obtain⟨b,m,_,z,_⟩:=hr.at I;refine OK.pure hr (v':=.ptr b<|0+n*g.size) ?_ ?_
     ·simp_all [BU,FY,D1]
     simp_all [PR]
   case h_2=>
    rename_i o _ I;simp only[Cu,zc,w5]at a;obtain⟨⟨c,d⟩,rfl,rfl⟩:=a;obtain⟨n,rfl,hn⟩:=EG c;obtain⟨b,m,_,z,_⟩:=hr.at I;refine OK.pure hr (v':=.ptr b<|off+n*g.size) ?_ ?_
    ·simp_all [BU,FY,D1]
    grind [PR]
  case h_2=>
   rename_i id sz j off;cases E:IU (st.obj id)with
   |false=>simp_all
   |true=>
    rw[E]at a;simp only[we,Cu,zc,w5]at a;obtain⟨⟨c,d⟩,rfl,rfl⟩:=a;obtain⟨n,rfl,hn⟩:=EG c;obtain⟨b,m,z⟩:=hr.live E;simp only[PR]at w;refine OK.pure hr (v':=.ptr b<|j*sz+off+n*g.size) ?_ ?_
    ·simp_all [BU,FY,D1]
    grind [PR]
  case h_3=>
   rename_i s y off;simp only[Cu,zc,w5]at a;obtain⟨⟨c,d⟩,rfl,rfl⟩:=a;obtain⟨n,rfl,hn⟩:=EG c;obtain⟨b,o,cs,rfl,z,L,Q⟩:=w;refine OK.pure hr (v':=.ptr b<|o+off+n*g.size) ?_ ?_
   ·simp_all [BU,FY,D1]
   grind [PR]
 case h_1=>
 obtain rfl:=C5 K;split at a
 case h_2=>simp at a
 rename_i g G;split at a
 case h_3=>simp at a
 case h_1=>
  rename_i s l;cases f:ze g.size s.sz with
  |false=>simp_all
  |true=>
   rw[f]at a;have f:=zd f;simp only[we,Cu,zc,w5]at a;obtain⟨⟨c,d⟩,rfl,rfl⟩:=a;obtain⟨n,rfl,hn⟩:=EG c;have D:n<l.length:=ah
   obtain⟨u,R,w⟩:=w;rcases w with⟨rfl,_⟩|⟨b,off,cap,o,P,rfl,z,L,Q,_,S⟩
   ·grind
   ·refine OK.pure hr (v':=.ptr b<|off+n*g.size) ?_ ?_
    ·simp_all [BU,FY,D1]
    ·refine⟨b,off+n*s.sz,P,by grind,L,?_,?_⟩
     ·have:(n+1)*s.sz<=l.length*s.sz:=zj _ D;grind
     grind
 case h_2=>
  rename_i id sz off len cap;cases f:(ze g.size sz&&IU (st.obj id))with
  |false=>simp_all
  |true=>
   rw[f]at a;simp only[zc]at f;obtain⟨f,E⟩:=f;have f:=zd f;simp only[we,Cu,zc,w5]at a;obtain⟨⟨c,d⟩,rfl,rfl⟩:=a;obtain⟨n,rfl,hn⟩:=EG c;have D:n<len:=ah
   obtain⟨b,m,z⟩:=hr.live E;rcases w.2 b m z with⟨_,_,o,_,rfl⟩|⟨U,_⟩
   ·refine OK.pure hr (v':=.ptr b<|off*sz+n*g.size) ?_ ?_
    ·simp_all [BU,FY,D1]
    grind [PR]
   ·omega
theorem Aau(hr:SR B h0 F ρ st.nx st.ob h){t:TypeId}{p q:PV}{x y:V}(j:PR F ρ st.nx p x)(l:PR F ρ st.nx q y){v:PV}(a:(YC C.T t p q st).To v st'):
  OK B h0 F ρ st h [] (BU h<|Jq C.T t x y) v st':=by
 unfold YC at a;split at a
 case h_3=>simp at a
 case h_2=>
  rename_i m e ps k i D;obtain rfl:=C5 l;split at a
  case h_2=>simp at a
  rename_i d g E r;simp only[Yz,zc,w5]at a;obtain⟨⟨b,f⟩,c,rfl⟩:=a;obtain⟨n,rfl,hn⟩:=EG b;obtain⟨cs,rfl,hps⟩:=j;rw[MT,hn]at c;have hp:=hps.drop<|n*g.size;have w:Jq C.T t (.agg cs) (.int k<|Int.ofNat n)=MJ C.T e cs (n*g.size):=by simp_all [Jq,D1]
  rcases ME hp c with⟨s,_,_,o⟩|⟨s,u,A,z,o⟩
  ·simp_all [OK.pure,MJ,BU]
  ·have:cs[n*g.size]?=some u:=by
    have:=wi (·[0]?) z;grind
   simp_all [OK.pure,MJ,BU]
 case h_1=>
 obtain rfl:=FX j;obtain rfl:=C5 l;simp only[Cu,zc,w5]at a;obtain⟨⟨b,f⟩,rfl,rfl⟩:=a;obtain⟨n,rfl,hn⟩:=EG b;simp_all [OK.pure,BU,Jq,DI]
theorem eA(hr:SR B h0 F ρ st.nx st.ob h){p:PV}{x:V}(d:PR F ρ st.nx p x){i:Nat}{v:PV}(a:(Rg p i st).To v st'):OK B h0 F ρ st h [] (BU h<|HS x i) v st':=by
 unfold Rg at a;split at a
 case h_2=>simp at a
 split at a
 case h_2=>simp at a
 rename_i q c;simp only[Bj]at a;obtain⟨cs,rfl,b⟩:=d;obtain⟨u,h1,h2⟩:=b.get c;grind [OK.pure,HS,BU]
def Xp(F:Fz)(ρ:EA)(N:Nat):Option PV->Option V->Prop
 |none,x=>x=none
 |some p,x=>∃v,x=some v/\PR F ρ N p v
theorem Ek{o:Option PV}{x:Option V}{d:Nat}{c:Bool}{n:Nat}(a:Xp F ρ N o x)(hp:pb o d=some (c,n))(e:c=true){y:Nat}(f:n<=y):C4 x y d=some n:=by
 unfold pb at hp;split at hp
 ·cases hp;subst a;rfl
 ·obtain⟨v,rfl,b⟩:=a;obtain rfl:=C5 b;grind [zr,C4]
 grind
theorem Xp.isNone{o:Option PV}{x:Option V}(a:Xp F ρ N o x):(o=none↔x=none):=by
 cases o with
 |none=>grind [Xp]
 |some p=>simp only[Xp]at a;grind
theorem M5{T:Cg}{t e:TypeId}{d:TI}{b off len cap o m a l:Nat}{lo c mx:Option V}(k:T.und t=some (.slice e))(g:T.inf e=some d)(j:C4 mx cap cap=some m)(n:C4 c m len=some a)
  (i:C4 lo a 0=some l) (f:c=none->mx=none):
  En T t (.sl b off len cap o) lo c mx=bif ze m l then(bif ze (NH mx o) 0 then some (.sl b off (a-l) (m-l) 0)else some .esl)
   else bif ze (NH mx o) 0||ze (NH mx o) d.size then some (.sl b (off+l*d.size) (a-l) (m-l)<|NH mx o)else none:=by
 simp_all [En]
theorem iK(hr:SR B h0 F ρ st.nx st.ob h){t:TypeId}{p:PV}{x:V}{lo hi mx:Option PV}{a b c:Option V}(K:PR F ρ st.nx p x)(E:Xp F ρ st.nx lo a)(j:Xp F ρ st.nx hi b)(k:Xp F ρ st.nx mx c)
  {v:PV} (d:(UW C.T t p lo hi mx st).To v st'):OK B h0 F ρ st h [] (BU h<|En C.T t x a b c) v st':=by
 unfold UW at d;split at d
 case h_3=>simp at d
 case h_1=>
  rename_i hu;split at d
  case h_2=>simp at d
  rename_i s;obtain rfl:=FX K;split at d
  case h_2=>simp at d
  rename_i c1 l c2 n f g;simp only[Cu,zc,w5]at d;obtain⟨⟨⟨⟨J,D⟩,I⟩,A⟩,rfl,rfl⟩:=d;simp only[Xp]at k;subst k;have M:=Ek E f J I;have w:=Ek j g D A;simp_all [OK.pure,En,BU,Nh]
 case h_2=>
  rename_i e hu;split at d
  case h_2=>simp at d
  rename_i O P;split at d
  case h_4=>simp at d
  case h_1=>
   rename_i s xs;cases y:ze O.size s.sz with
   |false=>simp_all
   |true=>
    rw[y]at d;have y:=zd y;simp only[we]at d;split at d
    case h_2=>simp at d
    rename_i c1 l c2 n f g;simp only[Cu,zc,w5]at d;obtain⟨⟨⟨⟨J,D⟩,I⟩,A⟩,rfl,rfl⟩:=d;simp only[Xp]at k;subst k;have M:=Ek E f J I;simp only[PR,DC]at K;obtain⟨u,hu1,K⟩:=K;obtain rfl:x=u:=ah
    rcases K with⟨rfl,rfl|rfl|rfl⟩|⟨W,off,cap,o,bs,rfl,h1,h2,h3,h5,h4⟩
    ·have w:=Ek j g D A;simp only[jc]at w A;refine OK.pure hr (v':=.nils) (by simp_all [En,C4,tF,BU]) ?_;simp[PR,DC]
    ·have w:=Ek j g D A;simp only[jc]at w A;refine OK.pure hr (v':=.esl) (by simp_all [En,C4,tF,BU,Pm]) ?_;simp[PR,DC]
    ·have w:=Ek j g D A;simp only[jc]at w A;refine OK.pure hr (v':=.es0) (by simp_all [En,C4,tF,BU]) ?_;simp[PR,DC]
    ·have w:C4 b cap xs.length=some n:=(by grind [Ek]);have r:=M5 (b:=W) (off:=off) (len:=xs.length) (cap:=cap) (o:=o) (mx:=none) hu P rfl w M (fun _=>rfl);have L:((xs.drop l).take<|Nat.sub n l).length=n-l:=by
      grind
     by_cases Z:cap=l
     ·have hhl:n=l:=ae
      have S:(xs.drop l).take (Nat.sub n l)=[]:=by
       grind
      rw[S];by_cases G:o=0
      ·refine OK.pure hr (v':=.sl W off (n-l) (cap-l) 0) ?_ ?_
       ·have:NH none o=0:=G;rw[r,this,Z,yn];rfl
       ·simp only[PR,DC];exact⟨_,rfl,.inr ⟨W,off,cap-l,0,bs,by grind,by simp,h2,by grind,.inl rfl,(by simp)⟩⟩
      ·refine OK.pure hr (v':=.esl) ?_ ?_
       ·have h1:ze (NH none o) 0=false:=by rw[BA];simp[NH,G]
        rw[r,h1,Z,yn];rfl
       ·simp[PR,DC]
     ·refine OK.pure hr (v':=.sl W (off+l*O.size) (n-l) (cap-l) o) ?_ ?_
      ·have f:ze cap l=false:=by rw[BA];grind
       have G:(ze (NH none o) 0||ze (NH none o) O.size)=true:=by
        rcases h5 with rfl|rfl
        ·rfl
        ·rw[y];show(ze s.sz 0||ze s.sz s.sz)=true;simp
       rw[r,f,G];rfl
      ·simp only[PR,DC];refine⟨_,rfl,.inr ⟨W,off+l*O.size,cap-l,o,bs,by rw[L],by omega,h2,?_,h5,fun i hi=>?_⟩⟩
       ·rw[L,y];have:(l+(n-l))*s.sz<=xs.length*s.sz:=zj _ ae;grind
       grind
  case h_2=>
   rename_i id sz off len cap;cases y:(ze O.size sz&&IU (st.obj id))with
   |false=>rw[y]at d;simp at d
   |true=>
    rw[y]at d;simp only[zc]at y;obtain⟨y,hl⟩:=y;have y:=zd y;simp only[we]at d;have hno:¬(hi=none/\mx≠none):=by
     rintro⟨rfl,hm⟩;cases mx with
     |none=>grind
     |some _=>simp at d
    split at d
    case h_1=>grind
    split at d
    case h_2=>simp at d
    rename_i c1 l c2 n c3 m f g Q;simp only[Cu,zc,w5]at d;obtain⟨⟨⟨⟨⟨⟨⟨J,D⟩,I⟩,A⟩,k5⟩,k6⟩,k7⟩,rfl,rfl⟩:=d;have M:=Ek E f J A;have e3:=Ek k Q I k6;have w:=Ek j g D k5;have Y:b=none->c=none:=by
     intro hbn;cases hcc:c with
     |none=>rfl
     |some z=>
      exfalso;apply hno;exact⟨j.isNone.2 hbn,fun e=>by have:=k.isNone.1 e;grind⟩
    obtain⟨R,n0,h1⟩:=hr.live hl;simp only[PR]at K;rcases K.2 R n0 h1 with⟨g1,g2,o,g3,rfl⟩|⟨rfl,rfl,g2,g3⟩
    ·have r:=M5 (b:=R) (off:=off*sz) (len:=len) (cap:=cap.getD len) (o:=o) hu P e3 w M Y;have hoz:NH c o=0\/NH c o=sz:=by
      unfold NH;grind
     by_cases U:m=l
     ·have hhl:n-l=0:=ae
      by_cases G:NH c o=0
      ·refine OK.pure hr (v':=.sl R (off*sz) (n-l) (m-l) 0) ?_ ?_
       ·rw[r,G,U,yn];rfl
       ·unfold PR;grind
      ·refine OK.pure hr (v':=.esl) ?_ ?_
       ·have hb0:ze (NH c o) 0=false:=by rw[BA];simp[G]
        rw[r,hb0,U,yn];rfl
       ·unfold PR;grind
     ·refine OK.pure hr (v':=.sl R (off*sz+l*O.size) (n-l) (m-l)<|NH c o) ?_ ?_
      ·have f:ze m l=false:=by rw[BA];grind
       have G:(ze (NH c o) 0||ze (NH c o) O.size)=true:=by
        simp_all
       rw[r,f,G];rfl
      grind [PR,Nat.add_mul]
    ·simp only[Option.getD_some]at k6 k7 e3;obtain rfl:m=0:=ae
     obtain rfl:n=0:=ae
     obtain rfl:l=0:=ae
     have hc:c=none:=by
      cases mx with
      |none=>exact k
      |some _=>simp[has]at k7
     subst hc;rcases g3 with rfl|⟨X,rfl,g4⟩
     ·refine OK.pure hr (v':=.esl) (by simp_all [En,tF,BU,Pm]) ?_;simp_all [PR]
     ·refine OK.pure hr (v':=.sl R X 0 0 0) ?_ ?_
      ·rw[M5 (mx:=none) hu P rfl w M (fun _=>rfl)];rfl
      simp_all [PR]
  case h_3=>
   split at d
   case h_3=>simp at d
   case h_2=>
    rename_i c1 l c2 n q f g;split at d
    case h_2=>simp at d
    rename_i p' c3 m Q;simp only[Cu,zc,w5]at d;obtain⟨⟨⟨⟨⟨⟨J,D⟩,k5⟩,I⟩,A⟩,k6⟩,rfl,rfl⟩:=d;have M:=Ek E f J I;have w:=Ek j g D ae;have e3:=Ek k Q k5 k6;simp only[PR]at K;cases b with
    |none=>simp[Xp]at j
    |some b=>exact OK.pure hr (v':=.nils) (by simp_all [En,tF,BU]) (by simp[PR])
   rename_i c1 l c2 n f g;simp only[Cu,zc,w5]at d;obtain⟨⟨⟨⟨J,D⟩,I⟩,A⟩,rfl,rfl⟩:=d;simp only[Xp]at k;have M:=Ek E f J I;have w:=Ek j g D A;simp only[PR]at K;exact OK.pure hr (v':=.nils) (by simp_all [En,C4,tF,BU]) (by simp[PR])
theorem vP(hr:SR B h0 F ρ st.nx st.ob h){t:TypeId}{p q:PV}{x y:V}(b:PR F ρ st.nx p x)(c:PR F ρ st.nx q y){v:PV}(a:(iT C.T t p q st).To v st'):
  OK B h0 F ρ st h [] (BU h<|FY C.T t x y) v st':=jY hr b.lz c a
theorem yH(hr:SR B h0 F ρ st.nx st.ob h){t:TypeId}{p:PV}{x:V}{lo g mx:Option PV}{a b c:Option V}(j:PR F ρ st.nx p x)(d:Xp F ρ st.nx lo a)(e:Xp F ρ st.nx g b)(f:Xp F ρ st.nx mx c)
  {v:PV} (i:(tB C.T t p lo g mx st).To v st'):OK B h0 F ρ st h [] (BU h<|En C.T t x a b c) v st':=iK hr j.lz d e f i
end
end Go.Pe
