import Derived.Test.YtbmofcgiokkikaaGreatDoorX05
import Derived.Shelf.Strings.OnBuilder
import Derived.Shelf.Strconv.Itoa3
import Derived.Lib.LaidTab
import Derived.Shelf.Strings.Repeat
import Derived.Lib.AppendIntMem
/- A part of a proof; no law is stated here. -/
noncomputable section
set_option maxRecDepth 100000
open Bool renaming and_eq_true -> zc
open Nat renaming eq_of_beq_eq_true -> zd, beq -> ze, mul_le_mul_right -> zi, le_refl -> zj, lt_of_lt_of_le -> zl, le_of_ble_eq_true -> zm, ble -> zq, blt -> zz, ble_eq_true_of_le -> z7, add -> yk, beq_refl -> qw, mul_one -> qz, succ_mul -> je
open Option renaming map_eq_some_iff -> zf
open Option.some renaming injEq -> zh
open Go.Proofs.Tryz renaming prog -> zk, underlying302 -> zu, underlying5 -> z8, underlying9 -> ya, underlying251 -> yb, underlying233 -> yc, underlying264 -> yd, underlying217 -> ye, underlying20 -> yf, zeroValue251 -> yg, zeroValue233 -> yh, zeroValue264 -> yi, zeroValue217 -> yj, underlying0 -> ym, underlying3 -> yn, underlying4 -> yo, underlying5 -> yp, underlying9 -> yq, zeroValue20 -> yr, underlying217 -> yu, underlying251 -> yv, zeroValue0 -> yy, zeroValue3 -> yz, zeroValue4 -> y7, zeroValue5 -> y8, zeroValue9 -> y9, zeroValue217 -> qc, sizeOf251 -> qe, sizeOf233 -> qf, sizeOf264 -> qg, sizeOf217 -> qh, sizeOf20 -> qi, isAgg251 -> qj, isAgg233 -> qk, isAgg264 -> ql, isAgg217 -> qm, sizeOf0 -> qo, sizeOf3 -> qp, sizeOf4 -> qq, sizeOf5 -> qt, sizeOf9 -> qu, isAgg20 -> qv
open List renaming take_of_length_le -> zn, mem_singleton -> zo, getElem?_take_of_lt -> zt, ext_getElem? -> z6, drop_take -> yw, getElem?_drop -> yx, length_nil -> qx, replicate -> q9
open Go.Lib renaming decDigits -> zp, nDigits -> zy, zeros24 -> qd
open Array renaming size_replicate -> zr, getElem?_append_left -> yt, toList_inj -> qn
open Go.Det.V renaming ok -> qy
open Go.Value renaming int -> jc
open Go.Det renaming CR -> jf
namespace Go.Det
section
open Go.Proofs.Tryz (prog)
def A7:CX:=[(8,[],.bool true)]
theorem Af3:A0 C72 1000 A7=true:=by kernel_rfl
theorem spA:Md prog (LQ A7):=iI AeS jU VX Af3
end
open Go.Proofs
def HC:Go.Shelf.Ren:=⟨fun|171=>209|243=>238|246=>271|283=>272|284=>273|285=>274|286=>275|129=>229|317=>289|318=>290|319=>291|320=>292|337=>299|338=>300|n=>n,fun|3=>3|9=>9|2=>2|4=>4|171=>302|0=>0|53=>217|37=>251|5=>5|173=>304|212=>325|51=>264|20=>20|213=>326|46=>233|232=>337|233=>338|n=>n,fun|17=>5|18=>8|19=>9|n=>n⟩
theorem I6:Go.Proofs.LaysM.n171 Go.Proofs.Tryz.prog HC:=
  { mixed:=by kernel_rfl,f129:=Go.Proofs.Tryz.func229.trans (wi some ag),f171:=Go.Proofs.Tryz.func209.trans (wi some ag),f243:=Go.Proofs.Tryz.func238.trans (wi some ag),f246:=Go.Proofs.Tryz.func271.trans (wi some ag),f283:=Go.Proofs.Tryz.func272.trans (wi some ag),f284:=Go.Proofs.Tryz.func273.trans (wi some ag),f285:=Go.Proofs.Tryz.func274.trans (wi some ag),f286:=Go.Proofs.Tryz.func275.trans (wi some ag),f317:=Go.Proofs.Tryz.func289.trans (wi some ag),f318:=Go.Proofs.Tryz.func290.trans (wi some ag),f319:=Go.Proofs.Tryz.func291.trans (wi some ag),f320:=Go.Proofs.Tryz.func292.trans (wi some ag),f337:=Go.Proofs.Tryz.func299.trans (wi some ag),f338:=Go.Proofs.Tryz.func300.trans (wi some ag),t0:=ym,a0:=Go.Proofs.Tryz.isAgg0,z0:=qo,v0:=yy,t2:=Go.Proofs.Tryz.underlying2,a2:=Go.Proofs.Tryz.isAgg2,z2:=Go.Proofs.Tryz.sizeOf2,v2:=Go.Proofs.Tryz.zeroValue2,t3:=yn,a3:=Go.Proofs.Tryz.isAgg3,z3:=qp,v3:=yz,t4:=yo,a4:=Go.Proofs.Tryz.isAgg4,z4:=qq,v4:=y7,t5:=yp,a5:=Go.Proofs.Tryz.isAgg5,z5:=qt,v5:=y8,t9:=yq,a9:=Go.Proofs.Tryz.isAgg9,z9:=qu,v9:=y9,t20:=yf,a20:=qv,z20:=qi,v20:=yr,t37:=yb,a37:=qj,z37:=qe,v37:=yg,t46:=yc,a46:=qk,z46:=qf,v46:=yh,t51:=yd,a51:=ql,z51:=qg,v51:=yi,t53:=ye,a53:=qm,z53:=qh,v53:=yj,t171:=Go.Proofs.Tryz.underlying302,a171:=Go.Proofs.Tryz.isAgg302,z171:=Go.Proofs.Tryz.sizeOf302,v171:=Go.Proofs.Tryz.zeroValue302,t173:=Go.Proofs.Tryz.underlying304,a173:=Go.Proofs.Tryz.isAgg304,z173:=Go.Proofs.Tryz.sizeOf304,v173:=Go.Proofs.Tryz.zeroValue304,t212:=Go.Proofs.Tryz.underlying325,a212:=Go.Proofs.Tryz.isAgg325,z212:=Go.Proofs.Tryz.sizeOf325,v212:=Go.Proofs.Tryz.zeroValue325,t213:=Go.Proofs.Tryz.underlying326,a213:=Go.Proofs.Tryz.isAgg326,z213:=Go.Proofs.Tryz.sizeOf326,t232:=Go.Proofs.Tryz.underlying337,a232:=Go.Proofs.Tryz.isAgg337,z232:=Go.Proofs.Tryz.sizeOf337,v232:=Go.Proofs.Tryz.zeroValue337,t233:=Go.Proofs.Tryz.underlying338,a233:=Go.Proofs.Tryz.isAgg338,z233:=Go.Proofs.Tryz.sizeOf338,v233:=Go.Proofs.Tryz.zeroValue338,g17:=by kernel_rfl,g18:=by kernel_rfl,g19:=by kernel_rfl,i0:=by kernel_rfl,i2:=by kernel_rfl,i3:=by kernel_rfl,i4:=by kernel_rfl,i5:=by kernel_rfl,i9:=by kernel_rfl,i20:=by kernel_rfl,i37:=by kernel_rfl,i46:=by kernel_rfl,i51:=by kernel_rfl,i53:=by kernel_rfl,i171:=by kernel_rfl,i173:=by kernel_rfl,i212:=by kernel_rfl,i232:=by kernel_rfl,i233:=by kernel_rfl,m17:=by kernel_rfl,m18:=by kernel_rfl,m19:=by kernel_rfl }
open Go.Proofs.Tryz (prog)
theorem aD(s:Z):(bytesOf s).data.toList=s:=by simp[bytesOf]
def eqU:List V->List Int->Bool
 |[],[]=>true
 | .int .u64 n::l,m::r=>bif decide (n=m)then eqU l r else false
 |_,_=>false
theorem cS{p:Pl}:∀ {cs:List V} {r:List Int} {vs:List Value},eqU cs r=true->AB p cs vs->vs=r.map fun z=>jc .u64 z
 |[],[],vs,_,h=>by simpa using h
 | .int .u64 n::l,m::r,vs,a,h=>by
  unfold eqU at a;cases b:decide (n=m)with
  |false=>rw[b]at a;cases a
  |true=>
   rw[b]at a;have e:=w6 b;subst e;cases vs with
   |nil=>simp at h
   |cons v vs=>
    simp only[BE,Ag]at h;rw[h.1,cS a h.2];rfl
def VI(h:H):Bool:=match h.get 5 with
 |some (.cells cs _ _)=>eqU cs Lib.pow10Tab
 |_=>false
def fH:List V->H->Option (V×H)
 |[.int .i64 n],h=>bif VI h&&decide (-9223372036854775808<=n)&&decide (n<=9223372036854775807)then some (.str<|Lib.itoa n,h)else none
 |_,_=>none
def xV:Z7:=fun f=>bif ze f 209 then some fH else none
theorem sA:∀ {cs:List V} {r:List Int},eqU cs r=true->cs.length=r.length/\∀d∈cs,d.ok=true
 |[],[],_=>⟨rfl,fun d a=>by cases a⟩
 | .int .u64 n::l,m::r,b=>by
  unfold eqU at b;cases a:decide (n=m)with
  |false=>rw[a]at b;cases b
  |true=>
   rw[a]at b;obtain⟨e,c⟩:=sA (cs:=l) (r:=r) b;refine⟨by simp[e],fun d a=>?_⟩;rcases List.mem_cons.1 a with rfl|a
   ·rfl
   ·exact c d a
theorem AeW : prog.globalNamed "internal/strconv.uint64pow10" = some 5 := by kernel_rfl
theorem at5{p:Pl}(a:Gp p):p[5]?=some (5,20):=a _<|List.mem_cons_self ..
theorem cJ {p : Pl} {h : H} {w : World} (hr : R p h w) (g : Gp p) (a : VI h = true) : Lib.TabIs prog w "internal/strconv.uint64pow10" .u64 Lib.pow10Tab := by
 unfold VI at a;split at a
 case h_2=>cases a
 rename_i cs t fz i;obtain⟨r,n,x,e,j,c,fz',rfl,l,k,d,_⟩:=hr.obj 5 _ i;rw[at5 g]at e;cases e;obtain⟨e1,e2⟩:=sA a;have m:cs.length=20:=e1.trans rfl;have b:c.toList.take cs.length=c.toList:=zn (by simp;omega);rw[b]at d;have f:=cS a (d.Pq e2);unfold Lib.TabIs World.var?;rw[AeW];show(match w.heap[5]? with
  |some (.cells cs _ _)=>some cs
  |_=>none)=_
 rw[j];show some c=_;rw[<-f]
theorem pP:Md prog xV:=by
 intro f q c p h w args args' v h' hr m i a;unfold xV at c;cases d:ze f 209 with
 |false=>rw[d]at c;cases c
 |true=>
  rw[d]at c;cases c;cases zd d;unfold fH at a;split at a
  case h_2=>cases a
  rename_i n;cases b:(VI h&&decide (-9223372036854775808<=n)&&decide (n<=9223372036854775807))with
  |false=>rw[b]at a;cases a
  |true=>
   rw[b]at a;cases a;rw[zc,zc,w5,w5]at b;obtain⟨x,o,g⟩:=i.one;have:args'= #[x]:=qn.1 o;subst this;simp only[Ag]at g;subst g;refine(Any.strconv_Itoa I6 n b.1.2 b.2 w<|cJ hr m b.1.1).mono ?_;rintro e w' ⟨rfl,k,os,rfl⟩;exact⟨_,p,rfl,by simp only[Ag];rfl,NU hr ⟨rfl,rfl,rfl,by show w.heap.size<=(w.heap++os).size;rw[Array.size_append];omega,fun j l=>by show(w.heap++os)[j]?=_;exact yt l⟩⟩
open Go.Proofs
def Lt:Go.Shelf.Ren:=⟨fun|105=>212|212=>244|99=>196|165=>245|166=>213|170=>246|169=>214|263=>276|264=>178|206=>231|240=>247|241=>277|276=>278|277=>293|n=>n,fun|9=>9|3=>3|4=>4|20=>20|0=>0|46=>233|109=>273|5=>5|72=>253|76=>238|51=>264|146=>306|53=>217|148=>218|70=>250|37=>251|75=>237|127=>276|164=>308|80=>210|n=>n,fun|n=>n⟩
theorem jL:Go.Proofs.Lays.n105 Go.Proofs.Tryz.prog Lt:=
  { mixed:=by kernel_rfl,f99:=Go.Proofs.Tryz.func196.trans (wi some ag),f105:=Go.Proofs.Tryz.func212.trans (wi some ag),f165:=Go.Proofs.Tryz.func245.trans (wi some ag),f166:=Go.Proofs.Tryz.func213.trans (wi some ag),f169:=Go.Proofs.Tryz.func214.trans (wi some ag),f170:=Go.Proofs.Tryz.func246.trans (wi some ag),f206:=Go.Proofs.Tryz.func231.trans (wi some ag),f212:=Go.Proofs.Tryz.func244.trans (wi some ag),f240:=Go.Proofs.Tryz.func247.trans (wi some ag),f241:=Go.Proofs.Tryz.func277.trans (wi some ag),f263:=Go.Proofs.Tryz.func276.trans (wi some ag),f264:=Go.Proofs.Tryz.func178.trans (wi some ag),f276:=Go.Proofs.Tryz.func278.trans (wi some ag),f277:=Go.Proofs.Tryz.func293.trans (wi some ag),t0:=ym,a0:=Go.Proofs.Tryz.isAgg0,z0:=qo,v0:=yy,t3:=yn,a3:=Go.Proofs.Tryz.isAgg3,z3:=qp,v3:=yz,t4:=yo,a4:=Go.Proofs.Tryz.isAgg4,z4:=qq,v4:=y7,t5:=yp,a5:=Go.Proofs.Tryz.isAgg5,z5:=qt,v5:=y8,t9:=yq,a9:=Go.Proofs.Tryz.isAgg9,z9:=qu,v9:=y9,t20:=yf,a20:=qv,z20:=qi,v20:=yr,t37:=yb,a37:=qj,z37:=qe,v37:=yg,t46:=yc,a46:=qk,z46:=qf,v46:=yh,t51:=yd,a51:=ql,z51:=qg,v51:=yi,t53:=ye,a53:=qm,z53:=qh,v53:=yj,t70:=Go.Proofs.Tryz.underlying250,a70:=Go.Proofs.Tryz.isAgg250,z70:=Go.Proofs.Tryz.sizeOf250,v70:=Go.Proofs.Tryz.zeroValue250,t72:=Go.Proofs.Tryz.underlying253,a72:=Go.Proofs.Tryz.isAgg253,z72:=Go.Proofs.Tryz.sizeOf253,v72:=Go.Proofs.Tryz.zeroValue253,t75:=Go.Proofs.Tryz.underlying237,a75:=Go.Proofs.Tryz.isAgg237,z75:=Go.Proofs.Tryz.sizeOf237,v75:=Go.Proofs.Tryz.zeroValue237,t76:=Go.Proofs.Tryz.underlying238,a76:=Go.Proofs.Tryz.isAgg238,z76:=Go.Proofs.Tryz.sizeOf238,v76:=Go.Proofs.Tryz.zeroValue238,t109:=Go.Proofs.Tryz.underlying273,a109:=Go.Proofs.Tryz.isAgg273,z109:=Go.Proofs.Tryz.sizeOf273,v109:=Go.Proofs.Tryz.zeroValue273,t127:=Go.Proofs.Tryz.underlying276,a127:=Go.Proofs.Tryz.isAgg276,z127:=Go.Proofs.Tryz.sizeOf276,v127:=Go.Proofs.Tryz.zeroValue276,t146:=Go.Proofs.Tryz.underlying306,a146:=Go.Proofs.Tryz.isAgg306,z146:=Go.Proofs.Tryz.sizeOf306,v146:=Go.Proofs.Tryz.zeroValue306,t148:=Go.Proofs.Tryz.underlying218,a148:=Go.Proofs.Tryz.isAgg218,z148:=Go.Proofs.Tryz.sizeOf218,v148:=Go.Proofs.Tryz.zeroValue218,t164:=Go.Proofs.Tryz.underlying308,a164:=Go.Proofs.Tryz.isAgg308,z164:=Go.Proofs.Tryz.sizeOf308,v164:=Go.Proofs.Tryz.zeroValue308 }
theorem AcX:Builder.Extra zk Lt:=
  { sizeBuilder:=by kernel_rfl,liesBuilder:=by kernel_rfl,t5:=z8,a5:=Tryz.isAgg5,z5:=Tryz.sizeOf5,v5:=Tryz.zeroValue5,infoByte:=by kernel_rfl,cellsByte:=by kernel_rfl,sizeByte:=by kernel_rfl,neB5:=by decide }
open Go.Proofs.Tryz (prog)
def VM:List V->H->Option (V×H)
  |[.str s,.int .i64<|.ofNat c],h=>bif zq c 9223372036854775807&&zq (Fb s*c) 140737488355328 then some (.str<|Lib.repeatL s c,h)else none
  |_,_=>none
def UX:Z7:=fun f=>bif ze f 212 then some VM else none
theorem aR:Md prog UX:=by
  intro f q b p h w args args' v h' hr r m a
  unfold UX at b
  cases g:ze f 212 with
  |false=>rw[g]at b;cases b
  |true=>
    rw[g]at b;cases b
    cases zd g
    unfold VM at a
    split at a
    case h_2=>cases a
    rename_i s c
    cases d:(zq c 9223372036854775807&&zq (Fb s*c) 140737488355328)with
    |false=>rw[d]at a;cases a
    |true=>
      rw[d]at a;cases a
      rw[zc]at d
      have n:=zm d.1
      have l:=zm d.2
      rw[DF]at l
      obtain⟨x,y,o,j,k⟩:=m.two
      have:args'= #[x,y]:=qn.1 o
      subst this
      simp only[Ag]at j k;subst j k
      refine(Any.strings_Repeat jL AcX (bytesOf s) c w n<|by rw[Cb];exact l).mono ?_
      rintro e w' ⟨rfl,i⟩
      exact⟨_,p,rfl,by simp only[Ag];rw[aD];rfl,NU hr i⟩
end Go.Det
namespace Go.Proofs
open Go.Shelf Go.RowKit Go.Sort Go.Lib Go.Det
namespace FmtU
set_option maxHeartbeats 6400000 in
theorem small(i:Nat)(q:i<100)(w:World):Calls zk 243 #[.int .u64 i,.int .i64 10] w fun e w'=>e=.returned (.string ⟨(zp i).toArray⟩)/\w'=w:=by
 have mixed:=I6.mixed;have t3:=Tryz.underlying3;have a3:=Tryz.isAgg3;have z3:=Tryz.sizeOf3;have v3:=Tryz.zeroValue3;have t9:=ya;have a9:=Tryz.isAgg9;have z9:=Tryz.sizeOf9;have v9:=Tryz.zeroValue9;have t4:=Tryz.underlying4;have a4:=Tryz.isAgg4;have z4:=Tryz.sizeOf4;have v4:=Tryz.zeroValue4;have m:=yu;have j:=Tryz.isAgg217;have p:=Tryz.sizeOf217;have a:=qc;have d:=zu;have k:=Tryz.isAgg302;have f:=Tryz.sizeOf302;have o:=Tryz.zeroValue302;have t0:=Tryz.underlying0;have a0:=Tryz.isAgg0;have z0:=Tryz.sizeOf0;have v0:=Tryz.zeroValue0;have l:=yv;have g:=Tryz.isAgg251;have c:=Tryz.sizeOf251;have b:=Tryz.zeroValue251;have t5:=z8;have a5:=Tryz.isAgg5;have z5:=Tryz.sizeOf5;have v5:=Tryz.zeroValue5;have n:∀args w,(callFunc 272 args).run zk w=.ok (.enter 272 args) w:=enters_of Tryz.func272 ag rfl;go_enter Tryz.func243,Tryz.ntmps243
 go_wp2_with (go_at_fn 272;refine(Any.internal_strconv_small (ρ:=HC) { I6 with } i q _).mono ?_;rintro e w' ⟨rfl,rfl⟩)
 go_ret
 exact⟨rfl,rfl⟩
set_option maxHeartbeats 6400000 in
theorem big (u : Nat) (Q : 100 <= u) (a : u < 18446744073709551616) (w : World) (i : Lib.TabIs Tryz.prog w "internal/strconv.uint64pow10" .u64 Lib.pow10Tab) :
  Calls zk 243 #[.int .u64 u,.int .i64 10] w fun e w'=>e=.returned (.string ⟨(zp u).toArray⟩)/\∃k os,w'=grow (w.drewN k) os:=by
 have mixed:=I6.mixed;have t3:=Tryz.underlying3;have a3:=Tryz.isAgg3;have z3:=Tryz.sizeOf3;have v3:=Tryz.zeroValue3;have t9:=ya;have a9:=Tryz.isAgg9;have z9:=Tryz.sizeOf9;have v9:=Tryz.zeroValue9;have t4:=Tryz.underlying4;have a4:=Tryz.isAgg4;have z4:=Tryz.sizeOf4;have v4:=Tryz.zeroValue4;have G:=yu;have A:=Tryz.isAgg217;have J:=Tryz.sizeOf217;have q:=qc;have x:=zu;have D:=Tryz.isAgg302;have y:=Tryz.sizeOf302;have I:=Tryz.zeroValue302;have t0:=Tryz.underlying0;have a0:=Tryz.isAgg0;have z0:=Tryz.sizeOf0;have v0:=Tryz.zeroValue0;have E:=yv;have z:=Tryz.isAgg251;have t:=Tryz.sizeOf251;have r:=Tryz.zeroValue251;have t5:=z8;have a5:=Tryz.isAgg5;have z5:=Tryz.sizeOf5;have v5:=Tryz.zeroValue5;have s:∀args w,(callFunc 273 args).run zk w=.ok (.enter 273 args) w:=enters_of Tryz.func273 ag rfl;have v:∀args w,(callFunc 274 args).run zk w=.ok (.enter 274 args) w:=enters_of Tryz.func274 ag rfl;have f:1<=u:=ae
 have n:zy u<=20:=by have:=Lib.numDigits_eq u f a;split at this<;>omega
 have g:zk.arrayLen 302=24:=by simp[Program.arrayLen,zu]
 have K:∀W,(Instr.sliceAt 302 (.pointer (some ⟨w.heap.size,0,none⟩)) none (some (.int .i64 (zy u:Int))) none).run zk W=.ok (.slice (some ⟨w.heap.size,0,none⟩) (zy u) 24) W:=fun W=>by
  rw[run_sliceAt_array_h W 302 ⟨w.heap.size,0,none⟩ (by simp[Program.arrayLen,Program.elem,zu]) .i64 (zy u:Int) ae (by rw[g];omega)];go_simp
 have d:=Lib.holds_zero0 w 302 (zy u) ae;have c:=Any.internal_strconv_formatBase10 (ρ:=HC) (P:=zk) { I6 with } w.heap.size 0 24 u (Array.replicate (zy u) 0) (w.alloc (.cells qd 302)) d (by rw[zr];exact Lib.lt_pow_nDigits u) a (by rw[zr];omega);rw[zr]at c;have m:=Lib.hid d;have O:(100:Int)<=(u:Int):=ae
 clear d g;go_enter Tryz.func243,Tryz.ntmps243
 go_wp2_with (first
  |(go_at_fn 273;refine(Any.internal_strconv_numDigits (ρ:=HC) { I6 with } u f a _ (Lib.tabIs_alloc i _)).mono ?_;rintro e w' ⟨rfl,rfl⟩))
 go_at_fn 274
 refine c.mono ?_;rintro e w' ⟨rfl,k,v',l,rfl,o⟩;have M:(convert 251 9 (.slice (some ⟨w.heap.size,0,none⟩) (zy u) 24)).run zk ((putRow (fun(b:UInt8)=>jc .u8 (b.toNat:Int)) (w.alloc (.cells qd 302)) w.heap.size 0 l).drewN k)=.ok (.string ⟨(zp u).toArray⟩) ((putRow (fun(b:UInt8)=>jc .u8 (b.toNat:Int)) (w.alloc (.cells qd 302)) w.heap.size 0 l).drewN k):=by
  have h:=run_convert_bytes_back (P:=zk) ((putRow (fun(b:UInt8)=>jc .u8 (b.toNat:Int)) (w.alloc (.cells qd 302)) w.heap.size 0 l).drewN k) 251 9 5 ⟨w.heap.size,0,none⟩ 24 (zp u) yv z8 ya (fun j p=>by
   rw[Lib.row_is_numeral o j p,Lib.add_plain,World.cell?_drewN];exact cell?_putRow (fun(b:UInt8)=>jc .u8 (b.toNat:Int)) _ w.heap.size 0 _ l m.out (by rw[o.size,zr]) j (by rw[o.size];rw[Lib.decDigits_length]at p;exact p))
  rw[Lib.decDigits_length]at h;exact h
 go_wp2
 go_ret
 obtain⟨os,L⟩:=Lib.fin_at w (.cells qd 302) l k 0;exact⟨rfl,k,os,L⟩
theorem all (u : Nat) (a : u < 18446744073709551616) (w : World) (b : Lib.TabIs Tryz.prog w "internal/strconv.uint64pow10" .u64 Lib.pow10Tab) :
  Calls zk 243 #[.int .u64 u,.int .i64 10] w fun e w'=>e=.returned (.string ⟨(zp u).toArray⟩)/\∃k os,w'=grow (w.drewN k) os:=by
 by_cases h:u<100
 ·exact(small u h w).mono fun e w' ⟨d,c⟩=>⟨d,0, #[],by rw[c];simp[World.drewN_zero]⟩
 ·exact big u ae a w b
theorem outer (u : Nat) (a : u < 18446744073709551616) (w : World) (b : Lib.TabIs Tryz.prog w "internal/strconv.uint64pow10" .u64 Lib.pow10Tab) :
  Calls zk 211 #[.int .u64 u,.int .i64 10] w fun e w'=>e=.returned (.string ⟨(zp u).toArray⟩)/\∃k os,w'=grow (w.drewN k) os:=by
 have mixed:=I6.mixed;have t3:=Tryz.underlying3;have a3:=Tryz.isAgg3;have z3:=Tryz.sizeOf3;have v3:=Tryz.zeroValue3;have t9:=ya;have a9:=Tryz.isAgg9;have z9:=Tryz.sizeOf9;have v9:=Tryz.zeroValue9;have f:=yu;have d:=Tryz.isAgg217;have i:=Tryz.sizeOf217;have c:=qc;have g:∀args w,(callFunc 243 args).run zk w=.ok (.enter 243 args) w:=enters_of Tryz.func243 ag rfl;go_enter Tryz.func211,Tryz.ntmps211
 go_wp2_with (go_at_fn 243;refine(all u a _ b).mono ?_;rintro e w' ⟨rfl,k,os,rfl⟩)
 go_ret
 exact⟨rfl,k,os,rfl⟩
end FmtU
end Go.Proofs
namespace Go.Det
open Go.Proofs
open Go.Proofs.Tryz (prog)
def fmtQ:List V->H->Option (V×H)
 |[.int .u64<|.ofNat n,.int .i64<|.ofNat b],h=>bif VI h&&(zq n 18446744073709551615&&ze b 10)then some (.str<|zp n,h)else none
 |_,_=>none
def fmtS:Z7:=fun f=>bif ze f 211 then some fmtQ else none
theorem AbA:Md prog fmtS:=by
 intro f q c p h w args args' v h' hr r l a;unfold fmtS at c;cases g:ze f 211 with
 |false=>rw[g]at c;cases c
 |true=>
  rw[g]at c;cases c;cases zd g;unfold fmtQ at a;split at a
  case h_2=>cases a
  rename_i n b;cases d:(VI h&&(zq n 18446744073709551615&&ze b 10))with
  |false=>rw[d]at a;cases a
  |true=>
   rw[d]at a;cases a;rw[zc,zc]at d;obtain⟨o,i,s⟩:=d;have i:=zm i;cases zd s;obtain⟨x,y,hl,g1,g2⟩:=l.two;have:args'= #[x,y]:=qn.1 hl;subst this;simp only[Ag]at g1 g2;subst g1 g2;refine(FmtU.outer n ae w<|cJ hr r o).mono ?_;rintro e w' ⟨rfl,k,os,rfl⟩;exact⟨_,p,rfl,by simp only[Ag];rfl,NU hr ⟨rfl,rfl,rfl,by show w.heap.size<=(w.heap++os).size;rw[Array.size_append];omega,fun j m=>by show(w.heap++os)[j]?=_;exact yt m⟩⟩
end Go.Det
namespace Go.Pe
open Go.Det
@[reducible] def BF:List Sh->Sh
 |[]=>.unit
 |[a]=>a
 |a::b::l=>.pair a<|BF (b::l)
def Af:(l:List Sh)->(BF l).T->List PV
 |[],_=>[]
 |[a],x=>[Cx a x]
 |a::b::l,x=>Cx a x.1::Af (b::l) x.2
structure Am where
 ins:List Sh
 pre:(BF ins).T->Bool
 outs:List Sh
 f:(BF ins).T->(BF outs).T
 nd:Bool:=false
def Sh.sc:Sh->Bool
 | .int _| .bool| .str| .unit| .fnv=>true
 | .list _| .nlist _| .ptr _=>false
 | .pair a b=>a.sc&&b.sc
structure gK where
 ins:List Sh
 ty:TypeId
 el:Sh
 pre:(BF ins).T->List el.T->Bool
 g:(BF ins).T->List el.T->List el.T
structure AG where
 C:Ctx
 sp:FuncId->Option Am
 pl:FuncId->Nat->List Nat
 ct:FuncId->Nat->Bool
 fz:FuncId->Nat->List (Nat×Sh)
 ws:FuncId->Option gK:=fun _=>none
 esc:List FuncId:=[]
 escOk:∀g∈esc,C.prim g=some PK.noEsc.run:=by intro g h;cases h
def E8(st:AP)(s:Sh)(p:PV):Option (Bool×s.T):=
 bif Oj p==s.Ps then
  match Dt st p.cells with
  |some (c,cs)=>match D1 s (MH s.leaves cs).2 with
   |some x=>some ((MH s.leaves cs).1&&c,x)
   |none=>none
  |none=>none
 else none
def Ds(st:AP):(l:List Sh)->List PV->Option (Bool×(BF l).T)
 |[],[]=>some (true,())
 |[a],[p]=>E8 st a p
 |a::b::l,p::ps=>match E8 st a p,Ds st (b::l) ps with
  |some (c,x),some (d,y)=>some (c&&d,(x,y))
  |_,_=>none
 |_,_=>none
def one:List PV->PV
 |[v]=>v
 |l=>.tup l
def xK(sp:Am)(args:List PV)(st:AP)(k:PV->AP->Tr):Tr:=
 match Ds st sp.ins args with
 |some (c,i)=>.ite (c&&sp.pre i) (k (one<|Af sp.outs<|sp.f i)<|bif sp.outs.all Sh.sc then st else Bx (args.flatMap PV.cells) st) .fail
 |none=>.fail
def Zt(w:gK)(args:List PV)(st:AP)(k:PV->AP->Tr):Tr:=
 match args.reverse with
 | .sl id sz 0 n none::r=>match Ds st w.ins r.reverse,(Bx (r.reverse.flatMap PV.cells) st).obj id with
  |some (c,i),some (.arr false t s l)=>bif ze t w.ty then
    match EX (.list s) (.list w.el) l with
    |some l'=>.ite (c&&w.pre i l'&&decide (n=List.length (α:=w.el.T) l')&&ze sz w.el.sz) (k (.tup [])<|(Bx (r.reverse.flatMap PV.cells) st).setObj id<|.arr false w.ty w.el<|w.g i l') .fail
    |none=>.fail
   else .fail
  |_,_=>.fail
 | .nil::r=>match Ds st w.ins r.reverse with
  |some (c,i)=>.ite (c&&w.pre i []) (k (.tup [])<|Bx (r.reverse.flatMap PV.cells) st) .fail
  |none=>.fail
 |_=>.fail
mutual
def Ajw:PV->List Nat
 | .ptr id _| .eptr id _ _ _| .sl id _ _ _ _| .mp id| .yl id=>[id]
 | .agg l| .tup l=>Lx l
 | .fn _ a b=>Lx a++Lx b
 |_=>[]
def Lx:List PV->List Nat
 |[]=>[]
 |v::vs=>Ajw v++Lx vs
end
def Ahr:Obj->List Nat
 | .box cs=>Lx cs
 | .tbox _ cs=>Lx cs
 | .lp _ _ _ _ _ _ _ sl=>Lx (sl.map (·.2))
 |_=>[]
def JH(st:AP)(base:Nat):Nat->List Nat->List Nat->List Nat
 |0,_,acc=>acc
 |_+1,[],acc=>acc
 |f+1,i::a,acc=>bif zz i base||acc.any (ze i)then JH st base f a acc
  else match st.obj i with
   |some o=>JH st base f (a++Ahr o)<|acc++[i]
   |none=>JH st base f a acc
def SC(base:Nat):List Nat->Nat->Nat->Option Nat
 |[],_,i=>bif zz i base then some i else none
 |j::a,n,i=>bif ze i j then some n else SC base a (yk n 1) i
mutual
def Jn(f:Nat->Option Nat):PV->PV
 | .ptr i o=>match f i with|some j=>.ptr j o|none=>.any
 | .eptr i a b c=>match f i with|some j=>.eptr j a b c|none=>.any
 | .sl i a b c d=>match f i with|some j=>.sl j a b c d|none=>.any
 | .mp i=>match f i with|some j=>.mp j|none=>.any
 | .yl i=>match f i with|some j=>.yl j|none=>.any
 | .agg l=>.agg<|Lo f l
 | .tup l=>.tup<|Lo f l
 | .fn g a b=>.fn g (Lo f a)<|Lo f b
 |v=>v
def Lo(f:Nat->Option Nat):List PV->List PV
 |[]=>[]
 |v::vs=>Jn f v::Lo f vs
end
def R9(f:Nat->Option Nat):Obj->Obj
 | .box cs=>.box<|Lo f cs
 | .tbox t cs=>.tbox t<|Lo f cs
 | .lp g r ps asg body s n sl=>.lp g r ps asg body s n<|sl.map fun x=>(x.1,Jn f x.2)
 |o=>o
def low(f:Nat->Option Nat)(base:Nat):Ob->Ob
 |[]=>[]
 |(i,o)::l=>bif zz i base then(i,R9 f o)::low f base l else low f base l
def kept(st:AP)(f:Nat->Option Nat):List Nat->Nat->Ob->Ob
 |[],_,a=>a
 |j::b,n,a=>match st.obj j with
  |some o=>kept st f b (yk n 1) ((n,R9 f o)::a)
  |none=>kept st f b (yk n 1) a
def QM(base:Nat):Ob->List Nat
 |[]=>[]
 |(i,o)::l=>bif zz i base then Ahr o++QM base l else QM base l
def Ap(n:Nat)(vs:List (Nat×PV))(ob:Ob)(nx:Nat):AP:=⟨n,FG vs,ob,nx⟩
def canon(base:Nat)(L:List Nat)(st:AP):AP:=
 let vs:=L.map fun t=>(t,st.get t)
 let a:=JH st base 100 (Lx (vs.map (·.2))++QM base st.ob) []
 let f:=SC base a base
 Ap st.n (vs.map fun x=>(x.1,Jn f x.2)) (kept st f a base<|low f base st.ob) (yk base a.length)
def Aal(base:Nat)(x:Nat×Sh)(st:AP):AP:=
 match st.get x.1 with
 | .nil=>st.set x.1<|.dat (.list x.2) []
 | .sl id sz off len _=>match st.obj id with
  |some (.arr _ e s l)=>bif ze sz s.sz then(st.setObj id<|.arr true e s l).set x.1 (.dat (.list s)<|(l.drop off).take len)else st
  |_=>st
 | .ptr id 0=>bif zq base id then match st.obj id with
   |some (.box ps)=>match D1 x.2 ps with
    |some v=>(st.G5 id).set x.1<|.AV x.2 v 0
    |none=>st
   |_=>st
  else st
 |_=>st
def xS(base:Nat):List (Nat×Sh)->AP->AP
 |[],st=>st
 |x::l,st=>xS base l<|Aal base x st
def BR:Code->Nat
 | .region id _ _=>id
 | .seq a _=>BR a
 | .block _ b=>BR b
 | .loop b=>BR b
 | .scope b=>BR b
 |_=>0
def NT(X:AG)(f:FuncId)(r:Nat)(base:Nat)(st:AP):AP:=canon base (X.pl f r)<|xS base (X.fz f r) st
inductive Cal where
 |fn (g:FuncId)
 |rnd (id:Nat)
abbrev G1:=Cal->List PV->AP->(PV->AP->Tr)->Tr
def Tk(d:Option Nat)(k:AP->Tr):PO->Tr
 | .bad=>.fail
 | .val v st=>match st.put d v with
  |some st'=>k st'
  |none=>.fail
 | .ite c a b=>.ite c (Tk d k a)<|Tk d k b
inductive CK where
 |no
 |bad
 |yes (g:Cal) (args:List PV)
def NQ(st:AP)(o:Op):CK:=
 match o with
 | .call c=>match c.callee with
  | .value f=>match SO st f,N8 st c.args.toList with
   |some (.fn (.func g) first cap),some args=>.yes (.fn g)<|first++args++cap
   |some (.yl id),some args=>.yes (.rnd id) args
   |_,_=>.bad
  |_=>.no
 |_=>.no
def IS(T:Co)(call:G1)(o:Oper)(st:AP)(k:AP->Tr):Tr:=
 match NQ st o.op with
 | .yes g args=>call g args st fun v st=>match st.put o.dst v with
  |some st'=>k st'
  |none=>.fail
 | .bad=>.fail
 | .no=>Tk o.dst k<|pop o.op T st
def VA(T:Co)(st:AP)(o:Op):Option (PV×AP):=
 match o with
 | .convert s d x=>match T.und s,T.und d,SO st x with
  |some .string,some<|.slice e,some (.dat .str l)=>match T.und e with
   |some (.int .u8)=>some (.sl st.nx 1 0 (List.length l) none,st.push<|.arr false e (.int .u8)<|List.map (fun b:UInt8=>(b.toNat:Int)) l)
   |_=>none
  |_,_,_=>none
 |_=>none
def AeB(T:Co)(st:AP)(o:Op):Option PV:=
 match o with
 | .convert s d x=>match T.und s,T.und d,SO st x with
  |some (.pointer t),some .unsafePointer,some (.ptr id off)=>match T.inf t,st.obj id with
   |some i,some (.tbox _ cs)=>bif zz 0 i.size&&zz off (Fb cs)then some (.ptr id off)else none
   |_,_=>none
  |some .unsafePointer,some<|.pointer u,some (.ptr id off)=>match T.inf u,st.obj id with
   |some i,some (.tbox e cs)=>bif zz 0 i.size&&zq i.size (Fb cs)&&ze e u&&ze off 0 then some (.ptr id 0)else none
   |_,_=>none
  |_,_,_=>none
 |_=>none
def Y3(T:Co)(st:AP)(o:Op):Option (PV×AP):=
 match VA T st o with
 |some r=>some r
 |none=>match AeB T st o with
  |some v=>some (v,st)
  |none=>none
def Aed(T:Co)(call:G1)(o:Oper)(st:AP)(k:AP->Tr):Tr:=
 match Y3 T st o.op with
 |some (v,b)=>match b.put o.dst v with
  |some a=>k a
  |none=>.fail
 |none=>IS T call o st k
def guarded(ops:Array Oper)(o:Oper)(st:AP)(yes no:AP->Tr):Tr:=
 match o.guard with
 |none=>yes st
 |some (j,a)=>match (ops[j]?).bind (·.dst)with
  |some t=>bif zz t st.n then(match st.get t with
   | .bl b=>bif b==a then yes st else no st
   | .dat .bool b=>bif a then .ite b (yes<|st.set t<|.bl true) (no<|st.set t<|.bl false)else .ite b (no<|st.set t<|.bl true)<|yes<|st.set t<|.bl false
   | .tup _=>no st
   | .ub=>.both (bif a then yes (st.set t<|.bl true)else no<|st.set t<|.bl true)<|bif a then no (st.set t<|.bl false)else yes<|st.set t<|.bl false
   |_=>.fail)else .fail
  |none=>.fail
def Ov(o:Oper)(k:AP->Tr)(st:AP):Tr:=
 match st.put o.dst (.tup [])with
 |some st'=>k st'
 |none=>.fail
def prun(T:Co)(call:G1)(ops:Array Oper):List Oper->AP->(AP->Tr)->Tr
 |[],st,k=>k st
 |o::a,st,k=>guarded ops o st
   (fun st=>Aed T call o st fun st'=>prun T call ops a st' k)
   (fun st=>Ov o (fun st'=>prun T call ops a st' k) st)
def AbX(st:AP)(o:Op):Option (List Nat):=
 match o with
 | .load _ x=>match SO st x with
  |some (.ptr id _)|some (.eptr id _ _ _)=>some [id]
  |some (.AV _ _ _)=>some []
  |_=>none
 | .convert _ _ x=>match SO st x with
  |some (.dat (.int _) _)|some (.dat .str _)=>some []
  |_=>none
 | .call c=>match c.callee,N8 st c.args.toList with
  | .builtin .len,some [.dat _ _]| .builtin .len,some [.sl _ _ _ _ _]| .builtin .len,some [.nil]=>some []
  | .builtin .len,some [.mp id]=>some [id]
  |_,_=>none
 | .lookup _ x _ _=>match SO st x with
  |some (.mp id)=>some [id]
  |some .nilm=>some []
  |_=>none
 |_=>none
def HZ(sp:FuncId->Option Am)(st:AP)(o:Op):Option (List Nat):=
 match o with
 | .store _ x _=>match SO st x with
  |some (.ptr id _)|some (.eptr id _ _ _)=>some [id]
  |_=>none
 | .mapUpdate _ x _ _| .insert _ x _ _=>match SO st x with
  |some (.mp id)=>some [id]
  |_=>none
 | .makeMap _ _| .makeSlice _ _ _=>some []
 | .call c=>match c.callee with
  | .value f=>match SO st f with
   |some (.fn (.func g) _ _)=>match sp g with
    |some _=>some []
    |none=>none
   |_=>none
  | .builtin .append=>match N8 st c.args.toList with
   |some (.sl id _ _ _ _::_)=>some [id]
   |some _=>some []
   |none=>none
  | .builtin .delete=>match N8 st c.args.toList with
   |some (.mp id::_)=>some [id]
   |_=>none
  | .builtin .unsafeString=>match N8 st c.args.toList with
   |some (.eptr id _ _ _::_)=>some [id]
   |_=>none
  |_=>none
 |_=>none
abbrev Rs:=List<|Nat×Option (List Nat)
def Yj:Option (List Nat)->Option (List Nat)->Bool
 |some a,some b=>a.all fun i=> !(b.any<|ze i)
 |some [],none=>true
 |_,_=>false
def MC(st:AP):Option (List Nat)->Bool
 |some l=>l.all fun i=>Jr<|st.obj i
 |none=>false
def apart(anc:Nat->Nat->Bool)(i:Nat)(st:AP)(t:Option (List Nat))(a:Rs):Bool:=a.all fun r=>anc i r.1||(Yj r.2 t&&MC st r.2)
def behind(st:AP)(t:Option (List Nat))(a:Rs):Rs:=a.map fun r=>bif Yj r.2 t&&MC st r.2 then r else(r.1,none)
def uT(st:AP)(o:Op):Bool:=match NQ st o with
 | .yes (.rnd _) _=>false
 |_=>true
def Lj(T:Co)(sp:FuncId->Option Am)(call:G1)(ops:Array Oper)(anc:Nat->Nat->Bool):List Nat->AP->Rs->(AP->Tr)->Tr
 |[],st,_,k=>k st
 |i::b,st,a,k=>match ops[i]? with
  |none=>.fail
  |some o=>guarded ops o st
    (fun st=>bif Fe o then IS T call o st (fun st'=>Lj T sp call ops anc b st' (bif S8 o then(i,AbX st o.op)::a else a) k)
     else bif C8 o then IS T call o st (fun st'=>Lj T sp call ops anc b st' a k)
     else bif apart anc i st (HZ sp st o.op) a&&uT st o.op then IS T call o st (fun st'=>Lj T sp call ops anc b st' (behind st (HZ sp st o.op) a) k)else .fail)
    (fun st=>bif Df o then(bif apart anc i st (some []) a then Ov o (fun st'=>Lj T sp call ops anc b st' (behind st (some []) a) k) st else .fail)
     else Ov o (fun st'=>Lj T sp call ops anc b st' a k) st)
def Nw(X:AG)(f:FuncId)(r:Nat)(st:AP):List (Nat×PV):=(X.pl f r).map fun t=>(t,st.get t)
def exec(X:AG)(call c:G1)(nd ro:Bool)(d:Nat)(f:FuncId)(base:Nat):Code->AP->(DX->AP->Tr)->Tr
 | .skip,st,k| .label _,st,k=>k .normal st
 | .region _ ops dr,st,k=>bif dr then(bif !ro||Ji ops (Fm ops)then Lj X.C.T X.sp c ops (Fm ops).a (Fm ops).ord st [] (k .normal)else .fail)else prun X.C.T call ops ops.toList st<|k .normal
 | .seq a b,st,k=>exec X call c nd ro d f base a st fun e st'=>match e with
  | .normal=>bif X.ct f (BR b)then .cut nd ro d f base b (NT X f (BR b) base st') k else exec X call c nd ro d f base b st' k
  |e=>k e st'
 | .cond x a b,st,k=>match SO st x with
  |some (.bl t)=>bif t then exec X call c nd ro d f base a st k else exec X call c nd ro d f base b st k
  |some (.dat .bool t)=>match x with
   | .tmp s=>.ite t (exec X call c nd ro d f base a (st.set s<|.bl true) k)<|exec X call c nd ro d f base b (st.set s<|.bl false) k
   |_=>.ite t (exec X call c nd ro d f base a st k)<|exec X call c nd ro d f base b st k
  |some .ub=>match x with
   | .tmp s=>.both (exec X call c nd ro d f base a (st.set s<|.bl true) k)<|exec X call c nd ro d f base b (st.set s<|.bl false) k
   |_=>.fail
  |_=>.fail
 | .block id b,st,k=>exec X call c nd ro d f base b st fun e st'=>match e with
  | .exit i=>bif ze i id then k .normal st' else k e st'
  |e=>k e st'
 | .loop b,st,k=>.loop nd ro d f base b (NT X f (BR b) base st) k
 | .exit i,st,k=>k (.exit i) st
 | .ret,st,k=>k .ret st
 | .scope b,st,k=>exec X call c nd ro d f base b st k
 | .rangeFunc g ps asg b,st,k=>bif ro then .fail else match SO st g with
  |some (.fn (.func l) first cap)=>bif (X.C.prim l).isSome then .fail else
   call (.fn l) (first++[.yl st.nx]++cap) (st.push<|.lp f (BR b) ps asg b .ready st.n<|Nw X f (BR b) st) fun _ j=>
    match j.obj st.nx with
    |some (.lp _ _ _ _ _ s _ _)=>match s with
     | .ready=>k .normal<|j.G5 st.nx
     | .ret=>k .ret<|j.G5 st.nx
     | .exit i=>k (.exit i)<|j.G5 st.nx
     | .busy=>.fail
    |_=>.fail
  |_=>.fail
 |_,_,_=>.fail
def yU(T:Co)(st:AP):ResultVar->Option PV
 | .tmp t=>some<|st.get t
 | .cell a t=>match Pd T st t (st.get a)with
  | .val v _=>some v
  | .Jx _ v _=>some v
  |_=>none
def Pj(T:Co)(st:AP):List ResultVar->List Bool
 |[]=>[]
 | .tmp _::b=>Pj T st b
 | .cell a t::b=>match Pd T st t (st.get a)with
  | .Jx c _ _=>c::Pj T st b
  |_=>Pj T st b
def U9:List Bool->Tr->Tr
 |[],t=>t
 |c::cs,t=>.ite c (U9 cs t) .fail
def uE(T:Co)(st:AP):List ResultVar->Option (List PV)
 |[]=>some []
 |r::a=>match yU T st r,uE T st a with
  |some v,some vs=>some (v::vs)
  |_,_=>none
def FZ:List PV->Nat->List (Nat×PV)
 |[],_=>[]
 |v::vs,i=>(i,v)::FZ vs (yk i 1)
def enter(X:AG)(call a:G1)(nd:Bool)(d:Nat)(f:FuncId)(args:List PV)(st:AP)(k:PV->AP->Tr):Tr:=
 match X.C.fn f with
 |none=>.fail
 |some i=>bif i.cert then
   exec X call a nd false d f st.nx i.body (Ap (yk args.length<|Nat.sub i.ntmps args.length) (FZ args 0) st.ob st.nx) fun e s=>match e with
    | .exit _=>.fail
    |_=>match uE X.C.T s i.results.toList with
     |some vs=>U9 (Pj X.C.T s i.results.toList)<|k (one vs) ⟨st.n,st.fr,s.ob,s.nx⟩
     |none=>.fail
  else .fail
def O4:List Tmp->List PV->AP->AP
 |t::ts,v::vs,st=>O4 ts vs<|bif zz t st.n then st.set t v else st
 |_,_,st=>st
def aB(X:AG)(call a:G1)(nd:Bool)(d:Nat)(id:Nat)(args:List PV)(st:AP)(k:PV->AP->Tr):Tr:=
 match st.obj id with
 |some (.lp f _ ps asg b .ready n sl)=>bif ze args.length ps.size then
   exec X call a nd true d f st.nx asg (O4 ps.toList args<|Ap n sl st.ob st.nx) fun e s=>match e with
   | .normal=>match s.obj id with
    |some (.lp x u p l v .ready n1 t)=>
     exec X call a nd true d f st.nx b (s.setObj id<|.lp x u p l v .busy n1 t) fun w s2=>
      match s2.obj id with
      |some (.lp q m j c o _ r g)=>match w with
       | .normal=>k (.bl true) ⟨st.n,st.fr,(s2.setObj id<|.lp q m j c o .ready r g).ob,s2.nx⟩
       | .ret=>k (.bl false) ⟨st.n,st.fr,(s2.setObj id<|.lp q m j c o .ret r g).ob,s2.nx⟩
       | .exit i=>k (.bl false) ⟨st.n,st.fr,(s2.setObj id<|.lp q m j c o (.exit i) r g).ob,s2.nx⟩
      |_=>.fail
    |_=>.fail
   |_=>.fail
  else .fail
 |_=>.fail
def AhC(args:List PV)(st:AP)(k:PV->AP->Tr):Tr:=
 match args with
 |[.ptr id off]=>bif Jr (st.obj id)then k (.ptr id off) st else .fail
 |_=>.fail
def CD(X:AG)(nd:Bool):Nat->G1
 |0=>fun _ _ _ _=>.fail
 |d+1=>fun c args st k=>match c with
  | .fn g=>match X.sp g with
   |some sp=>bif nd|| !sp.nd then xK sp args st k else .fail
   |none=>match X.ws g with
    |some w=>Zt w args st k
    |none=>bif X.esc.any (ze g)then AhC args st k else match X.C.prim g,X.C.spec g with
     |none,none=>enter X (CD X nd d) (CD X false d) nd d g args st k
     |_,_=>.fail
  | .rnd id=>aB X (CD X nd d) (CD X false d) nd d id args st k
def wP:PV->Bool
 | .dat _ _| .AV _ _ _| .bl _| .nil=>true
 |_=>false
def Tq(v:PV):Bool:=v.cells.all wP
def AdV:PV->Bool
 | .tup a=>a.all Tq
 |v=>Tq v
def gcO(v:PV)(ob:Ob):Ob:=bif AdV v then[]else ob
def tree(X:AG)(nd:Bool)(d:Nat)(f:FuncId)(args:List PV):Tr:=
 enter X (CD X nd d) (CD X false d) nd d f args (Ap 0 [] [] 0) fun v st=>.leaf v<|gcO v st.ob
def body(X:AG)(nd ro:Bool)(d:Nat)(f:FuncId)(base:Nat)(b:Code)(st:AP)(k:DX->AP->Tr):Tr:=
 exec X (CD X nd d) (CD X false d) nd ro d f base b st fun e st'=>match e with
  | .normal=>.loop nd ro d f base b (NT X f (BR b) base st') k
  |e=>k e st'
def Bb(X:AG)(nd ro:Bool)(d:Nat)(f:FuncId)(base:Nat)(b:Code)(st:AP)(k:DX->AP->Tr):Tr:=exec X (CD X nd d) (CD X false d) nd ro d f base b st k
inductive Ev (X:AG) (Q:PV->Ob->Prop):Nat->Tr->Prop where
 |leaf {n:Nat} {v:PV} {ob:Ob}:Q v ob->Ev X Q n (.leaf v ob)
 |ite {n:Nat} {c:Bool} {a b:Tr}:(c=true->Ev X Q n a)->(c=false->Ev X Q n b)->Ev X Q n (.ite c a b)
 |both {n:Nat} {a b:Tr}:Ev X Q n a->Ev X Q n b->Ev X Q n (.both a b)
 |cut {n:Nat} {nd ro:Bool} {d:Nat} {f:FuncId} {base:Nat} {b:Code} {st:AP} {k:DX->AP->Tr}:Ev X Q n (Bb X nd ro d f base b st k)->Ev X Q n (.cut nd ro d f base b st k)
 |alts {n m:Nat} {f:Nat->Tr}:(∀i,i<m->Ev X Q n (f i))->Ev X Q n (.alts m f)
 |loop {n:Nat} {nd ro:Bool} {d:Nat} {f:FuncId} {base:Nat} {b:Code} {st:AP} {k:DX->AP->Tr}:Ev X Q n (body X nd ro d f base b st k)->Ev X Q (n+1) (.loop nd ro d f base b st k)
abbrev Fz:=Nat->Option (List V)
abbrev EI:=Nat->Option (Nat×Nat)
def DC(F:Fz):(s:Sh)->s.T->List V->Prop
 | .int k,x,cs=>cs=[.int k x]
 | .bool,x,cs=>cs=[.bool x]
 | .str,x,cs=>cs=[.str x]
 | .list s,l,cs=>∃v,cs=[v]/\((l=[]/\(v=.nils\/v=.esl\/v=.es0))\/
   ∃b off cap o e,v=.sl b off l.length cap o/\l.length<=cap/\F b=some e/\off+l.length*s.sz<=e.length/\(o=0\/o=s.sz)/\
    ∀i (h:i<l.length),DC F s l[i]<|(e.drop<|off+i*s.sz).take s.sz)
 | .pair a b,x,cs=>∃c d,cs=c++d/\DC F a x.1 c/\DC F b x.2 d
 | .unit,_,cs=>cs=[]
 | .fnv,x,cs=>cs=[match (x:Option Fn)with|some f=>.fn f [] []|none=>.nilf]
 | .ptr s,x,cs=>∃b o e,cs=[.ptr b o]/\F b=some e/\o+s.sz<=e.length/\DC F s x ((e.drop o).take s.sz)
 | .nlist s,l,cs=>∃v,cs=[v]/\((l=[]/\v=.nils)\/(l≠[]/\
   ∃b off cap o e,v=.sl b off l.length cap o/\l.length<=cap/\F b=some e/\off+l.length*s.sz<=e.length/\(o=0\/o=s.sz)/\
    ∀i (h:i<l.length),DC F s l[i]<|(e.drop<|off+i*s.sz).take s.sz))
theorem DC.len{F:Fz}:∀ {s:Sh} {x:s.T} {cs:List V},DC F s x cs->cs.length=s.sz
 | .int _,_,_,h=>by subst h;rfl
 | .bool,_,_,h=>by subst h;rfl
 | .str,_,_,h=>by subst h;rfl
 | .list _,_,_,h=>by obtain⟨v,rfl,_⟩:=h;rfl
 | .pair a b,x,_,h=>by
  obtain⟨c,d,rfl,e,f⟩:=h;rw[List.length_append,e.len,f.len];rfl
 | .unit,_,_,h=>by subst h;rfl
 | .nlist _,_,_,h=>by obtain⟨v,rfl,_⟩:=h;rfl
 | .fnv,_,_,h=>by subst h;rfl
 | .ptr _,_,_,h=>by obtain⟨b,o,g,rfl,_⟩:=h;rfl
theorem DC.ok{F:Fz}:∀ {s:Sh} {x:s.T} {cs:List V},DC F s x cs->∀v∈cs,v.ok=true
 | .int _,_,_,h=>by grind [DC,qy]
 | .bool,_,_,h=>by grind [DC,qy]
 | .str,_,_,h=>by grind [DC,qy]
 | .list s,_,_,h=>by
  obtain⟨v,rfl,⟨_,rfl|rfl|rfl⟩|⟨b,off,cap,o,f,rfl,_⟩⟩:=h<;>simp[qy]
 | .pair a b,x,_,h=>by
  obtain⟨c,d,rfl,g,i⟩:=h;intro v e;rcases List.mem_append.1 e with e|e
  ·exact g.ok v e
  ·exact i.ok v e
 | .unit,_,_,h=>by grind [DC]
 | .fnv,x,_,h=>by subst h;intro v e;rw[zo.1 e];cases (x:Option Fn)<;>rfl
 | .nlist s,_,_,h=>by
  obtain⟨v,rfl,⟨_,rfl⟩|⟨_,b,off,cap,o,f,rfl,_⟩⟩:=h<;>simp[qy]
 | .ptr _,_,_,h=>by obtain⟨b,o,f,rfl,_⟩:=h;simp[qy]
theorem DC.mono{F F':Fz}(e:∀b cs,F b=some cs->F' b=some cs):∀ {s:Sh} {x:s.T} {cs:List V},DC F s x cs->DC F' s x cs
 | .int _,_,_,h=>by simpa only[DC]using h
 | .bool,_,_,h=>by simpa only[DC]using h
 | .str,_,_,h=>by simpa only[DC]using h
 | .list s,l,_,h=>by
  obtain⟨v,rfl,h⟩:=h;refine⟨v,rfl,?_⟩;rcases h with h|⟨b,off,cap,o,j,f,g,m,k,n,p⟩
  ·grind
  ·exact .inr ⟨b,off,cap,o,j,f,g,e _ _ m,k,n,fun i q=>(p i q).mono e⟩
 | .pair a b,x,_,h=>by
  obtain⟨c,d,rfl,f,g⟩:=h;exact⟨c,d,rfl,f.mono e,g.mono e⟩
 | .unit,_,_,h=>by simpa only[DC]using h
 | .fnv,_,_,h=>by simpa only[DC]using h
 | .ptr s,x,_,h=>by
  obtain⟨b,o,j,f,g,m,k⟩:=h;exact⟨b,o,j,f,e _ _ g,m,k.mono e⟩
 | .nlist s,l,_,h=>by
  obtain⟨v,rfl,h⟩:=h;refine⟨v,rfl,?_⟩;rcases h with h|⟨h0,b,off,cap,o,j,f,g,m,k,n,p⟩
  ·grind
  ·exact .inr ⟨h0,b,off,cap,o,j,f,g,e _ _ m,k,n,fun i q=>(p i q).mono e⟩
theorem DC.nl{F:Fz}{s:Sh}{l:List s.T}{cs:List V}(h:DC F (.nlist s) l cs):DC F (.list s) l cs:=by
 simp only[DC]at h ⊢;obtain⟨v,rfl,h⟩:=h;rcases h with⟨rfl,rfl⟩|⟨_,h⟩
 ·simp
 simp_all
theorem DC.nl'{F:Fz}{s:Sh}{l:List s.T}{cs:List V}(h:DC F (.list s) l cs)(h0:0<l.length):DC F (.nlist s) l cs:=by
 have a:l≠[]:=ah
 simp_all [DC]
mutual
def PR(F:Fz)(ρ:EI)(N:Nat):PV->V->Prop
 | .any,_=>True
 | .bl b,v=>v=.bool b
 | .ub,v=>∃b,v=.bool b
 | .dat s x,v=>DC F s x [v]
 | .nil,v=>v=.nils
 | .nilp,v=>v=.nilp
 | .nilm,v=>v=.nilm
 | .nilf,v=>v=.nilf
 | .nili,v=>v=.nili
 | .agg l,v=>∃cs,v=.agg cs/\Ca F ρ N l cs
 | .tup l,v=>∃cs,v=.tup cs/\Ca F ρ N l cs
 | .ptr id off,v=>id<N/\∀b n,ρ id=some (b,n)->v=.ptr b off
 | .eptr id sz i off,v=>id<N/\∀b n,ρ id=some (b,n)->v=.ptr b (i*sz+off)
 | .AV s x off,v=>∃b o cs,v=.ptr b (o+off)/\F b=some cs/\o+s.sz<=cs.length/\DC F s x ((cs.drop o).take s.sz)
 | .sl id sz off len cap,v=>id<N/\∀b n,ρ id=some (b,n)->
   (len<=cap.getD len/\off+cap.getD len<=n/\∃o,(o=0\/o=sz)/\v=.sl b (off*sz) len (cap.getD len) o)\/
   (len=0/\cap=some 0/\off<=n/\(v=.esl\/∃c,v=.sl b c 0 0 0/\c<=off*sz))
 | .mp id,v=>id<N/\∀b n,ρ id=some (b,n)->v=.map b
 | .fn f first captured,v=>∃a b,v=.fn f a b/\Ca F ρ N first a/\Ca F ρ N captured b
 | .yl id,v=>id<N/\∀b n,ρ id=some (b,n)->v=.yld b
def Ca(F:Fz)(ρ:EI)(N:Nat):List PV->List V->Prop
 |[],l=>l=[]
 |p::ps,l=>∃v vs,l=v::vs/\PR F ρ N p v/\Ca F ρ N ps vs
end
section
variable {F F':Fz}{ρ ρ':EI}{N N':Nat}
@[simp] theorem El(l:List V):Ca F ρ N [] l↔l=[]:=by rfl
@[simp] theorem BY(p:PV)(ps:List PV)(v:V)(vs:List V):Ca F ρ N (p::ps) (v::vs)↔PR F ρ N p v/\Ca F ρ N ps vs:=by
 simp only[Ca];grind
theorem Ca.len:∀ {ps:List PV} {vs:List V},Ca F ρ N ps vs->ps.length=vs.length
 |[],vs,h=>by simp_all
 |p::ps,vs,h=>by
  obtain⟨v,vs,rfl,_,a⟩:=h;simp[a.len]
theorem Ca.append:∀ {a:List PV} {x:List V} {b:List PV} {y:List V},Ca F ρ N a x->Ca F ρ N b y->Ca F ρ N (a++b) (x++y)
 |[],x,b,y,h,h'=>by simp_all
 |p::ps,x,b,y,h,h'=>by
  obtain⟨v,vs,rfl,d,c⟩:=h;simp only[List.cons_append,BY];exact⟨d,c.append h'⟩
theorem Ca.drop:∀ {a:List PV} {x:List V} (n:Nat),Ca F ρ N a x->Ca F ρ N (a.drop n) (x.drop n)
 |[],x,n,h=>by simp_all
 |p::ps,x,0,h=>by grind
 |p::ps,x,n+1,h=>by
  obtain⟨v,vs,rfl,c,b⟩:=h;simpa using b.drop n
theorem Ca.take:∀ {a:List PV} {x:List V} (n:Nat),Ca F ρ N a x->Ca F ρ N (a.take n) (x.take n)
 |[],x,n,h=>by simp_all
 |p::ps,x,0,h=>by simp
 |p::ps,x,n+1,h=>by
  obtain⟨v,vs,rfl,c,b⟩:=h;simpa using⟨c,b.take n⟩
theorem Ca.get:∀ {a:List PV} {x:List V},Ca F ρ N a x->∀ {i:Nat} {p:PV},a[i]?=some p->∃v,x[i]?=some v/\PR F ρ N p v
 |[],x,h,i,p,hp=>by grind
 |q::ps,x,h,i,p,hp=>by
  obtain⟨v,vs,rfl,c,b⟩:=h;cases i with
  |zero=>grind
  |succ i=>simpa using b.get hp
structure Le(F:Fz)(ρ:EI)(N:Nat)(F':Fz)(ρ':EI)(N':Nat):Prop where
 fz:∀b cs,F b=some cs->F' b=some cs
 rho:∀id,id<N->ρ' id=ρ id\/ρ' id=none
 n:N<=N'
theorem Le.refl:Le F ρ N F ρ N:=⟨fun _ _ h=>h,(by simp),zj _⟩
theorem Le.trans{f:Fz}{d:EI}{g:Nat}(a:Le F ρ N F' ρ' N')(b:Le F' ρ' N' f d g):Le F ρ N f d g:=
 ⟨fun c cs h=>b.fz c cs<|a.fz c cs h,fun id h=>by
  rcases b.rho id (zl h a.n)with e|e
  ·rw[e];exact a.rho id h
  grind,Nat.le_trans a.n b.n⟩
theorem Le.at(a:Le F ρ N F' ρ' N'){id:Nat}(h:id<N){x:Nat×Nat}(b:ρ' id=some x):ρ id=some x:=by
 rcases a.rho id h with e|e
 ·grind
 grind
mutual
theorem PR.mono(c:Le F ρ N F' ρ' N'):∀ {p:PV} {v:V},PR F ρ N p v->PR F' ρ' N' p v
 | .any,_,_=>by simp[PR]
 | .bl _,_,h=>by simpa only[PR]using h
 | .ub,_,h=>by simpa only[PR]using h
 | .dat s x,_,h=>by simp only[PR]at h ⊢;exact h.mono c.fz
 | .nil,_,h| .nilp,_,h| .nilm,_,h| .nilf,_,h| .nili,_,h=>by simpa only[PR]using h
 | .agg l,_,h=>by obtain⟨cs,rfl,e⟩:=h;exact⟨cs,rfl,e.mono c⟩
 | .tup l,_,h=>by obtain⟨cs,rfl,e⟩:=h;exact⟨cs,rfl,e.mono c⟩
 | .ptr _ _,_,h=>by exact⟨zl h.1 c.n,fun b n d=>h.2 b n<|c.at h.1 d⟩
 | .eptr _ _ _ _,_,h=>by exact⟨zl h.1 c.n,fun b n d=>h.2 b n<|c.at h.1 d⟩
 | .AV s x off,_,h=>by
  obtain⟨b,o,cs,e,g,j,i⟩:=h;exact⟨b,o,cs,e,c.fz _ _ g,j,i.mono c.fz⟩
 | .sl _ _ _ _ _,_,h=>by exact⟨zl h.1 c.n,fun b n d=>h.2 b n<|c.at h.1 d⟩
 | .mp _,_,h=>by exact⟨zl h.1 c.n,fun b n d=>h.2 b n<|c.at h.1 d⟩
 | .fn f a b,_,h=>by
  obtain⟨x,y,rfl,e,g⟩:=h;exact⟨x,y,rfl,e.mono c,g.mono c⟩
 | .yl _,_,h=>by exact⟨zl h.1 c.n,fun b n d=>h.2 b n<|c.at h.1 d⟩
theorem Ca.mono(a:Le F ρ N F' ρ' N'):∀ {ps:List PV} {vs:List V},Ca F ρ N ps vs->Ca F' ρ' N' ps vs
 |[],_,h=>by simp_all
 |p::ps,_,h=>by
  obtain⟨v,vs,rfl,c,b⟩:=h;exact⟨v,vs,rfl,c.mono a,b.mono a⟩
end
theorem PR.lz:∀ {p:PV} {v:V},PR F ρ N p v->PR F ρ N (lz p) v:=by
 intro p v h;unfold Pe.lz;split
 ·exact h.nl
 omega
theorem Ca.lz:∀ {ps:List PV} {vs:List V},Ca F ρ N ps vs->Ca F ρ N (ps.map Pe.lz) vs
 |[],_,h=>by grind
 |p::ps,_,h=>by
  obtain⟨v,vs,rfl,b,a⟩:=h;simp only[List.map_cons,BY];exact⟨b.lz,a.lz⟩
theorem kE{s:Sh}{p:PV}{v:V}(h:PR F ρ N p v)(b:(Yc s p).1=true):PR F ρ N (Yc s p).2 v:=by
 unfold Yc at b ⊢;split
 ·rename_i s a x;cases c:(s==a)with
  |false=>exact h
  |true=>
   have b:(bif s==a then(decide (0<List.length x),PV.dat a.nlist x)else(true,PV.dat a.list x)).1=true:=b;rw[c]at b;simp only[we,w5]at b;exact h.nl' b
 ·rename_i s a x;cases c:(s==a)with
  |false=>exact h
  |true=>exact h.nl
 omega
theorem Uf:∀ {l:List Sh} {ps:List PV} {vs:List V},Ca F ρ N ps vs->(MH l ps).1=true->Ca F ρ N (MH l ps).2 vs
 |[],ps,vs,h,_=>h
 |s::l,[],vs,h,_=>h
 |s::l,p::ps,vs,h,a=>by
  obtain⟨v,vs,rfl,c,b⟩:=h;simp only[MH,zc]at a;simp only[MH,BY];exact⟨kE c a.1,Uf b a.2⟩
def Eb(F:Fz)(s:Sh)(l:List s.T)(cs:List V):Prop:=cs.length=l.length*s.sz/\∀i (h:i<l.length),DC F s l[i]<|(cs.drop<|i*s.sz).take s.sz
theorem Eb.mono(c:∀b cs,F b=some cs->F' b=some cs){s:Sh}{l:List s.T}{cs:List V}(h:Eb F s l cs):Eb F' s l cs:=⟨h.1,fun i a=>(h.2 i a).mono c⟩
theorem Eb.ok{F:Fz}{s:Sh}{l:List s.T}{cs:List V}(h:Eb F s l cs):∀v∈cs,v.ok=true:=by
 intro v c;obtain⟨k,b⟩:=List.mem_iff_getElem?.1 c;have a:=(List.getElem?_eq_some_iff.1 b).1;have f:0<s.sz:=by
  rcases Nat.eq_zero_or_pos s.sz with e|e
  ·rw[h.1,e,Nat.mul_zero]at a;omega
  omega
 have d:k/s.sz<l.length:=Nat.div_lt_of_lt_mul (by rw[Nat.mul_comm, <-h.1];exact a);refine(h.2 _ d).ok v ?_;refine List.mem_iff_getElem?.2 ⟨k % s.sz,?_⟩;grind [Nat.mod_lt,Nat.div_add_mod]
def DV(F:Fz)(s:Sh)(x:s.T)(v:V):Prop:=(s.Ps=true->∃cs,v=.agg cs/\DC F s x cs)/\(s.Ps=false->DC F s x [v])
theorem DV.mono(a:∀b cs,F b=some cs->F' b=some cs){s:Sh}{x:s.T}{v:V}(h:DV F s x v):DV F' s x v:=
 ⟨fun e=>by obtain⟨cs,d,c⟩:=h.1 e;exact⟨cs,d,c.mono a⟩,fun e=>(h.2 e).mono a⟩
inductive MR (F:Fz) (ks vs:Sh):List (ks.T×vs.T)->List (V×V×Nat)->Prop where
 |nil:MR F ks vs [] []
 |cons {k:ks.T} {v:vs.T} {l:List (ks.T×vs.T)} {a b:V} {n:Nat} {es:List (V×V×Nat)}:DV F ks k a->DV F vs v b->MR F ks vs l es->MR F ks vs ((k,v)::l) ((a,b,n)::es)
theorem MR.mono(a:∀b cs,F b=some cs->F' b=some cs){ks vs:Sh}{l:List (ks.T×vs.T)}{es:List (V×V×Nat)}(h:MR F ks vs l es):MR F' ks vs l es:=by
 induction h with
 |nil=>exact .nil
 |cons e d _ c=>exact .cons (e.mono a) (d.mono a) c
def Rf(sl:List (Nat×PV))(t:Nat):PV:=((FG sl).get t).getD .any
def LpR:LpS->LoopState->Option Code->Prop
 | .ready,st,a=>st=.ready/\a=none
 | .busy,st,_=>st=.busy
 | .ret,st,a=>st=.done/\a=some .ret
 | .exit i,st,a=>st=.done/\a=some (.exit i)
def ZP(F:Fz)(ρ:EI)(N n:Nat):Obj->O->Prop
 | .arr _ e s l,o=>∃cs fz,o=.cells cs e fz/\Eb F s l cs/\fz.2<=fz.1/\l.length=n
 | .box ps,o=>∃cs t fz,o=.cells cs t fz/\Ca F ρ N ps cs/\fz.2<=fz.1/\∀v∈cs,v.ok=true
 | .tbox t ps,o=>∃cs fz,o=.cells cs t fz/\Ca F ρ N ps cs/\fz.2<=fz.1/\∀v∈cs,v.ok=true
 | .map ks vs l,o=>∃es a,o=.map es a/\MR F ks vs l es
 | .siter s pos,o=>o=.siter s pos
 | .lp _ _ ps asg body s n' sl,o=>∃ls,o=.loop ls/\ls.ps=ps/\ls.asg=asg/\ls.body=body/\LpR s ls.st ls.pend/\ls.fr.n=n'/\∀t,PR F ρ N (Rf sl t)<|ls.fr.get t
theorem ZP.mono(d:Le F ρ N F' ρ' N'){n:Nat}{x:Obj}{o:O}(h:ZP F ρ N n x o):ZP F' ρ' N' n x o:=by
 cases x with
 |arr fz e s l=>obtain⟨cs,f,b,a,c⟩:=h;exact⟨cs,f,b,a.mono d.fz,c⟩
 |box ps=>obtain⟨cs,t,f,b,a,c⟩:=h;exact⟨cs,t,f,b,a.mono d,c⟩
 |tbox t ps=>obtain⟨cs,f,b,a,c⟩:=h;exact⟨cs,f,b,a.mono d,c⟩
 |map ks vs l=>obtain⟨es,g,b,a⟩:=h;exact⟨es,g,b,a.mono d.fz⟩
 |siter s pos=>exact h
 |lp f r ps asg body s n sl=>obtain⟨ls,b,a,c,k,m,i,j⟩:=h;exact⟨ls,b,a,c,k,m,i,fun t=>(j t).mono d⟩
def Obj.frozen:Obj->Bool
 | .arr fz _ _ _=>fz
 |_=>false
structure H0 where
 h:H
 F:Fz
 pin:List Nat
 ex:Nat->Prop:=fun _=>False
def H0.pins(h0:H0)(ps:List Nat):H0:={ h0 with pin:=ps++h0.pin }
def H0.lO(h0:H0)(B b:Nat):Prop:=B<=b\/h0.ex b
theorem P7{h0:H0}{B b c:Nat}(h:h0.lO B b)(d:c<B)(a:¬h0.ex c):c≠b:=by
 rcases h with h|h
 ·omega
 grind
structure SR(B:Nat)(h0:H0)(F:Fz)(ρ:EI)(N:Nat)(ob:Ob)(h:H):Prop where
 obj:∀id o,AU ob id=some o->∃b n x,ρ id=some (b,n)/\h.get b=some x/\ZP F ρ N n o x/\(o.frozen=false->F b=none)/\
  (o.frozen=true->∃cs t fz,x=.cells cs t fz/\F b=some cs)
 inj:∀id id' o o' b n n',AU ob id=some o->AU ob id'=some o'->ρ id=some (b,n)->ρ id'=some (b,n')->id=id'
 frz:∀b cs,F b=some cs->∃t fz,h.get b=some (.cells cs t fz)
 own:∀id b n,ρ id=some (b,n)->id<N/\h0.lO B b
 dead:∀id,AU ob id=none->ρ id=none
 old:∀b,b<B->¬h0.ex b->h.get b=h0.h.get b
 lt:∀b o,h.get b=some o->b<h.nx
 le:B<=h.nx
 fo:∀b cs,F b=some cs->h0.F b=some cs\/h0.lO B b
 gl:∀x∈Hd,x.1<B/\¬h0.ex x.1/\h0.h.get x.1=some x.2
 pn:∀b∈h0.pin,h.get b=some (.defd true)/\B<=b/\∀id n,ρ id≠some (b,n)
structure FP(F:Fz)(ρ:EI)(N:Nat)(st:AP)(fr:Fr):Prop where
 n:st.n=fr.n
 slot:∀t,PR F ρ N (st.get t) (fr.get t)
theorem FP.mono(a:Le F ρ N F' ρ' N'){st:AP}{fr:Fr}(h:FP F ρ N st fr):FP F' ρ' N' st fr:=⟨h.n,fun t=>(h.slot t).mono a⟩
end
section
variable {B:Nat}{h0:H0}{F:Fz}{ρ:EI}{N:Nat}
mutual
theorem fS:∀ {v:Value} {p:PV},Px v=some p->∃x,cv v=some x/\PR F ρ N p x
 | .bool b,p,h=>by simp[Px]at h;subst h;exact⟨_,rfl,by simp[PR]⟩
 | .int k n,p,h=>by simp[Px]at h;subst h;exact⟨_,rfl,by rfl⟩
 | .string s,p,h=>by simp[Px]at h;subst h;exact⟨_,rfl,by rfl⟩
 | .pointer none,p,h=>by simp[Px]at h;subst h;exact⟨_,rfl,by simp[PR]⟩
 | .pointer (some a),p,h=>by simp[Px]at h
 | .slice none 0 0,p,h=>by simp[Px]at h;subst h;exact⟨_,rfl,by simp[PR]⟩
 | .slice none 0 (_+1),p,h=>by simp[Px]at h
 | .slice none (_+1) _,p,h=>by simp[Px]at h
 | .slice (some a) _ _,p,h=>by simp[Px]at h
 | .map none,p,h=>by simp[Px]at h;subst h;exact⟨_,rfl,by simp[PR]⟩
 | .map (some a),p,h=>by simp[Px]at h
 | .nilFunc,p,h=>by simp[Px]at h;subst h;exact⟨_,rfl,by simp[PR]⟩
 | .nilIface,p,h=>by simp[Px]at h;subst h;exact⟨_,rfl,by simp[PR]⟩
 | .func f ⟨[]⟩ ⟨[]⟩,p,h=>by simp[Px]at h;subst h;exact⟨_,rfl,by simp[PR]⟩
 | .func f ⟨_::_⟩ _,p,h=>by simp[Px]at h
 | .func f ⟨[]⟩ ⟨_::_⟩,p,h=>by simp[Px]at h
 | .agg ⟨cs⟩,p,h=>by
  simp only[Px,zf]at h;obtain⟨d,c,rfl⟩:=h;obtain⟨ys,h2,h3⟩:=RU c;simp_all [cv,PR]
 | .tuple ⟨cs⟩,p,h=>by
  simp only[Px,zf]at h;obtain⟨d,c,rfl⟩:=h;obtain⟨ys,h2,h3⟩:=RU c;simp_all [cv,PR]
 | .float _ _,p,h=>by simp[Px]at h
 | .complex _ _ _,p,h=>by simp[Px]at h
 | .chan _,p,h=>by simp[Px]at h
 | .iface _ _,p,h=>by simp[Px]at h
theorem RU:∀ {vs:List Value} {ps:List PV},kD vs=some ps->∃a,cvs vs=some a/\Ca F ρ N ps a
 |[],ps,h=>by simp[kD]at h;subst h;exact⟨[],rfl,by simp⟩
 |v::vs,ps,h=>by
  unfold kD at h;split at h
  case h_2=>cases h
  rename_i x a c b;cases h;obtain⟨y,d,e⟩:=fS c;obtain⟨ys,g3,g4⟩:=RU b;simp_all [cvs]
end
theorem AaN(v:V):PR F ρ N (Y0 v) v:=by
 cases v<;>simp[Y0,PR,DC]
theorem EU:∀vs:List V,Ca F ρ N (vs.map Y0) vs
 |[]=>by simp
 |v::vs=>by simp only[List.map_cons,BY];exact⟨AaN v,EU vs⟩
variable {C:Ctx}{st st':AP}{fr:Fr}{h:H}
theorem Cs(b:FP F ρ N st fr){x:Operand}{p:PV}(a:SO st x=some p):∃v,ev C fr x=some v/\PR F ρ N p v:=by
 cases x with
 |tmp t=>simp only[SO,zh]at a;subst a;exact⟨_,rfl,b.slot t⟩
 |const v=>exact fS a
 |global g=>simp[SO]at a
 |func f=>simp only[SO,zh]at a;subst a;exact⟨_,rfl,by simp[PR]⟩
theorem FY(c:FP F ρ N st fr):∀ {b:List Operand} {ps:List PV},N8 st b=some ps->∃vs,Xp C fr b=some vs/\Ca F ρ N ps vs
 |[],ps,a=>by simp[N8]at a;subst a;exact⟨[],rfl,by simp⟩
 |x::b,ps,a=>by
  unfold N8 at a;split at a
  case h_2=>cases a
  rename_i v vs e d;cases a;obtain⟨y,f,g⟩:=Cs (C:=C) c e;obtain⟨ys,g3,g4⟩:=FY c d;simp_all [Xp]
inductive PRn (F:Fz) (ρ:EI) (N:Nat):List (Nat×PV)->List (Nat×V)->Prop
 |nil:PRn F ρ N [] []
 |cons {i:Nat} {p:PV} {v:V} {l:List (Nat×PV)} {l':List (Nat×V)}:PR F ρ N p v->PRn F ρ N l l'->PRn F ρ N ((i,p)::l) ((i,v)::l')
theorem SE(c:FP F ρ N st fr):∀ {b:List (Nat×Operand)} {ps:List (Nat×PV)},mA st b=some ps->∃vs,aJ C fr b=some vs/\PRn F ρ N ps vs
 |[],ps,a=>by simp[mA]at a;subst a;exact⟨[],rfl,.nil⟩
 |(i,x)::b,ps,a=>by
  unfold mA at a;split at a
  case h_2=>cases a
  rename_i v vs g f;cases a;obtain⟨y,d,e⟩:=Cs (C:=C) c g;obtain⟨ys,g3,g4⟩:=SE c f;exact⟨(i,y)::ys,by simp[aJ,d,g3],.cons e g4⟩
structure Rel(B:Nat)(h0:H0)(F:Fz)(ρ:EI)(st:AP)(fr:Fr)(h:H):Prop where
 fp:FP F ρ st.nx st fr
 sr:SR B h0 F ρ st.nx st.ob h
inductive PO.To:PO->PV->AP->Prop
 |val {v:PV} {st:AP}:PO.To (.val v st) v st
 |tt {a b:PO} {v:PV} {st:AP}:PO.To a v st->PO.To (.ite true a b) v st
 |ff {a b:PO} {v:PV} {st:AP}:PO.To b v st->PO.To (.ite false a b) v st
@[simp] theorem OA{v:PV}{s:AP}:¬PO.To .bad v s:=by intro h;cases h
@[simp] theorem Cu{v u:PV}{s t:AP}:PO.To (.val v s) u t↔v=u/\s=t:=by
 constructor
 ·intro h;cases h;simp
 ·rintro⟨rfl,rfl⟩;exact .val
@[simp] theorem Cy{c:Bool}{v u:PV}{s t:AP}:PO.To (.Jx c v s) u t↔c=true/\v=u/\s=t:=by
 constructor
 ·intro h;cases h with
  |tt h=>simp_all
  |ff h=>cases h
 ·rintro⟨rfl,rfl,rfl⟩;exact .tt .val
@[simp] theorem TP{o:Option PV}{u:PV}{s t:AP}:PO.To (ov s o) u t↔o=some u/\s=t:=by
 cases o with
 |none=>simp[ov]
 |some v=>simp only[ov,Cu,zh]
@[simp] theorem ZL{c:Bool}{o:Option PV}{u:PV}{s t:AP}:PO.To (ovc c s o) u t↔c=true/\o=some u/\s=t:=by
 cases o with
 |none=>simp[ovc]
 |some v=>simp only[ovc,Cy,zh]
def OK(B:Nat)(h0:H0)(F:Fz)(ρ:EI)(st:AP)(h:H)(a:List Nat)(d:Option OR)(v:PV)(st':AP):Prop:=
 ∃v' h' F' ρ',(d=some (.val v' h')\/(d=some (.skip h')/\v'=.tup []))/\PR F' ρ' st'.nx v v'/\SR B h0 F' ρ' st'.nx st'.ob h'/\Le F ρ st.nx F' ρ' st'.nx/\
  st'.fr=st.fr/\st'.n=st.n/\h.nx<=h'.nx/\∀b,b<h.nx->h'.get b=h.get b\/∃id∈a,∃n,ρ id=some (b,n)
theorem OK.pure{a:List Nat}(hr:SR B h0 F ρ st.nx st.ob h){d:Option OR}{v:PV}{v':V}(c:d=some (.val v' h))(b:PR F ρ st.nx v v'):OK B h0 F ρ st h a d v st:=
 ⟨v',h,F,ρ,.inl c,b,hr,Le.refl,rfl,rfl,zj _,(by simp)⟩
theorem OQ{α:Type}(n:Nat)(l:List α):Det.Lr n l=l.drop n:=Sk n l
theorem rd_some{h:H}{b off n:Nat}{cs:List V}{t:TypeId}{fz:Nat×Nat}(d:h.get b=some (.cells cs t fz))(c:off+n<=cs.length)(a:∀v∈(cs.drop off).take n,v.ok=true):rd h b off n=some ((cs.drop off).take n):=by
 simp_all [eL,rd0]
theorem SN{d:TypeDesc}{n:Nat}{ps:List PV}{cs:List V}(hp:Ca F ρ N ps cs){p:PV}(a:pick d n ps=some p):
  (EK d=true/\0<n/\n<=cs.length/\PR F ρ N p (.agg<|cs.take n))\/(EK d=false/\∃v vs,cs=v::vs/\PR F ρ N p v):=by
 unfold pick at a;cases e:EK d with
 |true=>
  left;simp only[e,we]at a;rw[DF,RD]at a;cases b:(zq n ps.length&&zz 0 n)with
  |false=>grind
  |true=>
   rw[b]at a;simp only[we,zh]at a;subst a;simp only[zc]at b;obtain⟨b,c⟩:=b;refine⟨rfl,zm c,by rw[<-hp.len];simp_all,?_⟩;exact⟨_,rfl,hp.take n⟩
 |false=>
  simp only[e,wg]at a;cases ps with
  |nil=>cases a
  |cons q f=>
   simp only[Ca]at hp;grind
theorem Dx:∀ {s:Sh} {x:s.T} {cs:List V},DC F s x cs->Ca F ρ N (flat s x) cs
 | .pair a b,(x,y),cs,h=>by
  obtain⟨c,d,rfl,f,e⟩:=h;exact(Dx f).append<|Dx e
 | .unit,_,cs,h=>by simp_all [DC,flat]
 | .int k,x,cs,h=>by simp_all [DC,flat,PR]
 | .bool,x,cs,h=>by simp_all [DC,flat,PR]
 | .str,x,cs,h=>by simp_all [DC,flat,PR]
 | .list s,x,cs,h=>by
  have h':=h;obtain⟨v,rfl,_⟩:=h;simp_all [flat,PR]
 | .fnv,x,cs,h=>by subst h;simp only[flat,BY,El,ve];cases (x:Option Fn)<;>simp[PR]
 | .ptr s,x,cs,h=>by
  obtain⟨b,o,g,rfl,e,j,i⟩:=h;simp only[flat,BY,El,ve,PR];grind
 | .nlist s,x,cs,h=>by
  have h':=h;obtain⟨v,rfl,_⟩:=h;simp_all [flat,PR]
theorem GX{α:Type}(l:List α)(a b:Nat):l.drop (a+b)=(l.drop a).drop b:=by simp
theorem Ij{T:Co}{t:TypeId}{d:TypeDesc}{i:TI}(s:T.und t=some d)(r:T.inf t=some i){b off:Nat}{cs:List V}{te:TypeId}{fz:Nat×Nat}(e:h.get b=some (.cells cs te fz))
  {m:Nat} (g:∀v∈(cs.drop off).take m,v.ok=true) {ps:List PV} (hp:Ca F ρ N ps ((cs.drop off).take m)) {p:PV} (c:pick d i.size ps=some p):∃v,F4 T h t (.ptr b off)=some v/\PR F ρ N p v:=by
 unfold F4;simp only[s,r];have f:((cs.drop off).take m).length<=cs.length-off:=ah
 rcases SN hp c with⟨j,_,x,l⟩|⟨j,v,vs,u,l⟩
 ·rw[rd_some e ae ah];grind
 ·have n:off+1<=cs.length:=by
   grind
  have q:(cs.drop off).take 1=[v]:=by
   have:m≠0:=ah
   obtain⟨k,rfl⟩:=Nat.exists_eq_succ_of_ne_zero this;cases w:cs.drop off with
   |nil=>grind
   |cons a o=>grind
  rw[rd_some e n ah,q];grind
end
section
variable {B:Nat}{h0:H0}{F:Fz}{ρ:EI}{N:Nat}{C:Ctx}{st st':AP}{fr:Fr}{h:H}
theorem SR.at(hr:SR B h0 F ρ N st.ob h){id:Nat}{o:Obj}(a:st.obj id=some o):∃b n x,ρ id=some (b,n)/\h.get b=some x/\ZP F ρ N n o x/\(o.frozen=false->F b=none)/\
  (o.frozen=true->∃cs t fz,x=.cells cs t fz/\F b=some cs):=hr.obj id o a
theorem RF{s:Sh}{l:List s.T}{cs:List V}(b:Eb F s l cs)(c:s.sz=1):∀(n j:Nat),j+n=l.length->Ca F ρ N (QA s l j n) (cs.drop j)
 |0,j,f=>by
  have:cs.length=l.length:=by rw[b.1,c,qz]
  simp_all [QA]
 |n+1,j,f=>by
  have a:j<l.length:=ae
  have d:=b.2 j a;rw[c,qz]at d;have e:cs.drop j=(cs.drop j).take 1++cs.drop (j+1):=by
   grind [List.take_append_drop,List.drop_drop]
  unfold QA;rw[e,show l.getD j s.IP=l[j]from by grind];exact(Dx d).append (RF b c n (j+1) ae)
theorem qS(hr:SR B h0 F ρ st.nx st.ob h){t:TypeId}{p:PV}{a:V}(y:PR F ρ st.nx p a){v:PV}(f:(Pd C.T st t p).To v st'):
  OK B h0 F ρ st h [] (BT h<|F4 C.T h t a) v st':=by
 unfold Pd at f;split at f
 case h_2=>simp at f
 rename_i d i D A;split at f
 case h_4=>simp at f
 case h_1=>
  rename_i id off;split at f
  case h_4=>simp at f
  case h_3=>
   rename_i tb ps r;simp only[TP]at f;obtain⟨c,rfl⟩:=f;obtain⟨b,n,x,h1,h2,⟨cs,fz,rfl,h4,_,hbok⟩,_⟩:=hr.at r;obtain rfl:=y.2 b n h1;rw[OQ]at c;obtain⟨v',k,q⟩:=Ij (h:=h) D A h2 (m:=cs.length) ah (by rw[zn<|by simp];exact h4.drop off) c;exact OK.pure hr (by rw[k];rfl) q
  case h_2=>
   rename_i G e s l r;cases g:(ze off 0&&ze s.sz 1)with
   |false=>simp_all
   |true=>
    rw[g]at f;simp only[we,ZL,w5]at f;obtain⟨E,c,rfl⟩:=f;rw[zc]at g;have h0:=zd g.1;have I:=zd g.2;subst h0;obtain⟨b,n,x,h1,h2,⟨cs,fz,rfl,h4,_⟩,_⟩:=hr.at r;obtain rfl:=y.2 b n h1;have hp:=RF (ρ:=ρ) (N:=st.nx) h4 I i.size 0 ae;obtain⟨v',k,q⟩:=Ij (h:=h) D A h2 (m:=cs.length) (fun u w=>h4.ok u ah) (by rw[zn<|by simp];exact hp) c;exact OK.pure hr (by rw[k];rfl) q
  rename_i ps r;simp only[TP]at f;obtain⟨c,rfl⟩:=f;obtain⟨b,n,x,h1,h2,⟨cs,te,fz,rfl,h4,_,hbok⟩,_⟩:=hr.at r;obtain rfl:=y.2 b n h1;rw[OQ]at c;obtain⟨v',k,q⟩:=Ij (h:=h) D A h2 (m:=cs.length) ah (by rw[zn<|by simp];exact h4.drop off) c;exact OK.pure hr (by rw[k];rfl) q
 case h_2=>
  rename_i id sz j off;split at f
  case h_2=>simp at f
  rename_i G e s l r;cases g:ze sz s.sz with
  |false=>simp_all
  |true=>
   rw[g]at f;simp only[we,ZL,w5]at f;obtain⟨E,c,rfl⟩:=f;have g:=zd g;subst g;obtain⟨b,n,x,h1,h2,⟨cs,fz,rfl,h4,_⟩,_⟩:=hr.at r;obtain rfl:=y.2 b n h1;have z:=h4.2 j E;rw[show l.getD j s.IP=l[j]from by simp[E],OQ]at c;have hp:Ca F ρ st.nx ((flat s l[j]).drop off) ((cs.drop<|j*s.sz+off).take<|s.sz-off):=by
    have:=(Dx (F:=F) (ρ:=ρ) (N:=st.nx) z).drop off;rw[GX, <-yw]at*;omega
   obtain⟨v',k,q⟩:=Ij (h:=h) D A h2 (fun u w=>z.ok u<|List.mem_of_mem_drop (i:=off)<|by rw[GX, <-yw]at w;exact w) hp c;exact OK.pure hr (by rw[k];rfl) q
 case h_3=>
  rename_i s x off;simp only[TP]at f;obtain⟨c,rfl⟩:=f;obtain⟨b,o,cs,rfl,h1,h2,h3⟩:=y;obtain⟨te,fz,h4⟩:=hr.frz b cs h1;rw[OQ]at c;have hp:Ca F ρ st.nx ((flat s x).drop off) ((cs.drop<|o+off).take<|s.sz-off):=by
   have:=(Dx (F:=F) (ρ:=ρ) (N:=st.nx) h3).drop off;rw[GX, <-yw]at*;omega
  obtain⟨v',k,q⟩:=Ij (h:=h) D A h4 (fun u w=>h3.ok u<|List.mem_of_mem_drop (i:=off)<|by rw[GX, <-yw]at w;exact w) hp c;exact OK.pure hr (by rw[k];rfl) q
theorem DC.XP:∀ {s:Sh} {x:s.T} {cs:List V},DC F s x cs->∀v∈cs,v.one=true
 | .int _,_,_,h=>by grind [DC,V.one]
 | .bool,_,_,h=>by grind [DC,V.one]
 | .str,_,_,h=>by grind [DC,V.one]
 | .list s,l,_,h=>by
  obtain⟨u,rfl,h⟩:=h;intro v e;rw[zo.1 e];rcases h with⟨_,rfl|rfl|rfl⟩|⟨b,off,cap,o,f,rfl,_⟩<;>rfl
 | .pair a b,x,_,h=>by
  obtain⟨c,d,rfl,g,i⟩:=h;intro v e;rcases List.mem_append.1 e with e|e
  ·exact g.XP v e
  ·exact i.XP v e
 | .unit,_,_,h=>by grind [DC]
 | .fnv,x,_,h=>by subst h;intro v e;rw[zo.1 e];cases (x:Option Fn)<;>rfl
 | .ptr _,x,_,h=>by obtain⟨b,o,f,rfl,_⟩:=h;intro v e;rw[zo.1 e];rfl
 | .nlist s,l,_,h=>by
  obtain⟨u,rfl,h⟩:=h;intro v e;rw[zo.1 e];rcases h with⟨_,rfl⟩|⟨_,b,off,cap,o,f,rfl,_⟩<;>rfl
theorem JX{o:Option Obj}(h:Jr o=true):∃x,o=some x:=by cases o with|none=>cases h|some x=>simp
theorem TH(hr:SR B h0 F ρ st.nx st.ob h){p:PV}{v:V}(d:MT st p=true)(hp:PR F ρ st.nx p v):v.one=true:=by
 have key:∀ {id:Nat},Jr (st.obj id)=true->∃b n,ρ id=some (b,n):=by
  intro id f;obtain⟨o,e⟩:=JX f;obtain⟨b,n,_,c,_⟩:=hr.at e;grind
 cases p<;>simp only[MT]at d<;>simp only[PR]at hp<;>try (cases d;done)
 case bl=>subst hp;rfl
 case dat=>exact hp.XP v (by simp)
 case nil|nilp|nilm|nilf|nili=>subst hp;rfl
 case ptr=>obtain⟨b,n,c⟩:=key d;rw[hp.2 b n c];rfl
 case eptr=>obtain⟨b,n,c⟩:=key d;rw[hp.2 b n c];rfl
 case AV=>obtain⟨b,o,cs,rfl,_⟩:=hp;rfl
 case sl=>
  obtain⟨b,n,c⟩:=key d;rcases hp.2 b n c with⟨_,_,o,_,rfl⟩|⟨_,_,_,rfl|⟨_,rfl,_⟩⟩<;>rfl
 case mp|yl=>obtain⟨b,n,c⟩:=key d;rw[hp.2 b n c];rfl
 case fn=>obtain⟨a,b,rfl,_⟩:=hp;rfl
theorem jF{v:V}(h:v.one=true):v.cells=[v]:=by cases v<;>first|rfl|cases h
theorem P5(hr:SR B h0 F ρ st.nx st.ob h){p:PV}{v:V}{ps:List PV}(hp:PR F ρ st.nx p v)(a:pcs st p=some ps):Ca F ρ st.nx ps v.cells:=by
 unfold pcs at a;split at a
 ·cases a;obtain⟨cs,rfl,b⟩:=hp;exact b
 grind [jF,TH,Ca]
theorem L0(hr:SR B h0 F ρ st.nx st.ob h):∀ {ps:List PV} {vs:List V},ps.all (MT st)=true->Ca F ρ st.nx ps vs->vs.all V.one=true
 |[],vs,_,h=>by simp_all
 |p::ps,vs,a,h=>by
  obtain⟨v,vs,rfl,c,b⟩:=h;simp only[List.all_cons,zc]at a ⊢;exact⟨TH hr a.1 c,L0 hr a.2 b⟩
theorem Ca.Lq:∀ {a:List PV} {x:List V} {b:List PV} {y:List V},Ca F ρ N a x->Ca F ρ N b y->Ca F ρ N (Lq a b) (Lq x y)
 |[],x,b,y,h,h'=>by subst h;exact h'
 |p::ps,x,b,y,h,h'=>by
  obtain⟨v,vs,rfl,e,f⟩:=h;cases b with
  |nil=>subst h';rfl
  |cons q d=>
   obtain⟨u,g,rfl,i,c⟩:=h';show Ca F ρ N (p::Det.Lq ps d) (v::Det.Lq vs g);simp only[BY];exact⟨e,f.Lq c⟩
theorem Ca.CR{a:List PV}{x:List V}(c:Ca F ρ N a x):∀(n:Nat) {b:List PV} {y:List V},Ca F ρ N b y->Ca F ρ N (CR n a b) (CR n x y)
 |0,b,y,h=>c.Lq h
 |n+1,[],y,h=>by subst h;rfl
 |n+1,q::g,y,h=>by
  obtain⟨u,f,rfl,d,e⟩:=h;show Ca F ρ N (q::jf n a g) (u::jf n x f);simp only[BY];exact⟨d,Ca.CR c n e⟩
theorem Ig:∀(l:Ob) (i:Nat) (x:Obj) (j:Nat),(AU l i).isSome=true->AU (Ez l i x) j=if j=i then some x else AU l j
 |[],i,x,j,h=>by cases h
 |(a,o)::l,i,x,j,h=>by
  simp only[Ez,AU,Bz]at h ⊢;by_cases e:a=i
  ·subst e;simp only[decide_true,we,AU,Bz];grind
  ·simp only[e,decide_false,wg]at h ⊢;simp only[AU,Bz];by_cases b:a=j
   ·grind
   ·simp only[b,decide_false,wg];exact Ig l i x j h
theorem Pp{b off:Nat}{vs cs:List V}{t:TypeId}{fz:Nat×Nat}(c:h.get b=some (.cells cs t fz))(e:off+vs.length<=cs.length)(d:fz.2<=fz.1)(a:vs.all V.one=true):
  wr h b off vs=some (h.put b<|.cells (CR off vs cs) t fz):=by
 unfold wr;simp only[c,DF,GC,a];simp_all [z7,Det.clear]
theorem SR.set(hr:SR B h0 F ρ st.nx st.ob h){id b n:Nat}{o o':Obj}{x x':O}(z:st.obj id=some o)(q:ρ id=some (b,n))(M:h.get b=some x)(S:o.frozen=false)(P:o'.frozen=false)
  (A:ZP F ρ st.nx n o' x'):SR B h0 F ρ st.nx (Ez st.ob id o') (h.put b x'):=by
 have s:AU st.ob id=some o:=z;have t:F b=none:=by
  obtain⟨b',n',_,p,_,_,r,_⟩:=hr.at z;grind
 have g:∀j,AU (Ez st.ob id o') j=if j=id then some o' else AU st.ob j:=(by grind [Ig])
 refine⟨fun j oj a=>?_,fun i j oi oj c m Q I a p r=>?_,fun c cs f=>?_,hr.own,fun j a=>?_,fun c f v=>?_,fun c D f=>?_,hr.le,hr.fo,hr.gl,fun c f=>?_⟩
 ·rw[g]at a;by_cases e:j=id
  ·subst e;simp only[wk,zh]at a;subst a;exact⟨b,n,x',q,by simp,A,fun _=>t,ah⟩
  ·rw[wc e]at a;obtain⟨c,m,y,p,r,G,E,J⟩:=hr.obj j oj a;have d:c≠b:=fun K=>e<|hr.inj j id oj o c m n a s p<|K▸q
   exact⟨c,m,y,p,by simp_all,G,E,J⟩
 ·have l:∀k ok,AU (Ez st.ob id o') k=some ok->∃L,AU st.ob k=some L:=by
   grind
  obtain⟨_,u⟩:=l i oi I;obtain⟨_,w⟩:=l j oj a;exact hr.inj i j _ _ c m Q u w p r
 ·have d:c≠b:=ah;rw[H.C1,wc d];exact hr.frz c cs f
 ·rw[g]at a;by_cases e:j=id
  ·grind
  ·rw[wc e]at a;exact hr.dead j a
 ·have d:c≠b:=P7 (hr.own id b n q).2 f v;rw[H.C1,wc d];exact hr.old c f v
 ·rw[H.C1]at f;by_cases e:c=b
  ·subst e;exact hr.lt _ _ M
  ·rw[wc e]at f;exact hr.lt c D f
 ·obtain⟨u,w,R⟩:=hr.pn c f;have d:c≠b:=ah;simp_all
def BG(ρ:EI)(i:Nat)(x:Option (Nat×Nat)):EI:=fun j=>if j=i then x else ρ j
theorem Le.KQ(i:Nat):Le F ρ N F (BG ρ i none) N:=⟨fun _ _ h=>h,(by grind [BG]),zj _⟩
theorem Le.new(x:Nat×Nat):Le F ρ N F (BG ρ N<|some x) (N+1):=⟨fun _ _ h=>h,fun id h=>by unfold BG;grind,Nat.le_succ _⟩
theorem SR.push{ob:Ob}(hr:SR B h0 F ρ N ob h){o:Obj}{x:O}{n:Nat}(W:o.frozen=false)(E:ZP F (BG ρ N<|some (h.nx,n)) (N+1) n o x):
  SR B h0 F (BG ρ N<|some (h.nx,n)) (N+1) ((N,o)::ob) (h.push x):=by
 have P:Le F ρ N F (BG ρ N<|some (h.nx,n)) (N+1):=Le.new _;have d:∀j,AU ((N,o)::ob) j=if j=N then some o else AU ob j:=by
  simp only[AU,Bz];grind
 have z:∀b y,h.get b=some y->b≠h.nx:=fun b y g=>by have:=hr.lt b y g;omega
 refine⟨fun j oj a=>?_,fun i j oi oj c m q v a p u=>?_,fun c cs f=>?_,fun id b m g=>?_,fun j a=>?_,fun c f J=>?_,fun c T f=>?_,?_,?_,hr.gl,fun c f=>?_⟩
 ·rw[d]at a;by_cases e:j=N
  ·subst e;simp only[wk,zh]at a;subst a;refine⟨h.nx,n,x,by simp[BG],by simp,E,fun _=>?_,ah⟩;cases f:F h.nx with
   |none=>rfl
   |some cs=>
    obtain⟨t,fz,S⟩:=hr.frz _ _ f;grind
  ·rw[wc e]at a;obtain⟨c,m,y,p,u,K,I,R⟩:=hr.obj j oj a;exact⟨c,m,y,by simp[BG,e,p],by simp_all,K.mono P,I,R⟩
 ·rw[d]at v a;have key:∀k ok m,(if k=N then some o else AU ob k)=some ok->BG ρ N (some (h.nx,n)) k=some (c,m)->(k=N/\c=h.nx)\/(k≠N/\AU ob k=some ok/\ρ k=some (c,m)/\c≠h.nx):=by
   intro k ok m r l;by_cases e:k=N
   ·simp_all [BG]
   ·rw[wc e]at r;simp only[BG,e,vf]at l;obtain⟨U,q,y,D,w,_⟩:=hr.obj k ok r;grind
  rcases key i oi m v p with⟨M,A⟩|⟨M,A,G,Y⟩<;>rcases key j oj q a u with⟨Q,s⟩|⟨Q,s,L,X⟩
  ·omega
  ·omega
  ·omega
  ·exact hr.inj i j oi oj c m q A s G L
 ·obtain⟨t,fz,S⟩:=hr.frz c cs f;simp_all
 ·unfold BG at g;split at g
  ·cases g;exact⟨ae,.inl hr.le⟩
  ·have:=hr.own id b m g;grind
 ·rw[d]at a;by_cases e:j=N
  ·grind
  ·rw[wc e]at a;simp[BG,e,hr.dead j a]
 ·have:=hr.le;rw[H.C2,wc ae];exact hr.old c f J
 ·rw[H.C2]at f;by_cases e:c=h.nx
  ·simp_all
  ·rw[wc e]at f;have:=hr.lt c T f;show c<h.nx+1;omega
 ·have:=hr.le;show B<=h.nx+1;omega
 ·exact hr.fo
 ·obtain⟨D,w,V⟩:=hr.pn c f;refine⟨by simp_all,w,fun id m e=>?_⟩;unfold BG at e;grind
theorem DY:∀(l:Ob) (i j:Nat),AU (HF l i) j=if j=i then none else AU l j
 |[],i,j=>by simp[HF,AU]
 |(a,o)::l,i,j=>by
  simp only[HF,Bz];by_cases e:a=i
  ·subst e;simp only[decide_true,we];rw[DY l a j];simp only[AU,Bz];grind
  ·simp only[e,decide_false,wg,AU,Bz];rw[DY l i j];grind
theorem SR.del{ob:Ob}(hr:SR B h0 F ρ N ob h)(id:Nat):SR B h0 F (BG ρ id none) N (HF ob id) h:=by
 have p:Le F ρ N F (BG ρ id none) N:=Le.KQ id;refine⟨fun j oj a=>?_,fun i j oi oj c m q k a d g=>?_,hr.frz,fun j b m f=>?_,fun j a=>?_,hr.old,hr.lt,hr.le,hr.fo,hr.gl,fun c s=>?_⟩
 ·rw[DY]at a;split at a
  ·cases a
  ·rename_i e;obtain⟨c,m,y,d,g,n,l⟩:=hr.obj j oj a;exact⟨c,m,y,by simp[BG,e,d],g,n.mono p,l⟩
 ·rw[DY]at k a;split at k
  ·cases k
  split at a
  ·cases a
  rename_i o r;simp only[BG,o,r,vf]at d g;exact hr.inj i j oi oj c m q k a d g
 ·unfold BG at f;split at f
  ·cases f
  ·exact hr.own j b m f
 ·rw[DY]at a;unfold BG;split
  ·rfl
  ·rename_i e;rw[wc e]at a;exact hr.dead j a
 ·obtain⟨t,u,v⟩:=hr.pn c s;grind [BG]
theorem SR.kill{ob:Ob}(hr:SR B h0 F ρ N ob h){b:Nat}(q:∀id o n,AU ob id=some o->ρ id≠some (b,n))(s:F b=none)(l:h0.lO B b)(r:b∉h0.pin):SR B h0 F ρ N ob (h.kill b):=by
 refine⟨fun j oj g=>?_,hr.inj,fun c cs a=>?_,hr.own,hr.dead,fun c a e=>?_,fun c p a=>?_,hr.le,hr.fo,hr.gl,fun c a=>?_⟩
 ·obtain⟨c,m,y,d,i,f⟩:=hr.obj j oj g;have:c≠b:=ah;exact⟨c,m,y,d,by simp_all,f⟩
 ·have:c≠b:=ah;rw[H.Ea,wc this];exact hr.frz c cs a
 ·have:c≠b:=P7 l a e;rw[H.Ea,wc this];exact hr.old c a e
 ·rw[H.Ea]at a;split at a
  ·cases a
  ·exact hr.lt c p a
 ·obtain⟨d,i,f⟩:=hr.pn c a;have k:c≠b:=ah;simp_all
theorem CU{s a:Sh}{x:s.T}{y:a.T}(h:EX s a x=some y):∃e:s=a,e▸x=y:=by
 simp_all [EX]
theorem Hi{s:Sh}{p:PV}{x:s.T}{v:V}(hp:PR F ρ N p v)(a:asD s p=some x):DC F s x [v]:=by
 unfold asD at a;split at a
 ·unfold asP at a;split at a
  ·obtain⟨rfl,rfl⟩:=CU a;simp_all [PR,DC]
  grind
 ·obtain⟨rfl,rfl⟩:=CU a;simpa only[PR]using hp
 ·obtain⟨rfl,rfl⟩:=CU a;grind [PR,DC]
 ·obtain⟨rfl,rfl⟩:=CU a;simp_all [PR,DC]
 ·obtain⟨rfl,rfl⟩:=CU a;grind [PR,DC]
 ·split at a
  ·grind [PR,DC]
  ·grind [PR,DC]
  grind
 grind
theorem IC:∀ {s:Sh} {ps:List PV} {vs:List V} {x:s.T} {e:List PV},Ca F ρ N ps vs->CJ s ps=some (x,e)->∃a b,vs=a++b/\DC F s x a/\Ca F ρ N e b
 | .pair s t,ps,vs,x,e,hp,f=>by
  unfold CJ at f;split at f
  case h_2=>cases f
  rename_i y l1 g;split at f
  case h_2=>cases f
  rename_i z m i;cases f;obtain⟨a,b,rfl,n,l⟩:=IC hp g;obtain⟨c,d,rfl,g3,g4⟩:=IC l i;exact⟨a++c,d,by simp,by simp only[DC];grind,g4⟩
 | .unit,ps,vs,x,e,hp,f=>by
  cases f;exact⟨[],vs,rfl,by simp[DC],hp⟩
 | .int k,[],vs,x,e,hp,f=>by simp[CJ]at f
 | .bool,[],vs,x,e,hp,f=>by simp[CJ]at f
 | .str,[],vs,x,e,hp,f=>by simp[CJ]at f
 | .list s,[],vs,x,e,hp,f=>by simp[CJ]at f
 | .nlist s,[],vs,x,e,hp,f=>by simp[CJ]at f
 | .fnv,[],vs,x,e,hp,f=>by simp[CJ]at f
 | .ptr _,[],vs,x,e,hp,f=>by simp[CJ]at f
 | .int k,p::ps,vs,x,e,hp,f=>by
  obtain⟨v,vs,rfl,g,i⟩:=hp;simp only[CJ]at f;split at f
  ·rename_i y j;cases f;exact⟨[v],vs,rfl,Hi g j,i⟩
  grind
 | .bool,p::ps,vs,x,e,hp,f=>by
  obtain⟨v,vs,rfl,g,i⟩:=hp;simp only[CJ]at f;split at f
  ·rename_i y j;cases f;exact⟨[v],vs,rfl,Hi g j,i⟩
  grind
 | .str,p::ps,vs,x,e,hp,f=>by
  obtain⟨v,vs,rfl,g,i⟩:=hp;simp only[CJ]at f;split at f
  ·rename_i y j;cases f;exact⟨[v],vs,rfl,Hi g j,i⟩
  grind
 | .list s,p::ps,vs,x,e,hp,f=>by
  obtain⟨v,vs,rfl,g,i⟩:=hp;simp only[CJ]at f;split at f
  ·rename_i y j;cases f;exact⟨[v],vs,rfl,Hi g j,i⟩
  grind
 | .fnv,p::ps,vs,x,e,hp,f=>by
  obtain⟨v,vs,rfl,g,i⟩:=hp;simp only[CJ]at f;split at f
  ·rename_i y j;cases f;exact⟨[v],vs,rfl,Hi g j,i⟩
  grind
 | .ptr s,p::ps,vs,x,e,hp,f=>by
  obtain⟨v,vs,rfl,g,i⟩:=hp;simp only[CJ]at f;split at f
  ·rename_i y j;cases f;exact⟨[v],vs,rfl,Hi g j,i⟩
  grind
 | .nlist s,p::ps,vs,x,e,hp,f=>by
  obtain⟨v,vs,rfl,g,i⟩:=hp;simp only[CJ]at f;split at f
  ·rename_i y j;cases f;exact⟨[v],vs,rfl,Hi g j,i⟩
  grind
theorem Dj{s:Sh}{ps:List PV}{vs:List V}{x:s.T}(hp:Ca F ρ N ps vs)(c:D1 s ps=some x):DC F s x vs:=by
 unfold D1 at c;split at c
 ·rename_i y d;obtain⟨a,b,rfl,f,e⟩:=IC hp d;simp_all
 grind
theorem YD{v:V}:∀(vs cs:List V) (off:Nat),v∈Ie cs off vs->v∈vs\/v∈cs
 |[],cs,off,h=>.inr h
 |u::vs,cs,off,h=>by
  rcases YD vs _ _ h with h|h
  ·grind
  grind
theorem XA{v:V}{vs cs:List V}{off:Nat}(h:v∈jf off vs cs):v∈vs\/v∈cs:=by
 grind [KN,YD]
theorem Iw{cs vs:List V}{off:Nat}(a:off+vs.length<=cs.length)(j:Nat):(CR off vs cs)[j]?=if off<=j/\j<off+vs.length then vs[j-off]? else cs[j]?:=by
 grind [KN,R0]
theorem sQ{cs vs:List V}{off:Nat}:(CR off vs cs).length=cs.length:=by
 grind [KN,JQ]
theorem Aez{cs vs:List V}{m off k:Nat}(b:off+vs.length<=k)(c:m+k<=cs.length):((CR (m+off) vs cs).drop m).take k=CR off vs ((cs.drop m).take k):=by
 apply z6;intro j;rw[Iw ah];by_cases a:j<k
 ·rw[zt a,yx,Iw ae];grind
 grind
theorem Abr{cs vs:List V}{m p k:Nat}(c:p+vs.length<=m\/m+k<=p)(b:p+vs.length<=cs.length):((CR p vs cs).drop m).take k=(cs.drop m).take k:=by
 apply z6;intro j;by_cases a:j<k
 ·rw[zt a,zt a,yx,yx,Iw b,wc ae]
 grind
theorem Eb.set{s:Sh}{l:List s.T}{cs vs:List V}{j off:Nat}{y:s.T}(b:Eb F s l cs)(f:j<l.length)(d:off+vs.length<=s.sz)(m:DC F s y (CR off vs<|(cs.drop<|j*s.sz).take s.sz)):
  Eb F s (l.set j y) (CR (j*s.sz+off) vs cs):=by
 have g:j*s.sz+s.sz<=cs.length:=by
  rw[b.1, <-je];exact zi _ f
 refine⟨by rw[sQ,List.length_set];exact b.1,fun i k=>?_⟩;have a:i<l.length:=ah
 by_cases e:i=j
 ·simp_all [Aez]
 ·rw[List.getElem_set_ne ae,Abr ?_ ae]
  ·exact b.2 i a
  ·rcases Nat.lt_or_gt_of_ne e with c|c
   ·have:(i+1)*s.sz<=j*s.sz:=zi _ c;grind
   ·have:(j+1)*s.sz<=i*s.sz:=zi _ c;grind
theorem K9{s:Sh}:∀ {n:Nat} {ps:List PV} {vs:List V} {l:List s.T},Ca F ρ N ps vs->chunk s n ps=some l->vs.length=n*s.sz->l.length=n/\Eb F s l vs
 |0,ps,vs,l,hp,c,k=>by
  cases c;simp_all [Eb]
 |n+1,ps,vs,l,hp,c,k=>by
  unfold chunk at c;split at c
  case h_2=>cases c
  rename_i x d f;rw[zf]at c;obtain⟨l',g,rfl⟩:=c;obtain⟨a,b,rfl,h2,h3⟩:=IC hp f;have o:=h2.len;have j:b.length=n*s.sz:=ah
  obtain⟨e,m⟩:=K9 h3 g j;refine⟨by simp[e],by grind,fun i p=>?_⟩;cases i with
  |zero=>
   grind
  |succ i=>
   grind [je,GX,Eb]
theorem oD{cs a:List V}(h:a.length=cs.length):jf 0 a cs=a:=by
 apply z6;simp_all [Iw]
theorem AcL(hr:SR B h0 F ρ st.nx st.ob h){t:TypeId}{p q:PV}{a x:V}(I:PR F ρ st.nx p a)(W:PR F ρ st.nx q x){v:PV}(d:(aW C.T st t p q).To v st'):
  ∃id,((∃off,p=.ptr id off)\/∃sz j off,p=.eptr id sz j off)/\OK B h0 F ρ st h [id] (vH<|I9 C.T h t a x) v st':=by
 unfold aW at d;split at d
 case h_2=>simp at d
 rename_i i K L R;cases O:(ze (Det.Fb K) i.size&&Det.Np (MT st) K)with
 |false=>simp_all
 |true=>
  rw[O]at d;simp only[zc]at O;obtain⟨Q,G⟩:=O;rw[DF]at Q;rw[GC]at G;have g:=P5 hr W R;have u:x.cells.length=i.size:=by rw[<-g.len];simp_all
  have o:=L0 hr G g;have w:ze x.cells.length i.size=true:=by simp_all
  simp only[we]at d;split at d
  case h_3=>simp at d
  case h_1=>
   rename_i id off;split at d
   case h_4=>simp_all
   case h_3=>
    rename_i tb ps r;cases k:zq (yk off i.size) (Det.Fb ps)with
    |false=>simp_all
    |true=>
     rw[k]at d;simp only[we,Cu]at d;obtain⟨rfl,rfl⟩:=d;obtain⟨b,n,y,h1,h2,⟨cs,fz,rfl,h4,h5,hbok⟩,hf,_⟩:=hr.at r;simp only[PR]at I;obtain rfl:=I.2 b n h1;rw[DF]at k;have m:off+x.cells.length<=cs.length:=by rw[<-h4.len,u];simp_all
     refine⟨id,(by simp),.tup [],_,F,ρ,.inr ⟨?_,rfl⟩,by simp[PR],hr.set r h1 h2 rfl rfl (o':=.tbox tb<|jf off K ps) ⟨_,fz,rfl,g.CR off h4,h5,(by grind [XA,V.OH])⟩,Le.refl,rfl,rfl,zj _,fun c _=>?_⟩
     ·unfold I9;simp only[L,w,we];rw[Pp h2 m h5 o];rfl
     ·rw[H.C1];grind
   case h_2=>
    rename_i e s l r;cases f:(ze off 0&&ze s.sz 1)with
    |false=>simp_all
    |true=>
     rw[f]at d;rw[zc]at f;have A:=zd f.1;have P:=zd f.2;subst A;simp only[we]at d;split at d
     case h_2=>simp_all
     rename_i y J;simp only[Cy,w5]at d;obtain⟨D,rfl,rfl⟩:=d;obtain⟨b,n,z,h1,h2,⟨cs,fz,rfl,h4,h5,h6⟩,hf,_⟩:=hr.at r;obtain rfl:=I.2 b n h1;have X:cs.length=x.cells.length:=by rw[h4.1,P,qz,u];exact D
     obtain⟨Z,Y⟩:=K9 g J ah;have m:0+x.cells.length<=cs.length:=ae
     refine⟨id,(by simp),.tup [],_,F,ρ,.inr ⟨?_,rfl⟩,by simp[PR],hr.set r h1 h2 rfl rfl (o':=.arr false e s y) ⟨jf 0 x.cells cs,fz,rfl,by grind [oD],h5,by omega⟩,Le.refl,rfl,rfl,zj _,fun c _=>?_⟩
     ·unfold I9;simp only[L,w,we];rw[Pp h2 m h5 o];rfl
     ·rw[H.C1];grind
   rename_i ps r;cases k:zq (yk off i.size) (Det.Fb ps)with
   |false=>simp_all
   |true=>
    rw[k]at d;obtain⟨rfl,rfl⟩:=d;obtain⟨b,n,y,h1,h2,⟨cs,te,fz,rfl,h4,h5,hbok⟩,hf,_⟩:=hr.at r;obtain rfl:=I.2 b n h1;rw[DF]at k;have m:off+x.cells.length<=cs.length:=by rw[<-h4.len,u];simp_all
    refine⟨id,(by simp),.tup [],_,F,ρ,.inr ⟨?_,rfl⟩,by simp[PR],hr.set r h1 h2 rfl rfl (o':=.box<|jf off K ps) ⟨_,te,fz,rfl,g.CR off h4,h5,(by grind [XA,V.OH])⟩,Le.refl,rfl,rfl,zj _,fun c _=>?_⟩
    ·unfold I9;simp only[L,w,we];rw[Pp h2 m h5 o];rfl
    ·rw[H.C1];grind
  case h_2=>
   rename_i id sz j off;split at d
   case h_2=>simp at d
   rename_i e s l r;cases f:(ze sz s.sz&&zq (yk off i.size) sz)with
   |false=>rw[f]at d;simp at d
   |true=>
    rw[f]at d;simp only[zc]at f;have S:=zd f.1;have A:=zm f.2;subst S;simp only[we]at d;split at d
    case h_2=>simp at d
    rename_i y J;simp only[Cy,w5]at d;obtain⟨D,rfl,rfl⟩:=d;obtain⟨b,n,z,h1,h2,⟨cs,fz,rfl,h4,h5,h6⟩,hf,_⟩:=hr.at r;obtain rfl:=I.2 b n h1;rw[show l.getD j s.IP=l[j]from by simp[D]]at J;have U:=Dx (F:=F) (ρ:=ρ) (N:=st.nx)<|h4.2 j D;have M:=Dj (g.CR off U) J;have E:=Eb.set h4 D ah M;have m:j*s.sz+off+x.cells.length<=cs.length:=by
     have:j*s.sz+s.sz<=cs.length:=by rw[h4.1, <-je];exact zi _ D
     grind
    refine⟨id,(by simp),.tup [],_,F,ρ,.inr ⟨?_,rfl⟩,by simp[PR],hr.set r h1 h2 rfl rfl (o':=.arr false e s<|l.set j y) ⟨_,fz,rfl,E,h5,by grind⟩,Le.refl,rfl,rfl,zj _,fun c _=>?_⟩
    ·unfold I9;simp only[L,w,we];rw[Pp h2 m h5 o];rfl
    ·rw[H.C1];grind
theorem Db{k:IntKind}{n:Int}{v:V}(h:PR F ρ N (.dat (.int k) n) v):v=.int k n:=by simpa [PR,DC]using h
theorem Ge{s:Z}{v:V}(h:PR F ρ N (.dat .str s) v):v=.str s:=by simpa [PR,DC]using h
theorem MD{b:Bool}{v:V}(h:PR F ρ N (.dat .bool b) v):v=.bool b:=by simpa [PR,DC]using h
theorem SJ{b:Bool}{v:V}(h:PR F ρ N (.bl b) v):v=.bool b:=by simpa [PR]using h
theorem D6(k:IntKind)(n:Int):PR F ρ N (.dat (.int k) n) (.int k n):=by rfl
theorem OO(s:Z):PR F ρ N (.dat .str s) (.str s):=by rfl
theorem Ej(b:Bool):PR F ρ N (.dat .bool b) (.bool b):=by rfl
theorem vJ(b:Bool):PR F ρ N (.bl b) (.bool b):=by simp[PR]
theorem IL{p:PV}{b:Bool}{v:V}(h:K4 p=some b)(hp:PR F ρ N p v):v=.bool b:=by
 unfold K4 at h;grind [SJ,MD]
theorem Aik(hr:SR B h0 F ρ st.nx st.ob h){op:BinOp}{k:IntKind}{a b:Int}{v:PV}(c:(Af1 op k a b st).To v st'):OK B h0 F ρ st h [] (BT h<|Rd op k a b) v st':=by
 unfold Af1 at c;split at c<;>simp only[OA,Cu,Cy,w5,wm]at c
 all_goals first
  |(obtain⟨rfl,rfl⟩:=c;exact OK.pure hr rfl (D6 _ _))
  |(obtain⟨rfl,rfl⟩:=c;exact OK.pure hr rfl (Ej _))
  |(obtain⟨d,rfl,rfl⟩:=c;simp_all [OK.pure,Rd,BT,D6])
theorem Ai1(hr:SR B h0 F ρ st.nx st.ob h){op:BinOp}{k:IntKind}{a b:Int}{v:PV}(c:(psh op k a b st).To v st'):OK B h0 F ρ st h [] (BT h<|kZ op k a b) v st':=by
 unfold psh at c;split at c<;>simp only[OA,Cy,w5]at c
 all_goals
  obtain⟨d,rfl,rfl⟩:=c;exact OK.pure hr (by simp only[kZ,Int.not_lt.2 d,vf,BT])<|D6 _ _
theorem Ah8(hr:SR B h0 F ρ st.nx st.ob h){op:BinOp}{x y:Z}{v:PV}(a:(Aek op x y st).To v st'):OK B h0 F ρ st h [] (BT h<|Xr op x y) v st':=by
 unfold Aek at a;split at a<;>simp only[OA,Cu,Cy,w5]at a
 all_goals first
  |(obtain⟨rfl,rfl⟩:=a;exact OK.pure hr rfl (Ej _))
  |(obtain⟨b,rfl,rfl⟩:=a;simp_all [OK.pure,Xr,BT,OO])
theorem T3:∀ {ks:List FK} {ps n:List PV} {e f:List V} {r:Bool},Ca F ρ N ps e->Ca F ρ N n f->Iy ks ps n=some r->fit ks e=true/\fit ks f=true/\Ch e f=some r
 |[],[],[],e,f,r,g,j,d=>by
  subst g j;simp only[Iy,zh]at d;subst d;exact⟨rfl,rfl,rfl⟩
 |[],_::_,_,e,f,r,g,j,d=>by simp[Iy]at d
 |[],[],_::_,e,f,r,g,j,d=>by simp[Iy]at d
 |k::ks,[],_,e,f,r,g,j,d=>by grind [Iy]
 |k::ks,_::_,[],e,f,r,g,j,d=>by grind [Iy]
 |k::ks,p::ps,q::n,e,f,r,g,j,d=>by
  obtain⟨x,e,rfl,i,s⟩:=g;obtain⟨y,f,rfl,hy1,hy2⟩:=j;have key:∀ {c:Bool},k.ok x=true->k.ok y=true->EP x y=some c->(Iy ks ps n).map (fun r=>c&&r)=some r->fit (k::ks) (x::e)=true/\fit (k::ks) (y::f)=true/\Ch (x::e) (y::f)=some r:=by
   intro c G A M t;rw[zf]at t;obtain⟨P,E,rfl⟩:=t;obtain⟨g1,g2,g3⟩:=T3 s hy2 E;refine⟨by simp[fit,G,g1],by simp[fit,A,g2],?_⟩;have O:e.length=f.length:=by rw[<-Vs g1, <-Vs g2]
   cases c with
   |true=>simp_all [Ch]
   |false=>simp_all [Ch]
  unfold Iy at d;split at d
  case h_1=>grind
  case h_2=>
   rename_i u v D a J I b K o m l;cases m;cases l;cases L:(u==D&&u==I)with
   |false=>grind
   |true=>
    obtain rfl:=Db i;obtain rfl:=Db hy1;grind [FK.ok,EP]
  case h_3=>
   rename_i o m l;cases o;cases m;cases l;obtain rfl:=Ge i;obtain rfl:=Ge hy1;exact key rfl rfl (by rfl) d
  case h_4=>
   rename_i o m l;cases o;cases m;cases l;split at d
   case h_2=>cases d
   rename_i a b w z;obtain rfl:=IL w i;obtain rfl:=IL z hy1;exact key rfl rfl rfl d
  grind
theorem fC(hr:SR B h0 F ρ st.nx st.ob h){op:BinOp}{t e:TypeId}(j:C.T.und t=some (.slice e)){p:PV}{x:V}(d:PR F ρ st.nx p x){ng:Bool}{v:PV}(a:(UO st ng p).To v st'):
  (∀(_:x=.nili),False)/\∃b,BH C.T t x .nils=some b/\PR F ρ st.nx v (.bool<|b !=ng)/\LZ C.T op t x .nils=(match op with| .eql=>(BH C.T t x .nils).map fun b=>.bool b| .neq=>(BH C.T t x .nils).map fun b=>.bool !b|_=>none)/\st'=st:=by
 have dq:∀ {x:V},x=.nils\/x=.esl\/x=.es0\/(∃b off len cap o,x=.sl b off len cap o)->LZ C.T op t x .nils=(match op with| .eql=>(BH C.T t x .nils).map fun b=>.bool b| .neq=>(BH C.T t x .nils).map fun b=>.bool !b|_=>none):=by
  rintro x (rfl|rfl|rfl|⟨b,off,len,cap,o,rfl⟩)<;>cases op<;>rfl
 have no:∀ {x:V},x=.esl\/x=.es0\/(∃b off len cap o,x=.sl b off len cap o)->BH C.T t x .nils=some false:=by
  rintro x (rfl|rfl|⟨b,off,len,cap,o,rfl⟩)<;>simp[BH,j]
 have yes:BH C.T t .nils .nils=some true:=by simp[BH,j]
 unfold UO at a;split at a
 case h_1=>
  simp only[Cu]at a;obtain⟨rfl,rfl⟩:=a;simp only[PR]at d;subst d;exact⟨(by simp),true,yes,by simp[PR],dq<|.inl rfl,rfl⟩
 case h_2=>
  rename_i id sz off len cap;cases g:Jr (st.obj id)with
  |false=>rw[g]at a;simp at a
  |true=>
   rw[g]at a;simp only[we,Cu]at a;obtain⟨rfl,rfl⟩:=a;obtain⟨o,ho⟩:=JX g;obtain⟨b,n,_,h1,_⟩:=hr.at ho;simp only[PR]at d;have:x=.esl\/x=.es0\/(∃b off len cap o,x=.sl b off len cap o):=by
    grind
   exact⟨ah,false,no this,by simp[PR],dq<|.inr this,rfl⟩
 case h_3=>
  rename_i s l;simp only[PR,DC]at d;obtain⟨u,i,d⟩:=d;obtain rfl:x=u:=ah
  have f:(decide (0<(l:List s.T).length)=true/\v=.bl ng/\st'=st)\/(v=.ub/\st'=st):=by
   generalize decide (0<(l:List s.T).length)=c at a;cases a with
   |tt a=>simp only[Cu]at a;grind
   |ff a=>grind [Cu]
  rcases f with⟨q,rfl,rfl⟩|⟨rfl,rfl⟩
  ·rcases d with⟨rfl,_⟩|⟨b,off,cap,o,k,rfl,_⟩
   ·grind
   ·exact⟨(by simp),false,ah,by simp[PR],ah,rfl⟩
  ·rcases d with⟨rfl,rfl|rfl|rfl⟩|⟨b,off,cap,o,k,rfl,_⟩
   ·exact⟨(by simp),true,yes,by simp[PR],dq<|.inl rfl,rfl⟩
   ·exact⟨(by simp),false,no<|.inl rfl,by simp[PR],ah,rfl⟩
   ·exact⟨(by simp),false,ah,by simp[PR],ah,rfl⟩
   ·exact⟨(by simp),false,ah,by simp[PR],ah,rfl⟩
 case h_4=>
  rename_i s l;simp only[Cu]at a;obtain⟨rfl,rfl⟩:=a;simp only[PR,DC]at d;obtain⟨u,i,d⟩:=d;obtain rfl:x=u:=ah
  rcases d with⟨rfl,rfl⟩|⟨h0,b,off,cap,o,k,rfl,_⟩
  ·exact⟨(by simp),true,yes,by cases ng<;>simp[PR,DC],dq<|.inl rfl,rfl⟩
  ·have m:0<(l:List s.T).length:=ah;exact⟨(by simp),false,ah,by grind [PR,DC],ah,rfl⟩
 case h_5=>simp at a
theorem bX{o:Option Obj}(h:Jr o=true):∃x,o=some x:=by
 cases o with
 |none=>cases h
 |some x=>simp
theorem TE(hr:SR B h0 F ρ st.nx st.ob h){t e:TypeId}{p q:PV}{x y:V}(g:C.T.und t=some (.pointer e))(f:PR F ρ st.nx p x)(k:PR F ρ st.nx q y){r:Bool}(d:ptrEq C.T e st p q=some r):
  BH C.T t x y=some r/\x≠ .nili/\∀op,LZ C.T op t x y=(match op with| .eql=>(BH C.T t x y).map .bool| .neq=>(BH C.T t x y).map fun b=>.bool !b|_=>none):=by
 have live:∀ {id off:Nat} {v:V},PR F ρ st.nx (.ptr id off) v->Jr (st.obj id)=true->∃b n,ρ id=some (b,n)/\v=.ptr b off:=by
  intro id off v A c;obtain⟨o,z⟩:=bX c;obtain⟨b,n,_,h1,_⟩:=hr.at z;grind [PR]
 unfold ptrEq at d;split at d
 case h_5=>cases d
 case h_1=>
  cases d;subst f k;exact⟨by unfold BH;rw[g],(by simp),fun op=>by cases op<;>rfl⟩
 case h_2=>
  rename_i id off;cases c:Jr (st.obj id)with
  |false=>grind
  |true=>
   rw[c]at d;cases d;obtain⟨b,n,_,rfl⟩:=live f c;subst k;exact⟨by unfold BH;rw[g],(by simp),fun op=>by cases op<;>rfl⟩
 case h_3=>
  rename_i id off;cases c:Jr (st.obj id)with
  |false=>grind
  |true=>
   rw[c]at d;cases d;obtain⟨b,n,_,rfl⟩:=live k c;subst f;exact⟨by unfold BH;rw[g],(by simp),fun op=>by cases op<;>rfl⟩
 case h_4=>
  rename_i a i b j;cases c:(ze a b&&Jr (st.obj a))with
  |false=>grind
  |true=>
   rw[c]at d;rw[zc]at c;have m:=zd c.1;subst m;split at d
   case h_2=>cases d
   rename_i w l;cases s:zz 0 w.size with
   |false=>grind
   |true=>
    rw[s]at d;cases d;rw[Nat.blt_eq]at s;obtain⟨b,n,u,rfl⟩:=live f c.2;obtain⟨b',n',g2,rfl⟩:=live k c.2;rw[u]at g2;cases g2;refine⟨?_,(by simp),fun op=>by cases op<;>rfl⟩;unfold BH;rw[g];simp only[wk,l];rw[wd ae];congr 1;rw[Bz,Bool.eq_iff_iff];simp
theorem AhU(hr:SR B h0 F ρ st.nx st.ob h){op:BinOp}{t:TypeId}{w z:Operand}{p q:PV}{x y:V}(f:PR F ρ st.nx p x)(g:PR F ρ st.nx q y){v:PV}(c:(Ae6 C.T op t p q st).To v st'):
  OK B h0 F ρ st h [] (BT h<|Lm C.T op t w z x y) v st':=by
 have n:∀ {x y:V},(∀(e:x=.nili),False)->Lm C.T op t w z x y=LZ C.T op t x y:=by
  simp_all [Lm,AaY]
 unfold Ae6 at c;split at c
 case h_1=>
  rename_i k a J b;obtain rfl:=Db f;obtain rfl:=Db g;rw[n<|by simp];cases i:Abs op with
  |true=>
   rw[i]at c;have:=Ai1 hr c;unfold LZ;grind [Abs]
  |false=>
   rw[i]at c;cases j:(k==J)with
   |false=>simp_all
   |true=>
    rw[j]at c;have:=Aik hr c;have j:=wj.1 j;subst j;unfold LZ;cases op<;>simp only[Abs]at i<;>first|(cases i;done)|(simp only[wk];exact this)
 case h_2=>
  obtain rfl:=Ge f;obtain rfl:=Ge g;grind [Ah8,LZ]
 case h_3=>
  rename_i ps A;obtain⟨m,rfl,f⟩:=f;obtain⟨ys,rfl,g⟩:=g;split at c
  case h_2=>simp at c
  rename_i ks G;have eq:∀ {r:Bool},Iy ks ps A=some r->BH C.T t (.agg m) (.agg ys)=some r:=by
   intro r d;obtain⟨K,M,L⟩:=T3 f g d;simp_all [Q3,BH]
  split at c
  case h_1=>
   rename_i r d;obtain⟨rfl,rfl⟩:=c;exact OK.pure hr (by show BT h ((BH C.T t (.agg m)<|.agg ys).map _)=_;rw[eq d];rfl)<|Ej _
  case h_2=>
   rename_i r d;obtain⟨rfl,rfl⟩:=c;exact OK.pure hr (by show BT h ((BH C.T t (.agg m)<|.agg ys).map _)=_;rw[eq d];rfl) (Ej _)
  simp_all
 case h_4=>
  split at c
  case h_4=>simp at c
  case h_3=>
   split at c
   case h_3=>simp at c
   case h_1=>
    simp only[Cu]at c;grind [TE,OK.pure,BT,Lm,PR,LZ]
   case h_2=>
    simp only[Cu]at c;grind [TE,OK.pure,BT,Lm,PR,LZ]
  case h_2=>
   rename_i e _ _ l;unfold pT at c;split at c
   case h_3=>simp at c
   case h_1=>
    have i:=fC (op:=.eql) hr l f c;obtain⟨s,b,u,I,o,e⟩:=i;subst e;subst g;rw[n s,o];exact OK.pure hr (v':=.bool b) (by simp only[u];rfl) (by simp_all)
   case h_2=>
    have i:=fC (op:=.neq) hr l f c;obtain⟨s,b,u,I,o,e⟩:=i;subst e;subst g;rw[n s,o];exact OK.pure hr (v':=.bool<|!b) (by simp only[u];rfl) (by simp_all)
  rename_i a b D E l;obtain rfl:=IL D f;obtain rfl:=IL E g;have eq:BH C.T t (.bool a) (.bool b)=some (a==b):=by unfold BH;rw[l]
  split at c
  case h_1=>
   obtain⟨rfl,rfl⟩:=c;exact OK.pure hr (by show BT h ((BH C.T t (.bool a)<|.bool b).map _)=_;rw[eq];rfl)<|Ej _
  case h_2=>
   obtain⟨rfl,rfl⟩:=c;exact OK.pure hr (by show BT h ((BH C.T t (.bool a)<|.bool b).map _)=_;rw[eq];rfl) (Ej _)
  simp_all
theorem Ajd(hr:SR B h0 F ρ st.nx st.ob h){op:UnOp}{p:PV}{x:V}(c:PR F ρ st.nx p x){v:PV}(a:(pun op p st).To v st'):OK B h0 F ρ st h [] (BT h<|dun op x) v st':=by
 unfold pun at a;split at a<;>simp only[OA,Cu]at a
 ·obtain⟨rfl,rfl⟩:=a;obtain rfl:=Db c;exact OK.pure hr rfl (D6 _ _)
 ·obtain⟨rfl,rfl⟩:=a;obtain rfl:=SJ c;exact OK.pure hr rfl (vJ _)
 ·obtain⟨rfl,rfl⟩:=a;obtain⟨b,rfl⟩:=c;exact OK.pure hr (v':=.bool<|!b) rfl (by simp[PR])
 ·obtain⟨rfl,rfl⟩:=a;obtain rfl:=MD c;exact OK.pure hr rfl (Ej _)
theorem Af6(hr:SR B h0 F ρ st.nx st.ob h){s d:TypeId}{p:PV}{x:V}(b:PR F ρ st.nx p x){v:PV}(a:(pB C.T s d p st).To v st'):OK B h0 F ρ st h [] (BT h<|GU C.T h s d x) v st':=by
 unfold pB at a;split at a<;>simp only[OA,Cu]at a
 ·obtain⟨rfl,rfl⟩:=a;obtain rfl:=Db b;simp_all [OK.pure,GU,BT,D6]
 ·obtain rfl:=Ge b;simp_all [OK.pure,GU,BT]
theorem AfP(hr:SR B h0 F ρ st.nx st.ob h){c a b:PV}{x y z:V}(g:PR F ρ st.nx c x)(e:PR F ρ st.nx a y)(f:PR F ρ st.nx b z){v:PV}(d:(tF c a b st).To v st'):
  ∃t,x=.bool t/\OK B h0 F ρ st h [] (BT h<|some<|if t then y else z) v st':=by
 unfold tF at d;split at d
 case h_3=>simp at d
 case h_1=>
  rename_i t;obtain⟨rfl,rfl⟩:=d;refine⟨t,SJ g,OK.pure hr rfl ?_⟩;grind
 case h_2=>
  rename_i t;refine⟨t,MD g,?_⟩;split at d
  case h_1=>
   obtain⟨rfl,rfl⟩:=d;obtain rfl:=SJ f;refine OK.pure hr rfl ?_;grind [Ej]
  case h_2=>
   obtain⟨rfl,rfl⟩:=d;obtain rfl:=SJ e;refine OK.pure hr rfl ?_;grind [Ej]
  case h_3=>
   cases d with
   |tt h=>obtain⟨rfl,rfl⟩:=h;exact OK.pure hr rfl e
   |ff h=>obtain⟨rfl,rfl⟩:=h;exact OK.pure hr rfl f
theorem Adg(hr:SR B h0 F ρ st.nx st.ob h){t:TypeId}{p:PV}{x:V}(d:PR F ρ st.nx p x){f:Nat}{v:PV}(a:(ZC C.T t p f st).To v st'):OK B h0 F ρ st h [] (BT h<|Mc C.T t x f) v st':=by
 unfold ZC at a;split at a
 case h_2=>simp at a
 split at a
 case h_2=>simp at a
 rename_i c j;split at a
 case h_2=>simp at a
 simp only[TP]at a;obtain⟨b,rfl⟩:=a;obtain⟨cs,rfl,hps⟩:=d;rw[OQ]at b;have hp:=hps.drop c.offset;rcases SN hp b with⟨g,_,k,i⟩|⟨g,u,l,e,i⟩
 ·simp_all [OK.pure,Mc,MJ,BT]
 ·have:cs[c.offset]?=some u:=by
   have:=wi (·[0]?) e;grind
  simp_all [OK.pure,Mc,MJ,BT]
theorem Aay(hr:SR B h0 F ρ st.nx st.ob h){t:TypeId}{p:PV}{x:V}(k:PR F ρ st.nx p x){f:Nat}{v:PV}(a:(aM C.T t p f st).To v st'):
  OK B h0 F ρ st h [] (BT h<|LD C.T t x f) v st':=by
 have live:∀ {id},Jr (st.obj id)=true->∃b n,ρ id=some (b,n):=by
  intro id l;obtain⟨o,r⟩:=JX l;obtain⟨b,n,_,h1,_⟩:=hr.at r;grind
 unfold aM at a;split at a
 case h_2=>simp at a
 split at a
 case h_2=>simp at a
 rename_i m s;split at a
 case h_2=>simp at a
 rename_i i l;cases q:ze i.size 0 with
 |true=>simp_all
 |false=>
  have u:i.size≠0:=by intro e;simp_all
  rw[q]at a;have c:∀b off,LD C.T t (.ptr b off) f=some (.ptr b<|off+m.offset):=by
   simp_all [LD]
  split at a
  ·rename_i id off;cases g:Jr (st.obj id)with
   |false=>simp_all
   |true=>
   rw[g]at a;obtain⟨rfl,rfl⟩:=a;have d:=k;obtain⟨b,n,h1⟩:=live g;obtain rfl:=d.2 b n h1;refine OK.pure hr (by rw[c];rfl) ?_;grind [PR]
  ·rename_i id sz j off;cases g:Jr (st.obj id)with
   |false=>simp_all
   |true=>
   rw[g]at a;obtain⟨rfl,rfl⟩:=a;have d:=k;obtain⟨b,n,h1⟩:=live g;obtain rfl:=d.2 b n h1;refine OK.pure hr (by rw[c];rfl) ?_;grind [PR]
  ·obtain⟨rfl,rfl⟩:=a;obtain⟨b,o,cs,rfl,h1,h2⟩:=k;refine OK.pure hr (by rw[c];rfl) ?_;grind [PR]
  simp_all
theorem SR.live(hr:SR B h0 F ρ st.nx st.ob h){id:Nat}(c:Jr (st.obj id)=true):∃b n,ρ id=some (b,n):=by
 obtain⟨o,a⟩:=JX c;obtain⟨b,n,_,h1,_⟩:=hr.at a;grind
theorem EV{i:Int}(h:0<=i):∃n:Nat,i=Int.ofNat n/\i.toNat=n:=ah
theorem Eg{a b:Nat}(h:a<b):zz a b=true:=z7 h
theorem zS(hr:SR B h0 F ρ st.nx st.ob h){t:TypeId}{p q:PV}{x y:V}(w:PR F ρ st.nx p x)(K:PR F ρ st.nx q y){v:PV}(a:(U7 C.T t p q st).To v st'):
  OK B h0 F ρ st h [] (BT h<|Gi C.T t x y) v st':=by
 unfold U7 at a;split at a
 case h_3=>simp at a
 case h_2=>
  rename_i L e k i U;obtain rfl:=Db K;split at a
  case h_2=>simp at a
  rename_i f G;split at a
  case h_4=>simp at a
  case h_1=>
   rename_i id off;simp only[PR]at w;split at a
   case h_3=>simp_all
   case h_1=>
    rename_i O te s l I;cases r:(ze off 0&&ze f.size s.sz)with
    |false=>simp_all
    |true=>
     rw[r]at a;rw[zc]at r;have D:=zd r.1;have M:=zd r.2;subst D;simp only[we,Cy,zc,w5]at a;obtain⟨⟨c,d⟩,rfl,rfl⟩:=a;obtain⟨n,rfl,hn⟩:=EV c;obtain⟨b,m,_,z,_⟩:=hr.at I;refine OK.pure hr (v':=.ptr b<|0+n*f.size) ?_ ?_
     ·simp_all [BT,Gi,Eg]
     simp_all [PR]
   case h_2=>
    rename_i o _ I;simp only[Cy,zc,w5]at a;obtain⟨⟨c,d⟩,rfl,rfl⟩:=a;obtain⟨n,rfl,hn⟩:=EV c;obtain⟨b,m,_,z,_⟩:=hr.at I;refine OK.pure hr (v':=.ptr b<|off+n*f.size) ?_ ?_
    ·simp_all [BT,Gi,Eg]
    grind [PR]
  case h_2=>
   rename_i id sz j off;cases E:Jr (st.obj id)with
   |false=>simp_all
   |true=>
    rw[E]at a;simp only[we,Cy,zc,w5]at a;obtain⟨⟨c,d⟩,rfl,rfl⟩:=a;obtain⟨n,rfl,hn⟩:=EV c;obtain⟨b,m,z⟩:=hr.live E;simp only[PR]at w;refine OK.pure hr (v':=.ptr b<|j*sz+off+n*f.size) ?_ ?_
    ·simp_all [BT,Gi,Eg]
    grind [PR]
  case h_3=>
   rename_i s y off;simp only[Cy,zc,w5]at a;obtain⟨⟨c,d⟩,rfl,rfl⟩:=a;obtain⟨n,rfl,hn⟩:=EV c;obtain⟨b,o,cs,rfl,z,J,P⟩:=w;refine OK.pure hr (v':=.ptr b<|o+off+n*f.size) ?_ ?_
   ·simp_all [BT,Gi,Eg]
   grind [PR]
 case h_1=>
 obtain rfl:=Db K;split at a
 case h_2=>simp at a
 rename_i f G;split at a
 case h_3=>simp at a
 case h_1=>
  rename_i s l;cases g:ze f.size s.sz with
  |false=>simp_all
  |true=>
   rw[g]at a;have g:=zd g;simp only[we,Cy,zc,w5]at a;obtain⟨⟨c,d⟩,rfl,rfl⟩:=a;obtain⟨n,rfl,hn⟩:=EV c;have A:n<l.length:=ah
   obtain⟨u,R,w⟩:=w;rcases w with⟨rfl,_⟩|⟨b,off,cap,o,Q,rfl,z,J,P,_,S⟩
   ·grind
   ·refine OK.pure hr (v':=.ptr b<|off+n*f.size) ?_ ?_
    ·simp_all [BT,Gi,Eg]
    ·refine⟨b,off+n*s.sz,Q,by grind,J,?_,?_⟩
     ·have:(n+1)*s.sz<=l.length*s.sz:=zi _ A;grind
     grind
 case h_2=>
  rename_i id sz off len cap;cases g:(ze f.size sz&&Jr (st.obj id))with
  |false=>simp_all
  |true=>
   rw[g]at a;simp only[zc]at g;obtain⟨g,E⟩:=g;have g:=zd g;simp only[we,Cy,zc,w5]at a;obtain⟨⟨c,d⟩,rfl,rfl⟩:=a;obtain⟨n,rfl,hn⟩:=EV c;have A:n<len:=ah
   obtain⟨b,m,z⟩:=hr.live E;rcases w.2 b m z with⟨_,_,o,_,rfl⟩|⟨W,_⟩
   ·refine OK.pure hr (v':=.ptr b<|off*sz+n*f.size) ?_ ?_
    ·simp_all [BT,Gi,Eg]
    grind [PR]
   ·omega
theorem Adf(hr:SR B h0 F ρ st.nx st.ob h){t:TypeId}{p q:PV}{x y:V}(j:PR F ρ st.nx p x)(l:PR F ρ st.nx q y){v:PV}(a:(Zq C.T t p q st).To v st'):
  OK B h0 F ρ st h [] (BT h<|Kb C.T t x y) v st':=by
 unfold Zq at a;split at a
 case h_3=>simp at a
 case h_2=>
  rename_i m e ps k i A;obtain rfl:=Db l;split at a
  case h_2=>simp at a
  rename_i d f E r;simp only[ZL,zc,w5]at a;obtain⟨⟨b,g⟩,c,rfl⟩:=a;obtain⟨n,rfl,hn⟩:=EV b;obtain⟨cs,rfl,hps⟩:=j;rw[OQ,hn]at c;have hp:=hps.drop<|n*f.size;have z:Kb C.T t (.agg cs) (.int k<|Int.ofNat n)=MJ C.T e cs (n*f.size):=by simp_all [Kb,Eg]
  rcases SN hp c with⟨s,_,_,w⟩|⟨s,u,D,o,w⟩
  ·simp_all [OK.pure,MJ,BT]
  ·have:cs[n*f.size]?=some u:=by
    have:=wi (·[0]?) o;grind
   simp_all [OK.pure,MJ,BT]
 case h_1=>
 obtain rfl:=Ge j;obtain rfl:=Db l;simp only[Cy,zc,w5]at a;obtain⟨⟨b,g⟩,rfl,rfl⟩:=a;obtain⟨n,rfl,hn⟩:=EV b;simp_all [OK.pure,BT,Kb,D6]
theorem mD(hr:SR B h0 F ρ st.nx st.ob h){p:PV}{x:V}(c:PR F ρ st.nx p x){i:Nat}{v:PV}(a:(Sg p i st).To v st'):OK B h0 F ρ st h [] (BT h<|Ir x i) v st':=by
 unfold Sg at a;split at a
 case h_2=>simp at a
 split at a
 case h_2=>simp at a
 rename_i q d;simp only[Cu]at a;obtain⟨cs,rfl,b⟩:=c;obtain⟨u,h1,h2⟩:=b.get d;grind [OK.pure,Ir,BT]
def YT(F:Fz)(ρ:EI)(N:Nat):Option PV->Option V->Prop
 |none,x=>x=none
 |some p,x=>∃v,x=some v/\PR F ρ N p v
theorem Ep{o:Option PV}{x:Option V}{d:Nat}{c:Bool}{n:Nat}(a:YT F ρ N o x)(hp:pb o d=some (c,n))(f:c=true){y:Nat}(e:n<=y):Fq x y d=some n:=by
 unfold pb at hp;split at hp
 ·cases hp;subst a;rfl
 ·obtain⟨v,rfl,b⟩:=a;obtain rfl:=Db b;grind [z7,Fq]
 grind
theorem YT.isNone{o:Option PV}{x:Option V}(a:YT F ρ N o x):(o=none↔x=none):=by
 cases o with
 |none=>grind [YT]
 |some p=>simp only[YT]at a;grind
theorem OJ{T:Co}{t e:TypeId}{c:TI}{b off len cap o m a l:Nat}{lo d mx:Option V}(n:T.und t=some (.slice e))(f:T.inf e=some c)(i:Fq mx cap cap=some m)(j:Fq d m len=some a)
  (k:Fq lo a 0=some l) (g:d=none->mx=none):
  Ex T t (.sl b off len cap o) lo d mx=bif ze m l then(bif ze (NO mx o) 0 then some (.sl b off (a-l) (m-l) 0)else some .esl)
   else bif ze (NO mx o) 0||ze (NO mx o) c.size then some (.sl b (off+l*c.size) (a-l) (m-l)<|NO mx o)else none:=by
 simp_all [Ex]
theorem yJ(hr:SR B h0 F ρ st.nx st.ob h){t:TypeId}{p:PV}{x:V}{lo hi mx:Option PV}{a b c:Option V}(K:PR F ρ st.nx p x)(E:YT F ρ st.nx lo a)(k:YT F ρ st.nx hi b)(j:YT F ρ st.nx mx c)
  {v:PV} (d:(UK C.T t p lo hi mx st).To v st'):OK B h0 F ρ st h [] (BT h<|Ex C.T t x a b c) v st':=by
 unfold UK at d;split at d
 case h_3=>simp at d
 case h_1=>
  rename_i hu;split at d
  case h_2=>simp at d
  rename_i s;obtain rfl:=Ge K;split at d
  case h_2=>simp at d
  rename_i c1 l c2 n f g;simp only[Cy,zc,w5]at d;obtain⟨⟨⟨⟨J,D⟩,I⟩,w⟩,rfl,rfl⟩:=d;simp only[YT]at j;subst j;have O:=Ep E f J I;have y:=Ep k g D w;simp_all [OK.pure,Ex,BT,OO]
 case h_2=>
  rename_i e hu;split at d
  case h_2=>simp at d
  rename_i Q M;split at d
  case h_4=>simp at d
  case h_1=>
   rename_i s W;cases A:ze Q.size s.sz with
   |false=>simp_all
   |true=>
    rw[A]at d;have A:=zd A;simp only[we]at d;split at d
    case h_2=>simp at d
    rename_i c1 l c2 n f g;simp only[Cy,zc,w5]at d;obtain⟨⟨⟨⟨J,D⟩,I⟩,w⟩,rfl,rfl⟩:=d;simp only[YT]at j;subst j;have O:=Ep E f J I;simp only[PR,DC]at K;obtain⟨u,hu1,K⟩:=K;obtain rfl:x=u:=ah
    rcases K with⟨rfl,rfl|rfl|rfl⟩|⟨X,off,cap,o,bs,rfl,h1,h2,h3,h5,h4⟩
    ·have y:=Ep k g D w;simp only[qx]at y w;refine OK.pure hr (v':=.nils) (by simp_all [Ex,Fq,sL,BT]) ?_;simp[PR,DC]
    ·have y:=Ep k g D w;simp only[qx]at y w;refine OK.pure hr (v':=.esl) (by simp_all [Ex,Fq,sL,BT,Re]) ?_;simp[PR,DC]
    ·have y:=Ep k g D w;simp only[qx]at y w;refine OK.pure hr (v':=.es0) (by simp_all [Ex,Fq,sL,BT]) ?_;simp[PR,DC]
    ·have y:Fq b cap W.length=some n:=(by grind [Ep]);have r:=OJ (b:=X) (off:=off) (len:=W.length) (cap:=cap) (o:=o) (mx:=none) hu M rfl y O (fun _=>rfl);have L:((W.drop l).take<|Nat.sub n l).length=n-l:=by
      grind
     by_cases hcl:cap=l
     ·have hhl:n=l:=ae
      have R:(W.drop l).take (Nat.sub n l)=[]:=by
       grind
      rw[R];by_cases G:o=0
      ·refine OK.pure hr (v':=.sl X off (n-l) (cap-l) 0) ?_ ?_
       ·have:NO none o=0:=G;rw[r,this,hcl,qw];rfl
       ·simp only[PR,DC];exact⟨_,rfl,.inr ⟨X,off,cap-l,0,bs,by grind,by simp,h2,by grind,.inl rfl,(by simp)⟩⟩
      ·refine OK.pure hr (v':=.esl) ?_ ?_
       ·have h1:ze (NO none o) 0=false:=by rw[Bz];simp[NO,G]
        rw[r,h1,hcl,qw];rfl
       ·simp[PR,DC]
     ·refine OK.pure hr (v':=.sl X (off+l*Q.size) (n-l) (cap-l) o) ?_ ?_
      ·have f:ze cap l=false:=by rw[Bz];grind
       have G:(ze (NO none o) 0||ze (NO none o) Q.size)=true:=by
        rcases h5 with rfl|rfl
        ·rfl
        ·rw[A];show(ze s.sz 0||ze s.sz s.sz)=true;simp
       rw[r,f,G];rfl
      ·simp only[PR,DC];refine⟨_,rfl,.inr ⟨X,off+l*Q.size,cap-l,o,bs,by rw[L],by omega,h2,?_,h5,fun i hi=>?_⟩⟩
       ·rw[L,A];have:(l+(n-l))*s.sz<=W.length*s.sz:=zi _ ae;grind
       grind
  case h_2=>
   rename_i id sz off len cap;cases A:(ze Q.size sz&&Jr (st.obj id))with
   |false=>rw[A]at d;simp at d
   |true=>
    rw[A]at d;simp only[zc]at A;obtain⟨A,hl⟩:=A;have A:=zd A;simp only[we]at d;have hno:¬(hi=none/\mx≠none):=by
     rintro⟨rfl,hm⟩;cases mx with
     |none=>grind
     |some _=>simp at d
    split at d
    case h_1=>grind
    split at d
    case h_2=>simp at d
    rename_i c1 l c2 n c3 m f g P;simp only[Cy,zc,w5]at d;obtain⟨⟨⟨⟨⟨⟨⟨J,D⟩,I⟩,w⟩,k5⟩,k6⟩,k7⟩,rfl,rfl⟩:=d;have O:=Ep E f J w;have e3:=Ep j P I k6;have y:=Ep k g D k5;have S:b=none->c=none:=by
     intro hbn;cases hcc:c with
     |none=>rfl
     |some z=>
      exfalso;apply hno;exact⟨k.isNone.2 hbn,fun e=>by have:=j.isNone.1 e;grind⟩
    obtain⟨Y,n0,h1⟩:=hr.live hl;simp only[PR]at K;rcases K.2 Y n0 h1 with⟨g1,g2,o,g3,rfl⟩|⟨rfl,rfl,g2,g3⟩
    ·have r:=OJ (b:=Y) (off:=off*sz) (len:=len) (cap:=cap.getD len) (o:=o) hu M e3 y O S;have hoz:NO c o=0\/NO c o=sz:=by
      unfold NO;grind
     by_cases Z:m=l
     ·have hhl:n-l=0:=ae
      by_cases G:NO c o=0
      ·refine OK.pure hr (v':=.sl Y (off*sz) (n-l) (m-l) 0) ?_ ?_
       ·rw[r,G,Z,qw];rfl
       ·unfold PR;grind
      ·refine OK.pure hr (v':=.esl) ?_ ?_
       ·have hb0:ze (NO c o) 0=false:=by rw[Bz];simp[G]
        rw[r,hb0,Z,qw];rfl
       ·unfold PR;grind
     ·refine OK.pure hr (v':=.sl Y (off*sz+l*Q.size) (n-l) (m-l)<|NO c o) ?_ ?_
      ·have f:ze m l=false:=by rw[Bz];grind
       have G:(ze (NO c o) 0||ze (NO c o) Q.size)=true:=by
        simp_all
       rw[r,f,G];rfl
      grind [PR,Nat.add_mul]
    ·simp only[Option.getD_some]at k6 k7 e3;obtain rfl:m=0:=ae
     obtain rfl:n=0:=ae
     obtain rfl:l=0:=ae
     have hc:c=none:=by
      cases mx with
      |none=>exact j
      |some _=>simp[has]at k7
     subst hc;rcases g3 with rfl|⟨U,rfl,g4⟩
     ·refine OK.pure hr (v':=.esl) (by simp_all [Ex,sL,BT,Re]) ?_;simp_all [PR]
     ·refine OK.pure hr (v':=.sl Y U 0 0 0) ?_ ?_
      ·rw[OJ (mx:=none) hu M rfl y O (fun _=>rfl)];rfl
      simp_all [PR]
  case h_3=>
   split at d
   case h_3=>simp at d
   case h_2=>
    rename_i c1 l c2 n q f g;split at d
    case h_2=>simp at d
    rename_i p' c3 m P;simp only[Cy,zc,w5]at d;obtain⟨⟨⟨⟨⟨⟨J,D⟩,k5⟩,I⟩,w⟩,k6⟩,rfl,rfl⟩:=d;have O:=Ep E f J I;have y:=Ep k g D ae;have e3:=Ep j P k5 k6;simp only[PR]at K;cases b with
    |none=>simp[YT]at k
    |some b=>exact OK.pure hr (v':=.nils) (by simp_all [Ex,sL,BT]) (by simp[PR])
   rename_i c1 l c2 n f g;simp only[Cy,zc,w5]at d;obtain⟨⟨⟨⟨J,D⟩,I⟩,w⟩,rfl,rfl⟩:=d;simp only[YT]at j;have O:=Ep E f J I;have y:=Ep k g D w;simp only[PR]at K;exact OK.pure hr (v':=.nils) (by simp_all [Ex,Fq,sL,BT]) (by simp[PR])
theorem AbI(hr:SR B h0 F ρ st.nx st.ob h){t:TypeId}{p q:PV}{x y:V}(b:PR F ρ st.nx p x)(c:PR F ρ st.nx q y){v:PV}(a:(sE C.T t p q st).To v st'):
  OK B h0 F ρ st h [] (BT h<|Gi C.T t x y) v st':=zS hr b.lz c a
theorem AcT(hr:SR B h0 F ρ st.nx st.ob h){t:TypeId}{p:PV}{x:V}{lo g mx:Option PV}{a b c:Option V}(j:PR F ρ st.nx p x)(f:YT F ρ st.nx lo a)(d:YT F ρ st.nx g b)(e:YT F ρ st.nx mx c)
  {v:PV} (i:(pR C.T t p lo g mx st).To v st'):OK B h0 F ρ st h [] (BT h<|Ex C.T t x a b c) v st':=yJ hr j.lz f d e i
theorem MR.len{ks vs:Sh}{l:List (ks.T×vs.T)}{es:List (V×V×Nat)}(h:MR F ks vs l es):l.length=es.length:=by
 induction h with
 |nil=>rfl
 |cons _ _ _ a=>simp[a]
theorem Ae3(hr:SR B h0 F ρ st.nx st.ob h){ts:Array TypeId}{ps:List PV}{g:List V}(e:Ca F ρ st.nx ps g){v:PV}(c:(Yl C.T ts ps st).To v st'):OK B h0 F ρ st h [] (BT h<|Ha C.T h ts g) v st':=by
 unfold Yl at c;split at c
 case h_2=>simp at c
 rename_i t p a;obtain⟨x,j,rfl,e,rfl⟩:=e;split at c
 case h_6=>simp at c
 case h_1=>
  rename_i s d;obtain⟨rfl,rfl⟩:=c;obtain rfl:=Ge e;exact OK.pure hr (by simp only[Ha,a,d,BT];rfl)<|D6 _ _
 case h_2=>
  rename_i s l d;obtain⟨rfl,rfl⟩:=c;obtain⟨u,hu1,e⟩:=e;obtain rfl:x=u:=ah
  rcases e with⟨rfl,rfl|rfl|rfl⟩|⟨b,off,cap,o,k,rfl,_⟩
  ·exact OK.pure hr (by simp only[Ha,a,d,BT];rfl)<|D6 _ _
  ·exact OK.pure hr (by simp only[Ha,a,d,BT];rfl)<|D6 _ _
  ·exact OK.pure hr (by simp only[Ha,a,d,BT];rfl)<|D6 _ _
  ·exact OK.pure hr (by simp only[Ha,a,d,BT];rfl)<|D6 _ _
 case h_3=>
  rename_i id sz off len cap d;cases f:Jr (st.obj id)with
  |false=>simp_all
  |true=>
   rw[f]at c;obtain⟨rfl,rfl⟩:=c;obtain⟨b,n,h1⟩:=hr.live f;rcases e.2 b n h1 with⟨_,_,o,_,rfl⟩|⟨rfl,_,_,rfl|⟨_,rfl,_⟩⟩
   ·exact OK.pure hr (by simp only[Ha,a,d,BT];rfl)<|D6 _ _
   ·exact OK.pure hr (by simp only[Ha,a,d,BT];rfl)<|D6 _ _
   ·exact OK.pure hr (by simp only[Ha,a,d,BT];rfl)<|D6 _ _
 case h_4=>
  rename_i d;obtain⟨rfl,rfl⟩:=c;subst e;exact OK.pure hr (by simp only[Ha,a,d,BT];rfl)<|D6 _ _
 case h_5=>
  split at c
  case h_2=>simp at c
  rename_i ks vs l i;obtain⟨rfl,rfl⟩:=c;obtain⟨b,n,y,h1,h2,⟨es,clk,rfl,h3⟩,_⟩:=hr.at i;simp only[PR]at e;have f:l.length=es.length:=h3.len;refine OK.pure hr (v':=i64 es.length) (by simp_all [Ha,BT]) ?_;rw[<-f];rfl
theorem AhH(hr:SR B h0 F ρ st.nx st.ob h){ts:Array TypeId}{ps:List PV}{a:List V}(c:Ca F ρ st.nx ps a){v:PV}(b:(Aam C.T ts ps st).To v st'):OK B h0 F ρ st h [] (BT h<|Ha C.T h ts a) v st':=Ae3 hr c.lz b
theorem Aii(hr:SR B h0 F ρ st.nx st.ob h){f:Int->Int->Int}{g:V->V->Option V}(o:∀k x y,g (.int k x) (.int k y)=some (.int k<|f x y)){ps:List PV}{a:List V}(c:Ca F ρ st.nx ps a){v:PV}
  (b:(PZ f ps st).To v st'):OK B h0 F ρ st h [] (BT h<|HB g a) v st':=by
 have key:∀(ps:List PV) (a:List V) (k:IntKind) (x z:Int),Ca F ρ st.nx ps a->pmm f k x ps=some z->dfold g (.int k x) a=some (.int k z):=by
  intro ps;induction ps with
  |nil=>grind [pmm,Ca,dfold]
  |cons p ps q=>
   intro a k x z c i;obtain⟨u,l,rfl,d,m⟩:=c;unfold pmm at i;split at i
   case h_1=>grind
   case h_2=>
    rename_i e;cases e;rename_i j y;cases n:(k==j)with
    |false=>grind
    |true=>
     obtain rfl:=Db d;grind [dfold]
   grind
 unfold PZ at b;split at b
 case h_2=>simp at b
 split at b
 case h_2=>simp at b
 simp only[Cu]at b;obtain⟨u,l,rfl,d,m⟩:=c;obtain rfl:=Db d;grind [OK.pure,HB,BT,D6]
theorem OK.new(hr:SR B h0 F ρ st.nx st.ob h){o:Obj}{x:O}{n:Nat}(a:o.frozen=false)(c:ZP F (BG ρ st.nx<|some (h.nx,n)) (st.nx+1) n o x){v:PV}{v':V}
  (d:PR F (BG ρ st.nx<|some (h.nx,n)) (st.nx+1) v v'):OK B h0 F ρ st h [] (Gm<|some (v',h.push x)) v (st.push o):=by
 refine⟨v',h.push x,F,_,.inl rfl,d,hr.push a c,Le.new _,rfl,rfl,Nat.le_succ _,fun b e=>.inl ?_⟩;rw[H.C2,wc ae]
theorem M5{n:Nat}:PR F (BG ρ N<|some (h.nx,n)) (N+1) (.ptr N 0) (.ptr h.nx 0):=by
 simp_all [PR,BG]
theorem AfR{F:Fz}:∀ {s:Sh} {v:V},isZ s v=true->DC F s s.IP [v]
 | .bool,.bool b,h=>by
  grind [isZ,DC,Sh.IP]
 | .int k,.int a n,h=>by
  simp_all [isZ,DC,Sh.IP]
theorem Abn{T:Co}{t:TypeId}{s:Sh}{n:Nat}(h:AeO T t=some (s,n)):∃i,T.inf t=some i/\n=i.zero.length/\(∀v∈i.zero,isZ s v=true)/\s.sz=1:=by
 unfold AeO at h;split at h
 case h_2=>cases h
 rename_i i e d;split at h
 case h_2=>cases h
 rename_i c a;cases b:(zq 32 (Det.Fb i.zero)&&Det.Np (isZ c) i.zero)with
 |false=>grind
 |true=>
  rw[b]at h;cases h;rw[zc,GC]at b;refine⟨i,d,DF ..,ah,?_⟩;unfold zsh at a;split at a<;>first|(cases a;rfl)|cases a
theorem Aco(hr:SR B h0 F ρ st.nx st.ob h){t:TypeId}{v:PV}(c:(Ux t C.T st).To v st'):OK B h0 F ρ st h [] (Gm<|HM C.T h t) v st':=by
 unfold Ux sY at c;split at c
 case h_1=>
  rename_i s n f;obtain⟨rfl,rfl⟩:=c;obtain⟨i,e,rfl,hall,hs⟩:=Abn f;have:HM C.T h t=some (.ptr h.nx 0,h.push<|.cells i.zero t (0,0)):=by simp[HM,e,JB]
  rw[this];refine OK.new hr (o:=.arr false t s<|q9 i.zero.length s.IP) (n:=i.zero.length) rfl ⟨_,_,rfl,⟨by grind,fun j g=>?_⟩,zj _,(by simp)⟩ M5;have d:j<i.zero.length:=ah
  have:=hall i.zero[j] (by simp);rw[List.getElem_replicate,hs,qz,List.drop_eq_getElem_cons d];exact AfR this
 split at c
 case h_2=>simp_all
 rename_i cs a;rw[Option.bind_eq_some_iff]at a;obtain⟨i,e,a⟩:=a;cases b:Np V.ok i.zero with
 |false=>grind
 |true=>
 rw[b]at a;cases a;rw[GC]at b;obtain⟨rfl,rfl⟩:=c;have:HM C.T h t=some (.ptr h.nx 0,h.push<|.cells i.zero t (0,0)):=by simp[HM,e,JB]
 rw[this];cases AdK C.T t with
 |true=>exact OK.new hr (o:=.tbox t<|i.zero.map Y0) (n:=0) rfl ⟨_,_,rfl,EU _,zj _,ah⟩ M5
 |false=>exact OK.new hr (o:=.box<|i.zero.map Y0) (n:=0) rfl ⟨_,_,_,rfl,EU _,zj _,ah⟩ M5
theorem AhZ(hr:SR B h0 F ρ st.nx st.ob h){t:TypeId}{p:PV}{x:V}(b:PR F ρ st.nx p x){cs:List PV}(a:pcs st p=some cs)(d:cs.all (MT st)=true):OK B h0 F ρ st h [] (Gm<|some<|kF h t x) (.ptr st.nx 0) (st.push<|.box cs):=
 OK.new hr (o:=.box cs) (n:=0) rfl ⟨_,_,_,rfl,(P5 hr b a).mono<|Le.new _,zj _,fun u c=>V.OH<|List.all_eq_true.1 (by grind [L0,P5]) u c⟩ M5
theorem KJ(hr:SR B h0 F ρ st.nx st.ob h){place:Nat->Option (Nat×Nat)}:∀ {l:List (Nat×PV)} {l':List (Nat×V)},PRn F ρ st.nx l l'->∀ {cs:List PV} {b:List V},Ca F ρ st.nx cs b->∀ {out:List PV},T6 st place cs l=some out->
  ∃e,JC place b l'=some e/\Ca F ρ st.nx out e:=by
 intro l l' j;induction j with
 |nil=>intro cs b c out a;cases a;exact⟨b,rfl,c⟩
 |@cons i p v l l' hp _ m=>
  intro cs b c out a;unfold T6 at a;unfold JC;split at a
  case h_1=>cases a
  rename_i off size g;split at a
  case h_2=>cases a
  rename_i vs d;cases k:(ze (Det.Fb vs) size&&zq (yk off size) (Det.Fb cs))with
  |false=>grind
  |true=>
   have f:=P5 hr hp d;rw[DF,DF,f.len,c.len]at k;have:=f.CR off c;grind [KN]
theorem AcE(hr:SR B h0 F ρ st.nx st.ob h){t:TypeId}{l:List (Nat×PV)}{l':List (Nat×V)}(c:PRn F ρ st.nx l l'){v:PV}(d:(ov st<|aO C.T st t l).To v st'):OK B h0 F ρ st h [] (BT h<|LI C.T t l') v st':=by
 simp only[TP]at d;obtain⟨a,rfl⟩:=d;unfold aO at a;split at a
 case h_3=>cases a
 case h_1=>
  rename_i i fs g f;split at a
  case h_2=>cases a
  rw[zf]at a;obtain⟨out,b,rfl⟩:=a;obtain⟨ys,g1,g2⟩:=KJ hr c (EU i.zero) b;exact OK.pure hr (v':=.agg ys) (by grind [LI,BT]) (by simp_all [PR])
 case h_2=>
  rename_i i j e g f;split at a
  case h_2=>cases a
  rw[zf]at a;obtain⟨out,b,rfl⟩:=a;obtain⟨ys,g1,g2⟩:=KJ hr c (EU i.zero) b;exact OK.pure hr (v':=.agg ys) (by grind [LI,BT]) (by simp_all [PR])
theorem LW(z:List V):∀n,Ca F ρ N (RH (z.map Y0) n)<|(q9 n z).flatten
 |0=>by rfl
 |n+1=>by
  exact(EU z).append<|LW z n
theorem IK(z:List V):∀n,Gq z (n*z.length)=(q9 n z).flatten:=by
 intro n;apply z6;intro i;unfold Gq;by_cases b:z.length=0
 ·simp_all
 ·induction n generalizing i with
  |zero=>simp
  |succ n a=>
   rw[List.replicate_succ,List.flatten_cons];by_cases c:i<z.length
   ·grind [Nat.mod_eq_of_lt]
   ·rw[List.getElem?_append_right ae, <-a (i-z.length)];grind [Nat.mod_eq_sub_mod]
theorem Sr{sz n:Nat}{o:Nat}(a:o=0\/o=sz):PR F (BG ρ N<|some (h.nx,n)) (N+1) (.sl N sz 0 n none) (.sl h.nx 0 n n o):=by
 simp_all [PR,BG]
theorem N1{place:Nat->Option (Nat×Nat)}:∀ {l:List (Nat×V)} {a b:List V},JC place a l=some b->b.length=a.length
 |[],a,b,h=>by cases h;rfl
 |(i,v)::l,a,b,h=>by
  unfold JC at h;split at h
  ·cases h
  ·rename_i off size _;cases c:(ze v.cells.length size&&zq (off+size) a.length)with
   |false=>grind
   |true=>
    rw[c]at h;rw[N1 h,JQ]
end
end Go.Pe
