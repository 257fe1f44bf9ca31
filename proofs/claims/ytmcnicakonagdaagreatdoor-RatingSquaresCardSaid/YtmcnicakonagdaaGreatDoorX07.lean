import Derived.Test.YtmcnicakonagdaaGreatDoorX06
import Derived.Test.YtmcnicakonagdaaGreatDoorX04
import Derived.Test.YtmcnicakonagdaaGreatDoorX05
import Derived.Shelf.Strings.OnBuilder
import Derived.Shelf.Strconv.Itoa3
import Derived.Lib.LaidTab
import Derived.Shelf.Strings.Repeat
import Derived.Lib.AppendIntMem
/- A part of a proof (no law is stated here). Made by program out of texts by AI agents. -/
noncomputable section
set_option maxRecDepth 100000
open Nat renaming eq_of_beq_eq_true -> zc, le_of_ble_eq_true -> zf, beq -> zg, lt_of_lt_of_le -> zl, mul_le_mul_right -> zu, ble -> zw, succ_mul -> zx, le_refl -> z6, blt -> ya, add -> yk, mul_one -> qf
open List renaming mem_singleton -> zd, getElem?_eq_none -> zi, getElem?_take_of_lt -> zj, mem_of_mem_drop -> zm, take_of_length_le -> zn, getElem?_drop -> zo, mem_of_mem_take -> zt, length_append -> yx, drop_take -> yy, ext_getElem? -> qg, all_eq_true -> qt
open Bool renaming and_eq_true -> ze
open Option.some renaming injEq -> zh
open Go.Proofs.Tryz renaming prog -> zk, underlying306 -> zy, underlying5 -> z7, underlying9 -> z8, underlying253 -> yb, underlying242 -> yc, underlying271 -> yd, underlying215 -> ye, underlying20 -> yf, zeroValue253 -> yg, zeroValue242 -> yh, zeroValue271 -> yi, zeroValue215 -> yj, underlying0 -> yn, underlying3 -> yo, underlying4 -> yp, underlying5 -> yq, underlying9 -> yr, zeroValue20 -> yt, underlying215 -> yv, underlying253 -> yw, zeroValue0 -> yz, zeroValue3 -> y7, zeroValue4 -> y8, zeroValue5 -> y9, zeroValue9 -> qc, zeroValue215 -> qd, sizeOf253 -> qh, sizeOf242 -> qi, sizeOf271 -> qj, sizeOf215 -> qk, sizeOf20 -> ql, isAgg253 -> qm, isAgg242 -> qn, isAgg271 -> qo, isAgg215 -> qp, sizeOf0 -> qu, sizeOf3 -> qv, sizeOf4 -> qw, sizeOf5 -> qx, sizeOf9 -> qy, isAgg20 -> qz
open Option renaming map_eq_some_iff -> zp
open Go.Lib renaming decDigits -> zq, nDigits -> zz, zeros24 -> qe
open Array renaming size_replicate -> zr, getElem?_append_left -> yu, toList_inj -> qq
open Go.Det.V renaming ok -> q9
open Go.Value renaming int -> jc
open Go.Det renaming Cv -> je
namespace Go.Det
section
open Go.Proofs.Tryz (prog)
def A7:CG:=[(8,[],.bool true)]
theorem vA:AX C72 1000 A7=true:=by kernel_rfl
theorem spA:KZ prog (Kb A7):=XI vC Z1 Td vA
end
open Go.Proofs
def Gv:Go.Shelf.Ren:=⟨fun|171=>220|243=>254|246=>279|283=>280|284=>281|285=>282|286=>283|129=>244|317=>293|318=>294|319=>295|320=>296|337=>300|338=>301|n=>n,fun|3=>3|9=>9|2=>2|4=>4|171=>306|0=>0|53=>215|37=>253|5=>5|173=>308|212=>322|51=>271|20=>20|213=>323|46=>242|232=>329|233=>330|n=>n,fun|17=>5|18=>8|19=>9|n=>n⟩
theorem Hp:Go.Proofs.LaysM.n171 Go.Proofs.Tryz.prog Gv:=
  { mixed:=by kernel_rfl,f129:=Go.Proofs.Tryz.func244.trans (wi some (by kernel_rfl)),f171:=Go.Proofs.Tryz.func220.trans (wi some (by kernel_rfl)),f243:=Go.Proofs.Tryz.func254.trans (wi some (by kernel_rfl)),f246:=Go.Proofs.Tryz.func279.trans (wi some (by kernel_rfl)),f283:=Go.Proofs.Tryz.func280.trans (wi some (by kernel_rfl)),f284:=Go.Proofs.Tryz.func281.trans (wi some (by kernel_rfl)),f285:=Go.Proofs.Tryz.func282.trans (wi some (by kernel_rfl)),f286:=Go.Proofs.Tryz.func283.trans (wi some (by kernel_rfl)),f317:=Go.Proofs.Tryz.func293.trans (wi some (by kernel_rfl)),f318:=Go.Proofs.Tryz.func294.trans (wi some (by kernel_rfl)),f319:=Go.Proofs.Tryz.func295.trans (wi some (by kernel_rfl)),f320:=Go.Proofs.Tryz.func296.trans (wi some (by kernel_rfl)),f337:=Go.Proofs.Tryz.func300.trans (wi some (by kernel_rfl)),f338:=Go.Proofs.Tryz.func301.trans (wi some (by kernel_rfl)),t0:=yn,a0:=Go.Proofs.Tryz.isAgg0,z0:=qu,v0:=yz,t2:=Go.Proofs.Tryz.underlying2,a2:=Go.Proofs.Tryz.isAgg2,z2:=Go.Proofs.Tryz.sizeOf2,v2:=Go.Proofs.Tryz.zeroValue2,t3:=yo,a3:=Go.Proofs.Tryz.isAgg3,z3:=qv,v3:=y7,t4:=yp,a4:=Go.Proofs.Tryz.isAgg4,z4:=qw,v4:=y8,t5:=yq,a5:=Go.Proofs.Tryz.isAgg5,z5:=qx,v5:=y9,t9:=yr,a9:=Go.Proofs.Tryz.isAgg9,z9:=qy,v9:=qc,t20:=yf,a20:=qz,z20:=ql,v20:=yt,t37:=yb,a37:=qm,z37:=qh,v37:=yg,t46:=yc,a46:=qn,z46:=qi,v46:=yh,t51:=yd,a51:=qo,z51:=qj,v51:=yi,t53:=ye,a53:=qp,z53:=qk,v53:=yj,t171:=Go.Proofs.Tryz.underlying306,a171:=Go.Proofs.Tryz.isAgg306,z171:=Go.Proofs.Tryz.sizeOf306,v171:=Go.Proofs.Tryz.zeroValue306,t173:=Go.Proofs.Tryz.underlying308,a173:=Go.Proofs.Tryz.isAgg308,z173:=Go.Proofs.Tryz.sizeOf308,v173:=Go.Proofs.Tryz.zeroValue308,t212:=Go.Proofs.Tryz.underlying322,a212:=Go.Proofs.Tryz.isAgg322,z212:=Go.Proofs.Tryz.sizeOf322,v212:=Go.Proofs.Tryz.zeroValue322,t213:=Go.Proofs.Tryz.underlying323,a213:=Go.Proofs.Tryz.isAgg323,z213:=Go.Proofs.Tryz.sizeOf323,t232:=Go.Proofs.Tryz.underlying329,a232:=Go.Proofs.Tryz.isAgg329,z232:=Go.Proofs.Tryz.sizeOf329,v232:=Go.Proofs.Tryz.zeroValue329,t233:=Go.Proofs.Tryz.underlying330,a233:=Go.Proofs.Tryz.isAgg330,z233:=Go.Proofs.Tryz.sizeOf330,v233:=Go.Proofs.Tryz.zeroValue330,g17:=by kernel_rfl,g18:=by kernel_rfl,g19:=by kernel_rfl,i0:=by kernel_rfl,i2:=by kernel_rfl,i3:=by kernel_rfl,i4:=by kernel_rfl,i5:=by kernel_rfl,i9:=by kernel_rfl,i20:=by kernel_rfl,i37:=by kernel_rfl,i46:=by kernel_rfl,i51:=by kernel_rfl,i53:=by kernel_rfl,i171:=by kernel_rfl,i173:=by kernel_rfl,i212:=by kernel_rfl,i232:=by kernel_rfl,i233:=by kernel_rfl,m17:=by kernel_rfl,m18:=by kernel_rfl,m19:=by kernel_rfl }
open Go.Proofs.Tryz (prog)
theorem Xb(s:List UInt8):(bytesOf s).data.toList=s:=by simp[bytesOf]
def wC:List V->List Int->Bool
 |[],[]=>true
 | .int .u64 n::l,m::r=>bif decide (n=m)then wC l r else false
 |_,_=>false
theorem XE{p:Pl}:∀ {cs:List V} {r:List Int} {vs:List Value},wC cs r=true->As p cs vs->vs=r.map fun z=>jc .u64 z
 |[],[],vs,_,h=>by simpa using h
 | .int .u64 n::l,m::r,vs,he,h=>by
  unfold wC at he;cases hd:decide (n=m)with
  |false=>rw[hd]at he;cases he
  |true=>
   rw[hd]at he;have e:=w6 hd;subst e;cases vs with
   |nil=>simp at h
   |cons v vs=>
    simp only[Bg,Ac]at h;rw[h.1,XE he h.2];rfl
def RK(h:H):Bool:=match h.get 5 with
 |some (.cells cs _ _)=>wC cs Lib.pow10Tab
 |_=>false
def Ym:List V->H->Option (V×H)
 |[.int .i64 n],h=>bif RK h&&decide (-9223372036854775808<=n)&&decide (n<=9223372036854775807)then some (.str (Lib.itoa n),h)else none
 |_,_=>none
def dG:W6:=fun f=>bif zg f 220 then some Ym else none
theorem kE:∀ {cs:List V} {r:List Int},wC cs r=true->cs.length=r.length/\∀d∈cs,d.ok=true
 |[],[],_=>⟨rfl,fun d hd=>by cases hd⟩
 | .int .u64 n::l,m::r,he=>by
  unfold wC at he;cases hd:decide (n=m)with
  |false=>rw[hd]at he;cases he
  |true=>
   rw[hd]at he;obtain⟨h1,h2⟩:=kE (cs:=l) (r:=r) he;refine⟨by simp[h1],fun d hd=>?_⟩;rcases List.mem_cons.1 hd with rfl|hd
   ·rfl
   ·exact h2 d hd
theorem vD : prog.globalNamed "internal/strconv.uint64pow10" = some 5 := by kernel_rfl
theorem at5{p:Pl}(hg:Gp p):p[5]?=some (5,20):=hg _ (List.mem_cons_self ..)
theorem Yw {p : Pl} {h : H} {w : World} (hr : R p h w) (hg : Gp p) (ht : RK h = true) : Lib.TabIs prog w "internal/strconv.uint64pow10" .u64 Lib.pow10Tab := by
 unfold RK at ht;split at ht
 case h_2=>cases ht
 rename_i cs t fz hb;obtain⟨r,n,x,h1,h2,c,fz',rfl,h4,h5,h6,_⟩:=hr.obj 5 _ hb;rw[at5 hg]at h1;cases h1;obtain⟨e1,e2⟩:=kE ht;have hl:cs.length=20:=e1.trans rfl;have htk:c.toList.take cs.length=c.toList:=zn (by simp;omega);rw[htk]at h6;have hv:=XE ht (h6.NK e2);unfold Lib.TabIs World.var?;rw[vD];show(match w.heap[5]? with
  |some (.cells cs _ _)=>some cs
  |_=>none)=_
 rw[h2];show some c=_;rw[<-hv]
theorem cG:KZ prog dG:=by
 intro f q hq p h w args args' v h' hr hg ha hd;unfold dG at hq;cases hf:zg f 220 with
 |false=>rw[hf]at hq;cases hq
 |true=>
  rw[hf]at hq;cases hq;cases zc hf;unfold Ym at hd;split at hd
  case h_2=>cases hd
  rename_i n;cases hb:(RK h&&decide (-9223372036854775808<=n)&&decide (n<=9223372036854775807))with
  |false=>rw[hb]at hd;cases hd
  |true=>
   rw[hb]at hd;cases hd;rw[ze,ze,w5,w5]at hb;obtain⟨x,hl,h1⟩:=ha.one;have:args'= #[x]:=qq.1 hl;subst this;simp only[Ac]at h1;subst h1;refine(Any.strconv_Itoa Hp n hb.1.2 hb.2 w (Yw hr hg hb.1.1)).mono ?_;rintro e w' ⟨rfl,k,os,rfl⟩;exact⟨_,p,rfl,by simp only[Ac];rfl,Mn hr ⟨rfl,rfl,rfl,by show w.heap.size<=(w.heap++os).size;rw[Array.size_append];omega,fun j hj=>by show(w.heap++os)[j]?=_;exact yu hj⟩⟩
end Go.Det
namespace Go.Det
open Go.Proofs
def JL:Go.Shelf.Ren:=⟨fun|105=>223|212=>260|99=>182|165=>261|166=>224|170=>262|169=>225|263=>284|264=>187|206=>213|240=>263|241=>285|276=>286|277=>297|n=>n,fun|9=>9|3=>3|4=>4|20=>20|0=>0|46=>242|109=>283|5=>5|72=>255|76=>213|51=>271|146=>297|53=>215|148=>216|70=>252|37=>253|75=>212|127=>286|164=>311|80=>224|n=>n,fun|n=>n⟩
theorem Y1:Go.Proofs.Lays.n105 Go.Proofs.Tryz.prog JL:=
  { mixed:=by kernel_rfl,f99:=Go.Proofs.Tryz.func182.trans (wi some (by kernel_rfl)),f105:=Go.Proofs.Tryz.func223.trans (wi some (by kernel_rfl)),f165:=Go.Proofs.Tryz.func261.trans (wi some (by kernel_rfl)),f166:=Go.Proofs.Tryz.func224.trans (wi some (by kernel_rfl)),f169:=Go.Proofs.Tryz.func225.trans (wi some (by kernel_rfl)),f170:=Go.Proofs.Tryz.func262.trans (wi some (by kernel_rfl)),f206:=Go.Proofs.Tryz.func213.trans (wi some (by kernel_rfl)),f212:=Go.Proofs.Tryz.func260.trans (wi some (by kernel_rfl)),f240:=Go.Proofs.Tryz.func263.trans (wi some (by kernel_rfl)),f241:=Go.Proofs.Tryz.func285.trans (wi some (by kernel_rfl)),f263:=Go.Proofs.Tryz.func284.trans (wi some (by kernel_rfl)),f264:=Go.Proofs.Tryz.func187.trans (wi some (by kernel_rfl)),f276:=Go.Proofs.Tryz.func286.trans (wi some (by kernel_rfl)),f277:=Go.Proofs.Tryz.func297.trans (wi some (by kernel_rfl)),t0:=yn,a0:=Go.Proofs.Tryz.isAgg0,z0:=qu,v0:=yz,t3:=yo,a3:=Go.Proofs.Tryz.isAgg3,z3:=qv,v3:=y7,t4:=yp,a4:=Go.Proofs.Tryz.isAgg4,z4:=qw,v4:=y8,t5:=yq,a5:=Go.Proofs.Tryz.isAgg5,z5:=qx,v5:=y9,t9:=yr,a9:=Go.Proofs.Tryz.isAgg9,z9:=qy,v9:=qc,t20:=yf,a20:=qz,z20:=ql,v20:=yt,t37:=yb,a37:=qm,z37:=qh,v37:=yg,t46:=yc,a46:=qn,z46:=qi,v46:=yh,t51:=yd,a51:=qo,z51:=qj,v51:=yi,t53:=ye,a53:=qp,z53:=qk,v53:=yj,t70:=Go.Proofs.Tryz.underlying252,a70:=Go.Proofs.Tryz.isAgg252,z70:=Go.Proofs.Tryz.sizeOf252,v70:=Go.Proofs.Tryz.zeroValue252,t72:=Go.Proofs.Tryz.underlying255,a72:=Go.Proofs.Tryz.isAgg255,z72:=Go.Proofs.Tryz.sizeOf255,v72:=Go.Proofs.Tryz.zeroValue255,t75:=Go.Proofs.Tryz.underlying212,a75:=Go.Proofs.Tryz.isAgg212,z75:=Go.Proofs.Tryz.sizeOf212,v75:=Go.Proofs.Tryz.zeroValue212,t76:=Go.Proofs.Tryz.underlying213,a76:=Go.Proofs.Tryz.isAgg213,z76:=Go.Proofs.Tryz.sizeOf213,v76:=Go.Proofs.Tryz.zeroValue213,t109:=Go.Proofs.Tryz.underlying283,a109:=Go.Proofs.Tryz.isAgg283,z109:=Go.Proofs.Tryz.sizeOf283,v109:=Go.Proofs.Tryz.zeroValue283,t127:=Go.Proofs.Tryz.underlying286,a127:=Go.Proofs.Tryz.isAgg286,z127:=Go.Proofs.Tryz.sizeOf286,v127:=Go.Proofs.Tryz.zeroValue286,t146:=Go.Proofs.Tryz.underlying297,a146:=Go.Proofs.Tryz.isAgg297,z146:=Go.Proofs.Tryz.sizeOf297,v146:=Go.Proofs.Tryz.zeroValue297,t148:=Go.Proofs.Tryz.underlying216,a148:=Go.Proofs.Tryz.isAgg216,z148:=Go.Proofs.Tryz.sizeOf216,v148:=Go.Proofs.Tryz.zeroValue216,t164:=Go.Proofs.Tryz.underlying311,a164:=Go.Proofs.Tryz.isAgg311,z164:=Go.Proofs.Tryz.sizeOf311,v164:=Go.Proofs.Tryz.zeroValue311 }
theorem nF:Builder.Extra zk JL:=
  { sizeBuilder:=by kernel_rfl,liesBuilder:=by kernel_rfl,t5:=z7,a5:=Tryz.isAgg5,z5:=Tryz.sizeOf5,v5:=Tryz.zeroValue5,infoByte:=by kernel_rfl,cellsByte:=by kernel_rfl,sizeByte:=by kernel_rfl,neB5:=by decide }
open Go.Proofs.Tryz (prog)
def Si:List V->H->Option (V×H)
  |[.str s,.int .i64 (.ofNat c)],h=>bif zw c 9223372036854775807&&zw (Ez s*c) 140737488355328 then some (.str (Lib.repeatL s c),h)else none
  |_,_=>none
def S2:W6:=fun f=>bif zg f 223 then some Si else none
theorem Wl:KZ prog S2:=by
  intro f q hq p h w args args' v h' hr hg ha hd
  unfold S2 at hq
  cases hf:zg f 223 with
  |false=>rw[hf]at hq;cases hq
  |true=>
    rw[hf]at hq;cases hq
    cases zc hf
    unfold Si at hd
    split at hd
    case h_2=>cases hd
    rename_i s c
    cases hb:(zw c 9223372036854775807&&zw (Ez s*c) 140737488355328)with
    |false=>rw[hb]at hd;cases hd
    |true=>
      rw[hb]at hd;cases hd
      rw[ze]at hb
      have h1:=zf hb.1
      have h2:=zf hb.2
      rw[CZ]at h2
      obtain⟨x,y,hl,g1,g2⟩:=ha.two
      have:args'= #[x,y]:=qq.1 hl
      subst this
      simp only[Ac]at g1 g2;subst g1 g2
      refine(Any.strings_Repeat Y1 nF (bytesOf s) c w h1 (by rw[BF];exact h2)).mono ?_
      rintro e w' ⟨rfl,hbl⟩
      exact⟨_,p,rfl,by simp only[Ac];rw[Xb];rfl,Mn hr hbl⟩
end Go.Det
namespace Go.Proofs
open Go.Shelf Go.RowKit Go.Sort Go.Lib Go.Det
namespace FmtU
set_option maxHeartbeats 6400000 in
theorem small(i:Nat)(hi:i<100)(w:World):Calls zk 259 #[.int .u64 i,.int .i64 10] w fun e w'=>e=.returned (.string ⟨(zq i).toArray⟩)/\w'=w:=by
 have mixed:=Hp.mixed;have t3:=Tryz.underlying3;have a3:=Tryz.isAgg3;have z3:=Tryz.sizeOf3;have v3:=Tryz.zeroValue3;have t9:=z8;have a9:=Tryz.isAgg9;have z9:=Tryz.sizeOf9;have v9:=Tryz.zeroValue9;have t4:=Tryz.underlying4;have a4:=Tryz.isAgg4;have z4:=Tryz.sizeOf4;have v4:=Tryz.zeroValue4;have t130:=yv;have a130:=Tryz.isAgg215;have z130:=Tryz.sizeOf215;have v130:=qd;have t292:=zy;have a292:=Tryz.isAgg306;have z292:=Tryz.sizeOf306;have v292:=Tryz.zeroValue306;have t0:=Tryz.underlying0;have a0:=Tryz.isAgg0;have z0:=Tryz.sizeOf0;have v0:=Tryz.zeroValue0;have t220:=yw;have a220:=Tryz.isAgg253;have z220:=Tryz.sizeOf253;have v220:=Tryz.zeroValue253;have t5:=z7;have a5:=Tryz.isAgg5;have z5:=Tryz.sizeOf5;have v5:=Tryz.zeroValue5;have e279:∀args w,(callFunc 280 args).run zk w=.ok (.enter 280 args) w:=enters_of Tryz.func280 (by kernel_rfl) rfl;go_enter Tryz.func259,Tryz.ntmps259
 go_wp2_with (go_at_fn 280;refine(Any.internal_strconv_small (ρ:=Gv) { Hp with } i hi _).mono ?_;rintro e w' ⟨rfl,rfl⟩)
 go_ret
 exact⟨rfl,rfl⟩
set_option maxHeartbeats 6400000 in
theorem big (u : Nat) (hu : 100 <= u) (hu64 : u < 18446744073709551616) (w : World) (htab : Lib.TabIs Tryz.prog w "internal/strconv.uint64pow10" .u64 Lib.pow10Tab) :
  Calls zk 259 #[.int .u64 u,.int .i64 10] w fun e w'=>e=.returned (.string ⟨(zq u).toArray⟩)/\∃k os,w'=grow (w.drewN k) os:=by
 have mixed:=Hp.mixed;have t3:=Tryz.underlying3;have a3:=Tryz.isAgg3;have z3:=Tryz.sizeOf3;have v3:=Tryz.zeroValue3;have t9:=z8;have a9:=Tryz.isAgg9;have z9:=Tryz.sizeOf9;have v9:=Tryz.zeroValue9;have t4:=Tryz.underlying4;have a4:=Tryz.isAgg4;have z4:=Tryz.sizeOf4;have v4:=Tryz.zeroValue4;have t130:=yv;have a130:=Tryz.isAgg215;have z130:=Tryz.sizeOf215;have v130:=qd;have t292:=zy;have a292:=Tryz.isAgg306;have z292:=Tryz.sizeOf306;have v292:=Tryz.zeroValue306;have t0:=Tryz.underlying0;have a0:=Tryz.isAgg0;have z0:=Tryz.sizeOf0;have v0:=Tryz.zeroValue0;have t220:=yw;have a220:=Tryz.isAgg253;have z220:=Tryz.sizeOf253;have v220:=Tryz.zeroValue253;have t5:=z7;have a5:=Tryz.isAgg5;have z5:=Tryz.sizeOf5;have v5:=Tryz.zeroValue5;have e280:∀args w,(callFunc 281 args).run zk w=.ok (.enter 281 args) w:=enters_of Tryz.func281 (by kernel_rfl) rfl;have e281:∀args w,(callFunc 282 args).run zk w=.ok (.enter 282 args) w:=enters_of Tryz.func282 (by kernel_rfl) rfl;have hu1:1<=u:=by omega
 have hnd20:zz u<=20:=by have:=Lib.numDigits_eq u hu1 hu64;split at this<;>omega
 have hal:zk.arrayLen 306=24:=by simp[Program.arrayLen,zy]
 have hsl:∀W,(Instr.sliceAt 306 (.pointer (some ⟨w.heap.size,0,none⟩)) none (some (.int .i64 (zz u:Int))) none).run zk W=.ok (.slice (some ⟨w.heap.size,0,none⟩) (zz u) 24) W:=fun W=>by
  rw[run_sliceAt_array_h W 306 ⟨w.heap.size,0,none⟩ (by simp[Program.arrayLen,Program.elem,zy]) .i64 (zz u:Int) (by omega) (by rw[hal];omega)];go_simp
 have hH0:=Lib.holds_zero0 w 306 (zz u) (by omega);have hfmt:=Any.internal_strconv_formatBase10 (ρ:=Gv) (P:=zk) { Hp with } w.heap.size 0 24 u (Array.replicate (zz u) 0) (w.alloc (.cells qe 306)) hH0 (by rw[zr];exact Lib.lt_pow_nDigits u) hu64 (by rw[zr];omega);rw[zr]at hfmt;have HH0:=Lib.hid hH0;have iu:(100:Int)<=(u:Int):=by omega
 clear hH0 hal;go_enter Tryz.func259,Tryz.ntmps259
 go_wp2_with (first
  |(go_at_fn 281;refine(Any.internal_strconv_numDigits (ρ:=Gv) { Hp with } u hu1 hu64 _ (Lib.tabIs_alloc htab _)).mono ?_;rintro e w' ⟨rfl,rfl⟩))
 go_at_fn 282
 refine hfmt.mono ?_;rintro e w' ⟨rfl,k,v',dk,rfl,hF⟩;have hcv:(convert 253 9 (.slice (some ⟨w.heap.size,0,none⟩) (zz u) 24)).run zk ((putRow (fun(b:UInt8)=>jc .u8 (b.toNat:Int)) (w.alloc (.cells qe 306)) w.heap.size 0 dk).drewN k)=.ok (.string ⟨(zq u).toArray⟩) ((putRow (fun(b:UInt8)=>jc .u8 (b.toNat:Int)) (w.alloc (.cells qe 306)) w.heap.size 0 dk).drewN k):=by
  have h:=run_convert_bytes_back (P:=zk) ((putRow (fun(b:UInt8)=>jc .u8 (b.toNat:Int)) (w.alloc (.cells qe 306)) w.heap.size 0 dk).drewN k) 253 9 5 ⟨w.heap.size,0,none⟩ 24 (zq u) yw z7 z8 (fun j hj=>by
   rw[Lib.row_is_numeral hF j hj,Lib.add_plain,World.cell?_drewN];exact cell?_putRow (fun(b:UInt8)=>jc .u8 (b.toNat:Int)) _ w.heap.size 0 _ dk HH0.out (by rw[hF.size,zr]) j (by rw[hF.size];rw[Lib.decDigits_length]at hj;exact hj))
  rw[Lib.decDigits_length]at h;exact h
 go_wp2
 go_ret
 obtain⟨os,eo⟩:=Lib.fin_at w (.cells qe 306) dk k 0;exact⟨rfl,k,os,eo⟩
theorem all (u : Nat) (hu64 : u < 18446744073709551616) (w : World) (htab : Lib.TabIs Tryz.prog w "internal/strconv.uint64pow10" .u64 Lib.pow10Tab) :
  Calls zk 259 #[.int .u64 u,.int .i64 10] w fun e w'=>e=.returned (.string ⟨(zq u).toArray⟩)/\∃k os,w'=grow (w.drewN k) os:=by
 by_cases h:u<100
 ·exact(small u h w).mono fun e w' ⟨h1,h2⟩=>⟨h1,0, #[],by rw[h2];simp[World.drewN_zero]⟩
 ·exact big u (by omega) hu64 w htab
theorem outer (u : Nat) (hu64 : u < 18446744073709551616) (w : World) (htab : Lib.TabIs Tryz.prog w "internal/strconv.uint64pow10" .u64 Lib.pow10Tab) :
  Calls zk 222 #[.int .u64 u,.int .i64 10] w fun e w'=>e=.returned (.string ⟨(zq u).toArray⟩)/\∃k os,w'=grow (w.drewN k) os:=by
 have mixed:=Hp.mixed;have t3:=Tryz.underlying3;have a3:=Tryz.isAgg3;have z3:=Tryz.sizeOf3;have v3:=Tryz.zeroValue3;have t9:=z8;have a9:=Tryz.isAgg9;have z9:=Tryz.sizeOf9;have v9:=Tryz.zeroValue9;have t130:=yv;have a130:=Tryz.isAgg215;have z130:=Tryz.sizeOf215;have v130:=qd;have e291:∀args w,(callFunc 259 args).run zk w=.ok (.enter 259 args) w:=enters_of Tryz.func259 (by kernel_rfl) rfl;go_enter Tryz.func222,Tryz.ntmps222
 go_wp2_with (go_at_fn 259;refine(all u hu64 _ htab).mono ?_;rintro e w' ⟨rfl,k,os,rfl⟩)
 go_ret
 exact⟨rfl,k,os,rfl⟩
end FmtU
end Go.Proofs
namespace Go.Det
open Go.Proofs
open Go.Proofs.Tryz (prog)
def fmtQ:List V->H->Option (V×H)
 |[.int .u64 (.ofNat n),.int .i64 (.ofNat b)],h=>bif RK h&&(zw n 18446744073709551615&&zg b 10)then some (.str (zq n),h)else none
 |_,_=>none
def fmtS:W6:=fun f=>bif zg f 222 then some fmtQ else none
theorem pR:KZ prog fmtS:=by
 intro f q hq p h w args args' v h' hr hg ha hd;unfold fmtS at hq;cases hf:zg f 222 with
 |false=>rw[hf]at hq;cases hq
 |true=>
  rw[hf]at hq;cases hq;cases zc hf;unfold fmtQ at hd;split at hd
  case h_2=>cases hd
  rename_i n b;cases hb:(RK h&&(zw n 18446744073709551615&&zg b 10))with
  |false=>rw[hb]at hd;cases hd
  |true=>
   rw[hb]at hd;cases hd;rw[ze,ze]at hb;obtain⟨h1,h2,h3⟩:=hb;have h2:=zf h2;cases zc h3;obtain⟨x,y,hl,g1,g2⟩:=ha.two;have:args'= #[x,y]:=qq.1 hl;subst this;simp only[Ac]at g1 g2;subst g1 g2;refine(FmtU.outer n (by omega) w (Yw hr hg h1)).mono ?_;rintro e w' ⟨rfl,k,os,rfl⟩;exact⟨_,p,rfl,by simp only[Ac];rfl,Mn hr ⟨rfl,rfl,rfl,by show w.heap.size<=(w.heap++os).size;rw[Array.size_append];omega,fun j hj=>by show(w.heap++os)[j]?=_;exact yu hj⟩⟩
end Go.Det
namespace Go.Pe
open Go.Det
@[reducible] def BG:List Sh->Sh
 |[]=>.unit
 |[a]=>a
 |a::b::l=>.pair a (BG (b::l))
def Af:(l:List Sh)->(BG l).T->List PV
 |[],_=>[]
 |[a],x=>[Cd a x]
 |a::b::l,x=>Cd a x.1::Af (b::l) x.2
structure Ap where
 ins:List Sh
 pre:(BG ins).T->Bool
 outs:List Sh
 f:(BG ins).T->(BG outs).T
 nd:Bool:=false
def Sh.sc:Sh->Bool
 | .int _| .bool| .str| .unit| .fnv=>true
 | .list _| .nlist _| .ptr _=>false
 | .pair a b=>a.sc&&b.sc
structure Yy where
 ins:List Sh
 ty:TypeId
 el:Sh
 pre:(BG ins).T->List el.T->Bool
 g:(BG ins).T->List el.T->List el.T
structure A6 where
 C:Ctx
 sp:FuncId->Option Ap
 pl:FuncId->Nat->List Nat
 ct:FuncId->Nat->Bool
 fz:FuncId->Nat->List (Nat×Sh)
 ws:FuncId->Option Yy:=fun _=>none
 esc:List FuncId:=[]
 escOk:∀g∈esc,C.prim g=some PK.noEsc.run:=by intro g h;cases h
def KP(st:AK)(s:Sh)(p:PV):Option (Bool×s.T):=
 bif MG p==s.Qn then
  match F7 st p.cells with
  |some (c,cs)=>match DQ s (LD s.leaves cs).2 with
   |some x=>some ((LD s.leaves cs).1&&c,x)
   |none=>none
  |none=>none
 else none
def EG(st:AK):(l:List Sh)->List PV->Option (Bool×(BG l).T)
 |[],[]=>some (true,())
 |[a],[p]=>KP st a p
 |a::b::l,p::ps=>match KP st a p,EG st (b::l) ps with
  |some (c,x),some (d,y)=>some (c&&d,(x,y))
  |_,_=>none
 |_,_=>none
def one:List PV->PV
 |[v]=>v
 |l=>.tup l
def cX(sp:Ap)(args:List PV)(st:AK)(k:PV->AK->Tr):Tr:=
 match EG st sp.ins args with
 |some (c,i)=>.ite (c&&sp.pre i) (k (one (Af sp.outs (sp.f i))) (bif sp.outs.all Sh.sc then st else Bt (args.flatMap PV.cells) st)) .fail
 |none=>.fail
def VZ(w:Yy)(args:List PV)(st:AK)(k:PV->AK->Tr):Tr:=
 match args.reverse with
 | .sl id sz 0 n none::r=>match EG st w.ins r.reverse,(Bt (r.reverse.flatMap PV.cells) st).obj id with
  |some (c,i),some (.arr false t s l)=>bif zg t w.ty then
    match D4 (.list s) (.list w.el) l with
    |some l'=>.ite (c&&w.pre i l'&&decide (n=List.length (α:=w.el.T) l')&&zg sz w.el.sz) (k (.tup []) ((Bt (r.reverse.flatMap PV.cells) st).setObj id (.arr false w.ty w.el (w.g i l')))) .fail
    |none=>.fail
   else .fail
  |_,_=>.fail
 | .nil::r=>match EG st w.ins r.reverse with
  |some (c,i)=>.ite (c&&w.pre i []) (k (.tup []) (Bt (r.reverse.flatMap PV.cells) st)) .fail
  |none=>.fail
 |_=>.fail
mutual
def Abx:PV->List Nat
 | .ptr id _| .eptr id _ _ _| .sl id _ _ _ _| .mp id| .yl id=>[id]
 | .agg l| .tup l=>JH l
 | .fn _ a b=>JH a++JH b
 |_=>[]
def JH:List PV->List Nat
 |[]=>[]
 |v::vs=>Abx v++JH vs
end
def zX:Obj->List Nat
 | .box cs=>JH cs
 | .tbox _ cs=>JH cs
 | .lp _ _ _ _ _ _ _ sl=>JH (sl.map (·.2))
 |_=>[]
def Ik(st:AK)(base:Nat):Nat->List Nat->List Nat->List Nat
 |0,_,acc=>acc
 |_+1,[],acc=>acc
 |f+1,i::is,acc=>bif ya i base||acc.any (zg i)then Ik st base f is acc
  else match st.obj i with
   |some o=>Ik st base f (is++zX o) (acc++[i])
   |none=>Ik st base f is acc
def N3(base:Nat):List Nat->Nat->Nat->Option Nat
 |[],_,i=>bif ya i base then some i else none
 |j::js,n,i=>bif zg i j then some n else N3 base js (yk n 1) i
mutual
def Gb(f:Nat->Option Nat):PV->PV
 | .ptr i o=>match f i with|some j=>.ptr j o|none=>.any
 | .eptr i a b c=>match f i with|some j=>.eptr j a b c|none=>.any
 | .sl i a b c d=>match f i with|some j=>.sl j a b c d|none=>.any
 | .mp i=>match f i with|some j=>.mp j|none=>.any
 | .yl i=>match f i with|some j=>.yl j|none=>.any
 | .agg l=>.agg (JR f l)
 | .tup l=>.tup (JR f l)
 | .fn g a b=>.fn g (JR f a) (JR f b)
 |v=>v
def JR(f:Nat->Option Nat):List PV->List PV
 |[]=>[]
 |v::vs=>Gb f v::JR f vs
end
def S1(f:Nat->Option Nat):Obj->Obj
 | .box cs=>.box (JR f cs)
 | .tbox t cs=>.tbox t (JR f cs)
 | .lp g r ps asg body s n sl=>.lp g r ps asg body s n (sl.map fun x=>(x.1,Gb f x.2))
 |o=>o
def low(f:Nat->Option Nat)(base:Nat):Ob->Ob
 |[]=>[]
 |(i,o)::l=>bif ya i base then(i,S1 f o)::low f base l else low f base l
def kept(st:AK)(f:Nat->Option Nat):List Nat->Nat->Ob->Ob
 |[],_,acc=>acc
 |j::js,n,acc=>match st.obj j with
  |some o=>kept st f js (yk n 1) ((n,S1 f o)::acc)
  |none=>kept st f js (yk n 1) acc
def Pc(base:Nat):Ob->List Nat
 |[]=>[]
 |(i,o)::l=>bif ya i base then zX o++Pc base l else Pc base l
def AF(n:Nat)(vs:List (Nat×PV))(ob:Ob)(nx:Nat):AK:=⟨n,Fq vs,ob,nx⟩
def canon(base:Nat)(L:List Nat)(st:AK):AK:=
 let vs:=L.map fun t=>(t,st.get t)
 let ids:=Ik st base 100 (JH (vs.map (·.2))++Pc base st.ob) []
 let f:=N3 base ids base
 AF st.n (vs.map fun x=>(x.1,Gb f x.2)) (kept st f ids base (low f base st.ob)) (yk base ids.length)
def qA(base:Nat)(x:Nat×Sh)(st:AK):AK:=
 match st.get x.1 with
 | .nil=>st.set x.1 (.dat (.list x.2) [])
 | .sl id sz off len _=>match st.obj id with
  |some (.arr _ e s l)=>bif zg sz s.sz then(st.setObj id (.arr true e s l)).set x.1 (.dat (.list s) ((l.drop off).take len))else st
  |_=>st
 | .ptr id 0=>bif zw base id then match st.obj id with
   |some (.box ps)=>match DQ x.2 ps with
    |some v=>(st.Om id).set x.1 (.CW x.2 v 0)
    |none=>st
   |_=>st
  else st
 |_=>st
def oZ(base:Nat):List (Nat×Sh)->AK->AK
 |[],st=>st
 |x::l,st=>oZ base l (qA base x st)
def Dh:Code->Nat
 | .region id _ _=>id
 | .seq a _=>Dh a
 | .block _ b=>Dh b
 | .loop b=>Dh b
 | .scope b=>Dh b
 |_=>0
def OL(X:A6)(f:FuncId)(r:Nat)(base:Nat)(st:AK):AK:=canon base (X.pl f r) (oZ base (X.fz f r) st)
inductive vK where
 |fn (g:FuncId)
 |rnd (id:Nat)
abbrev F5:=vK->List PV->AK->(PV->AK->Tr)->Tr
def PE(d:Option Nat)(k:AK->Tr):PO->Tr
 | .bad=>.fail
 | .val v st=>match st.put d v with
  |some st'=>k st'
  |none=>.fail
 | .ite c a b=>.ite c (PE d k a) (PE d k b)
inductive CK where
 |no
 |bad
 |yes (g:vK) (args:List PV)
def J2(st:AK)(o:Op):CK:=
 match o with
 | .call c=>match c.callee with
  | .value f=>match Qp st f,Mz st c.args.toList with
   |some (.fn (.func g) first cap),some args=>.yes (.fn g) (first++args++cap)
   |some (.yl id),some args=>.yes (.rnd id) args
   |_,_=>.bad
  |_=>.no
 |_=>.no
def HA(T:B3)(call:F5)(o:Oper)(st:AK)(k:AK->Tr):Tr:=
 match J2 st o.op with
 | .yes g args=>call g args st fun v st=>match st.put o.dst v with
  |some st'=>k st'
  |none=>.fail
 | .bad=>.fail
 | .no=>PE o.dst k (pop o.op T st)
def Tc(T:B3)(st:AK)(o:Op):Option (PV×AK):=
 match o with
 | .convert s d x=>match T.und s,T.und d,Qp st x with
  |some .string,some (.slice e),some (.dat .str l)=>match T.und e with
   |some (.int .u8)=>some (.sl st.nx 1 0 (List.length l) none,st.push (.arr false e (.int .u8) (List.map (fun b:UInt8=>(b.toNat:Int)) l)))
   |_=>none
  |_,_,_=>none
 |_=>none
def wW(T:B3)(st:AK)(o:Op):Option PV:=
 match o with
 | .convert s d x=>match T.und s,T.und d,Qp st x with
  |some (.pointer t),some .unsafePointer,some (.ptr id off)=>match T.inf t,st.obj id with
   |some i,some (.tbox _ cs)=>bif ya 0 i.size&&ya off (Ez cs)then some (.ptr id off)else none
   |_,_=>none
  |some .unsafePointer,some (.pointer u),some (.ptr id off)=>match T.inf u,st.obj id with
   |some i,some (.tbox e cs)=>bif ya 0 i.size&&zw i.size (Ez cs)&&zg e u&&zg off 0 then some (.ptr id 0)else none
   |_,_=>none
  |_,_,_=>none
 |_=>none
def VK(T:B3)(st:AK)(o:Op):Option (PV×AK):=
 match Tc T st o with
 |some r=>some r
 |none=>match wW T st o with
  |some v=>some (v,st)
  |none=>none
def sZ(T:B3)(call:F5)(o:Oper)(st:AK)(k:AK->Tr):Tr:=
 match VK T st o.op with
 |some (v,st1)=>match st1.put o.dst v with
  |some st2=>k st2
  |none=>.fail
 |none=>HA T call o st k
def guarded(ops:Array Oper)(o:Oper)(st:AK)(yes no:AK->Tr):Tr:=
 match o.guard with
 |none=>yes st
 |some (j,want)=>match (ops[j]?).bind (·.dst)with
  |some t=>bif ya t st.n then(match st.get t with
   | .bl b=>bif b==want then yes st else no st
   | .dat .bool b=>bif want then .ite b (yes (st.set t (.bl true))) (no (st.set t (.bl false)))else .ite b (no (st.set t (.bl true))) (yes (st.set t (.bl false)))
   | .tup _=>no st
   | .ub=>.both (bif want then yes (st.set t (.bl true))else no (st.set t (.bl true))) (bif want then no (st.set t (.bl false))else yes (st.set t (.bl false)))
   |_=>.fail)else .fail
  |none=>.fail
def Mi(o:Oper)(k:AK->Tr)(st:AK):Tr:=
 match st.put o.dst (.tup [])with
 |some st'=>k st'
 |none=>.fail
def prun(T:B3)(call:F5)(ops:Array Oper):List Oper->AK->(AK->Tr)->Tr
 |[],st,k=>k st
 |o::rest,st,k=>guarded ops o st
   (fun st=>sZ T call o st fun st'=>prun T call ops rest st' k)
   (fun st=>Mi o (fun st'=>prun T call ops rest st' k) st)
def rP(st:AK)(o:Op):Option (List Nat):=
 match o with
 | .load _ x=>match Qp st x with
  |some (.ptr id _)|some (.eptr id _ _ _)=>some [id]
  |some (.CW _ _ _)=>some []
  |_=>none
 | .convert _ _ x=>match Qp st x with
  |some (.dat (.int _) _)|some (.dat .str _)=>some []
  |_=>none
 | .call c=>match c.callee,Mz st c.args.toList with
  | .builtin .len,some [.dat _ _]| .builtin .len,some [.sl _ _ _ _ _]| .builtin .len,some [.nil]=>some []
  | .builtin .len,some [.mp id]=>some [id]
  |_,_=>none
 | .lookup _ x _ _=>match Qp st x with
  |some (.mp id)=>some [id]
  |some .nilm=>some []
  |_=>none
 |_=>none
def Hi(sp:FuncId->Option Ap)(st:AK)(o:Op):Option (List Nat):=
 match o with
 | .store _ x _=>match Qp st x with
  |some (.ptr id _)|some (.eptr id _ _ _)=>some [id]
  |_=>none
 | .mapUpdate _ x _ _| .insert _ x _ _=>match Qp st x with
  |some (.mp id)=>some [id]
  |_=>none
 | .makeMap _ _| .makeSlice _ _ _=>some []
 | .call c=>match c.callee with
  | .value f=>match Qp st f with
   |some (.fn (.func g) _ _)=>match sp g with
    |some _=>some []
    |none=>none
   |_=>none
  | .builtin .append=>match Mz st c.args.toList with
   |some (.sl id _ _ _ _::_)=>some [id]
   |some _=>some []
   |none=>none
  | .builtin .delete=>match Mz st c.args.toList with
   |some (.mp id::_)=>some [id]
   |_=>none
  | .builtin .unsafeString=>match Mz st c.args.toList with
   |some (.eptr id _ _ _::_)=>some [id]
   |_=>none
  |_=>none
 |_=>none
abbrev Rs:=List (Nat×Option (List Nat))
def Z3:Option (List Nat)->Option (List Nat)->Bool
 |some a,some b=>a.all fun i=> !(b.any (zg i))
 |some [],none=>true
 |_,_=>false
def KO(st:AK):Option (List Nat)->Bool
 |some l=>l.all fun i=>H8 (st.obj i)
 |none=>false
def apart(anc:Nat->Nat->Bool)(i:Nat)(st:AK)(t:Option (List Nat))(rs:Rs):Bool:=rs.all fun r=>anc i r.1||(Z3 r.2 t&&KO st r.2)
def behind(st:AK)(t:Option (List Nat))(rs:Rs):Rs:=rs.map fun r=>bif Z3 r.2 t&&KO st r.2 then r else(r.1,none)
def iJ(st:AK)(o:Op):Bool:=match J2 st o with
 | .yes (.rnd _) _=>false
 |_=>true
def JE(T:B3)(sp:FuncId->Option Ap)(call:F5)(ops:Array Oper)(anc:Nat->Nat->Bool):List Nat->AK->Rs->(AK->Tr)->Tr
 |[],st,_,k=>k st
 |i::is,st,rs,k=>match ops[i]? with
  |none=>.fail
  |some o=>guarded ops o st
    (fun st=>bif Eh o then HA T call o st (fun st'=>JE T sp call ops anc is st' (bif Ot o then(i,rP st o.op)::rs else rs) k)
     else bif Ct o then HA T call o st (fun st'=>JE T sp call ops anc is st' rs k)
     else bif apart anc i st (Hi sp st o.op) rs&&iJ st o.op then HA T call o st (fun st'=>JE T sp call ops anc is st' (behind st (Hi sp st o.op) rs) k)else .fail)
    (fun st=>bif CF o then(bif apart anc i st (some []) rs then Mi o (fun st'=>JE T sp call ops anc is st' (behind st (some []) rs) k) st else .fail)
     else Mi o (fun st'=>JE T sp call ops anc is st' rs k) st)
def exec(X:A6)(call callD:F5)(nd ro:Bool)(d:Nat)(f:FuncId)(base:Nat):Code->AK->(DX->AK->Tr)->Tr
 | .skip,st,k| .label _,st,k=>k .normal st
 | .region _ ops dr,st,k=>bif dr then(bif !ro||H4 ops (EF ops)then JE X.C.T X.sp callD ops (EF ops).a (EF ops).ord st [] (k .normal)else .fail)else prun X.C.T call ops ops.toList st (k .normal)
 | .seq a b,st,k=>exec X call callD nd ro d f base a st fun e st'=>match e with
  | .normal=>bif X.ct f (Dh b)then .cut nd ro d f base b (OL X f (Dh b) base st') k else exec X call callD nd ro d f base b st' k
  |e=>k e st'
 | .cond x a b,st,k=>match Qp st x with
  |some (.bl t)=>bif t then exec X call callD nd ro d f base a st k else exec X call callD nd ro d f base b st k
  |some (.dat .bool t)=>match x with
   | .tmp s=>.ite t (exec X call callD nd ro d f base a (st.set s (.bl true)) k) (exec X call callD nd ro d f base b (st.set s (.bl false)) k)
   |_=>.ite t (exec X call callD nd ro d f base a st k) (exec X call callD nd ro d f base b st k)
  |some .ub=>match x with
   | .tmp s=>.both (exec X call callD nd ro d f base a (st.set s (.bl true)) k) (exec X call callD nd ro d f base b (st.set s (.bl false)) k)
   |_=>.fail
  |_=>.fail
 | .block id b,st,k=>exec X call callD nd ro d f base b st fun e st'=>match e with
  | .exit i=>bif zg i id then k .normal st' else k e st'
  |e=>k e st'
 | .loop b,st,k=>.loop nd ro d f base b (OL X f (Dh b) base st) k
 | .exit i,st,k=>k (.exit i) st
 | .ret,st,k=>k .ret st
 | .scope b,st,k=>exec X call callD nd ro d f base b st k
 |_,_,_=>.fail
def kN(T:B3)(st:AK):ResultVar->Option PV
 | .tmp t=>some (st.get t)
 | .cell a t=>match M6 T st t (st.get a)with
  | .val v _=>some v
  | .H9 _ v _=>some v
  |_=>none
def Kr(T:B3)(st:AK):List ResultVar->List Bool
 |[]=>[]
 | .tmp _::rs=>Kr T st rs
 | .cell a t::rs=>match M6 T st t (st.get a)with
  | .H9 c _ _=>c::Kr T st rs
  |_=>Kr T st rs
def Og:List Bool->Tr->Tr
 |[],t=>t
 |c::cs,t=>.ite c (Og cs t) .fail
def dV(T:B3)(st:AK):List ResultVar->Option (List PV)
 |[]=>some []
 |r::rs=>match kN T st r,dV T st rs with
  |some v,some vs=>some (v::vs)
  |_,_=>none
def Eo:List PV->Nat->List (Nat×PV)
 |[],_=>[]
 |v::vs,i=>(i,v)::Eo vs (yk i 1)
def enter(X:A6)(call callD:F5)(nd:Bool)(d:Nat)(f:FuncId)(args:List PV)(st:AK)(k:PV->AK->Tr):Tr:=
 match X.C.fn f with
 |none=>.fail
 |some i=>bif i.cert then
   exec X call callD nd false d f st.nx i.body (AF (yk args.length (Nat.sub i.ntmps args.length)) (Eo args 0) st.ob st.nx) fun e s=>match e with
    | .exit _=>.fail
    |_=>match dV X.C.T s i.results.toList with
     |some vs=>Og (Kr X.C.T s i.results.toList) (k (one vs) ⟨st.n,st.fr,s.ob,s.nx⟩)
     |none=>.fail
  else .fail
def MP:List Tmp->List PV->AK->AK
 |t::ts,v::vs,st=>MP ts vs (bif ya t st.n then st.set t v else st)
 |_,_,st=>st
def dP(X:A6)(call callD:F5)(nd:Bool)(d:Nat)(id:Nat)(args:List PV)(st:AK)(k:PV->AK->Tr):Tr:=
 match st.obj id with
 |some (.lp f _ ps asg b .ready n sl)=>bif zg args.length ps.size then
   exec X call callD nd true d f st.nx asg (MP ps.toList args (AF n sl st.ob st.nx)) fun e s=>match e with
   | .normal=>match s.obj id with
    |some (.lp f1 r1 ps1 asg1 b1 .ready n1 sl1)=>
     exec X call callD nd true d f st.nx b (s.setObj id (.lp f1 r1 ps1 asg1 b1 .busy n1 sl1)) fun e2 s2=>
      match s2.obj id with
      |some (.lp f2 r2 ps2 asg2 b2 _ n2 sl2)=>match e2 with
       | .normal=>k (.bl true) ⟨st.n,st.fr,(s2.setObj id (.lp f2 r2 ps2 asg2 b2 .ready n2 sl2)).ob,s2.nx⟩
       | .ret=>k (.bl false) ⟨st.n,st.fr,(s2.setObj id (.lp f2 r2 ps2 asg2 b2 .ret n2 sl2)).ob,s2.nx⟩
       | .exit i=>k (.bl false) ⟨st.n,st.fr,(s2.setObj id (.lp f2 r2 ps2 asg2 b2 (.exit i) n2 sl2)).ob,s2.nx⟩
      |_=>.fail
    |_=>.fail
   |_=>.fail
  else .fail
 |_=>.fail
def Aa0(args:List PV)(st:AK)(k:PV->AK->Tr):Tr:=
 match args with
 |[.ptr id off]=>bif H8 (st.obj id)then k (.ptr id off) st else .fail
 |_=>.fail
def Cu(X:A6)(nd:Bool):Nat->F5
 |0=>fun _ _ _ _=>.fail
 |d+1=>fun c args st k=>match c with
  | .fn g=>match X.sp g with
   |some sp=>bif nd|| !sp.nd then cX sp args st k else .fail
   |none=>match X.ws g with
    |some w=>VZ w args st k
    |none=>bif X.esc.any (zg g)then Aa0 args st k else match X.C.prim g,X.C.spec g with
     |none,none=>enter X (Cu X nd d) (Cu X false d) nd d g args st k
     |_,_=>.fail
  | .rnd _=>.fail
def tree(X:A6)(nd:Bool)(d:Nat)(f:FuncId)(args:List PV):Tr:=
 enter X (Cu X nd d) (Cu X false d) nd d f args (AF 0 [] [] 0) fun v st=>.leaf v st.ob
def body(X:A6)(nd ro:Bool)(d:Nat)(f:FuncId)(base:Nat)(b:Code)(st:AK)(k:DX->AK->Tr):Tr:=
 exec X (Cu X nd d) (Cu X false d) nd ro d f base b st fun e st'=>match e with
  | .normal=>.loop nd ro d f base b (OL X f (Dh b) base st') k
  |e=>k e st'
def AN(X:A6)(nd ro:Bool)(d:Nat)(f:FuncId)(base:Nat)(b:Code)(st:AK)(k:DX->AK->Tr):Tr:=exec X (Cu X nd d) (Cu X false d) nd ro d f base b st k
inductive Ev (X:A6) (Q:PV->Ob->Prop):Nat->Tr->Prop where
 |leaf {n:Nat} {v:PV} {ob:Ob}:Q v ob->Ev X Q n (.leaf v ob)
 |ite {n:Nat} {c:Bool} {a b:Tr}:(c=true->Ev X Q n a)->(c=false->Ev X Q n b)->Ev X Q n (.ite c a b)
 |both {n:Nat} {a b:Tr}:Ev X Q n a->Ev X Q n b->Ev X Q n (.both a b)
 |cut {n:Nat} {nd ro:Bool} {d:Nat} {f:FuncId} {base:Nat} {b:Code} {st:AK} {k:DX->AK->Tr}:Ev X Q n (AN X nd ro d f base b st k)->Ev X Q n (.cut nd ro d f base b st k)
 |alts {n m:Nat} {f:Nat->Tr}:(∀i,i<m->Ev X Q n (f i))->Ev X Q n (.alts m f)
 |loop {n:Nat} {nd ro:Bool} {d:Nat} {f:FuncId} {base:Nat} {b:Code} {st:AK} {k:DX->AK->Tr}:Ev X Q n (body X nd ro d f base b st k)->Ev X Q (n+1) (.loop nd ro d f base b st k)
abbrev Fz:=Nat->Option (List V)
abbrev Ec:=Nat->Option (Nat×Nat)
def DC(F:Fz):(s:Sh)->s.T->List V->Prop
 | .int k,x,cs=>cs=[.int k x]
 | .bool,x,cs=>cs=[.bool x]
 | .str,x,cs=>cs=[.str x]
 | .list s,l,cs=>∃v,cs=[v]/\((l=[]/\(v=.nils\/v=.esl\/v=.es0))\/
   ∃b off cap o bs,v=.sl b off l.length cap o/\l.length<=cap/\F b=some bs/\off+l.length*s.sz<=bs.length/\(o=0\/o=s.sz)/\
    ∀i (h:i<l.length),DC F s l[i] ((bs.drop (off+i*s.sz)).take s.sz))
 | .pair a b,x,cs=>∃c d,cs=c++d/\DC F a x.1 c/\DC F b x.2 d
 | .unit,_,cs=>cs=[]
 | .fnv,x,cs=>cs=[match (x:Option Fn)with|some f=>.fn f [] []|none=>.nilf]
 | .ptr s,x,cs=>∃b o bs,cs=[.ptr b o]/\F b=some bs/\o+s.sz<=bs.length/\DC F s x ((bs.drop o).take s.sz)
 | .nlist s,l,cs=>∃v,cs=[v]/\((l=[]/\v=.nils)\/(l≠[]/\
   ∃b off cap o bs,v=.sl b off l.length cap o/\l.length<=cap/\F b=some bs/\off+l.length*s.sz<=bs.length/\(o=0\/o=s.sz)/\
    ∀i (h:i<l.length),DC F s l[i] ((bs.drop (off+i*s.sz)).take s.sz)))
theorem DC.len{F:Fz}:∀ {s:Sh} {x:s.T} {cs:List V},DC F s x cs->cs.length=s.sz
 | .int _,_,_,h=>by simp only[DC]at h;subst h;rfl
 | .bool,_,_,h=>by simp only[DC]at h;subst h;rfl
 | .str,_,_,h=>by simp only[DC]at h;subst h;rfl
 | .list _,_,_,h=>by simp only[DC]at h;obtain⟨v,rfl,_⟩:=h;rfl
 | .pair a b,x,_,h=>by
  simp only[DC]at h;obtain⟨c,d,rfl,h1,h2⟩:=h;rw[yx,h1.len,h2.len];rfl
 | .unit,_,_,h=>by simp only[DC]at h;subst h;rfl
 | .nlist _,_,_,h=>by simp only[DC]at h;obtain⟨v,rfl,_⟩:=h;rfl
 | .fnv,_,_,h=>by simp only[DC]at h;subst h;rfl
 | .ptr _,_,_,h=>by simp only[DC]at h;obtain⟨b,o,bs,rfl,_⟩:=h;rfl
theorem DC.ok{F:Fz}:∀ {s:Sh} {x:s.T} {cs:List V},DC F s x cs->∀v∈cs,v.ok=true
 | .int _,_,_,h=>by simp only[DC]at h;subst h;simp[q9]
 | .bool,_,_,h=>by simp only[DC]at h;subst h;simp[q9]
 | .str,_,_,h=>by simp only[DC]at h;subst h;simp[q9]
 | .list s,_,_,h=>by
  simp only[DC]at h;obtain⟨v,rfl,⟨_,rfl|rfl|rfl⟩|⟨b,off,cap,o,bs,rfl,_⟩⟩:=h<;>simp[q9]
 | .pair a b,x,_,h=>by
  simp only[DC]at h;obtain⟨c,d,rfl,h1,h2⟩:=h;intro v hv;rcases List.mem_append.1 hv with hv|hv
  ·exact h1.ok v hv
  ·exact h2.ok v hv
 | .unit,_,_,h=>by simp only[DC]at h;subst h;simp
 | .fnv,x,_,h=>by simp only[DC]at h;subst h;intro v hv;rw[zd.1 hv];cases (x:Option Fn)<;>rfl
 | .nlist s,_,_,h=>by
  simp only[DC]at h;obtain⟨v,rfl,⟨_,rfl⟩|⟨_,b,off,cap,o,bs,rfl,_⟩⟩:=h<;>simp[q9]
 | .ptr _,_,_,h=>by simp only[DC]at h;obtain⟨b,o,bs,rfl,_⟩:=h;simp[q9]
theorem DC.mono{F F':Fz}(hF:∀b cs,F b=some cs->F' b=some cs):∀ {s:Sh} {x:s.T} {cs:List V},DC F s x cs->DC F' s x cs
 | .int _,_,_,h=>by simpa only[DC]using h
 | .bool,_,_,h=>by simpa only[DC]using h
 | .str,_,_,h=>by simpa only[DC]using h
 | .list s,l,_,h=>by
  simp only[DC]at h ⊢;obtain⟨v,rfl,h⟩:=h;refine⟨v,rfl,?_⟩;rcases h with h|⟨b,off,cap,o,bs,h1,h2,h3,h4,h5,h6⟩
  ·exact .inl h
  ·exact .inr ⟨b,off,cap,o,bs,h1,h2,hF _ _ h3,h4,h5,fun i hi=>(h6 i hi).mono hF⟩
 | .pair a b,x,_,h=>by
  simp only[DC]at h ⊢;obtain⟨c,d,rfl,h1,h2⟩:=h;exact⟨c,d,rfl,h1.mono hF,h2.mono hF⟩
 | .unit,_,_,h=>by simpa only[DC]using h
 | .fnv,_,_,h=>by simpa only[DC]using h
 | .ptr s,x,_,h=>by
  simp only[DC]at h ⊢;obtain⟨b,o,bs,h1,h2,h3,h4⟩:=h;exact⟨b,o,bs,h1,hF _ _ h2,h3,h4.mono hF⟩
 | .nlist s,l,_,h=>by
  simp only[DC]at h ⊢;obtain⟨v,rfl,h⟩:=h;refine⟨v,rfl,?_⟩;rcases h with h|⟨h0,b,off,cap,o,bs,h1,h2,h3,h4,h5,h6⟩
  ·exact .inl h
  ·exact .inr ⟨h0,b,off,cap,o,bs,h1,h2,hF _ _ h3,h4,h5,fun i hi=>(h6 i hi).mono hF⟩
theorem DC.nl{F:Fz}{s:Sh}{l:List s.T}{cs:List V}(h:DC F (.nlist s) l cs):DC F (.list s) l cs:=by
 simp only[DC]at h ⊢;obtain⟨v,rfl,h⟩:=h;rcases h with⟨rfl,rfl⟩|⟨_,h⟩
 ·exact⟨_,rfl,.inl ⟨rfl,.inl rfl⟩⟩
 ·exact⟨_,rfl,.inr h⟩
theorem DC.nl'{F:Fz}{s:Sh}{l:List s.T}{cs:List V}(h:DC F (.list s) l cs)(h0:0<l.length):DC F (.nlist s) l cs:=by
 have hne:l≠[]:=by rintro rfl;simp at h0
 simp only[DC]at h ⊢;obtain⟨v,rfl,h⟩:=h;rcases h with⟨rfl,_⟩|h
 ·exact wh rfl hne
 ·exact⟨_,rfl,.inr ⟨hne,h⟩⟩
mutual
def PR(F:Fz)(ρ:Ec)(N:Nat):PV->V->Prop
 | .any,_=>True
 | .bl b,v=>v=.bool b
 | .ub,v=>∃b,v=.bool b
 | .dat s x,v=>DC F s x [v]
 | .nil,v=>v=.nils
 | .nilp,v=>v=.nilp
 | .nilm,v=>v=.nilm
 | .nilf,v=>v=.nilf
 | .nili,v=>v=.nili
 | .agg l,v=>∃cs,v=.agg cs/\Bd F ρ N l cs
 | .tup l,v=>∃cs,v=.tup cs/\Bd F ρ N l cs
 | .ptr id off,v=>id<N/\∀b n,ρ id=some (b,n)->v=.ptr b off
 | .eptr id sz i off,v=>id<N/\∀b n,ρ id=some (b,n)->v=.ptr b (i*sz+off)
 | .CW s x off,v=>∃b o cs,v=.ptr b (o+off)/\F b=some cs/\o+s.sz<=cs.length/\DC F s x ((cs.drop o).take s.sz)
 | .sl id sz off len cap,v=>id<N/\∀b n,ρ id=some (b,n)->
   (len<=cap.getD len/\off+cap.getD len<=n/\∃o,(o=0\/o=sz)/\v=.sl b (off*sz) len (cap.getD len) o)\/
   (len=0/\cap=some 0/\off<=n/\(v=.esl\/∃off',v=.sl b off' 0 0 0/\off'<=off*sz))
 | .mp id,v=>id<N/\∀b n,ρ id=some (b,n)->v=.map b
 | .fn f first captured,v=>∃a b,v=.fn f a b/\Bd F ρ N first a/\Bd F ρ N captured b
 | .yl id,v=>id<N/\∀b n,ρ id=some (b,n)->v=.yld b
def Bd(F:Fz)(ρ:Ec)(N:Nat):List PV->List V->Prop
 |[],l=>l=[]
 |p::ps,l=>∃v vs,l=v::vs/\PR F ρ N p v/\Bd F ρ N ps vs
end
section
variable {F F':Fz}{ρ ρ':Ec}{N N':Nat}
@[simp] theorem B4(l:List V):Bd F ρ N [] l↔l=[]:=by simp[Bd]
@[simp] theorem A3(p:PV)(ps:List PV)(v:V)(vs:List V):Bd F ρ N (p::ps) (v::vs)↔PR F ρ N p v/\Bd F ρ N ps vs:=by
 simp only[Bd];constructor
 ·rintro⟨_,_,h,h1,h2⟩;cases h;exact⟨h1,h2⟩
 ·rintro⟨h1,h2⟩;exact⟨v,vs,rfl,h1,h2⟩
theorem Bd.len:∀ {ps:List PV} {vs:List V},Bd F ρ N ps vs->ps.length=vs.length
 |[],vs,h=>by simp at h;simp[h]
 |p::ps,vs,h=>by
  simp only[Bd]at h;obtain⟨v,vs,rfl,_,h2⟩:=h;simp[h2.len]
theorem Bd.append:∀ {a:List PV} {x:List V} {b:List PV} {y:List V},Bd F ρ N a x->Bd F ρ N b y->Bd F ρ N (a++b) (x++y)
 |[],x,b,y,h,h'=>by simp at h;subst h;simpa using h'
 |p::ps,x,b,y,h,h'=>by
  simp only[Bd]at h;obtain⟨v,vs,rfl,h1,h2⟩:=h;simp only[List.cons_append,A3];exact⟨h1,h2.append h'⟩
theorem Bd.drop:∀ {a:List PV} {x:List V} (n:Nat),Bd F ρ N a x->Bd F ρ N (a.drop n) (x.drop n)
 |[],x,n,h=>by simp at h;subst h;simp
 |p::ps,x,0,h=>by simpa using h
 |p::ps,x,n+1,h=>by
  simp only[Bd]at h;obtain⟨v,vs,rfl,h1,h2⟩:=h;simpa using h2.drop n
theorem Bd.take:∀ {a:List PV} {x:List V} (n:Nat),Bd F ρ N a x->Bd F ρ N (a.take n) (x.take n)
 |[],x,n,h=>by simp at h;subst h;simp
 |p::ps,x,0,h=>by simp
 |p::ps,x,n+1,h=>by
  simp only[Bd]at h;obtain⟨v,vs,rfl,h1,h2⟩:=h;simpa using⟨h1,h2.take n⟩
theorem Bd.get:∀ {a:List PV} {x:List V},Bd F ρ N a x->∀ {i:Nat} {p:PV},a[i]?=some p->∃v,x[i]?=some v/\PR F ρ N p v
 |[],x,h,i,p,hp=>by simp at hp
 |q::ps,x,h,i,p,hp=>by
  simp only[Bd]at h;obtain⟨v,vs,rfl,h1,h2⟩:=h;cases i with
  |zero=>simp at hp;subst hp;exact⟨v,rfl,h1⟩
  |succ i=>simp at hp;simpa using h2.get hp
structure Le(F:Fz)(ρ:Ec)(N:Nat)(F':Fz)(ρ':Ec)(N':Nat):Prop where
 fz:∀b cs,F b=some cs->F' b=some cs
 rho:∀id,id<N->ρ' id=ρ id\/ρ' id=none
 n:N<=N'
theorem Le.refl:Le F ρ N F ρ N:=⟨fun _ _ h=>h,fun _ _=>.inl rfl,z6 _⟩
theorem Le.trans{F'':Fz}{ρ'':Ec}{N'':Nat}(a:Le F ρ N F' ρ' N')(b:Le F' ρ' N' F'' ρ'' N''):Le F ρ N F'' ρ'' N'':=
 ⟨fun c cs h=>b.fz c cs (a.fz c cs h),fun id h=>by
  rcases b.rho id (zl h a.n)with e|e
  ·rw[e];exact a.rho id h
  ·exact .inr e,Nat.le_trans a.n b.n⟩
theorem Le.at(hl:Le F ρ N F' ρ' N'){id:Nat}(h:id<N){x:Nat×Nat}(hx:ρ' id=some x):ρ id=some x:=by
 rcases hl.rho id h with e|e
 ·rw[<-e];exact hx
 ·rw[e]at hx;cases hx
mutual
theorem PR.mono(hl:Le F ρ N F' ρ' N'):∀ {p:PV} {v:V},PR F ρ N p v->PR F' ρ' N' p v
 | .any,_,_=>by simp[PR]
 | .bl _,_,h=>by simpa only[PR]using h
 | .ub,_,h=>by simpa only[PR]using h
 | .dat s x,_,h=>by simp only[PR]at h ⊢;exact h.mono hl.fz
 | .nil,_,h| .nilp,_,h| .nilm,_,h| .nilf,_,h| .nili,_,h=>by simpa only[PR]using h
 | .agg l,_,h=>by simp only[PR]at h ⊢;obtain⟨cs,rfl,h1⟩:=h;exact⟨cs,rfl,h1.mono hl⟩
 | .tup l,_,h=>by simp only[PR]at h ⊢;obtain⟨cs,rfl,h1⟩:=h;exact⟨cs,rfl,h1.mono hl⟩
 | .ptr _ _,_,h=>by simp only[PR]at h ⊢;exact⟨zl h.1 hl.n,fun b n hb=>h.2 b n (hl.at h.1 hb)⟩
 | .eptr _ _ _ _,_,h=>by simp only[PR]at h ⊢;exact⟨zl h.1 hl.n,fun b n hb=>h.2 b n (hl.at h.1 hb)⟩
 | .CW s x off,_,h=>by
  simp only[PR]at h ⊢;obtain⟨b,o,cs,h1,h2,h3,h4⟩:=h;exact⟨b,o,cs,h1,hl.fz _ _ h2,h3,h4.mono hl.fz⟩
 | .sl _ _ _ _ _,_,h=>by simp only[PR]at h ⊢;exact⟨zl h.1 hl.n,fun b n hb=>h.2 b n (hl.at h.1 hb)⟩
 | .mp _,_,h=>by simp only[PR]at h ⊢;exact⟨zl h.1 hl.n,fun b n hb=>h.2 b n (hl.at h.1 hb)⟩
 | .fn f a b,_,h=>by
  simp only[PR]at h ⊢;obtain⟨x,y,rfl,h1,h2⟩:=h;exact⟨x,y,rfl,h1.mono hl,h2.mono hl⟩
 | .yl _,_,h=>by simp only[PR]at h ⊢;exact⟨zl h.1 hl.n,fun b n hb=>h.2 b n (hl.at h.1 hb)⟩
theorem Bd.mono(hl:Le F ρ N F' ρ' N'):∀ {ps:List PV} {vs:List V},Bd F ρ N ps vs->Bd F' ρ' N' ps vs
 |[],_,h=>by simpa using h
 |p::ps,_,h=>by
  simp only[Bd]at h ⊢;obtain⟨v,vs,rfl,h1,h2⟩:=h;exact⟨v,vs,rfl,h1.mono hl,h2.mono hl⟩
end
theorem PR.lz:∀ {p:PV} {v:V},PR F ρ N p v->PR F ρ N (lz p) v:=by
 intro p v h;unfold Pe.lz;split
 ·simp only[PR]at h ⊢;exact h.nl
 ·exact h
theorem Bd.lz:∀ {ps:List PV} {vs:List V},Bd F ρ N ps vs->Bd F ρ N (ps.map Pe.lz) vs
 |[],_,h=>by simpa using h
 |p::ps,_,h=>by
  simp only[Bd]at h;obtain⟨v,vs,rfl,h1,h2⟩:=h;simp only[List.map_cons,A3];exact⟨h1.lz,h2.lz⟩
theorem aJ{s:Sh}{p:PV}{v:V}(h:PR F ρ N p v)(hc:(TK s p).1=true):PR F ρ N (TK s p).2 v:=by
 unfold TK at hc ⊢;split
 ·rename_i s s' x;cases hb:(s==s')with
  |false=>exact h
  |true=>
   have hc:(bif s==s' then(decide (0<List.length x),PV.dat s'.nlist x)else(true,PV.dat s'.list x)).1=true:=hc;rw[hb]at hc;simp only[we,w5]at hc;simp only[PR,we]at h ⊢;exact h.nl' hc
 ·rename_i s s' x;cases hb:(s==s')with
  |false=>exact h
  |true=>simp only[PR,we]at h ⊢;exact h.nl
 ·exact h
theorem QV:∀ {l:List Sh} {ps:List PV} {vs:List V},Bd F ρ N ps vs->(LD l ps).1=true->Bd F ρ N (LD l ps).2 vs
 |[],ps,vs,h,_=>h
 |s::l,[],vs,h,_=>h
 |s::l,p::ps,vs,h,hc=>by
  simp only[Bd]at h;obtain⟨v,vs,rfl,h1,h2⟩:=h;simp only[LD,ze]at hc;simp only[LD,A3];exact⟨aJ h1 hc.1,QV h2 hc.2⟩
def Ed(F:Fz)(s:Sh)(l:List s.T)(cs:List V):Prop:=cs.length=l.length*s.sz/\∀i (h:i<l.length),DC F s l[i] ((cs.drop (i*s.sz)).take s.sz)
theorem Ed.mono(hF:∀b cs,F b=some cs->F' b=some cs){s:Sh}{l:List s.T}{cs:List V}(h:Ed F s l cs):Ed F' s l cs:=⟨h.1,fun i hi=>(h.2 i hi).mono hF⟩
theorem Ed.ok{F:Fz}{s:Sh}{l:List s.T}{cs:List V}(h:Ed F s l cs):∀v∈cs,v.ok=true:=by
 intro v hv;obtain⟨k,hk⟩:=List.mem_iff_getElem?.1 hv;have hkl:=(List.getElem?_eq_some_iff.1 hk).1;have hsz:0<s.sz:=by
  rcases Nat.eq_zero_or_pos s.sz with e|e
  ·rw[h.1,e,Nat.mul_zero]at hkl;omega
  ·exact e
 have hi:k/s.sz<l.length:=Nat.div_lt_of_lt_mul (by rw[Nat.mul_comm, <-h.1];exact hkl);refine(h.2 _ hi).ok v ?_;refine List.mem_iff_getElem?.2 ⟨k % s.sz,?_⟩;rw[zj (Nat.mod_lt _ hsz),zo,show k/s.sz*s.sz+k % s.sz=k from by rw[Nat.mul_comm];exact Nat.div_add_mod _ _];exact hk
def DV(F:Fz)(s:Sh)(x:s.T)(v:V):Prop:=(s.Qn=true->∃cs,v=.agg cs/\DC F s x cs)/\(s.Qn=false->DC F s x [v])
theorem DV.mono(hF:∀b cs,F b=some cs->F' b=some cs){s:Sh}{x:s.T}{v:V}(h:DV F s x v):DV F' s x v:=
 ⟨fun e=>by obtain⟨cs,h1,h2⟩:=h.1 e;exact⟨cs,h1,h2.mono hF⟩,fun e=>(h.2 e).mono hF⟩
inductive MR (F:Fz) (ks vs:Sh):List (ks.T×vs.T)->List (V×V×Nat)->Prop where
 |nil:MR F ks vs [] []
 |cons {k:ks.T} {v:vs.T} {l:List (ks.T×vs.T)} {a b:V} {n:Nat} {es:List (V×V×Nat)}:DV F ks k a->DV F vs v b->MR F ks vs l es->MR F ks vs ((k,v)::l) ((a,b,n)::es)
theorem MR.mono(hF:∀b cs,F b=some cs->F' b=some cs){ks vs:Sh}{l:List (ks.T×vs.T)}{es:List (V×V×Nat)}(h:MR F ks vs l es):MR F' ks vs l es:=by
 induction h with
 |nil=>exact .nil
 |cons h1 h2 _ ih=>exact .cons (h1.mono hF) (h2.mono hF) ih
def SH(sl:List (Nat×PV))(t:Nat):PV:=((Fq sl).get t).getD .any
def LpR:LpS->LoopState->Option Code->Prop
 | .ready,st,pe=>st=.ready/\pe=none
 | .busy,st,_=>st=.busy
 | .ret,st,pe=>st=.done/\pe=some .ret
 | .exit i,st,pe=>st=.done/\pe=some (.exit i)
def XA(F:Fz)(ρ:Ec)(N n:Nat):Obj->O->Prop
 | .arr _ e s l,o=>∃cs fz,o=.cells cs e fz/\Ed F s l cs/\fz.2<=fz.1/\l.length=n
 | .box ps,o=>∃cs t fz,o=.cells cs t fz/\Bd F ρ N ps cs/\fz.2<=fz.1/\∀v∈cs,v.ok=true
 | .tbox t ps,o=>∃cs fz,o=.cells cs t fz/\Bd F ρ N ps cs/\fz.2<=fz.1/\∀v∈cs,v.ok=true
 | .map ks vs l,o=>∃es clk,o=.map es clk/\MR F ks vs l es
 | .siter s pos,o=>o=.siter s pos
 | .lp _ _ ps asg body s n' sl,o=>∃ls,o=.loop ls/\ls.ps=ps/\ls.asg=asg/\ls.body=body/\LpR s ls.st ls.pend/\ls.fr.n=n'/\∀t,PR F ρ N (SH sl t) (ls.fr.get t)
theorem XA.mono(hl:Le F ρ N F' ρ' N'){n:Nat}{x:Obj}{o:O}(h:XA F ρ N n x o):XA F' ρ' N' n x o:=by
 cases x with
 |arr fz e s l=>obtain⟨cs,f,h1,h2,h3⟩:=h;exact⟨cs,f,h1,h2.mono hl.fz,h3⟩
 |box ps=>obtain⟨cs,t,f,h1,h2,h3⟩:=h;exact⟨cs,t,f,h1,h2.mono hl,h3⟩
 |tbox t ps=>obtain⟨cs,f,h1,h2,h3⟩:=h;exact⟨cs,f,h1,h2.mono hl,h3⟩
 |map ks vs l=>obtain⟨es,clk,h1,h2⟩:=h;exact⟨es,clk,h1,h2.mono hl.fz⟩
 |siter s pos=>exact h
 |lp f r ps asg body s n sl=>obtain⟨ls,h1,h2,h3,h4,h5,h6,h7⟩:=h;exact⟨ls,h1,h2,h3,h4,h5,h6,fun t=>(h7 t).mono hl⟩
def Obj.frozen:Obj->Bool
 | .arr fz _ _ _=>fz
 |_=>false
structure H0 where
 h:H
 F:Fz
 pin:List Nat
 ex:Nat->Prop:=fun _=>False
def H0.pins(h0:H0)(ps:List Nat):H0:={ h0 with pin:=ps++h0.pin }
def H0.aT(h0:H0)(B b:Nat):Prop:=B<=b\/h0.ex b
theorem Nn{h0:H0}{B b c:Nat}(h:h0.aT B b)(hc:c<B)(he:¬h0.ex c):c≠b:=by
 rintro rfl;rcases h with h|h
 ·omega
 ·exact he h
structure SR(B:Nat)(h0:H0)(F:Fz)(ρ:Ec)(N:Nat)(ob:Ob)(h:H):Prop where
 obj:∀id o,AP ob id=some o->∃b n x,ρ id=some (b,n)/\h.get b=some x/\XA F ρ N n o x/\(o.frozen=false->F b=none)/\
  (o.frozen=true->∃cs t fz,x=.cells cs t fz/\F b=some cs)
 inj:∀id id' o o' b n n',AP ob id=some o->AP ob id'=some o'->ρ id=some (b,n)->ρ id'=some (b,n')->id=id'
 frz:∀b cs,F b=some cs->∃t fz,h.get b=some (.cells cs t fz)
 own:∀id b n,ρ id=some (b,n)->id<N/\h0.aT B b
 dead:∀id,AP ob id=none->ρ id=none
 old:∀b,b<B->¬h0.ex b->h.get b=h0.h.get b
 lt:∀b o,h.get b=some o->b<h.nx
 le:B<=h.nx
 fo:∀b cs,F b=some cs->h0.F b=some cs\/h0.aT B b
 gl:∀x∈Ga,x.1<B/\¬h0.ex x.1/\h0.h.get x.1=some x.2
 pn:∀b∈h0.pin,h.get b=some (.defd true)/\B<=b/\∀id n,ρ id≠some (b,n)
structure FP(F:Fz)(ρ:Ec)(N:Nat)(st:AK)(fr:Fr):Prop where
 n:st.n=fr.n
 slot:∀t,PR F ρ N (st.get t) (fr.get t)
theorem FP.mono(hl:Le F ρ N F' ρ' N'){st:AK}{fr:Fr}(h:FP F ρ N st fr):FP F' ρ' N' st fr:=⟨h.n,fun t=>(h.slot t).mono hl⟩
end
section
variable {B:Nat}{h0:H0}{F:Fz}{ρ:Ec}{N:Nat}
mutual
theorem YR:∀ {v:Value} {p:PV},Nh v=some p->∃x,cv v=some x/\PR F ρ N p x
 | .bool b,p,h=>by simp[Nh]at h;subst h;exact⟨_,rfl,by simp[PR]⟩
 | .int k n,p,h=>by simp[Nh]at h;subst h;exact⟨_,rfl,by simp[PR,DC]⟩
 | .string s,p,h=>by simp[Nh]at h;subst h;exact⟨_,rfl,by simp[PR,DC]⟩
 | .pointer none,p,h=>by simp[Nh]at h;subst h;exact⟨_,rfl,by simp[PR]⟩
 | .pointer (some a),p,h=>by simp[Nh]at h
 | .slice none 0 0,p,h=>by simp[Nh]at h;subst h;exact⟨_,rfl,by simp[PR]⟩
 | .slice none 0 (_+1),p,h=>by simp[Nh]at h
 | .slice none (_+1) _,p,h=>by simp[Nh]at h
 | .slice (some a) _ _,p,h=>by simp[Nh]at h
 | .map none,p,h=>by simp[Nh]at h;subst h;exact⟨_,rfl,by simp[PR]⟩
 | .map (some a),p,h=>by simp[Nh]at h
 | .nilFunc,p,h=>by simp[Nh]at h;subst h;exact⟨_,rfl,by simp[PR]⟩
 | .nilIface,p,h=>by simp[Nh]at h;subst h;exact⟨_,rfl,by simp[PR]⟩
 | .func f ⟨[]⟩ ⟨[]⟩,p,h=>by simp[Nh]at h;subst h;exact⟨_,rfl,by simp[PR]⟩
 | .func f ⟨_::_⟩ _,p,h=>by simp[Nh]at h
 | .func f ⟨[]⟩ ⟨_::_⟩,p,h=>by simp[Nh]at h
 | .agg ⟨cs⟩,p,h=>by
  simp only[Nh,zp]at h;obtain⟨xs,h1,rfl⟩:=h;obtain⟨ys,h2,h3⟩:=Qh h1;exact⟨.agg ys,by simp[cv,h2],by simp only[PR];exact⟨ys,rfl,h3⟩⟩
 | .tuple ⟨cs⟩,p,h=>by
  simp only[Nh,zp]at h;obtain⟨xs,h1,rfl⟩:=h;obtain⟨ys,h2,h3⟩:=Qh h1;exact⟨.tup ys,by simp[cv,h2],by simp only[PR];exact⟨ys,rfl,h3⟩⟩
 | .float _ _,p,h=>by simp[Nh]at h
 | .complex _ _ _,p,h=>by simp[Nh]at h
 | .chan _,p,h=>by simp[Nh]at h
 | .iface _ _,p,h=>by simp[Nh]at h
theorem Qh:∀ {vs:List Value} {ps:List PV},aD vs=some ps->∃xs,sS vs=some xs/\Bd F ρ N ps xs
 |[],ps,h=>by simp[aD]at h;subst h;exact⟨[],rfl,by simp⟩
 |v::vs,ps,h=>by
  unfold aD at h;split at h
  case h_2=>cases h
  rename_i x xs h1 h2;cases h;obtain⟨y,g1,g2⟩:=YR h1;obtain⟨ys,g3,g4⟩:=Qh h2;exact⟨y::ys,by simp[sS,g1,g3],by simp[g2,g4]⟩
end
theorem sD(v:V):PR F ρ N (WS v) v:=by
 cases v<;>simp[WS,PR,DC]
theorem Ei:∀vs:List V,Bd F ρ N (vs.map WS) vs
 |[]=>by simp
 |v::vs=>by simp only[List.map_cons,A3];exact⟨sD v,Ei vs⟩
variable {C:Ctx}{st st':AK}{fr:Fr}{h:H}
theorem Ce(hf:FP F ρ N st fr){x:Operand}{p:PV}(hd:Qp st x=some p):∃v,ev C fr x=some v/\PR F ρ N p v:=by
 cases x with
 |tmp t=>simp only[Qp,zh]at hd;subst hd;exact⟨_,rfl,hf.slot t⟩
 |const v=>exact YR hd
 |global g=>simp[Qp]at hd
 |func f=>simp only[Qp,zh]at hd;subst hd;exact⟨_,rfl,by simp[PR]⟩
theorem E0(hf:FP F ρ N st fr):∀ {xs:List Operand} {ps:List PV},Mz st xs=some ps->∃vs,Rn C fr xs=some vs/\Bd F ρ N ps vs
 |[],ps,hd=>by simp[Mz]at hd;subst hd;exact⟨[],rfl,by simp⟩
 |x::xs,ps,hd=>by
  unfold Mz at hd;split at hd
  case h_2=>cases hd
  rename_i v vs h1 h2;cases hd;obtain⟨y,g1,g2⟩:=Ce (C:=C) hf h1;obtain⟨ys,g3,g4⟩:=E0 hf h2;exact⟨y::ys,by simp[Rn,g1,g3],by simp[g2,g4]⟩
inductive xQ (F:Fz) (ρ:Ec) (N:Nat):List (Nat×PV)->List (Nat×V)->Prop
 |nil:xQ F ρ N [] []
 |cons {i:Nat} {p:PV} {v:V} {l:List (Nat×PV)} {l':List (Nat×V)}:PR F ρ N p v->xQ F ρ N l l'->xQ F ρ N ((i,p)::l) ((i,v)::l')
theorem Pd(hf:FP F ρ N st fr):∀ {xs:List (Nat×Operand)} {ps:List (Nat×PV)},aG st xs=some ps->∃vs,WW C fr xs=some vs/\xQ F ρ N ps vs
 |[],ps,hd=>by simp[aG]at hd;subst hd;exact⟨[],rfl,.nil⟩
 |(i,x)::xs,ps,hd=>by
  unfold aG at hd;split at hd
  case h_2=>cases hd
  rename_i v vs h1 h2;cases hd;obtain⟨y,g1,g2⟩:=Ce (C:=C) hf h1;obtain⟨ys,g3,g4⟩:=Pd hf h2;exact⟨(i,y)::ys,by simp[WW,g1,g3],.cons g2 g4⟩
structure Rel(B:Nat)(h0:H0)(F:Fz)(ρ:Ec)(st:AK)(fr:Fr)(h:H):Prop where
 fp:FP F ρ st.nx st fr
 sr:SR B h0 F ρ st.nx st.ob h
inductive PO.To:PO->PV->AK->Prop
 |val {v:PV} {st:AK}:PO.To (.val v st) v st
 |tt {a b:PO} {v:PV} {st:AK}:PO.To a v st->PO.To (.ite true a b) v st
 |ff {a b:PO} {v:PV} {st:AK}:PO.To b v st->PO.To (.ite false a b) v st
@[simp] theorem Mf{v:PV}{s:AK}:¬PO.To .bad v s:=by intro h;cases h
@[simp] theorem AQ{v u:PV}{s t:AK}:PO.To (.val v s) u t↔v=u/\s=t:=by
 constructor
 ·intro h;cases h;exact⟨rfl,rfl⟩
 ·rintro⟨rfl,rfl⟩;exact .val
@[simp] theorem BM{c:Bool}{v u:PV}{s t:AK}:PO.To (.H9 c v s) u t↔c=true/\v=u/\s=t:=by
 constructor
 ·intro h;unfold PO.H9 at h;cases h with
  |tt h=>cases h;exact⟨rfl,rfl,rfl⟩
  |ff h=>cases h
 ·rintro⟨rfl,rfl,rfl⟩;exact .tt .val
@[simp] theorem Lh{o:Option PV}{u:PV}{s t:AK}:PO.To (ov s o) u t↔o=some u/\s=t:=by
 cases o with
 |none=>simp[ov]
 |some v=>simp only[ov,AQ,zh]
@[simp] theorem PT{c:Bool}{o:Option PV}{u:PV}{s t:AK}:PO.To (yQ c s o) u t↔c=true/\o=some u/\s=t:=by
 cases o with
 |none=>simp[yQ]
 |some v=>simp only[yQ,BM,zh]
def OK(B:Nat)(h0:H0)(F:Fz)(ρ:Ec)(st:AK)(h:H)(tch:List Nat)(d:Option OR)(v:PV)(st':AK):Prop:=
 ∃v' h' F' ρ',(d=some (.val v' h')\/(d=some (.skip h')/\v'=.tup []))/\PR F' ρ' st'.nx v v'/\SR B h0 F' ρ' st'.nx st'.ob h'/\Le F ρ st.nx F' ρ' st'.nx/\
  st'.fr=st.fr/\st'.n=st.n/\h.nx<=h'.nx/\∀b,b<h.nx->h'.get b=h.get b\/∃id∈tch,∃n,ρ id=some (b,n)
theorem OK.pure{tch:List Nat}(hr:SR B h0 F ρ st.nx st.ob h){d:Option OR}{v:PV}{v':V}(hd:d=some (.val v' h))(hv:PR F ρ st.nx v v'):OK B h0 F ρ st h tch d v st:=
 ⟨v',h,F,ρ,.inl hd,hv,hr,Le.refl,rfl,rfl,z6 _,fun _ _=>.inl rfl⟩
theorem LW{α:Type}(n:Nat)(l:List α):Det.JF n l=l.drop n:=OJ n l
theorem rd_some{h:H}{b off n:Nat}{cs:List V}{t:TypeId}{fz:Nat×Nat}(hg:h.get b=some (.cells cs t fz))(hl:off+n<=cs.length)(hk:∀v∈(cs.drop off).take n,v.ok=true):rd h b off n=some ((cs.drop off).take n):=by
 rw[Yn];unfold yK;rw[hg];simp only;rw[wd ⟨hl,qt.2 hk⟩]
theorem KI{d:TypeDesc}{n:Nat}{ps:List PV}{cs:List V}(hp:Bd F ρ N ps cs){p:PV}(hd:pick d n ps=some p):
  (DW d=true/\0<n/\n<=cs.length/\PR F ρ N p (.agg (cs.take n)))\/(DW d=false/\∃v vs,cs=v::vs/\PR F ρ N p v):=by
 unfold pick at hd;cases ha:DW d with
 |true=>
  left;simp only[ha,we]at hd;rw[CZ,Oe]at hd;cases hb:(zw n ps.length&&ya 0 n)with
  |false=>rw[hb]at hd;cases hd
  |true=>
   rw[hb]at hd;simp only[we,zh]at hd;subst hd;simp only[ze]at hb;obtain⟨hb,hb2⟩:=hb;refine⟨rfl,zf hb2,by rw[<-hp.len];exact zf hb,?_⟩;simp only[PR];exact⟨_,rfl,hp.take n⟩
 |false=>
  right;simp only[ha,wg]at hd;cases ps with
  |nil=>cases hd
  |cons q qs=>
   cases hd;simp only[Bd]at hp;obtain⟨v,vs,rfl,h1,_⟩:=hp;exact⟨rfl,v,vs,rfl,h1⟩
theorem C4:∀ {s:Sh} {x:s.T} {cs:List V},DC F s x cs->Bd F ρ N (flat s x) cs
 | .pair a b,(x,y),cs,h=>by
  simp only[DC]at h;obtain⟨c,d,rfl,h1,h2⟩:=h;exact(C4 h1).append (C4 h2)
 | .unit,_,cs,h=>by simp only[DC]at h;subst h;simp[flat]
 | .int k,x,cs,h=>by simp only[DC]at h;subst h;simp only[flat,A3,B4,wn];simp[PR,DC]
 | .bool,x,cs,h=>by simp only[DC]at h;subst h;simp only[flat,A3,B4,wn];simp[PR,DC]
 | .str,x,cs,h=>by simp only[DC]at h;subst h;simp only[flat,A3,B4,wn];simp[PR,DC]
 | .list s,x,cs,h=>by
  have h':=h;simp only[DC]at h;obtain⟨v,rfl,_⟩:=h;simp only[flat,A3,B4,wn,PR];exact h'
 | .fnv,x,cs,h=>by simp only[DC]at h;subst h;simp only[flat,A3,B4,wn];cases (x:Option Fn)<;>simp[PR]
 | .ptr s,x,cs,h=>by
  simp only[DC]at h;obtain⟨b,o,bs,rfl,h2,h3,h4⟩:=h;simp only[flat,A3,B4,wn,PR];exact⟨b,o,bs,rfl,h2,h3,h4⟩
 | .nlist s,x,cs,h=>by
  have h':=h;simp only[DC]at h;obtain⟨v,rfl,_⟩:=h;simp only[flat,A3,B4,wn,PR];exact h'
theorem FV{α:Type}(l:List α)(a b:Nat):l.drop (a+b)=(l.drop a).drop b:=by rw[List.drop_drop]
theorem GU{T:B3}{t:TypeId}{d:TypeDesc}{i:TI}(hd:T.und t=some d)(hi:T.inf t=some i){b off:Nat}{cs:List V}{te:TypeId}{fz:Nat×Nat}(hg:h.get b=some (.cells cs te fz))
  {m:Nat} (hok:∀v∈(cs.drop off).take m,v.ok=true) {ps:List PV} (hp:Bd F ρ N ps ((cs.drop off).take m)) {p:PV} (hpk:pick d i.size ps=some p):∃v,E5 T h t (.ptr b off)=some v/\PR F ρ N p v:=by
 unfold E5;simp only[hd,hi];have hlen:((cs.drop off).take m).length<=cs.length-off:=by simp;omega
 have hoff:off<=cs.length:=by
  have:0<((cs.drop off).take m).length:=by
   rcases KI hp hpk with⟨_,h0,hn,_⟩|⟨_,v,vs,e,_⟩
   ·omega
   ·rw[e];simp
  simp at this;omega
 rcases KI hp hpk with⟨ha,_,hn,hv⟩|⟨ha,v,vs,hcs,hv⟩
 ·simp only[ha,we];have:(cs.drop off).take i.size=((cs.drop off).take m).take i.size:=by
   rw[List.take_take];have:i.size<=m:=by
    have:=hn;simp at this;omega
   rw[Nat.min_eq_left this]
  rw[rd_some hg (by omega) (fun v hv=>hok v (zt (by rwa [this]at hv)))];refine⟨_,rfl,?_⟩;rw[this];exact hv
 ·simp only[ha,wg];have h1:off+1<=cs.length:=by
   have:((cs.drop off).take m).length=vs.length+1:=by rw[hcs];rfl
   omega
  have h2:(cs.drop off).take 1=[v]:=by
   have:m≠0:=by rintro rfl;simp at hcs
   obtain⟨k,rfl⟩:=Nat.exists_eq_succ_of_ne_zero this;cases hc:cs.drop off with
   |nil=>rw[hc]at hcs;simp at hcs
   |cons a AcJ=>rw[hc]at hcs;simp only[List.take_succ_cons,List.cons.injEq]at hcs;simp[hcs.1]
  rw[rd_some hg h1 (fun u hu=>by rw[h2]at hu;cases zd.1 hu;exact hok v (by rw[hcs];simp)),h2];exact⟨v,rfl,hv⟩
end
section
variable {B:Nat}{h0:H0}{F:Fz}{ρ:Ec}{N:Nat}{C:Ctx}{st st':AK}{fr:Fr}{h:H}
theorem SR.at(hr:SR B h0 F ρ N st.ob h){id:Nat}{o:Obj}(ho:st.obj id=some o):∃b n x,ρ id=some (b,n)/\h.get b=some x/\XA F ρ N n o x/\(o.frozen=false->F b=none)/\
  (o.frozen=true->∃cs t fz,x=.cells cs t fz/\F b=some cs):=hr.obj id o ho
theorem Pp{s:Sh}{l:List s.T}{cs:List V}(hd:Ed F s l cs)(hs:s.sz=1):∀(n j:Nat),j+n=l.length->Bd F ρ N (Oh s l j n) (cs.drop j)
 |0,j,hj=>by
  have:cs.length=l.length:=by rw[hd.1,hs,qf]
  rw[List.drop_eq_nil_of_le (by omega)];unfold Oh;simp
 |n+1,j,hj=>by
  have hl:cs.length=l.length:=by rw[hd.1,hs,qf]
  have hjl:j<l.length:=by omega
  have h1:=hd.2 j hjl;rw[hs,qf]at h1;have e:cs.drop j=(cs.drop j).take 1++cs.drop (j+1):=by
   have:=List.take_append_drop 1 (cs.drop j);rw[List.drop_drop]at this;exact this.symm
  unfold Oh;rw[e,show l.getD j s.G4=l[j]from by simp[hjl]];exact(C4 h1).append (Pp hd hs n (j+1) (by omega))
theorem jD(hr:SR B h0 F ρ st.nx st.ob h){t:TypeId}{p:PV}{a:V}(ha:PR F ρ st.nx p a){v:PV}(ht:(M6 C.T st t p).To v st'):
  OK B h0 F ρ st h [] (Bz h (E5 C.T h t a)) v st':=by
 unfold M6 at ht;split at ht
 case h_2=>simp at ht
 rename_i d i hd hi;split at ht
 case h_4=>simp at ht
 case h_1=>
  rename_i id off;split at ht
  case h_4=>simp at ht
  case h_3=>
   rename_i tb ps ho;simp only[Lh]at ht;obtain⟨hpk,rfl⟩:=ht;obtain⟨b,n,x,h1,h2,⟨cs,fz,rfl,h4,_,hbok⟩,_⟩:=hr.at ho;simp only[PR]at ha;obtain rfl:=ha.2 b n h1;rw[LW]at hpk;obtain⟨v',g1,g2⟩:=GU (h:=h) hd hi h2 (m:=cs.length) (fun u hu=>hbok u (zm (zt hu))) (by rw[zn (by simp)];exact h4.drop off) hpk;exact OK.pure hr (by rw[g1];rfl) g2
  case h_2=>
   rename_i fzb e s l ho;cases hsz:(zg off 0&&zg s.sz 1)with
   |false=>rw[hsz]at ht;simp at ht
   |true=>
    rw[hsz]at ht;simp only[we,PT,w5]at ht;obtain⟨hj,hpk,rfl⟩:=ht;rw[ze]at hsz;have h0:=zc hsz.1;have h1s:=zc hsz.2;subst h0;obtain⟨b,n,x,h1,h2,⟨cs,fz,rfl,h4,_⟩,_⟩:=hr.at ho;simp only[PR]at ha;obtain rfl:=ha.2 b n h1;have hp:=Pp (ρ:=ρ) (N:=st.nx) h4 h1s i.size 0 (by omega);obtain⟨v',g1,g2⟩:=GU (h:=h) hd hi h2 (m:=cs.length) (fun u hu=>h4.ok u (zm (zt hu))) (by rw[zn (by simp)];exact hp) hpk;exact OK.pure hr (by rw[g1];rfl) g2
  rename_i ps ho;simp only[Lh]at ht;obtain⟨hpk,rfl⟩:=ht;obtain⟨b,n,x,h1,h2,⟨cs,te,fz,rfl,h4,_,hbok⟩,_⟩:=hr.at ho;simp only[PR]at ha;obtain rfl:=ha.2 b n h1;rw[LW]at hpk;obtain⟨v',g1,g2⟩:=GU (h:=h) hd hi h2 (m:=cs.length) (fun u hu=>hbok u (zm (zt hu))) (by rw[zn (by simp)];exact h4.drop off) hpk;exact OK.pure hr (by rw[g1];rfl) g2
 case h_2=>
  rename_i id sz j off;split at ht
  case h_2=>simp at ht
  rename_i fzb e s l ho;cases hsz:zg sz s.sz with
  |false=>rw[hsz]at ht;simp at ht
  |true=>
   rw[hsz]at ht;simp only[we,PT,w5]at ht;obtain⟨hj,hpk,rfl⟩:=ht;have hsz:=zc hsz;subst hsz;obtain⟨b,n,x,h1,h2,⟨cs,fz,rfl,h4,_⟩,_⟩:=hr.at ho;simp only[PR]at ha;obtain rfl:=ha.2 b n h1;have hdc:=h4.2 j hj;rw[show l.getD j s.G4=l[j]from by simp[hj],LW]at hpk;have hp:Bd F ρ st.nx ((flat s l[j]).drop off) ((cs.drop (j*s.sz+off)).take (s.sz-off)):=by
    have:=(C4 (F:=F) (ρ:=ρ) (N:=st.nx) hdc).drop off;rw[FV, <-yy]at*;exact this
   obtain⟨v',g1,g2⟩:=GU (h:=h) hd hi h2 (fun u hu=>hdc.ok u (zm (i:=off) (by rw[FV, <-yy]at hu;exact hu))) hp hpk;exact OK.pure hr (by rw[g1];rfl) g2
 case h_3=>
  rename_i s x off;simp only[Lh]at ht;obtain⟨hpk,rfl⟩:=ht;simp only[PR]at ha;obtain⟨b,o,cs,rfl,h1,h2,h3⟩:=ha;obtain⟨te,fz,h4⟩:=hr.frz b cs h1;rw[LW]at hpk;have hp:Bd F ρ st.nx ((flat s x).drop off) ((cs.drop (o+off)).take (s.sz-off)):=by
   have:=(C4 (F:=F) (ρ:=ρ) (N:=st.nx) h3).drop off;rw[FV, <-yy]at*;exact this
  obtain⟨v',g1,g2⟩:=GU (h:=h) hd hi h4 (fun u hu=>h3.ok u (zm (i:=off) (by rw[FV, <-yy]at hu;exact hu))) hp hpk;exact OK.pure hr (by rw[g1];rfl) g2
theorem DC.Tg:∀ {s:Sh} {x:s.T} {cs:List V},DC F s x cs->∀v∈cs,v.one=true
 | .int _,_,_,h=>by simp only[DC]at h;subst h;intro v hv;rw[zd.1 hv];rfl
 | .bool,_,_,h=>by simp only[DC]at h;subst h;intro v hv;rw[zd.1 hv];rfl
 | .str,_,_,h=>by simp only[DC]at h;subst h;intro v hv;rw[zd.1 hv];rfl
 | .list s,l,_,h=>by
  simp only[DC]at h;obtain⟨u,rfl,h⟩:=h;intro v hv;rw[zd.1 hv];rcases h with⟨_,rfl|rfl|rfl⟩|⟨b,off,cap,o,bs,rfl,_⟩<;>rfl
 | .pair a b,x,_,h=>by
  simp only[DC]at h;obtain⟨c,d,rfl,h1,h2⟩:=h;intro v hv;rcases List.mem_append.1 hv with hv|hv
  ·exact h1.Tg v hv
  ·exact h2.Tg v hv
 | .unit,_,_,h=>by simp only[DC]at h;subst h;intro v hv;cases hv
 | .fnv,x,_,h=>by simp only[DC]at h;subst h;intro v hv;rw[zd.1 hv];cases (x:Option Fn)<;>rfl
 | .ptr _,x,_,h=>by simp only[DC]at h;obtain⟨b,o,bs,rfl,_⟩:=h;intro v hv;rw[zd.1 hv];rfl
 | .nlist s,l,_,h=>by
  simp only[DC]at h;obtain⟨u,rfl,h⟩:=h;intro v hv;rw[zd.1 hv];rcases h with⟨_,rfl⟩|⟨_,b,off,cap,o,bs,rfl,_⟩<;>rfl
theorem IJ{o:Option Obj}(h:H8 o=true):∃x,o=some x:=by cases o with|none=>cases h|some x=>exact⟨x,rfl⟩
theorem Rm(hr:SR B h0 F ρ st.nx st.ob h){p:PV}{v:V}(hs:JP st p=true)(hp:PR F ρ st.nx p v):v.one=true:=by
 have key:∀ {id:Nat},H8 (st.obj id)=true->∃b n,ρ id=some (b,n):=by
  intro id hi;obtain⟨o,ho⟩:=IJ hi;obtain⟨b,n,_,h1,_⟩:=hr.at ho;exact⟨b,n,h1⟩
 cases p<;>simp only[JP]at hs<;>simp only[PR]at hp<;>try (cases hs;done)
 case bl=>subst hp;rfl
 case dat=>exact hp.Tg v (zd.2 rfl)
 case nil|nilp|nilm|nilf|nili=>subst hp;rfl
 case ptr=>obtain⟨b,n,h1⟩:=key hs;rw[hp.2 b n h1];rfl
 case eptr=>obtain⟨b,n,h1⟩:=key hs;rw[hp.2 b n h1];rfl
 case CW=>obtain⟨b,o,cs,rfl,_⟩:=hp;rfl
 case sl=>
  obtain⟨b,n,h1⟩:=key hs;rcases hp.2 b n h1 with⟨_,_,o,_,rfl⟩|⟨_,_,_,rfl|⟨_,rfl,_⟩⟩<;>rfl
 case mp|yl=>obtain⟨b,n,h1⟩:=key hs;rw[hp.2 b n h1];rfl
 case fn=>obtain⟨a,b,rfl,_⟩:=hp;rfl
theorem Y9{v:V}(h:v.one=true):v.cells=[v]:=by cases v<;>first|rfl|cases h
theorem Np(hr:SR B h0 F ρ st.nx st.ob h){p:PV}{v:V}{ps:List PV}(hp:PR F ρ st.nx p v)(hd:yT st p=some ps):Bd F ρ st.nx ps v.cells:=by
 unfold yT at hd;split at hd
 ·cases hd;simp only[PR]at hp;obtain⟨cs,rfl,h1⟩:=hp;exact h1
 ·rename_i q hq;cases hs:JP st p with
  |false=>rw[hs]at hd;cases hd
  |true=>
   rw[hs]at hd;cases hd;rw[Y9 (Rm hr hs hp)];simpa using hp
theorem JT(hr:SR B h0 F ρ st.nx st.ob h):∀ {ps:List PV} {vs:List V},ps.all (JP st)=true->Bd F ρ st.nx ps vs->vs.all V.one=true
 |[],vs,_,h=>by simp at h;subst h;rfl
 |p::ps,vs,ha,h=>by
  simp only[Bd]at h;obtain⟨v,vs,rfl,h1,h2⟩:=h;simp only[List.all_cons,ze]at ha ⊢;exact⟨Rm hr ha.1 h1,JT hr ha.2 h2⟩
theorem Bd.JK:∀ {a:List PV} {x:List V} {b:List PV} {y:List V},Bd F ρ N a x->Bd F ρ N b y->Bd F ρ N (JK a b) (JK x y)
 |[],x,b,y,h,h'=>by simp at h;subst h;exact h'
 |p::ps,x,b,y,h,h'=>by
  simp only[Bd]at h;obtain⟨v,vs,rfl,h1,h2⟩:=h;cases b with
  |nil=>simp at h';subst h';show Bd F ρ N [] [];simp
  |cons q qs=>
   simp only[Bd]at h';obtain⟨u,us,rfl,g1,g2⟩:=h';show Bd F ρ N (p::Det.JK ps qs) (v::Det.JK vs us);simp only[A3];exact⟨h1,h2.JK g2⟩
theorem Bd.Cv{a:List PV}{x:List V}(ha:Bd F ρ N a x):∀(n:Nat) {b:List PV} {y:List V},Bd F ρ N b y->Bd F ρ N (Cv n a b) (Cv n x y)
 |0,b,y,h=>ha.JK h
 |n+1,[],y,h=>by simp at h;subst h;show Bd F ρ N [] [];simp
 |n+1,q::qs,y,h=>by
  simp only[Bd]at h;obtain⟨u,us,rfl,g1,g2⟩:=h;show Bd F ρ N (q::je n a qs) (u::je n x us);simp only[A3];exact⟨g1,Bd.Cv ha n g2⟩
theorem G7:∀(l:Ob) (i:Nat) (x:Obj) (j:Nat),(AP l i).isSome=true->AP (DE l i x) j=if j=i then some x else AP l j
 |[],i,x,j,h=>by cases h
 |(a,o)::l,i,x,j,h=>by
  simp only[DE,AP,Br]at h ⊢;by_cases e:a=i
  ·subst e;simp only[decide_true,we,AP,Br];by_cases e2:a=j
   ·subst e2;simp
   ·rw[wc (fun h=>e2 h.symm)];simp[e2]
  ·simp only[e,decide_false,wg]at h ⊢;simp only[AP,Br];by_cases e2:a=j
   ·subst e2;simp[e]
   ·simp only[e2,decide_false,wg];exact G7 l i x j h
theorem M7{b off:Nat}{vs cs:List V}{t:TypeId}{fz:Nat×Nat}(hg:h.get b=some (.cells cs t fz))(hl:off+vs.length<=cs.length)(hfz:fz.2<=fz.1)(ho:vs.all V.one=true):
  wr h b off vs=some (h.put b (.cells (Cv off vs cs) t fz)):=by
 unfold wr;simp only[hg,CZ,Fo,ho];have h1:zw (yk off vs.length) cs.length=true:=Nat.ble_eq_true_of_le hl;have h2:Det.clear fz off vs.length=true:=by
  unfold Det.clear;rw[show zw fz.2 fz.1=true from Nat.ble_eq_true_of_le hfz,Bool.or_true]
 rw[h1,h2];rfl
theorem SR.set(hr:SR B h0 F ρ st.nx st.ob h){id b n:Nat}{o o':Obj}{x x':O}(ho:st.obj id=some o)(hb:ρ id=some (b,n))(hg:h.get b=some x)(hf:o.frozen=false)(hf':o'.frozen=false)
  (hx:XA F ρ st.nx n o' x'):SR B h0 F ρ st.nx (DE st.ob id o') (h.put b x'):=by
 have hob:AP st.ob id=some o:=ho;have hFb:F b=none:=by
  obtain⟨b',n',_,h1,_,_,h2,_⟩:=hr.at ho;rw[hb]at h1;cases h1;exact h2 hf
 have hset:∀j,AP (DE st.ob id o') j=if j=id then some o' else AP st.ob j:=fun j=>G7 _ _ _ _ (by rw[hob];rfl)
 refine⟨fun j oj hj=>?_,fun i j oi oj c m m' hi hj h1 h2=>?_,fun c cs hc=>?_,hr.own,fun j hj=>?_,fun c hc he=>?_,fun c oc hc=>?_,hr.le,hr.fo,hr.gl,fun c hc=>?_⟩
 ·rw[hset]at hj;by_cases e:j=id
  ·subst e;simp only[wk,zh]at hj;subst hj;exact⟨b,n,x',hb,by simp,hx,fun _=>hFb,fun e=>by rw[hf']at e;cases e⟩
  ·rw[wc e]at hj;obtain⟨c,m,y,h1,h2,h3,h4,h5⟩:=hr.obj j oj hj;have hne:c≠b:=fun ec=>e (hr.inj j id oj o c m n hj hob h1 (ec▸hb))
   exact⟨c,m,y,h1,by rw[H.Bq,wc hne];exact h2,h3,h4,h5⟩
 ·have get':∀k ok,AP (DE st.ob id o') k=some ok->∃o2,AP st.ob k=some o2:=by
   intro k ok hk;rw[hset]at hk;by_cases e:k=id
   ·exact⟨o,e▸hob⟩
   ·rw[wc e]at hk;exact⟨ok,hk⟩
  obtain⟨_,g1⟩:=get' i oi hi;obtain⟨_,g2⟩:=get' j oj hj;exact hr.inj i j _ _ c m m' g1 g2 h1 h2
 ·have hne:c≠b:=fun e=>by rw[e,hFb]at hc;cases hc
  rw[H.Bq,wc hne];exact hr.frz c cs hc
 ·rw[hset]at hj;by_cases e:j=id
  ·rw[wd e]at hj;cases hj
  ·rw[wc e]at hj;exact hr.dead j hj
 ·have hne:c≠b:=Nn (hr.own id b n hb).2 hc he;rw[H.Bq,wc hne];exact hr.old c hc he
 ·rw[H.Bq]at hc;by_cases e:c=b
  ·subst e;exact hr.lt _ _ hg
  ·rw[wc e]at hc;exact hr.lt c oc hc
 ·obtain⟨g1,g2,g3⟩:=hr.pn c hc;have hne:c≠b:=fun e=>g3 id n (e▸hb)
  exact⟨by rw[H.Bq,wc hne];exact g1,g2,g3⟩
def BO(ρ:Ec)(i:Nat)(x:Option (Nat×Nat)):Ec:=fun j=>if j=i then x else ρ j
theorem Le.NJ(i:Nat):Le F ρ N F (BO ρ i none) N:=⟨fun _ _ h=>h,fun id _=>by unfold BO;split<;>simp_all,z6 _⟩
theorem Le.new(x:Nat×Nat):Le F ρ N F (BO ρ N (some x)) (N+1):=⟨fun _ _ h=>h,fun id h=>by unfold BO;rw[wc (by omega)];exact .inl rfl,Nat.le_succ _⟩
theorem SR.push{ob:Ob}(hr:SR B h0 F ρ N ob h){o:Obj}{x:O}{n:Nat}(hf:o.frozen=false)(hx:XA F (BO ρ N (some (h.nx,n))) (N+1) n o x):
  SR B h0 F (BO ρ N (some (h.nx,n))) (N+1) ((N,o)::ob) (h.push x):=by
 have hl:Le F ρ N F (BO ρ N (some (h.nx,n))) (N+1):=Le.new _;have hget:∀j,AP ((N,o)::ob) j=if j=N then some o else AP ob j:=by
  intro j;simp only[AP,Br];by_cases e:N=j
  ·subst e;simp
  ·rw[wc (fun h=>e h.symm)];simp[e]
 have hlt:∀id b m,ρ id=some (b,m)->id<N:=fun id b m hb=>(hr.own id b m hb).1
 have hnew:∀b y,h.get b=some y->b≠h.nx:=fun b y hb=>by have:=hr.lt b y hb;omega
 refine⟨fun j oj hj=>?_,fun i j oi oj c m m' hi hj h1 h2=>?_,fun c cs hc=>?_,fun id b m hb=>?_,fun j hj=>?_,fun c hc he=>?_,fun c oc hc=>?_,?_,?_,hr.gl,fun c hc=>?_⟩
 ·rw[hget]at hj;by_cases e:j=N
  ·subst e;simp only[wk,zh]at hj;subst hj;refine⟨h.nx,n,x,by simp[BO],by simp,hx,fun _=>?_,fun e=>by rw[hf]at e;cases e⟩;cases hc:F h.nx with
   |none=>rfl
   |some cs=>
    obtain⟨t,fz,hg⟩:=hr.frz _ _ hc;exact wh rfl (hnew _ _ hg)
  ·rw[wc e]at hj;obtain⟨c,m,y,h1,h2,h3,h4,h5⟩:=hr.obj j oj hj;exact⟨c,m,y,by simp[BO,e,h1],by rw[H.BK,wc (hnew c y h2)];exact h2,h3.mono hl,h4,h5⟩
 ·rw[hget]at hi hj;have key:∀k ok m,(if k=N then some o else AP ob k)=some ok->BO ρ N (some (h.nx,n)) k=some (c,m)->(k=N/\c=h.nx)\/(k≠N/\AP ob k=some ok/\ρ k=some (c,m)/\c≠h.nx):=by
   intro k ok m hk hr';by_cases e:k=N
   ·subst e;simp[BO]at hr';exact .inl ⟨rfl,hr'.1.symm⟩
   ·rw[wc e]at hk;simp only[BO,e,ve]at hr';obtain⟨c',m',y,g1,g2,_⟩:=hr.obj k ok hk;rw[hr']at g1;cases g1;exact .inr ⟨e,hk,hr',hnew c y g2⟩
  rcases key i oi m hi h1 with⟨e1,e2⟩|⟨e1,e2,e3,e4⟩<;>rcases key j oj m' hj h2 with⟨f1,f2⟩|⟨f1,f2,f3,f4⟩
  ·rw[e1,f1]
  ·exact wh e2 f4
  ·exact wh f2 e4
  ·exact hr.inj i j oi oj c m m' e2 f2 e3 f3
 ·obtain⟨t,fz,hg⟩:=hr.frz c cs hc;exact⟨t,fz,by rw[H.BK,wc (hnew c _ hg)];exact hg⟩
 ·unfold BO at hb;split at hb
  ·rename_i e;cases hb;subst e;exact⟨Nat.lt_succ_self _,.inl hr.le⟩
  ·have:=hr.own id b m hb;exact⟨by omega,this.2⟩
 ·rw[hget]at hj;by_cases e:j=N
  ·rw[wd e]at hj;cases hj
  ·rw[wc e]at hj;simp[BO,e,hr.dead j hj]
 ·have:=hr.le;rw[H.BK,wc (by omega)];exact hr.old c hc he
 ·rw[H.BK]at hc;by_cases e:c=h.nx
  ·subst e;exact Nat.lt_succ_self _
  ·rw[wc e]at hc;have:=hr.lt c oc hc;show c<h.nx+1;omega
 ·have:=hr.le;show B<=h.nx+1;omega
 ·exact hr.fo
 ·obtain⟨g1,g2,g3⟩:=hr.pn c hc;have hne:=hnew c _ g1;refine⟨by rw[H.BK,wc hne];exact g1,g2,fun id m e=>?_⟩;unfold BO at e;split at e
  ·cases e;exact hne rfl
  ·exact g3 id m e
theorem D3:∀(l:Ob) (i j:Nat),AP (Gn l i) j=if j=i then none else AP l j
 |[],i,j=>by simp[Gn,AP]
 |(a,o)::l,i,j=>by
  simp only[Gn,Br];by_cases e:a=i
  ·subst e;simp only[decide_true,we];rw[D3 l a j];simp only[AP,Br];by_cases e2:j=a
   ·simp[e2]
   ·rw[wc e2];have e3:¬a=j:=fun h=>e2 h.symm
    simp[e3,e2]
  ·simp only[e,decide_false,wg,AP,Br];rw[D3 l i j];by_cases e2:a=j
   ·subst e2;simp[e]
   ·simp[e2]
theorem SR.del{ob:Ob}(hr:SR B h0 F ρ N ob h)(id:Nat):SR B h0 F (BO ρ id none) N (Gn ob id) h:=by
 have hl:Le F ρ N F (BO ρ id none) N:=Le.NJ id;refine⟨fun j oj hj=>?_,fun i j oi oj c m m' hi hj h1 h2=>?_,hr.frz,fun j b m hb=>?_,fun j hj=>?_,hr.old,hr.lt,hr.le,hr.fo,hr.gl,fun c hc=>?_⟩
 ·rw[D3]at hj;split at hj
  ·cases hj
  ·rename_i e;obtain⟨c,m,y,h1,h2,h3,h4⟩:=hr.obj j oj hj;exact⟨c,m,y,by simp[BO,e,h1],h2,h3.mono hl,h4⟩
 ·rw[D3]at hi hj;split at hi
  ·cases hi
  split at hj
  ·cases hj
  rename_i e1 e2;simp only[BO,e1,e2,ve]at h1 h2;exact hr.inj i j oi oj c m m' hi hj h1 h2
 ·unfold BO at hb;split at hb
  ·cases hb
  ·exact hr.own j b m hb
 ·rw[D3]at hj;unfold BO;split
  ·rfl
  ·rename_i e;rw[wc e]at hj;exact hr.dead j hj
 ·obtain⟨g1,g2,g3⟩:=hr.pn c hc;refine⟨g1,g2,fun j m e=>?_⟩;unfold BO at e;split at e
  ·cases e
  ·exact g3 j m e
theorem SR.kill{ob:Ob}(hr:SR B h0 F ρ N ob h){b:Nat}(h1:∀id o n,AP ob id=some o->ρ id≠some (b,n))(h2:F b=none)(h3:h0.aT B b)(h4:b∉h0.pin):SR B h0 F ρ N ob (h.kill b):=by
 refine⟨fun j oj hj=>?_,hr.inj,fun c cs hc=>?_,hr.own,hr.dead,fun c hc he=>?_,fun c oc hc=>?_,hr.le,hr.fo,hr.gl,fun c hc=>?_⟩
 ·obtain⟨c,m,y,g1,g2,g3⟩:=hr.obj j oj hj;have:c≠b:=fun e=>h1 j oj m hj (e▸g1)
  exact⟨c,m,y,g1,by rw[H.Cb,wc this];exact g2,g3⟩
 ·have:c≠b:=fun e=>by rw[e,h2]at hc;cases hc
  rw[H.Cb,wc this];exact hr.frz c cs hc
 ·have:c≠b:=Nn h3 hc he;rw[H.Cb,wc this];exact hr.old c hc he
 ·rw[H.Cb]at hc;split at hc
  ·cases hc
  ·exact hr.lt c oc hc
 ·obtain⟨g1,g2,g3⟩:=hr.pn c hc;have hne:c≠b:=fun e=>h4 (e▸hc)
  exact⟨by rw[H.Cb,wc hne];exact g1,g2,g3⟩
theorem CB{s s':Sh}{x:s.T}{y:s'.T}(h:D4 s s' x=some y):∃e:s=s',e▸x=y:=by
 unfold D4 at h;split at h
 ·rename_i e;cases h;exact⟨e,rfl⟩
 ·cases h
theorem Gx{s:Sh}{p:PV}{x:s.T}{v:V}(hp:PR F ρ N p v)(hd:tX s p=some x):DC F s x [v]:=by
 unfold tX at hd;split at hd
 ·unfold asP at hd;split at hd
  ·obtain⟨rfl,rfl⟩:=CB hd;simp only[PR]at hp;obtain⟨b,o,cs,rfl,h2,h3,h4⟩:=hp;simp only[DC];exact⟨b,o,cs,rfl,h2,h3,h4⟩
  ·cases hd
 ·obtain⟨rfl,rfl⟩:=CB hd;simpa only[PR]using hp
 ·obtain⟨rfl,rfl⟩:=CB hd;simp only[PR]at hp;subst hp;simp[DC]
 ·obtain⟨rfl,rfl⟩:=CB hd;simp only[PR,B4]at hp;obtain⟨_,_,rfl,rfl,rfl⟩:=hp;simp[DC]
 ·obtain⟨rfl,rfl⟩:=CB hd;simp only[PR]at hp;subst hp;simp[DC]
 ·split at hd
  ·cases hd;simp only[PR]at hp;subst hp;simp[DC]
  ·cases hd;simp only[PR]at hp;subst hp;simp[DC]
  ·cases hd
 ·cases hd
theorem HB:∀ {s:Sh} {ps:List PV} {vs:List V} {x:s.T} {rest:List PV},Bd F ρ N ps vs->Cx s ps=some (x,rest)->∃a b,vs=a++b/\DC F s x a/\Bd F ρ N rest b
 | .pair s t,ps,vs,x,rest,hp,hd=>by
  unfold Cx at hd;split at hd
  case h_2=>cases hd
  rename_i y l1 h1;split at hd
  case h_2=>cases hd
  rename_i z l2 h2;cases hd;obtain⟨a,b,rfl,g1,g2⟩:=HB hp h1;obtain⟨c,d,rfl,g3,g4⟩:=HB g2 h2;exact⟨a++c,d,by simp,by simp only[DC];exact⟨a,c,rfl,g1,g3⟩,g4⟩
 | .unit,ps,vs,x,rest,hp,hd=>by
  unfold Cx at hd;cases hd;exact⟨[],vs,rfl,by simp[DC],hp⟩
 | .int k,[],vs,x,rest,hp,hd=>by simp[Cx]at hd
 | .bool,[],vs,x,rest,hp,hd=>by simp[Cx]at hd
 | .str,[],vs,x,rest,hp,hd=>by simp[Cx]at hd
 | .list s,[],vs,x,rest,hp,hd=>by simp[Cx]at hd
 | .nlist s,[],vs,x,rest,hp,hd=>by simp[Cx]at hd
 | .fnv,[],vs,x,rest,hp,hd=>by simp[Cx]at hd
 | .ptr _,[],vs,x,rest,hp,hd=>by simp[Cx]at hd
 | .int k,p::ps,vs,x,rest,hp,hd=>by
  simp only[Bd]at hp;obtain⟨v,vs,rfl,h1,h2⟩:=hp;simp only[Cx]at hd;split at hd
  ·rename_i y hy;cases hd;exact⟨[v],vs,rfl,Gx h1 hy,h2⟩
  ·cases hd
 | .bool,p::ps,vs,x,rest,hp,hd=>by
  simp only[Bd]at hp;obtain⟨v,vs,rfl,h1,h2⟩:=hp;simp only[Cx]at hd;split at hd
  ·rename_i y hy;cases hd;exact⟨[v],vs,rfl,Gx h1 hy,h2⟩
  ·cases hd
 | .str,p::ps,vs,x,rest,hp,hd=>by
  simp only[Bd]at hp;obtain⟨v,vs,rfl,h1,h2⟩:=hp;simp only[Cx]at hd;split at hd
  ·rename_i y hy;cases hd;exact⟨[v],vs,rfl,Gx h1 hy,h2⟩
  ·cases hd
 | .list s,p::ps,vs,x,rest,hp,hd=>by
  simp only[Bd]at hp;obtain⟨v,vs,rfl,h1,h2⟩:=hp;simp only[Cx]at hd;split at hd
  ·rename_i y hy;cases hd;exact⟨[v],vs,rfl,Gx h1 hy,h2⟩
  ·cases hd
 | .fnv,p::ps,vs,x,rest,hp,hd=>by
  simp only[Bd]at hp;obtain⟨v,vs,rfl,h1,h2⟩:=hp;simp only[Cx]at hd;split at hd
  ·rename_i y hy;cases hd;exact⟨[v],vs,rfl,Gx h1 hy,h2⟩
  ·cases hd
 | .ptr s,p::ps,vs,x,rest,hp,hd=>by
  simp only[Bd]at hp;obtain⟨v,vs,rfl,h1,h2⟩:=hp;simp only[Cx]at hd;split at hd
  ·rename_i y hy;cases hd;exact⟨[v],vs,rfl,Gx h1 hy,h2⟩
  ·cases hd
 | .nlist s,p::ps,vs,x,rest,hp,hd=>by
  simp only[Bd]at hp;obtain⟨v,vs,rfl,h1,h2⟩:=hp;simp only[Cx]at hd;split at hd
  ·rename_i y hy;cases hd;exact⟨[v],vs,rfl,Gx h1 hy,h2⟩
  ·cases hd
theorem CS{s:Sh}{ps:List PV}{vs:List V}{x:s.T}(hp:Bd F ρ N ps vs)(hd:DQ s ps=some x):DC F s x vs:=by
 unfold DQ at hd;split at hd
 ·rename_i y hy;cases hd;obtain⟨a,b,rfl,h1,h2⟩:=HB hp hy;simp at h2;subst h2;simpa using h1
 ·cases hd
theorem UO{v:V}:∀(vs cs:List V) (off:Nat),v∈GN cs off vs->v∈vs\/v∈cs
 |[],cs,off,h=>.inr h
 |u::vs,cs,off,h=>by
  have h:v∈GN (cs.set off u) (off+1) vs:=h;rcases UO vs _ _ h with h|h
  ·exact .inl (List.mem_cons_of_mem _ h)
  ·rcases List.mem_or_eq_of_mem_set h with h|h
   ·exact .inr h
   ·exact .inl (by simp[h])
theorem UK{v:V}{vs cs:List V}{off:Nat}(h:v∈je off vs cs):v∈vs\/v∈cs:=by
 rw[Jd]at h;exact UO _ _ _ h
theorem GS{cs vs:List V}{off:Nat}(hl:off+vs.length<=cs.length)(j:Nat):(Cv off vs cs)[j]?=if off<=j/\j<off+vs.length then vs[j-off]? else cs[j]?:=by
 rw[Jd];exact Qc vs cs off j hl
theorem iM{cs vs:List V}{off:Nat}:(Cv off vs cs).length=cs.length:=by
 rw[Jd];exact Gy vs cs off
theorem yI{cs vs:List V}{m off k:Nat}(hk:off+vs.length<=k)(hl:m+k<=cs.length):((Cv (m+off) vs cs).drop m).take k=Cv off vs ((cs.drop m).take k):=by
 apply qg;intro j;rw[GS (by simp;omega)];by_cases hj:j<k
 ·rw[zj hj,zo,GS (by omega)];by_cases hc:off<=j/\j<off+vs.length
  ·rw[wd hc,wd (by omega)];congr 1;omega
  ·rw[wc hc,wc (by omega),zj hj,zo]
 ·rw[wc (by omega),zi (by simp;omega),zi (by simp;omega)]
theorem sN{cs vs:List V}{m p k:Nat}(hd:p+vs.length<=m\/m+k<=p)(hl:p+vs.length<=cs.length):((Cv p vs cs).drop m).take k=(cs.drop m).take k:=by
 apply qg;intro j;by_cases hj:j<k
 ·rw[zj hj,zj hj,zo,zo,GS hl,wc (by omega)]
 ·rw[zi (by simp;omega),zi (by simp;omega)]
theorem Ed.set{s:Sh}{l:List s.T}{cs vs:List V}{j off:Nat}{y:s.T}(hd:Ed F s l cs)(hj:j<l.length)(hoff:off+vs.length<=s.sz)(hy:DC F s y (Cv off vs ((cs.drop (j*s.sz)).take s.sz))):
  Ed F s (l.set j y) (Cv (j*s.sz+off) vs cs):=by
 have hb:j*s.sz+s.sz<=cs.length:=by
  rw[hd.1, <-zx];exact zu _ hj
 refine⟨by rw[iM,List.length_set];exact hd.1,fun i hi=>?_⟩;have hi':i<l.length:=by simpa using hi
 by_cases e:i=j
 ·subst e;rw[yI hoff hb,List.getElem_set_self];exact hy
 ·rw[List.getElem_set_ne (fun h=>e h.symm),sN ?_ (by omega)]
  ·exact hd.2 i hi'
  ·rcases Nat.lt_or_gt_of_ne e with h1|h1
   ·right;have:(i+1)*s.sz<=j*s.sz:=zu _ h1;rw[zx]at this;omega
   ·left;have:(j+1)*s.sz<=i*s.sz:=zu _ h1;rw[zx]at this;omega
theorem Jk{s:Sh}:∀ {n:Nat} {ps:List PV} {vs:List V} {l:List s.T},Bd F ρ N ps vs->chunk s n ps=some l->vs.length=n*s.sz->l.length=n/\Ed F s l vs
 |0,ps,vs,l,hp,hd,hn=>by
  cases hd;simp at hn;subst hn;exact⟨rfl,by simp[Ed]⟩
 |n+1,ps,vs,l,hp,hd,hn=>by
  unfold chunk at hd;split at hd
  case h_2=>cases hd
  rename_i x rest hx;rw[zp]at hd;obtain⟨l',h1,rfl⟩:=hd;obtain⟨a,b,rfl,h2,h3⟩:=HB hp hx;have ha:=h2.len;have hb:b.length=n*s.sz:=by rw[yx,ha,zx]at hn;omega
  obtain⟨g1,g2⟩:=Jk h3 h1 hb;refine⟨by simp[g1],by rw[yx,ha,hb,List.length_cons,g1,zx];omega,fun i hi=>?_⟩;cases i with
  |zero=>
   simp only[Nat.zero_mul,List.drop_zero,List.getElem_cons_zero];rw[<-ha,List.take_left];exact h2
  |succ i=>
   simp only[List.getElem_cons_succ];have hi':i<l'.length:=by simpa using hi
   have:=g2.2 i hi';have e:(a++b).drop ((i+1)*s.sz)=b.drop (i*s.sz):=by
    rw[zx,Nat.add_comm,FV, <-ha,List.drop_left]
   rw[e];exact this
theorem kB{cs xs:List V}(h:xs.length=cs.length):je 0 xs cs=xs:=by
 apply qg;intro j;rw[GS (by omega)];by_cases hj:j<xs.length
 ·rw[wd (by omega)];rfl
 ·rw[wc (by omega),zi (by omega),zi (by omega)]
theorem mI(hr:SR B h0 F ρ st.nx st.ob h){t:TypeId}{p q:PV}{a x:V}(ha:PR F ρ st.nx p a)(hx:PR F ρ st.nx q x){v:PV}(ht:(WT C.T st t p q).To v st'):
  ∃id,((∃off,p=.ptr id off)\/∃sz j off,p=.eptr id sz j off)/\OK B h0 F ρ st h [id] (cZ (Hr C.T h t a x)) v st':=by
 unfold WT at ht;split at ht
 case h_2=>simp at ht
 rename_i i xs hi hxs;cases hc:(zg (Det.Ez xs) i.size&&Det.Lx (JP st) xs)with
 |false=>rw[hc]at ht;simp at ht
 |true=>
  rw[hc]at ht;simp only[ze]at hc;obtain⟨hc1,hc2⟩:=hc;rw[CZ]at hc1;rw[Fo]at hc2;have hxs':=Np hr hx hxs;have hlen:x.cells.length=i.size:=by rw[<-hxs'.len];exact zc hc1
  have hone:=JT hr hc2 hxs';have hb1:zg x.cells.length i.size=true:=by rw[hlen];exact Nat.beq_refl _
  simp only[we]at ht;split at ht
  case h_3=>simp at ht
  case h_1=>
   rename_i id off;split at ht
   case h_4=>exact wh ht (by simp)
   case h_3=>
    rename_i tb ps ho;cases hble:zw (yk off i.size) (Det.Ez ps)with
    |false=>rw[hble]at ht;simp at ht
    |true=>
     rw[hble]at ht;simp only[we,AQ]at ht;obtain⟨rfl,rfl⟩:=ht;obtain⟨b,n,y,h1,h2,⟨cs,fz,rfl,h4,h5,hbok⟩,hf,_⟩:=hr.at ho;simp only[PR]at ha;obtain rfl:=ha.2 b n h1;rw[CZ]at hble;have hle:off+x.cells.length<=cs.length:=by rw[<-h4.len,hlen];exact zf hble
     refine⟨id,.inl ⟨off,rfl⟩,.tup [],_,F,ρ,.inr ⟨?_,rfl⟩,by simp[PR],hr.set ho h1 h2 rfl rfl (o':=.tbox tb (je off xs ps)) ⟨_,fz,rfl,hxs'.Cv off h4,h5,fun u hu=>(UK hu).elim (fun hu=>V.Mj (qt.1 hone u hu)) (hbok u)⟩,Le.refl,rfl,rfl,z6 _,fun c _=>?_⟩
     ·unfold Hr;simp only[hi,hb1,we];rw[M7 h2 hle h5 hone];rfl
     ·rw[H.Bq];by_cases e:c=b
      ·exact .inr ⟨id,zd.2 rfl,n,e▸h1⟩
      ·rw[wc e];exact .inl rfl
   case h_2=>
    rename_i e s l ho;cases hcc:(zg off 0&&zg s.sz 1)with
    |false=>rw[hcc]at ht;simp at ht
    |true=>
     rw[hcc]at ht;rw[ze]at hcc;have hoff:=zc hcc.1;have hs1:=zc hcc.2;subst hoff;simp only[we]at ht;split at ht
     case h_2=>exact wh ht (by simp)
     rename_i y hy;simp only[BM,w5]at ht;obtain⟨hj,rfl,rfl⟩:=ht;obtain⟨b,n,z,h1,h2,⟨cs,fz,rfl,h4,h5,h6⟩,hf,_⟩:=hr.at ho;simp only[PR]at ha;obtain rfl:=ha.2 b n h1;have hcl:cs.length=x.cells.length:=by rw[h4.1,hs1,qf,hlen];exact hj
     obtain⟨k1,k2⟩:=Jk hxs' hy (by rw[hs1,qf];exact hlen);have hle:0+x.cells.length<=cs.length:=by omega
     refine⟨id,.inl ⟨0,rfl⟩,.tup [],_,F,ρ,.inr ⟨?_,rfl⟩,by simp[PR],hr.set ho h1 h2 rfl rfl (o':=.arr false e s y) ⟨je 0 x.cells cs,fz,rfl,by rw[kB hcl.symm];exact k2,h5,by omega⟩,Le.refl,rfl,rfl,z6 _,fun c _=>?_⟩
     ·unfold Hr;simp only[hi,hb1,we];rw[M7 h2 hle h5 hone];rfl
     ·rw[H.Bq];by_cases e:c=b
      ·exact .inr ⟨id,zd.2 rfl,n,e▸h1⟩
      ·rw[wc e];exact .inl rfl
   rename_i ps ho;cases hble:zw (yk off i.size) (Det.Ez ps)with
   |false=>rw[hble]at ht;simp at ht
   |true=>
    rw[hble]at ht;simp only[we,AQ]at ht;obtain⟨rfl,rfl⟩:=ht;obtain⟨b,n,y,h1,h2,⟨cs,te,fz,rfl,h4,h5,hbok⟩,hf,_⟩:=hr.at ho;simp only[PR]at ha;obtain rfl:=ha.2 b n h1;rw[CZ]at hble;have hle:off+x.cells.length<=cs.length:=by rw[<-h4.len,hlen];exact zf hble
    refine⟨id,.inl ⟨off,rfl⟩,.tup [],_,F,ρ,.inr ⟨?_,rfl⟩,by simp[PR],hr.set ho h1 h2 rfl rfl (o':=.box (je off xs ps)) ⟨_,te,fz,rfl,hxs'.Cv off h4,h5,fun u hu=>(UK hu).elim (fun hu=>V.Mj (qt.1 hone u hu)) (hbok u)⟩,Le.refl,rfl,rfl,z6 _,fun c _=>?_⟩
    ·unfold Hr;simp only[hi,hb1,we];rw[M7 h2 hle h5 hone];rfl
    ·rw[H.Bq];by_cases e:c=b
     ·exact .inr ⟨id,zd.2 rfl,n,e▸h1⟩
     ·rw[wc e];exact .inl rfl
  case h_2=>
   rename_i id sz j off;split at ht
   case h_2=>simp at ht
   rename_i e s l ho;cases hcc:(zg sz s.sz&&zw (yk off i.size) sz)with
   |false=>rw[hcc]at ht;simp at ht
   |true=>
    rw[hcc]at ht;simp only[ze]at hcc;have hsz:=zc hcc.1;have hoff:=zf hcc.2;subst hsz;simp only[we]at ht;split at ht
    case h_2=>simp at ht
    rename_i y hy;simp only[BM,w5]at ht;obtain⟨hj,rfl,rfl⟩:=ht;obtain⟨b,n,z,h1,h2,⟨cs,fz,rfl,h4,h5,h6⟩,hf,_⟩:=hr.at ho;simp only[PR]at ha;obtain rfl:=ha.2 b n h1;rw[show l.getD j s.G4=l[j]from by simp[hj]]at hy;have hfl:=C4 (F:=F) (ρ:=ρ) (N:=st.nx) (h4.2 j hj);have hdc:=CS (hxs'.Cv off hfl) hy;have hset:=Ed.set h4 hj (by rw[hlen];exact hoff) hdc;have hle:j*s.sz+off+x.cells.length<=cs.length:=by
     have:j*s.sz+s.sz<=cs.length:=by rw[h4.1, <-zx];exact zu _ hj
     have:off+i.size<=s.sz:=hoff;omega
    refine⟨id,.inr ⟨_,_,_,rfl⟩,.tup [],_,F,ρ,.inr ⟨?_,rfl⟩,by simp[PR],hr.set ho h1 h2 rfl rfl (o':=.arr false e s (l.set j y)) ⟨_,fz,rfl,hset,h5,by simpa using h6⟩,Le.refl,rfl,rfl,z6 _,fun c _=>?_⟩
    ·unfold Hr;simp only[hi,hb1,we];rw[M7 h2 hle h5 hone];rfl
    ·rw[H.Bq];by_cases e:c=b
     ·exact .inr ⟨id,zd.2 rfl,n,e▸h1⟩
     ·rw[wc e];exact .inl rfl
theorem CH{k:IntKind}{n:Int}{v:V}(h:PR F ρ N (.dat (.int k) n) v):v=.int k n:=by simpa [PR,DC]using h
theorem Fa{s:List UInt8}{v:V}(h:PR F ρ N (.dat .str s) v):v=.str s:=by simpa [PR,DC]using h
theorem Ht{b:Bool}{v:V}(h:PR F ρ N (.dat .bool b) v):v=.bool b:=by simpa [PR,DC]using h
theorem Pb{b:Bool}{v:V}(h:PR F ρ N (.bl b) v):v=.bool b:=by simpa [PR]using h
theorem Dn(k:IntKind)(n:Int):PR F ρ N (.dat (.int k) n) (.int k n):=by simp[PR,DC]
theorem Kf(s:List UInt8):PR F ρ N (.dat .str s) (.str s):=by simp[PR,DC]
theorem DN(b:Bool):PR F ρ N (.dat .bool b) (.bool b):=by simp[PR,DC]
theorem Ic(b:Bool):PR F ρ N (.bl b) (.bool b):=by simp[PR]
theorem HR{p:PV}{b:Bool}{v:V}(h:Ju p=some b)(hp:PR F ρ N p v):v=.bool b:=by
 unfold Ju at h;split at h
 ·cases h;exact Pb hp
 ·cases h;exact Ht hp
 ·cases h
theorem AaG(hr:SR B h0 F ρ st.nx st.ob h){op:BinOp}{k:IntKind}{a b:Int}{v:PV}(ht:(xJ op k a b st).To v st'):OK B h0 F ρ st h [] (Bz h (Pw op k a b)) v st':=by
 unfold xJ at ht;split at ht<;>simp only[Mf,AQ,BM,w5,wm]at ht
 all_goals first
  |(obtain⟨rfl,rfl⟩:=ht;exact OK.pure hr rfl (Dn _ _))
  |(obtain⟨rfl,rfl⟩:=ht;exact OK.pure hr rfl (DN _))
  |(obtain⟨hb,rfl,rfl⟩:=ht;exact OK.pure hr (by simp only[Pw,hb,ve,Bz]) (Dn _ _))
theorem Abv(hr:SR B h0 F ρ st.nx st.ob h){op:BinOp}{k:IntKind}{a b:Int}{v:PV}(ht:(psh op k a b st).To v st'):OK B h0 F ρ st h [] (Bz h (ZU op k a b)) v st':=by
 unfold psh at ht;split at ht<;>simp only[Mf,BM,w5]at ht
 all_goals
  obtain⟨hb,rfl,rfl⟩:=ht;exact OK.pure hr (by simp only[ZU,Int.not_lt.2 hb,ve,Bz]) (Dn _ _)
theorem AaO(hr:SR B h0 F ρ st.nx st.ob h){op:BinOp}{x y:List UInt8}{v:PV}(ht:(wX op x y st).To v st'):OK B h0 F ρ st h [] (Bz h (T6 op x y)) v st':=by
 unfold wX at ht;split at ht<;>simp only[Mf,AQ,BM,w5]at ht
 all_goals first
  |(obtain⟨rfl,rfl⟩:=ht;exact OK.pure hr rfl (DN _))
  |(obtain⟨hb,rfl,rfl⟩:=ht;exact OK.pure hr (by simp only[T6,hb,wk,Bz]) (Kf _))
theorem Q4:∀ {ks:List FK} {ps qs:List PV} {xs ys:List V} {r:Bool},Bd F ρ N ps xs->Bd F ρ N qs ys->G8 ks ps qs=some r->fit ks xs=true/\fit ks ys=true/\BU xs ys=some r
 |[],[],[],xs,ys,r,hx,hy,hd=>by
  simp at hx hy;subst hx hy;simp only[G8,zh]at hd;subst hd;exact⟨rfl,rfl,rfl⟩
 |[],_::_,_,xs,ys,r,hx,hy,hd=>by simp[G8]at hd
 |[],[],_::_,xs,ys,r,hx,hy,hd=>by simp[G8]at hd
 |k::ks,[],_,xs,ys,r,hx,hy,hd=>by cases k<;>simp[G8]at hd
 |k::ks,_::_,[],xs,ys,r,hx,hy,hd=>by cases k<;>simp[G8]at hd
 |k::ks,p::ps,q::qs,xs,ys,r,hx,hy,hd=>by
  simp only[Bd]at hx hy;obtain⟨x,xs,rfl,hx1,hx2⟩:=hx;obtain⟨y,ys,rfl,hy1,hy2⟩:=hy;have key:∀ {c:Bool},k.ok x=true->k.ok y=true->DK x y=some c->(G8 ks ps qs).map (fun r=>c&&r)=some r->fit (k::ks) (x::xs)=true/\fit (k::ks) (y::ys)=true/\BU (x::xs) (y::ys)=some r:=by
   intro c h1 h2 h3 h4;rw[zp]at h4;obtain⟨r',h5,rfl⟩:=h4;obtain⟨g1,g2,g3⟩:=Q4 hx2 hy2 h5;refine⟨by simp[fit,h1,g1],by simp[fit,h2,g2],?_⟩;have hl:xs.length=ys.length:=by rw[<-So g1, <-So g2]
   cases c with
   |true=>simp only[BU,h3,g3,Bool.true_and]
   |false=>simp only[BU,h3,Bool.false_and,hl,wk]
  unfold G8 at hd;split at hd
  case h_1=>rename_i e _ _;cases e
  case h_2=>
   rename_i k' ks' k1 a xs' k2 b ys' e1 e2 e3;cases e1;cases e2;cases e3;cases hk:(k'==k1&&k'==k2)with
   |false=>rw[hk]at hd;cases hd
   |true=>
    rw[hk]at hd;simp only[ze,wj]at hk;obtain⟨rfl,rfl⟩:=hk;obtain rfl:=CH hx1;obtain rfl:=CH hy1;exact key (by simp[FK.ok]) (by simp[FK.ok]) (by simp[DK]) hd
  case h_3=>
   rename_i e1 e2 e3;cases e1;cases e2;cases e3;obtain rfl:=Fa hx1;obtain rfl:=Fa hy1;exact key rfl rfl (by simp[DK]) hd
  case h_4=>
   rename_i e1 e2 e3;cases e1;cases e2;cases e3;split at hd
   case h_2=>cases hd
   rename_i a b ha hb;obtain rfl:=HR ha hx1;obtain rfl:=HR hb hy1;exact key rfl rfl rfl hd
  case h_5=>cases hd
theorem Xi(hr:SR B h0 F ρ st.nx st.ob h){op:BinOp}{t e:TypeId}(hu:C.T.und t=some (.slice e)){p:PV}{x:V}(hx:PR F ρ st.nx p x){ng:Bool}{v:PV}(ht:(Sy st ng p).To v st'):
  (∀(_:x=.nili),False)/\∃b,Bx C.T t x .nils=some b/\PR F ρ st.nx v (.bool (b !=ng))/\LQ C.T op t x .nils=(match op with| .eql=>(Bx C.T t x .nils).map fun b=>.bool b| .neq=>(Bx C.T t x .nils).map fun b=>.bool !b|_=>none)/\st'=st:=by
 have dq:∀ {x:V},x=.nils\/x=.esl\/x=.es0\/(∃b off len cap o,x=.sl b off len cap o)->LQ C.T op t x .nils=(match op with| .eql=>(Bx C.T t x .nils).map fun b=>.bool b| .neq=>(Bx C.T t x .nils).map fun b=>.bool !b|_=>none):=by
  rintro x (rfl|rfl|rfl|⟨b,off,len,cap,o,rfl⟩)<;>cases op<;>rfl
 have no:∀ {x:V},x=.esl\/x=.es0\/(∃b off len cap o,x=.sl b off len cap o)->Bx C.T t x .nils=some false:=by
  rintro x (rfl|rfl|⟨b,off,len,cap,o,rfl⟩)<;>simp[Bx,hu]
 have yes:Bx C.T t .nils .nils=some true:=by simp[Bx,hu]
 unfold Sy at ht;split at ht
 case h_1=>
  simp only[AQ]at ht;obtain⟨rfl,rfl⟩:=ht;simp only[PR]at hx;subst hx;exact⟨fun e=>(by cases e),true,yes,by simp[PR],dq (.inl rfl),rfl⟩
 case h_2=>
  rename_i id sz off len cap;cases hl:H8 (st.obj id)with
  |false=>rw[hl]at ht;simp at ht
  |true=>
   rw[hl]at ht;simp only[we,AQ]at ht;obtain⟨rfl,rfl⟩:=ht;obtain⟨o,ho⟩:=IJ hl;obtain⟨b,n,_,h1,_⟩:=hr.at ho;simp only[PR]at hx;have:x=.esl\/x=.es0\/(∃b off len cap o,x=.sl b off len cap o):=by
    rcases hx.2 b n h1 with⟨_,_,o,_,rfl⟩|⟨rfl,_,_,rfl|⟨_,rfl,_⟩⟩
    ·exact .inr (.inr ⟨_,_,_,_,_,rfl⟩)
    ·exact .inl rfl
    ·exact .inr (.inr ⟨_,_,_,_,_,rfl⟩)
   exact⟨fun e=>(by subst e;rcases this with h|h|⟨_,_,_,_,_,h⟩<;>cases h),false,no this,by simp[PR],dq (.inr this),rfl⟩
 case h_3=>
  rename_i s l;simp only[PR,DC]at hx;obtain⟨u,hu1,hx⟩:=hx;obtain rfl:x=u:=by simpa using hu1
  have ht2:(decide (0<(l:List s.T).length)=true/\v=.bl ng/\st'=st)\/(v=.ub/\st'=st):=by
   generalize decide (0<(l:List s.T).length)=c at ht;cases ht with
   |tt ht=>simp only[AQ]at ht;exact .inl ⟨rfl,ht.1.symm,ht.2.symm⟩
   |ff ht=>simp only[AQ]at ht;exact .inr ⟨ht.1.symm,ht.2.symm⟩
  rcases ht2 with⟨hd,rfl,rfl⟩|⟨rfl,rfl⟩
  ·rcases hx with⟨rfl,_⟩|⟨b,off,cap,o,bs,rfl,_⟩
   ·simp at hd
   ·exact⟨fun e=>(by cases e),false,no (.inr (.inr ⟨_,_,_,_,_,rfl⟩)),by simp[PR],dq (.inr (.inr (.inr ⟨_,_,_,_,_,rfl⟩))),rfl⟩
  ·rcases hx with⟨rfl,rfl|rfl|rfl⟩|⟨b,off,cap,o,bs,rfl,_⟩
   ·exact⟨fun e=>(by cases e),true,yes,by simp[PR],dq (.inl rfl),rfl⟩
   ·exact⟨fun e=>(by cases e),false,no (.inl rfl),by simp[PR],dq (.inr (.inl rfl)),rfl⟩
   ·exact⟨fun e=>(by cases e),false,no (.inr (.inl rfl)),by simp[PR],dq (.inr (.inr (.inl rfl))),rfl⟩
   ·exact⟨fun e=>(by cases e),false,no (.inr (.inr ⟨_,_,_,_,_,rfl⟩)),by simp[PR],dq (.inr (.inr (.inr ⟨_,_,_,_,_,rfl⟩))),rfl⟩
 case h_4=>
  rename_i s l;simp only[AQ]at ht;obtain⟨rfl,rfl⟩:=ht;simp only[PR,DC]at hx;obtain⟨u,hu1,hx⟩:=hx;obtain rfl:x=u:=by simpa using hu1
  rcases hx with⟨rfl,rfl⟩|⟨h0,b,off,cap,o,bs,rfl,_⟩
  ·exact⟨fun e=>(by cases e),true,yes,by cases ng<;>simp[PR,DC],dq (.inl rfl),rfl⟩
  ·have hpos:0<(l:List s.T).length:=List.length_pos_iff.2 h0;exact⟨fun e=>(by cases e),false,no (.inr (.inr ⟨_,_,_,_,_,rfl⟩)),by cases ng<;>simp[PR,DC,hpos],dq (.inr (.inr (.inr ⟨_,_,_,_,_,rfl⟩))),rfl⟩
 case h_5=>simp at ht
theorem VV{o:Option Obj}(h:H8 o=true):∃x,o=some x:=by
 cases o with
 |none=>cases h
 |some x=>exact⟨x,rfl⟩
theorem Q0(hr:SR B h0 F ρ st.nx st.ob h){t e:TypeId}{p q:PV}{x y:V}(hu:C.T.und t=some (.pointer e))(hx:PR F ρ st.nx p x)(hy:PR F ρ st.nx q y){r:Bool}(hd:ptrEq C.T e st p q=some r):
  Bx C.T t x y=some r/\x≠ .nili/\∀op,LQ C.T op t x y=(match op with| .eql=>(Bx C.T t x y).map .bool| .neq=>(Bx C.T t x y).map fun b=>.bool !b|_=>none):=by
 have live:∀ {id off:Nat} {v:V},PR F ρ st.nx (.ptr id off) v->H8 (st.obj id)=true->∃b n,ρ id=some (b,n)/\v=.ptr b off:=by
  intro id off v hv hs;obtain⟨o,ho⟩:=VV hs;obtain⟨b,n,_,h1,_⟩:=hr.at ho;simp only[PR]at hv;exact⟨b,n,h1,hv.2 b n h1⟩
 unfold ptrEq at hd;split at hd
 case h_5=>cases hd
 case h_1=>
  cases hd;simp only[PR]at hx hy;subst hx hy;exact⟨by unfold Bx;rw[hu],(by intro e;cases e),fun op=>by cases op<;>rfl⟩
 case h_2=>
  rename_i id off;cases hs:H8 (st.obj id)with
  |false=>rw[hs]at hd;cases hd
  |true=>
   rw[hs]at hd;cases hd;obtain⟨b,n,_,rfl⟩:=live hx hs;simp only[PR]at hy;subst hy;exact⟨by unfold Bx;rw[hu],(by intro e;cases e),fun op=>by cases op<;>rfl⟩
 case h_3=>
  rename_i id off;cases hs:H8 (st.obj id)with
  |false=>rw[hs]at hd;cases hd
  |true=>
   rw[hs]at hd;cases hd;obtain⟨b,n,_,rfl⟩:=live hy hs;simp only[PR]at hx;subst hx;exact⟨by unfold Bx;rw[hu],(by intro e;cases e),fun op=>by cases op<;>rfl⟩
 case h_4=>
  rename_i a i b j;cases hs:(zg a b&&H8 (st.obj a))with
  |false=>rw[hs]at hd;cases hd
  |true=>
   rw[hs]at hd;rw[ze]at hs;have hab:=zc hs.1;subst hab;simp only[we]at hd;split at hd
   case h_2=>cases hd
   rename_i ti hti;cases hz:ya 0 ti.size with
   |false=>rw[hz]at hd;cases hd
   |true=>
    rw[hz]at hd;cases hd;rw[Nat.blt_eq]at hz;obtain⟨b,n,g1,rfl⟩:=live hx hs.2;obtain⟨b',n',g2,rfl⟩:=live hy hs.2;rw[g1]at g2;cases g2;refine⟨?_,(by intro e;cases e),fun op=>by cases op<;>rfl⟩;unfold Bx;rw[hu];simp only[wk,hti];rw[wd (by omega)];congr 1;rw[Br,Bool.eq_iff_iff];simp
theorem AaS(hr:SR B h0 F ρ st.nx st.ob h){op:BinOp}{t:TypeId}{ox oy:Operand}{p q:PV}{x y:V}(hx:PR F ρ st.nx p x)(hy:PR F ρ st.nx q y){v:PV}(ht:(wN C.T op t p q st).To v st'):
  OK B h0 F ρ st h [] (Bz h (MJ C.T op t ox oy x y)) v st':=by
 have nn:∀ {x y:V},(∀(e:x=.nili),False)->MJ C.T op t ox oy x y=LQ C.T op t x y:=by
  intro x y hn;unfold MJ oU;split
  ·rename_i h;split at h
   ·exact(hn rfl).elim
   ·exact(hn rfl).elim
   ·cases h
  ·rfl
 unfold wN at ht;split at ht
 case h_1=>
  rename_i k a k' b;obtain rfl:=CH hx;obtain rfl:=CH hy;rw[nn (fun e=>by cases e)];cases hs:pB op with
  |true=>
   rw[hs]at ht;simp only[we]at ht;have:=Abv hr ht;unfold LQ;cases op<;>simp only[pB]at hs<;>first|(cases hs;done)|exact this
  |false=>
   rw[hs]at ht;simp only[wg]at ht;cases hk:(k==k')with
   |false=>rw[hk]at ht;simp at ht
   |true=>
    rw[hk]at ht;simp only[we]at ht;have:=AaG hr ht;have hk:=wj.1 hk;subst hk;unfold LQ;cases op<;>simp only[pB]at hs<;>first|(cases hs;done)|(simp only[wk];exact this)
 case h_2=>
  rename_i a b;obtain rfl:=Fa hx;obtain rfl:=Fa hy;rw[nn (fun e=>by cases e)];have:=AaO hr ht;unfold LQ;cases op<;>exact this
 case h_3=>
  rename_i ps qs;simp only[PR]at hx hy;obtain⟨xs,rfl,hx⟩:=hx;obtain⟨ys,rfl,hy⟩:=hy;rw[nn (fun e=>by cases e)];split at ht
  case h_2=>simp at ht
  rename_i ks hks;have eq:∀ {r:Bool},G8 ks ps qs=some r->Bx C.T t (.agg xs) (.agg ys)=some r:=by
   intro r hr';obtain⟨g1,g2,g3⟩:=Q4 hx hy hr';have:MT (C.T.flat t) xs ys=some r:=by simp[MT,hks,g1,g2,g3]
   unfold Bx;split<;>first|exact this|(simp_all;done)
  split at ht
  case h_1=>
   rename_i r hr';simp only[AQ]at ht;obtain⟨rfl,rfl⟩:=ht;exact OK.pure hr (by show Bz h ((Bx C.T t (.agg xs) (.agg ys)).map _)=_;rw[eq hr'];rfl) (DN _)
  case h_2=>
   rename_i r hr';simp only[AQ]at ht;obtain⟨rfl,rfl⟩:=ht;exact OK.pure hr (by show Bz h ((Bx C.T t (.agg xs) (.agg ys)).map _)=_;rw[eq hr'];rfl) (DN _)
  case h_3=>simp at ht
 case h_4=>
  split at ht
  case h_4=>simp at ht
  case h_3=>
   rename_i e _ _ hu;split at ht
   case h_3=>simp at ht
   case h_1=>
    rename_i r he;simp only[AQ]at ht;obtain⟨rfl,rfl⟩:=ht;obtain⟨k1,k2,k3⟩:=Q0 hr hu hx hy he;rw[nn k2,k3];exact OK.pure hr (by simp only[k1];rfl) (Ic _)
   case h_2=>
    rename_i r he;simp only[AQ]at ht;obtain⟨rfl,rfl⟩:=ht;obtain⟨k1,k2,k3⟩:=Q0 hr hu hx hy he;rw[nn k2,k3];exact OK.pure hr (by simp only[k1];rfl) (Ic _)
  case h_2=>
   rename_i e _ _ hu;unfold jO at ht;split at ht
   case h_3=>simp at ht
   case h_1=>
    have hs:=Xi (op:=.eql) hr hu hx ht;obtain⟨hn,b,h1,h2,h3,e⟩:=hs;subst e;simp only[PR]at hy;subst hy;rw[nn hn,h3];exact OK.pure hr (v':=.bool b) (by simp only[h1];rfl) (by simpa using h2)
   case h_2=>
    have hs:=Xi (op:=.neq) hr hu hx ht;obtain⟨hn,b,h1,h2,h3,e⟩:=hs;subst e;simp only[PR]at hy;subst hy;rw[nn hn,h3];exact OK.pure hr (v':=.bool (!b)) (by simp only[h1];rfl) (by simpa using h2)
  rename_i a b ha hb hu;obtain rfl:=HR ha hx;obtain rfl:=HR hb hy;rw[nn (fun e=>by cases e)];have eq:Bx C.T t (.bool a) (.bool b)=some (a==b):=by unfold Bx;rw[hu]
  split at ht
  case h_1=>
   simp only[AQ]at ht;obtain⟨rfl,rfl⟩:=ht;exact OK.pure hr (by show Bz h ((Bx C.T t (.bool a) (.bool b)).map _)=_;rw[eq];rfl) (DN _)
  case h_2=>
   simp only[AQ]at ht;obtain⟨rfl,rfl⟩:=ht;exact OK.pure hr (by show Bz h ((Bx C.T t (.bool a) (.bool b)).map _)=_;rw[eq];rfl) (DN _)
  case h_3=>simp at ht
theorem AbJ(hr:SR B h0 F ρ st.nx st.ob h){op:UnOp}{p:PV}{x:V}(hx:PR F ρ st.nx p x){v:PV}(ht:(pun op p st).To v st'):OK B h0 F ρ st h [] (Bz h (zZ op x)) v st':=by
 unfold pun at ht;split at ht<;>simp only[Mf,AQ]at ht
 ·obtain⟨rfl,rfl⟩:=ht;obtain rfl:=CH hx;exact OK.pure hr rfl (Dn _ _)
 ·obtain⟨rfl,rfl⟩:=ht;obtain rfl:=Pb hx;exact OK.pure hr rfl (Ic _)
 ·obtain⟨rfl,rfl⟩:=ht;simp only[PR]at hx;obtain⟨b,rfl⟩:=hx;exact OK.pure hr (v':=.bool (!b)) rfl (by simp[PR])
 ·obtain⟨rfl,rfl⟩:=ht;obtain rfl:=Ht hx;exact OK.pure hr rfl (DN _)
theorem uP(hr:SR B h0 F ρ st.nx st.ob h){s d:TypeId}{p:PV}{x:V}(hx:PR F ρ st.nx p x){v:PV}(ht:(jQ C.T s d p st).To v st'):OK B h0 F ρ st h [] (Bz h (FQ C.T h s d x)) v st':=by
 unfold jQ at ht;split at ht<;>simp only[Mf,AQ]at ht
 ·rename_i h1 h2;obtain⟨rfl,rfl⟩:=ht;obtain rfl:=CH hx;exact OK.pure hr (by simp[FQ,h1,h2,Bz]) (Dn _ _)
 ·rename_i h1 h2;obtain⟨rfl,rfl⟩:=ht;obtain rfl:=Fa hx;exact OK.pure hr (by simp[FQ,h1,h2,Bz]) (Kf _)
theorem uL(hr:SR B h0 F ρ st.nx st.ob h){c a b:PV}{x y z:V}(hc:PR F ρ st.nx c x)(ha:PR F ρ st.nx a y)(hb:PR F ρ st.nx b z){v:PV}(ht:(dR c a b st).To v st'):
  ∃t,x=.bool t/\OK B h0 F ρ st h [] (Bz h (some (if t then y else z))) v st':=by
 unfold dR at ht;split at ht
 case h_3=>simp at ht
 case h_1=>
  rename_i t;simp only[AQ]at ht;obtain⟨rfl,rfl⟩:=ht;refine⟨t,Pb hc,OK.pure hr rfl ?_⟩;cases t<;>assumption
 case h_2=>
  rename_i t;refine⟨t,Ht hc,?_⟩;split at ht
  case h_1=>
   simp only[AQ]at ht;obtain⟨rfl,rfl⟩:=ht;obtain rfl:=Ht ha;obtain rfl:=Pb hb;refine OK.pure hr rfl ?_;cases t<;>exact DN _
  case h_2=>
   simp only[AQ]at ht;obtain⟨rfl,rfl⟩:=ht;obtain rfl:=Pb ha;obtain rfl:=Ht hb;refine OK.pure hr rfl ?_;cases t<;>exact DN _
  case h_3=>
   cases ht with
   |tt h=>simp only[AQ]at h;obtain⟨rfl,rfl⟩:=h;exact OK.pure hr rfl ha
   |ff h=>simp only[AQ]at h;obtain⟨rfl,rfl⟩:=h;exact OK.pure hr rfl hb
theorem qR(hr:SR B h0 F ρ st.nx st.ob h){t:TypeId}{p:PV}{x:V}(hx:PR F ρ st.nx p x){f:Nat}{v:PV}(ht:(VT C.T t p f st).To v st'):OK B h0 F ρ st h [] (Bz h (Kj C.T t x f)) v st':=by
 unfold VT at ht;split at ht
 case h_2=>simp at ht
 rename_i fs ps hu;split at ht
 case h_2=>simp at ht
 rename_i fd hfd;split at ht
 case h_2=>simp at ht
 rename_i d i hd hi;simp only[Lh]at ht;obtain⟨hpk,rfl⟩:=ht;simp only[PR]at hx;obtain⟨cs,rfl,hps⟩:=hx;rw[LW]at hpk;have hp:=hps.drop fd.offset;rcases KI hp hpk with⟨ha,_,hn,hv⟩|⟨ha,u,us,e,hv⟩
 ·exact OK.pure hr (by simp only[Kj,hu,hfd,LO,hd,hi,ha,we,Bz]) hv
 ·have:cs[fd.offset]?=some u:=by
   have:=wi (·[0]?) e;simpa using this
  exact OK.pure hr (by simp only[Kj,hu,hfd,LO,hd,hi,ha,wg,this,Bz]) hv
theorem pQ(hr:SR B h0 F ρ st.nx st.ob h){t:TypeId}{p:PV}{x:V}(hx:PR F ρ st.nx p x){f:Nat}{v:PV}(ht:(VM C.T t p f st).To v st'):
  OK B h0 F ρ st h [] (Bz h (Kc C.T t x f)) v st':=by
 have live:∀ {id},H8 (st.obj id)=true->∃b n,ρ id=some (b,n):=by
  intro id hi;obtain⟨o,ho⟩:=IJ hi;obtain⟨b,n,_,h1,_⟩:=hr.at ho;exact⟨b,n,h1⟩
 unfold VM at ht;split at ht
 case h_2=>simp at ht
 rename_i fs hu;split at ht
 case h_2=>simp at ht
 rename_i fd hfd;split at ht
 case h_2=>simp at ht
 rename_i i hi;cases hz:zg i.size 0 with
 |true=>rw[hz]at ht;simp at ht
 |false=>
  have hz':i.size≠0:=by intro e;rw[e]at hz;cases hz
  rw[hz]at ht;simp only[wg]at ht;have core:∀b off,Kc C.T t (.ptr b off) f=some (.ptr b (off+fd.offset)):=by
   intro b off;simp only[Kc,hu,hfd,hi,hz',ve]
  split at ht
  ·rename_i id off;cases hl:H8 (st.obj id)with
   |false=>rw[hl]at ht;simp at ht
   |true=>
   rw[hl]at ht;simp only[we,AQ]at ht;obtain⟨rfl,rfl⟩:=ht;have hx':=hx;simp only[PR]at hx';obtain⟨b,n,h1⟩:=live hl;obtain rfl:=hx'.2 b n h1;refine OK.pure hr (by rw[core];rfl) ?_;simp only[PR];exact⟨hx'.1,fun b' n' hb=>by rw[h1]at hb;cases hb;rfl⟩
  ·rename_i id sz j off;cases hl:H8 (st.obj id)with
   |false=>rw[hl]at ht;simp at ht
   |true=>
   rw[hl]at ht;simp only[we,AQ]at ht;obtain⟨rfl,rfl⟩:=ht;have hx':=hx;simp only[PR]at hx';obtain⟨b,n,h1⟩:=live hl;obtain rfl:=hx'.2 b n h1;refine OK.pure hr (by rw[core];rfl) ?_;simp only[PR];exact⟨hx'.1,fun b' n' hb=>by rw[h1]at hb;cases hb;simp[Nat.add_assoc]⟩
  ·rename_i s y off;simp only[AQ]at ht;obtain⟨rfl,rfl⟩:=ht;simp only[PR]at hx;obtain⟨b,o,cs,rfl,h1,h2⟩:=hx;refine OK.pure hr (by rw[core];rfl) ?_;simp only[PR];exact⟨b,o,cs,by simp[Nat.add_assoc],h1,h2⟩
  ·simp at ht
end
end Go.Pe
