import Derived.Test.YtbmofcgiokkikaaGreatDoorX06
import Derived.Shelf.Strings.OnBuilder
import Derived.Shelf.Strconv.Itoa3
import Derived.Lib.LaidTab
import Derived.Lib.AppendIntMem
/- A part of a proof; no law is stated here. -/
noncomputable section
set_option maxRecDepth 100000
open Bool renaming and_eq_true -> zc
open Nat renaming eq_of_beq_eq_true -> zd, beq -> ze, mul_le_mul_right -> zg, le_refl -> zj, lt_of_lt_of_le -> zk, ble_eq_true_of_le -> zp, blt -> zt, succ_mul -> zu, ble -> zx, le_of_ble_eq_true -> z7, add -> ya, beq_refl -> yj, mul_one -> yo
open Option renaming map_eq_some_iff -> zf
open List renaming replicate -> zh, take_of_length_le -> zm, mem_singleton -> zn, drop_take -> zr, getElem?_take_of_lt -> zw, ext_getElem? -> z6, getElem?_drop -> ye, drop_eq_getElem_cons -> yf, all_eq_true -> yi, getElem_cons_zero -> yk, length_nil -> ym, drop_drop -> yp
open Option.some renaming injEq -> zi
open Go.Proofs.Tryz renaming prog -> zl, underlying302 -> zy, underlying9 -> z8, underlying217 -> yc, underlying251 -> yd, zeroValue217 -> yg
open Go.Lib renaming decDigits -> zo, nDigits -> zz, zeros24 -> yh
open Array renaming size_replicate -> zq, getElem?_append_left -> yb
open Go.Det.V renaming ok -> yn
open Go.Value renaming int -> yq
open Go.Det renaming CL -> yr
open Int renaming ofNat -> yt
namespace Go.Det
section
open Go.Proofs.Tryz (prog)
def A7:CM:=[(8,[],.bool true)]
theorem Adm:AV C72 1000 A7=true:=by kernel_rfl
theorem spA:HY prog (Ij A7):=Ug AdD fT Nd Adm
end
open Go.Proofs
def Hg:Go.Shelf.Ren:=⟨fun|171=>209|243=>238|246=>271|283=>272|284=>273|285=>274|286=>275|129=>229|317=>289|318=>290|319=>291|320=>292|337=>299|338=>300|n=>n,fun|3=>3|9=>9|2=>2|4=>4|171=>302|0=>0|53=>217|37=>251|5=>5|173=>304|212=>325|51=>264|20=>20|213=>326|46=>233|232=>337|233=>338|n=>n,fun|17=>5|18=>8|19=>9|n=>n⟩
theorem IM:Go.Proofs.LaysM.n171 Go.Proofs.Tryz.prog Hg:=
  { mixed:=by kernel_rfl,f129:=Go.Proofs.Tryz.func229.trans (wi some ag),f171:=Go.Proofs.Tryz.func209.trans (wi some ag),f243:=Go.Proofs.Tryz.func238.trans (wi some ag),f246:=Go.Proofs.Tryz.func271.trans (wi some ag),f283:=Go.Proofs.Tryz.func272.trans (wi some ag),f284:=Go.Proofs.Tryz.func273.trans (wi some ag),f285:=Go.Proofs.Tryz.func274.trans (wi some ag),f286:=Go.Proofs.Tryz.func275.trans (wi some ag),f317:=Go.Proofs.Tryz.func289.trans (wi some ag),f318:=Go.Proofs.Tryz.func290.trans (wi some ag),f319:=Go.Proofs.Tryz.func291.trans (wi some ag),f320:=Go.Proofs.Tryz.func292.trans (wi some ag),f337:=Go.Proofs.Tryz.func299.trans (wi some ag),f338:=Go.Proofs.Tryz.func300.trans (wi some ag),t0:=Go.Proofs.Tryz.underlying0,a0:=Go.Proofs.Tryz.isAgg0,z0:=Go.Proofs.Tryz.sizeOf0,v0:=Go.Proofs.Tryz.zeroValue0,t2:=Go.Proofs.Tryz.underlying2,a2:=Go.Proofs.Tryz.isAgg2,z2:=Go.Proofs.Tryz.sizeOf2,v2:=Go.Proofs.Tryz.zeroValue2,t3:=Go.Proofs.Tryz.underlying3,a3:=Go.Proofs.Tryz.isAgg3,z3:=Go.Proofs.Tryz.sizeOf3,v3:=Go.Proofs.Tryz.zeroValue3,t4:=Go.Proofs.Tryz.underlying4,a4:=Go.Proofs.Tryz.isAgg4,z4:=Go.Proofs.Tryz.sizeOf4,v4:=Go.Proofs.Tryz.zeroValue4,t5:=Go.Proofs.Tryz.underlying5,a5:=Go.Proofs.Tryz.isAgg5,z5:=Go.Proofs.Tryz.sizeOf5,v5:=Go.Proofs.Tryz.zeroValue5,t9:=Go.Proofs.Tryz.underlying9,a9:=Go.Proofs.Tryz.isAgg9,z9:=Go.Proofs.Tryz.sizeOf9,v9:=Go.Proofs.Tryz.zeroValue9,t20:=Go.Proofs.Tryz.underlying20,a20:=Go.Proofs.Tryz.isAgg20,z20:=Go.Proofs.Tryz.sizeOf20,v20:=Go.Proofs.Tryz.zeroValue20,t37:=Go.Proofs.Tryz.underlying251,a37:=Go.Proofs.Tryz.isAgg251,z37:=Go.Proofs.Tryz.sizeOf251,v37:=Go.Proofs.Tryz.zeroValue251,t46:=Go.Proofs.Tryz.underlying233,a46:=Go.Proofs.Tryz.isAgg233,z46:=Go.Proofs.Tryz.sizeOf233,v46:=Go.Proofs.Tryz.zeroValue233,t51:=Go.Proofs.Tryz.underlying264,a51:=Go.Proofs.Tryz.isAgg264,z51:=Go.Proofs.Tryz.sizeOf264,v51:=Go.Proofs.Tryz.zeroValue264,t53:=Go.Proofs.Tryz.underlying217,a53:=Go.Proofs.Tryz.isAgg217,z53:=Go.Proofs.Tryz.sizeOf217,v53:=Go.Proofs.Tryz.zeroValue217,t171:=Go.Proofs.Tryz.underlying302,a171:=Go.Proofs.Tryz.isAgg302,z171:=Go.Proofs.Tryz.sizeOf302,v171:=Go.Proofs.Tryz.zeroValue302,t173:=Go.Proofs.Tryz.underlying304,a173:=Go.Proofs.Tryz.isAgg304,z173:=Go.Proofs.Tryz.sizeOf304,v173:=Go.Proofs.Tryz.zeroValue304,t212:=Go.Proofs.Tryz.underlying325,a212:=Go.Proofs.Tryz.isAgg325,z212:=Go.Proofs.Tryz.sizeOf325,v212:=Go.Proofs.Tryz.zeroValue325,t213:=Go.Proofs.Tryz.underlying326,a213:=Go.Proofs.Tryz.isAgg326,z213:=Go.Proofs.Tryz.sizeOf326,t232:=Go.Proofs.Tryz.underlying337,a232:=Go.Proofs.Tryz.isAgg337,z232:=Go.Proofs.Tryz.sizeOf337,v232:=Go.Proofs.Tryz.zeroValue337,t233:=Go.Proofs.Tryz.underlying338,a233:=Go.Proofs.Tryz.isAgg338,z233:=Go.Proofs.Tryz.sizeOf338,v233:=Go.Proofs.Tryz.zeroValue338,g17:=by kernel_rfl,g18:=by kernel_rfl,g19:=by kernel_rfl,i0:=by kernel_rfl,i2:=by kernel_rfl,i3:=by kernel_rfl,i4:=by kernel_rfl,i5:=by kernel_rfl,i9:=by kernel_rfl,i20:=by kernel_rfl,i37:=by kernel_rfl,i46:=by kernel_rfl,i51:=by kernel_rfl,i53:=by kernel_rfl,i171:=by kernel_rfl,i173:=by kernel_rfl,i212:=by kernel_rfl,i232:=by kernel_rfl,i233:=by kernel_rfl,m17:=by kernel_rfl,m18:=by kernel_rfl,m19:=by kernel_rfl }
open Go.Proofs.Tryz (prog)
def eqU:List V->List Int->Bool
 |[],[]=>true
 | .int .u64 n::l,m::r=>bif decide (n=m)then eqU l r else false
 |_,_=>false
theorem bS{p:Pl}:∀ {cs:List V} {r:List Int} {vs:List Value},eqU cs r=true->Ay p cs vs->vs=r.map fun z=>yq .u64 z
 |[],[],vs,_,h=>by simpa using h
 | .int .u64 n::l,m::r,vs,a,h=>by
  unfold eqU at a;cases b:decide (n=m)with
  |false=>rw[b]at a;cases a
  |true=>
   rw[b]at a;have e:=w6 b;subst e;cases vs with
   |nil=>simp at h
   |cons v vs=>
    simp only[Bm,Ae]at h;rw[h.1,bS a h.2];rfl
def Vu(h:H):Bool:=match h.get 5 with
 |some (.cells cs _ _)=>eqU cs Lib.pow10Tab
 |_=>false
def dZ:List V->H->Option (V×H)
 |[.int .i64 n],h=>bif Vu h&&decide (-9223372036854775808<=n)&&decide (n<=9223372036854775807)then some (.str<|Lib.itoa n,h)else none
 |_,_=>none
def rG:Zs:=fun f=>bif ze f 209 then some dZ else none
theorem oJ:∀ {cs:List V} {r:List Int},eqU cs r=true->cs.length=r.length/\∀d∈cs,d.ok=true
 |[],[],_=>⟨rfl,fun d a=>by cases a⟩
 | .int .u64 n::l,m::r,b=>by
  unfold eqU at b;cases a:decide (n=m)with
  |false=>rw[a]at b;cases b
  |true=>
   rw[a]at b;obtain⟨c,e⟩:=oJ (cs:=l) (r:=r) b;refine⟨by simp[c],fun d a=>?_⟩;rcases List.mem_cons.1 a with rfl|a
   ·rfl
   ·exact e d a
theorem AeZ : prog.globalNamed "internal/strconv.uint64pow10" = some 5 := by kernel_rfl
theorem at5{p:Pl}(a:Gp p):p[5]?=some (5,20):=a _<|List.mem_cons_self ..
theorem ZX {p : Pl} {h : H} {w : World} (hr : R p h w) (f : Gp p) (a : Vu h = true) : Lib.TabIs prog w "internal/strconv.uint64pow10" .u64 Lib.pow10Tab := by
 unfold Vu at a;split at a
 case h_2=>cases a
 rename_i cs t fz g;obtain⟨r,n,x,d,i,c,fz',rfl,l,m,e,_⟩:=hr.obj 5 _ g;rw[at5 f]at d;cases d;obtain⟨e1,e2⟩:=oJ a;have k:cs.length=20:=e1.trans rfl;have b:c.toList.take cs.length=c.toList:=zm (by simp;omega);rw[b]at e;have j:=bS a (e.KP e2);unfold Lib.TabIs World.var?;rw[AeZ];show(match w.heap[5]? with
  |some (.cells cs _ _)=>some cs
  |_=>none)=_
 rw[i];show some c=_;rw[<-j]
theorem kD:HY prog rG:=by
 intro f q c p h w args args' v h' hr i l a;unfold rG at c;cases d:ze f 209 with
 |false=>rw[d]at c;cases c
 |true=>
  rw[d]at c;cases c;cases zd d;unfold dZ at a;split at a
  case h_2=>cases a
  rename_i n;cases b:(Vu h&&decide (-9223372036854775808<=n)&&decide (n<=9223372036854775807))with
  |false=>rw[b]at a;cases a
  |true=>
   rw[b]at a;cases a;rw[zc,zc,w5,w5]at b;obtain⟨x,m,g⟩:=l.one;have:args'= #[x]:=Array.toList_inj.1 m;subst this;simp only[Ae]at g;subst g;refine(Any.strconv_Itoa IM n b.1.2 b.2 w<|ZX hr i b.1.1).mono ?_;rintro e w' ⟨rfl,k,os,rfl⟩;exact⟨_,p,rfl,by simp only[Ae];rfl,NM hr ⟨rfl,rfl,rfl,by show w.heap.size<=(w.heap++os).size;rw[Array.size_append];omega,fun j o=>by show(w.heap++os)[j]?=_;exact yb o⟩<|by show w.drawn<=w.drawn+k;omega⟩
end Go.Det
namespace Go.Proofs
open Go.Shelf Go.RowKit Go.Sort Go.Lib Go.Det
namespace FmtU
set_option maxHeartbeats 6400000 in
theorem small(i:Nat)(q:i<100)(w:World):Calls zl 243 #[.int .u64 i,.int .i64 10] w fun e w'=>e=.returned (.string ⟨(zo i).toArray⟩)/\w'=w:=by
 have mixed:=IM.mixed;have t3:=Tryz.underlying3;have a3:=Tryz.isAgg3;have z3:=Tryz.sizeOf3;have v3:=Tryz.zeroValue3;have t9:=z8;have a9:=Tryz.isAgg9;have z9:=Tryz.sizeOf9;have v9:=Tryz.zeroValue9;have t4:=Tryz.underlying4;have a4:=Tryz.isAgg4;have z4:=Tryz.sizeOf4;have v4:=Tryz.zeroValue4;have g:=yc;have b:=Tryz.isAgg217;have a:=Tryz.sizeOf217;have f:=yg;have c:=zy;have o:=Tryz.isAgg302;have m:=Tryz.sizeOf302;have d:=Tryz.zeroValue302;have t0:=Tryz.underlying0;have a0:=Tryz.isAgg0;have z0:=Tryz.sizeOf0;have v0:=Tryz.zeroValue0;have p:=yd;have n:=Tryz.isAgg251;have k:=Tryz.sizeOf251;have l:=Tryz.zeroValue251;have t5:=Tryz.underlying5;have a5:=Tryz.isAgg5;have z5:=Tryz.sizeOf5;have v5:=Tryz.zeroValue5;have j:∀args w,(callFunc 272 args).run zl w=.ok (.enter 272 args) w:=enters_of Tryz.func272 ag rfl;go_enter Tryz.func243,Tryz.ntmps243
 go_wp2_with (go_at_fn 272;refine(Any.internal_strconv_small (ρ:=Hg) { IM with } i q _).mono ?_;rintro e w' ⟨rfl,rfl⟩)
 go_ret
 exact⟨rfl,rfl⟩
set_option maxHeartbeats 6400000 in
theorem big (u : Nat) (O : 100 <= u) (a : u < 18446744073709551616) (w : World) (g : Lib.TabIs Tryz.prog w "internal/strconv.uint64pow10" .u64 Lib.pow10Tab) :
  Calls zl 243 #[.int .u64 u,.int .i64 10] w fun e w'=>e=.returned (.string ⟨(zo u).toArray⟩)/\∃k os,w'=grow (w.drewN k) os:=by
 have mixed:=IM.mixed;have t3:=Tryz.underlying3;have a3:=Tryz.isAgg3;have z3:=Tryz.sizeOf3;have v3:=Tryz.zeroValue3;have t9:=z8;have a9:=Tryz.isAgg9;have z9:=Tryz.sizeOf9;have v9:=Tryz.zeroValue9;have t4:=Tryz.underlying4;have a4:=Tryz.isAgg4;have z4:=Tryz.sizeOf4;have v4:=Tryz.zeroValue4;have y:=yc;have r:=Tryz.isAgg217;have q:=Tryz.sizeOf217;have x:=yg;have s:=zy;have I:=Tryz.isAgg302;have D:=Tryz.sizeOf302;have t:=Tryz.zeroValue302;have t0:=Tryz.underlying0;have a0:=Tryz.isAgg0;have z0:=Tryz.sizeOf0;have v0:=Tryz.zeroValue0;have J:=yd;have G:=Tryz.isAgg251;have z:=Tryz.sizeOf251;have A:=Tryz.zeroValue251;have t5:=Tryz.underlying5;have a5:=Tryz.isAgg5;have z5:=Tryz.sizeOf5;have v5:=Tryz.zeroValue5;have E:∀args w,(callFunc 273 args).run zl w=.ok (.enter 273 args) w:=enters_of Tryz.func273 ag rfl;have v:∀args w,(callFunc 274 args).run zl w=.ok (.enter 274 args) w:=enters_of Tryz.func274 ag rfl;have l:1<=u:=ae
 have n:zz u<=20:=by have:=Lib.numDigits_eq u l a;split at this<;>omega
 have f:zl.arrayLen 302=24:=by simp[Program.arrayLen,zy]
 have K:∀W,(Instr.sliceAt 302 (.pointer (some ⟨w.heap.size,0,none⟩)) none (some (.int .i64 (zz u:Int))) none).run zl W=.ok (.slice (some ⟨w.heap.size,0,none⟩) (zz u) 24) W:=fun W=>by
  rw[run_sliceAt_array_h W 302 ⟨w.heap.size,0,none⟩ (by simp[Program.arrayLen,Program.elem,zy]) .i64 (zz u:Int) ae (by rw[f];omega)];go_simp
 have d:=Lib.holds_zero0 w 302 (zz u) ae;have c:=Any.internal_strconv_formatBase10 (ρ:=Hg) (P:=zl) { IM with } w.heap.size 0 24 u (Array.replicate (zz u) 0) (w.alloc (.cells yh 302)) d (by rw[zq];exact Lib.lt_pow_nDigits u) a (by rw[zq];omega);rw[zq]at c;have p:=Lib.hid d;have Q:(100:Int)<=(u:Int):=ae
 clear d f;go_enter Tryz.func243,Tryz.ntmps243
 go_wp2_with (first
  |(go_at_fn 273;refine(Any.internal_strconv_numDigits (ρ:=Hg) { IM with } u l a _ (Lib.tabIs_alloc g _)).mono ?_;rintro e w' ⟨rfl,rfl⟩))
 go_at_fn 274
 refine c.mono ?_;rintro e w' ⟨rfl,k,v',i,rfl,o⟩;have M:(convert 251 9 (.slice (some ⟨w.heap.size,0,none⟩) (zz u) 24)).run zl ((putRow (fun(b:UInt8)=>yq .u8 (b.toNat:Int)) (w.alloc (.cells yh 302)) w.heap.size 0 i).drewN k)=.ok (.string ⟨(zo u).toArray⟩) ((putRow (fun(b:UInt8)=>yq .u8 (b.toNat:Int)) (w.alloc (.cells yh 302)) w.heap.size 0 i).drewN k):=by
  have h:=run_convert_bytes_back (P:=zl) ((putRow (fun(b:UInt8)=>yq .u8 (b.toNat:Int)) (w.alloc (.cells yh 302)) w.heap.size 0 i).drewN k) 251 9 5 ⟨w.heap.size,0,none⟩ 24 (zo u) yd Tryz.underlying5 z8 (fun j m=>by
   rw[Lib.row_is_numeral o j m,Lib.add_plain,World.cell?_drewN];exact cell?_putRow (fun(b:UInt8)=>yq .u8 (b.toNat:Int)) _ w.heap.size 0 _ i p.out (by rw[o.size,zq]) j (by rw[o.size];rw[Lib.decDigits_length]at m;exact m))
  rw[Lib.decDigits_length]at h;exact h
 go_wp2
 go_ret
 obtain⟨os,L⟩:=Lib.fin_at w (.cells yh 302) i k 0;exact⟨rfl,k,os,L⟩
theorem all (u : Nat) (b : u < 18446744073709551616) (w : World) (a : Lib.TabIs Tryz.prog w "internal/strconv.uint64pow10" .u64 Lib.pow10Tab) :
  Calls zl 243 #[.int .u64 u,.int .i64 10] w fun e w'=>e=.returned (.string ⟨(zo u).toArray⟩)/\∃k os,w'=grow (w.drewN k) os:=by
 by_cases h:u<100
 ·exact(small u h w).mono fun e w' ⟨c,d⟩=>⟨c,0, #[],by rw[d];simp[World.drewN_zero]⟩
 ·exact big u ae b w a
theorem outer (u : Nat) (b : u < 18446744073709551616) (w : World) (a : Lib.TabIs Tryz.prog w "internal/strconv.uint64pow10" .u64 Lib.pow10Tab) :
  Calls zl 211 #[.int .u64 u,.int .i64 10] w fun e w'=>e=.returned (.string ⟨(zo u).toArray⟩)/\∃k os,w'=grow (w.drewN k) os:=by
 have mixed:=IM.mixed;have t3:=Tryz.underlying3;have a3:=Tryz.isAgg3;have z3:=Tryz.sizeOf3;have v3:=Tryz.zeroValue3;have t9:=z8;have a9:=Tryz.isAgg9;have z9:=Tryz.sizeOf9;have v9:=Tryz.zeroValue9;have d:=yc;have g:=Tryz.isAgg217;have f:=Tryz.sizeOf217;have c:=yg;have i:∀args w,(callFunc 243 args).run zl w=.ok (.enter 243 args) w:=enters_of Tryz.func243 ag rfl;go_enter Tryz.func211,Tryz.ntmps211
 go_wp2_with (go_at_fn 243;refine(all u b _ a).mono ?_;rintro e w' ⟨rfl,k,os,rfl⟩)
 go_ret
 exact⟨rfl,k,os,rfl⟩
end FmtU
end Go.Proofs
namespace Go.Det
open Go.Proofs
open Go.Proofs.Tryz (prog)
def fmtQ:List V->H->Option (V×H)
 |[.int .u64<|.ofNat n,.int .i64<|.ofNat b],h=>bif Vu h&&(zx n 18446744073709551615&&ze b 10)then some (.str<|zo n,h)else none
 |_,_=>none
def fmtS:Zs:=fun f=>bif ze f 211 then some fmtQ else none
theorem AbX:HY prog fmtS:=by
 intro f q c p h w args args' v h' hr m o a;unfold fmtS at c;cases g:ze f 211 with
 |false=>rw[g]at c;cases c
 |true=>
  rw[g]at c;cases c;cases zd g;unfold fmtQ at a;split at a
  case h_2=>cases a
  rename_i n b;cases d:(Vu h&&(zx n 18446744073709551615&&ze b 10))with
  |false=>rw[d]at a;cases a
  |true=>
   rw[d]at a;cases a;rw[zc,zc]at d;obtain⟨l,i,s⟩:=d;have i:=z7 i;cases zd s;obtain⟨x,y,hl,g1,g2⟩:=o.two;have:args'= #[x,y]:=Array.toList_inj.1 hl;subst this;simp only[Ae]at g1 g2;subst g1 g2;refine(FmtU.outer n ae w<|ZX hr m l).mono ?_;rintro e w' ⟨rfl,k,os,rfl⟩;exact⟨_,p,rfl,by simp only[Ae];rfl,NM hr ⟨rfl,rfl,rfl,by show w.heap.size<=(w.heap++os).size;rw[Array.size_append];omega,fun j r=>by show(w.heap++os)[j]?=_;exact yb r⟩<|by show w.drawn<=w.drawn+k;omega⟩
section
open Go.Proofs.Tryz (prog)
def MRp:CM:=(List.range 19).map fun(c:Nat)=>(212,[.str [48],.int .i64 (c:Int)],.str<|zh c 48)
theorem AdF:AV C7 1000 MRp=true:=by kernel_rfl
theorem spR:HY prog (Ij MRp):=Ug Xz Jl Nd AdF
def rpB(c:Nat):Bool:=match FM MRp 212 [.str [48],.int .i64 (c:Int)]with
 |some v=>V.beq v<|.str<|zh c 48
 |none=>false
theorem yP:(List.range 19).all rpB=true:=by kernel_rfl
theorem jU{c:Nat}(h:c<19):FM MRp 212 [.str [48],.int .i64 (c:Int)]=some (.str<|zh c 48):=by
 have:=yi.1 yP c<|List.mem_range.2 h;unfold rpB at this;split at this
 ·next v e=>rw[e,V.beq_eq this]
 ·cases this
end
end Go.Det
namespace Go.Pe
open Go.Det
@[reducible] def By:List Sh->Sh
 |[]=>.unit
 |[a]=>a
 |a::b::l=>.pair a<|By (b::l)
def Ag:(l:List Sh)->(By l).T->List PV
 |[],_=>[]
 |[a],x=>[Ce a x]
 |a::b::l,x=>Ce a x.1::Ag (b::l) x.2
structure Am where
 ins:List Sh
 pre:(By ins).T->Bool
 outs:List Sh
 f:(By ins).T->(By outs).T
 nd:Bool:=false
def Sh.sc:Sh->Bool
 | .int _| .bool| .str| .unit| .fnv=>true
 | .list _| .nlist _| .ptr _=>false
 | .pair a b=>a.sc&&b.sc
structure LL where
 ins:List Sh
 ty:TypeId
 el:Sh
 pre:(By ins).T->List el.T->Bool
 g:(By ins).T->List el.T->List el.T
 fst:Bool
def wj{α:Type}(b:Bool)(r:List α)(x:α):List α:=bif b then x::r else r++[x]
def wsp{α:Type}(b:Bool)(a:List α):Option (α×List α):=bif b then(match a with|[]=>none|x::r=>some (x,r))else(match a.reverse with|[]=>none|x::r=>some (x,r.reverse))
structure AL where
 C:Ctx
 sp:FuncId->Option Am
 pl:FuncId->Nat->List Nat
 ct:FuncId->Nat->Bool
 fz:FuncId->Nat->List (Nat×Sh)
 ws:FuncId->Option LL:=fun _=>none
 esc:List FuncId:=[]
 escOk:∀g∈esc,C.prim g=some PK.noEsc.run:=by intro g h;cases h
def Ft(st:AQ)(s:Sh)(p:PV):Option (Bool×s.T):=
 bif OJ p==s.OP then
  match Dn st p.cells with
  |some (c,cs)=>match DM s (Mf s.leaves cs).2 with
   |some x=>some ((Mf s.leaves cs).1&&c,x)
   |none=>none
  |none=>none
 else none
def Dq(st:AQ):(l:List Sh)->List PV->Option (Bool×(By l).T)
 |[],[]=>some (true,())
 |[a],[p]=>Ft st a p
 |a::b::l,p::ps=>match Ft st a p,Dq st (b::l) ps with
  |some (c,x),some (d,y)=>some (c&&d,(x,y))
  |_,_=>none
 |_,_=>none
def one:List PV->PV
 |[v]=>v
 |l=>.tup l
def vD(sp:Am)(args:List PV)(st:AQ)(k:PV->AQ->Tr):Tr:=
 match Dq st sp.ins args with
 |some (c,i)=>.ite (c&&sp.pre i) (k (one<|Ag sp.outs<|sp.f i)<|bif sp.outs.all Sh.sc then st else Bu (args.flatMap PV.cells) st) .fail
 |none=>.fail
def Zo(w:LL)(args:List PV)(st:AQ)(k:PV->AQ->Tr):Tr:=
 match wsp w.fst args with
 |some (.sl id sz 0 n none,r)=>match Dq st w.ins r,(Bu (r.flatMap PV.cells) st).obj id with
  |some (c,i),some (.arr false t s l)=>bif ze t w.ty then
    match EZ (.list s) (.list w.el) l with
    |some l'=>.ite (c&&w.pre i l'&&decide (n=List.length (α:=w.el.T) l')&&ze sz w.el.sz) (k (.tup [])<|(Bu (r.flatMap PV.cells) st).setObj id<|.arr false w.ty w.el<|w.g i l') .fail
    |none=>.fail
   else .fail
  |_,_=>.fail
 |some (.nil,r)=>match Dq st w.ins r with
  |some (c,i)=>.ite (c&&w.pre i []) (k (.tup [])<|Bu (r.flatMap PV.cells) st) .fail
  |none=>.fail
 |_=>.fail
mutual
def Aig:PV->List Nat
 | .ptr id _| .eptr id _ _ _| .sl id _ _ _ _| .mp id| .yl id=>[id]
 | .agg l| .tup l=>KY l
 | .fn _ a b=>KY a++KY b
 |_=>[]
def KY:List PV->List Nat
 |[]=>[]
 |v::vs=>Aig v++KY vs
end
def Ahl:Obj->List Nat
 | .box cs=>KY cs
 | .tbox _ cs=>KY cs
 | .lp _ _ _ _ _ _ _ sl=>KY (sl.map (·.2))
 |_=>[]
def JQ(st:AQ)(base:Nat):Nat->List Nat->List Nat->List Nat
 |0,_,acc=>acc
 |_+1,[],acc=>acc
 |f+1,i::a,acc=>bif zt i base||acc.any (ze i)then JQ st base f a acc
  else match st.obj i with
   |some o=>JQ st base f (a++Ahl o)<|acc++[i]
   |none=>JQ st base f a acc
def QG(base:Nat):List Nat->Nat->Nat->Option Nat
 |[],_,i=>bif zt i base then some i else none
 |j::a,n,i=>bif ze i j then some n else QG base a (ya n 1) i
mutual
def I2(f:Nat->Option Nat):PV->PV
 | .ptr i o=>match f i with|some j=>.ptr j o|none=>.any
 | .eptr i a b c=>match f i with|some j=>.eptr j a b c|none=>.any
 | .sl i a b c d=>match f i with|some j=>.sl j a b c d|none=>.any
 | .mp i=>match f i with|some j=>.mp j|none=>.any
 | .yl i=>match f i with|some j=>.yl j|none=>.any
 | .agg l=>.agg<|KT f l
 | .tup l=>.tup<|KT f l
 | .fn g a b=>.fn g (KT f a)<|KT f b
 |v=>v
def KT(f:Nat->Option Nat):List PV->List PV
 |[]=>[]
 |v::vs=>I2 f v::KT f vs
end
def Qi(f:Nat->Option Nat):Obj->Obj
 | .box cs=>.box<|KT f cs
 | .tbox t cs=>.tbox t<|KT f cs
 | .lp g r ps asg body s n sl=>.lp g r ps asg body s n<|sl.map fun x=>(x.1,I2 f x.2)
 |o=>o
def low(f:Nat->Option Nat)(base:Nat):Ob->Ob
 |[]=>[]
 |(i,o)::l=>bif zt i base then(i,Qi f o)::low f base l else low f base l
def kept(st:AQ)(f:Nat->Option Nat):List Nat->Nat->Ob->Ob
 |[],_,a=>a
 |j::b,n,a=>match st.obj j with
  |some o=>kept st f b (ya n 1) ((n,Qi f o)::a)
  |none=>kept st f b (ya n 1) a
def Qk(base:Nat):Ob->List Nat
 |[]=>[]
 |(i,o)::l=>bif zt i base then Ahl o++Qk base l else Qk base l
def Ax(n:Nat)(vs:List (Nat×PV))(ob:Ob)(nx:Nat):AQ:=⟨n,Fj vs,ob,nx⟩
def canon(base:Nat)(L:List Nat)(st:AQ):AQ:=
 let vs:=L.map fun t=>(t,st.get t)
 let a:=JQ st base 100 (KY (vs.map (·.2))++Qk base st.ob) []
 let f:=QG base a base
 Ax st.n (vs.map fun x=>(x.1,I2 f x.2)) (kept st f a base<|low f base st.ob) (ya base a.length)
def wX(base:Nat)(x:Nat×Sh)(st:AQ):AQ:=
 match st.get x.1 with
 | .nil=>st.set x.1<|.dat (.list x.2) []
 | .sl id sz off len _=>match st.obj id with
  |some (.arr _ e s l)=>bif ze sz s.sz then(st.setObj id<|.arr true e s l).set x.1 (.dat (.list s)<|(l.drop off).take len)else st
  |_=>st
 | .ptr id 0=>bif zx base id then match st.obj id with
   |some (.box ps)=>match DM x.2 ps with
    |some v=>(st.GF id).set x.1<|.A8 x.2 v 0
    |none=>st
   |_=>st
  else st
 |_=>st
def mJ(base:Nat):List (Nat×Sh)->AQ->AQ
 |[],st=>st
 |x::l,st=>mJ base l<|wX base x st
def BP:Code->Nat
 | .region id _ _=>id
 | .seq a _=>BP a
 | .block _ b=>BP b
 | .loop b=>BP b
 | .scope b=>BP b
 |_=>0
def NP(X:AL)(f:FuncId)(r:Nat)(base:Nat)(st:AQ):AQ:=canon base (X.pl f r)<|mJ base (X.fz f r) st
inductive Cal where
 |fn (g:FuncId)
 |rnd (id:Nat)
abbrev GN:=Cal->List PV->AQ->(PV->AQ->Tr)->Tr
def S9(d:Option Nat)(k:AQ->Tr):PO->Tr
 | .bad=>.fail
 | .val v st=>match st.put d v with
  |some st'=>k st'
  |none=>.fail
 | .ite c a b=>.ite c (S9 d k a)<|S9 d k b
inductive CK where
 |no
 |bad
 |yes (g:Cal) (args:List PV)
def Nb(st:AQ)(o:Op):CK:=
 match o with
 | .call c=>match c.callee with
  | .value f=>match RY st f,Na st c.args.toList with
   |some (.fn (.func g) first cap),some args=>.yes (.fn g)<|first++args++cap
   |some (.yl id),some args=>.yes (.rnd id) args
   |_,_=>.bad
  |_=>.no
 |_=>.no
def IA(T:Cj)(call:GN)(o:Oper)(st:AQ)(k:AQ->Tr):Tr:=
 match Nb st o.op with
 | .yes g args=>call g args st fun v st=>match st.put o.dst v with
  |some st'=>k st'
  |none=>.fail
 | .bad=>.fail
 | .no=>S9 o.dst k<|pop o.op T st
def TH(T:Cj)(st:AQ)(o:Op):Option (PV×AQ):=
 match o with
 | .convert s d x=>match T.und s,T.und d,RY st x with
  |some .string,some<|.slice e,some (.dat .str l)=>match T.und e with
   |some (.int .u8)=>some (.sl st.nx 1 0 (List.length l) none,st.push<|.arr false e (.int .u8)<|List.map (fun b:UInt8=>(b.toNat:Int)) l)
   |_=>none
  |_,_,_=>none
 |_=>none
def Ae6(T:Cj)(st:AQ)(o:Op):Option PV:=
 match o with
 | .convert s d x=>match T.und s,T.und d,RY st x with
  |some (.pointer t),some .unsafePointer,some (.ptr id off)=>match T.inf t,st.obj id with
   |some i,some (.tbox _ cs)=>bif zt 0 i.size&&zt off (Ge cs)then some (.ptr id off)else none
   |_,_=>none
  |some .unsafePointer,some<|.pointer u,some (.ptr id off)=>match T.inf u,st.obj id with
   |some i,some (.tbox e cs)=>bif zt 0 i.size&&zx i.size (Ge cs)&&ze e u&&ze off 0 then some (.ptr id 0)else none
   |_,_=>none
  |_,_,_=>none
 |_=>none
def Yw(T:Cj)(st:AQ)(o:Op):Option (PV×AQ):=
 match TH T st o with
 |some r=>some r
 |none=>match Ae6 T st o with
  |some v=>some (v,st)
  |none=>none
def Ac3(T:Cj)(call:GN)(o:Oper)(st:AQ)(k:AQ->Tr):Tr:=
 match Yw T st o.op with
 |some (v,a)=>match a.put o.dst v with
  |some b=>k b
  |none=>.fail
 |none=>IA T call o st k
def guarded(ops:Array Oper)(o:Oper)(st:AQ)(yes no:AQ->Tr):Tr:=
 match o.guard with
 |none=>yes st
 |some (j,a)=>match (ops[j]?).bind (·.dst)with
  |some t=>bif zt t st.n then(match st.get t with
   | .bl b=>bif b==a then yes st else no st
   | .dat .bool b=>bif a then .ite b (yes<|st.set t<|.bl true) (no<|st.set t<|.bl false)else .ite b (no<|st.set t<|.bl true)<|yes<|st.set t<|.bl false
   | .tup _=>no st
   | .ub=>.both (bif a then yes (st.set t<|.bl true)else no<|st.set t<|.bl true)<|bif a then no (st.set t<|.bl false)else yes<|st.set t<|.bl false
   |_=>.fail)else .fail
  |none=>.fail
def Nv(o:Oper)(k:AQ->Tr)(st:AQ):Tr:=
 match st.put o.dst (.tup [])with
 |some st'=>k st'
 |none=>.fail
def prun(T:Cj)(call:GN)(ops:Array Oper):List Oper->AQ->(AQ->Tr)->Tr
 |[],st,k=>k st
 |o::a,st,k=>guarded ops o st
   (fun st=>Ac3 T call o st fun st'=>prun T call ops a st' k)
   (fun st=>Nv o (fun st'=>prun T call ops a st' k) st)
def AaV(st:AQ)(o:Op):Option (List Nat):=
 match o with
 | .load _ x=>match RY st x with
  |some (.ptr id _)|some (.eptr id _ _ _)=>some [id]
  |some (.A8 _ _ _)=>some []
  |_=>none
 | .convert _ _ x=>match RY st x with
  |some (.dat (.int _) _)|some (.dat .str _)=>some []
  |_=>none
 | .call c=>match c.callee,Na st c.args.toList with
  | .builtin .len,some [.dat _ _]| .builtin .len,some [.sl _ _ _ _ _]| .builtin .len,some [.nil]=>some []
  | .builtin .len,some [.mp id]=>some [id]
  |_,_=>none
 | .lookup _ x _ _=>match RY st x with
  |some (.mp id)=>some [id]
  |some .nilm=>some []
  |_=>none
 |_=>none
def HO(sp:FuncId->Option Am)(st:AQ)(o:Op):Option (List Nat):=
 match o with
 | .store _ x _=>match RY st x with
  |some (.ptr id _)|some (.eptr id _ _ _)=>some [id]
  |_=>none
 | .mapUpdate _ x _ _| .insert _ x _ _=>match RY st x with
  |some (.mp id)=>some [id]
  |_=>none
 | .makeMap _ _| .makeSlice _ _ _=>some []
 | .call c=>match c.callee with
  | .value f=>match RY st f with
   |some (.fn (.func g) _ _)=>match sp g with
    |some _=>some []
    |none=>none
   |_=>none
  | .builtin .append=>match Na st c.args.toList with
   |some (.sl id _ _ _ _::_)=>some [id]
   |some _=>some []
   |none=>none
  | .builtin .delete=>match Na st c.args.toList with
   |some (.mp id::_)=>some [id]
   |_=>none
  | .builtin .unsafeString=>match Na st c.args.toList with
   |some (.eptr id _ _ _::_)=>some [id]
   |_=>none
  |_=>none
 |_=>none
abbrev Rs:=List<|Nat×Option (List Nat)
def Xn:Option (List Nat)->Option (List Nat)->Bool
 |some a,some b=>a.all fun i=> !(b.any<|ze i)
 |some [],none=>true
 |_,_=>false
def M6(st:AQ):Option (List Nat)->Bool
 |some l=>l.all fun i=>I3<|st.obj i
 |none=>false
def apart(anc:Nat->Nat->Bool)(i:Nat)(st:AQ)(t:Option (List Nat))(a:Rs):Bool:=a.all fun r=>anc i r.1||(Xn r.2 t&&M6 st r.2)
def behind(st:AQ)(t:Option (List Nat))(a:Rs):Rs:=a.map fun r=>bif Xn r.2 t&&M6 st r.2 then r else(r.1,none)
def mP(st:AQ)(o:Op):Bool:=match Nb st o with
 | .yes (.rnd _) _=>false
 |_=>true
def KX(T:Cj)(sp:FuncId->Option Am)(call:GN)(ops:Array Oper)(anc:Nat->Nat->Bool):List Nat->AQ->Rs->(AQ->Tr)->Tr
 |[],st,_,k=>k st
 |i::b,st,a,k=>match ops[i]? with
  |none=>.fail
  |some o=>guarded ops o st
    (fun st=>bif ET o then IA T call o st (fun st'=>KX T sp call ops anc b st' (bif R4 o then(i,AaV st o.op)::a else a) k)
     else bif C2 o then IA T call o st (fun st'=>KX T sp call ops anc b st' a k)
     else bif apart anc i st (HO sp st o.op) a&&mP st o.op then IA T call o st (fun st'=>KX T sp call ops anc b st' (behind st (HO sp st o.op) a) k)else .fail)
    (fun st=>bif C9 o then(bif apart anc i st (some []) a then Nv o (fun st'=>KX T sp call ops anc b st' (behind st (some []) a) k) st else .fail)
     else Nv o (fun st'=>KX T sp call ops anc b st' a k) st)
def LI(X:AL)(f:FuncId)(r:Nat)(st:AQ):List (Nat×PV):=(X.pl f r).map fun t=>(t,st.get t)
def exec(X:AL)(call c:GN)(nd ro:Bool)(d:Nat)(f:FuncId)(base:Nat):Code->AQ->(DX->AQ->Tr)->Tr
 | .skip,st,k| .label _,st,k=>k .normal st
 | .region _ ops dr,st,k=>bif dr then(bif !ro||IW ops (E7 ops)then KX X.C.T X.sp c ops (E7 ops).a (E7 ops).ord st [] (k .normal)else .fail)else prun X.C.T call ops ops.toList st<|k .normal
 | .seq a b,st,k=>exec X call c nd ro d f base a st fun e st'=>match e with
  | .normal=>bif X.ct f (BP b)then .cut nd ro d f base b (NP X f (BP b) base st') k else exec X call c nd ro d f base b st' k
  |e=>k e st'
 | .cond x a b,st,k=>match RY st x with
  |some (.bl t)=>bif t then exec X call c nd ro d f base a st k else exec X call c nd ro d f base b st k
  |some (.dat .bool t)=>match x with
   | .tmp s=>.ite t (exec X call c nd ro d f base a (st.set s<|.bl true) k)<|exec X call c nd ro d f base b (st.set s<|.bl false) k
   |_=>.ite t (exec X call c nd ro d f base a st k)<|exec X call c nd ro d f base b st k
  |some .ub=>match x with
   | .tmp s=>.both (exec X call c nd ro d f base a (st.set s<|.bl true) k)<|exec X call c nd ro d f base b (st.set s<|.bl false) k
   |_=>.fail
  |_=>.fail
 | .block id b,st,k=>exec X call c nd ro d f base b st fun e st'=>match e with
  | .exit i=>bif ze i id then k .normal st' else k e st'
  |e=>k e st'
 | .loop b,st,k=>.loop nd ro d f base b (NP X f (BP b) base st) k
 | .exit i,st,k=>k (.exit i) st
 | .ret,st,k=>k .ret st
 | .scope b,st,k=>exec X call c nd ro d f base b st k
 | .rangeFunc g ps asg b,st,k=>bif ro then .fail else match RY st g with
  |some (.fn (.func l) first cap)=>bif (X.C.prim l).isSome then .fail else
   call (.fn l) (first++[.yl st.nx]++cap) (st.push<|.lp f (BP b) ps asg b .ready st.n<|LI X f (BP b) st) fun _ j=>
    match j.obj st.nx with
    |some (.lp _ _ _ _ _ s _ _)=>match s with
     | .ready=>k .normal<|j.GF st.nx
     | .ret=>k .ret<|j.GF st.nx
     | .exit i=>k (.exit i)<|j.GF st.nx
     | .busy=>.fail
    |_=>.fail
  |_=>.fail
 |_,_,_=>.fail
def mM(T:Cj)(st:AQ):ResultVar->Option PV
 | .tmp t=>some<|st.get t
 | .cell a t=>match OC T st t (st.get a)with
  | .val v _=>some v
  | .Je _ v _=>some v
  |_=>none
def OB(T:Cj)(st:AQ):List ResultVar->List Bool
 |[]=>[]
 | .tmp _::b=>OB T st b
 | .cell a t::b=>match OC T st t (st.get a)with
  | .Je c _ _=>c::OB T st b
  |_=>OB T st b
def U2:List Bool->Tr->Tr
 |[],t=>t
 |c::cs,t=>.ite c (U2 cs t) .fail
def kA(T:Cj)(st:AQ):List ResultVar->Option (List PV)
 |[]=>some []
 |r::a=>match mM T st r,kA T st a with
  |some v,some vs=>some (v::vs)
  |_,_=>none
def FG:List PV->Nat->List (Nat×PV)
 |[],_=>[]
 |v::vs,i=>(i,v)::FG vs (ya i 1)
def enter(X:AL)(call a:GN)(nd:Bool)(d:Nat)(f:FuncId)(args:List PV)(st:AQ)(k:PV->AQ->Tr):Tr:=
 match X.C.fn f with
 |none=>.fail
 |some i=>bif i.cert then
   exec X call a nd false d f st.nx i.body (Ax (ya args.length<|Nat.sub i.ntmps args.length) (FG args 0) st.ob st.nx) fun e s=>match e with
    | .exit _=>.fail
    |_=>match kA X.C.T s i.results.toList with
     |some vs=>U2 (OB X.C.T s i.results.toList)<|k (one vs) ⟨st.n,st.fr,s.ob,s.nx⟩
     |none=>.fail
  else .fail
def Of:List Tmp->List PV->AQ->AQ
 |t::ts,v::vs,st=>Of ts vs<|bif zt t st.n then st.set t v else st
 |_,_,st=>st
def Y5(X:AL)(call c:GN)(nd:Bool)(d:Nat)(id:Nat)(args:List PV)(st:AQ)(k:PV->AQ->Tr):Tr:=
 match st.obj id with
 |some (.lp f _ ps asg b .ready n sl)=>bif ze args.length ps.size then
   exec X call c nd true d f st.nx asg (Of ps.toList args<|Ax n sl st.ob st.nx) fun e s=>match e with
   | .normal=>match s.obj id with
    |some (.lp w v m l x .ready n1 p)=>
     exec X call c nd true d f st.nx b (s.setObj id<|.lp w v m l x .busy n1 p) fun u s2=>
      match s2.obj id with
      |some (.lp q t j a o _ r g)=>match u with
       | .normal=>k (.bl true) ⟨st.n,st.fr,(s2.setObj id<|.lp q t j a o .ready r g).ob,s2.nx⟩
       | .ret=>k (.bl false) ⟨st.n,st.fr,(s2.setObj id<|.lp q t j a o .ret r g).ob,s2.nx⟩
       | .exit i=>k (.bl false) ⟨st.n,st.fr,(s2.setObj id<|.lp q t j a o (.exit i) r g).ob,s2.nx⟩
      |_=>.fail
    |_=>.fail
   |_=>.fail
  else .fail
 |_=>.fail
def AgH(args:List PV)(st:AQ)(k:PV->AQ->Tr):Tr:=
 match args with
 |[.ptr id off]=>bif I3 (st.obj id)then k (.ptr id off) st else .fail
 |_=>.fail
def Cx(X:AL)(nd:Bool):Nat->GN
 |0=>fun _ _ _ _=>.fail
 |d+1=>fun c args st k=>match c with
  | .fn g=>match X.sp g with
   |some sp=>bif nd|| !sp.nd then vD sp args st k else .fail
   |none=>match X.ws g with
    |some w=>Zo w args st k
    |none=>bif X.esc.any (ze g)then AgH args st k else match X.C.prim g,X.C.spec g with
     |none,none=>enter X (Cx X nd d) (Cx X false d) nd d g args st k
     |_,_=>.fail
  | .rnd id=>Y5 X (Cx X nd d) (Cx X false d) nd d id args st k
def lN:PV->Bool
 | .dat _ _| .A8 _ _ _| .bl _| .nil=>true
 |_=>false
def Ta(v:PV):Bool:=v.cells.all lN
def Acu:PV->Bool
 | .tup a=>a.all Ta
 |v=>Ta v
def gcO(v:PV)(ob:Ob):Ob:=bif Acu v then[]else ob
def tree(X:AL)(nd:Bool)(d:Nat)(f:FuncId)(args:List PV):Tr:=
 enter X (Cx X nd d) (Cx X false d) nd d f args (Ax 0 [] [] 0) fun v st=>.leaf v<|gcO v st.ob
def body(X:AL)(nd ro:Bool)(d:Nat)(f:FuncId)(base:Nat)(b:Code)(st:AQ)(k:DX->AQ->Tr):Tr:=
 exec X (Cx X nd d) (Cx X false d) nd ro d f base b st fun e st'=>match e with
  | .normal=>.loop nd ro d f base b (NP X f (BP b) base st') k
  |e=>k e st'
def A1(X:AL)(nd ro:Bool)(d:Nat)(f:FuncId)(base:Nat)(b:Code)(st:AQ)(k:DX->AQ->Tr):Tr:=exec X (Cx X nd d) (Cx X false d) nd ro d f base b st k
inductive Ev (X:AL) (Q:PV->Ob->Prop):Nat->Tr->Prop where
 |leaf {n:Nat} {v:PV} {ob:Ob}:Q v ob->Ev X Q n (.leaf v ob)
 |ite {n:Nat} {c:Bool} {a b:Tr}:(c=true->Ev X Q n a)->(c=false->Ev X Q n b)->Ev X Q n (.ite c a b)
 |both {n:Nat} {a b:Tr}:Ev X Q n a->Ev X Q n b->Ev X Q n (.both a b)
 |cut {n:Nat} {nd ro:Bool} {d:Nat} {f:FuncId} {base:Nat} {b:Code} {st:AQ} {k:DX->AQ->Tr}:Ev X Q n (A1 X nd ro d f base b st k)->Ev X Q n (.cut nd ro d f base b st k)
 |alts {n m:Nat} {f:Nat->Tr}:(∀i,i<m->Ev X Q n (f i))->Ev X Q n (.alts m f)
 |loop {n:Nat} {nd ro:Bool} {d:Nat} {f:FuncId} {base:Nat} {b:Code} {st:AQ} {k:DX->AQ->Tr}:Ev X Q n (body X nd ro d f base b st k)->Ev X Q (n+1) (.loop nd ro d f base b st k)
abbrev Fz:=Nat->Option (List V)
abbrev Ez:=Nat->Option (Nat×Nat)
def DC(F:Fz):(s:Sh)->s.T->List V->Prop
 | .int k,x,cs=>cs=[.int k x]
 | .bool,x,cs=>cs=[.bool x]
 | .str,x,cs=>cs=[.str x]
 | .list s,l,cs=>∃v,cs=[v]/\((l=[]/\(v=.nils\/v=.esl\/v=.es0))\/
   ∃b off cap o e,v=.sl b off l.length cap o/\l.length<=cap/\F b=some e/\off+l.length*s.sz<=e.length/\(o=0\/o=s.sz)/\
    ∀i (h:i<l.length),DC F s l[i]<|(e.drop<|off+i*s.sz).take s.sz)
 | .pair a b,x,cs=>∃c d,cs=c++d/\DC F a x.1 c/\DC F b x.2 d
 | .unit,_,cs=>cs=[]
 | .fnv,x,cs=>cs=[match (x:Option Fn)with|some f=>.fn f [] []|none=>.nilf]
 | .ptr s,x,cs=>∃b o e,cs=[.ptr b o]/\F b=some e/\o+s.sz<=e.length/\DC F s x ((e.drop o).take s.sz)
 | .nlist s,l,cs=>∃v,cs=[v]/\((l=[]/\v=.nils)\/(l≠[]/\
   ∃b off cap o e,v=.sl b off l.length cap o/\l.length<=cap/\F b=some e/\off+l.length*s.sz<=e.length/\(o=0\/o=s.sz)/\
    ∀i (h:i<l.length),DC F s l[i]<|(e.drop<|off+i*s.sz).take s.sz))
theorem DC.len{F:Fz}:∀ {s:Sh} {x:s.T} {cs:List V},DC F s x cs->cs.length=s.sz
 | .int _,_,_,h=>by subst h;rfl
 | .bool,_,_,h=>by subst h;rfl
 | .str,_,_,h=>by subst h;rfl
 | .list _,_,_,h=>by obtain⟨v,rfl,_⟩:=h;rfl
 | .pair a b,x,_,h=>by
  obtain⟨c,d,rfl,e,f⟩:=h;rw[List.length_append,e.len,f.len];rfl
 | .unit,_,_,h=>by subst h;rfl
 | .nlist _,_,_,h=>by obtain⟨v,rfl,_⟩:=h;rfl
 | .fnv,_,_,h=>by subst h;rfl
 | .ptr _,_,_,h=>by obtain⟨b,o,g,rfl,_⟩:=h;rfl
theorem DC.ok{F:Fz}:∀ {s:Sh} {x:s.T} {cs:List V},DC F s x cs->∀v∈cs,v.ok=true
 | .int _,_,_,h=>by grind [DC,yn]
 | .bool,_,_,h=>by grind [DC,yn]
 | .str,_,_,h=>by grind [DC,yn]
 | .list s,_,_,h=>by
  obtain⟨v,rfl,⟨_,rfl|rfl|rfl⟩|⟨b,off,cap,o,f,rfl,_⟩⟩:=h<;>simp[yn]
 | .pair a b,x,_,h=>by
  obtain⟨c,d,rfl,g,i⟩:=h;intro v e;rcases List.mem_append.1 e with e|e
  ·exact g.ok v e
  ·exact i.ok v e
 | .unit,_,_,h=>by grind [DC]
 | .fnv,x,_,h=>by subst h;intro v e;rw[zn.1 e];cases (x:Option Fn)<;>rfl
 | .nlist s,_,_,h=>by
  obtain⟨v,rfl,⟨_,rfl⟩|⟨_,b,off,cap,o,f,rfl,_⟩⟩:=h<;>simp[yn]
 | .ptr _,_,_,h=>by obtain⟨b,o,f,rfl,_⟩:=h;simp[yn]
theorem DC.mono{F F':Fz}(e:∀b cs,F b=some cs->F' b=some cs):∀ {s:Sh} {x:s.T} {cs:List V},DC F s x cs->DC F' s x cs
 | .int _,_,_,h=>by simpa only[DC]using h
 | .bool,_,_,h=>by simpa only[DC]using h
 | .str,_,_,h=>by simpa only[DC]using h
 | .list s,l,_,h=>by
  obtain⟨v,rfl,h⟩:=h;refine⟨v,rfl,?_⟩;rcases h with h|⟨b,off,cap,o,j,f,g,m,k,p,n⟩
  ·grind
  ·exact .inr ⟨b,off,cap,o,j,f,g,e _ _ m,k,p,fun i q=>(n i q).mono e⟩
 | .pair a b,x,_,h=>by
  obtain⟨c,d,rfl,f,g⟩:=h;exact⟨c,d,rfl,f.mono e,g.mono e⟩
 | .unit,_,_,h=>by simpa only[DC]using h
 | .fnv,_,_,h=>by simpa only[DC]using h
 | .ptr s,x,_,h=>by
  obtain⟨b,o,j,f,g,m,k⟩:=h;exact⟨b,o,j,f,e _ _ g,m,k.mono e⟩
 | .nlist s,l,_,h=>by
  obtain⟨v,rfl,h⟩:=h;refine⟨v,rfl,?_⟩;rcases h with h|⟨h0,b,off,cap,o,j,f,g,m,k,p,n⟩
  ·grind
  ·exact .inr ⟨h0,b,off,cap,o,j,f,g,e _ _ m,k,p,fun i q=>(n i q).mono e⟩
theorem DC.nl{F:Fz}{s:Sh}{l:List s.T}{cs:List V}(h:DC F (.nlist s) l cs):DC F (.list s) l cs:=by
 simp only[DC]at h ⊢;obtain⟨v,rfl,h⟩:=h;rcases h with⟨rfl,rfl⟩|⟨_,h⟩
 ·simp
 simp_all
theorem DC.nl'{F:Fz}{s:Sh}{l:List s.T}{cs:List V}(h:DC F (.list s) l cs)(h0:0<l.length):DC F (.nlist s) l cs:=by
 have a:l≠[]:=ah
 simp_all [DC]
mutual
def PR(F:Fz)(ρ:Ez)(N:Nat):PV->V->Prop
 | .any,_=>True
 | .bl b,v=>v=.bool b
 | .ub,v=>∃b,v=.bool b
 | .dat s x,v=>DC F s x [v]
 | .nil,v=>v=.nils
 | .nilp,v=>v=.nilp
 | .nilm,v=>v=.nilm
 | .nilf,v=>v=.nilf
 | .nili,v=>v=.nili
 | .agg l,v=>∃cs,v=.agg cs/\BT F ρ N l cs
 | .tup l,v=>∃cs,v=.tup cs/\BT F ρ N l cs
 | .ptr id off,v=>id<N/\∀b n,ρ id=some (b,n)->v=.ptr b off
 | .eptr id sz i off,v=>id<N/\∀b n,ρ id=some (b,n)->v=.ptr b (i*sz+off)
 | .A8 s x off,v=>∃b o cs,v=.ptr b (o+off)/\F b=some cs/\o+s.sz<=cs.length/\DC F s x ((cs.drop o).take s.sz)
 | .sl id sz off len cap,v=>id<N/\∀b n,ρ id=some (b,n)->
   (len<=cap.getD len/\off+cap.getD len<=n/\∃o,(o=0\/o=sz)/\v=.sl b (off*sz) len (cap.getD len) o)\/
   (len=0/\cap=some 0/\off<=n/\(v=.esl\/∃c,v=.sl b c 0 0 0/\c<=off*sz))
 | .mp id,v=>id<N/\∀b n,ρ id=some (b,n)->v=.map b
 | .fn f first captured,v=>∃a b,v=.fn f a b/\BT F ρ N first a/\BT F ρ N captured b
 | .yl id,v=>id<N/\∀b n,ρ id=some (b,n)->v=.yld b
def BT(F:Fz)(ρ:Ez)(N:Nat):List PV->List V->Prop
 |[],l=>l=[]
 |p::ps,l=>∃v vs,l=v::vs/\PR F ρ N p v/\BT F ρ N ps vs
end
section
variable {F F':Fz}{ρ ρ':Ez}{N N':Nat}
@[simp] theorem D8(l:List V):BT F ρ N [] l↔l=[]:=by rfl
@[simp] theorem BY(p:PV)(ps:List PV)(v:V)(vs:List V):BT F ρ N (p::ps) (v::vs)↔PR F ρ N p v/\BT F ρ N ps vs:=by
 simp only[BT];grind
theorem BT.len:∀ {ps:List PV} {vs:List V},BT F ρ N ps vs->ps.length=vs.length
 |[],vs,h=>by simp_all
 |p::ps,vs,h=>by
  obtain⟨v,vs,rfl,_,a⟩:=h;simp[a.len]
theorem BT.append:∀ {a:List PV} {x:List V} {b:List PV} {y:List V},BT F ρ N a x->BT F ρ N b y->BT F ρ N (a++b) (x++y)
 |[],x,b,y,h,h'=>by simp_all
 |p::ps,x,b,y,h,h'=>by
  obtain⟨v,vs,rfl,c,d⟩:=h;simp only[List.cons_append,BY];exact⟨c,d.append h'⟩
theorem BT.drop:∀ {a:List PV} {x:List V} (n:Nat),BT F ρ N a x->BT F ρ N (a.drop n) (x.drop n)
 |[],x,n,h=>by simp_all
 |p::ps,x,0,h=>by grind
 |p::ps,x,n+1,h=>by
  obtain⟨v,vs,rfl,c,b⟩:=h;simpa using b.drop n
theorem BT.take:∀ {a:List PV} {x:List V} (n:Nat),BT F ρ N a x->BT F ρ N (a.take n) (x.take n)
 |[],x,n,h=>by simp_all
 |p::ps,x,0,h=>by simp
 |p::ps,x,n+1,h=>by
  obtain⟨v,vs,rfl,b,c⟩:=h;simpa using⟨b,c.take n⟩
theorem BT.get:∀ {a:List PV} {x:List V},BT F ρ N a x->∀ {i:Nat} {p:PV},a[i]?=some p->∃v,x[i]?=some v/\PR F ρ N p v
 |[],x,h,i,p,hp=>by grind
 |q::ps,x,h,i,p,hp=>by
  obtain⟨v,vs,rfl,c,b⟩:=h;cases i with
  |zero=>grind
  |succ i=>simpa using b.get hp
structure Le(F:Fz)(ρ:Ez)(N:Nat)(F':Fz)(ρ':Ez)(N':Nat):Prop where
 fz:∀b cs,F b=some cs->F' b=some cs
 rho:∀id,id<N->ρ' id=ρ id\/ρ' id=none
 n:N<=N'
theorem Le.refl:Le F ρ N F ρ N:=⟨fun _ _ h=>h,(by simp),zj _⟩
theorem Le.trans{g:Fz}{d:Ez}{f:Nat}(a:Le F ρ N F' ρ' N')(b:Le F' ρ' N' g d f):Le F ρ N g d f:=
 ⟨fun c cs h=>b.fz c cs<|a.fz c cs h,fun id h=>by
  rcases b.rho id (zk h a.n)with e|e
  ·rw[e];exact a.rho id h
  grind,Nat.le_trans a.n b.n⟩
theorem Le.at(a:Le F ρ N F' ρ' N'){id:Nat}(h:id<N){x:Nat×Nat}(b:ρ' id=some x):ρ id=some x:=by
 rcases a.rho id h with e|e
 ·grind
 grind
mutual
theorem PR.mono(c:Le F ρ N F' ρ' N'):∀ {p:PV} {v:V},PR F ρ N p v->PR F' ρ' N' p v
 | .any,_,_=>by simp[PR]
 | .bl _,_,h=>by simpa only[PR]using h
 | .ub,_,h=>by simpa only[PR]using h
 | .dat s x,_,h=>by simp only[PR]at h ⊢;exact h.mono c.fz
 | .nil,_,h| .nilp,_,h| .nilm,_,h| .nilf,_,h| .nili,_,h=>by simpa only[PR]using h
 | .agg l,_,h=>by obtain⟨cs,rfl,e⟩:=h;exact⟨cs,rfl,e.mono c⟩
 | .tup l,_,h=>by obtain⟨cs,rfl,e⟩:=h;exact⟨cs,rfl,e.mono c⟩
 | .ptr _ _,_,h=>by exact⟨zk h.1 c.n,fun b n d=>h.2 b n<|c.at h.1 d⟩
 | .eptr _ _ _ _,_,h=>by exact⟨zk h.1 c.n,fun b n d=>h.2 b n<|c.at h.1 d⟩
 | .A8 s x off,_,h=>by
  obtain⟨b,o,cs,e,g,j,i⟩:=h;exact⟨b,o,cs,e,c.fz _ _ g,j,i.mono c.fz⟩
 | .sl _ _ _ _ _,_,h=>by exact⟨zk h.1 c.n,fun b n d=>h.2 b n<|c.at h.1 d⟩
 | .mp _,_,h=>by exact⟨zk h.1 c.n,fun b n d=>h.2 b n<|c.at h.1 d⟩
 | .fn f a b,_,h=>by
  obtain⟨x,y,rfl,e,g⟩:=h;exact⟨x,y,rfl,e.mono c,g.mono c⟩
 | .yl _,_,h=>by exact⟨zk h.1 c.n,fun b n d=>h.2 b n<|c.at h.1 d⟩
theorem BT.mono(a:Le F ρ N F' ρ' N'):∀ {ps:List PV} {vs:List V},BT F ρ N ps vs->BT F' ρ' N' ps vs
 |[],_,h=>by simp_all
 |p::ps,_,h=>by
  obtain⟨v,vs,rfl,b,c⟩:=h;exact⟨v,vs,rfl,b.mono a,c.mono a⟩
end
theorem PR.lz:∀ {p:PV} {v:V},PR F ρ N p v->PR F ρ N (lz p) v:=by
 intro p v h;unfold Pe.lz;split
 ·exact h.nl
 omega
theorem BT.lz:∀ {ps:List PV} {vs:List V},BT F ρ N ps vs->BT F ρ N (ps.map Pe.lz) vs
 |[],_,h=>by grind
 |p::ps,_,h=>by
  obtain⟨v,vs,rfl,a,b⟩:=h;simp only[List.map_cons,BY];exact⟨a.lz,b.lz⟩
theorem fG{s:Sh}{p:PV}{v:V}(h:PR F ρ N p v)(b:(VD s p).1=true):PR F ρ N (VD s p).2 v:=by
 unfold VD at b ⊢;split
 ·rename_i s a x;cases c:(s==a)with
  |false=>exact h
  |true=>
   have b:(bif s==a then(decide (0<List.length x),PV.dat a.nlist x)else(true,PV.dat a.list x)).1=true:=b;rw[c]at b;simp only[we,w5]at b;exact h.nl' b
 ·rename_i s a x;cases c:(s==a)with
  |false=>exact h
  |true=>exact h.nl
 omega
theorem Td:∀ {l:List Sh} {ps:List PV} {vs:List V},BT F ρ N ps vs->(Mf l ps).1=true->BT F ρ N (Mf l ps).2 vs
 |[],ps,vs,h,_=>h
 |s::l,[],vs,h,_=>h
 |s::l,p::ps,vs,h,a=>by
  obtain⟨v,vs,rfl,b,c⟩:=h;simp only[Mf,zc]at a;simp only[Mf,BY];exact⟨fG b a.1,Td c a.2⟩
def DN(F:Fz)(s:Sh)(l:List s.T)(cs:List V):Prop:=cs.length=l.length*s.sz/\∀i (h:i<l.length),DC F s l[i]<|(cs.drop<|i*s.sz).take s.sz
theorem DN.mono(c:∀b cs,F b=some cs->F' b=some cs){s:Sh}{l:List s.T}{cs:List V}(h:DN F s l cs):DN F' s l cs:=⟨h.1,fun i a=>(h.2 i a).mono c⟩
theorem DN.ok{F:Fz}{s:Sh}{l:List s.T}{cs:List V}(h:DN F s l cs):∀v∈cs,v.ok=true:=by
 intro v b;obtain⟨k,f⟩:=List.mem_iff_getElem?.1 b;have a:=(List.getElem?_eq_some_iff.1 f).1;have d:0<s.sz:=by
  rcases Nat.eq_zero_or_pos s.sz with e|e
  ·rw[h.1,e,Nat.mul_zero]at a;omega
  omega
 have c:k/s.sz<l.length:=Nat.div_lt_of_lt_mul (by rw[Nat.mul_comm, <-h.1];exact a);refine(h.2 _ c).ok v ?_;refine List.mem_iff_getElem?.2 ⟨k % s.sz,?_⟩;grind [Nat.mod_lt,Nat.div_add_mod]
def DV(F:Fz)(s:Sh)(x:s.T)(v:V):Prop:=(s.OP=true->∃cs,v=.agg cs/\DC F s x cs)/\(s.OP=false->DC F s x [v])
theorem DV.mono(a:∀b cs,F b=some cs->F' b=some cs){s:Sh}{x:s.T}{v:V}(h:DV F s x v):DV F' s x v:=
 ⟨fun e=>by obtain⟨cs,c,d⟩:=h.1 e;exact⟨cs,c,d.mono a⟩,fun e=>(h.2 e).mono a⟩
inductive MR (F:Fz) (ks vs:Sh):List (ks.T×vs.T)->List (V×V×Nat)->Prop where
 |nil:MR F ks vs [] []
 |cons {k:ks.T} {v:vs.T} {l:List (ks.T×vs.T)} {a b:V} {n:Nat} {es:List (V×V×Nat)}:DV F ks k a->DV F vs v b->MR F ks vs l es->MR F ks vs ((k,v)::l) ((a,b,n)::es)
theorem MR.mono(a:∀b cs,F b=some cs->F' b=some cs){ks vs:Sh}{l:List (ks.T×vs.T)}{es:List (V×V×Nat)}(h:MR F ks vs l es):MR F' ks vs l es:=by
 induction h with
 |nil=>exact .nil
 |cons c e _ d=>exact .cons (c.mono a) (e.mono a) d
def Qn(sl:List (Nat×PV))(t:Nat):PV:=((Fj sl).get t).getD .any
def LpR:LpS->LoopState->Option Code->Prop
 | .ready,st,a=>st=.ready/\a=none
 | .busy,st,_=>st=.busy
 | .ret,st,a=>st=.done/\a=some .ret
 | .exit i,st,a=>st=.done/\a=some (.exit i)
def Yd(F:Fz)(ρ:Ez)(N n:Nat):Obj->O->Prop
 | .arr _ e s l,o=>∃cs fz,o=.cells cs e fz/\DN F s l cs/\fz.2<=fz.1/\l.length=n
 | .box ps,o=>∃cs t fz,o=.cells cs t fz/\BT F ρ N ps cs/\fz.2<=fz.1/\∀v∈cs,v.ok=true
 | .tbox t ps,o=>∃cs fz,o=.cells cs t fz/\BT F ρ N ps cs/\fz.2<=fz.1/\∀v∈cs,v.ok=true
 | .map ks vs l,o=>∃es a,o=.map es a/\MR F ks vs l es
 | .siter s pos,o=>o=.siter s pos
 | .lp _ _ ps asg body s n' sl,o=>∃ls,o=.loop ls/\ls.ps=ps/\ls.asg=asg/\ls.body=body/\LpR s ls.st ls.pend/\ls.fr.n=n'/\∀t,PR F ρ N (Qn sl t)<|ls.fr.get t
theorem Yd.mono(d:Le F ρ N F' ρ' N'){n:Nat}{x:Obj}{o:O}(h:Yd F ρ N n x o):Yd F' ρ' N' n x o:=by
 cases x with
 |arr fz e s l=>obtain⟨cs,f,a,b,c⟩:=h;exact⟨cs,f,a,b.mono d.fz,c⟩
 |box ps=>obtain⟨cs,t,f,a,b,c⟩:=h;exact⟨cs,t,f,a,b.mono d,c⟩
 |tbox t ps=>obtain⟨cs,f,a,b,c⟩:=h;exact⟨cs,f,a,b.mono d,c⟩
 |map ks vs l=>obtain⟨es,g,a,b⟩:=h;exact⟨es,g,a,b.mono d.fz⟩
 |siter s pos=>exact h
 |lp f r ps asg body s n sl=>obtain⟨ls,a,b,c,k,i,j,m⟩:=h;exact⟨ls,a,b,c,k,i,j,fun t=>(m t).mono d⟩
def Obj.frozen:Obj->Bool
 | .arr fz _ _ _=>fz
 |_=>false
structure H0 where
 h:H
 F:Fz
 pin:List Nat
 ex:Nat->Prop:=fun _=>False
def H0.pins(h0:H0)(ps:List Nat):H0:={ h0 with pin:=ps++h0.pin }
def H0.fO(h0:H0)(B b:Nat):Prop:=B<=b\/h0.ex b
theorem Ph{h0:H0}{B b c:Nat}(h:h0.fO B b)(d:c<B)(a:¬h0.ex c):c≠b:=by
 rcases h with h|h
 ·omega
 grind
structure SR(B:Nat)(h0:H0)(F:Fz)(ρ:Ez)(N:Nat)(ob:Ob)(h:H):Prop where
 obj:∀id o,AR ob id=some o->∃b n x,ρ id=some (b,n)/\h.get b=some x/\Yd F ρ N n o x/\(o.frozen=false->F b=none)/\
  (o.frozen=true->∃cs t fz,x=.cells cs t fz/\F b=some cs)
 inj:∀id id' o o' b n n',AR ob id=some o->AR ob id'=some o'->ρ id=some (b,n)->ρ id'=some (b,n')->id=id'
 frz:∀b cs,F b=some cs->∃t fz,h.get b=some (.cells cs t fz)
 own:∀id b n,ρ id=some (b,n)->id<N/\h0.fO B b
 dead:∀id,AR ob id=none->ρ id=none
 old:∀b,b<B->¬h0.ex b->h.get b=h0.h.get b
 lt:∀b o,h.get b=some o->b<h.nx
 le:B<=h.nx
 fo:∀b cs,F b=some cs->h0.F b=some cs\/h0.fO B b
 gl:∀x∈FI,x.1<B/\¬h0.ex x.1/\h0.h.get x.1=some x.2
 pn:∀b∈h0.pin,h.get b=some (.defd true)/\B<=b/\∀id n,ρ id≠some (b,n)
structure FP(F:Fz)(ρ:Ez)(N:Nat)(st:AQ)(fr:Fr):Prop where
 n:st.n=fr.n
 slot:∀t,PR F ρ N (st.get t) (fr.get t)
theorem FP.mono(a:Le F ρ N F' ρ' N'){st:AQ}{fr:Fr}(h:FP F ρ N st fr):FP F' ρ' N' st fr:=⟨h.n,fun t=>(h.slot t).mono a⟩
end
section
variable {B:Nat}{h0:H0}{F:Fz}{ρ:Ez}{N:Nat}
mutual
theorem aX:∀ {v:Value} {p:PV},OO v=some p->∃x,cv v=some x/\PR F ρ N p x
 | .bool b,p,h=>by simp[OO]at h;subst h;exact⟨_,rfl,by simp[PR]⟩
 | .int k n,p,h=>by simp[OO]at h;subst h;exact⟨_,rfl,by rfl⟩
 | .string s,p,h=>by simp[OO]at h;subst h;exact⟨_,rfl,by rfl⟩
 | .pointer none,p,h=>by simp[OO]at h;subst h;exact⟨_,rfl,by simp[PR]⟩
 | .pointer (some a),p,h=>by simp[OO]at h
 | .slice none 0 0,p,h=>by simp[OO]at h;subst h;exact⟨_,rfl,by simp[PR]⟩
 | .slice none 0 (_+1),p,h=>by simp[OO]at h
 | .slice none (_+1) _,p,h=>by simp[OO]at h
 | .slice (some a) _ _,p,h=>by simp[OO]at h
 | .map none,p,h=>by simp[OO]at h;subst h;exact⟨_,rfl,by simp[PR]⟩
 | .map (some a),p,h=>by simp[OO]at h
 | .nilFunc,p,h=>by simp[OO]at h;subst h;exact⟨_,rfl,by simp[PR]⟩
 | .nilIface,p,h=>by simp[OO]at h;subst h;exact⟨_,rfl,by simp[PR]⟩
 | .func f ⟨[]⟩ ⟨[]⟩,p,h=>by simp[OO]at h;subst h;exact⟨_,rfl,by simp[PR]⟩
 | .func f ⟨_::_⟩ _,p,h=>by simp[OO]at h
 | .func f ⟨[]⟩ ⟨_::_⟩,p,h=>by simp[OO]at h
 | .agg ⟨cs⟩,p,h=>by
  simp only[OO,zf]at h;obtain⟨d,c,rfl⟩:=h;obtain⟨ys,h2,h3⟩:=Q5 c;simp_all [cv,PR]
 | .tuple ⟨cs⟩,p,h=>by
  simp only[OO,zf]at h;obtain⟨d,c,rfl⟩:=h;obtain⟨ys,h2,h3⟩:=Q5 c;simp_all [cv,PR]
 | .float _ _,p,h=>by simp[OO]at h
 | .complex _ _ _,p,h=>by simp[OO]at h
 | .chan _,p,h=>by simp[OO]at h
 | .iface _ _,p,h=>by simp[OO]at h
theorem Q5:∀ {vs:List Value} {ps:List PV},iT vs=some ps->∃a,cvs vs=some a/\BT F ρ N ps a
 |[],ps,h=>by simp[iT]at h;subst h;exact⟨[],rfl,by simp⟩
 |v::vs,ps,h=>by
  unfold iT at h;split at h
  case h_2=>cases h
  rename_i x a b c;cases h;obtain⟨y,e,d⟩:=aX b;obtain⟨ys,g3,g4⟩:=Q5 c;simp_all [cvs]
end
theorem Abf(v:V):PR F ρ N (Yh v) v:=by
 cases v<;>simp[Yh,PR,DC]
theorem EI:∀vs:List V,BT F ρ N (vs.map Yh) vs
 |[]=>by simp
 |v::vs=>by simp only[List.map_cons,BY];exact⟨Abf v,EI vs⟩
variable {C:Ctx}{st st':AQ}{fr:Fr}{h:H}
theorem Cp(b:FP F ρ N st fr){x:Operand}{p:PV}(a:RY st x=some p):∃v,ev C fr x=some v/\PR F ρ N p v:=by
 cases x with
 |tmp t=>simp only[RY,zi]at a;subst a;exact⟨_,rfl,b.slot t⟩
 |const v=>exact aX a
 |global g=>simp[RY]at a
 |func f=>simp only[RY,zi]at a;subst a;exact⟨_,rfl,by simp[PR]⟩
theorem Fx(c:FP F ρ N st fr):∀ {b:List Operand} {ps:List PV},Na st b=some ps->∃vs,WX C fr b=some vs/\BT F ρ N ps vs
 |[],ps,a=>by simp[Na]at a;subst a;exact⟨[],rfl,by simp⟩
 |x::b,ps,a=>by
  unfold Na at a;split at a
  case h_2=>cases a
  rename_i v vs d e;cases a;obtain⟨y,g,f⟩:=Cp (C:=C) c d;obtain⟨ys,g3,g4⟩:=Fx c e;simp_all [WX]
inductive PRn (F:Fz) (ρ:Ez) (N:Nat):List (Nat×PV)->List (Nat×V)->Prop
 |nil:PRn F ρ N [] []
 |cons {i:Nat} {p:PV} {v:V} {l:List (Nat×PV)} {l':List (Nat×V)}:PR F ρ N p v->PRn F ρ N l l'->PRn F ρ N ((i,p)::l) ((i,v)::l')
theorem Q8(c:FP F ρ N st fr):∀ {b:List (Nat×Operand)} {ps:List (Nat×PV)},jI st b=some ps->∃vs,Yr C fr b=some vs/\PRn F ρ N ps vs
 |[],ps,a=>by simp[jI]at a;subst a;exact⟨[],rfl,.nil⟩
 |(i,x)::b,ps,a=>by
  unfold jI at a;split at a
  case h_2=>cases a
  rename_i v vs d e;cases a;obtain⟨y,g,f⟩:=Cp (C:=C) c d;obtain⟨ys,g3,g4⟩:=Q8 c e;exact⟨(i,y)::ys,by simp[Yr,g,g3],.cons f g4⟩
structure Rel(B:Nat)(h0:H0)(F:Fz)(ρ:Ez)(st:AQ)(fr:Fr)(h:H):Prop where
 fp:FP F ρ st.nx st fr
 sr:SR B h0 F ρ st.nx st.ob h
inductive PO.To:PO->PV->AQ->Prop
 |val {v:PV} {st:AQ}:PO.To (.val v st) v st
 |tt {a b:PO} {v:PV} {st:AQ}:PO.To a v st->PO.To (.ite true a b) v st
 |ff {a b:PO} {v:PV} {st:AQ}:PO.To b v st->PO.To (.ite false a b) v st
@[simp] theorem NL{v:PV}{s:AQ}:¬PO.To .bad v s:=by intro h;cases h
@[simp] theorem Cu{v u:PV}{s t:AQ}:PO.To (.val v s) u t↔v=u/\s=t:=by
 constructor
 ·intro h;cases h;simp
 ·rintro⟨rfl,rfl⟩;exact .val
@[simp] theorem Cr{c:Bool}{v u:PV}{s t:AQ}:PO.To (.Je c v s) u t↔c=true/\v=u/\s=t:=by
 constructor
 ·intro h;cases h with
  |tt h=>simp_all
  |ff h=>cases h
 ·rintro⟨rfl,rfl,rfl⟩;exact .tt .val
@[simp] theorem Sq{o:Option PV}{u:PV}{s t:AQ}:PO.To (ov s o) u t↔o=some u/\s=t:=by
 cases o with
 |none=>simp[ov]
 |some v=>simp only[ov,Cu,zi]
@[simp] theorem YX{c:Bool}{o:Option PV}{u:PV}{s t:AQ}:PO.To (ovc c s o) u t↔c=true/\o=some u/\s=t:=by
 cases o with
 |none=>simp[ovc]
 |some v=>simp only[ovc,Cr,zi]
def OK(B:Nat)(h0:H0)(F:Fz)(ρ:Ez)(st:AQ)(h:H)(a:List Nat)(d:Option OR)(v:PV)(st':AQ):Prop:=
 ∃v' h' F' ρ',(d=some (.val v' h')\/(d=some (.skip h')/\v'=.tup []))/\PR F' ρ' st'.nx v v'/\SR B h0 F' ρ' st'.nx st'.ob h'/\Le F ρ st.nx F' ρ' st'.nx/\
  st'.fr=st.fr/\st'.n=st.n/\h.nx<=h'.nx/\∀b,b<h.nx->h'.get b=h.get b\/∃id∈a,∃n,ρ id=some (b,n)
theorem OK.pure{a:List Nat}(hr:SR B h0 F ρ st.nx st.ob h){d:Option OR}{v:PV}{v':V}(c:d=some (.val v' h))(b:PR F ρ st.nx v v'):OK B h0 F ρ st h a d v st:=
 ⟨v',h,F,ρ,.inl c,b,hr,Le.refl,rfl,rfl,zj _,(by simp)⟩
theorem Nj{α:Type}(n:Nat)(l:List α):Det.K4 n l=l.drop n:=PQ n l
theorem rd_some{h:H}{b off n:Nat}{cs:List V}{t:TypeId}{fz:Nat×Nat}(c:h.get b=some (.cells cs t fz))(a:off+n<=cs.length)(d:∀v∈(cs.drop off).take n,v.ok=true):rd h b off n=some ((cs.drop off).take n):=by
 simp_all [bX,rd0]
theorem Rx{d:TypeDesc}{n:Nat}{ps:List PV}{cs:List V}(hp:BT F ρ N ps cs){p:PV}(a:pick d n ps=some p):
  (EE d=true/\0<n/\n<=cs.length/\PR F ρ N p (.agg<|cs.take n))\/(EE d=false/\∃v vs,cs=v::vs/\PR F ρ N p v):=by
 unfold pick at a;cases e:EE d with
 |true=>
  left;simp only[e,we]at a;rw[D7,RN]at a;cases b:(zx n ps.length&&zt 0 n)with
  |false=>grind
  |true=>
   rw[b]at a;simp only[we,zi]at a;subst a;simp only[zc]at b;obtain⟨b,c⟩:=b;refine⟨rfl,z7 c,by rw[<-hp.len];simp_all,?_⟩;exact⟨_,rfl,hp.take n⟩
 |false=>
  simp only[e,wg]at a;cases ps with
  |nil=>cases a
  |cons q f=>
   simp only[BT]at hp;grind
theorem Dj:∀ {s:Sh} {x:s.T} {cs:List V},DC F s x cs->BT F ρ N (flat s x) cs
 | .pair a b,(x,y),cs,h=>by
  obtain⟨c,d,rfl,f,e⟩:=h;exact(Dj f).append<|Dj e
 | .unit,_,cs,h=>by simp_all [DC,flat]
 | .int k,x,cs,h=>by simp_all [DC,flat,PR]
 | .bool,x,cs,h=>by simp_all [DC,flat,PR]
 | .str,x,cs,h=>by simp_all [DC,flat,PR]
 | .list s,x,cs,h=>by
  have h':=h;obtain⟨v,rfl,_⟩:=h;simp_all [flat,PR]
 | .fnv,x,cs,h=>by subst h;simp only[flat,BY,D8,vf];cases (x:Option Fn)<;>simp[PR]
 | .ptr s,x,cs,h=>by
  obtain⟨b,o,g,rfl,e,j,i⟩:=h;simp only[flat,BY,D8,vf,PR];grind
 | .nlist s,x,cs,h=>by
  have h':=h;obtain⟨v,rfl,_⟩:=h;simp_all [flat,PR]
theorem Gx{α:Type}(l:List α)(a b:Nat):l.drop (a+b)=(l.drop a).drop b:=by simp
theorem HD{T:Cj}{t:TypeId}{d:TypeDesc}{i:TI}(j:T.und t=some d)(s:T.inf t=some i){b off:Nat}{cs:List V}{te:TypeId}{fz:Nat×Nat}(e:h.get b=some (.cells cs te fz))
  {m:Nat} (u:∀v∈(cs.drop off).take m,v.ok=true) {ps:List PV} (hp:BT F ρ N ps ((cs.drop off).take m)) {p:PV} (c:pick d i.size ps=some p):∃v,FH T h t (.ptr b off)=some v/\PR F ρ N p v:=by
 unfold FH;simp only[j,s];have f:((cs.drop off).take m).length<=cs.length-off:=ah
 rcases Rx hp c with⟨o,_,x,r⟩|⟨o,v,vs,n,r⟩
 ·rw[rd_some e ae ah];grind
 ·have g:off+1<=cs.length:=by
   grind
  have q:(cs.drop off).take 1=[v]:=by
   have:m≠0:=ah
   obtain⟨k,rfl⟩:=Nat.exists_eq_succ_of_ne_zero this;cases w:cs.drop off with
   |nil=>grind
   |cons a l=>grind
  rw[rd_some e g ah,q];grind
end
section
variable {B:Nat}{h0:H0}{F:Fz}{ρ:Ez}{N:Nat}{C:Ctx}{st st':AQ}{fr:Fr}{h:H}
theorem SR.at(hr:SR B h0 F ρ N st.ob h){id:Nat}{o:Obj}(a:st.obj id=some o):∃b n x,ρ id=some (b,n)/\h.get b=some x/\Yd F ρ N n o x/\(o.frozen=false->F b=none)/\
  (o.frozen=true->∃cs t fz,x=.cells cs t fz/\F b=some cs):=hr.obj id o a
theorem Q3{s:Sh}{l:List s.T}{cs:List V}(a:DN F s l cs)(b:s.sz=1):∀(n j:Nat),j+n=l.length->BT F ρ N (QX s l j n) (cs.drop j)
 |0,j,f=>by
  have:cs.length=l.length:=by rw[a.1,b,yo]
  simp_all [QX]
 |n+1,j,f=>by
  have c:j<l.length:=ae
  have d:=a.2 j c;rw[b,yo]at d;have e:cs.drop j=(cs.drop j).take 1++cs.drop (j+1):=by
   grind [List.take_append_drop,yp]
  unfold QX;rw[e,show l.getD j s.Ip=l[j]from by grind];exact(Dj d).append (Q3 a b n (j+1) ae)
theorem sE(hr:SR B h0 F ρ st.nx st.ob h){t:TypeId}{p:PV}{a:V}(z:PR F ρ st.nx p a){v:PV}(f:(OC C.T st t p).To v st'):
  OK B h0 F ρ st h [] (BS h<|FH C.T h t a) v st':=by
 unfold OC at f;split at f
 case h_2=>simp at f
 rename_i d i y D;split at f
 case h_4=>simp at f
 case h_1=>
  rename_i id off;split at f
  case h_4=>simp at f
  case h_3=>
   rename_i tb ps r;simp only[Sq]at f;obtain⟨c,rfl⟩:=f;obtain⟨b,n,x,h1,h2,⟨cs,fz,rfl,h4,_,hbok⟩,_⟩:=hr.at r;obtain rfl:=z.2 b n h1;rw[Nj]at c;obtain⟨v',k,q⟩:=HD (h:=h) y D h2 (m:=cs.length) ah (by rw[zm<|by simp];exact h4.drop off) c;exact OK.pure hr (by rw[k];rfl) q
  case h_2=>
   rename_i G e s l r;cases g:(ze off 0&&ze s.sz 1)with
   |false=>simp_all
   |true=>
    rw[g]at f;simp only[we,YX,w5]at f;obtain⟨I,c,rfl⟩:=f;rw[zc]at g;have h0:=zd g.1;have E:=zd g.2;subst h0;obtain⟨b,n,x,h1,h2,⟨cs,fz,rfl,h4,_⟩,_⟩:=hr.at r;obtain rfl:=z.2 b n h1;have hp:=Q3 (ρ:=ρ) (N:=st.nx) h4 E i.size 0 ae;obtain⟨v',k,q⟩:=HD (h:=h) y D h2 (m:=cs.length) (fun u w=>h4.ok u ah) (by rw[zm<|by simp];exact hp) c;exact OK.pure hr (by rw[k];rfl) q
  rename_i ps r;simp only[Sq]at f;obtain⟨c,rfl⟩:=f;obtain⟨b,n,x,h1,h2,⟨cs,te,fz,rfl,h4,_,hbok⟩,_⟩:=hr.at r;obtain rfl:=z.2 b n h1;rw[Nj]at c;obtain⟨v',k,q⟩:=HD (h:=h) y D h2 (m:=cs.length) ah (by rw[zm<|by simp];exact h4.drop off) c;exact OK.pure hr (by rw[k];rfl) q
 case h_2=>
  rename_i id sz j off;split at f
  case h_2=>simp at f
  rename_i G e s l r;cases g:ze sz s.sz with
  |false=>simp_all
  |true=>
   rw[g]at f;simp only[we,YX,w5]at f;obtain⟨I,c,rfl⟩:=f;have g:=zd g;subst g;obtain⟨b,n,x,h1,h2,⟨cs,fz,rfl,h4,_⟩,_⟩:=hr.at r;obtain rfl:=z.2 b n h1;have A:=h4.2 j I;rw[show l.getD j s.Ip=l[j]from by simp[I],Nj]at c;have hp:BT F ρ st.nx ((flat s l[j]).drop off) ((cs.drop<|j*s.sz+off).take<|s.sz-off):=by
    have:=(Dj (F:=F) (ρ:=ρ) (N:=st.nx) A).drop off;rw[Gx, <-zr]at*;omega
   obtain⟨v',k,q⟩:=HD (h:=h) y D h2 (fun u w=>A.ok u<|List.mem_of_mem_drop (i:=off)<|by rw[Gx, <-zr]at w;exact w) hp c;exact OK.pure hr (by rw[k];rfl) q
 case h_3=>
  rename_i s x off;simp only[Sq]at f;obtain⟨c,rfl⟩:=f;obtain⟨b,o,cs,rfl,h1,h2,h3⟩:=z;obtain⟨te,fz,h4⟩:=hr.frz b cs h1;rw[Nj]at c;have hp:BT F ρ st.nx ((flat s x).drop off) ((cs.drop<|o+off).take<|s.sz-off):=by
   have:=(Dj (F:=F) (ρ:=ρ) (N:=st.nx) h3).drop off;rw[Gx, <-zr]at*;omega
  obtain⟨v',k,q⟩:=HD (h:=h) y D h4 (fun u w=>h3.ok u<|List.mem_of_mem_drop (i:=off)<|by rw[Gx, <-zr]at w;exact w) hp c;exact OK.pure hr (by rw[k];rfl) q
theorem DC.Xp:∀ {s:Sh} {x:s.T} {cs:List V},DC F s x cs->∀v∈cs,v.one=true
 | .int _,_,_,h=>by grind [DC,V.one]
 | .bool,_,_,h=>by grind [DC,V.one]
 | .str,_,_,h=>by grind [DC,V.one]
 | .list s,l,_,h=>by
  obtain⟨u,rfl,h⟩:=h;intro v e;rw[zn.1 e];rcases h with⟨_,rfl|rfl|rfl⟩|⟨b,off,cap,o,f,rfl,_⟩<;>rfl
 | .pair a b,x,_,h=>by
  obtain⟨c,d,rfl,g,i⟩:=h;intro v e;rcases List.mem_append.1 e with e|e
  ·exact g.Xp v e
  ·exact i.Xp v e
 | .unit,_,_,h=>by grind [DC]
 | .fnv,x,_,h=>by subst h;intro v e;rw[zn.1 e];cases (x:Option Fn)<;>rfl
 | .ptr _,x,_,h=>by obtain⟨b,o,f,rfl,_⟩:=h;intro v e;rw[zn.1 e];rfl
 | .nlist s,l,_,h=>by
  obtain⟨u,rfl,h⟩:=h;intro v e;rw[zn.1 e];rcases h with⟨_,rfl⟩|⟨_,b,off,cap,o,f,rfl,_⟩<;>rfl
theorem Jt{o:Option Obj}(h:I3 o=true):∃x,o=some x:=by cases o with|none=>cases h|some x=>simp
theorem Tj(hr:SR B h0 F ρ st.nx st.ob h){p:PV}{v:V}(d:Mc st p=true)(hp:PR F ρ st.nx p v):v.one=true:=by
 have key:∀ {id:Nat},I3 (st.obj id)=true->∃b n,ρ id=some (b,n):=by
  intro id e;obtain⟨o,f⟩:=Jt e;obtain⟨b,n,_,c,_⟩:=hr.at f;grind
 cases p<;>simp only[Mc]at d<;>simp only[PR]at hp<;>try (cases d;done)
 case bl=>subst hp;rfl
 case dat=>exact hp.Xp v (by simp)
 case nil|nilp|nilm|nilf|nili=>subst hp;rfl
 case ptr=>obtain⟨b,n,c⟩:=key d;rw[hp.2 b n c];rfl
 case eptr=>obtain⟨b,n,c⟩:=key d;rw[hp.2 b n c];rfl
 case A8=>obtain⟨b,o,cs,rfl,_⟩:=hp;rfl
 case sl=>
  obtain⟨b,n,c⟩:=key d;rcases hp.2 b n c with⟨_,_,o,_,rfl⟩|⟨_,_,_,rfl|⟨_,rfl,_⟩⟩<;>rfl
 case mp|yl=>obtain⟨b,n,c⟩:=key d;rw[hp.2 b n c];rfl
 case fn=>obtain⟨a,b,rfl,_⟩:=hp;rfl
theorem gV{v:V}(h:v.one=true):v.cells=[v]:=by cases v<;>first|rfl|cases h
theorem Po(hr:SR B h0 F ρ st.nx st.ob h){p:PV}{v:V}{ps:List PV}(hp:PR F ρ st.nx p v)(a:pcs st p=some ps):BT F ρ st.nx ps v.cells:=by
 unfold pcs at a;split at a
 ·cases a;obtain⟨cs,rfl,b⟩:=hp;exact b
 grind [gV,Tj,BT]
theorem Ld(hr:SR B h0 F ρ st.nx st.ob h):∀ {ps:List PV} {vs:List V},ps.all (Mc st)=true->BT F ρ st.nx ps vs->vs.all V.one=true
 |[],vs,_,h=>by simp_all
 |p::ps,vs,a,h=>by
  obtain⟨v,vs,rfl,b,c⟩:=h;simp only[List.all_cons,zc]at a ⊢;exact⟨Tj hr a.1 b,Ld hr a.2 c⟩
theorem BT.KR:∀ {a:List PV} {x:List V} {b:List PV} {y:List V},BT F ρ N a x->BT F ρ N b y->BT F ρ N (KR a b) (KR x y)
 |[],x,b,y,h,h'=>by subst h;exact h'
 |p::ps,x,b,y,h,h'=>by
  obtain⟨v,vs,rfl,c,f⟩:=h;cases b with
  |nil=>subst h';rfl
  |cons q e=>
   obtain⟨u,d,rfl,i,g⟩:=h';show BT F ρ N (p::Det.KR ps e) (v::Det.KR vs d);simp only[BY];exact⟨c,f.KR g⟩
theorem BT.CL{a:List PV}{x:List V}(c:BT F ρ N a x):∀(n:Nat) {b:List PV} {y:List V},BT F ρ N b y->BT F ρ N (CL n a b) (CL n x y)
 |0,b,y,h=>c.KR h
 |n+1,[],y,h=>by subst h;rfl
 |n+1,q::e,y,h=>by
  obtain⟨u,d,rfl,g,f⟩:=h;show BT F ρ N (q::yr n a e) (u::yr n x d);simp only[BY];exact⟨g,BT.CL c n f⟩
theorem H6:∀(l:Ob) (i:Nat) (x:Obj) (j:Nat),(AR l i).isSome=true->AR (Ep l i x) j=if j=i then some x else AR l j
 |[],i,x,j,h=>by cases h
 |(a,o)::l,i,x,j,h=>by
  simp only[Ep,AR,Bx]at h ⊢;by_cases e:a=i
  ·subst e;simp only[decide_true,we,AR,Bx];grind
  ·simp only[e,decide_false,wg]at h ⊢;simp only[AR,Bx];by_cases b:a=j
   ·grind
   ·simp only[b,decide_false,wg];exact H6 l i x j h
theorem Oj{b off:Nat}{vs cs:List V}{t:TypeId}{fz:Nat×Nat}(a:h.get b=some (.cells cs t fz))(e:off+vs.length<=cs.length)(d:fz.2<=fz.1)(c:vs.all V.one=true):
  wr h b off vs=some (h.put b<|.cells (CL off vs cs) t fz):=by
 unfold wr;simp only[a,D7,Gb,c];simp_all [zp,Det.clear]
theorem SR.set(hr:SR B h0 F ρ st.nx st.ob h){id b n:Nat}{o o':Obj}{x x':O}(z:st.obj id=some o)(q:ρ id=some (b,n))(K:h.get b=some x)(S:o.frozen=false)(G:o'.frozen=false)
  (Q:Yd F ρ st.nx n o' x'):SR B h0 F ρ st.nx (Ep st.ob id o') (h.put b x'):=by
 have r:AR st.ob id=some o:=z;have t:F b=none:=by
  obtain⟨b',n',_,p,_,_,s,_⟩:=hr.at z;grind
 have l:∀j,AR (Ep st.ob id o') j=if j=id then some o' else AR st.ob j:=(by grind [H6])
 refine⟨fun j oj a=>?_,fun i j oi oj c m D M a p s=>?_,fun c cs f=>?_,hr.own,fun j a=>?_,fun c f u=>?_,fun c I f=>?_,hr.le,hr.fo,hr.gl,fun c f=>?_⟩
 ·rw[l]at a;by_cases e:j=id
  ·subst e;simp only[wm,zi]at a;subst a;exact⟨b,n,x',q,by simp,Q,fun _=>t,ah⟩
  ·rw[wc e]at a;obtain⟨c,m,y,p,s,P,L,E⟩:=hr.obj j oj a;have d:c≠b:=fun A=>e<|hr.inj j id oj o c m n a r p<|A▸q
   exact⟨c,m,y,p,by simp_all,P,L,E⟩
 ·have g:∀k ok,AR (Ep st.ob id o') k=some ok->∃J,AR st.ob k=some J:=by
   grind
  obtain⟨_,w⟩:=g i oi M;obtain⟨_,v⟩:=g j oj a;exact hr.inj i j _ _ c m D w v p s
 ·have d:c≠b:=ah;rw[H.Cf,wc d];exact hr.frz c cs f
 ·rw[l]at a;by_cases e:j=id
  ·grind
  ·rw[wc e]at a;exact hr.dead j a
 ·have d:c≠b:=Ph (hr.own id b n q).2 f u;rw[H.Cf,wc d];exact hr.old c f u
 ·rw[H.Cf]at f;by_cases e:c=b
  ·subst e;exact hr.lt _ _ K
  ·rw[wc e]at f;exact hr.lt c I f
 ·obtain⟨w,v,R⟩:=hr.pn c f;have d:c≠b:=ah;simp_all
def BC(ρ:Ez)(i:Nat)(x:Option (Nat×Nat)):Ez:=fun j=>if j=i then x else ρ j
theorem Le.Kp(i:Nat):Le F ρ N F (BC ρ i none) N:=⟨fun _ _ h=>h,(by grind [BC]),zj _⟩
theorem Le.new(x:Nat×Nat):Le F ρ N F (BC ρ N<|some x) (N+1):=⟨fun _ _ h=>h,fun id h=>by unfold BC;grind,Nat.le_succ _⟩
theorem SR.push{ob:Ob}(hr:SR B h0 F ρ N ob h){o:Obj}{x:O}{n:Nat}(V:o.frozen=false)(T:Yd F (BC ρ N<|some (h.nx,n)) (N+1) n o x):
  SR B h0 F (BC ρ N<|some (h.nx,n)) (N+1) ((N,o)::ob) (h.push x):=by
 have I:Le F ρ N F (BC ρ N<|some (h.nx,n)) (N+1):=Le.new _;have f:∀j,AR ((N,o)::ob) j=if j=N then some o else AR ob j:=by
  simp only[AR,Bx];grind
 have A:∀b y,h.get b=some y->b≠h.nx:=fun b y g=>by have:=hr.lt b y g;omega
 refine⟨fun j oj a=>?_,fun i j oi oj c m p z a l w=>?_,fun c cs d=>?_,fun id b m g=>?_,fun j a=>?_,fun c d D=>?_,fun c K d=>?_,?_,?_,hr.gl,fun c d=>?_⟩
 ·rw[f]at a;by_cases e:j=N
  ·subst e;simp only[wm,zi]at a;subst a;refine⟨h.nx,n,x,by simp[BC],by simp,T,fun _=>?_,ah⟩;cases d:F h.nx with
   |none=>rfl
   |some cs=>
    obtain⟨t,fz,L⟩:=hr.frz _ _ d;grind
  ·rw[wc e]at a;obtain⟨c,m,y,l,w,S,Q,J⟩:=hr.obj j oj a;exact⟨c,m,y,by simp[BC,e,l],by simp_all,S.mono I,Q,J⟩
 ·rw[f]at z a;have key:∀k ok m,(if k=N then some o else AR ob k)=some ok->BC ρ N (some (h.nx,n)) k=some (c,m)->(k=N/\c=h.nx)\/(k≠N/\AR ob k=some ok/\ρ k=some (c,m)/\c≠h.nx):=by
   intro k ok m v q;by_cases e:k=N
   ·simp_all [BC]
   ·rw[wc e]at v;simp only[BC,e,vg]at q;obtain⟨W,p,y,M,s,_⟩:=hr.obj k ok v;grind
  rcases key i oi m z l with⟨R,r⟩|⟨R,r,E,X⟩<;>rcases key j oj p a w with⟨P,u⟩|⟨P,u,G,Y⟩
  ·omega
  ·omega
  ·omega
  ·exact hr.inj i j oi oj c m p r u E G
 ·obtain⟨t,fz,L⟩:=hr.frz c cs d;simp_all
 ·unfold BC at g;split at g
  ·cases g;exact⟨ae,.inl hr.le⟩
  ·have:=hr.own id b m g;grind
 ·rw[f]at a;by_cases e:j=N
  ·grind
  ·rw[wc e]at a;simp[BC,e,hr.dead j a]
 ·have:=hr.le;rw[H.CW,wc ae];exact hr.old c d D
 ·rw[H.CW]at d;by_cases e:c=h.nx
  ·simp_all
  ·rw[wc e]at d;have:=hr.lt c K d;show c<h.nx+1;omega
 ·have:=hr.le;show B<=h.nx+1;omega
 ·exact hr.fo
 ·obtain⟨M,s,U⟩:=hr.pn c d;refine⟨by simp_all,s,fun id m e=>?_⟩;unfold BC at e;grind
theorem DO:∀(l:Ob) (i j:Nat),AR (Hl l i) j=if j=i then none else AR l j
 |[],i,j=>by simp[Hl,AR]
 |(a,o)::l,i,j=>by
  simp only[Hl,Bx];by_cases e:a=i
  ·subst e;simp only[decide_true,we];rw[DO l a j];simp only[AR,Bx];grind
  ·simp only[e,decide_false,wg,AR,Bx];rw[DO l i j];grind
theorem SR.del{ob:Ob}(hr:SR B h0 F ρ N ob h)(id:Nat):SR B h0 F (BC ρ id none) N (Hl ob id) h:=by
 have o:Le F ρ N F (BC ρ id none) N:=Le.Kp id;refine⟨fun j oj a=>?_,fun i j oi oj c m q k a d g=>?_,hr.frz,fun j b m f=>?_,fun j a=>?_,hr.old,hr.lt,hr.le,hr.fo,hr.gl,fun c n=>?_⟩
 ·rw[DO]at a;split at a
  ·cases a
  ·rename_i e;obtain⟨c,m,y,d,g,s,p⟩:=hr.obj j oj a;exact⟨c,m,y,by simp[BC,e,d],g,s.mono o,p⟩
 ·rw[DO]at k a;split at k
  ·cases k
  split at a
  ·cases a
  rename_i r l;simp only[BC,r,l,vg]at d g;exact hr.inj i j oi oj c m q k a d g
 ·unfold BC at f;split at f
  ·cases f
  ·exact hr.own j b m f
 ·rw[DO]at a;unfold BC;split
  ·rfl
  ·rename_i e;rw[wc e]at a;exact hr.dead j a
 ·obtain⟨u,t,v⟩:=hr.pn c n;grind [BC]
theorem SR.kill{ob:Ob}(hr:SR B h0 F ρ N ob h){b:Nat}(q:∀id o n,AR ob id=some o->ρ id≠some (b,n))(r:F b=none)(p:h0.fO B b)(s:b∉h0.pin):SR B h0 F ρ N ob (h.kill b):=by
 refine⟨fun j oj k=>?_,hr.inj,fun c cs a=>?_,hr.own,hr.dead,fun c a d=>?_,fun c g a=>?_,hr.le,hr.fo,hr.gl,fun c a=>?_⟩
 ·obtain⟨c,m,y,e,l,f⟩:=hr.obj j oj k;have:c≠b:=ah;exact⟨c,m,y,e,by simp_all,f⟩
 ·have:c≠b:=ah;rw[H.DZ,wc this];exact hr.frz c cs a
 ·have:c≠b:=Ph p a d;rw[H.DZ,wc this];exact hr.old c a d
 ·rw[H.DZ]at a;split at a
  ·cases a
  ·exact hr.lt c g a
 ·obtain⟨e,l,f⟩:=hr.pn c a;have i:c≠b:=ah;simp_all
theorem CR{s a:Sh}{x:s.T}{y:a.T}(h:EZ s a x=some y):∃e:s=a,e▸x=y:=by
 simp_all [EZ]
theorem Hb{s:Sh}{p:PV}{x:s.T}{v:V}(hp:PR F ρ N p v)(a:xN s p=some x):DC F s x [v]:=by
 unfold xN at a;split at a
 ·unfold asP at a;split at a
  ·obtain⟨rfl,rfl⟩:=CR a;simp_all [PR,DC]
  grind
 ·obtain⟨rfl,rfl⟩:=CR a;simpa only[PR]using hp
 ·obtain⟨rfl,rfl⟩:=CR a;grind [PR,DC]
 ·obtain⟨rfl,rfl⟩:=CR a;simp_all [PR,DC]
 ·obtain⟨rfl,rfl⟩:=CR a;grind [PR,DC]
 ·split at a
  ·grind [PR,DC]
  ·grind [PR,DC]
  grind
 grind
theorem H9:∀ {s:Sh} {ps:List PV} {vs:List V} {x:s.T} {e:List PV},BT F ρ N ps vs->CO s ps=some (x,e)->∃a b,vs=a++b/\DC F s x a/\BT F ρ N e b
 | .pair s t,ps,vs,x,e,hp,f=>by
  unfold CO at f;split at f
  case h_2=>cases f
  rename_i y l1 g;split at f
  case h_2=>cases f
  rename_i z m i;cases f;obtain⟨a,b,rfl,n,l⟩:=H9 hp g;obtain⟨c,d,rfl,g3,g4⟩:=H9 l i;exact⟨a++c,d,by simp,by simp only[DC];grind,g4⟩
 | .unit,ps,vs,x,e,hp,f=>by
  cases f;exact⟨[],vs,rfl,by simp[DC],hp⟩
 | .int k,[],vs,x,e,hp,f=>by simp[CO]at f
 | .bool,[],vs,x,e,hp,f=>by simp[CO]at f
 | .str,[],vs,x,e,hp,f=>by simp[CO]at f
 | .list s,[],vs,x,e,hp,f=>by simp[CO]at f
 | .nlist s,[],vs,x,e,hp,f=>by simp[CO]at f
 | .fnv,[],vs,x,e,hp,f=>by simp[CO]at f
 | .ptr _,[],vs,x,e,hp,f=>by simp[CO]at f
 | .int k,p::ps,vs,x,e,hp,f=>by
  obtain⟨v,vs,rfl,g,i⟩:=hp;simp only[CO]at f;split at f
  ·rename_i y j;cases f;exact⟨[v],vs,rfl,Hb g j,i⟩
  grind
 | .bool,p::ps,vs,x,e,hp,f=>by
  obtain⟨v,vs,rfl,g,i⟩:=hp;simp only[CO]at f;split at f
  ·rename_i y j;cases f;exact⟨[v],vs,rfl,Hb g j,i⟩
  grind
 | .str,p::ps,vs,x,e,hp,f=>by
  obtain⟨v,vs,rfl,g,i⟩:=hp;simp only[CO]at f;split at f
  ·rename_i y j;cases f;exact⟨[v],vs,rfl,Hb g j,i⟩
  grind
 | .list s,p::ps,vs,x,e,hp,f=>by
  obtain⟨v,vs,rfl,g,i⟩:=hp;simp only[CO]at f;split at f
  ·rename_i y j;cases f;exact⟨[v],vs,rfl,Hb g j,i⟩
  grind
 | .fnv,p::ps,vs,x,e,hp,f=>by
  obtain⟨v,vs,rfl,g,i⟩:=hp;simp only[CO]at f;split at f
  ·rename_i y j;cases f;exact⟨[v],vs,rfl,Hb g j,i⟩
  grind
 | .ptr s,p::ps,vs,x,e,hp,f=>by
  obtain⟨v,vs,rfl,g,i⟩:=hp;simp only[CO]at f;split at f
  ·rename_i y j;cases f;exact⟨[v],vs,rfl,Hb g j,i⟩
  grind
 | .nlist s,p::ps,vs,x,e,hp,f=>by
  obtain⟨v,vs,rfl,g,i⟩:=hp;simp only[CO]at f;split at f
  ·rename_i y j;cases f;exact⟨[v],vs,rfl,Hb g j,i⟩
  grind
theorem Dc{s:Sh}{ps:List PV}{vs:List V}{x:s.T}(hp:BT F ρ N ps vs)(c:DM s ps=some x):DC F s x vs:=by
 unfold DM at c;split at c
 ·rename_i y d;obtain⟨a,b,rfl,e,f⟩:=H9 hp d;simp_all
 grind
theorem VS{v:V}:∀(vs cs:List V) (off:Nat),v∈HJ cs off vs->v∈vs\/v∈cs
 |[],cs,off,h=>.inr h
 |u::vs,cs,off,h=>by
  rcases VS vs _ _ h with h|h
  ·grind
  grind
theorem XB{v:V}{vs cs:List V}{off:Nat}(h:v∈yr off vs cs):v∈vs\/v∈cs:=by
 grind [Kn,VS]
theorem HT{cs vs:List V}{off:Nat}(a:off+vs.length<=cs.length)(j:Nat):(CL off vs cs)[j]?=if off<=j/\j<off+vs.length then vs[j-off]? else cs[j]?:=by
 grind [Kn,Qp]
theorem kX{cs vs:List V}{off:Nat}:(CL off vs cs).length=cs.length:=by
 grind [Kn,Jz]
theorem Aej{cs vs:List V}{m off k:Nat}(b:off+vs.length<=k)(c:m+k<=cs.length):((CL (m+off) vs cs).drop m).take k=CL off vs ((cs.drop m).take k):=by
 apply z6;intro j;rw[HT ah];by_cases a:j<k
 ·rw[zw a,ye,HT ae];grind
 grind
theorem zV{cs vs:List V}{m p k:Nat}(c:p+vs.length<=m\/m+k<=p)(b:p+vs.length<=cs.length):((CL p vs cs).drop m).take k=(cs.drop m).take k:=by
 apply z6;intro j;by_cases a:j<k
 ·rw[zw a,zw a,ye,ye,HT b,wc ae]
 grind
theorem DN.set{s:Sh}{l:List s.T}{cs vs:List V}{j off:Nat}{y:s.T}(b:DN F s l cs)(d:j<l.length)(c:off+vs.length<=s.sz)(k:DC F s y (CL off vs<|(cs.drop<|j*s.sz).take s.sz)):
  DN F s (l.set j y) (CL (j*s.sz+off) vs cs):=by
 have g:j*s.sz+s.sz<=cs.length:=by
  rw[b.1, <-zu];exact zg _ d
 refine⟨by rw[kX,List.length_set];exact b.1,fun i f=>?_⟩;have a:i<l.length:=ah
 by_cases e:i=j
 ·simp_all [Aej]
 ·rw[List.getElem_set_ne ae,zV ?_ ae]
  ·exact b.2 i a
  ·rcases Nat.lt_or_gt_of_ne e with h1|h1
   ·have:(i+1)*s.sz<=j*s.sz:=zg _ h1;grind
   ·have:(j+1)*s.sz<=i*s.sz:=zg _ h1;grind
theorem J0{s:Sh}:∀ {n:Nat} {ps:List PV} {vs:List V} {l:List s.T},BT F ρ N ps vs->chunk s n ps=some l->vs.length=n*s.sz->l.length=n/\DN F s l vs
 |0,ps,vs,l,hp,c,j=>by
  cases c;simp_all [DN]
 |n+1,ps,vs,l,hp,c,j=>by
  unfold chunk at c;split at c
  case h_2=>cases c
  rename_i x d k;rw[zf]at c;obtain⟨l',e,rfl⟩:=c;obtain⟨a,b,rfl,h2,h3⟩:=H9 hp k;have m:=h2.len;have g:b.length=n*s.sz:=ah
  obtain⟨f,p⟩:=J0 h3 e g;refine⟨by simp[f],by grind,fun i o=>?_⟩;cases i with
  |zero=>
   grind
  |succ i=>
   grind [zu,Gx,DN]
theorem nY{cs a:List V}(h:a.length=cs.length):yr 0 a cs=a:=by
 apply z6;simp_all [HT]
theorem yO(hr:SR B h0 F ρ st.nx st.ob h){t:TypeId}{p q:PV}{a x:V}(I:PR F ρ st.nx p a)(X:PR F ρ st.nx q x){v:PV}(d:(Ym C.T st t p q).To v st'):
  ∃id,((∃off,p=.ptr id off)\/∃sz j off,p=.eptr id sz j off)/\OK B h0 F ρ st h [id] (rH<|Iy C.T h t a x) v st':=by
 unfold Ym at d;split at d
 case h_2=>simp at d
 rename_i i J L U;cases M:(ze (Det.Ge J) i.size&&Det.LK (Mc st) J)with
 |false=>simp_all
 |true=>
  rw[M]at d;simp only[zc]at M;obtain⟨O,G⟩:=M;rw[D7]at O;rw[Gb]at G;have g:=Po hr X U;have r:x.cells.length=i.size:=by rw[<-g.len];simp_all
  have o:=Ld hr G g;have w:ze x.cells.length i.size=true:=by simp_all
  simp only[we]at d;split at d
  case h_3=>simp at d
  case h_1=>
   rename_i id off;split at d
   case h_4=>simp_all
   case h_3=>
    rename_i tb ps u;cases k:zx (ya off i.size) (Det.Ge ps)with
    |false=>simp_all
    |true=>
     rw[k]at d;simp only[we,Cu]at d;obtain⟨rfl,rfl⟩:=d;obtain⟨b,n,y,h1,h2,⟨cs,fz,rfl,h4,h5,hbok⟩,hf,_⟩:=hr.at u;simp only[PR]at I;obtain rfl:=I.2 b n h1;rw[D7]at k;have m:off+x.cells.length<=cs.length:=by rw[<-h4.len,r];simp_all
     refine⟨id,(by simp),.tup [],_,F,ρ,.inr ⟨?_,rfl⟩,by simp[PR],hr.set u h1 h2 rfl rfl (o':=.tbox tb<|yr off J ps) ⟨_,fz,rfl,g.CL off h4,h5,(by grind [XB,V.Nt])⟩,Le.refl,rfl,rfl,zj _,fun c _=>?_⟩
     ·unfold Iy;simp only[L,w,we];rw[Oj h2 m h5 o];rfl
     ·rw[H.Cf];grind
   case h_2=>
    rename_i e s l u;cases f:(ze off 0&&ze s.sz 1)with
    |false=>simp_all
    |true=>
     rw[f]at d;rw[zc]at f;have A:=zd f.1;have R:=zd f.2;subst A;simp only[we]at d;split at d
     case h_2=>simp_all
     rename_i y K;simp only[Cr,w5]at d;obtain⟨D,rfl,rfl⟩:=d;obtain⟨b,n,z,h1,h2,⟨cs,fz,rfl,h4,h5,h6⟩,hf,_⟩:=hr.at u;obtain rfl:=I.2 b n h1;have W:cs.length=x.cells.length:=by rw[h4.1,R,yo,r];exact D
     obtain⟨Y,Z⟩:=J0 g K ah;have m:0+x.cells.length<=cs.length:=ae
     refine⟨id,(by simp),.tup [],_,F,ρ,.inr ⟨?_,rfl⟩,by simp[PR],hr.set u h1 h2 rfl rfl (o':=.arr false e s y) ⟨yr 0 x.cells cs,fz,rfl,by grind [nY],h5,by omega⟩,Le.refl,rfl,rfl,zj _,fun c _=>?_⟩
     ·unfold Iy;simp only[L,w,we];rw[Oj h2 m h5 o];rfl
     ·rw[H.Cf];grind
   rename_i ps u;cases k:zx (ya off i.size) (Det.Ge ps)with
   |false=>simp_all
   |true=>
    rw[k]at d;obtain⟨rfl,rfl⟩:=d;obtain⟨b,n,y,h1,h2,⟨cs,te,fz,rfl,h4,h5,hbok⟩,hf,_⟩:=hr.at u;obtain rfl:=I.2 b n h1;rw[D7]at k;have m:off+x.cells.length<=cs.length:=by rw[<-h4.len,r];simp_all
    refine⟨id,(by simp),.tup [],_,F,ρ,.inr ⟨?_,rfl⟩,by simp[PR],hr.set u h1 h2 rfl rfl (o':=.box<|yr off J ps) ⟨_,te,fz,rfl,g.CL off h4,h5,(by grind [XB,V.Nt])⟩,Le.refl,rfl,rfl,zj _,fun c _=>?_⟩
    ·unfold Iy;simp only[L,w,we];rw[Oj h2 m h5 o];rfl
    ·rw[H.Cf];grind
  case h_2=>
   rename_i id sz j off;split at d
   case h_2=>simp at d
   rename_i e s l u;cases f:(ze sz s.sz&&zx (ya off i.size) sz)with
   |false=>rw[f]at d;simp at d
   |true=>
    rw[f]at d;simp only[zc]at f;have Q:=zd f.1;have A:=z7 f.2;subst Q;simp only[we]at d;split at d
    case h_2=>simp at d
    rename_i y K;simp only[Cr,w5]at d;obtain⟨D,rfl,rfl⟩:=d;obtain⟨b,n,z,h1,h2,⟨cs,fz,rfl,h4,h5,h6⟩,hf,_⟩:=hr.at u;obtain rfl:=I.2 b n h1;rw[show l.getD j s.Ip=l[j]from by simp[D]]at K;have S:=Dj (F:=F) (ρ:=ρ) (N:=st.nx)<|h4.2 j D;have P:=Dc (g.CL off S) K;have E:=DN.set h4 D ah P;have m:j*s.sz+off+x.cells.length<=cs.length:=by
     have:j*s.sz+s.sz<=cs.length:=by rw[h4.1, <-zu];exact zg _ D
     grind
    refine⟨id,(by simp),.tup [],_,F,ρ,.inr ⟨?_,rfl⟩,by simp[PR],hr.set u h1 h2 rfl rfl (o':=.arr false e s<|l.set j y) ⟨_,fz,rfl,E,h5,by grind⟩,Le.refl,rfl,rfl,zj _,fun c _=>?_⟩
    ·unfold Iy;simp only[L,w,we];rw[Oj h2 m h5 o];rfl
    ·rw[H.Cf];grind
theorem CX{k:IntKind}{n:Int}{v:V}(h:PR F ρ N (.dat (.int k) n) v):v=.int k n:=by simpa [PR,DC]using h
theorem FU{s:Rd}{v:V}(h:PR F ρ N (.dat .str s) v):v=.str s:=by simpa [PR,DC]using h
theorem MO{b:Bool}{v:V}(h:PR F ρ N (.dat .bool b) v):v=.bool b:=by simpa [PR,DC]using h
theorem Rw{b:Bool}{v:V}(h:PR F ρ N (.bl b) v):v=.bool b:=by simpa [PR]using h
theorem DW(k:IntKind)(n:Int):PR F ρ N (.dat (.int k) n) (.int k n):=by rfl
theorem NC(s:Rd):PR F ρ N (.dat .str s) (.str s):=by rfl
theorem D9(b:Bool):PR F ρ N (.dat .bool b) (.bool b):=by rfl
theorem mO(b:Bool):PR F ρ N (.bl b) (.bool b):=by simp[PR]
theorem Ib{p:PV}{b:Bool}{v:V}(h:Ko p=some b)(hp:PR F ρ N p v):v=.bool b:=by
 unfold Ko at h;grind [Rw,MO]
theorem Afv(hr:SR B h0 F ρ st.nx st.ob h){op:BinOp}{k:IntKind}{a b:Int}{v:PV}(c:(Adn op k a b st).To v st'):OK B h0 F ρ st h [] (BS h<|PU op k a b) v st':=by
 unfold Adn at c;split at c<;>simp only[NL,Cu,Cr,w5,vc]at c
 all_goals first
  |(obtain⟨rfl,rfl⟩:=c;exact OK.pure hr rfl (DW _ _))
  |(obtain⟨rfl,rfl⟩:=c;exact OK.pure hr rfl (D9 _))
  |(obtain⟨d,rfl,rfl⟩:=c;simp_all [OK.pure,PU,BS,DW])
theorem Ah2(hr:SR B h0 F ρ st.nx st.ob h){op:BinOp}{k:IntKind}{a b:Int}{v:PV}(c:(psh op k a b st).To v st'):OK B h0 F ρ st h [] (BS h<|jG op k a b) v st':=by
 unfold psh at c;split at c<;>simp only[NL,Cr,w5]at c
 all_goals
  obtain⟨d,rfl,rfl⟩:=c;exact OK.pure hr (by simp only[jG,Int.not_lt.2 d,vg,BS])<|DW _ _
theorem Ahh(hr:SR B h0 F ρ st.nx st.ob h){op:BinOp}{x y:Rd}{v:PV}(a:(AdE op x y st).To v st'):OK B h0 F ρ st h [] (BS h<|XK op x y) v st':=by
 unfold AdE at a;split at a<;>simp only[NL,Cu,Cr,w5]at a
 all_goals first
  |(obtain⟨rfl,rfl⟩:=a;exact OK.pure hr rfl (D9 _))
  |(obtain⟨b,rfl,rfl⟩:=a;simp_all [OK.pure,XK,BS,NC])
theorem SU:∀ {ks:List FK} {ps n:List PV} {e f:List V} {r:Bool},BT F ρ N ps e->BT F ρ N n f->HP ks ps n=some r->fit ks e=true/\fit ks f=true/\Ca e f=some r
 |[],[],[],e,f,r,j,g,d=>by
  subst j g;simp only[HP,zi]at d;subst d;exact⟨rfl,rfl,rfl⟩
 |[],_::_,_,e,f,r,j,g,d=>by simp[HP]at d
 |[],[],_::_,e,f,r,j,g,d=>by simp[HP]at d
 |k::ks,[],_,e,f,r,j,g,d=>by grind [HP]
 |k::ks,_::_,[],e,f,r,j,g,d=>by grind [HP]
 |k::ks,p::ps,q::n,e,f,r,j,g,d=>by
  obtain⟨x,e,rfl,i,s⟩:=j;obtain⟨y,f,rfl,hy1,hy2⟩:=g;have key:∀ {c:Bool},k.ok x=true->k.ok y=true->EK x y=some c->(HP ks ps n).map (fun r=>c&&r)=some r->fit (k::ks) (x::e)=true/\fit (k::ks) (y::f)=true/\Ca (x::e) (y::f)=some r:=by
   intro c v J P u;rw[zf]at u;obtain⟨M,A,rfl⟩:=u;obtain⟨g1,g2,g3⟩:=SU s hy2 A;refine⟨by simp[fit,v,g1],by simp[fit,J,g2],?_⟩;have L:e.length=f.length:=by rw[<-TG g1, <-TG g2]
   cases c with
   |true=>simp_all [Ca]
   |false=>simp_all [Ca]
  unfold HP at d;split at d
  case h_1=>grind
  case h_2=>
   rename_i t D E a K G b w o m l;cases m;cases l;cases O:(t==E&&t==G)with
   |false=>grind
   |true=>
    obtain rfl:=CX i;obtain rfl:=CX hy1;grind [FK.ok,EK]
  case h_3=>
   rename_i o m l;cases o;cases m;cases l;obtain rfl:=FU i;obtain rfl:=FU hy1;exact key rfl rfl (by rfl) d
  case h_4=>
   rename_i o m l;cases o;cases m;cases l;split at d
   case h_2=>cases d
   rename_i a b I z;obtain rfl:=Ib I i;obtain rfl:=Ib z hy1;exact key rfl rfl rfl d
  grind
theorem dU(hr:SR B h0 F ρ st.nx st.ob h){op:BinOp}{t e:TypeId}(j:C.T.und t=some (.slice e)){p:PV}{x:V}(d:PR F ρ st.nx p x){ng:Bool}{v:PV}(a:(UQ st ng p).To v st'):
  (∀(_:x=.nili),False)/\∃b,BF C.T t x .nils=some b/\PR F ρ st.nx v (.bool<|b !=ng)/\Lv C.T op t x .nils=(match op with| .eql=>(BF C.T t x .nils).map fun b=>.bool b| .neq=>(BF C.T t x .nils).map fun b=>.bool !b|_=>none)/\st'=st:=by
 have dq:∀ {x:V},x=.nils\/x=.esl\/x=.es0\/(∃b off len cap o,x=.sl b off len cap o)->Lv C.T op t x .nils=(match op with| .eql=>(BF C.T t x .nils).map fun b=>.bool b| .neq=>(BF C.T t x .nils).map fun b=>.bool !b|_=>none):=by
  rintro x (rfl|rfl|rfl|⟨b,off,len,cap,o,rfl⟩)<;>cases op<;>rfl
 have no:∀ {x:V},x=.esl\/x=.es0\/(∃b off len cap o,x=.sl b off len cap o)->BF C.T t x .nils=some false:=by
  rintro x (rfl|rfl|⟨b,off,len,cap,o,rfl⟩)<;>simp[BF,j]
 have yes:BF C.T t .nils .nils=some true:=by simp[BF,j]
 unfold UQ at a;split at a
 case h_1=>
  simp only[Cu]at a;obtain⟨rfl,rfl⟩:=a;simp only[PR]at d;subst d;exact⟨(by simp),true,yes,by simp[PR],dq<|.inl rfl,rfl⟩
 case h_2=>
  rename_i id sz off len cap;cases g:I3 (st.obj id)with
  |false=>rw[g]at a;simp at a
  |true=>
   rw[g]at a;simp only[we,Cu]at a;obtain⟨rfl,rfl⟩:=a;obtain⟨o,ho⟩:=Jt g;obtain⟨b,n,_,h1,_⟩:=hr.at ho;simp only[PR]at d;have:x=.esl\/x=.es0\/(∃b off len cap o,x=.sl b off len cap o):=by
    grind
   exact⟨ah,false,no this,by simp[PR],dq<|.inr this,rfl⟩
 case h_3=>
  rename_i s l;simp only[PR,DC]at d;obtain⟨u,f,d⟩:=d;obtain rfl:x=u:=ah
  have i:(decide (0<(l:List s.T).length)=true/\v=.bl ng/\st'=st)\/(v=.ub/\st'=st):=by
   generalize decide (0<(l:List s.T).length)=c at a;cases a with
   |tt a=>simp only[Cu]at a;grind
   |ff a=>grind [Cu]
  rcases i with⟨q,rfl,rfl⟩|⟨rfl,rfl⟩
  ·rcases d with⟨rfl,_⟩|⟨b,off,cap,o,k,rfl,_⟩
   ·grind
   ·exact⟨(by simp),false,ah,by simp[PR],ah,rfl⟩
  ·rcases d with⟨rfl,rfl|rfl|rfl⟩|⟨b,off,cap,o,k,rfl,_⟩
   ·exact⟨(by simp),true,yes,by simp[PR],dq<|.inl rfl,rfl⟩
   ·exact⟨(by simp),false,no<|.inl rfl,by simp[PR],ah,rfl⟩
   ·exact⟨(by simp),false,ah,by simp[PR],ah,rfl⟩
   ·exact⟨(by simp),false,ah,by simp[PR],ah,rfl⟩
 case h_4=>
  rename_i s l;simp only[Cu]at a;obtain⟨rfl,rfl⟩:=a;simp only[PR,DC]at d;obtain⟨u,f,d⟩:=d;obtain rfl:x=u:=ah
  rcases d with⟨rfl,rfl⟩|⟨h0,b,off,cap,o,k,rfl,_⟩
  ·exact⟨(by simp),true,yes,by cases ng<;>simp[PR,DC],dq<|.inl rfl,rfl⟩
  ·have m:0<(l:List s.T).length:=ah;exact⟨(by simp),false,ah,by grind [PR,DC],ah,rfl⟩
 case h_5=>simp at a
theorem Yp{o:Option Obj}(h:I3 o=true):∃x,o=some x:=by
 cases o with
 |none=>cases h
 |some x=>simp
theorem S2(hr:SR B h0 F ρ st.nx st.ob h){t e:TypeId}{p q:PV}{x y:V}(f:C.T.und t=some (.pointer e))(k:PR F ρ st.nx p x)(g:PR F ρ st.nx q y){r:Bool}(c:ptrEq C.T e st p q=some r):
  BF C.T t x y=some r/\x≠ .nili/\∀op,Lv C.T op t x y=(match op with| .eql=>(BF C.T t x y).map .bool| .neq=>(BF C.T t x y).map fun b=>.bool !b|_=>none):=by
 have live:∀ {id off:Nat} {v:V},PR F ρ st.nx (.ptr id off) v->I3 (st.obj id)=true->∃b n,ρ id=some (b,n)/\v=.ptr b off:=by
  intro id off v A d;obtain⟨o,z⟩:=Yp d;obtain⟨b,n,_,h1,_⟩:=hr.at z;grind [PR]
 unfold ptrEq at c;split at c
 case h_5=>cases c
 case h_1=>
  cases c;subst k g;exact⟨by unfold BF;rw[f],(by simp),fun op=>by cases op<;>rfl⟩
 case h_2=>
  rename_i id off;cases d:I3 (st.obj id)with
  |false=>grind
  |true=>
   rw[d]at c;cases c;obtain⟨b,n,_,rfl⟩:=live k d;subst g;exact⟨by unfold BF;rw[f],(by simp),fun op=>by cases op<;>rfl⟩
 case h_3=>
  rename_i id off;cases d:I3 (st.obj id)with
  |false=>grind
  |true=>
   rw[d]at c;cases c;obtain⟨b,n,_,rfl⟩:=live g d;subst k;exact⟨by unfold BF;rw[f],(by simp),fun op=>by cases op<;>rfl⟩
 case h_4=>
  rename_i a i b j;cases d:(ze a b&&I3 (st.obj a))with
  |false=>grind
  |true=>
   rw[d]at c;rw[zc]at d;have l:=zd d.1;subst l;split at c
   case h_2=>cases c
   rename_i w m;cases s:zt 0 w.size with
   |false=>grind
   |true=>
    rw[s]at c;cases c;rw[Nat.blt_eq]at s;obtain⟨b,n,u,rfl⟩:=live k d.2;obtain⟨b',n',g2,rfl⟩:=live g d.2;rw[u]at g2;cases g2;refine⟨?_,(by simp),fun op=>by cases op<;>rfl⟩;unfold BF;rw[f];simp only[wm,m];rw[wd ae];congr 1;rw[Bx,Bool.eq_iff_iff];simp
theorem AfO(hr:SR B h0 F ρ st.nx st.ob h){op:BinOp}{t:TypeId}{w z:Operand}{p q:PV}{x y:V}(i:PR F ρ st.nx p x)(g:PR F ρ st.nx q y){v:PV}(c:(Afg C.T op t p q st).To v st'):
  OK B h0 F ρ st h [] (BS h<|K1 C.T op t w z x y) v st':=by
 have n:∀ {x y:V},(∀(e:x=.nili),False)->K1 C.T op t w z x y=Lv C.T op t x y:=by
  simp_all [K1,Aan]
 unfold Afg at c;split at c
 case h_1=>
  rename_i k a D b;obtain rfl:=CX i;obtain rfl:=CX g;rw[n<|by simp];cases f:wY op with
  |true=>
   rw[f]at c;have:=Ah2 hr c;unfold Lv;grind [wY]
  |false=>
   rw[f]at c;cases l:(k==D)with
   |false=>simp_all
   |true=>
    rw[l]at c;have:=Afv hr c;have l:=wk.1 l;subst l;unfold Lv;cases op<;>simp only[wY]at f<;>first|(cases f;done)|(simp only[wm];exact this)
 case h_2=>
  obtain rfl:=FU i;obtain rfl:=FU g;grind [Ahh,Lv]
 case h_3=>
  rename_i ps I;obtain⟨o,rfl,i⟩:=i;obtain⟨ys,rfl,g⟩:=g;split at c
  case h_2=>simp at c
  rename_i ks E;have eq:∀ {r:Bool},HP ks ps I=some r->BF C.T t (.agg o) (.agg ys)=some r:=by
   intro r d;obtain⟨L,M,K⟩:=SU i g d;simp_all [Q9,BF]
  split at c
  case h_1=>
   rename_i r d;obtain⟨rfl,rfl⟩:=c;exact OK.pure hr (by show BS h ((BF C.T t (.agg o)<|.agg ys).map _)=_;rw[eq d];rfl)<|D9 _
  case h_2=>
   rename_i r d;obtain⟨rfl,rfl⟩:=c;exact OK.pure hr (by show BS h ((BF C.T t (.agg o)<|.agg ys).map _)=_;rw[eq d];rfl) (D9 _)
  simp_all
 case h_4=>
  split at c
  case h_4=>simp at c
  case h_3=>
   split at c
   case h_3=>simp at c
   case h_1=>
    simp only[Cu]at c;grind [S2,OK.pure,BS,K1,PR,Lv]
   case h_2=>
    simp only[Cu]at c;grind [S2,OK.pure,BS,K1,PR,Lv]
  case h_2=>
   rename_i e _ _ j;unfold oN at c;split at c
   case h_3=>simp at c
   case h_1=>
    have f:=dU (op:=.eql) hr j i c;obtain⟨s,b,m,J,u,e⟩:=f;subst e;subst g;rw[n s,u];exact OK.pure hr (v':=.bool b) (by simp only[m];rfl) (by simp_all)
   case h_2=>
    have f:=dU (op:=.neq) hr j i c;obtain⟨s,b,m,J,u,e⟩:=f;subst e;subst g;rw[n s,u];exact OK.pure hr (v':=.bool<|!b) (by simp only[m];rfl) (by simp_all)
  rename_i a b G A j;obtain rfl:=Ib G i;obtain rfl:=Ib A g;have eq:BF C.T t (.bool a) (.bool b)=some (a==b):=by unfold BF;rw[j]
  split at c
  case h_1=>
   obtain⟨rfl,rfl⟩:=c;exact OK.pure hr (by show BS h ((BF C.T t (.bool a)<|.bool b).map _)=_;rw[eq];rfl)<|D9 _
  case h_2=>
   obtain⟨rfl,rfl⟩:=c;exact OK.pure hr (by show BS h ((BF C.T t (.bool a)<|.bool b).map _)=_;rw[eq];rfl) (D9 _)
  simp_all
theorem AiF(hr:SR B h0 F ρ st.nx st.ob h){op:UnOp}{p:PV}{x:V}(c:PR F ρ st.nx p x){v:PV}(a:(pun op p st).To v st'):OK B h0 F ρ st h [] (BS h<|dun op x) v st':=by
 unfold pun at a;split at a<;>simp only[NL,Cu]at a
 ·obtain⟨rfl,rfl⟩:=a;obtain rfl:=CX c;exact OK.pure hr rfl (DW _ _)
 ·obtain⟨rfl,rfl⟩:=a;obtain rfl:=Rw c;exact OK.pure hr rfl (mO _)
 ·obtain⟨rfl,rfl⟩:=a;obtain⟨b,rfl⟩:=c;exact OK.pure hr (v':=.bool<|!b) rfl (by simp[PR])
 ·obtain⟨rfl,rfl⟩:=a;obtain rfl:=MO c;exact OK.pure hr rfl (D9 _)
theorem Ae2(hr:SR B h0 F ρ st.nx st.ob h){s d:TypeId}{p:PV}{x:V}(b:PR F ρ st.nx p x){v:PV}(a:(sQ C.T s d p st).To v st'):OK B h0 F ρ st h [] (BS h<|GI C.T h s d x) v st':=by
 unfold sQ at a;split at a<;>simp only[NL,Cu]at a
 ·obtain⟨rfl,rfl⟩:=a;obtain rfl:=CX b;simp_all [OK.pure,GI,BS,DW]
 ·obtain rfl:=FU b;simp_all [OK.pure,GI,BS]
theorem Aew(hr:SR B h0 F ρ st.nx st.ob h){c a b:PV}{x y z:V}(e:PR F ρ st.nx c x)(g:PR F ρ st.nx a y)(f:PR F ρ st.nx b z){v:PV}(d:(lW c a b st).To v st'):
  ∃t,x=.bool t/\OK B h0 F ρ st h [] (BS h<|some<|if t then y else z) v st':=by
 unfold lW at d;split at d
 case h_3=>simp at d
 case h_1=>
  rename_i t;obtain⟨rfl,rfl⟩:=d;refine⟨t,Rw e,OK.pure hr rfl ?_⟩;grind
 case h_2=>
  rename_i t;refine⟨t,MO e,?_⟩;split at d
  case h_1=>
   obtain⟨rfl,rfl⟩:=d;obtain rfl:=Rw f;refine OK.pure hr rfl ?_;grind [D9]
  case h_2=>
   obtain⟨rfl,rfl⟩:=d;obtain rfl:=Rw g;refine OK.pure hr rfl ?_;grind [D9]
  case h_3=>
   cases d with
   |tt h=>obtain⟨rfl,rfl⟩:=h;exact OK.pure hr rfl g
   |ff h=>obtain⟨rfl,rfl⟩:=h;exact OK.pure hr rfl f
theorem yR(hr:SR B h0 F ρ st.nx st.ob h){t:TypeId}{p:PV}{x:V}(j:PR F ρ st.nx p x){f:Nat}{v:PV}(a:(Y6 C.T t p f st).To v st'):OK B h0 F ρ st h [] (BS h<|Ln C.T t x f) v st':=by
 unfold Y6 at a;split at a
 case h_2=>simp at a
 split at a
 case h_2=>simp at a
 rename_i c d;split at a
 case h_2=>simp at a
 simp only[Sq]at a;obtain⟨b,rfl⟩:=a;obtain⟨cs,rfl,hps⟩:=j;rw[Nj]at b;have hp:=hps.drop c.offset;rcases Rx hp b with⟨g,_,l,i⟩|⟨g,u,k,e,i⟩
 ·simp_all [OK.pure,Ln,Mx,BS]
 ·have:cs[c.offset]?=some u:=by
   have:=wi (·[0]?) e;grind
  simp_all [OK.pure,Ln,Mx,BS]
theorem Aaw(hr:SR B h0 F ρ st.nx st.ob h){t:TypeId}{p:PV}{x:V}(k:PR F ρ st.nx p x){f:Nat}{v:PV}(a:(Zb C.T t p f st).To v st'):
  OK B h0 F ρ st h [] (BS h<|Lq C.T t x f) v st':=by
 have live:∀ {id},I3 (st.obj id)=true->∃b n,ρ id=some (b,n):=by
  intro id l;obtain⟨o,u⟩:=Jt l;obtain⟨b,n,_,h1,_⟩:=hr.at u;grind
 unfold Zb at a;split at a
 case h_2=>simp at a
 split at a
 case h_2=>simp at a
 rename_i q s;split at a
 case h_2=>simp at a
 rename_i i l;cases r:ze i.size 0 with
 |true=>simp_all
 |false=>
  have m:i.size≠0:=by intro e;simp_all
  rw[r]at a;have c:∀b off,Lq C.T t (.ptr b off) f=some (.ptr b<|off+q.offset):=by
   simp_all [Lq]
  split at a
  ·rename_i id off;cases g:I3 (st.obj id)with
   |false=>simp_all
   |true=>
   rw[g]at a;obtain⟨rfl,rfl⟩:=a;have d:=k;obtain⟨b,n,h1⟩:=live g;obtain rfl:=d.2 b n h1;refine OK.pure hr (by rw[c];rfl) ?_;grind [PR]
  ·rename_i id sz j off;cases g:I3 (st.obj id)with
   |false=>simp_all
   |true=>
   rw[g]at a;obtain⟨rfl,rfl⟩:=a;have d:=k;obtain⟨b,n,h1⟩:=live g;obtain rfl:=d.2 b n h1;refine OK.pure hr (by rw[c];rfl) ?_;grind [PR]
  ·obtain⟨rfl,rfl⟩:=a;obtain⟨b,o,cs,rfl,h1,h2⟩:=k;refine OK.pure hr (by rw[c];rfl) ?_;grind [PR]
  simp_all
theorem SR.live(hr:SR B h0 F ρ st.nx st.ob h){id:Nat}(a:I3 (st.obj id)=true):∃b n,ρ id=some (b,n):=by
 obtain⟨o,c⟩:=Jt a;obtain⟨b,n,_,h1,_⟩:=hr.at c;grind
theorem EP{i:Int}(h:0<=i):∃n:Nat,i=yt n/\i.toNat=n:=ah
theorem D4{a b:Nat}(h:a<b):zt a b=true:=zp h
theorem kP(hr:SR B h0 F ρ st.nx st.ob h){t:TypeId}{p q:PV}{x y:V}(w:PR F ρ st.nx p x)(K:PR F ρ st.nx q y){v:PV}(a:(Vh C.T t p q st).To v st'):
  OK B h0 F ρ st h [] (BS h<|FX C.T t x y) v st':=by
 unfold Vh at a;split at a
 case h_3=>simp at a
 case h_2=>
  rename_i J e k i S;obtain rfl:=CX K;split at a
  case h_2=>simp at a
  rename_i f G;split at a
  case h_4=>simp at a
  case h_1=>
   rename_i id off;simp only[PR]at w;split at a
   case h_3=>simp_all
   case h_1=>
    rename_i Q te s l I;cases r:(ze off 0&&ze f.size s.sz)with
    |false=>simp_all
    |true=>
     rw[r]at a;rw[zc]at r;have A:=zd r.1;have P:=zd r.2;subst A;simp only[we,Cr,zc,w5]at a;obtain⟨⟨c,d⟩,rfl,rfl⟩:=a;obtain⟨n,rfl,hn⟩:=EP c;obtain⟨b,m,_,z,_⟩:=hr.at I;refine OK.pure hr (v':=.ptr b<|0+n*f.size) ?_ ?_
     ·simp_all [BS,FX,D4]
     simp_all [PR]
   case h_2=>
    rename_i o _ I;simp only[Cr,zc,w5]at a;obtain⟨⟨c,d⟩,rfl,rfl⟩:=a;obtain⟨n,rfl,hn⟩:=EP c;obtain⟨b,m,_,z,_⟩:=hr.at I;refine OK.pure hr (v':=.ptr b<|off+n*f.size) ?_ ?_
    ·simp_all [BS,FX,D4]
    grind [PR]
  case h_2=>
   rename_i id sz j off;cases E:I3 (st.obj id)with
   |false=>simp_all
   |true=>
    rw[E]at a;simp only[we,Cr,zc,w5]at a;obtain⟨⟨c,d⟩,rfl,rfl⟩:=a;obtain⟨n,rfl,hn⟩:=EP c;obtain⟨b,m,z⟩:=hr.live E;simp only[PR]at w;refine OK.pure hr (v':=.ptr b<|j*sz+off+n*f.size) ?_ ?_
    ·simp_all [BS,FX,D4]
    grind [PR]
  case h_3=>
   rename_i s y off;simp only[Cr,zc,w5]at a;obtain⟨⟨c,d⟩,rfl,rfl⟩:=a;obtain⟨n,rfl,hn⟩:=EP c;obtain⟨b,o,cs,rfl,z,L,R⟩:=w;refine OK.pure hr (v':=.ptr b<|o+off+n*f.size) ?_ ?_
   ·simp_all [BS,FX,D4]
   grind [PR]
 case h_1=>
 obtain rfl:=CX K;split at a
 case h_2=>simp at a
 rename_i f G;split at a
 case h_3=>simp at a
 case h_1=>
  rename_i s l;cases g:ze f.size s.sz with
  |false=>simp_all
  |true=>
   rw[g]at a;have g:=zd g;simp only[we,Cr,zc,w5]at a;obtain⟨⟨c,d⟩,rfl,rfl⟩:=a;obtain⟨n,rfl,hn⟩:=EP c;have D:n<l.length:=ah
   obtain⟨u,O,w⟩:=w;rcases w with⟨rfl,_⟩|⟨b,off,cap,o,M,rfl,z,L,R,_,W⟩
   ·grind
   ·refine OK.pure hr (v':=.ptr b<|off+n*f.size) ?_ ?_
    ·simp_all [BS,FX,D4]
    ·refine⟨b,off+n*s.sz,M,by grind,L,?_,?_⟩
     ·have:(n+1)*s.sz<=l.length*s.sz:=zg _ D;grind
     grind
 case h_2=>
  rename_i id sz off len cap;cases g:(ze f.size sz&&I3 (st.obj id))with
  |false=>simp_all
  |true=>
   rw[g]at a;simp only[zc]at g;obtain⟨g,E⟩:=g;have g:=zd g;simp only[we,Cr,zc,w5]at a;obtain⟨⟨c,d⟩,rfl,rfl⟩:=a;obtain⟨n,rfl,hn⟩:=EP c;have D:n<len:=ah
   obtain⟨b,m,z⟩:=hr.live E;rcases w.2 b m z with⟨_,_,o,_,rfl⟩|⟨U,_⟩
   ·refine OK.pure hr (v':=.ptr b<|off*sz+n*f.size) ?_ ?_
    ·simp_all [BS,FX,D4]
    grind [PR]
   ·omega
theorem Aa6(hr:SR B h0 F ρ st.nx st.ob h){t:TypeId}{p q:PV}{x y:V}(m:PR F ρ st.nx p x)(j:PR F ρ st.nx q y){v:PV}(a:(YH C.T t p q st).To v st'):
  OK B h0 F ρ st h [] (BS h<|JG C.T t x y) v st':=by
 unfold YH at a;split at a
 case h_3=>simp at a
 case h_2=>
  rename_i l e ps k i A;obtain rfl:=CX j;split at a
  case h_2=>simp at a
  rename_i d f D z;simp only[YX,zc,w5]at a;obtain⟨⟨b,g⟩,c,rfl⟩:=a;obtain⟨n,rfl,hn⟩:=EP b;obtain⟨cs,rfl,hps⟩:=m;rw[Nj,hn]at c;have hp:=hps.drop<|n*f.size;have o:JG C.T t (.agg cs) (.int k<|yt n)=Mx C.T e cs (n*f.size):=by simp_all [JG,D4]
  rcases Rx hp c with⟨s,_,_,w⟩|⟨s,u,E,r,w⟩
  ·simp_all [OK.pure,Mx,BS]
  ·have:cs[n*f.size]?=some u:=by
    have:=wi (·[0]?) r;grind
   simp_all [OK.pure,Mx,BS]
 case h_1=>
 obtain rfl:=FU m;obtain rfl:=CX j;simp only[Cr,zc,w5]at a;obtain⟨⟨b,g⟩,rfl,rfl⟩:=a;obtain⟨n,rfl,hn⟩:=EP b;simp_all [OK.pure,BS,JG,DW]
theorem fV(hr:SR B h0 F ρ st.nx st.ob h){p:PV}{x:V}(d:PR F ρ st.nx p x){i:Nat}{v:PV}(a:(Rm p i st).To v st'):OK B h0 F ρ st h [] (BS h<|HX x i) v st':=by
 unfold Rm at a;split at a
 case h_2=>simp at a
 split at a
 case h_2=>simp at a
 rename_i q c;simp only[Cu]at a;obtain⟨cs,rfl,b⟩:=d;obtain⟨u,h1,h2⟩:=b.get c;grind [OK.pure,HX,BS]
def XN(F:Fz)(ρ:Ez)(N:Nat):Option PV->Option V->Prop
 |none,x=>x=none
 |some p,x=>∃v,x=some v/\PR F ρ N p v
theorem Ef{o:Option PV}{x:Option V}{d:Nat}{c:Bool}{n:Nat}(a:XN F ρ N o x)(hp:pb o d=some (c,n))(e:c=true){y:Nat}(f:n<=y):C5 x y d=some n:=by
 unfold pb at hp;split at hp
 ·cases hp;subst a;rfl
 ·obtain⟨v,rfl,b⟩:=a;obtain rfl:=CX b;grind [zp,C5]
 grind
theorem XN.isNone{o:Option PV}{x:Option V}(a:XN F ρ N o x):(o=none↔x=none):=by
 cases o with
 |none=>grind [XN]
 |some p=>simp only[XN]at a;grind
theorem Ni{T:Cj}{t e:TypeId}{c:TI}{b off len cap o m a l:Nat}{lo d mx:Option V}(i:T.und t=some (.slice e))(f:T.inf e=some c)(n:C5 mx cap cap=some m)(j:C5 d m len=some a)
  (k:C5 lo a 0=some l) (g:d=none->mx=none):
  Eh T t (.sl b off len cap o) lo d mx=bif ze m l then(bif ze (NQ mx o) 0 then some (.sl b off (a-l) (m-l) 0)else some .esl)
   else bif ze (NQ mx o) 0||ze (NQ mx o) c.size then some (.sl b (off+l*c.size) (a-l) (m-l)<|NQ mx o)else none:=by
 simp_all [Eh]
theorem kT(hr:SR B h0 F ρ st.nx st.ob h){t:TypeId}{p:PV}{x:V}{lo hi mx:Option PV}{a b c:Option V}(I:PR F ρ st.nx p x)(D:XN F ρ st.nx lo a)(k:XN F ρ st.nx hi b)(j:XN F ρ st.nx mx c)
  {v:PV} (d:(UI C.T t p lo hi mx st).To v st'):OK B h0 F ρ st h [] (BS h<|Eh C.T t x a b c) v st':=by
 unfold UI at d;split at d
 case h_3=>simp at d
 case h_1=>
  rename_i hu;split at d
  case h_2=>simp at d
  rename_i s;obtain rfl:=FU I;split at d
  case h_2=>simp at d
  rename_i c1 l c2 n f g;simp only[Cr,zc,w5]at d;obtain⟨⟨⟨⟨J,E⟩,K⟩,A⟩,rfl,rfl⟩:=d;simp only[XN]at j;subst j;have Q:=Ef D f J K;have w:=Ef k g E A;simp_all [OK.pure,Eh,BS,NC]
 case h_2=>
  rename_i e hu;split at d
  case h_2=>simp at d
  rename_i P O;split at d
  case h_4=>simp at d
  case h_1=>
   rename_i s Z;cases y:ze P.size s.sz with
   |false=>simp_all
   |true=>
    rw[y]at d;have y:=zd y;simp only[we]at d;split at d
    case h_2=>simp at d
    rename_i c1 l c2 n f g;simp only[Cr,zc,w5]at d;obtain⟨⟨⟨⟨J,E⟩,K⟩,A⟩,rfl,rfl⟩:=d;simp only[XN]at j;subst j;have Q:=Ef D f J K;simp only[PR,DC]at I;obtain⟨u,hu1,I⟩:=I;obtain rfl:x=u:=ah
    rcases I with⟨rfl,rfl|rfl|rfl⟩|⟨R,off,cap,o,bs,rfl,h1,h2,h3,h5,h4⟩
    ·have w:=Ef k g E A;simp only[ym]at w A;refine OK.pure hr (v':=.nils) (by simp_all [Eh,C5,qJ,BS]) ?_;simp[PR,DC]
    ·have w:=Ef k g E A;simp only[ym]at w A;refine OK.pure hr (v':=.esl) (by simp_all [Eh,C5,qJ,BS,RQ]) ?_;simp[PR,DC]
    ·have w:=Ef k g E A;simp only[ym]at w A;refine OK.pure hr (v':=.es0) (by simp_all [Eh,C5,qJ,BS]) ?_;simp[PR,DC]
    ·have w:C5 b cap Z.length=some n:=(by grind [Ef]);have r:=Ni (b:=R) (off:=off) (len:=Z.length) (cap:=cap) (o:=o) (mx:=none) hu O rfl w Q (fun _=>rfl);have L:((Z.drop l).take<|Nat.sub n l).length=n-l:=by
      grind
     by_cases hcl:cap=l
     ·have hhl:n=l:=ae
      have U:(Z.drop l).take (Nat.sub n l)=[]:=by
       grind
      rw[U];by_cases G:o=0
      ·refine OK.pure hr (v':=.sl R off (n-l) (cap-l) 0) ?_ ?_
       ·have:NQ none o=0:=G;rw[r,this,hcl,yj];rfl
       ·simp only[PR,DC];exact⟨_,rfl,.inr ⟨R,off,cap-l,0,bs,by grind,by simp,h2,by grind,.inl rfl,(by simp)⟩⟩
      ·refine OK.pure hr (v':=.esl) ?_ ?_
       ·have h1:ze (NQ none o) 0=false:=by rw[Bx];simp[NQ,G]
        rw[r,h1,hcl,yj];rfl
       ·simp[PR,DC]
     ·refine OK.pure hr (v':=.sl R (off+l*P.size) (n-l) (cap-l) o) ?_ ?_
      ·have f:ze cap l=false:=by rw[Bx];grind
       have G:(ze (NQ none o) 0||ze (NQ none o) P.size)=true:=by
        rcases h5 with rfl|rfl
        ·rfl
        ·rw[y];show(ze s.sz 0||ze s.sz s.sz)=true;simp
       rw[r,f,G];rfl
      ·simp only[PR,DC];refine⟨_,rfl,.inr ⟨R,off+l*P.size,cap-l,o,bs,by rw[L],by omega,h2,?_,h5,fun i hi=>?_⟩⟩
       ·rw[L,y];have:(l+(n-l))*s.sz<=Z.length*s.sz:=zg _ ae;grind
       grind
  case h_2=>
   rename_i id sz off len cap;cases y:(ze P.size sz&&I3 (st.obj id))with
   |false=>rw[y]at d;simp at d
   |true=>
    rw[y]at d;simp only[zc]at y;obtain⟨y,hl⟩:=y;have y:=zd y;simp only[we]at d;have hno:¬(hi=none/\mx≠none):=by
     rintro⟨rfl,hm⟩;cases mx with
     |none=>grind
     |some _=>simp at d
    split at d
    case h_1=>grind
    split at d
    case h_2=>simp at d
    rename_i c1 l c2 n c3 m f g M;simp only[Cr,zc,w5]at d;obtain⟨⟨⟨⟨⟨⟨⟨J,E⟩,K⟩,A⟩,k5⟩,k6⟩,k7⟩,rfl,rfl⟩:=d;have Q:=Ef D f J A;have e3:=Ef j M K k6;have w:=Ef k g E k5;have Y:b=none->c=none:=by
     intro hbn;cases hcc:c with
     |none=>rfl
     |some z=>
      exfalso;apply hno;exact⟨k.isNone.2 hbn,fun e=>by have:=j.isNone.1 e;grind⟩
    obtain⟨S,n0,h1⟩:=hr.live hl;simp only[PR]at I;rcases I.2 S n0 h1 with⟨g1,g2,o,g3,rfl⟩|⟨rfl,rfl,g2,g3⟩
    ·have r:=Ni (b:=S) (off:=off*sz) (len:=len) (cap:=cap.getD len) (o:=o) hu O e3 w Q Y;have hoz:NQ c o=0\/NQ c o=sz:=by
      unfold NQ;grind
     by_cases W:m=l
     ·have hhl:n-l=0:=ae
      by_cases G:NQ c o=0
      ·refine OK.pure hr (v':=.sl S (off*sz) (n-l) (m-l) 0) ?_ ?_
       ·rw[r,G,W,yj];rfl
       ·unfold PR;grind
      ·refine OK.pure hr (v':=.esl) ?_ ?_
       ·have hb0:ze (NQ c o) 0=false:=by rw[Bx];simp[G]
        rw[r,hb0,W,yj];rfl
       ·unfold PR;grind
     ·refine OK.pure hr (v':=.sl S (off*sz+l*P.size) (n-l) (m-l)<|NQ c o) ?_ ?_
      ·have f:ze m l=false:=by rw[Bx];grind
       have G:(ze (NQ c o) 0||ze (NQ c o) P.size)=true:=by
        simp_all
       rw[r,f,G];rfl
      grind [PR,Nat.add_mul]
    ·simp only[Option.getD_some]at k6 k7 e3;obtain rfl:m=0:=ae
     obtain rfl:n=0:=ae
     obtain rfl:l=0:=ae
     have hc:c=none:=by
      cases mx with
      |none=>exact j
      |some _=>simp[has]at k7
     subst hc;rcases g3 with rfl|⟨X,rfl,g4⟩
     ·refine OK.pure hr (v':=.esl) (by simp_all [Eh,qJ,BS,RQ]) ?_;simp_all [PR]
     ·refine OK.pure hr (v':=.sl S X 0 0 0) ?_ ?_
      ·rw[Ni (mx:=none) hu O rfl w Q (fun _=>rfl)];rfl
      simp_all [PR]
  case h_3=>
   split at d
   case h_3=>simp at d
   case h_2=>
    rename_i c1 l c2 n q f g;split at d
    case h_2=>simp at d
    rename_i p' c3 m M;simp only[Cr,zc,w5]at d;obtain⟨⟨⟨⟨⟨⟨J,E⟩,k5⟩,K⟩,A⟩,k6⟩,rfl,rfl⟩:=d;have Q:=Ef D f J K;have w:=Ef k g E ae;have e3:=Ef j M k5 k6;simp only[PR]at I;cases b with
    |none=>simp[XN]at k
    |some b=>exact OK.pure hr (v':=.nils) (by simp_all [Eh,qJ,BS]) (by simp[PR])
   rename_i c1 l c2 n f g;simp only[Cr,zc,w5]at d;obtain⟨⟨⟨⟨J,E⟩,K⟩,A⟩,rfl,rfl⟩:=d;simp only[XN]at j;have Q:=Ef D f J K;have w:=Ef k g E A;simp only[PR]at I;exact OK.pure hr (v':=.nils) (by simp_all [Eh,C5,qJ,BS]) (by simp[PR])
theorem yU(hr:SR B h0 F ρ st.nx st.ob h){t:TypeId}{p q:PV}{x y:V}(c:PR F ρ st.nx p x)(b:PR F ρ st.nx q y){v:PV}(a:(kM C.T t p q st).To v st'):
  OK B h0 F ρ st h [] (BS h<|FX C.T t x y) v st':=kP hr c.lz b a
theorem Abg(hr:SR B h0 F ρ st.nx st.ob h){t:TypeId}{p:PV}{x:V}{lo g mx:Option PV}{a b c:Option V}(i:PR F ρ st.nx p x)(e:XN F ρ st.nx lo a)(d:XN F ρ st.nx g b)(f:XN F ρ st.nx mx c)
  {v:PV} (j:(uE C.T t p lo g mx st).To v st'):OK B h0 F ρ st h [] (BS h<|Eh C.T t x a b c) v st':=kT hr i.lz e d f j
theorem MR.len{ks vs:Sh}{l:List (ks.T×vs.T)}{es:List (V×V×Nat)}(h:MR F ks vs l es):l.length=es.length:=by
 induction h with
 |nil=>rfl
 |cons _ _ _ a=>simp[a]
theorem Adr(hr:SR B h0 F ρ st.nx st.ob h){ts:Array TypeId}{ps:List PV}{g:List V}(e:BT F ρ st.nx ps g){v:PV}(c:(WU C.T ts ps st).To v st'):OK B h0 F ρ st h [] (BS h<|GO C.T h ts g) v st':=by
 unfold WU at c;split at c
 case h_2=>simp at c
 rename_i t p a;obtain⟨x,i,rfl,e,rfl⟩:=e;split at c
 case h_6=>simp at c
 case h_1=>
  rename_i s d;obtain⟨rfl,rfl⟩:=c;obtain rfl:=FU e;exact OK.pure hr (by simp only[GO,a,d,BS];rfl)<|DW _ _
 case h_2=>
  rename_i s l d;obtain⟨rfl,rfl⟩:=c;obtain⟨u,hu1,e⟩:=e;obtain rfl:x=u:=ah
  rcases e with⟨rfl,rfl|rfl|rfl⟩|⟨b,off,cap,o,k,rfl,_⟩
  ·exact OK.pure hr (by simp only[GO,a,d,BS];rfl)<|DW _ _
  ·exact OK.pure hr (by simp only[GO,a,d,BS];rfl)<|DW _ _
  ·exact OK.pure hr (by simp only[GO,a,d,BS];rfl)<|DW _ _
  ·exact OK.pure hr (by simp only[GO,a,d,BS];rfl)<|DW _ _
 case h_3=>
  rename_i id sz off len cap d;cases f:I3 (st.obj id)with
  |false=>simp_all
  |true=>
   rw[f]at c;obtain⟨rfl,rfl⟩:=c;obtain⟨b,n,h1⟩:=hr.live f;rcases e.2 b n h1 with⟨_,_,o,_,rfl⟩|⟨rfl,_,_,rfl|⟨_,rfl,_⟩⟩
   ·exact OK.pure hr (by simp only[GO,a,d,BS];rfl)<|DW _ _
   ·exact OK.pure hr (by simp only[GO,a,d,BS];rfl)<|DW _ _
   ·exact OK.pure hr (by simp only[GO,a,d,BS];rfl)<|DW _ _
 case h_4=>
  rename_i d;obtain⟨rfl,rfl⟩:=c;subst e;exact OK.pure hr (by simp only[GO,a,d,BS];rfl)<|DW _ _
 case h_5=>
  split at c
  case h_2=>simp at c
  rename_i ks vs l j;obtain⟨rfl,rfl⟩:=c;obtain⟨b,n,y,h1,h2,⟨es,clk,rfl,h3⟩,_⟩:=hr.at j;simp only[PR]at e;have f:l.length=es.length:=h3.len;refine OK.pure hr (v':=i64 es.length) (by simp_all [GO,BS]) ?_;rw[<-f];rfl
theorem AgJ(hr:SR B h0 F ρ st.nx st.ob h){ts:Array TypeId}{ps:List PV}{a:List V}(c:BT F ρ st.nx ps a){v:PV}(b:(Abz C.T ts ps st).To v st'):OK B h0 F ρ st h [] (BS h<|GO C.T h ts a) v st':=Adr hr c.lz b
theorem Agf(hr:SR B h0 F ρ st.nx st.ob h){f:Int->Int->Int}{g:V->V->Option V}(o:∀k x y,g (.int k x) (.int k y)=some (.int k<|f x y)){ps:List PV}{b:List V}(d:BT F ρ st.nx ps b){v:PV}
  (a:(Pd f ps st).To v st'):OK B h0 F ρ st h [] (BS h<|G6 g b) v st':=by
 have key:∀(ps:List PV) (b:List V) (k:IntKind) (x z:Int),BT F ρ st.nx ps b->pmm f k x ps=some z->dfold g (.int k x) b=some (.int k z):=by
  intro ps;induction ps with
  |nil=>grind [pmm,BT,dfold]
  |cons p ps n=>
   intro b k x z d i;obtain⟨u,j,rfl,c,m⟩:=d;unfold pmm at i;split at i
   case h_1=>grind
   case h_2=>
    rename_i e;cases e;rename_i l y;cases q:(k==l)with
    |false=>grind
    |true=>
     obtain rfl:=CX c;grind [dfold]
   grind
 unfold Pd at a;split at a
 case h_2=>simp at a
 split at a
 case h_2=>simp at a
 simp only[Cu]at a;obtain⟨u,j,rfl,c,m⟩:=d;obtain rfl:=CX c;grind [OK.pure,G6,BS,DW]
theorem OK.new(hr:SR B h0 F ρ st.nx st.ob h){o:Obj}{x:O}{n:Nat}(a:o.frozen=false)(d:Yd F (BC ρ st.nx<|some (h.nx,n)) (st.nx+1) n o x){v:PV}{v':V}
  (c:PR F (BC ρ st.nx<|some (h.nx,n)) (st.nx+1) v v'):OK B h0 F ρ st h [] (FT<|some (v',h.push x)) v (st.push o):=by
 refine⟨v',h.push x,F,_,.inl rfl,c,hr.push a d,Le.new _,rfl,rfl,Nat.le_succ _,fun b e=>.inl ?_⟩;rw[H.CW,wc ae]
theorem MK{n:Nat}:PR F (BC ρ N<|some (h.nx,n)) (N+1) (.ptr N 0) (.ptr h.nx 0):=by
 simp_all [PR,BC]
theorem AdI{F:Fz}:∀ {s:Sh} {v:V},isZ s v=true->DC F s s.Ip [v]
 | .bool,.bool b,h=>by
  grind [isZ,DC,Sh.Ip]
 | .int k,.int a n,h=>by
  simp_all [isZ,DC,Sh.Ip]
theorem Aa0{T:Cj}{t:TypeId}{s:Sh}{n:Nat}(h:AeE T t=some (s,n)):∃i,T.inf t=some i/\n=i.zero.length/\(∀v∈i.zero,isZ s v=true)/\s.sz=1:=by
 unfold AeE at h;split at h
 case h_2=>cases h
 rename_i i e d;split at h
 case h_2=>cases h
 rename_i c a;cases b:(zx 32 (Det.Ge i.zero)&&Det.LK (isZ c) i.zero)with
 |false=>grind
 |true=>
  rw[b]at h;cases h;rw[zc,Gb]at b;refine⟨i,d,D7 ..,ah,?_⟩;unfold zsh at a;split at a<;>first|(cases a;rfl)|cases a
theorem Aa7(hr:SR B h0 F ρ st.nx st.ob h){t:TypeId}{v:PV}(b:(Vv t C.T st).To v st'):OK B h0 F ρ st h [] (FT<|Hr C.T h t) v st':=by
 unfold Vv tC at b;split at b
 case h_1=>
  rename_i s n f;obtain⟨rfl,rfl⟩:=b;obtain⟨i,e,rfl,hall,hs⟩:=Aa0 f;have:Hr C.T h t=some (.ptr h.nx 0,h.push<|.cells i.zero t (0,0)):=by simp[Hr,e,JI]
  rw[this];refine OK.new hr (o:=.arr false t s<|zh i.zero.length s.Ip) (n:=i.zero.length) rfl ⟨_,_,rfl,⟨by grind,fun j g=>?_⟩,zj _,(by simp)⟩ MK;have d:j<i.zero.length:=ah
  have:=hall i.zero[j] (by simp);rw[List.getElem_replicate,hs,yo,yf d];exact AdI this
 split at b
 case h_2=>simp_all
 rename_i cs a;rw[Option.bind_eq_some_iff]at a;obtain⟨i,e,a⟩:=a;cases c:LK V.ok i.zero with
 |false=>grind
 |true=>
 rw[c]at a;cases a;rw[Gb]at c;obtain⟨rfl,rfl⟩:=b;have:Hr C.T h t=some (.ptr h.nx 0,h.push<|.cells i.zero t (0,0)):=by simp[Hr,e,JI]
 rw[this];cases Ab7 C.T t with
 |true=>exact OK.new hr (o:=.tbox t<|i.zero.map Yh) (n:=0) rfl ⟨_,_,rfl,EI _,zj _,ah⟩ MK
 |false=>exact OK.new hr (o:=.box<|i.zero.map Yh) (n:=0) rfl ⟨_,_,_,rfl,EI _,zj _,ah⟩ MK
theorem Ahw(hr:SR B h0 F ρ st.nx st.ob h){t:TypeId}{p:PV}{x:V}(c:PR F ρ st.nx p x){cs:List PV}(a:pcs st p=some cs)(d:cs.all (Mc st)=true):OK B h0 F ρ st h [] (FT<|some<|gK h t x) (.ptr st.nx 0) (st.push<|.box cs):=
 OK.new hr (o:=.box cs) (n:=0) rfl ⟨_,_,_,rfl,(Po hr c a).mono<|Le.new _,zj _,fun u b=>V.Nt<|yi.1 (by grind [Ld,Po]) u b⟩ MK
theorem Ku(hr:SR B h0 F ρ st.nx st.ob h){place:Nat->Option (Nat×Nat)}:∀ {l:List (Nat×PV)} {l':List (Nat×V)},PRn F ρ st.nx l l'->∀ {cs:List PV} {b:List V},BT F ρ st.nx cs b->∀ {out:List PV},SV st place cs l=some out->
  ∃f,I8 place b l'=some f/\BT F ρ st.nx out f:=by
 intro l l' j;induction j with
 |nil=>intro cs b c out a;cases a;exact⟨b,rfl,c⟩
 |@cons i p v l l' hp _ m=>
  intro cs b c out a;unfold SV at a;unfold I8;split at a
  case h_1=>cases a
  rename_i off size k;split at a
  case h_2=>cases a
  rename_i vs d;cases g:(ze (Det.Ge vs) size&&zx (ya off size) (Det.Ge cs))with
  |false=>grind
  |true=>
   have e:=Po hr hp d;rw[D7,D7,e.len,c.len]at g;have:=e.CL off c;grind [Kn]
theorem AbG(hr:SR B h0 F ρ st.nx st.ob h){t:TypeId}{l:List (Nat×PV)}{l':List (Nat×V)}(d:PRn F ρ st.nx l l'){v:PV}(c:(ov st<|X4 C.T st t l).To v st'):OK B h0 F ρ st h [] (BS h<|Lg C.T t l') v st':=by
 simp only[Sq]at c;obtain⟨a,rfl⟩:=c;unfold X4 at a;split at a
 case h_3=>cases a
 case h_1=>
  rename_i i fs g f;split at a
  case h_2=>cases a
  rw[zf]at a;obtain⟨out,b,rfl⟩:=a;obtain⟨ys,g1,g2⟩:=Ku hr d (EI i.zero) b;exact OK.pure hr (v':=.agg ys) (by grind [Lg,BS]) (by simp_all [PR])
 case h_2=>
  rename_i i j e g f;split at a
  case h_2=>cases a
  rw[zf]at a;obtain⟨out,b,rfl⟩:=a;obtain⟨ys,g1,g2⟩:=Ku hr d (EI i.zero) b;exact OK.pure hr (v':=.agg ys) (by grind [Lg,BS]) (by simp_all [PR])
theorem Lx(z:List V):∀n,BT F ρ N (QW (z.map Yh) n)<|(zh n z).flatten
 |0=>by rfl
 |n+1=>by
  exact(EI z).append<|Lx z n
theorem Ix(z:List V):∀n,F7 z (n*z.length)=(zh n z).flatten:=by
 intro n;apply z6;intro i;unfold F7;by_cases c:z.length=0
 ·simp_all
 ·induction n generalizing i with
  |zero=>simp
  |succ n a=>
   rw[List.replicate_succ,List.flatten_cons];by_cases b:i<z.length
   ·grind [Nat.mod_eq_of_lt]
   ·rw[List.getElem?_append_right ae, <-a (i-z.length)];grind [Nat.mod_eq_sub_mod]
theorem PN{sz n:Nat}{o:Nat}(a:o=0\/o=sz):PR F (BC ρ N<|some (h.nx,n)) (N+1) (.sl N sz 0 n none) (.sl h.nx 0 n n o):=by
 simp_all [PR,BC]
theorem ND{place:Nat->Option (Nat×Nat)}:∀ {l:List (Nat×V)} {a b:List V},I8 place a l=some b->b.length=a.length
 |[],a,b,h=>by cases h;rfl
 |(i,v)::l,a,b,h=>by
  unfold I8 at h;split at h
  ·cases h
  ·rename_i off size _;cases c:(ze v.cells.length size&&zx (off+size) a.length)with
   |false=>grind
   |true=>
    rw[c]at h;rw[ND h,Jz]
end
section
variable {B:Nat}{h0:H0}{F:Fz}{ρ:Ez}{N:Nat}{C:Ctx}{st st':AQ}{fr:Fr}{h h':H}
theorem DN.nil{s:Sh}:DN F s [] []:=⟨by simp,(by simp)⟩
theorem DN.cons{s:Sh}{x:s.T}{l:List s.T}{a b:List V}(c:DC F s x a)(d:DN F s l b):DN F s (x::l) (a++b):=by
 refine⟨by rw[List.length_append,c.len,d.1,List.length_cons,zu];omega,fun i f=>?_⟩;cases i with
 |zero=>
  simp only[Nat.zero_mul,List.drop_zero,yk];rw[<-c.len,List.take_left];exact c
 |succ i=>
  have e:(a++b).drop ((i+1)*s.sz)=b.drop (i*s.sz):=by
   rw[zu,Nat.add_comm,Gx, <-c.len,List.drop_left]
  rw[e];exact d.2 i ah
theorem DN.uJ{s:Sh}{x:s.T}{l:List s.T}{cs:List V}(h:DN F s (x::l) cs):∃a b,cs=a++b/\DC F s x a/\DN F s l b:=by
 have h0:=h.2 0 (by simp);simp only[Nat.zero_mul,List.drop_zero,yk]at h0;refine⟨cs.take s.sz,cs.drop s.sz,(by simp),h0,?_,fun i c=>?_⟩
 ·grind [zu,DN]
 ·have:=h.2 (i+1) ah;grind [Gx,zu]
theorem DN.append{s:Sh}:∀ {l m:List s.T} {a b:List V},DN F s l a->DN F s m b->DN F s (l++m) (a++b)
 |[],m,a,b,h,h'=>by
  have:a=[]:=List.length_eq_zero_iff.1 (by rw[h.1];simp);grind
 |x::l,m,a,b,h,h'=>by
  obtain⟨c,d,rfl,e,f⟩:=h.uJ;rw[List.append_assoc,List.cons_append];exact DN.cons e<|f.append h'
theorem DN.replicate{s:Sh}{z:s.T}{c:List V}(a:DC F s z c):∀n,DN F s (zh n z)<|(zh n c).flatten
 |0=>DN.nil
 |n+1=>by
  exact DN.cons a<|DN.replicate a n
theorem DN.Xp{s:Sh}:∀ {l:List s.T} {a:List V},DN F s l a->a.all V.one=true
 |[],a,h=>by
  grind [DN]
 |x::l,a,h=>by
  obtain⟨c,d,rfl,b,e⟩:=h.uJ;rw[List.all_append,e.Xp,Bool.and_true];exact yi.2 b.Xp
theorem DN.part{s:Sh}{l:List s.T}{cs:List V}(h:DN F s l cs){off len:Nat}(b:off+len<=l.length):DN F s ((l.drop off).take len) ((cs.drop<|off*s.sz).take<|len*s.sz):=by
 have c:(off+len)*s.sz<=l.length*s.sz:=zg _ b;have e:=h.1;refine⟨by grind,fun i f=>?_⟩;have a:i<len:=ah
 have d:(i+1)*s.sz<=len*s.sz:=zg _ a;grind [zr,yp,Nat.add_mul,DN]
theorem Adj(hr:SR B h0 F ρ st.nx st.ob h){t:TypeId}{p q:PV}{x y:V}(K:PR F ρ st.nx p x)(G:PR F ρ st.nx q y){v:PV}(a:(mR C.T t p q st).To v st'):OK B h0 F ρ st h [] (FT<|RR C.T h t x y) v st':=by
 unfold mR at a;split at a
 case h_2=>simp at a
 rename_i e k l A c j;obtain rfl:=CX K;obtain rfl:=CX G;split at a
 case h_2=>simp at a
 rename_i i s J P;cases d:(zt 0 i.zero.length&&ze i.zero.length i.size&&ze i.size s.sz)with
 |false=>simp_all
 |true=>
  rw[d]at a;simp only[zc]at d;obtain⟨⟨w,g⟩,L⟩:=d;simp only[we]at a;split at a
  case h_2=>simp at a
  rename_i z r;simp only[Cr,zc,w5]at a;obtain⟨⟨⟨⟨u,E⟩,D⟩,O⟩,rfl,rfl⟩:=a;have f:l=c:=E;subst f;obtain⟨n,rfl,hn⟩:=EP u;have M:=zd g;have m:RR C.T h t (.int k<|yt n) (.int A<|yt n)=some (.sl h.nx 0 n n 0,h.push<|.cells (F7 i.zero<|n*i.size) e (0,0)):=by
   have a1:zx n n=true:=(by simp);have a2:zt n 9223372036854775808=true:=(by grind [D4]);have a3:zx (i.bytes*n) 281474976710656=true:=zp D;simp only[RR,j,J,a1,a2,a3,w,g,Bool.and_self,we,JI]
  rw[m];have I:=Dc (EI (F:=F) (ρ:=ρ) (N:=st.nx) i.zero) r;have b:DN F s (zh n z) (F7 i.zero<|n*i.size):=by
   grind [Ix,DN.replicate]
  exact OK.new hr (o:=.arr false e s<|zh n z) (n:=n) rfl ⟨_,_,rfl,b,zj _,by simp⟩ (PN<|.inl rfl)
theorem ZG(hr:SR B h0 F ρ st.nx st.ob h){s:Sh}{p:PV}{x:V}(k:PR F ρ st.nx p x){c:Bool}{l:List s.T}(a:Iv st s p=some (c,l))(D:c=true):
  Ri x=some l.length/\(s.sz=1\/Rk x=true)/\∃cs,src h s.sz x l.length=some cs/\DN F s l cs:=by
 unfold Iv at a;split at a
 case h_1=>
  cases a;subst k;exact⟨rfl,.inr rfl,[],rfl,DN.nil⟩
 case h_2=>
  rename_i d l';rw[zf]at a;obtain⟨r,m,A⟩:=a;obtain⟨e,he⟩:=CR m;have w:d=s:=ah
  subst w;have:r=l':=ah
  subst this;cases A;obtain⟨u,L,k⟩:=k;obtain rfl:x=u:=ah
  rcases k with⟨rfl,rfl|rfl|rfl⟩|⟨b,off,cap,o,J,rfl,I,E,g,U,O⟩
  ·exact⟨rfl,.inr rfl,[],rfl,DN.nil⟩
  ·exact⟨rfl,.inr rfl,[],rfl,DN.nil⟩
  ·exact⟨rfl,.inr rfl,[],rfl,DN.nil⟩
  ·obtain⟨te,fz,P⟩:=hr.frz b J E;suffices hD:DN F d l ((J.drop off).take<|l.length*d.sz)from⟨rfl,.inr rfl,_,rd_some P g hD.ok,hD⟩
   refine⟨?_,fun i S=>?_⟩
   ·grind
   ·have M:(i+1)*d.sz<=l.length*d.sz:=zg _ S;grind [zr,yp]
 case h_3=>
  rename_i id sz off len cap;split at a
  case h_2=>cases a
  rename_i Q te d l' W;cases f:ze sz d.sz with
  |false=>grind
  |true=>
   rw[f]at a;have f:=zd f;simp only[we,zf]at a;obtain⟨r,m,A⟩:=a;obtain⟨e,he⟩:=CR m;have w:d=s:=ah
   subst w;have:r=l':=ah
   subst this;cases A;simp only[w5]at D;obtain⟨b,n,y,I,E,⟨cs,fz,rfl,g,O,U⟩,_⟩:=hr.at W;have v:((r.drop off).take len).length=len:=ah
   have z:(off+len)*d.sz<=r.length*d.sz:=zg _ D;rw[Nat.add_mul]at z;rw[v];rcases k.2 b n I with⟨_,_,o,_,rfl⟩|⟨rfl,_,K,rfl|⟨G,rfl,q⟩⟩
   ·refine⟨rfl,.inr rfl,_,rd_some E ?_ ?_,?_⟩
    ·rw[f,g.1];exact z
    ·rw[f];exact(g.part D).ok
    ·rw[f];exact g.part D
   ·refine⟨rfl,.inr rfl,[],rfl,?_⟩;simpa using DN.nil
   ·refine⟨rfl,.inr rfl,_,rd_some E ?_ ?_,?_⟩
    ·rw[f]at q;rw[g.1];omega
    ·simp
    ·simp;exact DN.nil
 case h_5=>cases a
 case h_4=>
  rename_i t;rw[zf]at a;obtain⟨r,m,A⟩:=a;obtain⟨e,he⟩:=CR m;have w:s=.int .u8:=ah
  subst w;have:r=List.map (fun b:UInt8=>(b.toNat:Int)) t:=ah
  subst this;cases A;obtain rfl:=FU k;refine⟨by simp[Ri],.inl rfl,_,rfl,?_⟩;refine⟨by simp[Sh.sz],fun j X=>?_⟩;have R:j<t.length:=ah
  have Y:((t.map fun b=>V.int .u8 (b.toNat:Int)).drop<|j*1).take 1=[V.int .u8 ((t[j]).toNat:Int)]:=by
   simp_all [yf]
  grind [DC,Sh.sz]
theorem gD(hr:SR B h0 F ρ st.nx st.ob h){s:Sh}{p:PV}{x:V}(d:PR F ρ st.nx p x){c:Bool}{l:List s.T}(a:Qv st s p=some (c,l))(b:c=true):
  Ri x=some l.length/\(s.sz=1\/Rk x=true)/\∃cs,src h s.sz x l.length=some cs/\DN F s l cs:=ZG hr d.lz a b
theorem SR.congr(hr:SR B h0 F ρ N st.ob h)(i:∀c,h'.get c=h.get c)(d:h'.nx=h.nx):SR B h0 F ρ N st.ob h':=
 ⟨fun id o j=>by obtain⟨b,n,x,f,l,q⟩:=hr.obj id o j;grind,hr.inj,fun b cs a=>by obtain⟨t,fz,f⟩:=hr.frz b cs a;grind,hr.own,hr.dead,
  fun b a e=>(i b).trans<|hr.old b a e,fun b o a=>by rw[d];exact hr.lt b o ah,by rw[d];exact hr.le,hr.fo,hr.gl,fun c g=>by obtain⟨k,p,m⟩:=hr.pn c g;grind⟩
end
end Go.Pe
