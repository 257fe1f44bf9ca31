import Derived.Test.YtjbmodoofdpgcaaGreatDoorX06
import Derived.Shelf.Strings.OnBuilder
import Derived.Shelf.Strconv.Itoa3
import Derived.Lib.LaidTab
import Derived.Lib.AppendIntMem
/- A part of a proof; no law is stated here. -/
noncomputable section
set_option maxRecDepth 100000
open Bool renaming and_eq_true -> zc
open Nat renaming eq_of_beq_eq_true -> zd, beq -> ze, mul_le_mul_right -> zg, le_refl -> zi, lt_of_lt_of_le -> zk, ble_eq_true_of_le -> zp, blt -> zt, succ_mul -> zu, ble -> zx, le_of_ble_eq_true -> z7, add -> yb, beq_refl -> yj, mul_one -> yo
open Option renaming map_eq_some_iff -> zf
open Option.some renaming injEq -> zh
open List renaming replicate -> zj, take_of_length_le -> zm, mem_singleton -> zn, drop_take -> zr, getElem?_take_of_lt -> zw, ext_getElem? -> z6, getElem?_drop -> yf, drop_eq_getElem_cons -> yg, getElem_cons_zero -> yk, length_nil -> ym, drop_drop -> yp
open Go.Proofs.Tryz renaming prog -> zl, underlying303 -> zy, underlying9 -> z8, underlying200 -> yd, underlying232 -> ye, zeroValue200 -> yh
open Go.Lib renaming decDigits -> zo, nDigits -> zz, zeros24 -> yi
open Array renaming size_replicate -> zq, getElem?_append_left -> yc
open Go.Det.V renaming ok -> yn
open Go.Value renaming int -> yq
open Go.Det renaming Ce -> yr
open Int renaming ofNat -> yt
namespace Go.Det
section
open Go.Proofs.Tryz (prog)
def A7:Cw:=[(6,[],.bool true)]
theorem qD:AU zH 1000 A7=true:=by kernel_rfl
theorem spA:EO prog (Hj A7):=QK pT XX F4 qD
end
open Go.Proofs
def Fs:Go.Shelf.Ren:=⟨fun|171=>191|243=>243|246=>277|283=>278|284=>279|285=>280|286=>281|129=>184|317=>308|318=>309|319=>310|320=>311|337=>321|338=>322|n=>n,fun|3=>3|9=>9|2=>2|4=>4|171=>303|0=>0|53=>200|37=>232|5=>5|173=>305|212=>326|51=>219|20=>20|213=>327|46=>164|232=>340|233=>341|n=>n,fun|17=>5|18=>8|19=>9|n=>n⟩
theorem G0:Go.Proofs.LaysM.n171 Go.Proofs.Tryz.prog Fs:=
  {mixed:=by kernel_rfl,f129:=Go.Proofs.Tryz.func184.trans (wi some ag),f171:=Go.Proofs.Tryz.func191.trans (wi some ag),f243:=Go.Proofs.Tryz.func243.trans (wi some ag),f246:=Go.Proofs.Tryz.func277.trans (wi some ag),f283:=Go.Proofs.Tryz.func278.trans (wi some ag),f284:=Go.Proofs.Tryz.func279.trans (wi some ag),f285:=Go.Proofs.Tryz.func280.trans (wi some ag),f286:=Go.Proofs.Tryz.func281.trans (wi some ag),f317:=Go.Proofs.Tryz.func308.trans (wi some ag),f318:=Go.Proofs.Tryz.func309.trans (wi some ag),f319:=Go.Proofs.Tryz.func310.trans (wi some ag),f320:=Go.Proofs.Tryz.func311.trans (wi some ag),f337:=Go.Proofs.Tryz.func321.trans (wi some ag),f338:=Go.Proofs.Tryz.func322.trans (wi some ag),t0:=Go.Proofs.Tryz.underlying0,a0:=Go.Proofs.Tryz.isAgg0,z0:=Go.Proofs.Tryz.sizeOf0,v0:=Go.Proofs.Tryz.zeroValue0,t2:=Go.Proofs.Tryz.underlying2,a2:=Go.Proofs.Tryz.isAgg2,z2:=Go.Proofs.Tryz.sizeOf2,v2:=Go.Proofs.Tryz.zeroValue2,t3:=Go.Proofs.Tryz.underlying3,a3:=Go.Proofs.Tryz.isAgg3,z3:=Go.Proofs.Tryz.sizeOf3,v3:=Go.Proofs.Tryz.zeroValue3,t4:=Go.Proofs.Tryz.underlying4,a4:=Go.Proofs.Tryz.isAgg4,z4:=Go.Proofs.Tryz.sizeOf4,v4:=Go.Proofs.Tryz.zeroValue4,t5:=Go.Proofs.Tryz.underlying5,a5:=Go.Proofs.Tryz.isAgg5,z5:=Go.Proofs.Tryz.sizeOf5,v5:=Go.Proofs.Tryz.zeroValue5,t9:=Go.Proofs.Tryz.underlying9,a9:=Go.Proofs.Tryz.isAgg9,z9:=Go.Proofs.Tryz.sizeOf9,v9:=Go.Proofs.Tryz.zeroValue9,t20:=Go.Proofs.Tryz.underlying20,a20:=Go.Proofs.Tryz.isAgg20,z20:=Go.Proofs.Tryz.sizeOf20,v20:=Go.Proofs.Tryz.zeroValue20,t37:=Go.Proofs.Tryz.underlying232,a37:=Go.Proofs.Tryz.isAgg232,z37:=Go.Proofs.Tryz.sizeOf232,v37:=Go.Proofs.Tryz.zeroValue232,t46:=Go.Proofs.Tryz.underlying164,a46:=Go.Proofs.Tryz.isAgg164,z46:=Go.Proofs.Tryz.sizeOf164,v46:=Go.Proofs.Tryz.zeroValue164,t51:=Go.Proofs.Tryz.underlying219,a51:=Go.Proofs.Tryz.isAgg219,z51:=Go.Proofs.Tryz.sizeOf219,v51:=Go.Proofs.Tryz.zeroValue219,t53:=Go.Proofs.Tryz.underlying200,a53:=Go.Proofs.Tryz.isAgg200,z53:=Go.Proofs.Tryz.sizeOf200,v53:=Go.Proofs.Tryz.zeroValue200,t171:=Go.Proofs.Tryz.underlying303,a171:=Go.Proofs.Tryz.isAgg303,z171:=Go.Proofs.Tryz.sizeOf303,v171:=Go.Proofs.Tryz.zeroValue303,t173:=Go.Proofs.Tryz.underlying305,a173:=Go.Proofs.Tryz.isAgg305,z173:=Go.Proofs.Tryz.sizeOf305,v173:=Go.Proofs.Tryz.zeroValue305,t212:=Go.Proofs.Tryz.underlying326,a212:=Go.Proofs.Tryz.isAgg326,z212:=Go.Proofs.Tryz.sizeOf326,v212:=Go.Proofs.Tryz.zeroValue326,t213:=Go.Proofs.Tryz.underlying327,a213:=Go.Proofs.Tryz.isAgg327,z213:=Go.Proofs.Tryz.sizeOf327,t232:=Go.Proofs.Tryz.underlying340,a232:=Go.Proofs.Tryz.isAgg340,z232:=Go.Proofs.Tryz.sizeOf340,v232:=Go.Proofs.Tryz.zeroValue340,t233:=Go.Proofs.Tryz.underlying341,a233:=Go.Proofs.Tryz.isAgg341,z233:=Go.Proofs.Tryz.sizeOf341,v233:=Go.Proofs.Tryz.zeroValue341,g17:=by kernel_rfl,g18:=by kernel_rfl,g19:=by kernel_rfl,i0:=by kernel_rfl,i2:=by kernel_rfl,i3:=by kernel_rfl,i4:=by kernel_rfl,i5:=by kernel_rfl,i9:=by kernel_rfl,i20:=by kernel_rfl,i37:=by kernel_rfl,i46:=by kernel_rfl,i51:=by kernel_rfl,i53:=by kernel_rfl,i171:=by kernel_rfl,i173:=by kernel_rfl,i212:=by kernel_rfl,i232:=by kernel_rfl,i233:=by kernel_rfl,m17:=by kernel_rfl,m18:=by kernel_rfl,m19:=by kernel_rfl }
open Go.Proofs.Tryz (prog)
def uE:List V->List Int->Bool
 |[],[]=>true
 | .int .u64 n::l,m::r=>bif decide (n=m)then uE l r else false
 |_,_=>false
theorem Wk{p:Pl}:∀ {cs:List V} {r:List Int} {vs:List Value},uE cs r=true->An p cs vs->vs=r.map fun z=>yq .u64 z
 |[],[],vs,_,h=>by simpa using h
 | .int .u64 n::l,m::r,vs,a,h=>by
  unfold uE at a;cases b:decide (n=m)with
  |false=>rw[b]at a;cases a
  |true=>
   rw[b]at a;have e:=w6 b;subst e;cases vs with
   |nil=>simp at h
   |cons v vs=>
    simp only[A4,Ab]at h;rw[h.1,Wk a h.2];rfl
def XP(h:H):Bool:=match h.get 5 with
 |some (.cells cs _ _)=>uE cs Lib.pow10Tab
 |_=>false
def oP:List V->H->Option (V×H)
 |[.int .i64 n],h=>bif XP h&&decide (-9223372036854775808<=n)&&decide (n<=9223372036854775807)then some (.str<|Lib.itoa n,h)else none
 |_,_=>none
def aH:RH:=fun f=>bif ze f 191 then some oP else none
theorem cK:∀ {cs:List V} {r:List Int},uE cs r=true->cs.length=r.length/\∀d∈cs,d.ok=true
 |[],[],_=>⟨rfl,fun d a=>by cases a⟩
 | .int .u64 n::l,m::r,b=>by
  unfold uE at b;cases a:decide (n=m)with
  |false=>rw[a]at b;cases b
  |true=>
   rw[a]at b;obtain⟨e,c⟩:=cK (cs:=l) (r:=r) b;refine⟨by simp[e],fun d a=>?_⟩;rcases List.mem_cons.1 a with rfl|a
   ·rfl
   ·exact c d a
theorem tB : prog.globalNamed "internal/strconv.uint64pow10" = some 5 := by kernel_rfl
theorem at5{p:Pl}(a:Gp p):p[5]?=some (5,20):=a _<|List.mem_cons_self ..
theorem VN {p : Pl} {h : H} {w : World} (i : R p h w) (j : Gp p) (a : XP h = true) : Lib.TabIs prog w "internal/strconv.uint64pow10" .u64 Lib.pow10Tab := by
 unfold XP at a;split at a
 case h_2=>cases a
 rename_i cs t fz k;obtain⟨r,n,x,e,f,c,fz',rfl,o,m,d,_⟩:=i.obj 5 _ k;rw[at5 j]at e;cases e;obtain⟨e1,e2⟩:=cK a;have l:cs.length=20:=e1.trans rfl;have b:c.toList.take cs.length=c.toList:=zm (by simp;omega);rw[b]at d;have g:=Wk a (d.Jm e2);unfold Lib.TabIs World.var?;rw[tB];show(match w.heap[5]? with
  |some (.cells cs _ _)=>some cs
  |_=>none)=_
 rw[f];show some c=_;rw[<-g]
theorem fE:EO prog aH:=by
 intro f q c p h w args args' v h' i o m a;unfold aH at c;cases d:ze f 191 with
 |false=>rw[d]at c;cases c
 |true=>
  rw[d]at c;cases c;cases zd d;unfold oP at a;split at a
  case h_2=>cases a
  rename_i n;cases b:(XP h&&decide (-9223372036854775808<=n)&&decide (n<=9223372036854775807))with
  |false=>rw[b]at a;cases a
  |true=>
   rw[b]at a;cases a;rw[zc,zc,w5,w5]at b;obtain⟨x,l,g⟩:=m.one;have:args'= #[x]:=Array.toList_inj.1 l;subst this;simp only[Ab]at g;subst g;refine(Any.strconv_Itoa G0 n b.1.2 b.2 w<|VN i o b.1.1).mono ?_;rintro e w' ⟨rfl,k,os,rfl⟩;exact⟨_,p,rfl,by simp only[Ab];rfl,Lt i ⟨rfl,rfl,rfl,by show w.heap.size<=(w.heap++os).size;rw[Array.size_append];omega,fun j r=>by show(w.heap++os)[j]?=_;exact yc r⟩<|by show w.drawn<=w.drawn+k;omega⟩
end Go.Det
namespace Go.Proofs
open Go.Shelf Go.RowKit Go.Sort Go.Lib Go.Det
namespace FmtU
set_option maxHeartbeats 6400000 in
theorem small(i:Nat)(q:i<100)(w:World):Calls zl 248 #[.int .u64 i,.int .i64 10] w fun e w'=>e=.returned (.string ⟨(zo i).toArray⟩)/\w'=w:=by
 have mixed:=G0.mixed;have t3:=Tryz.underlying3;have a3:=Tryz.isAgg3;have z3:=Tryz.sizeOf3;have v3:=Tryz.zeroValue3;have t9:=z8;have a9:=Tryz.isAgg9;have z9:=Tryz.sizeOf9;have v9:=Tryz.zeroValue9;have t4:=Tryz.underlying4;have a4:=Tryz.isAgg4;have z4:=Tryz.sizeOf4;have v4:=Tryz.zeroValue4;have f:=yd;have b:=Tryz.isAgg200;have n:=Tryz.sizeOf200;have o:=yh;have m:=zy;have g:=Tryz.isAgg303;have j:=Tryz.sizeOf303;have l:=Tryz.zeroValue303;have t0:=Tryz.underlying0;have a0:=Tryz.isAgg0;have z0:=Tryz.sizeOf0;have v0:=Tryz.zeroValue0;have d:=ye;have a:=Tryz.isAgg232;have k:=Tryz.sizeOf232;have p:=Tryz.zeroValue232;have t5:=Tryz.underlying5;have a5:=Tryz.isAgg5;have z5:=Tryz.sizeOf5;have v5:=Tryz.zeroValue5;have c:∀args w,(callFunc 278 args).run zl w=.ok (.enter 278 args) w:=enters_of Tryz.func278 ag rfl;go_enter Tryz.func248,Tryz.ntmps248
 go_wp2_with (go_at_fn 278;refine(Any.internal_strconv_small (ρ:=Fs) { G0 with } i q _).mono ?_;rintro e w' ⟨rfl,rfl⟩)
 go_ret
 exact⟨rfl,rfl⟩
set_option maxHeartbeats 6400000 in
theorem big (u : Nat) (Q : 100 <= u) (a : u < 18446744073709551616) (w : World) (i : Lib.TabIs Tryz.prog w "internal/strconv.uint64pow10" .u64 Lib.pow10Tab) :
  Calls zl 248 #[.int .u64 u,.int .i64 10] w fun e w'=>e=.returned (.string ⟨(zo u).toArray⟩)/\∃k os,w'=grow (w.drewN k) os:=by
 have mixed:=G0.mixed;have t3:=Tryz.underlying3;have a3:=Tryz.isAgg3;have z3:=Tryz.sizeOf3;have v3:=Tryz.zeroValue3;have t9:=z8;have a9:=Tryz.isAgg9;have z9:=Tryz.sizeOf9;have v9:=Tryz.zeroValue9;have t4:=Tryz.underlying4;have a4:=Tryz.isAgg4;have z4:=Tryz.sizeOf4;have v4:=Tryz.zeroValue4;have s:=yd;have r:=Tryz.isAgg200;have E:=Tryz.sizeOf200;have G:=yh;have D:=zy;have x:=Tryz.isAgg303;have y:=Tryz.sizeOf303;have A:=Tryz.zeroValue303;have t0:=Tryz.underlying0;have a0:=Tryz.isAgg0;have z0:=Tryz.sizeOf0;have v0:=Tryz.zeroValue0;have t:=ye;have q:=Tryz.isAgg232;have z:=Tryz.sizeOf232;have J:=Tryz.zeroValue232;have t5:=Tryz.underlying5;have a5:=Tryz.isAgg5;have z5:=Tryz.sizeOf5;have v5:=Tryz.zeroValue5;have v:∀args w,(callFunc 279 args).run zl w=.ok (.enter 279 args) w:=enters_of Tryz.func279 ag rfl;have I:∀args w,(callFunc 280 args).run zl w=.ok (.enter 280 args) w:=enters_of Tryz.func280 ag rfl;have l:1<=u:=ae
 have n:zz u<=20:=by have:=Lib.numDigits_eq u l a;split at this<;>omega
 have g:zl.arrayLen 303=24:=by simp[Program.arrayLen,zy]
 have K:∀W,(Instr.sliceAt 303 (.pointer (some ⟨w.heap.size,0,none⟩)) none (some (.int .i64 (zz u:Int))) none).run zl W=.ok (.slice (some ⟨w.heap.size,0,none⟩) (zz u) 24) W:=fun W=>by
  rw[run_sliceAt_array_h W 303 ⟨w.heap.size,0,none⟩ (by simp[Program.arrayLen,Program.elem,zy]) .i64 (zz u:Int) ae (by rw[g];omega)];go_simp
 have d:=Lib.holds_zero0 w 303 (zz u) ae;have c:=Any.internal_strconv_formatBase10 (ρ:=Fs) (P:=zl) { G0 with } w.heap.size 0 24 u (Array.replicate (zz u) 0) (w.alloc (.cells yi 303)) d (by rw[zq];exact Lib.lt_pow_nDigits u) a (by rw[zq];omega);rw[zq]at c;have m:=Lib.hid d;have O:(100:Int)<=(u:Int):=ae
 clear d g;go_enter Tryz.func248,Tryz.ntmps248
 go_wp2_with (first
  |(go_at_fn 279;refine(Any.internal_strconv_numDigits (ρ:=Fs) { G0 with } u l a _ (Lib.tabIs_alloc i _)).mono ?_;rintro e w' ⟨rfl,rfl⟩))
 go_at_fn 280
 refine c.mono ?_;rintro e w' ⟨rfl,k,v',f,rfl,o⟩;have M:(convert 232 9 (.slice (some ⟨w.heap.size,0,none⟩) (zz u) 24)).run zl ((putRow (fun(b:UInt8)=>yq .u8 (b.toNat:Int)) (w.alloc (.cells yi 303)) w.heap.size 0 f).drewN k)=.ok (.string ⟨(zo u).toArray⟩) ((putRow (fun(b:UInt8)=>yq .u8 (b.toNat:Int)) (w.alloc (.cells yi 303)) w.heap.size 0 f).drewN k):=by
  have h:=run_convert_bytes_back (P:=zl) ((putRow (fun(b:UInt8)=>yq .u8 (b.toNat:Int)) (w.alloc (.cells yi 303)) w.heap.size 0 f).drewN k) 232 9 5 ⟨w.heap.size,0,none⟩ 24 (zo u) ye Tryz.underlying5 z8 (fun j p=>by
   rw[Lib.row_is_numeral o j p,Lib.add_plain,World.cell?_drewN];exact cell?_putRow (fun(b:UInt8)=>yq .u8 (b.toNat:Int)) _ w.heap.size 0 _ f m.out (by rw[o.size,zq]) j (by rw[o.size];rw[Lib.decDigits_length]at p;exact p))
  rw[Lib.decDigits_length]at h;exact h
 go_wp2
 go_ret
 obtain⟨os,L⟩:=Lib.fin_at w (.cells yi 303) f k 0;exact⟨rfl,k,os,L⟩
theorem all (u : Nat) (a : u < 18446744073709551616) (w : World) (b : Lib.TabIs Tryz.prog w "internal/strconv.uint64pow10" .u64 Lib.pow10Tab) :
  Calls zl 248 #[.int .u64 u,.int .i64 10] w fun e w'=>e=.returned (.string ⟨(zo u).toArray⟩)/\∃k os,w'=grow (w.drewN k) os:=by
 by_cases h:u<100
 ·exact(small u h w).mono fun e w' ⟨d,c⟩=>⟨d,0, #[],by rw[c];simp[World.drewN_zero]⟩
 ·exact big u ae a w b
theorem outer (u : Nat) (a : u < 18446744073709551616) (w : World) (b : Lib.TabIs Tryz.prog w "internal/strconv.uint64pow10" .u64 Lib.pow10Tab) :
  Calls zl 193 #[.int .u64 u,.int .i64 10] w fun e w'=>e=.returned (.string ⟨(zo u).toArray⟩)/\∃k os,w'=grow (w.drewN k) os:=by
 have mixed:=G0.mixed;have t3:=Tryz.underlying3;have a3:=Tryz.isAgg3;have z3:=Tryz.sizeOf3;have v3:=Tryz.zeroValue3;have t9:=z8;have a9:=Tryz.isAgg9;have z9:=Tryz.sizeOf9;have v9:=Tryz.zeroValue9;have g:=yd;have f:=Tryz.isAgg200;have c:=Tryz.sizeOf200;have d:=yh;have i:∀args w,(callFunc 248 args).run zl w=.ok (.enter 248 args) w:=enters_of Tryz.func248 ag rfl;go_enter Tryz.func193,Tryz.ntmps193
 go_wp2_with (go_at_fn 248;refine(all u a _ b).mono ?_;rintro e w' ⟨rfl,k,os,rfl⟩)
 go_ret
 exact⟨rfl,k,os,rfl⟩
end FmtU
end Go.Proofs
namespace Go.Det
open Go.Proofs
open Go.Proofs.Tryz (prog)
def fmtQ:List V->H->Option (V×H)
 |[.int .u64<|.ofNat n,.int .i64<|.ofNat b],h=>bif XP h&&(zx n 18446744073709551615&&ze b 10)then some (.str<|zo n,h)else none
 |_,_=>none
def fmtS:RH:=fun f=>bif ze f 193 then some fmtQ else none
theorem jX:EO prog fmtS:=by
 intro f q c p h w args args' v h' l r m a;unfold fmtS at c;cases g:ze f 193 with
 |false=>rw[g]at c;cases c
 |true=>
  rw[g]at c;cases c;cases zd g;unfold fmtQ at a;split at a
  case h_2=>cases a
  rename_i n b;cases d:(XP h&&(zx n 18446744073709551615&&ze b 10))with
  |false=>rw[d]at a;cases a
  |true=>
   rw[d]at a;cases a;rw[zc,zc]at d;obtain⟨o,i,s⟩:=d;have i:=z7 i;cases zd s;obtain⟨x,y,hl,g1,g2⟩:=m.two;have:args'= #[x,y]:=Array.toList_inj.1 hl;subst this;simp only[Ab]at g1 g2;subst g1 g2;refine(FmtU.outer n ae w<|VN l r o).mono ?_;rintro e w' ⟨rfl,k,os,rfl⟩;exact⟨_,p,rfl,by simp only[Ab];rfl,Lt l ⟨rfl,rfl,rfl,by show w.heap.size<=(w.heap++os).size;rw[Array.size_append];omega,fun j t=>by show(w.heap++os)[j]?=_;exact yc t⟩<|by show w.drawn<=w.drawn+k;omega⟩
section
open Go.Proofs.Tryz (prog)
def MRp:Cw:=(List.range 19).map fun(c:Nat)=>(194,[.str [48],.int .i64 (c:Int)],.str<|zj c 48)
theorem qI:AU C7 1000 MRp=true:=by kernel_rfl
theorem spR:EO prog (Hj MRp):=QK Ow E2 F4 qI
end
end Go.Det
namespace Go.Pe
open Go.Det
@[reducible] def Bv:List Sh->Sh
 |[]=>.unit
 |[a]=>a
 |a::b::l=>.pair a<|Bv (b::l)
def Af:(l:List Sh)->(Bv l).T->List PV
 |[],_=>[]
 |[a],x=>[BN a x]
 |a::b::l,x=>BN a x.1::Af (b::l) x.2
structure Aq where
 ins:List Sh
 pre:(Bv ins).T->Bool
 outs:List Sh
 f:(Bv ins).T->(Bv outs).T
 nd:Bool:=false
def Sh.sc:Sh->Bool
 | .int _| .bool| .str| .unit| .fnv=>true
 | .list _| .nlist _| .ptr _=>false
 | .pair a b=>a.sc&&b.sc
structure VX where
 ins:List Sh
 ty:TypeId
 el:Sh
 pre:(Bv ins).T->List el.T->Bool
 g:(Bv ins).T->List el.T->List el.T
 fst:Bool
def wj{α:Type}(b:Bool)(r:List α)(x:α):List α:=bif b then x::r else r++[x]
def wsp{α:Type}(b:Bool)(a:List α):Option (α×List α):=bif b then(match a with|[]=>none|x::r=>some (x,r))else(match a.reverse with|[]=>none|x::r=>some (x,r.reverse))
structure A0 where
 C:Ctx
 sp:FuncId->Option Aq
 pl:FuncId->Nat->List Nat
 ct:FuncId->Nat->Bool
 fz:FuncId->Nat->List (Nat×Sh)
 ws:FuncId->Option VX:=fun _=>none
 esc:List FuncId:=[]
 escOk:∀g∈esc,C.prim g=some PK.noEsc.run:=by intro g h;cases h
def HF(st:AF)(s:Sh)(p:PV):Option (Bool×s.T):=
 bif Oh p==s.MF then
  match DT st p.cells with
  |some (c,cs)=>match DJ s (Ky s.leaves cs).2 with
   |some x=>some ((Ky s.leaves cs).1&&c,x)
   |none=>none
  |none=>none
 else none
def CT(st:AF):(l:List Sh)->List PV->Option (Bool×(Bv l).T)
 |[],[]=>some (true,())
 |[a],[p]=>HF st a p
 |a::b::l,p::ps=>match HF st a p,CT st (b::l) ps with
  |some (c,x),some (d,y)=>some (c&&d,(x,y))
  |_,_=>none
 |_,_=>none
def one:List PV->PV
 |[v]=>v
 |l=>.tup l
def eS(sp:Aq)(args:List PV)(st:AF)(k:PV->AF->Tr):Tr:=
 match CT st sp.ins args with
 |some (c,i)=>.ite (c&&sp.pre i) (k (one<|Af sp.outs<|sp.f i)<|bif sp.outs.all Sh.sc then st else Bf (args.flatMap PV.cells) st) .fail
 |none=>.fail
def TU(w:VX)(args:List PV)(st:AF)(k:PV->AF->Tr):Tr:=
 match wsp w.fst args with
 |some (.sl id sz 0 n none,r)=>match CT st w.ins r,(Bf (r.flatMap PV.cells) st).obj id with
  |some (c,i),some (.arr false t s l)=>bif ze t w.ty then
    match Ex (.list s) (.list w.el) l with
    |some l'=>.ite (c&&w.pre i l'&&decide (n=List.length (α:=w.el.T) l')&&ze sz w.el.sz) (k (.tup [])<|(Bf (r.flatMap PV.cells) st).setObj id<|.arr false w.ty w.el<|w.g i l') .fail
    |none=>.fail
   else .fail
  |_,_=>.fail
 |some (.nil,r)=>match CT st w.ins r with
  |some (c,i)=>.ite (c&&w.pre i []) (k (.tup [])<|Bf (r.flatMap PV.cells) st) .fail
  |none=>.fail
 |_=>.fail
mutual
def zN:PV->List Nat
 | .ptr id _| .eptr id _ _ _| .sl id _ _ _ _| .mp id| .yl id=>[id]
 | .agg l| .tup l=>Jh l
 | .fn _ a b=>Jh a++Jh b
 |_=>[]
def Jh:List PV->List Nat
 |[]=>[]
 |v::vs=>zN v++Jh vs
end
def vX:Obj->List Nat
 | .box cs=>Jh cs
 | .tbox _ cs=>Jh cs
 | .lp _ _ _ _ _ _ _ sl=>Jh (sl.map (·.2))
 |_=>[]
def HW(st:AF)(base:Nat):Nat->List Nat->List Nat->List Nat
 |0,_,acc=>acc
 |_+1,[],acc=>acc
 |f+1,i::a,acc=>bif zt i base||acc.any (ze i)then HW st base f a acc
  else match st.obj i with
   |some o=>HW st base f (a++vX o)<|acc++[i]
   |none=>HW st base f a acc
def MW(base:Nat):List Nat->Nat->Nat->Option Nat
 |[],_,i=>bif zt i base then some i else none
 |j::a,n,i=>bif ze i j then some n else MW base a (yb n 1) i
mutual
def Hw(f:Nat->Option Nat):PV->PV
 | .ptr i o=>match f i with|some j=>.ptr j o|none=>.any
 | .eptr i a b c=>match f i with|some j=>.eptr j a b c|none=>.any
 | .sl i a b c d=>match f i with|some j=>.sl j a b c d|none=>.any
 | .mp i=>match f i with|some j=>.mp j|none=>.any
 | .yl i=>match f i with|some j=>.yl j|none=>.any
 | .agg l=>.agg<|Jn f l
 | .tup l=>.tup<|Jn f l
 | .fn g a b=>.fn g (Jn f a)<|Jn f b
 |v=>v
def Jn(f:Nat->Option Nat):List PV->List PV
 |[]=>[]
 |v::vs=>Hw f v::Jn f vs
end
def Nn(f:Nat->Option Nat):Obj->Obj
 | .box cs=>.box<|Jn f cs
 | .tbox t cs=>.tbox t<|Jn f cs
 | .lp g r ps asg body s n sl=>.lp g r ps asg body s n<|sl.map fun x=>(x.1,Hw f x.2)
 |o=>o
def low(f:Nat->Option Nat)(base:Nat):Ob->Ob
 |[]=>[]
 |(i,o)::l=>bif zt i base then(i,Nn f o)::low f base l else low f base l
def kept(st:AF)(f:Nat->Option Nat):List Nat->Nat->Ob->Ob
 |[],_,a=>a
 |j::b,n,a=>match st.obj j with
  |some o=>kept st f b (yb n 1) ((n,Nn f o)::a)
  |none=>kept st f b (yb n 1) a
def NO(base:Nat):Ob->List Nat
 |[]=>[]
 |(i,o)::l=>bif zt i base then vX o++NO base l else NO base l
def AI(n:Nat)(vs:List (Nat×PV))(ob:Ob)(nx:Nat):AF:=⟨n,Ej vs,ob,nx⟩
def canon(base:Nat)(L:List Nat)(st:AF):AF:=
 let vs:=L.map fun t=>(t,st.get t)
 let a:=HW st base 100 (Jh (vs.map (·.2))++NO base st.ob) []
 let f:=MW base a base
 AI st.n (vs.map fun x=>(x.1,Hw f x.2)) (kept st f a base<|low f base st.ob) (yb base a.length)
def kI(base:Nat)(x:Nat×Sh)(st:AF):AF:=
 match st.get x.1 with
 | .nil=>st.set x.1<|.dat (.list x.2) []
 | .sl id sz off len _=>match st.obj id with
  |some (.arr _ e s l)=>bif ze sz s.sz then(st.setObj id<|.arr true e s l).set x.1 (.dat (.list s)<|(l.drop off).take len)else st
  |_=>st
 | .ptr id 0=>bif zx base id then match st.obj id with
   |some (.box ps)=>match DJ x.2 ps with
    |some v=>(st.E7 id).set x.1<|.D0 x.2 v 0
    |none=>st
   |_=>st
  else st
 |_=>st
def Zy(base:Nat):List (Nat×Sh)->AF->AF
 |[],st=>st
 |x::l,st=>Zy base l<|kI base x st
def Bz:Code->Nat
 | .region id _ _=>id
 | .seq a _=>Bz a
 | .block _ b=>Bz b
 | .loop b=>Bz b
 | .scope b=>Bz b
 |_=>0
def Lr(X:A0)(f:FuncId)(r:Nat)(base:Nat)(st:AF):AF:=canon base (X.pl f r)<|Zy base (X.fz f r) st
inductive pJ where
 |fn (g:FuncId)
 |rnd (id:Nat)
abbrev Fh:=pJ->List PV->AF->(PV->AF->Tr)->Tr
def P7(d:Option Nat)(k:AF->Tr):PO->Tr
 | .bad=>.fail
 | .val v st=>match st.put d v with
  |some st'=>k st'
  |none=>.fail
 | .ite c a b=>.ite c (P7 d k a)<|P7 d k b
inductive CK where
 |no
 |bad
 |yes (g:pJ) (args:List PV)
def KQ(st:AF)(o:Op):CK:=
 match o with
 | .call c=>match c.callee with
  | .value f=>match OV st f,Lw st c.args.toList with
   |some (.fn (.func g) first cap),some args=>.yes (.fn g)<|first++args++cap
   |some (.yl id),some args=>.yes (.rnd id) args
   |_,_=>.bad
  |_=>.no
 |_=>.no
def Hg(T:BP)(call:Fh)(o:Oper)(st:AF)(k:AF->Tr):Tr:=
 match KQ st o.op with
 | .yes g args=>call g args st fun v st=>match st.put o.dst v with
  |some st'=>k st'
  |none=>.fail
 | .bad=>.fail
 | .no=>P7 o.dst k<|pop o.op T st
def QW(T:BP)(st:AF)(o:Op):Option (PV×AF):=
 match o with
 | .convert s d x=>match T.und s,T.und d,OV st x with
  |some .string,some<|.slice e,some (.dat .str l)=>match T.und e with
   |some (.int .u8)=>some (.sl st.nx 1 0 (List.length l) none,st.push<|.arr false e (.int .u8)<|List.map (fun b:UInt8=>(b.toNat:Int)) l)
   |_=>none
  |_,_,_=>none
 |_=>none
def pK(T:BP)(st:AF)(o:Op):Option PV:=
 match o with
 | .convert s d x=>match T.und s,T.und d,OV st x with
  |some (.pointer t),some .unsafePointer,some (.ptr id off)=>match T.inf t,st.obj id with
   |some i,some (.tbox _ cs)=>bif zt 0 i.size&&zt off (ET cs)then some (.ptr id off)else none
   |_,_=>none
  |some .unsafePointer,some<|.pointer u,some (.ptr id off)=>match T.inf u,st.obj id with
   |some i,some (.tbox e cs)=>bif zt 0 i.size&&zx i.size (ET cs)&&ze e u&&ze off 0 then some (.ptr id 0)else none
   |_,_=>none
  |_,_,_=>none
 |_=>none
def Vk(T:BP)(st:AF)(o:Op):Option (PV×AF):=
 match QW T st o with
 |some r=>some r
 |none=>match pK T st o with
  |some v=>some (v,st)
  |none=>none
def nZ(T:BP)(call:Fh)(o:Oper)(st:AF)(k:AF->Tr):Tr:=
 match Vk T st o.op with
 |some (v,b)=>match b.put o.dst v with
  |some a=>k a
  |none=>.fail
 |none=>Hg T call o st k
def guarded(ops:Array Oper)(o:Oper)(st:AF)(yes no:AF->Tr):Tr:=
 match o.guard with
 |none=>yes st
 |some (j,a)=>match (ops[j]?).bind (·.dst)with
  |some t=>bif zt t st.n then(match st.get t with
   | .bl b=>bif b==a then yes st else no st
   | .dat .bool b=>bif a then .ite b (yes<|st.set t<|.bl true) (no<|st.set t<|.bl false)else .ite b (no<|st.set t<|.bl true)<|yes<|st.set t<|.bl false
   | .tup _=>no st
   | .ub=>.both (bif a then yes (st.set t<|.bl true)else no<|st.set t<|.bl true)<|bif a then no (st.set t<|.bl false)else yes<|st.set t<|.bl false
   |_=>.fail)else .fail
  |none=>.fail
def KR(o:Oper)(k:AF->Tr)(st:AF):Tr:=
 match st.put o.dst (.tup [])with
 |some st'=>k st'
 |none=>.fail
def prun(T:BP)(call:Fh)(ops:Array Oper):List Oper->AF->(AF->Tr)->Tr
 |[],st,k=>k st
 |o::a,st,k=>guarded ops o st
   (fun st=>nZ T call o st fun st'=>prun T call ops a st' k)
   (fun st=>KR o (fun st'=>prun T call ops a st' k) st)
def jE(st:AF)(o:Op):Option (List Nat):=
 match o with
 | .load _ x=>match OV st x with
  |some (.ptr id _)|some (.eptr id _ _ _)=>some [id]
  |some (.D0 _ _ _)=>some []
  |_=>none
 | .convert _ _ x=>match OV st x with
  |some (.dat (.int _) _)|some (.dat .str _)=>some []
  |_=>none
 | .call c=>match c.callee,Lw st c.args.toList with
  | .builtin .len,some [.dat _ _]| .builtin .len,some [.sl _ _ _ _ _]| .builtin .len,some [.nil]=>some []
  | .builtin .len,some [.mp id]=>some [id]
  |_,_=>none
 | .lookup _ x _ _=>match OV st x with
  |some (.mp id)=>some [id]
  |some .nilm=>some []
  |_=>none
 |_=>none
def Gf(sp:FuncId->Option Aq)(st:AF)(o:Op):Option (List Nat):=
 match o with
 | .store _ x _=>match OV st x with
  |some (.ptr id _)|some (.eptr id _ _ _)=>some [id]
  |_=>none
 | .mapUpdate _ x _ _| .insert _ x _ _=>match OV st x with
  |some (.mp id)=>some [id]
  |_=>none
 | .makeMap _ _| .makeSlice _ _ _=>some []
 | .call c=>match c.callee with
  | .value f=>match OV st f with
   |some (.fn (.func g) _ _)=>match sp g with
    |some _=>some []
    |none=>none
   |_=>none
  | .builtin .append=>match Lw st c.args.toList with
   |some (.sl id _ _ _ _::_)=>some [id]
   |some _=>some []
   |none=>none
  | .builtin .delete=>match Lw st c.args.toList with
   |some (.mp id::_)=>some [id]
   |_=>none
  | .builtin .unsafeString=>match Lw st c.args.toList with
   |some (.eptr id _ _ _::_)=>some [id]
   |_=>none
  |_=>none
 |_=>none
abbrev Rs:=List<|Nat×Option (List Nat)
def Tc:Option (List Nat)->Option (List Nat)->Bool
 |some a,some b=>a.all fun i=> !(b.any<|ze i)
 |some [],none=>true
 |_,_=>false
def J6(st:AF):Option (List Nat)->Bool
 |some l=>l.all fun i=>Hy<|st.obj i
 |none=>false
def apart(anc:Nat->Nat->Bool)(i:Nat)(st:AF)(t:Option (List Nat))(a:Rs):Bool:=a.all fun r=>anc i r.1||(Tc r.2 t&&J6 st r.2)
def behind(st:AF)(t:Option (List Nat))(a:Rs):Rs:=a.map fun r=>bif Tc r.2 t&&J6 st r.2 then r else(r.1,none)
def bE(st:AF)(o:Op):Bool:=match KQ st o with
 | .yes (.rnd _) _=>false
 |_=>true
def Jo(T:BP)(sp:FuncId->Option Aq)(call:Fh)(ops:Array Oper)(anc:Nat->Nat->Bool):List Nat->AF->Rs->(AF->Tr)->Tr
 |[],st,_,k=>k st
 |i::b,st,a,k=>match ops[i]? with
  |none=>.fail
  |some o=>guarded ops o st
    (fun st=>bif DZ o then Hg T call o st (fun st'=>Jo T sp call ops anc b st' (bif OX o then(i,jE st o.op)::a else a) k)
     else bif Cr o then Hg T call o st (fun st'=>Jo T sp call ops anc b st' a k)
     else bif apart anc i st (Gf sp st o.op) a&&bE st o.op then Hg T call o st (fun st'=>Jo T sp call ops anc b st' (behind st (Gf sp st o.op) a) k)else .fail)
    (fun st=>bif Cx o then(bif apart anc i st (some []) a then KR o (fun st'=>Jo T sp call ops anc b st' (behind st (some []) a) k) st else .fail)
     else KR o (fun st'=>Jo T sp call ops anc b st' a k) st)
def Ks(X:A0)(f:FuncId)(r:Nat)(st:AF):List (Nat×PV):=(X.pl f r).map fun t=>(t,st.get t)
def exec(X:A0)(call c:Fh)(nd ro:Bool)(d:Nat)(f:FuncId)(base:Nat):Code->AF->(DX->AF->Tr)->Tr
 | .skip,st,k| .label _,st,k=>k .normal st
 | .region _ ops dr,st,k=>bif dr then(bif !ro||Hp ops (Ea ops)then Jo X.C.T X.sp c ops (Ea ops).a (Ea ops).ord st [] (k .normal)else .fail)else prun X.C.T call ops ops.toList st<|k .normal
 | .seq a b,st,k=>exec X call c nd ro d f base a st fun e st'=>match e with
  | .normal=>bif X.ct f (Bz b)then .cut nd ro d f base b (Lr X f (Bz b) base st') k else exec X call c nd ro d f base b st' k
  |e=>k e st'
 | .cond x a b,st,k=>match OV st x with
  |some (.bl t)=>bif t then exec X call c nd ro d f base a st k else exec X call c nd ro d f base b st k
  |some (.dat .bool t)=>match x with
   | .tmp s=>.ite t (exec X call c nd ro d f base a (st.set s<|.bl true) k)<|exec X call c nd ro d f base b (st.set s<|.bl false) k
   |_=>.ite t (exec X call c nd ro d f base a st k)<|exec X call c nd ro d f base b st k
  |some .ub=>match x with
   | .tmp s=>.both (exec X call c nd ro d f base a (st.set s<|.bl true) k)<|exec X call c nd ro d f base b (st.set s<|.bl false) k
   |_=>.fail
  |_=>.fail
 | .block id b,st,k=>exec X call c nd ro d f base b st fun e st'=>match e with
  | .exit i=>bif ze i id then k .normal st' else k e st'
  |e=>k e st'
 | .loop b,st,k=>.loop nd ro d f base b (Lr X f (Bz b) base st) k
 | .exit i,st,k=>k (.exit i) st
 | .ret,st,k=>k .ret st
 | .scope b,st,k=>exec X call c nd ro d f base b st k
 | .rangeFunc g ps asg b,st,k=>bif ro then .fail else match OV st g with
  |some (.fn (.func l) first cap)=>bif (X.C.prim l).isSome then .fail else
   call (.fn l) (first++[.yl st.nx]++cap) (st.push<|.lp f (Bz b) ps asg b .ready st.n<|Ks X f (Bz b) st) fun _ j=>
    match j.obj st.nx with
    |some (.lp _ _ _ _ _ s _ _)=>match s with
     | .ready=>k .normal<|j.E7 st.nx
     | .ret=>k .ret<|j.E7 st.nx
     | .exit i=>k (.exit i)<|j.E7 st.nx
     | .busy=>.fail
    |_=>.fail
  |_=>.fail
 |_,_,_=>.fail
def cJ(T:BP)(st:AF):ResultVar->Option PV
 | .tmp t=>some<|st.get t
 | .cell a t=>match LY T st t (st.get a)with
  | .val v _=>some v
  | .Ii _ v _=>some v
  |_=>none
def LH(T:BP)(st:AF):List ResultVar->List Bool
 |[]=>[]
 | .tmp _::b=>LH T st b
 | .cell a t::b=>match LY T st t (st.get a)with
  | .Ii c _ _=>c::LH T st b
  |_=>LH T st b
def Qi:List Bool->Tr->Tr
 |[],t=>t
 |c::cs,t=>.ite c (Qi cs t) .fail
def ZR(T:BP)(st:AF):List ResultVar->Option (List PV)
 |[]=>some []
 |r::a=>match cJ T st r,ZR T st a with
  |some v,some vs=>some (v::vs)
  |_,_=>none
def Ey:List PV->Nat->List (Nat×PV)
 |[],_=>[]
 |v::vs,i=>(i,v)::Ey vs (yb i 1)
def enter(X:A0)(call a:Fh)(nd:Bool)(d:Nat)(f:FuncId)(args:List PV)(st:AF)(k:PV->AF->Tr):Tr:=
 match X.C.fn f with
 |none=>.fail
 |some i=>bif i.cert then
   exec X call a nd false d f st.nx i.body (AI (yb args.length<|Nat.sub i.ntmps args.length) (Ey args 0) st.ob st.nx) fun e s=>match e with
    | .exit _=>.fail
    |_=>match ZR X.C.T s i.results.toList with
     |some vs=>Qi (LH X.C.T s i.results.toList)<|k (one vs) ⟨st.n,st.fr,s.ob,s.nx⟩
     |none=>.fail
  else .fail
def LJ:List Tmp->List PV->AF->AF
 |t::ts,v::vs,st=>LJ ts vs<|bif zt t st.n then st.set t v else st
 |_,_,st=>st
def UQ(X:A0)(call c:Fh)(nd:Bool)(d:Nat)(id:Nat)(args:List PV)(st:AF)(k:PV->AF->Tr):Tr:=
 match st.obj id with
 |some (.lp f _ ps asg b .ready n sl)=>bif ze args.length ps.size then
   exec X call c nd true d f st.nx asg (LJ ps.toList args<|AI n sl st.ob st.nx) fun e s=>match e with
   | .normal=>match s.obj id with
    |some (.lp u r1 r l t .ready n1 o)=>
     exec X call c nd true d f st.nx b (s.setObj id<|.lp u r1 r l t .busy n1 o) fun v s2=>
      match s2.obj id with
      |some (.lp p r2 j a m _ q g)=>match v with
       | .normal=>k (.bl true) ⟨st.n,st.fr,(s2.setObj id<|.lp p r2 j a m .ready q g).ob,s2.nx⟩
       | .ret=>k (.bl false) ⟨st.n,st.fr,(s2.setObj id<|.lp p r2 j a m .ret q g).ob,s2.nx⟩
       | .exit i=>k (.bl false) ⟨st.n,st.fr,(s2.setObj id<|.lp p r2 j a m (.exit i) q g).ob,s2.nx⟩
      |_=>.fail
    |_=>.fail
   |_=>.fail
  else .fail
 |_=>.fail
def xS(args:List PV)(st:AF)(k:PV->AF->Tr):Tr:=
 match args with
 |[.ptr id off]=>bif Hy (st.obj id)then k (.ptr id off) st else .fail
 |_=>.fail
def BZ(X:A0)(nd:Bool):Nat->Fh
 |0=>fun _ _ _ _=>.fail
 |d+1=>fun c args st k=>match c with
  | .fn g=>match X.sp g with
   |some sp=>bif nd|| !sp.nd then eS sp args st k else .fail
   |none=>match X.ws g with
    |some w=>TU w args st k
    |none=>bif X.esc.any (ze g)then xS args st k else match X.C.prim g,X.C.spec g with
     |none,none=>enter X (BZ X nd d) (BZ X false d) nd d g args st k
     |_,_=>.fail
  | .rnd id=>UQ X (BZ X nd d) (BZ X false d) nd d id args st k
def bP:PV->Bool
 | .dat _ _| .D0 _ _ _| .bl _| .nil=>true
 |_=>false
def Pd(v:PV):Bool:=v.cells.all bP
def nI:PV->Bool
 | .tup a=>a.all Pd
 |v=>Pd v
def uK(v:PV)(ob:Ob):Ob:=bif nI v then[]else ob
def tree(X:A0)(nd:Bool)(d:Nat)(f:FuncId)(args:List PV):Tr:=
 enter X (BZ X nd d) (BZ X false d) nd d f args (AI 0 [] [] 0) fun v st=>.leaf v<|uK v st.ob
def body(X:A0)(nd ro:Bool)(d:Nat)(f:FuncId)(base:Nat)(b:Code)(st:AF)(k:DX->AF->Tr):Tr:=
 exec X (BZ X nd d) (BZ X false d) nd ro d f base b st fun e st'=>match e with
  | .normal=>.loop nd ro d f base b (Lr X f (Bz b) base st') k
  |e=>k e st'
def AN(X:A0)(nd ro:Bool)(d:Nat)(f:FuncId)(base:Nat)(b:Code)(st:AF)(k:DX->AF->Tr):Tr:=exec X (BZ X nd d) (BZ X false d) nd ro d f base b st k
inductive Ev (X:A0) (Q:PV->Ob->Prop):Nat->Tr->Prop where
 |leaf {n:Nat} {v:PV} {ob:Ob}:Q v ob->Ev X Q n (.leaf v ob)
 |ite {n:Nat} {c:Bool} {a b:Tr}:(c=true->Ev X Q n a)->(c=false->Ev X Q n b)->Ev X Q n (.ite c a b)
 |both {n:Nat} {a b:Tr}:Ev X Q n a->Ev X Q n b->Ev X Q n (.both a b)
 |cut {n:Nat} {nd ro:Bool} {d:Nat} {f:FuncId} {base:Nat} {b:Code} {st:AF} {k:DX->AF->Tr}:Ev X Q n (AN X nd ro d f base b st k)->Ev X Q n (.cut nd ro d f base b st k)
 |alts {n m:Nat} {f:Nat->Tr}:(∀i,i<m->Ev X Q n (f i))->Ev X Q n (.alts m f)
 |loop {n:Nat} {nd ro:Bool} {d:Nat} {f:FuncId} {base:Nat} {b:Code} {st:AF} {k:DX->AF->Tr}:Ev X Q n (body X nd ro d f base b st k)->Ev X Q (n+1) (.loop nd ro d f base b st k)
abbrev Fz:=Nat->Option (List V)
abbrev DH:=Nat->Option (Nat×Nat)
def DC(F:Fz):(s:Sh)->s.T->List V->Prop
 | .int k,x,cs=>cs=[.int k x]
 | .bool,x,cs=>cs=[.bool x]
 | .str,x,cs=>cs=[.str x]
 | .list s,l,cs=>∃v,cs=[v]/\((l=[]/\(v=.nils\/v=.esl\/v=.es0))\/
   ∃b off cap o e,v=.sl b off l.length cap o/\l.length<=cap/\F b=some e/\off+l.length*s.sz<=e.length/\(o=0\/o=s.sz)/\
    ∀i (h:i<l.length),DC F s l[i]<|(e.drop<|off+i*s.sz).take s.sz)
 | .pair a b,x,cs=>∃c d,cs=c++d/\DC F a x.1 c/\DC F b x.2 d
 | .unit,_,cs=>cs=[]
 | .fnv,x,cs=>cs=[match (x:Option Fn)with|some f=>.fn f [] []|none=>.nilf]
 | .ptr s,x,cs=>∃b o e,cs=[.ptr b o]/\F b=some e/\o+s.sz<=e.length/\DC F s x ((e.drop o).take s.sz)
 | .nlist s,l,cs=>∃v,cs=[v]/\((l=[]/\v=.nils)\/(l≠[]/\
   ∃b off cap o e,v=.sl b off l.length cap o/\l.length<=cap/\F b=some e/\off+l.length*s.sz<=e.length/\(o=0\/o=s.sz)/\
    ∀i (h:i<l.length),DC F s l[i]<|(e.drop<|off+i*s.sz).take s.sz))
theorem DC.len{F:Fz}:∀ {s:Sh} {x:s.T} {cs:List V},DC F s x cs->cs.length=s.sz
 | .int _,_,_,h=>by subst h;rfl
 | .bool,_,_,h=>by subst h;rfl
 | .str,_,_,h=>by subst h;rfl
 | .list _,_,_,h=>by obtain⟨v,rfl,_⟩:=h;rfl
 | .pair a b,x,_,h=>by
  obtain⟨c,d,rfl,f,e⟩:=h;rw[List.length_append,f.len,e.len];rfl
 | .unit,_,_,h=>by subst h;rfl
 | .nlist _,_,_,h=>by obtain⟨v,rfl,_⟩:=h;rfl
 | .fnv,_,_,h=>by subst h;rfl
 | .ptr _,_,_,h=>by obtain⟨b,o,g,rfl,_⟩:=h;rfl
theorem DC.ok{F:Fz}:∀ {s:Sh} {x:s.T} {cs:List V},DC F s x cs->∀v∈cs,v.ok=true
 | .int _,_,_,h=>by grind [DC,yn]
 | .bool,_,_,h=>by grind [DC,yn]
 | .str,_,_,h=>by grind [DC,yn]
 | .list s,_,_,h=>by
  obtain⟨v,rfl,⟨_,rfl|rfl|rfl⟩|⟨b,off,cap,o,f,rfl,_⟩⟩:=h<;>simp[yn]
 | .pair a b,x,_,h=>by
  obtain⟨c,d,rfl,i,g⟩:=h;intro v e;rcases List.mem_append.1 e with e|e
  ·exact i.ok v e
  ·exact g.ok v e
 | .unit,_,_,h=>by grind [DC]
 | .fnv,x,_,h=>by subst h;intro v e;rw[zn.1 e];cases (x:Option Fn)<;>rfl
 | .nlist s,_,_,h=>by
  obtain⟨v,rfl,⟨_,rfl⟩|⟨_,b,off,cap,o,f,rfl,_⟩⟩:=h<;>simp[yn]
 | .ptr _,_,_,h=>by obtain⟨b,o,f,rfl,_⟩:=h;simp[yn]
theorem DC.mono{F F':Fz}(e:∀b cs,F b=some cs->F' b=some cs):∀ {s:Sh} {x:s.T} {cs:List V},DC F s x cs->DC F' s x cs
 | .int _,_,_,h=>by simpa only[DC]using h
 | .bool,_,_,h=>by simpa only[DC]using h
 | .str,_,_,h=>by simpa only[DC]using h
 | .list s,l,_,h=>by
  obtain⟨v,rfl,h⟩:=h;refine⟨v,rfl,?_⟩;rcases h with h|⟨b,off,cap,o,j,g,f,m,k,n,p⟩
  ·grind
  ·exact .inr ⟨b,off,cap,o,j,g,f,e _ _ m,k,n,fun i q=>(p i q).mono e⟩
 | .pair a b,x,_,h=>by
  obtain⟨c,d,rfl,g,f⟩:=h;exact⟨c,d,rfl,g.mono e,f.mono e⟩
 | .unit,_,_,h=>by simpa only[DC]using h
 | .fnv,_,_,h=>by simpa only[DC]using h
 | .ptr s,x,_,h=>by
  obtain⟨b,o,j,g,f,m,k⟩:=h;exact⟨b,o,j,g,e _ _ f,m,k.mono e⟩
 | .nlist s,l,_,h=>by
  obtain⟨v,rfl,h⟩:=h;refine⟨v,rfl,?_⟩;rcases h with h|⟨h0,b,off,cap,o,j,g,f,m,k,n,p⟩
  ·grind
  ·exact .inr ⟨h0,b,off,cap,o,j,g,f,e _ _ m,k,n,fun i q=>(p i q).mono e⟩
theorem DC.nl{F:Fz}{s:Sh}{l:List s.T}{cs:List V}(h:DC F (.nlist s) l cs):DC F (.list s) l cs:=by
 simp only[DC]at h ⊢;obtain⟨v,rfl,h⟩:=h;rcases h with⟨rfl,rfl⟩|⟨_,h⟩
 ·simp
 simp_all
theorem DC.nl'{F:Fz}{s:Sh}{l:List s.T}{cs:List V}(h:DC F (.list s) l cs)(h0:0<l.length):DC F (.nlist s) l cs:=by
 have a:l≠[]:=ah
 simp_all [DC]
mutual
def PR(F:Fz)(ρ:DH)(N:Nat):PV->V->Prop
 | .any,_=>True
 | .bl b,v=>v=.bool b
 | .ub,v=>∃b,v=.bool b
 | .dat s x,v=>DC F s x [v]
 | .nil,v=>v=.nils
 | .nilp,v=>v=.nilp
 | .nilm,v=>v=.nilm
 | .nilf,v=>v=.nilf
 | .nili,v=>v=.nili
 | .agg l,v=>∃cs,v=.agg cs/\BB F ρ N l cs
 | .tup l,v=>∃cs,v=.tup cs/\BB F ρ N l cs
 | .ptr id off,v=>id<N/\∀b n,ρ id=some (b,n)->v=.ptr b off
 | .eptr id sz i off,v=>id<N/\∀b n,ρ id=some (b,n)->v=.ptr b (i*sz+off)
 | .D0 s x off,v=>∃b o cs,v=.ptr b (o+off)/\F b=some cs/\o+s.sz<=cs.length/\DC F s x ((cs.drop o).take s.sz)
 | .sl id sz off len cap,v=>id<N/\∀b n,ρ id=some (b,n)->
   (len<=cap.getD len/\off+cap.getD len<=n/\∃o,(o=0\/o=sz)/\v=.sl b (off*sz) len (cap.getD len) o)\/
   (len=0/\cap=some 0/\off<=n/\(v=.esl\/∃c,v=.sl b c 0 0 0/\c<=off*sz))
 | .mp id,v=>id<N/\∀b n,ρ id=some (b,n)->v=.map b
 | .fn f first captured,v=>∃a b,v=.fn f a b/\BB F ρ N first a/\BB F ρ N captured b
 | .yl id,v=>id<N/\∀b n,ρ id=some (b,n)->v=.yld b
def BB(F:Fz)(ρ:DH)(N:Nat):List PV->List V->Prop
 |[],l=>l=[]
 |p::ps,l=>∃v vs,l=v::vs/\PR F ρ N p v/\BB F ρ N ps vs
end
section
variable {F F':Fz}{ρ ρ':DH}{N N':Nat}
@[simp] theorem Dp(l:List V):BB F ρ N [] l↔l=[]:=by rfl
@[simp] theorem By(p:PV)(ps:List PV)(v:V)(vs:List V):BB F ρ N (p::ps) (v::vs)↔PR F ρ N p v/\BB F ρ N ps vs:=by
 simp only[BB];grind
theorem BB.len:∀ {ps:List PV} {vs:List V},BB F ρ N ps vs->ps.length=vs.length
 |[],vs,h=>by simp_all
 |p::ps,vs,h=>by
  obtain⟨v,vs,rfl,_,a⟩:=h;simp[a.len]
theorem BB.append:∀ {a:List PV} {x:List V} {b:List PV} {y:List V},BB F ρ N a x->BB F ρ N b y->BB F ρ N (a++b) (x++y)
 |[],x,b,y,h,h'=>by simp_all
 |p::ps,x,b,y,h,h'=>by
  obtain⟨v,vs,rfl,d,c⟩:=h;simp only[List.cons_append,By];exact⟨d,c.append h'⟩
theorem BB.drop:∀ {a:List PV} {x:List V} (n:Nat),BB F ρ N a x->BB F ρ N (a.drop n) (x.drop n)
 |[],x,n,h=>by simp_all
 |p::ps,x,0,h=>by grind
 |p::ps,x,n+1,h=>by
  obtain⟨v,vs,rfl,c,b⟩:=h;simpa using b.drop n
theorem BB.take:∀ {a:List PV} {x:List V} (n:Nat),BB F ρ N a x->BB F ρ N (a.take n) (x.take n)
 |[],x,n,h=>by simp_all
 |p::ps,x,0,h=>by simp
 |p::ps,x,n+1,h=>by
  obtain⟨v,vs,rfl,c,b⟩:=h;simpa using⟨c,b.take n⟩
theorem BB.get:∀ {a:List PV} {x:List V},BB F ρ N a x->∀ {i:Nat} {p:PV},a[i]?=some p->∃v,x[i]?=some v/\PR F ρ N p v
 |[],x,h,i,p,b=>by grind
 |q::ps,x,h,i,p,b=>by
  obtain⟨v,vs,rfl,d,c⟩:=h;cases i with
  |zero=>grind
  |succ i=>simpa using c.get b
structure Le(F:Fz)(ρ:DH)(N:Nat)(F':Fz)(ρ':DH)(N':Nat):Prop where
 fz:∀b cs,F b=some cs->F' b=some cs
 rho:∀id,id<N->ρ' id=ρ id\/ρ' id=none
 n:N<=N'
theorem Le.refl:Le F ρ N F ρ N:=⟨fun _ _ h=>h,(by simp),zi _⟩
theorem Le.trans{f:Fz}{d:DH}{g:Nat}(a:Le F ρ N F' ρ' N')(b:Le F' ρ' N' f d g):Le F ρ N f d g:=
 ⟨fun c cs h=>b.fz c cs<|a.fz c cs h,fun id h=>by
  rcases b.rho id (zk h a.n)with e|e
  ·rw[e];exact a.rho id h
  grind,Nat.le_trans a.n b.n⟩
theorem Le.at(a:Le F ρ N F' ρ' N'){id:Nat}(h:id<N){x:Nat×Nat}(b:ρ' id=some x):ρ id=some x:=by
 rcases a.rho id h with e|e
 ·grind
 grind
mutual
theorem PR.mono(c:Le F ρ N F' ρ' N'):∀ {p:PV} {v:V},PR F ρ N p v->PR F' ρ' N' p v
 | .any,_,_=>by simp[PR]
 | .bl _,_,h=>by simpa only[PR]using h
 | .ub,_,h=>by simpa only[PR]using h
 | .dat s x,_,h=>by simp only[PR]at h ⊢;exact h.mono c.fz
 | .nil,_,h| .nilp,_,h| .nilm,_,h| .nilf,_,h| .nili,_,h=>by simpa only[PR]using h
 | .agg l,_,h=>by obtain⟨cs,rfl,e⟩:=h;exact⟨cs,rfl,e.mono c⟩
 | .tup l,_,h=>by obtain⟨cs,rfl,e⟩:=h;exact⟨cs,rfl,e.mono c⟩
 | .ptr _ _,_,h=>by exact⟨zk h.1 c.n,fun b n d=>h.2 b n<|c.at h.1 d⟩
 | .eptr _ _ _ _,_,h=>by exact⟨zk h.1 c.n,fun b n d=>h.2 b n<|c.at h.1 d⟩
 | .D0 s x off,_,h=>by
  obtain⟨b,o,cs,e,g,j,i⟩:=h;exact⟨b,o,cs,e,c.fz _ _ g,j,i.mono c.fz⟩
 | .sl _ _ _ _ _,_,h=>by exact⟨zk h.1 c.n,fun b n d=>h.2 b n<|c.at h.1 d⟩
 | .mp _,_,h=>by exact⟨zk h.1 c.n,fun b n d=>h.2 b n<|c.at h.1 d⟩
 | .fn f a b,_,h=>by
  obtain⟨x,y,rfl,e,g⟩:=h;exact⟨x,y,rfl,e.mono c,g.mono c⟩
 | .yl _,_,h=>by exact⟨zk h.1 c.n,fun b n d=>h.2 b n<|c.at h.1 d⟩
theorem BB.mono(a:Le F ρ N F' ρ' N'):∀ {ps:List PV} {vs:List V},BB F ρ N ps vs->BB F' ρ' N' ps vs
 |[],_,h=>by simp_all
 |p::ps,_,h=>by
  obtain⟨v,vs,rfl,c,b⟩:=h;exact⟨v,vs,rfl,c.mono a,b.mono a⟩
end
theorem PR.lz:∀ {p:PV} {v:V},PR F ρ N p v->PR F ρ N (lz p) v:=by
 intro p v h;unfold Pe.lz;split
 ·exact h.nl
 omega
theorem BB.lz:∀ {ps:List PV} {vs:List V},BB F ρ N ps vs->BB F ρ N (ps.map Pe.lz) vs
 |[],_,h=>by grind
 |p::ps,_,h=>by
  obtain⟨v,vs,rfl,b,a⟩:=h;simp only[List.map_cons,By];exact⟨b.lz,a.lz⟩
theorem XL{s:Sh}{p:PV}{v:V}(h:PR F ρ N p v)(b:(Sk s p).1=true):PR F ρ N (Sk s p).2 v:=by
 unfold Sk at b ⊢;split
 ·rename_i s a x;cases c:(s==a)with
  |false=>exact h
  |true=>
   have b:(bif s==a then(decide (0<List.length x),PV.dat a.nlist x)else(true,PV.dat a.list x)).1=true:=b;rw[c]at b;simp only[we,w5]at b;exact h.nl' b
 ·rename_i s a x;cases c:(s==a)with
  |false=>exact h
  |true=>exact h.nl
 omega
theorem PG:∀ {l:List Sh} {ps:List PV} {vs:List V},BB F ρ N ps vs->(Ky l ps).1=true->BB F ρ N (Ky l ps).2 vs
 |[],ps,vs,h,_=>h
 |s::l,[],vs,h,_=>h
 |s::l,p::ps,vs,h,a=>by
  obtain⟨v,vs,rfl,c,b⟩:=h;simp only[Ky,zc]at a;simp only[Ky,By];exact⟨XL c a.1,PG b a.2⟩
def Dc(F:Fz)(s:Sh)(l:List s.T)(cs:List V):Prop:=cs.length=l.length*s.sz/\∀i (h:i<l.length),DC F s l[i]<|(cs.drop<|i*s.sz).take s.sz
theorem Dc.mono(a:∀b cs,F b=some cs->F' b=some cs){s:Sh}{l:List s.T}{cs:List V}(h:Dc F s l cs):Dc F' s l cs:=⟨h.1,fun i c=>(h.2 i c).mono a⟩
theorem Dc.ok{F:Fz}{s:Sh}{l:List s.T}{cs:List V}(h:Dc F s l cs):∀v∈cs,v.ok=true:=by
 intro v f;obtain⟨k,d⟩:=List.mem_iff_getElem?.1 f;have a:=(List.getElem?_eq_some_iff.1 d).1;have b:0<s.sz:=by
  rcases Nat.eq_zero_or_pos s.sz with e|e
  ·rw[h.1,e,Nat.mul_zero]at a;omega
  omega
 have c:k/s.sz<l.length:=Nat.div_lt_of_lt_mul (by rw[Nat.mul_comm, <-h.1];exact a);refine(h.2 _ c).ok v ?_;refine List.mem_iff_getElem?.2 ⟨k % s.sz,?_⟩;grind [Nat.mod_lt,Nat.div_add_mod]
def DV(F:Fz)(s:Sh)(x:s.T)(v:V):Prop:=(s.MF=true->∃cs,v=.agg cs/\DC F s x cs)/\(s.MF=false->DC F s x [v])
theorem DV.mono(a:∀b cs,F b=some cs->F' b=some cs){s:Sh}{x:s.T}{v:V}(h:DV F s x v):DV F' s x v:=
 ⟨fun e=>by obtain⟨cs,d,c⟩:=h.1 e;exact⟨cs,d,c.mono a⟩,fun e=>(h.2 e).mono a⟩
inductive MR (F:Fz) (ks vs:Sh):List (ks.T×vs.T)->List (V×V×Nat)->Prop where
 |nil:MR F ks vs [] []
 |cons {k:ks.T} {v:vs.T} {l:List (ks.T×vs.T)} {a b:V} {n:Nat} {es:List (V×V×Nat)}:DV F ks k a->DV F vs v b->MR F ks vs l es->MR F ks vs ((k,v)::l) ((a,b,n)::es)
theorem MR.mono(a:∀b cs,F b=some cs->F' b=some cs){ks vs:Sh}{l:List (ks.T×vs.T)}{es:List (V×V×Nat)}(h:MR F ks vs l es):MR F' ks vs l es:=by
 induction h with
 |nil=>exact .nil
 |cons e c _ d=>exact .cons (e.mono a) (c.mono a) d
def MV(sl:List (Nat×PV))(t:Nat):PV:=((Ej sl).get t).getD .any
def LpR:LpS->LoopState->Option Code->Prop
 | .ready,st,a=>st=.ready/\a=none
 | .busy,st,_=>st=.busy
 | .ret,st,a=>st=.done/\a=some .ret
 | .exit i,st,a=>st=.done/\a=some (.exit i)
def Vb(F:Fz)(ρ:DH)(N n:Nat):Obj->O->Prop
 | .arr _ e s l,o=>∃cs fz,o=.cells cs e fz/\Dc F s l cs/\fz.2<=fz.1/\l.length=n
 | .box ps,o=>∃cs t fz,o=.cells cs t fz/\BB F ρ N ps cs/\fz.2<=fz.1/\∀v∈cs,v.ok=true
 | .tbox t ps,o=>∃cs fz,o=.cells cs t fz/\BB F ρ N ps cs/\fz.2<=fz.1/\∀v∈cs,v.ok=true
 | .map ks vs l,o=>∃es a,o=.map es a/\MR F ks vs l es
 | .siter s pos,o=>o=.siter s pos
 | .lp _ _ ps asg body s n' sl,o=>∃ls,o=.loop ls/\ls.ps=ps/\ls.asg=asg/\ls.body=body/\LpR s ls.st ls.pend/\ls.fr.n=n'/\∀t,PR F ρ N (MV sl t)<|ls.fr.get t
theorem Vb.mono(d:Le F ρ N F' ρ' N'){n:Nat}{x:Obj}{o:O}(h:Vb F ρ N n x o):Vb F' ρ' N' n x o:=by
 cases x with
 |arr fz e s l=>obtain⟨cs,f,b,a,c⟩:=h;exact⟨cs,f,b,a.mono d.fz,c⟩
 |box ps=>obtain⟨cs,t,f,b,a,c⟩:=h;exact⟨cs,t,f,b,a.mono d,c⟩
 |tbox t ps=>obtain⟨cs,f,b,a,c⟩:=h;exact⟨cs,f,b,a.mono d,c⟩
 |map ks vs l=>obtain⟨es,g,b,a⟩:=h;exact⟨es,g,b,a.mono d.fz⟩
 |siter s pos=>exact h
 |lp f r ps asg body s n sl=>obtain⟨ls,b,a,c,m,k,i,j⟩:=h;exact⟨ls,b,a,c,m,k,i,fun t=>(j t).mono d⟩
def Obj.frozen:Obj->Bool
 | .arr fz _ _ _=>fz
 |_=>false
structure H0 where
 h:H
 F:Fz
 pin:List Nat
 ex:Nat->Prop:=fun _=>False
def H0.pins(h0:H0)(ps:List Nat):H0:={ h0 with pin:=ps++h0.pin }
def H0.Xd(h0:H0)(B b:Nat):Prop:=B<=b\/h0.ex b
theorem Mp{h0:H0}{B b c:Nat}(h:h0.Xd B b)(a:c<B)(d:¬h0.ex c):c≠b:=by
 rcases h with h|h
 ·omega
 grind
structure SR(B:Nat)(h0:H0)(F:Fz)(ρ:DH)(N:Nat)(ob:Ob)(h:H):Prop where
 obj:∀id o,AK ob id=some o->∃b n x,ρ id=some (b,n)/\h.get b=some x/\Vb F ρ N n o x/\(o.frozen=false->F b=none)/\
  (o.frozen=true->∃cs t fz,x=.cells cs t fz/\F b=some cs)
 inj:∀id id' o o' b n n',AK ob id=some o->AK ob id'=some o'->ρ id=some (b,n)->ρ id'=some (b,n')->id=id'
 frz:∀b cs,F b=some cs->∃t fz,h.get b=some (.cells cs t fz)
 own:∀id b n,ρ id=some (b,n)->id<N/\h0.Xd B b
 dead:∀id,AK ob id=none->ρ id=none
 old:∀b,b<B->¬h0.ex b->h.get b=h0.h.get b
 lt:∀b o,h.get b=some o->b<h.nx
 le:B<=h.nx
 fo:∀b cs,F b=some cs->h0.F b=some cs\/h0.Xd B b
 gl:∀x∈C8,x.1<B/\¬h0.ex x.1/\h0.h.get x.1=some x.2
 pn:∀b∈h0.pin,h.get b=some (.defd true)/\B<=b/\∀id n,ρ id≠some (b,n)
structure FP(F:Fz)(ρ:DH)(N:Nat)(st:AF)(fr:Fr):Prop where
 n:st.n=fr.n
 slot:∀t,PR F ρ N (st.get t) (fr.get t)
theorem FP.mono(a:Le F ρ N F' ρ' N'){st:AF}{fr:Fr}(h:FP F ρ N st fr):FP F' ρ' N' st fr:=⟨h.n,fun t=>(h.slot t).mono a⟩
end
section
variable {B:Nat}{h0:H0}{F:Fz}{ρ:DH}{N:Nat}
mutual
theorem WW:∀ {v:Value} {p:PV},Md v=some p->∃x,cv v=some x/\PR F ρ N p x
 | .bool b,p,h=>by simp[Md]at h;subst h;exact⟨_,rfl,by simp[PR]⟩
 | .int k n,p,h=>by simp[Md]at h;subst h;exact⟨_,rfl,by rfl⟩
 | .string s,p,h=>by simp[Md]at h;subst h;exact⟨_,rfl,by rfl⟩
 | .pointer none,p,h=>by simp[Md]at h;subst h;exact⟨_,rfl,by simp[PR]⟩
 | .pointer (some a),p,h=>by simp[Md]at h
 | .slice none 0 0,p,h=>by simp[Md]at h;subst h;exact⟨_,rfl,by simp[PR]⟩
 | .slice none 0 (_+1),p,h=>by simp[Md]at h
 | .slice none (_+1) _,p,h=>by simp[Md]at h
 | .slice (some a) _ _,p,h=>by simp[Md]at h
 | .map none,p,h=>by simp[Md]at h;subst h;exact⟨_,rfl,by simp[PR]⟩
 | .map (some a),p,h=>by simp[Md]at h
 | .nilFunc,p,h=>by simp[Md]at h;subst h;exact⟨_,rfl,by simp[PR]⟩
 | .nilIface,p,h=>by simp[Md]at h;subst h;exact⟨_,rfl,by simp[PR]⟩
 | .func f ⟨[]⟩ ⟨[]⟩,p,h=>by simp[Md]at h;subst h;exact⟨_,rfl,by simp[PR]⟩
 | .func f ⟨_::_⟩ _,p,h=>by simp[Md]at h
 | .func f ⟨[]⟩ ⟨_::_⟩,p,h=>by simp[Md]at h
 | .agg ⟨cs⟩,p,h=>by
  simp only[Md,zf]at h;obtain⟨d,c,rfl⟩:=h;obtain⟨ys,h2,h3⟩:=NQ c;simp_all [cv,PR]
 | .tuple ⟨cs⟩,p,h=>by
  simp only[Md,zf]at h;obtain⟨d,c,rfl⟩:=h;obtain⟨ys,h2,h3⟩:=NQ c;simp_all [cv,PR]
 | .float _ _,p,h=>by simp[Md]at h
 | .complex _ _ _,p,h=>by simp[Md]at h
 | .chan _,p,h=>by simp[Md]at h
 | .iface _ _,p,h=>by simp[Md]at h
theorem NQ:∀ {vs:List Value} {ps:List PV},Yg vs=some ps->∃a,nX vs=some a/\BB F ρ N ps a
 |[],ps,h=>by simp[Yg]at h;subst h;exact⟨[],rfl,by simp⟩
 |v::vs,ps,h=>by
  unfold Yg at h;split at h
  case h_2=>cases h
  rename_i x a c b;cases h;obtain⟨y,e,d⟩:=WW c;obtain⟨ys,g3,g4⟩:=NQ b;simp_all [nX]
end
theorem mY(v:V):PR F ρ N (Ub v) v:=by
 cases v<;>simp[Ub,PR,DC]
theorem DS:∀vs:List V,BB F ρ N (vs.map Ub) vs
 |[]=>by simp
 |v::vs=>by simp only[List.map_cons,By];exact⟨mY v,DS vs⟩
variable {C:Ctx}{st st':AF}{fr:Fr}{h:H}
theorem BQ(b:FP F ρ N st fr){x:Operand}{p:PV}(a:OV st x=some p):∃v,ev C fr x=some v/\PR F ρ N p v:=by
 cases x with
 |tmp t=>simp only[OV,zh]at a;subst a;exact⟨_,rfl,b.slot t⟩
 |const v=>exact WW a
 |global g=>simp[OV]at a
 |func f=>simp only[OV,zh]at a;subst a;exact⟨_,rfl,by simp[PR]⟩
theorem Ek(c:FP F ρ N st fr):∀ {b:List Operand} {ps:List PV},Lw st b=some ps->∃vs,Sl C fr b=some vs/\BB F ρ N ps vs
 |[],ps,a=>by simp[Lw]at a;subst a;exact⟨[],rfl,by simp⟩
 |x::b,ps,a=>by
  unfold Lw at a;split at a
  case h_2=>cases a
  rename_i v vs e d;cases a;obtain⟨y,g,f⟩:=BQ (C:=C) c e;obtain⟨ys,g3,g4⟩:=Ek c d;simp_all [Sl]
inductive qJ (F:Fz) (ρ:DH) (N:Nat):List (Nat×PV)->List (Nat×V)->Prop
 |nil:qJ F ρ N [] []
 |cons {i:Nat} {p:PV} {v:V} {l:List (Nat×PV)} {l':List (Nat×V)}:PR F ρ N p v->qJ F ρ N l l'->qJ F ρ N ((i,p)::l) ((i,v)::l')
theorem Oq(c:FP F ρ N st fr):∀ {b:List (Nat×Operand)} {ps:List (Nat×PV)},Yj st b=some ps->∃vs,UM C fr b=some vs/\qJ F ρ N ps vs
 |[],ps,a=>by simp[Yj]at a;subst a;exact⟨[],rfl,.nil⟩
 |(i,x)::b,ps,a=>by
  unfold Yj at a;split at a
  case h_2=>cases a
  rename_i v vs f d;cases a;obtain⟨y,g,e⟩:=BQ (C:=C) c f;obtain⟨ys,g3,g4⟩:=Oq c d;exact⟨(i,y)::ys,by simp[UM,g,g3],.cons e g4⟩
structure Rel(B:Nat)(h0:H0)(F:Fz)(ρ:DH)(st:AF)(fr:Fr)(h:H):Prop where
 fp:FP F ρ st.nx st fr
 sr:SR B h0 F ρ st.nx st.ob h
inductive PO.To:PO->PV->AF->Prop
 |val {v:PV} {st:AF}:PO.To (.val v st) v st
 |tt {a b:PO} {v:PV} {st:AF}:PO.To a v st->PO.To (.ite true a b) v st
 |ff {a b:PO} {v:PV} {st:AF}:PO.To b v st->PO.To (.ite false a b) v st
@[simp] theorem KV{v:PV}{s:AF}:¬PO.To .bad v s:=by intro h;cases h
@[simp] theorem BU{v u:PV}{s t:AF}:PO.To (.val v s) u t↔v=u/\s=t:=by
 constructor
 ·intro h;cases h;simp
 ·rintro⟨rfl,rfl⟩;exact .val
@[simp] theorem BV{c:Bool}{v u:PV}{s t:AF}:PO.To (.Ii c v s) u t↔c=true/\v=u/\s=t:=by
 constructor
 ·intro h;cases h with
  |tt h=>simp_all
  |ff h=>cases h
 ·rintro⟨rfl,rfl,rfl⟩;exact .tt .val
@[simp] theorem PL{o:Option PV}{u:PV}{s t:AF}:PO.To (ov s o) u t↔o=some u/\s=t:=by
 cases o with
 |none=>simp[ov]
 |some v=>simp only[ov,BU,zh]
@[simp] theorem Ud{c:Bool}{o:Option PV}{u:PV}{s t:AF}:PO.To (uG c s o) u t↔c=true/\o=some u/\s=t:=by
 cases o with
 |none=>simp[uG]
 |some v=>simp only[uG,BV,zh]
def OK(B:Nat)(h0:H0)(F:Fz)(ρ:DH)(st:AF)(h:H)(a:List Nat)(d:Option OR)(v:PV)(st':AF):Prop:=
 ∃v' h' F' ρ',(d=some (.val v' h')\/(d=some (.skip h')/\v'=.tup []))/\PR F' ρ' st'.nx v v'/\SR B h0 F' ρ' st'.nx st'.ob h'/\Le F ρ st.nx F' ρ' st'.nx/\
  st'.fr=st.fr/\st'.n=st.n/\h.nx<=h'.nx/\∀b,b<h.nx->h'.get b=h.get b\/∃id∈a,∃n,ρ id=some (b,n)
theorem OK.pure{a:List Nat}(b:SR B h0 F ρ st.nx st.ob h){d:Option OR}{v:PV}{v':V}(c:d=some (.val v' h))(e:PR F ρ st.nx v v'):OK B h0 F ρ st h a d v st:=
 ⟨v',h,F,ρ,.inl c,e,b,Le.refl,rfl,rfl,zi _,(by simp)⟩
theorem Lp{α:Type}(n:Nat)(l:List α):Det.Jg n l=l.drop n:=MZ n l
theorem rd_some{h:H}{b off n:Nat}{cs:List V}{t:TypeId}{fz:Nat×Nat}(d:h.get b=some (.cells cs t fz))(a:off+n<=cs.length)(c:∀v∈(cs.drop off).take n,v.ok=true):rd h b off n=some ((cs.drop off).take n):=by
 simp_all [Wj,uC]
theorem Nd{d:TypeDesc}{n:Nat}{ps:List PV}{cs:List V}(e:BB F ρ N ps cs){p:PV}(a:pick d n ps=some p):
  (DP d=true/\0<n/\n<=cs.length/\PR F ρ N p (.agg<|cs.take n))\/(DP d=false/\∃v vs,cs=v::vs/\PR F ρ N p v):=by
 unfold pick at a;cases f:DP d with
 |true=>
  left;simp only[f,we]at a;rw[Dm,N7]at a;cases b:(zx n ps.length&&zt 0 n)with
  |false=>grind
  |true=>
   rw[b]at a;simp only[we,zh]at a;subst a;simp only[zc]at b;obtain⟨b,c⟩:=b;refine⟨rfl,z7 c,by rw[<-e.len];simp_all,?_⟩;exact⟨_,rfl,e.take n⟩
 |false=>
  simp only[f,wg]at a;cases ps with
  |nil=>cases a
  |cons q g=>
   simp only[BB]at e;grind
theorem Cu:∀ {s:Sh} {x:s.T} {cs:List V},DC F s x cs->BB F ρ N (flat s x) cs
 | .pair a b,(x,y),cs,h=>by
  obtain⟨c,d,rfl,f,e⟩:=h;exact(Cu f).append<|Cu e
 | .unit,_,cs,h=>by simp_all [DC,flat]
 | .int k,x,cs,h=>by simp_all [DC,flat,PR]
 | .bool,x,cs,h=>by simp_all [DC,flat,PR]
 | .str,x,cs,h=>by simp_all [DC,flat,PR]
 | .list s,x,cs,h=>by
  have h':=h;obtain⟨v,rfl,_⟩:=h;simp_all [flat,PR]
 | .fnv,x,cs,h=>by subst h;simp only[flat,By,Dp,ve];cases (x:Option Fn)<;>simp[PR]
 | .ptr s,x,cs,h=>by
  obtain⟨b,o,g,rfl,e,j,i⟩:=h;simp only[flat,By,Dp,ve,PR];grind
 | .nlist s,x,cs,h=>by
  have h':=h;obtain⟨v,rfl,_⟩:=h;simp_all [flat,PR]
theorem Fa{α:Type}(l:List α)(a b:Nat):l.drop (a+b)=(l.drop a).drop b:=by simp
theorem Gz{T:BP}{t:TypeId}{d:TypeDesc}{i:TI}(s:T.und t=some d)(u:T.inf t=some i){b off:Nat}{cs:List V}{n:TypeId}{fz:Nat×Nat}(e:h.get b=some (.cells cs n fz))
  {m:Nat} (j:∀v∈(cs.drop off).take m,v.ok=true) {ps:List PV} (q:BB F ρ N ps ((cs.drop off).take m)) {p:PV} (c:pick d i.size ps=some p):∃v,Eu T h t (.ptr b off)=some v/\PR F ρ N p v:=by
 unfold Eu;simp only[s,u];have f:((cs.drop off).take m).length<=cs.length-off:=ah
 rcases Nd q c with⟨l,_,z,o⟩|⟨l,v,vs,x,o⟩
 ·rw[rd_some e ae ah];grind
 ·have r:off+1<=cs.length:=by
   grind
  have g:(cs.drop off).take 1=[v]:=by
   have:m≠0:=ah
   obtain⟨k,rfl⟩:=Nat.exists_eq_succ_of_ne_zero this;cases y:cs.drop off with
   |nil=>grind
   |cons a w=>grind
  rw[rd_some e r ah,g];grind
end
section
variable {B:Nat}{h0:H0}{F:Fz}{ρ:DH}{N:Nat}{C:Ctx}{st st':AF}{fr:Fr}{h:H}
theorem SR.at(a:SR B h0 F ρ N st.ob h){id:Nat}{o:Obj}(c:st.obj id=some o):∃b n x,ρ id=some (b,n)/\h.get b=some x/\Vb F ρ N n o x/\(o.frozen=false->F b=none)/\
  (o.frozen=true->∃cs t fz,x=.cells cs t fz/\F b=some cs):=a.obj id o c
theorem NS{s:Sh}{l:List s.T}{cs:List V}(a:Dc F s l cs)(b:s.sz=1):∀(n j:Nat),j+n=l.length->BB F ρ N (N0 s l j n) (cs.drop j)
 |0,j,f=>by
  have:cs.length=l.length:=by rw[a.1,b,yo]
  simp_all [N0]
 |n+1,j,f=>by
  have c:j<l.length:=ae
  have d:=a.2 j c;rw[b,yo]at d;have e:cs.drop j=(cs.drop j).take 1++cs.drop (j+1):=by
   grind [List.take_append_drop,yp]
  unfold N0;rw[e,show l.getD j s.GN=l[j]from by grind];exact(Cu d).append (NS a b n (j+1) ae)
theorem Z3(k:SR B h0 F ρ st.nx st.ob h){t:TypeId}{p:PV}{a:V}(A:PR F ρ st.nx p a){v:PV}(f:(LY C.T st t p).To v st'):
  OK B h0 F ρ st h [] (Bs h<|Eu C.T h t a) v st':=by
 unfold LY at f;split at f
 case h_2=>simp at f
 rename_i d i E G;split at f
 case h_4=>simp at f
 case h_1=>
  rename_i id off;split at f
  case h_4=>simp at f
  case h_3=>
   rename_i tb ps w;simp only[PL]at f;obtain⟨c,rfl⟩:=f;obtain⟨b,n,x,h1,h2,⟨cs,fz,rfl,h4,_,hbok⟩,_⟩:=k.at w;obtain rfl:=A.2 b n h1;rw[Lp]at c;obtain⟨v',r,q⟩:=Gz (h:=h) E G h2 (m:=cs.length) ah (by rw[zm<|by simp];exact h4.drop off) c;exact OK.pure k (by rw[r];rfl) q
  case h_2=>
   rename_i J e s l w;cases g:(ze off 0&&ze s.sz 1)with
   |false=>simp_all
   |true=>
    rw[g]at f;simp only[we,Ud,w5]at f;obtain⟨K,c,rfl⟩:=f;rw[zc]at g;have h0:=zd g.1;have I:=zd g.2;subst h0;obtain⟨b,n,x,h1,h2,⟨cs,fz,rfl,h4,_⟩,_⟩:=k.at w;obtain rfl:=A.2 b n h1;have D:=NS (ρ:=ρ) (N:=st.nx) h4 I i.size 0 ae;obtain⟨v',r,q⟩:=Gz (h:=h) E G h2 (m:=cs.length) (fun u y=>h4.ok u ah) (by rw[zm<|by simp];exact D) c;exact OK.pure k (by rw[r];rfl) q
  rename_i ps w;simp only[PL]at f;obtain⟨c,rfl⟩:=f;obtain⟨b,n,x,h1,h2,⟨cs,te,fz,rfl,h4,_,hbok⟩,_⟩:=k.at w;obtain rfl:=A.2 b n h1;rw[Lp]at c;obtain⟨v',r,q⟩:=Gz (h:=h) E G h2 (m:=cs.length) ah (by rw[zm<|by simp];exact h4.drop off) c;exact OK.pure k (by rw[r];rfl) q
 case h_2=>
  rename_i id sz j off;split at f
  case h_2=>simp at f
  rename_i J e s l w;cases g:ze sz s.sz with
  |false=>simp_all
  |true=>
   rw[g]at f;simp only[we,Ud,w5]at f;obtain⟨K,c,rfl⟩:=f;have g:=zd g;subst g;obtain⟨b,n,x,h1,h2,⟨cs,fz,rfl,h4,_⟩,_⟩:=k.at w;obtain rfl:=A.2 b n h1;have z:=h4.2 j K;rw[show l.getD j s.GN=l[j]from by simp[K],Lp]at c;have D:BB F ρ st.nx ((flat s l[j]).drop off) ((cs.drop<|j*s.sz+off).take<|s.sz-off):=by
    have:=(Cu (F:=F) (ρ:=ρ) (N:=st.nx) z).drop off;rw[Fa, <-zr]at*;omega
   obtain⟨v',r,q⟩:=Gz (h:=h) E G h2 (fun u y=>z.ok u<|List.mem_of_mem_drop (i:=off)<|by rw[Fa, <-zr]at y;exact y) D c;exact OK.pure k (by rw[r];rfl) q
 case h_3=>
  rename_i s x off;simp only[PL]at f;obtain⟨c,rfl⟩:=f;obtain⟨b,o,cs,rfl,h1,h2,h3⟩:=A;obtain⟨te,fz,h4⟩:=k.frz b cs h1;rw[Lp]at c;have D:BB F ρ st.nx ((flat s x).drop off) ((cs.drop<|o+off).take<|s.sz-off):=by
   have:=(Cu (F:=F) (ρ:=ρ) (N:=st.nx) h3).drop off;rw[Fa, <-zr]at*;omega
  obtain⟨v',r,q⟩:=Gz (h:=h) E G h4 (fun u y=>h3.ok u<|List.mem_of_mem_drop (i:=off)<|by rw[Fa, <-zr]at y;exact y) D c;exact OK.pure k (by rw[r];rfl) q
theorem DC.Tt:∀ {s:Sh} {x:s.T} {cs:List V},DC F s x cs->∀v∈cs,v.one=true
 | .int _,_,_,h=>by grind [DC,V.one]
 | .bool,_,_,h=>by grind [DC,V.one]
 | .str,_,_,h=>by grind [DC,V.one]
 | .list s,l,_,h=>by
  obtain⟨u,rfl,h⟩:=h;intro v e;rw[zn.1 e];rcases h with⟨_,rfl|rfl|rfl⟩|⟨b,off,cap,o,f,rfl,_⟩<;>rfl
 | .pair a b,x,_,h=>by
  obtain⟨c,d,rfl,i,g⟩:=h;intro v e;rcases List.mem_append.1 e with e|e
  ·exact i.Tt v e
  ·exact g.Tt v e
 | .unit,_,_,h=>by grind [DC]
 | .fnv,x,_,h=>by subst h;intro v e;rw[zn.1 e];cases (x:Option Fn)<;>rfl
 | .ptr _,x,_,h=>by obtain⟨b,o,f,rfl,_⟩:=h;intro v e;rw[zn.1 e];rfl
 | .nlist s,l,_,h=>by
  obtain⟨u,rfl,h⟩:=h;intro v e;rw[zn.1 e];rcases h with⟨_,rfl⟩|⟨_,b,off,cap,o,f,rfl,_⟩<;>rfl
theorem Ie{o:Option Obj}(h:Hy o=true):∃x,o=some x:=by cases o with|none=>cases h|some x=>simp
theorem Pn(f:SR B h0 F ρ st.nx st.ob h){p:PV}{v:V}(e:Kc st p=true)(c:PR F ρ st.nx p v):v.one=true:=by
 have key:∀ {id:Nat},Hy (st.obj id)=true->∃b n,ρ id=some (b,n):=by
  intro id g;obtain⟨o,i⟩:=Ie g;obtain⟨b,n,_,d,_⟩:=f.at i;grind
 cases p<;>simp only[Kc]at e<;>simp only[PR]at c<;>try (cases e;done)
 case bl=>subst c;rfl
 case dat=>exact c.Tt v (by simp)
 case nil|nilp|nilm|nilf|nili=>subst c;rfl
 case ptr=>obtain⟨b,n,d⟩:=key e;rw[c.2 b n d];rfl
 case eptr=>obtain⟨b,n,d⟩:=key e;rw[c.2 b n d];rfl
 case D0=>obtain⟨b,o,cs,rfl,_⟩:=c;rfl
 case sl=>
  obtain⟨b,n,d⟩:=key e;rcases c.2 b n d with⟨_,_,o,_,rfl⟩|⟨_,_,_,rfl|⟨_,rfl,_⟩⟩<;>rfl
 case mp|yl=>obtain⟨b,n,d⟩:=key e;rw[c.2 b n d];rfl
 case fn=>obtain⟨a,b,rfl,_⟩:=c;rfl
theorem Yi{v:V}(h:v.one=true):v.cells=[v]:=by cases v<;>first|rfl|cases h
theorem Mq(d:SR B h0 F ρ st.nx st.ob h){p:PV}{v:V}{ps:List PV}(c:PR F ρ st.nx p v)(a:tW st p=some ps):BB F ρ st.nx ps v.cells:=by
 unfold tW at a;split at a
 ·cases a;obtain⟨cs,rfl,b⟩:=c;exact b
 grind [Yi,Pn,BB]
theorem Jp(b:SR B h0 F ρ st.nx st.ob h):∀ {ps:List PV} {vs:List V},ps.all (Kc st)=true->BB F ρ st.nx ps vs->vs.all V.one=true
 |[],vs,_,h=>by simp_all
 |p::ps,vs,a,h=>by
  obtain⟨v,vs,rfl,d,c⟩:=h;simp only[List.all_cons,zc]at a ⊢;exact⟨Pn b a.1 d,Jp b a.2 c⟩
theorem BB.Jc:∀ {a:List PV} {x:List V} {b:List PV} {y:List V},BB F ρ N a x->BB F ρ N b y->BB F ρ N (Jc a b) (Jc x y)
 |[],x,b,y,h,h'=>by subst h;exact h'
 |p::ps,x,b,y,h,h'=>by
  obtain⟨v,vs,rfl,e,c⟩:=h;cases b with
  |nil=>subst h';rfl
  |cons q f=>
   obtain⟨u,g,rfl,i,d⟩:=h';show BB F ρ N (p::Det.Jc ps f) (v::Det.Jc vs g);simp only[By];exact⟨e,c.Jc d⟩
theorem BB.Ce{a:List PV}{x:List V}(c:BB F ρ N a x):∀(n:Nat) {b:List PV} {y:List V},BB F ρ N b y->BB F ρ N (Ce n a b) (Ce n x y)
 |0,b,y,h=>c.Jc h
 |n+1,[],y,h=>by subst h;rfl
 |n+1,q::e,y,h=>by
  obtain⟨u,g,rfl,f,d⟩:=h;show BB F ρ N (q::yr n a e) (u::yr n x g);simp only[By];exact⟨f,BB.Ce c n d⟩
theorem Gk:∀(l:Ob) (i:Nat) (x:Obj) (j:Nat),(AK l i).isSome=true->AK (DE l i x) j=if j=i then some x else AK l j
 |[],i,x,j,h=>by cases h
 |(a,o)::l,i,x,j,h=>by
  simp only[DE,AK,Bj]at h ⊢;by_cases e:a=i
  ·subst e;simp only[decide_true,we,AK,Bj];grind
  ·simp only[e,decide_false,wg]at h ⊢;simp only[AK,Bj];by_cases b:a=j
   ·grind
   ·simp only[b,decide_false,wg];exact Gk l i x j h
theorem LM{b off:Nat}{vs cs:List V}{t:TypeId}{fz:Nat×Nat}(a:h.get b=some (.cells cs t fz))(e:off+vs.length<=cs.length)(d:fz.2<=fz.1)(c:vs.all V.one=true):
  wr h b off vs=some (h.put b<|.cells (Ce off vs cs) t fz):=by
 unfold wr;simp only[a,Dm,EU,c];simp_all [zp,Det.clear]
theorem SR.set(a:SR B h0 F ρ st.nx st.ob h){id b n:Nat}{o o':Obj}{x x':O}(A:st.obj id=some o)(u:ρ id=some (b,n))(Q:h.get b=some x)(S:o.frozen=false)(G:o'.frozen=false)
  (D:Vb F ρ st.nx n o' x'):SR B h0 F ρ st.nx (DE st.ob id o') (h.put b x'):=by
 have r:AK st.ob id=some o:=A;have s:F b=none:=by
  obtain⟨b',n',_,q,_,_,t,_⟩:=a.at A;grind
 have p:∀j,AK (DE st.ob id o') j=if j=id then some o' else AK st.ob j:=(by grind [Gk])
 refine⟨fun j oj d=>?_,fun i j oi oj c m M P d q t=>?_,fun c cs g=>?_,a.own,fun j d=>?_,fun c g w=>?_,fun c E g=>?_,a.le,a.fo,a.gl,fun c g=>?_⟩
 ·rw[p]at d;by_cases e:j=id
  ·subst e;simp only[wm,zh]at d;subst d;exact⟨b,n,x',u,by simp,D,fun _=>s,ah⟩
  ·rw[wc e]at d;obtain⟨c,m,y,q,t,I,R,J⟩:=a.obj j oj d;have f:c≠b:=fun K=>e<|a.inj j id oj o c m n d r q<|K▸u
   exact⟨c,m,y,q,by simp_all,I,R,J⟩
 ·have l:∀k ok,AK (DE st.ob id o') k=some ok->∃L,AK st.ob k=some L:=by
   grind
  obtain⟨_,z⟩:=l i oi P;obtain⟨_,v⟩:=l j oj d;exact a.inj i j _ _ c m M z v q t
 ·have f:c≠b:=ah;rw[H.Cn,wc f];exact a.frz c cs g
 ·rw[p]at d;by_cases e:j=id
  ·grind
  ·rw[wc e]at d;exact a.dead j d
 ·have f:c≠b:=Mp (a.own id b n u).2 g w;rw[H.Cn,wc f];exact a.old c g w
 ·rw[H.Cn]at g;by_cases e:c=b
  ·subst e;exact a.lt _ _ Q
  ·rw[wc e]at g;exact a.lt c E g
 ·obtain⟨z,v,T⟩:=a.pn c g;have f:c≠b:=ah;simp_all
def Bl(ρ:DH)(i:Nat)(x:Option (Nat×Nat)):DH:=fun j=>if j=i then x else ρ j
theorem Le.Ix(i:Nat):Le F ρ N F (Bl ρ i none) N:=⟨fun _ _ h=>h,(by grind [Bl]),zi _⟩
theorem Le.new(x:Nat×Nat):Le F ρ N F (Bl ρ N<|some x) (N+1):=⟨fun _ _ h=>h,fun id h=>by unfold Bl;grind,Nat.le_succ _⟩
theorem SR.push{ob:Ob}(a:SR B h0 F ρ N ob h){o:Obj}{x:O}{n:Nat}(V:o.frozen=false)(G:Vb F (Bl ρ N<|some (h.nx,n)) (N+1) n o x):
  SR B h0 F (Bl ρ N<|some (h.nx,n)) (N+1) ((N,o)::ob) (h.push x):=by
 have E:Le F ρ N F (Bl ρ N<|some (h.nx,n)) (N+1):=Le.new _;have f:∀j,AK ((N,o)::ob) j=if j=N then some o else AK ob j:=by
  simp only[AK,Bj];grind
 have z:∀b y,h.get b=some y->b≠h.nx:=fun b y l=>by have:=a.lt b y l;omega
 refine⟨fun j oj d=>?_,fun i j oi oj c m r D d q w=>?_,fun c cs g=>?_,fun id b m l=>?_,fun j d=>?_,fun c g U=>?_,fun c J g=>?_,?_,?_,a.gl,fun c g=>?_⟩
 ·rw[f]at d;by_cases e:j=N
  ·subst e;simp only[wm,zh]at d;subst d;refine⟨h.nx,n,x,by simp[Bl],by simp,G,fun _=>?_,ah⟩;cases g:F h.nx with
   |none=>rfl
   |some cs=>
    obtain⟨t,fz,S⟩:=a.frz _ _ g;grind
  ·rw[wc e]at d;obtain⟨c,m,y,q,w,L,T,P⟩:=a.obj j oj d;exact⟨c,m,y,by simp[Bl,e,q],by simp_all,L.mono E,T,P⟩
 ·rw[f]at D d;have key:∀k ok m,(if k=N then some o else AK ob k)=some ok->Bl ρ N (some (h.nx,n)) k=some (c,m)->(k=N/\c=h.nx)\/(k≠N/\AK ob k=some ok/\ρ k=some (c,m)/\c≠h.nx):=by
   intro k ok m u p;by_cases e:k=N
   ·simp_all [Bl]
   ·rw[wc e]at u;simp only[Bl,e,vf]at p;obtain⟨W,r,y,R,s,_⟩:=a.obj k ok u;grind
  rcases key i oi m D q with⟨K,v⟩|⟨K,v,Q,X⟩<;>rcases key j oj r d w with⟨I,A⟩|⟨I,A,M,Z⟩
  ·omega
  ·omega
  ·omega
  ·exact a.inj i j oi oj c m r v A Q M
 ·obtain⟨t,fz,S⟩:=a.frz c cs g;simp_all
 ·unfold Bl at l;split at l
  ·cases l;exact⟨ae,.inl a.le⟩
  ·have:=a.own id b m l;grind
 ·rw[f]at d;by_cases e:j=N
  ·grind
  ·rw[wc e]at d;simp[Bl,e,a.dead j d]
 ·have:=a.le;rw[H.Ci,wc ae];exact a.old c g U
 ·rw[H.Ci]at g;by_cases e:c=h.nx
  ·simp_all
  ·rw[wc e]at g;have:=a.lt c J g;show c<h.nx+1;omega
 ·have:=a.le;show B<=h.nx+1;omega
 ·exact a.fo
 ·obtain⟨R,s,Y⟩:=a.pn c g;refine⟨by simp_all,s,fun id m e=>?_⟩;unfold Bl at e;grind
theorem C3:∀(l:Ob) (i j:Nat),AK (Fq l i) j=if j=i then none else AK l j
 |[],i,j=>by simp[Fq,AK]
 |(a,o)::l,i,j=>by
  simp only[Fq,Bj];by_cases e:a=i
  ·subst e;simp only[decide_true,we];rw[C3 l a j];simp only[AK,Bj];grind
  ·simp only[e,decide_false,wg,AK,Bj];rw[C3 l i j];grind
theorem SR.del{ob:Ob}(d:SR B h0 F ρ N ob h)(id:Nat):SR B h0 F (Bl ρ id none) N (Fq ob id) h:=by
 have n:Le F ρ N F (Bl ρ id none) N:=Le.Ix id;refine⟨fun j oj a=>?_,fun i j oi oj c m p g a l f=>?_,d.frz,fun j b m k=>?_,fun j a=>?_,d.old,d.lt,d.le,d.fo,d.gl,fun c r=>?_⟩
 ·rw[C3]at a;split at a
  ·cases a
  ·rename_i e;obtain⟨c,m,y,l,f,t,s⟩:=d.obj j oj a;exact⟨c,m,y,by simp[Bl,e,l],f,t.mono n,s⟩
 ·rw[C3]at g a;split at g
  ·cases g
  split at a
  ·cases a
  rename_i q o;simp only[Bl,q,o,vf]at l f;exact d.inj i j oi oj c m p g a l f
 ·unfold Bl at k;split at k
  ·cases k
  ·exact d.own j b m k
 ·rw[C3]at a;unfold Bl;split
  ·rfl
  ·rename_i e;rw[wc e]at a;exact d.dead j a
 ·obtain⟨v,u,w⟩:=d.pn c r;grind [Bl]
theorem SR.kill{ob:Ob}(a:SR B h0 F ρ N ob h){b:Nat}(t:∀id o n,AK ob id=some o->ρ id≠some (b,n))(r:F b=none)(p:h0.Xd B b)(s:b∉h0.pin):SR B h0 F ρ N ob (h.kill b):=by
 refine⟨fun j oj q=>?_,a.inj,fun c cs d=>?_,a.own,a.dead,fun c d e=>?_,fun c k d=>?_,a.le,a.fo,a.gl,fun c d=>?_⟩
 ·obtain⟨c,m,y,f,i,g⟩:=a.obj j oj q;have:c≠b:=ah;exact⟨c,m,y,f,by simp_all,g⟩
 ·have:c≠b:=ah;rw[H.De,wc this];exact a.frz c cs d
 ·have:c≠b:=Mp p d e;rw[H.De,wc this];exact a.old c d e
 ·rw[H.De]at d;split at d
  ·cases d
  ·exact a.lt c k d
 ·obtain⟨f,i,g⟩:=a.pn c d;have l:c≠b:=ah;simp_all
theorem Cm{s a:Sh}{x:s.T}{y:a.T}(h:Ex s a x=some y):∃e:s=a,e▸x=y:=by
 simp_all [Ex]
theorem Ft{s:Sh}{p:PV}{x:s.T}{v:V}(b:PR F ρ N p v)(a:oJ s p=some x):DC F s x [v]:=by
 unfold oJ at a;split at a
 ·unfold asP at a;split at a
  ·obtain⟨rfl,rfl⟩:=Cm a;simp_all [PR,DC]
  grind
 ·obtain⟨rfl,rfl⟩:=Cm a;simpa only[PR]using b
 ·obtain⟨rfl,rfl⟩:=Cm a;grind [PR,DC]
 ·obtain⟨rfl,rfl⟩:=Cm a;simp_all [PR,DC]
 ·obtain⟨rfl,rfl⟩:=Cm a;grind [PR,DC]
 ·split at a
  ·grind [PR,DC]
  ·grind [PR,DC]
  grind
 grind
theorem Hi:∀ {s:Sh} {ps:List PV} {vs:List V} {x:s.T} {e:List PV},BB F ρ N ps vs->Co s ps=some (x,e)->∃a b,vs=a++b/\DC F s x a/\BB F ρ N e b
 | .pair s t,ps,vs,x,e,g,f=>by
  unfold Co at f;split at f
  case h_2=>cases f
  rename_i y q j;split at f
  case h_2=>cases f
  rename_i z n i;cases f;obtain⟨a,b,rfl,o,m⟩:=Hi g j;obtain⟨c,d,rfl,g3,g4⟩:=Hi m i;exact⟨a++c,d,by simp,by simp only[DC];grind,g4⟩
 | .unit,ps,vs,x,e,g,f=>by
  cases f;exact⟨[],vs,rfl,by simp[DC],g⟩
 | .int k,[],vs,x,e,g,f=>by simp[Co]at f
 | .bool,[],vs,x,e,g,f=>by simp[Co]at f
 | .str,[],vs,x,e,g,f=>by simp[Co]at f
 | .list s,[],vs,x,e,g,f=>by simp[Co]at f
 | .nlist s,[],vs,x,e,g,f=>by simp[Co]at f
 | .fnv,[],vs,x,e,g,f=>by simp[Co]at f
 | .ptr _,[],vs,x,e,g,f=>by simp[Co]at f
 | .int k,p::ps,vs,x,e,g,f=>by
  obtain⟨v,vs,rfl,j,i⟩:=g;simp only[Co]at f;split at f
  ·rename_i y l;cases f;exact⟨[v],vs,rfl,Ft j l,i⟩
  grind
 | .bool,p::ps,vs,x,e,g,f=>by
  obtain⟨v,vs,rfl,j,i⟩:=g;simp only[Co]at f;split at f
  ·rename_i y l;cases f;exact⟨[v],vs,rfl,Ft j l,i⟩
  grind
 | .str,p::ps,vs,x,e,g,f=>by
  obtain⟨v,vs,rfl,j,i⟩:=g;simp only[Co]at f;split at f
  ·rename_i y l;cases f;exact⟨[v],vs,rfl,Ft j l,i⟩
  grind
 | .list s,p::ps,vs,x,e,g,f=>by
  obtain⟨v,vs,rfl,j,i⟩:=g;simp only[Co]at f;split at f
  ·rename_i y l;cases f;exact⟨[v],vs,rfl,Ft j l,i⟩
  grind
 | .fnv,p::ps,vs,x,e,g,f=>by
  obtain⟨v,vs,rfl,j,i⟩:=g;simp only[Co]at f;split at f
  ·rename_i y l;cases f;exact⟨[v],vs,rfl,Ft j l,i⟩
  grind
 | .ptr s,p::ps,vs,x,e,g,f=>by
  obtain⟨v,vs,rfl,j,i⟩:=g;simp only[Co]at f;split at f
  ·rename_i y l;cases f;exact⟨[v],vs,rfl,Ft j l,i⟩
  grind
 | .nlist s,p::ps,vs,x,e,g,f=>by
  obtain⟨v,vs,rfl,j,i⟩:=g;simp only[Co]at f;split at f
  ·rename_i y l;cases f;exact⟨[v],vs,rfl,Ft j l,i⟩
  grind
theorem CA{s:Sh}{ps:List PV}{vs:List V}{x:s.T}(d:BB F ρ N ps vs)(c:DJ s ps=some x):DC F s x vs:=by
 unfold DJ at c;split at c
 ·rename_i y e;obtain⟨a,b,rfl,g,f⟩:=Hi d e;simp_all
 grind
theorem RP{v:V}:∀(vs cs:List V) (off:Nat),v∈Gv cs off vs->v∈vs\/v∈cs
 |[],cs,off,h=>.inr h
 |u::vs,cs,off,h=>by
  rcases RP vs _ _ h with h|h
  ·grind
  grind
theorem Sj{v:V}{vs cs:List V}{off:Nat}(h:v∈yr off vs cs):v∈vs\/v∈cs:=by
 grind [IF,RP]
theorem GA{cs vs:List V}{off:Nat}(a:off+vs.length<=cs.length)(j:Nat):(Ce off vs cs)[j]?=if off<=j/\j<off+vs.length then vs[j-off]? else cs[j]?:=by
 grind [IF,OT]
theorem YH{cs vs:List V}{off:Nat}:(Ce off vs cs).length=cs.length:=by
 grind [IF,HA]
theorem sL{cs vs:List V}{m off k:Nat}(c:off+vs.length<=k)(b:m+k<=cs.length):((Ce (m+off) vs cs).drop m).take k=Ce off vs ((cs.drop m).take k):=by
 apply z6;intro j;rw[GA ah];by_cases a:j<k
 ·rw[zw a,yf,GA ae];grind
 grind
theorem kU{cs vs:List V}{m p k:Nat}(c:p+vs.length<=m\/m+k<=p)(b:p+vs.length<=cs.length):((Ce p vs cs).drop m).take k=(cs.drop m).take k:=by
 apply z6;intro j;by_cases a:j<k
 ·rw[zw a,zw a,yf,yf,GA b,wc ae]
 grind
theorem Dc.set{s:Sh}{l:List s.T}{cs vs:List V}{j off:Nat}{y:s.T}(a:Dc F s l cs)(d:j<l.length)(c:off+vs.length<=s.sz)(k:DC F s y (Ce off vs<|(cs.drop<|j*s.sz).take s.sz)):
  Dc F s (l.set j y) (Ce (j*s.sz+off) vs cs):=by
 have g:j*s.sz+s.sz<=cs.length:=by
  rw[a.1, <-zu];exact zg _ d
 refine⟨by rw[YH,List.length_set];exact a.1,fun i f=>?_⟩;have b:i<l.length:=ah
 by_cases e:i=j
 ·simp_all [sL]
 ·rw[List.getElem_set_ne ae,kU ?_ ae]
  ·exact a.2 i b
  ·rcases Nat.lt_or_gt_of_ne e with h1|h1
   ·have:(i+1)*s.sz<=j*s.sz:=zg _ h1;grind
   ·have:(j+1)*s.sz<=i*s.sz:=zg _ h1;grind
theorem IK{s:Sh}:∀ {n:Nat} {ps:List PV} {vs:List V} {l:List s.T},BB F ρ N ps vs->chunk s n ps=some l->vs.length=n*s.sz->l.length=n/\Dc F s l vs
 |0,ps,vs,l,d,c,g=>by
  cases c;simp_all [Dc]
 |n+1,ps,vs,l,d,c,g=>by
  unfold chunk at c;split at c
  case h_2=>cases c
  rename_i x e f;rw[zf]at c;obtain⟨l',m,rfl⟩:=c;obtain⟨a,b,rfl,h2,h3⟩:=Hi d f;have p:=h2.len;have k:b.length=n*s.sz:=ah
  obtain⟨j,o⟩:=IK h3 m k;refine⟨by simp[j],by grind,fun i q=>?_⟩;cases i with
  |zero=>
   grind
  |succ i=>
   grind [zu,Fa,Dc]
theorem cP{cs a:List V}(h:a.length=cs.length):yr 0 a cs=a:=by
 apply z6;simp_all [GA]
theorem iT(w:SR B h0 F ρ st.nx st.ob h){t:TypeId}{p q:PV}{a x:V}(G:PR F ρ st.nx p a)(Y:PR F ρ st.nx q x){v:PV}(d:(TO C.T st t p q).To v st'):
  ∃id,((∃off,p=.ptr id off)\/∃sz j off,p=.eptr id sz j off)/\OK B h0 F ρ st h [id] (YQ<|Hl C.T h t a x) v st':=by
 unfold TO at d;split at d
 case h_2=>simp at d
 rename_i i M L O;cases W:(ze (Det.ET M) i.size&&Det.Kb (Kc st) M)with
 |false=>simp_all
 |true=>
  rw[W]at d;simp only[zc]at W;obtain⟨R,I⟩:=W;rw[Dm]at R;rw[EU]at I;have g:=Mq w Y O;have r:x.cells.length=i.size:=by rw[<-g.len];simp_all
  have o:=Jp w I g;have A:ze x.cells.length i.size=true:=by simp_all
  simp only[we]at d;split at d
  case h_3=>simp at d
  case h_1=>
   rename_i id off;split at d
   case h_4=>simp_all
   case h_3=>
    rename_i tb ps u;cases k:zx (yb off i.size) (Det.ET ps)with
    |false=>simp_all
    |true=>
     rw[k]at d;simp only[we,BU]at d;obtain⟨rfl,rfl⟩:=d;obtain⟨b,n,y,h1,h2,⟨cs,fz,rfl,h4,h5,hbok⟩,hf,_⟩:=w.at u;simp only[PR]at G;obtain rfl:=G.2 b n h1;rw[Dm]at k;have m:off+x.cells.length<=cs.length:=by rw[<-h4.len,r];simp_all
     refine⟨id,(by simp),.tup [],_,F,ρ,.inr ⟨?_,rfl⟩,by simp[PR],w.set u h1 h2 rfl rfl (o':=.tbox tb<|yr off M ps) ⟨_,fz,rfl,g.Ce off h4,h5,(by grind [Sj,V.KL])⟩,Le.refl,rfl,rfl,zi _,fun c _=>?_⟩
     ·unfold Hl;simp only[L,A,we];rw[LM h2 m h5 o];rfl
     ·rw[H.Cn];grind
   case h_2=>
    rename_i e s l u;cases f:(ze off 0&&ze s.sz 1)with
    |false=>simp_all
    |true=>
     rw[f]at d;rw[zc]at f;have D:=zd f.1;have P:=zd f.2;subst D;simp only[we]at d;split at d
     case h_2=>simp_all
     rename_i y K;simp only[BV,w5]at d;obtain⟨E,rfl,rfl⟩:=d;obtain⟨b,n,z,h1,h2,⟨cs,fz,rfl,h4,h5,h6⟩,hf,_⟩:=w.at u;obtain rfl:=G.2 b n h1;have X:cs.length=x.cells.length:=by rw[h4.1,P,yo,r];exact E
     obtain⟨Z,k2⟩:=IK g K ah;have m:0+x.cells.length<=cs.length:=ae
     refine⟨id,(by simp),.tup [],_,F,ρ,.inr ⟨?_,rfl⟩,by simp[PR],w.set u h1 h2 rfl rfl (o':=.arr false e s y) ⟨yr 0 x.cells cs,fz,rfl,by grind [cP],h5,by omega⟩,Le.refl,rfl,rfl,zi _,fun c _=>?_⟩
     ·unfold Hl;simp only[L,A,we];rw[LM h2 m h5 o];rfl
     ·rw[H.Cn];grind
   rename_i ps u;cases k:zx (yb off i.size) (Det.ET ps)with
   |false=>simp_all
   |true=>
    rw[k]at d;obtain⟨rfl,rfl⟩:=d;obtain⟨b,n,y,h1,h2,⟨cs,te,fz,rfl,h4,h5,hbok⟩,hf,_⟩:=w.at u;obtain rfl:=G.2 b n h1;rw[Dm]at k;have m:off+x.cells.length<=cs.length:=by rw[<-h4.len,r];simp_all
    refine⟨id,(by simp),.tup [],_,F,ρ,.inr ⟨?_,rfl⟩,by simp[PR],w.set u h1 h2 rfl rfl (o':=.box<|yr off M ps) ⟨_,te,fz,rfl,g.Ce off h4,h5,(by grind [Sj,V.KL])⟩,Le.refl,rfl,rfl,zi _,fun c _=>?_⟩
    ·unfold Hl;simp only[L,A,we];rw[LM h2 m h5 o];rfl
    ·rw[H.Cn];grind
  case h_2=>
   rename_i id sz j off;split at d
   case h_2=>simp at d
   rename_i e s l u;cases f:(ze sz s.sz&&zx (yb off i.size) sz)with
   |false=>rw[f]at d;simp at d
   |true=>
    rw[f]at d;simp only[zc]at f;have U:=zd f.1;have D:=z7 f.2;subst U;simp only[we]at d;split at d
    case h_2=>simp at d
    rename_i y K;simp only[BV,w5]at d;obtain⟨E,rfl,rfl⟩:=d;obtain⟨b,n,z,h1,h2,⟨cs,fz,rfl,h4,h5,h6⟩,hf,_⟩:=w.at u;obtain rfl:=G.2 b n h1;rw[show l.getD j s.GN=l[j]from by simp[E]]at K;have S:=Cu (F:=F) (ρ:=ρ) (N:=st.nx)<|h4.2 j E;have Q:=CA (g.Ce off S) K;have J:=Dc.set h4 E ah Q;have m:j*s.sz+off+x.cells.length<=cs.length:=by
     have:j*s.sz+s.sz<=cs.length:=by rw[h4.1, <-zu];exact zg _ E
     grind
    refine⟨id,(by simp),.tup [],_,F,ρ,.inr ⟨?_,rfl⟩,by simp[PR],w.set u h1 h2 rfl rfl (o':=.arr false e s<|l.set j y) ⟨_,fz,rfl,J,h5,by grind⟩,Le.refl,rfl,rfl,zi _,fun c _=>?_⟩
    ·unfold Hl;simp only[L,A,we];rw[LM h2 m h5 o];rfl
    ·rw[H.Cn];grind
theorem CQ{k:IntKind}{n:Int}{v:V}(h:PR F ρ N (.dat (.int k) n) v):v=.int k n:=by simpa [PR,DC]using h
theorem Fb{s:Rd}{v:V}(h:PR F ρ N (.dat .str s) v):v=.str s:=by simpa [PR,DC]using h
theorem J7{b:Bool}{v:V}(h:PR F ρ N (.dat .bool b) v):v=.bool b:=by simpa [PR,DC]using h
theorem Nr{b:Bool}{v:V}(h:PR F ρ N (.bl b) v):v=.bool b:=by simpa [PR]using h
theorem C9(k:IntKind)(n:Int):PR F ρ N (.dat (.int k) n) (.int k n):=by rfl
theorem Ve(s:Rd):PR F ρ N (.dat .str s) (.str s):=by rfl
theorem Dn(b:Bool):PR F ρ N (.dat .bool b) (.bool b):=by rfl
theorem aN(b:Bool):PR F ρ N (.bl b) (.bool b):=by simp[PR]
theorem Hm{p:PV}{b:Bool}{v:V}(h:II p=some b)(a:PR F ρ N p v):v=.bool b:=by
 unfold II at h;grind [Nr,J7]
theorem xU(d:SR B h0 F ρ st.nx st.ob h){op:BinOp}{k:IntKind}{a b:Int}{v:PV}(c:(rR op k a b st).To v st'):OK B h0 F ρ st h [] (Bs h<|Ot op k a b) v st':=by
 unfold rR at c;split at c<;>simp only[KV,BU,BV,w5,vc]at c
 all_goals first
  |(obtain⟨rfl,rfl⟩:=c;exact OK.pure d rfl (C9 _ _))
  |(obtain⟨rfl,rfl⟩:=c;exact OK.pure d rfl (Dn _))
  |(obtain⟨e,rfl,rfl⟩:=c;simp_all [OK.pure,Ot,Bs,C9])
theorem zY(d:SR B h0 F ρ st.nx st.ob h){op:BinOp}{k:IntKind}{a b:Int}{v:PV}(c:(zI op k a b st).To v st'):OK B h0 F ρ st h [] (Bs h<|Yt op k a b) v st':=by
 unfold zI at c;split at c<;>simp only[KV,BV,w5]at c
 all_goals
  obtain⟨e,rfl,rfl⟩:=c;exact OK.pure d (by simp only[Yt,Int.not_lt.2 e,vf,Bs])<|C9 _ _
theorem xB(b:SR B h0 F ρ st.nx st.ob h){op:BinOp}{x y:Rd}{v:PV}(a:(qK op x y st).To v st'):OK B h0 F ρ st h [] (Bs h<|Sc op x y) v st':=by
 unfold qK at a;split at a<;>simp only[KV,BU,BV,w5]at a
 all_goals first
  |(obtain⟨rfl,rfl⟩:=a;exact OK.pure b rfl (Dn _))
  |(obtain⟨c,rfl,rfl⟩:=a;simp_all [OK.pure,Sc,Bs,Ve])
theorem Ph:∀ {ks:List FK} {ps o:List PV} {f e:List V} {r:Bool},BB F ρ N ps f->BB F ρ N o e->Gw ks ps o=some r->fit ks f=true/\fit ks e=true/\BH f e=some r
 |[],[],[],f,e,r,g,j,d=>by
  subst g j;simp only[Gw,zh]at d;subst d;exact⟨rfl,rfl,rfl⟩
 |[],_::_,_,f,e,r,g,j,d=>by simp[Gw]at d
 |[],[],_::_,f,e,r,g,j,d=>by simp[Gw]at d
 |k::ks,[],_,f,e,r,g,j,d=>by grind [Gw]
 |k::ks,_::_,[],f,e,r,g,j,d=>by grind [Gw]
 |k::ks,p::ps,q::o,f,e,r,g,j,d=>by
  obtain⟨x,f,rfl,i,s⟩:=g;obtain⟨y,e,rfl,hy1,hy2⟩:=j;have key:∀ {c:Bool},k.ok x=true->k.ok y=true->DI x y=some c->(Gw ks ps o).map (fun r=>c&&r)=some r->fit (k::ks) (x::f)=true/\fit (k::ks) (y::e)=true/\BH (x::f) (y::e)=some r:=by
   intro c w G O u;rw[zf]at u;obtain⟨P,J,rfl⟩:=u;obtain⟨g1,g2,g3⟩:=Ph s hy2 J;refine⟨by simp[fit,w,g1],by simp[fit,G,g2],?_⟩;have L:f.length=e.length:=by rw[<-QU g1, <-QU g2]
   cases c with
   |true=>simp_all [BH]
   |false=>simp_all [BH]
  unfold Gw at d;split at d
  case h_1=>grind
  case h_2=>
   rename_i t A D a v z b E n l m;cases l;cases m;cases M:(t==D&&t==z)with
   |false=>grind
   |true=>
    obtain rfl:=CQ i;obtain rfl:=CQ hy1;grind [FK.ok,DI]
  case h_3=>
   rename_i n l m;cases n;cases l;cases m;obtain rfl:=Fb i;obtain rfl:=Fb hy1;exact key rfl rfl (by rfl) d
  case h_4=>
   rename_i n l m;cases n;cases l;cases m;split at d
   case h_2=>cases d
   rename_i a b I K;obtain rfl:=Hm I i;obtain rfl:=Hm K hy1;exact key rfl rfl rfl d
  grind
theorem Vo(q:SR B h0 F ρ st.nx st.ob h){op:BinOp}{t e:TypeId}(k:C.T.und t=some (.slice e)){p:PV}{x:V}(d:PR F ρ st.nx p x){ng:Bool}{v:PV}(a:(Q4 st ng p).To v st'):
  (∀(_:x=.nili),False)/\∃b,Bm C.T t x .nils=some b/\PR F ρ st.nx v (.bool<|b !=ng)/\Jv C.T op t x .nils=(match op with| .eql=>(Bm C.T t x .nils).map fun b=>.bool b| .neq=>(Bm C.T t x .nils).map fun b=>.bool !b|_=>none)/\st'=st:=by
 have dq:∀ {x:V},x=.nils\/x=.esl\/x=.es0\/(∃b off len cap o,x=.sl b off len cap o)->Jv C.T op t x .nils=(match op with| .eql=>(Bm C.T t x .nils).map fun b=>.bool b| .neq=>(Bm C.T t x .nils).map fun b=>.bool !b|_=>none):=by
  rintro x (rfl|rfl|rfl|⟨b,off,len,cap,o,rfl⟩)<;>cases op<;>rfl
 have no:∀ {x:V},x=.esl\/x=.es0\/(∃b off len cap o,x=.sl b off len cap o)->Bm C.T t x .nils=some false:=by
  rintro x (rfl|rfl|⟨b,off,len,cap,o,rfl⟩)<;>simp[Bm,k]
 have yes:Bm C.T t .nils .nils=some true:=by simp[Bm,k]
 unfold Q4 at a;split at a
 case h_1=>
  simp only[BU]at a;obtain⟨rfl,rfl⟩:=a;simp only[PR]at d;subst d;exact⟨(by simp),true,yes,by simp[PR],dq<|.inl rfl,rfl⟩
 case h_2=>
  rename_i id sz off len cap;cases f:Hy (st.obj id)with
  |false=>rw[f]at a;simp at a
  |true=>
   rw[f]at a;simp only[we,BU]at a;obtain⟨rfl,rfl⟩:=a;obtain⟨o,ho⟩:=Ie f;obtain⟨b,n,_,h1,_⟩:=q.at ho;simp only[PR]at d;have:x=.esl\/x=.es0\/(∃b off len cap o,x=.sl b off len cap o):=by
    grind
   exact⟨ah,false,no this,by simp[PR],dq<|.inr this,rfl⟩
 case h_3=>
  rename_i s l;simp only[PR,DC]at d;obtain⟨u,i,d⟩:=d;obtain rfl:x=u:=ah
  have g:(decide (0<(l:List s.T).length)=true/\v=.bl ng/\st'=st)\/(v=.ub/\st'=st):=by
   generalize decide (0<(l:List s.T).length)=c at a;cases a with
   |tt a=>simp only[BU]at a;grind
   |ff a=>grind [BU]
  rcases g with⟨r,rfl,rfl⟩|⟨rfl,rfl⟩
  ·rcases d with⟨rfl,_⟩|⟨b,off,cap,o,m,rfl,_⟩
   ·grind
   ·exact⟨(by simp),false,ah,by simp[PR],ah,rfl⟩
  ·rcases d with⟨rfl,rfl|rfl|rfl⟩|⟨b,off,cap,o,m,rfl,_⟩
   ·exact⟨(by simp),true,yes,by simp[PR],dq<|.inl rfl,rfl⟩
   ·exact⟨(by simp),false,no<|.inl rfl,by simp[PR],ah,rfl⟩
   ·exact⟨(by simp),false,ah,by simp[PR],ah,rfl⟩
   ·exact⟨(by simp),false,ah,by simp[PR],ah,rfl⟩
 case h_4=>
  rename_i s l;simp only[BU]at a;obtain⟨rfl,rfl⟩:=a;simp only[PR,DC]at d;obtain⟨u,i,d⟩:=d;obtain rfl:x=u:=ah
  rcases d with⟨rfl,rfl⟩|⟨h0,b,off,cap,o,m,rfl,_⟩
  ·exact⟨(by simp),true,yes,by cases ng<;>simp[PR,DC],dq<|.inl rfl,rfl⟩
  ·have j:0<(l:List s.T).length:=ah;exact⟨(by simp),false,ah,by grind [PR,DC],ah,rfl⟩
 case h_5=>simp at a
theorem U7{o:Option Obj}(h:Hy o=true):∃x,o=some x:=by
 cases o with
 |none=>cases h
 |some x=>simp
theorem PU(z:SR B h0 F ρ st.nx st.ob h){t e:TypeId}{p q:PV}{x y:V}(k:C.T.und t=some (.pointer e))(f:PR F ρ st.nx p x)(g:PR F ρ st.nx q y){r:Bool}(d:ptrEq C.T e st p q=some r):
  Bm C.T t x y=some r/\x≠ .nili/\∀op,Jv C.T op t x y=(match op with| .eql=>(Bm C.T t x y).map .bool| .neq=>(Bm C.T t x y).map fun b=>.bool !b|_=>none):=by
 have live:∀ {id off:Nat} {v:V},PR F ρ st.nx (.ptr id off) v->Hy (st.obj id)=true->∃b n,ρ id=some (b,n)/\v=.ptr b off:=by
  intro id off v D c;obtain⟨o,A⟩:=U7 c;obtain⟨b,n,_,h1,_⟩:=z.at A;grind [PR]
 unfold ptrEq at d;split at d
 case h_5=>cases d
 case h_1=>
  cases d;subst f g;exact⟨by unfold Bm;rw[k],(by simp),fun op=>by cases op<;>rfl⟩
 case h_2=>
  rename_i id off;cases c:Hy (st.obj id)with
  |false=>grind
  |true=>
   rw[c]at d;cases d;obtain⟨b,n,_,rfl⟩:=live f c;subst g;exact⟨by unfold Bm;rw[k],(by simp),fun op=>by cases op<;>rfl⟩
 case h_3=>
  rename_i id off;cases c:Hy (st.obj id)with
  |false=>grind
  |true=>
   rw[c]at d;cases d;obtain⟨b,n,_,rfl⟩:=live g c;subst f;exact⟨by unfold Bm;rw[k],(by simp),fun op=>by cases op<;>rfl⟩
 case h_4=>
  rename_i a i b j;cases c:(ze a b&&Hy (st.obj a))with
  |false=>grind
  |true=>
   rw[c]at d;rw[zc]at c;have l:=zd c.1;subst l;split at d
   case h_2=>cases d
   rename_i u m;cases s:zt 0 u.size with
   |false=>grind
   |true=>
    rw[s]at d;cases d;rw[Nat.blt_eq]at s;obtain⟨b,n,w,rfl⟩:=live f c.2;obtain⟨b',n',g2,rfl⟩:=live g c.2;rw[w]at g2;cases g2;refine⟨?_,(by simp),fun op=>by cases op<;>rfl⟩;unfold Bm;rw[k];simp only[wm,m];rw[wd ae];congr 1;rw[Bj,Bool.eq_iff_iff];simp
theorem vO(f:SR B h0 F ρ st.nx st.ob h){op:BinOp}{t:TypeId}{z A:Operand}{p q:PV}{x y:V}(g:PR F ρ st.nx p x)(i:PR F ρ st.nx q y){v:PV}(c:(pM C.T op t p q st).To v st'):
  OK B h0 F ρ st h [] (Bs h<|Jd C.T op t z A x y) v st':=by
 have w:∀ {x y:V},(∀(e:x=.nili),False)->Jd C.T op t z A x y=Jv C.T op t x y:=by
  simp_all [Jd,mJ]
 unfold pM at c;split at c
 case h_1=>
  rename_i k a D b;obtain rfl:=CQ g;obtain rfl:=CQ i;rw[w<|by simp];cases j:lG op with
  |true=>
   rw[j]at c;have:=zY f c;unfold Jv;grind [lG]
  |false=>
   rw[j]at c;cases l:(k==D)with
   |false=>simp_all
   |true=>
    rw[l]at c;have:=xU f c;have l:=wk.1 l;subst l;unfold Jv;cases op<;>simp only[lG]at j<;>first|(cases j;done)|(simp only[wm];exact this)
 case h_2=>
  obtain rfl:=Fb g;obtain rfl:=Fb i;grind [xB,Jv]
 case h_3=>
  rename_i ps E;obtain⟨u,rfl,g⟩:=g;obtain⟨ys,rfl,i⟩:=i;split at c
  case h_2=>simp at c
  rename_i ks G;have eq:∀ {r:Bool},Gw ks ps E=some r->Bm C.T t (.agg u) (.agg ys)=some r:=by
   intro r d;obtain⟨M,L,O⟩:=Ph g i d;simp_all [Nz,Bm]
  split at c
  case h_1=>
   rename_i r d;obtain⟨rfl,rfl⟩:=c;exact OK.pure f (by show Bs h ((Bm C.T t (.agg u)<|.agg ys).map _)=_;rw[eq d];rfl)<|Dn _
  case h_2=>
   rename_i r d;obtain⟨rfl,rfl⟩:=c;exact OK.pure f (by show Bs h ((Bm C.T t (.agg u)<|.agg ys).map _)=_;rw[eq d];rfl) (Dn _)
  simp_all
 case h_4=>
  split at c
  case h_4=>simp at c
  case h_3=>
   split at c
   case h_3=>simp at c
   case h_1=>
    simp only[BU]at c;grind [PU,OK.pure,Bs,Jd,PR,Jv]
   case h_2=>
    simp only[BU]at c;grind [PU,OK.pure,Bs,Jd,PR,Jv]
  case h_2=>
   rename_i e _ _ m;unfold fT at c;split at c
   case h_3=>simp at c
   case h_1=>
    have j:=Vo (op:=.eql) f m g c;obtain⟨s,b,n,I,o,e⟩:=j;subst e;subst i;rw[w s,o];exact OK.pure f (v':=.bool b) (by simp only[n];rfl) (by simp_all)
   case h_2=>
    have j:=Vo (op:=.neq) f m g c;obtain⟨s,b,n,I,o,e⟩:=j;subst e;subst i;rw[w s,o];exact OK.pure f (v':=.bool<|!b) (by simp only[n];rfl) (by simp_all)
  rename_i a b J K m;obtain rfl:=Hm J g;obtain rfl:=Hm K i;have eq:Bm C.T t (.bool a) (.bool b)=some (a==b):=by unfold Bm;rw[m]
  split at c
  case h_1=>
   obtain⟨rfl,rfl⟩:=c;exact OK.pure f (by show Bs h ((Bm C.T t (.bool a)<|.bool b).map _)=_;rw[eq];rfl)<|Dn _
  case h_2=>
   obtain⟨rfl,rfl⟩:=c;exact OK.pure f (by show Bs h ((Bm C.T t (.bool a)<|.bool b).map _)=_;rw[eq];rfl) (Dn _)
  simp_all
theorem zL(c:SR B h0 F ρ st.nx st.ob h){op:UnOp}{p:PV}{x:V}(d:PR F ρ st.nx p x){v:PV}(a:(pun op p st).To v st'):OK B h0 F ρ st h [] (Bs h<|yT op x) v st':=by
 unfold pun at a;split at a<;>simp only[KV,BU]at a
 ·obtain⟨rfl,rfl⟩:=a;obtain rfl:=CQ d;exact OK.pure c rfl (C9 _ _)
 ·obtain⟨rfl,rfl⟩:=a;obtain rfl:=Nr d;exact OK.pure c rfl (aN _)
 ·obtain⟨rfl,rfl⟩:=a;obtain⟨b,rfl⟩:=d;exact OK.pure c (v':=.bool<|!b) rfl (by simp[PR])
 ·obtain⟨rfl,rfl⟩:=a;obtain rfl:=J7 d;exact OK.pure c rfl (Dn _)
theorem tU(c:SR B h0 F ρ st.nx st.ob h){s d:TypeId}{p:PV}{x:V}(b:PR F ρ st.nx p x){v:PV}(a:(eG C.T s d p st).To v st'):OK B h0 F ρ st h [] (Bs h<|E1 C.T h s d x) v st':=by
 unfold eG at a;split at a<;>simp only[KV,BU]at a
 ·obtain⟨rfl,rfl⟩:=a;obtain rfl:=CQ b;simp_all [OK.pure,E1,Bs,C9]
 ·obtain rfl:=Fb b;simp_all [OK.pure,E1,Bs]
theorem pL(e:SR B h0 F ρ st.nx st.ob h){c a b:PV}{x y z:V}(g:PR F ρ st.nx c x)(f:PR F ρ st.nx a y)(i:PR F ρ st.nx b z){v:PV}(d:(cG c a b st).To v st'):
  ∃t,x=.bool t/\OK B h0 F ρ st h [] (Bs h<|some<|if t then y else z) v st':=by
 unfold cG at d;split at d
 case h_3=>simp at d
 case h_1=>
  rename_i t;obtain⟨rfl,rfl⟩:=d;refine⟨t,Nr g,OK.pure e rfl ?_⟩;grind
 case h_2=>
  rename_i t;refine⟨t,J7 g,?_⟩;split at d
  case h_1=>
   obtain⟨rfl,rfl⟩:=d;obtain rfl:=Nr i;refine OK.pure e rfl ?_;grind [Dn]
  case h_2=>
   obtain⟨rfl,rfl⟩:=d;obtain rfl:=Nr f;refine OK.pure e rfl ?_;grind [Dn]
  case h_3=>
   cases d with
   |tt h=>obtain⟨rfl,rfl⟩:=h;exact OK.pure e rfl f
   |ff h=>obtain⟨rfl,rfl⟩:=h;exact OK.pure e rfl i
theorem iV(l:SR B h0 F ρ st.nx st.ob h){t:TypeId}{p:PV}{x:V}(d:PR F ρ st.nx p x){f:Nat}{v:PV}(a:(Uy C.T t p f st).To v st'):OK B h0 F ρ st h [] (Bs h<|JA C.T t x f) v st':=by
 unfold Uy at a;split at a
 case h_2=>simp at a
 split at a
 case h_2=>simp at a
 rename_i c k;split at a
 case h_2=>simp at a
 simp only[PL]at a;obtain⟨b,rfl⟩:=a;obtain⟨cs,rfl,hps⟩:=d;rw[Lp]at b;have j:=hps.drop c.offset;rcases Nd j b with⟨g,_,m,i⟩|⟨g,u,n,e,i⟩
 ·simp_all [OK.pure,JA,J1,Bs]
 ·have:cs[c.offset]?=some u:=by
   have:=wi (·[0]?) e;grind
  simp_all [OK.pure,JA,J1,Bs]
theorem iC(k:SR B h0 F ρ st.nx st.ob h){t:TypeId}{p:PV}{x:V}(l:PR F ρ st.nx p x){f:Nat}{v:PV}(a:(Uu C.T t p f st).To v st'):
  OK B h0 F ρ st h [] (Bs h<|Jt C.T t x f) v st':=by
 have live:∀ {id},Hy (st.obj id)=true->∃b n,ρ id=some (b,n):=by
  intro id m;obtain⟨o,u⟩:=Ie m;obtain⟨b,n,_,h1,_⟩:=k.at u;grind
 unfold Uu at a;split at a
 case h_2=>simp at a
 split at a
 case h_2=>simp at a
 rename_i q r;split at a
 case h_2=>simp at a
 rename_i i m;cases s:ze i.size 0 with
 |true=>simp_all
 |false=>
  have w:i.size≠0:=by intro e;simp_all
  rw[s]at a;have c:∀b off,Jt C.T t (.ptr b off) f=some (.ptr b<|off+q.offset):=by
   simp_all [Jt]
  split at a
  ·rename_i id off;cases g:Hy (st.obj id)with
   |false=>simp_all
   |true=>
   rw[g]at a;obtain⟨rfl,rfl⟩:=a;have d:=l;obtain⟨b,n,h1⟩:=live g;obtain rfl:=d.2 b n h1;refine OK.pure k (by rw[c];rfl) ?_;grind [PR]
  ·rename_i id sz j off;cases g:Hy (st.obj id)with
   |false=>simp_all
   |true=>
   rw[g]at a;obtain⟨rfl,rfl⟩:=a;have d:=l;obtain⟨b,n,h1⟩:=live g;obtain rfl:=d.2 b n h1;refine OK.pure k (by rw[c];rfl) ?_;grind [PR]
  ·obtain⟨rfl,rfl⟩:=a;obtain⟨b,o,cs,rfl,h1,h2⟩:=l;refine OK.pure k (by rw[c];rfl) ?_;grind [PR]
  simp_all
theorem SR.live(a:SR B h0 F ρ st.nx st.ob h){id:Nat}(c:Hy (st.obj id)=true):∃b n,ρ id=some (b,n):=by
 obtain⟨o,d⟩:=Ie c;obtain⟨b,n,_,h1,_⟩:=a.at d;grind
theorem DL{i:Int}(h:0<=i):∃n:Nat,i=yt n/\i.toNat=n:=ah
theorem Dk{a b:Nat}(h:a<b):zt a b=true:=zp h
theorem YX(g:SR B h0 F ρ st.nx st.ob h){t:TypeId}{p q:PV}{x y:V}(z:PR F ρ st.nx p x)(K:PR F ρ st.nx q y){v:PV}(a:(QM C.T t p q st).To v st'):
  OK B h0 F ρ st h [] (Bs h<|ED C.T t x y) v st':=by
 unfold QM at a;split at a
 case h_3=>simp at a
 case h_2=>
  rename_i M e k i W;obtain rfl:=CQ K;split at a
  case h_2=>simp at a
  rename_i f I;split at a
  case h_4=>simp at a
  case h_1=>
   rename_i id off;simp only[PR]at z;split at a
   case h_3=>simp_all
   case h_1=>
    rename_i P U s l J;cases w:(ze off 0&&ze f.size s.sz)with
    |false=>simp_all
    |true=>
     rw[w]at a;rw[zc]at w;have D:=zd w.1;have O:=zd w.2;subst D;simp only[we,BV,zc,w5]at a;obtain⟨⟨c,d⟩,rfl,rfl⟩:=a;obtain⟨n,rfl,hn⟩:=DL c;obtain⟨b,m,_,A,_⟩:=g.at J;refine OK.pure g (v':=.ptr b<|0+n*f.size) ?_ ?_
     ·simp_all [Bs,ED,Dk]
     simp_all [PR]
   case h_2=>
    rename_i o _ J;simp only[BV,zc,w5]at a;obtain⟨⟨c,d⟩,rfl,rfl⟩:=a;obtain⟨n,rfl,hn⟩:=DL c;obtain⟨b,m,_,A,_⟩:=g.at J;refine OK.pure g (v':=.ptr b<|off+n*f.size) ?_ ?_
    ·simp_all [Bs,ED,Dk]
    grind [PR]
  case h_2=>
   rename_i id sz j off;cases G:Hy (st.obj id)with
   |false=>simp_all
   |true=>
    rw[G]at a;simp only[we,BV,zc,w5]at a;obtain⟨⟨c,d⟩,rfl,rfl⟩:=a;obtain⟨n,rfl,hn⟩:=DL c;obtain⟨b,m,A⟩:=g.live G;simp only[PR]at z;refine OK.pure g (v':=.ptr b<|j*sz+off+n*f.size) ?_ ?_
    ·simp_all [Bs,ED,Dk]
    grind [PR]
  case h_3=>
   rename_i s y off;simp only[BV,zc,w5]at a;obtain⟨⟨c,d⟩,rfl,rfl⟩:=a;obtain⟨n,rfl,hn⟩:=DL c;obtain⟨b,o,cs,rfl,A,L,Q⟩:=z;refine OK.pure g (v':=.ptr b<|o+off+n*f.size) ?_ ?_
   ·simp_all [Bs,ED,Dk]
   grind [PR]
 case h_1=>
 obtain rfl:=CQ K;split at a
 case h_2=>simp at a
 rename_i f I;split at a
 case h_3=>simp at a
 case h_1=>
  rename_i s l;cases r:ze f.size s.sz with
  |false=>simp_all
  |true=>
   rw[r]at a;have r:=zd r;simp only[we,BV,zc,w5]at a;obtain⟨⟨c,d⟩,rfl,rfl⟩:=a;obtain⟨n,rfl,hn⟩:=DL c;have E:n<l.length:=ah
   obtain⟨u,R,z⟩:=z;rcases z with⟨rfl,_⟩|⟨b,off,cap,o,S,rfl,A,L,Q,_,Y⟩
   ·grind
   ·refine OK.pure g (v':=.ptr b<|off+n*f.size) ?_ ?_
    ·simp_all [Bs,ED,Dk]
    ·refine⟨b,off+n*s.sz,S,by grind,L,?_,?_⟩
     ·have:(n+1)*s.sz<=l.length*s.sz:=zg _ E;grind
     grind
 case h_2=>
  rename_i id sz off len cap;cases r:(ze f.size sz&&Hy (st.obj id))with
  |false=>simp_all
  |true=>
   rw[r]at a;simp only[zc]at r;obtain⟨r,G⟩:=r;have r:=zd r;simp only[we,BV,zc,w5]at a;obtain⟨⟨c,d⟩,rfl,rfl⟩:=a;obtain⟨n,rfl,hn⟩:=DL c;have E:n<len:=ah
   obtain⟨b,m,A⟩:=g.live G;rcases z.2 b m A with⟨_,_,o,_,rfl⟩|⟨X,_⟩
   ·refine OK.pure g (v':=.ptr b<|off*sz+n*f.size) ?_ ?_
    ·simp_all [Bs,ED,Dk]
    grind [PR]
   ·omega
theorem mM(G:SR B h0 F ρ st.nx st.ob h){t:TypeId}{p q:PV}{x y:V}(j:PR F ρ st.nx p x)(m:PR F ρ st.nx q y){v:PV}(a:(U6 C.T t p q st).To v st'):
  OK B h0 F ρ st h [] (Bs h<|H6 C.T t x y) v st':=by
 unfold U6 at a;split at a
 case h_3=>simp at a
 case h_2=>
  rename_i l e ps k i D;obtain rfl:=CQ m;split at a
  case h_2=>simp at a
  rename_i d f E o;simp only[Ud,zc,w5]at a;obtain⟨⟨b,g⟩,c,rfl⟩:=a;obtain⟨n,rfl,hn⟩:=DL b;obtain⟨cs,rfl,hps⟩:=j;rw[Lp,hn]at c;have w:=hps.drop<|n*f.size;have A:H6 C.T t (.agg cs) (.int k<|yt n)=J1 C.T e cs (n*f.size):=by simp_all [H6,Dk]
  rcases Nd w c with⟨r,_,_,s⟩|⟨r,u,I,z,s⟩
  ·simp_all [OK.pure,J1,Bs]
  ·have:cs[n*f.size]?=some u:=by
    have:=wi (·[0]?) z;grind
   simp_all [OK.pure,J1,Bs]
 case h_1=>
 obtain rfl:=Fb j;obtain rfl:=CQ m;simp only[BV,zc,w5]at a;obtain⟨⟨b,g⟩,rfl,rfl⟩:=a;obtain⟨n,rfl,hn⟩:=DL b;simp_all [OK.pure,Bs,H6,C9]
theorem X5(e:SR B h0 F ρ st.nx st.ob h){p:PV}{x:V}(d:PR F ρ st.nx p x){i:Nat}{v:PV}(a:(Of p i st).To v st'):OK B h0 F ρ st h [] (Bs h<|Gu x i) v st':=by
 unfold Of at a;split at a
 case h_2=>simp at a
 split at a
 case h_2=>simp at a
 rename_i q c;simp only[BU]at a;obtain⟨cs,rfl,b⟩:=d;obtain⟨u,h1,h2⟩:=b.get c;grind [OK.pure,Gu,Bs]
def Tw(F:Fz)(ρ:DH)(N:Nat):Option PV->Option V->Prop
 |none,x=>x=none
 |some p,x=>∃v,x=some v/\PR F ρ N p v
theorem Dw{o:Option PV}{x:Option V}{d:Nat}{c:Bool}{n:Nat}(b:Tw F ρ N o x)(a:pb o d=some (c,n))(f:c=true){y:Nat}(g:n<=y):Iq x y d=some n:=by
 unfold pb at a;split at a
 ·cases a;subst b;rfl
 ·obtain⟨v,rfl,e⟩:=b;obtain rfl:=CQ e;grind [zp,Iq]
 grind
theorem Tw.isNone{o:Option PV}{x:Option V}(a:Tw F ρ N o x):(o=none↔x=none):=by
 cases o with
 |none=>grind [Tw]
 |some p=>simp only[Tw]at a;grind
theorem Lg{T:BP}{t e:TypeId}{d:TI}{b off len cap o m a l:Nat}{f c mx:Option V}(n:T.und t=some (.slice e))(g:T.inf e=some d)(k:Iq mx cap cap=some m)(p:Iq c m len=some a)
  (j:Iq f a 0=some l) (i:c=none->mx=none):
  Dt T t (.sl b off len cap o) f c mx=bif ze m l then(bif ze (K9 mx o) 0 then some (.sl b off (a-l) (m-l) 0)else some .esl)
   else bif ze (K9 mx o) 0||ze (K9 mx o) d.size then some (.sl b (off+l*d.size) (a-l) (m-l)<|K9 mx o)else none:=by
 simp_all [Dt]
theorem bW(w:SR B h0 F ρ st.nx st.ob h){t:TypeId}{p:PV}{x:V}{lo hi mx:Option PV}{a b c:Option V}(J:PR F ρ st.nx p x)(G:Tw F ρ st.nx lo a)(j:Tw F ρ st.nx hi b)(k:Tw F ρ st.nx mx c)
  {v:PV} (d:(Ru C.T t p lo hi mx st).To v st'):OK B h0 F ρ st h [] (Bs h<|Dt C.T t x a b c) v st':=by
 unfold Ru at d;split at d
 case h_3=>simp at d
 case h_1=>
  rename_i hu;split at d
  case h_2=>simp at d
  rename_i s;obtain rfl:=Fb J;split at d
  case h_2=>simp at d
  rename_i c1 l c2 n f g;simp only[BV,zc,w5]at d;obtain⟨⟨⟨⟨I,E⟩,L⟩,D⟩,rfl,rfl⟩:=d;simp only[Tw]at k;subst k;have R:=Dw G f I L;have y:=Dw j g E D;simp_all [OK.pure,Dt,Bs,Ve]
 case h_2=>
  rename_i e hu;split at d
  case h_2=>simp at d
  rename_i P Q;split at d
  case h_4=>simp at d
  case h_1=>
   rename_i s xs;cases A:ze P.size s.sz with
   |false=>simp_all
   |true=>
    rw[A]at d;have A:=zd A;simp only[we]at d;split at d
    case h_2=>simp at d
    rename_i c1 l c2 n f g;simp only[BV,zc,w5]at d;obtain⟨⟨⟨⟨I,E⟩,L⟩,D⟩,rfl,rfl⟩:=d;simp only[Tw]at k;subst k;have R:=Dw G f I L;simp only[PR,DC]at J;obtain⟨u,hu1,J⟩:=J;obtain rfl:x=u:=ah
    rcases J with⟨rfl,rfl|rfl|rfl⟩|⟨S,off,cap,o,bs,rfl,h1,h2,h3,h5,h4⟩
    ·have y:=Dw j g E D;simp only[ym]at y D;refine OK.pure w (v':=.nils) (by simp_all [Dt,Iq,aZ,Bs]) ?_;simp[PR,DC]
    ·have y:=Dw j g E D;simp only[ym]at y D;refine OK.pure w (v':=.esl) (by simp_all [Dt,Iq,aZ,Bs,Ov]) ?_;simp[PR,DC]
    ·have y:=Dw j g E D;simp only[ym]at y D;refine OK.pure w (v':=.es0) (by simp_all [Dt,Iq,aZ,Bs]) ?_;simp[PR,DC]
    ·have y:Iq b cap xs.length=some n:=(by grind [Dw]);have r:=Lg (b:=S) (off:=off) (len:=xs.length) (cap:=cap) (o:=o) (mx:=none) hu Q rfl y R (fun _=>rfl);have M:((xs.drop l).take<|Nat.sub n l).length=n-l:=by
      grind
     by_cases X:cap=l
     ·have hhl:n=l:=ae
      have U:(xs.drop l).take (Nat.sub n l)=[]:=by
       grind
      rw[U];by_cases K:o=0
      ·refine OK.pure w (v':=.sl S off (n-l) (cap-l) 0) ?_ ?_
       ·have:K9 none o=0:=K;rw[r,this,X,yj];rfl
       ·simp only[PR,DC];exact⟨_,rfl,.inr ⟨S,off,cap-l,0,bs,by grind,by simp,h2,by grind,.inl rfl,(by simp)⟩⟩
      ·refine OK.pure w (v':=.esl) ?_ ?_
       ·have h1:ze (K9 none o) 0=false:=by rw[Bj];simp[K9,K]
        rw[r,h1,X,yj];rfl
       ·simp[PR,DC]
     ·refine OK.pure w (v':=.sl S (off+l*P.size) (n-l) (cap-l) o) ?_ ?_
      ·have f:ze cap l=false:=by rw[Bj];grind
       have K:(ze (K9 none o) 0||ze (K9 none o) P.size)=true:=by
        rcases h5 with rfl|rfl
        ·rfl
        ·rw[A];show(ze s.sz 0||ze s.sz s.sz)=true;simp
       rw[r,f,K];rfl
      ·simp only[PR,DC];refine⟨_,rfl,.inr ⟨S,off+l*P.size,cap-l,o,bs,by rw[M],by omega,h2,?_,h5,fun i hi=>?_⟩⟩
       ·rw[M,A];have:(l+(n-l))*s.sz<=xs.length*s.sz:=zg _ ae;grind
       grind
  case h_2=>
   rename_i id sz off len cap;cases A:(ze P.size sz&&Hy (st.obj id))with
   |false=>rw[A]at d;simp at d
   |true=>
    rw[A]at d;simp only[zc]at A;obtain⟨A,hl⟩:=A;have A:=zd A;simp only[we]at d;have hno:¬(hi=none/\mx≠none):=by
     rintro⟨rfl,hm⟩;cases mx with
     |none=>grind
     |some _=>simp at d
    split at d
    case h_1=>grind
    split at d
    case h_2=>simp at d
    rename_i c1 l c2 n c3 m f g O;simp only[BV,zc,w5]at d;obtain⟨⟨⟨⟨⟨⟨⟨I,E⟩,L⟩,D⟩,k5⟩,k6⟩,k7⟩,rfl,rfl⟩:=d;have R:=Dw G f I D;have e3:=Dw k O L k6;have y:=Dw j g E k5;have hno':b=none->c=none:=by
     intro hbn;cases hcc:c with
     |none=>rfl
     |some z=>
      exfalso;apply hno;exact⟨j.isNone.2 hbn,fun e=>by have:=k.isNone.1 e;grind⟩
    obtain⟨Z,n0,h1⟩:=w.live hl;simp only[PR]at J;rcases J.2 Z n0 h1 with⟨g1,g2,o,g3,rfl⟩|⟨rfl,rfl,g2,g3⟩
    ·have r:=Lg (b:=Z) (off:=off*sz) (len:=len) (cap:=cap.getD len) (o:=o) hu Q e3 y R hno';have hoz:K9 c o=0\/K9 c o=sz:=by
      unfold K9;grind
     by_cases W:m=l
     ·have hhl:n-l=0:=ae
      by_cases K:K9 c o=0
      ·refine OK.pure w (v':=.sl Z (off*sz) (n-l) (m-l) 0) ?_ ?_
       ·rw[r,K,W,yj];rfl
       ·unfold PR;grind
      ·refine OK.pure w (v':=.esl) ?_ ?_
       ·have hb0:ze (K9 c o) 0=false:=by rw[Bj];simp[K]
        rw[r,hb0,W,yj];rfl
       ·unfold PR;grind
     ·refine OK.pure w (v':=.sl Z (off*sz+l*P.size) (n-l) (m-l)<|K9 c o) ?_ ?_
      ·have f:ze m l=false:=by rw[Bj];grind
       have K:(ze (K9 c o) 0||ze (K9 c o) P.size)=true:=by
        simp_all
       rw[r,f,K];rfl
      grind [PR,Nat.add_mul]
    ·simp only[Option.getD_some]at k6 k7 e3;obtain rfl:m=0:=ae
     obtain rfl:n=0:=ae
     obtain rfl:l=0:=ae
     have hc:c=none:=by
      cases mx with
      |none=>exact k
      |some _=>simp[has]at k7
     subst hc;rcases g3 with rfl|⟨Y,rfl,g4⟩
     ·refine OK.pure w (v':=.esl) (by simp_all [Dt,aZ,Bs,Ov]) ?_;simp_all [PR]
     ·refine OK.pure w (v':=.sl Z Y 0 0 0) ?_ ?_
      ·rw[Lg (mx:=none) hu Q rfl y R (fun _=>rfl)];rfl
      simp_all [PR]
  case h_3=>
   split at d
   case h_3=>simp at d
   case h_2=>
    rename_i c1 l c2 n q f g;split at d
    case h_2=>simp at d
    rename_i p' c3 m O;simp only[BV,zc,w5]at d;obtain⟨⟨⟨⟨⟨⟨I,E⟩,k5⟩,L⟩,D⟩,k6⟩,rfl,rfl⟩:=d;have R:=Dw G f I L;have y:=Dw j g E ae;have e3:=Dw k O k5 k6;simp only[PR]at J;cases b with
    |none=>simp[Tw]at j
    |some b=>exact OK.pure w (v':=.nils) (by simp_all [Dt,aZ,Bs]) (by simp[PR])
   rename_i c1 l c2 n f g;simp only[BV,zc,w5]at d;obtain⟨⟨⟨⟨I,E⟩,L⟩,D⟩,rfl,rfl⟩:=d;simp only[Tw]at k;have R:=Dw G f I L;have y:=Dw j g E D;simp only[PR]at J;exact OK.pure w (v':=.nils) (by simp_all [Dt,Iq,aZ,Bs]) (by simp[PR])
theorem mK(a:SR B h0 F ρ st.nx st.ob h){t:TypeId}{p q:PV}{x y:V}(c:PR F ρ st.nx p x)(d:PR F ρ st.nx q y){v:PV}(b:(cX C.T t p q st).To v st'):
  OK B h0 F ρ st h [] (Bs h<|ED C.T t x y) v st':=YX a c.lz d b
theorem jP(j:SR B h0 F ρ st.nx st.ob h){t:TypeId}{p:PV}{x:V}{i g mx:Option PV}{a b c:Option V}(l:PR F ρ st.nx p x)(f:Tw F ρ st.nx i a)(e:Tw F ρ st.nx g b)(d:Tw F ρ st.nx mx c)
  {v:PV} (k:(fV C.T t p i g mx st).To v st'):OK B h0 F ρ st h [] (Bs h<|Dt C.T t x a b c) v st':=bW j l.lz f e d k
theorem MR.len{ks vs:Sh}{l:List (ks.T×vs.T)}{es:List (V×V×Nat)}(h:MR F ks vs l es):l.length=es.length:=by
 induction h with
 |nil=>rfl
 |cons _ _ _ a=>simp[a]
theorem qM(e:SR B h0 F ρ st.nx st.ob h){ts:Array TypeId}{ps:List PV}{i:List V}(f:BB F ρ st.nx ps i){v:PV}(c:(Sr C.T ts ps st).To v st'):OK B h0 F ρ st h [] (Bs h<|E6 C.T h ts i) v st':=by
 unfold Sr at c;split at c
 case h_2=>simp at c
 rename_i t p a;obtain⟨x,j,rfl,f,rfl⟩:=f;split at c
 case h_6=>simp at c
 case h_1=>
  rename_i s d;obtain⟨rfl,rfl⟩:=c;obtain rfl:=Fb f;exact OK.pure e (by simp only[E6,a,d,Bs];rfl)<|C9 _ _
 case h_2=>
  rename_i s l d;obtain⟨rfl,rfl⟩:=c;obtain⟨u,hu1,f⟩:=f;obtain rfl:x=u:=ah
  rcases f with⟨rfl,rfl|rfl|rfl⟩|⟨b,off,cap,o,m,rfl,_⟩
  ·exact OK.pure e (by simp only[E6,a,d,Bs];rfl)<|C9 _ _
  ·exact OK.pure e (by simp only[E6,a,d,Bs];rfl)<|C9 _ _
  ·exact OK.pure e (by simp only[E6,a,d,Bs];rfl)<|C9 _ _
  ·exact OK.pure e (by simp only[E6,a,d,Bs];rfl)<|C9 _ _
 case h_3=>
  rename_i id sz off len cap d;cases g:Hy (st.obj id)with
  |false=>simp_all
  |true=>
   rw[g]at c;obtain⟨rfl,rfl⟩:=c;obtain⟨b,n,h1⟩:=e.live g;rcases f.2 b n h1 with⟨_,_,o,_,rfl⟩|⟨rfl,_,_,rfl|⟨_,rfl,_⟩⟩
   ·exact OK.pure e (by simp only[E6,a,d,Bs];rfl)<|C9 _ _
   ·exact OK.pure e (by simp only[E6,a,d,Bs];rfl)<|C9 _ _
   ·exact OK.pure e (by simp only[E6,a,d,Bs];rfl)<|C9 _ _
 case h_4=>
  rename_i d;obtain⟨rfl,rfl⟩:=c;subst f;exact OK.pure e (by simp only[E6,a,d,Bs];rfl)<|C9 _ _
 case h_5=>
  split at c
  case h_2=>simp at c
  rename_i ks vs l k;obtain⟨rfl,rfl⟩:=c;obtain⟨b,n,y,h1,h2,⟨es,clk,rfl,h3⟩,_⟩:=e.at k;simp only[PR]at f;have g:l.length=es.length:=h3.len;refine OK.pure e (v':=i64 es.length) (by simp_all [E6,Bs]) ?_;rw[<-g];rfl
theorem xX(b:SR B h0 F ρ st.nx st.ob h){ts:Array TypeId}{ps:List PV}{a:List V}(d:BB F ρ st.nx ps a){v:PV}(c:(mH C.T ts ps st).To v st'):OK B h0 F ρ st h [] (Bs h<|E6 C.T h ts a) v st':=qM b d.lz c
theorem wT(q:SR B h0 F ρ st.nx st.ob h){f:Int->Int->Int}{g:V->V->Option V}(r:∀k x y,g (.int k x) (.int k y)=some (.int k<|f x y)){ps:List PV}{a:List V}(c:BB F ρ st.nx ps a){v:PV}
  (b:(Mw f ps st).To v st'):OK B h0 F ρ st h [] (Bs h<|FG g a) v st':=by
 have key:∀(ps:List PV) (a:List V) (k:IntKind) (x z:Int),BB F ρ st.nx ps a->vQ f k x ps=some z->dfold g (.int k x) a=some (.int k z):=by
  intro ps;induction ps with
  |nil=>grind [vQ,BB,dfold]
  |cons p ps o=>
   intro a k x z c i;obtain⟨u,m,rfl,d,l⟩:=c;unfold vQ at i;split at i
   case h_1=>grind
   case h_2=>
    rename_i e;cases e;rename_i j y;cases n:(k==j)with
    |false=>grind
    |true=>
     obtain rfl:=CQ d;grind [dfold]
   grind
 unfold Mw at b;split at b
 case h_2=>simp at b
 split at b
 case h_2=>simp at b
 simp only[BU]at b;obtain⟨u,m,rfl,d,l⟩:=c;obtain rfl:=CQ d;grind [OK.pure,FG,Bs,C9]
theorem OK.new(a:SR B h0 F ρ st.nx st.ob h){o:Obj}{x:O}{n:Nat}(e:o.frozen=false)(c:Vb F (Bl ρ st.nx<|some (h.nx,n)) (st.nx+1) n o x){v:PV}{v':V}
  (d:PR F (Bl ρ st.nx<|some (h.nx,n)) (st.nx+1) v v'):OK B h0 F ρ st h [] (EG<|some (v',h.push x)) v (st.push o):=by
 refine⟨v',h.push x,F,_,.inl rfl,d,a.push e c,Le.new _,rfl,rfl,Nat.le_succ _,fun b f=>.inl ?_⟩;rw[H.Ci,wc ae]
theorem J8{n:Nat}:PR F (Bl ρ N<|some (h.nx,n)) (N+1) (.ptr N 0) (.ptr h.nx 0):=by
 simp_all [PR,Bl]
theorem sS{F:Fz}:∀ {s:Sh} {v:V},uD s v=true->DC F s s.GN [v]
 | .bool,.bool b,h=>by
  grind [uD,DC,Sh.GN]
 | .int k,.int a n,h=>by
  simp_all [uD,DC,Sh.GN]
theorem kC{T:BP}{t:TypeId}{s:Sh}{n:Nat}(h:pN T t=some (s,n)):∃i,T.inf t=some i/\n=i.zero.length/\(∀v∈i.zero,uD s v=true)/\s.sz=1:=by
 unfold pN at h;split at h
 case h_2=>cases h
 rename_i i e d;split at h
 case h_2=>cases h
 rename_i c a;cases b:(zx 32 (Det.ET i.zero)&&Det.Kb (uD c) i.zero)with
 |false=>grind
 |true=>
  rw[b]at h;cases h;rw[zc,EU]at b;refine⟨i,d,Dm ..,ah,?_⟩;unfold zsh at a;split at a<;>first|(cases a;rfl)|cases a
theorem gT(e:SR B h0 F ρ st.nx st.ob h){t:TypeId}{v:PV}(b:(Q0 t C.T st).To v st'):OK B h0 F ρ st h [] (EG<|FR C.T h t) v st':=by
 unfold Q0 Zl at b;split at b
 case h_1=>
  rename_i s n g;obtain⟨rfl,rfl⟩:=b;obtain⟨i,f,rfl,hall,hs⟩:=kC g;have:FR C.T h t=some (.ptr h.nx 0,h.push<|.cells i.zero t (0,0)):=by simp[FR,f,HV]
  rw[this];refine OK.new e (o:=.arr false t s<|zj i.zero.length s.GN) (n:=i.zero.length) rfl ⟨_,_,rfl,⟨by grind,fun j k=>?_⟩,zi _,(by simp)⟩ J8;have d:j<i.zero.length:=ah
  have:=hall i.zero[j] (by simp);rw[List.getElem_replicate,hs,yo,yg d];exact sS this
 split at b
 case h_2=>simp_all
 rename_i cs a;rw[Option.bind_eq_some_iff]at a;obtain⟨i,f,a⟩:=a;cases c:Kb V.ok i.zero with
 |false=>grind
 |true=>
 rw[c]at a;cases a;rw[EU]at c;obtain⟨rfl,rfl⟩:=b;have:FR C.T h t=some (.ptr h.nx 0,h.push<|.cells i.zero t (0,0)):=by simp[FR,f,HV]
 rw[this];cases nQ C.T t with
 |true=>exact OK.new e (o:=.tbox t<|i.zero.map Ub) (n:=0) rfl ⟨_,_,rfl,DS _,zi _,ah⟩ J8
 |false=>exact OK.new e (o:=.box<|i.zero.map Ub) (n:=0) rfl ⟨_,_,_,rfl,DS _,zi _,ah⟩ J8
theorem yA(b:SR B h0 F ρ st.nx st.ob h){t:TypeId}{p:PV}{x:V}(c:PR F ρ st.nx p x){cs:List PV}(a:tW st p=some cs)(e:cs.all (Kc st)=true):OK B h0 F ρ st h [] (EG<|some<|Xi h t x) (.ptr st.nx 0) (st.push<|.box cs):=
 OK.new b (o:=.box cs) (n:=0) rfl ⟨_,_,_,rfl,(Mq b c a).mono<|Le.new _,zi _,fun u d=>V.KL<|List.all_eq_true.1 (by grind [Jp,Mq]) u d⟩ J8
theorem IY(m:SR B h0 F ρ st.nx st.ob h){place:Nat->Option (Nat×Nat)}:∀ {l:List (Nat×PV)} {l':List (Nat×V)},qJ F ρ st.nx l l'->∀ {cs:List PV} {b:List V},BB F ρ st.nx cs b->∀ {out:List PV},PE st place cs l=some out->
  ∃f,HX place b l'=some f/\BB F ρ st.nx out f:=by
 intro l l' g;induction g with
 |nil=>intro cs b c out a;cases a;exact⟨b,rfl,c⟩
 |@cons i p v l l' j _ o=>
  intro cs b c out a;unfold PE at a;unfold HX;split at a
  case h_1=>cases a
  rename_i off size k;split at a
  case h_2=>cases a
  rename_i vs d;cases n:(ze (Det.ET vs) size&&zx (yb off size) (Det.ET cs))with
  |false=>grind
  |true=>
   have e:=Mq m j d;rw[Dm,Dm,e.len,c.len]at n;have:=e.Ce off c;grind [IF]
theorem gG(b:SR B h0 F ρ st.nx st.ob h){t:TypeId}{l:List (Nat×PV)}{l':List (Nat×V)}(f:qJ F ρ st.nx l l'){v:PV}(d:(ov st<|T5 C.T st t l).To v st'):OK B h0 F ρ st h [] (Bs h<|JB C.T t l') v st':=by
 simp only[PL]at d;obtain⟨a,rfl⟩:=d;unfold T5 at a;split at a
 case h_3=>cases a
 case h_1=>
  rename_i i fs j g;split at a
  case h_2=>cases a
  rw[zf]at a;obtain⟨out,c,rfl⟩:=a;obtain⟨ys,g1,g2⟩:=IY b f (DS i.zero) c;exact OK.pure b (v':=.agg ys) (by grind [JB,Bs]) (by simp_all [PR])
 case h_2=>
  rename_i i k e j g;split at a
  case h_2=>cases a
  rw[zf]at a;obtain⟨out,c,rfl⟩:=a;obtain⟨ys,g1,g2⟩:=IY b f (DS i.zero) c;exact OK.pure b (v':=.agg ys) (by grind [JB,Bs]) (by simp_all [PR])
theorem Jq(z:List V):∀n,BB F ρ N (Om (z.map Ub) n)<|(zj n z).flatten
 |0=>by rfl
 |n+1=>by
  exact(DS z).append<|Jq z n
theorem G5(z:List V):∀n,EL z (n*z.length)=(zj n z).flatten:=by
 intro n;apply z6;intro i;unfold EL;by_cases c:z.length=0
 ·simp_all
 ·induction n generalizing i with
  |zero=>simp
  |succ n a=>
   rw[List.replicate_succ,List.flatten_cons];by_cases b:i<z.length
   ·grind [Nat.mod_eq_of_lt]
   ·rw[List.getElem?_append_right ae, <-a (i-z.length)];grind [Nat.mod_eq_sub_mod]
theorem Oy{sz n:Nat}{o:Nat}(a:o=0\/o=sz):PR F (Bl ρ N<|some (h.nx,n)) (N+1) (.sl N sz 0 n none) (.sl h.nx 0 n n o):=by
 simp_all [PR,Bl]
theorem KP{place:Nat->Option (Nat×Nat)}:∀ {l:List (Nat×V)} {a b:List V},HX place a l=some b->b.length=a.length
 |[],a,b,h=>by cases h;rfl
 |(i,v)::l,a,b,h=>by
  unfold HX at h;split at h
  ·cases h
  ·rename_i off size _;cases c:(ze v.cells.length size&&zx (off+size) a.length)with
   |false=>grind
   |true=>
    rw[c]at h;rw[KP h,HA]
end
section
variable {B:Nat}{h0:H0}{F:Fz}{ρ:DH}{N:Nat}{C:Ctx}{st st':AF}{fr:Fr}{h h':H}
theorem Dc.nil{s:Sh}:Dc F s [] []:=⟨by simp,(by simp)⟩
theorem Dc.cons{s:Sh}{x:s.T}{l:List s.T}{a b:List V}(c:DC F s x a)(d:Dc F s l b):Dc F s (x::l) (a++b):=by
 refine⟨by rw[List.length_append,c.len,d.1,List.length_cons,zu];omega,fun i f=>?_⟩;cases i with
 |zero=>
  simp only[Nat.zero_mul,List.drop_zero,yk];rw[<-c.len,List.take_left];exact c
 |succ i=>
  have e:(a++b).drop ((i+1)*s.sz)=b.drop (i*s.sz):=by
   rw[zu,Nat.add_comm,Fa, <-c.len,List.drop_left]
  rw[e];exact d.2 i ah
theorem Dc.YO{s:Sh}{x:s.T}{l:List s.T}{cs:List V}(h:Dc F s (x::l) cs):∃a b,cs=a++b/\DC F s x a/\Dc F s l b:=by
 have h0:=h.2 0 (by simp);simp only[Nat.zero_mul,List.drop_zero,yk]at h0;refine⟨cs.take s.sz,cs.drop s.sz,(by simp),h0,?_,fun i c=>?_⟩
 ·grind [zu,Dc]
 ·have:=h.2 (i+1) ah;grind [Fa,zu]
theorem Dc.append{s:Sh}:∀ {l m:List s.T} {a b:List V},Dc F s l a->Dc F s m b->Dc F s (l++m) (a++b)
 |[],m,a,b,h,h'=>by
  have:a=[]:=List.length_eq_zero_iff.1 (by rw[h.1];simp);grind
 |x::l,m,a,b,h,h'=>by
  obtain⟨c,d,rfl,f,e⟩:=h.YO;rw[List.append_assoc,List.cons_append];exact Dc.cons f<|e.append h'
theorem Dc.replicate{s:Sh}{z:s.T}{c:List V}(a:DC F s z c):∀n,Dc F s (zj n z)<|(zj n c).flatten
 |0=>Dc.nil
 |n+1=>by
  exact Dc.cons a<|Dc.replicate a n
theorem Dc.Tt{s:Sh}:∀ {l:List s.T} {a:List V},Dc F s l a->a.all V.one=true
 |[],a,h=>by
  grind [Dc]
 |x::l,a,h=>by
  obtain⟨c,d,rfl,e,b⟩:=h.YO;rw[List.all_append,b.Tt,Bool.and_true];exact List.all_eq_true.2 e.Tt
theorem Dc.part{s:Sh}{l:List s.T}{cs:List V}(h:Dc F s l cs){off len:Nat}(b:off+len<=l.length):Dc F s ((l.drop off).take len) ((cs.drop<|off*s.sz).take<|len*s.sz):=by
 have d:(off+len)*s.sz<=l.length*s.sz:=zg _ b;have e:=h.1;refine⟨by grind,fun i f=>?_⟩;have a:i<len:=ah
 have c:(i+1)*s.sz<=len*s.sz:=zg _ a;grind [zr,yp,Nat.add_mul,Dc]
theorem sF(I:SR B h0 F ρ st.nx st.ob h){t:TypeId}{p q:PV}{x y:V}(D:PR F ρ st.nx p x)(r:PR F ρ st.nx q y){v:PV}(a:(Z8 C.T t p q st).To v st'):OK B h0 F ρ st h [] (EG<|Nf C.T h t x y) v st':=by
 unfold Z8 at a;split at a
 case h_2=>simp at a
 rename_i e k l j c G;obtain rfl:=CQ D;obtain rfl:=CQ r;split at a
 case h_2=>simp at a
 rename_i i s w M;cases f:(zt 0 i.zero.length&&ze i.zero.length i.size&&ze i.size s.sz)with
 |false=>simp_all
 |true=>
  rw[f]at a;simp only[zc]at f;obtain⟨⟨u,g⟩,P⟩:=f;simp only[we]at a;split at a
  case h_2=>simp at a
  rename_i z A;simp only[BV,zc,w5]at a;obtain⟨⟨⟨⟨m,E⟩,L⟩,O⟩,rfl,rfl⟩:=a;have d:l=c:=E;subst d;obtain⟨n,rfl,hn⟩:=DL m;have Q:=zd g;have J:Nf C.T h t (.int k<|yt n) (.int j<|yt n)=some (.sl h.nx 0 n n 0,h.push<|.cells (EL i.zero<|n*i.size) e (0,0)):=by
   have a1:zx n n=true:=(by simp);have a2:zt n 9223372036854775808=true:=(by grind [Dk]);have a3:zx (i.bytes*n) 281474976710656=true:=zp L;simp only[Nf,G,w,a1,a2,a3,u,g,Bool.and_self,we,HV]
  rw[J];have K:=CA (DS (F:=F) (ρ:=ρ) (N:=st.nx) i.zero) A;have b:Dc F s (zj n z) (EL i.zero<|n*i.size):=by
   grind [G5,Dc.replicate]
  exact OK.new I (o:=.arr false e s<|zj n z) (n:=n) rfl ⟨_,_,rfl,b,zi _,by simp⟩ (Oy<|.inl rfl)
theorem U2(J:SR B h0 F ρ st.nx st.ob h){s:Sh}{p:PV}{x:V}(g:PR F ρ st.nx p x){c:Bool}{l:List s.T}(a:G4 st s p=some (c,l))(E:c=true):
  NL x=some l.length/\(s.sz=1\/Nb x=true)/\∃cs,src h s.sz x l.length=some cs/\Dc F s l cs:=by
 unfold G4 at a;split at a
 case h_1=>
  cases a;subst g;exact⟨rfl,.inr rfl,[],rfl,Dc.nil⟩
 case h_2=>
  rename_i d l';rw[zf]at a;obtain⟨r,A,q⟩:=a;obtain⟨e,he⟩:=Cm A;have w:d=s:=ah
  subst w;have:r=l':=ah
  subst this;cases q;obtain⟨u,S,g⟩:=g;obtain rfl:x=u:=ah
  rcases g with⟨rfl,rfl|rfl|rfl⟩|⟨b,off,cap,o,K,rfl,G,D,k,L,W⟩
  ·exact⟨rfl,.inr rfl,[],rfl,Dc.nil⟩
  ·exact⟨rfl,.inr rfl,[],rfl,Dc.nil⟩
  ·exact⟨rfl,.inr rfl,[],rfl,Dc.nil⟩
  ·obtain⟨O,fz,X⟩:=J.frz b K D;suffices hD:Dc F d l ((K.drop off).take<|l.length*d.sz)from⟨rfl,.inr rfl,_,rd_some X k hD.ok,hD⟩
   refine⟨?_,fun i U=>?_⟩
   ·grind
   ·have Q:(i+1)*d.sz<=l.length*d.sz:=zg _ U;grind [zr,yp]
 case h_3=>
  rename_i id sz off len cap;split at a
  case h_2=>cases a
  rename_i R O d l' Y;cases f:ze sz d.sz with
  |false=>grind
  |true=>
   rw[f]at a;have f:=zd f;simp only[we,zf]at a;obtain⟨r,A,q⟩:=a;obtain⟨e,he⟩:=Cm A;have w:d=s:=ah
   subst w;have:r=l':=ah
   subst this;cases q;simp only[w5]at E;obtain⟨b,n,y,G,D,⟨cs,fz,rfl,k,W,L⟩,_⟩:=J.at Y;have z:((r.drop off).take len).length=len:=ah
   have m:(off+len)*d.sz<=r.length*d.sz:=zg _ E;rw[Nat.add_mul]at m;rw[z];rcases g.2 b n G with⟨_,_,o,_,rfl⟩|⟨rfl,_,P,rfl|⟨I,rfl,v⟩⟩
   ·refine⟨rfl,.inr rfl,_,rd_some D ?_ ?_,?_⟩
    ·rw[f,k.1];exact m
    ·rw[f];exact(k.part E).ok
    ·rw[f];exact k.part E
   ·refine⟨rfl,.inr rfl,[],rfl,?_⟩;simpa using Dc.nil
   ·refine⟨rfl,.inr rfl,_,rd_some D ?_ ?_,?_⟩
    ·rw[f]at v;rw[k.1];omega
    ·simp
    ·simp;exact Dc.nil
 case h_5=>cases a
 case h_4=>
  rename_i t;rw[zf]at a;obtain⟨r,A,q⟩:=a;obtain⟨e,he⟩:=Cm A;have w:s=.int .u8:=ah
  subst w;have:r=List.map (fun b:UInt8=>(b.toNat:Int)) t:=ah
  subst this;cases q;obtain rfl:=Fb g;refine⟨by simp[NL],.inl rfl,_,rfl,?_⟩;refine⟨by simp[Sh.sz],fun j hj=>?_⟩;have M:j<t.length:=ah
  have Z:((t.map fun b=>V.int .u8 (b.toNat:Int)).drop<|j*1).take 1=[V.int .u8 ((t[j]).toNat:Int)]:=by
   simp_all [yg]
  grind [DC,Sh.sz]
theorem Xw(a:SR B h0 F ρ st.nx st.ob h){s:Sh}{p:PV}{x:V}(d:PR F ρ st.nx p x){c:Bool}{l:List s.T}(b:Nx st s p=some (c,l))(e:c=true):
  NL x=some l.length/\(s.sz=1\/Nb x=true)/\∃cs,src h s.sz x l.length=some cs/\Dc F s l cs:=U2 a d.lz b e
theorem SR.congr(a:SR B h0 F ρ N st.ob h)(g:∀c,h'.get c=h.get c)(e:h'.nx=h.nx):SR B h0 F ρ N st.ob h':=
 ⟨fun id o j=>by obtain⟨b,n,x,k,l,r⟩:=a.obj id o j;grind,a.inj,fun b cs d=>by obtain⟨t,fz,k⟩:=a.frz b cs d;grind,a.own,a.dead,
  fun b d f=>(g b).trans<|a.old b d f,fun b o d=>by rw[e];exact a.lt b o ah,by rw[e];exact a.le,a.fo,a.gl,fun c i=>by obtain⟨p,m,q⟩:=a.pn c i;grind⟩
end
end Go.Pe
