import Derived.Test.YtjbmodoofdpgcaaGreatDoorX06
import Derived.Shelf.Strings.OnBuilder
import Derived.Shelf.Strconv.Itoa3
import Derived.Lib.LaidTab
import Derived.Lib.AppendIntMem
/- A part of a proof; no law is stated here. -/
noncomputable section
set_option maxRecDepth 100000
open Bool renaming and_eq_true -> zc
open Nat renaming eq_of_beq_eq_true -> zd, beq -> ze, mul_le_mul_right -> zg, le_refl -> zi, lt_of_lt_of_le -> zk, ble_eq_true_of_le -> zp, blt -> zt, succ_mul -> zu, ble -> zx, le_of_ble_eq_true -> z7, add -> yb, beq_refl -> yj, mul_one -> yo
open Option renaming map_eq_some_iff -> zf
open Option.some renaming injEq -> zh
open List renaming replicate -> zj, take_of_length_le -> zm, mem_singleton -> zn, drop_take -> zr, getElem?_take_of_lt -> zw, ext_getElem? -> z6, getElem?_drop -> yf, drop_eq_getElem_cons -> yg, getElem_cons_zero -> yk, length_nil -> ym, drop_drop -> yp
open Go.Proofs.Tryz renaming prog -> zl, underlying303 -> zy, underlying9 -> z8, underlying200 -> yd, underlying232 -> ye, zeroValue200 -> yh
open Go.Lib renaming decDigits -> zo, nDigits -> zz, zeros24 -> yi
open Array renaming size_replicate -> zq, getElem?_append_left -> yc
open Go.Det.V renaming ok -> yn
open Go.Value renaming int -> yq
open Go.Det renaming Cn -> yr
open Int renaming ofNat -> yt
namespace Go.Det
section
open Go.Proofs.Tryz (prog)
def A7:CJ:=[(6,[],.bool true)]
theorem yB:AZ C74 1000 A7=true:=by kernel_rfl
theorem spA:Fe prog (Hs A7):=R1 xG ZS Gw yB
end
open Go.Proofs
def Gk:Go.Shelf.Ren:=⟨fun|171=>191|243=>243|246=>277|283=>278|284=>279|285=>280|286=>281|129=>184|317=>308|318=>309|319=>310|320=>311|337=>321|338=>322|n=>n,fun|3=>3|9=>9|2=>2|4=>4|171=>303|0=>0|53=>200|37=>232|5=>5|173=>305|212=>326|51=>219|20=>20|213=>327|46=>164|232=>340|233=>341|n=>n,fun|17=>5|18=>8|19=>9|n=>n⟩
theorem Hk:Go.Proofs.LaysM.n171 Go.Proofs.Tryz.prog Gk:=
  {mixed:=by kernel_rfl,f129:=Go.Proofs.Tryz.func184.trans (wi some ag),f171:=Go.Proofs.Tryz.func191.trans (wi some ag),f243:=Go.Proofs.Tryz.func243.trans (wi some ag),f246:=Go.Proofs.Tryz.func277.trans (wi some ag),f283:=Go.Proofs.Tryz.func278.trans (wi some ag),f284:=Go.Proofs.Tryz.func279.trans (wi some ag),f285:=Go.Proofs.Tryz.func280.trans (wi some ag),f286:=Go.Proofs.Tryz.func281.trans (wi some ag),f317:=Go.Proofs.Tryz.func308.trans (wi some ag),f318:=Go.Proofs.Tryz.func309.trans (wi some ag),f319:=Go.Proofs.Tryz.func310.trans (wi some ag),f320:=Go.Proofs.Tryz.func311.trans (wi some ag),f337:=Go.Proofs.Tryz.func321.trans (wi some ag),f338:=Go.Proofs.Tryz.func322.trans (wi some ag),t0:=Go.Proofs.Tryz.underlying0,a0:=Go.Proofs.Tryz.isAgg0,z0:=Go.Proofs.Tryz.sizeOf0,v0:=Go.Proofs.Tryz.zeroValue0,t2:=Go.Proofs.Tryz.underlying2,a2:=Go.Proofs.Tryz.isAgg2,z2:=Go.Proofs.Tryz.sizeOf2,v2:=Go.Proofs.Tryz.zeroValue2,t3:=Go.Proofs.Tryz.underlying3,a3:=Go.Proofs.Tryz.isAgg3,z3:=Go.Proofs.Tryz.sizeOf3,v3:=Go.Proofs.Tryz.zeroValue3,t4:=Go.Proofs.Tryz.underlying4,a4:=Go.Proofs.Tryz.isAgg4,z4:=Go.Proofs.Tryz.sizeOf4,v4:=Go.Proofs.Tryz.zeroValue4,t5:=Go.Proofs.Tryz.underlying5,a5:=Go.Proofs.Tryz.isAgg5,z5:=Go.Proofs.Tryz.sizeOf5,v5:=Go.Proofs.Tryz.zeroValue5,t9:=Go.Proofs.Tryz.underlying9,a9:=Go.Proofs.Tryz.isAgg9,z9:=Go.Proofs.Tryz.sizeOf9,v9:=Go.Proofs.Tryz.zeroValue9,t20:=Go.Proofs.Tryz.underlying20,a20:=Go.Proofs.Tryz.isAgg20,z20:=Go.Proofs.Tryz.sizeOf20,v20:=Go.Proofs.Tryz.zeroValue20,t37:=Go.Proofs.Tryz.underlying232,a37:=Go.Proofs.Tryz.isAgg232,z37:=Go.Proofs.Tryz.sizeOf232,v37:=Go.Proofs.Tryz.zeroValue232,t46:=Go.Proofs.Tryz.underlying164,a46:=Go.Proofs.Tryz.isAgg164,z46:=Go.Proofs.Tryz.sizeOf164,v46:=Go.Proofs.Tryz.zeroValue164,t51:=Go.Proofs.Tryz.underlying219,a51:=Go.Proofs.Tryz.isAgg219,z51:=Go.Proofs.Tryz.sizeOf219,v51:=Go.Proofs.Tryz.zeroValue219,t53:=Go.Proofs.Tryz.underlying200,a53:=Go.Proofs.Tryz.isAgg200,z53:=Go.Proofs.Tryz.sizeOf200,v53:=Go.Proofs.Tryz.zeroValue200,t171:=Go.Proofs.Tryz.underlying303,a171:=Go.Proofs.Tryz.isAgg303,z171:=Go.Proofs.Tryz.sizeOf303,v171:=Go.Proofs.Tryz.zeroValue303,t173:=Go.Proofs.Tryz.underlying305,a173:=Go.Proofs.Tryz.isAgg305,z173:=Go.Proofs.Tryz.sizeOf305,v173:=Go.Proofs.Tryz.zeroValue305,t212:=Go.Proofs.Tryz.underlying326,a212:=Go.Proofs.Tryz.isAgg326,z212:=Go.Proofs.Tryz.sizeOf326,v212:=Go.Proofs.Tryz.zeroValue326,t213:=Go.Proofs.Tryz.underlying327,a213:=Go.Proofs.Tryz.isAgg327,z213:=Go.Proofs.Tryz.sizeOf327,t232:=Go.Proofs.Tryz.underlying340,a232:=Go.Proofs.Tryz.isAgg340,z232:=Go.Proofs.Tryz.sizeOf340,v232:=Go.Proofs.Tryz.zeroValue340,t233:=Go.Proofs.Tryz.underlying341,a233:=Go.Proofs.Tryz.isAgg341,z233:=Go.Proofs.Tryz.sizeOf341,v233:=Go.Proofs.Tryz.zeroValue341,g17:=by kernel_rfl,g18:=by kernel_rfl,g19:=by kernel_rfl,i0:=by kernel_rfl,i2:=by kernel_rfl,i3:=by kernel_rfl,i4:=by kernel_rfl,i5:=by kernel_rfl,i9:=by kernel_rfl,i20:=by kernel_rfl,i37:=by kernel_rfl,i46:=by kernel_rfl,i51:=by kernel_rfl,i53:=by kernel_rfl,i171:=by kernel_rfl,i173:=by kernel_rfl,i212:=by kernel_rfl,i232:=by kernel_rfl,i233:=by kernel_rfl,m17:=by kernel_rfl,m18:=by kernel_rfl,m19:=by kernel_rfl }
open Go.Proofs.Tryz (prog)
def zQ:List V->List Int->Bool
 |[],[]=>true
 | .int .u64 n::l,m::r=>bif decide (n=m)then zQ l r else false
 |_,_=>false
theorem Yj{p:Pl}:∀ {cs:List V} {r:List Int} {vs:List Value},zQ cs r=true->Ar p cs vs->vs=r.map fun z=>yq .u64 z
 |[],[],vs,_,h=>by simpa using h
 | .int .u64 n::l,m::r,vs,a,h=>by
  unfold zQ at a;cases b:decide (n=m)with
  |false=>rw[b]at a;cases a
  |true=>
   rw[b]at a;have e:=w6 b;subst e;cases vs with
   |nil=>simp at h
   |cons v vs=>
    simp only[Ba,Ab]at h;rw[h.1,Yj a h.2];rfl
def Zc(h:H):Bool:=match h.get 5 with
 |some (.cells cs _ _)=>zQ cs Lib.pow10Tab
 |_=>false
def uK:List V->H->Option (V×H)
 |[.int .i64 n],h=>bif Zc h&&decide (-9223372036854775808<=n)&&decide (n<=9223372036854775807)then some (.str<|Lib.itoa n,h)else none
 |_,_=>none
def jO:S6:=fun f=>bif ze f 191 then some uK else none
theorem aR:∀ {cs:List V} {r:List Int},zQ cs r=true->cs.length=r.length/\∀d∈cs,d.ok=true
 |[],[],_=>⟨rfl,fun d a=>by cases a⟩
 | .int .u64 n::l,m::r,b=>by
  unfold zQ at b;cases a:decide (n=m)with
  |false=>rw[a]at b;cases b
  |true=>
   rw[a]at b;obtain⟨e,c⟩:=aR (cs:=l) (r:=r) b;refine⟨by simp[e],fun d a=>?_⟩;rcases List.mem_cons.1 a with rfl|a
   ·rfl
   ·exact c d a
theorem vE : prog.globalNamed "internal/strconv.uint64pow10" = some 5 := by kernel_rfl
theorem at5{p:Pl}(a:Gp p):p[5]?=some (5,20):=a _<|List.mem_cons_self ..
theorem X2 {p : Pl} {h : H} {w : World} (g : R p h w) (f : Gp p) (a : Zc h = true) : Lib.TabIs prog w "internal/strconv.uint64pow10" .u64 Lib.pow10Tab := by
 unfold Zc at a;split at a
 case h_2=>cases a
 rename_i cs t fz j;obtain⟨r,n,x,e,i,c,fz',rfl,m,l,d,_⟩:=g.obj 5 _ j;rw[at5 f]at e;cases e;obtain⟨e1,e2⟩:=aR a;have o:cs.length=20:=e1.trans rfl;have b:c.toList.take cs.length=c.toList:=zm (by simp;omega);rw[b]at d;have k:=Yj a (d.JM e2);unfold Lib.TabIs World.var?;rw[vE];show(match w.heap[5]? with
  |some (.cells cs _ _)=>some cs
  |_=>none)=_
 rw[i];show some c=_;rw[<-k]
theorem jT:Fe prog jO:=by
 intro f q c p h w args args' v h' i m l a;unfold jO at c;cases d:ze f 191 with
 |false=>rw[d]at c;cases c
 |true=>
  rw[d]at c;cases c;cases zd d;unfold uK at a;split at a
  case h_2=>cases a
  rename_i n;cases b:(Zc h&&decide (-9223372036854775808<=n)&&decide (n<=9223372036854775807))with
  |false=>rw[b]at a;cases a
  |true=>
   rw[b]at a;cases a;rw[zc,zc,w5,w5]at b;obtain⟨x,r,g⟩:=l.one;have:args'= #[x]:=Array.toList_inj.1 r;subst this;simp only[Ab]at g;subst g;refine(Any.strconv_Itoa Hk n b.1.2 b.2 w<|X2 i m b.1.1).mono ?_;rintro e w' ⟨rfl,k,os,rfl⟩;exact⟨_,p,rfl,by simp only[Ab];rfl,LV i ⟨rfl,rfl,rfl,by show w.heap.size<=(w.heap++os).size;rw[Array.size_append];omega,fun j o=>by show(w.heap++os)[j]?=_;exact yc o⟩<|by show w.drawn<=w.drawn+k;omega⟩
end Go.Det
namespace Go.Proofs
open Go.Shelf Go.RowKit Go.Sort Go.Lib Go.Det
namespace FmtU
set_option maxHeartbeats 6400000 in
theorem small(i:Nat)(q:i<100)(w:World):Calls zl 248 #[.int .u64 i,.int .i64 10] w fun e w'=>e=.returned (.string ⟨(zo i).toArray⟩)/\w'=w:=by
 have mixed:=Hk.mixed;have t3:=Tryz.underlying3;have a3:=Tryz.isAgg3;have z3:=Tryz.sizeOf3;have v3:=Tryz.zeroValue3;have t9:=z8;have a9:=Tryz.isAgg9;have z9:=Tryz.sizeOf9;have v9:=Tryz.zeroValue9;have t4:=Tryz.underlying4;have a4:=Tryz.isAgg4;have z4:=Tryz.sizeOf4;have v4:=Tryz.zeroValue4;have o:=yd;have c:=Tryz.isAgg200;have m:=Tryz.sizeOf200;have b:=yh;have j:=zy;have d:=Tryz.isAgg303;have n:=Tryz.sizeOf303;have a:=Tryz.zeroValue303;have t0:=Tryz.underlying0;have a0:=Tryz.isAgg0;have z0:=Tryz.sizeOf0;have v0:=Tryz.zeroValue0;have g:=ye;have p:=Tryz.isAgg232;have k:=Tryz.sizeOf232;have l:=Tryz.zeroValue232;have t5:=Tryz.underlying5;have a5:=Tryz.isAgg5;have z5:=Tryz.sizeOf5;have v5:=Tryz.zeroValue5;have f:∀args w,(callFunc 278 args).run zl w=.ok (.enter 278 args) w:=enters_of Tryz.func278 ag rfl;go_enter Tryz.func248,Tryz.ntmps248
 go_wp2_with (go_at_fn 278;refine(Any.internal_strconv_small (ρ:=Gk) { Hk with } i q _).mono ?_;rintro e w' ⟨rfl,rfl⟩)
 go_ret
 exact⟨rfl,rfl⟩
set_option maxHeartbeats 6400000 in
theorem big (u : Nat) (Q : 100 <= u) (a : u < 18446744073709551616) (w : World) (f : Lib.TabIs Tryz.prog w "internal/strconv.uint64pow10" .u64 Lib.pow10Tab) :
  Calls zl 248 #[.int .u64 u,.int .i64 10] w fun e w'=>e=.returned (.string ⟨(zo u).toArray⟩)/\∃k os,w'=grow (w.drewN k) os:=by
 have mixed:=Hk.mixed;have t3:=Tryz.underlying3;have a3:=Tryz.isAgg3;have z3:=Tryz.sizeOf3;have v3:=Tryz.zeroValue3;have t9:=z8;have a9:=Tryz.isAgg9;have z9:=Tryz.sizeOf9;have v9:=Tryz.zeroValue9;have t4:=Tryz.underlying4;have a4:=Tryz.isAgg4;have z4:=Tryz.sizeOf4;have v4:=Tryz.zeroValue4;have I:=yd;have t:=Tryz.isAgg200;have D:=Tryz.sizeOf200;have s:=yh;have y:=zy;have v:=Tryz.isAgg303;have G:=Tryz.sizeOf303;have q:=Tryz.zeroValue303;have t0:=Tryz.underlying0;have a0:=Tryz.isAgg0;have z0:=Tryz.sizeOf0;have v0:=Tryz.zeroValue0;have x:=ye;have J:=Tryz.isAgg232;have z:=Tryz.sizeOf232;have A:=Tryz.zeroValue232;have t5:=Tryz.underlying5;have a5:=Tryz.isAgg5;have z5:=Tryz.sizeOf5;have v5:=Tryz.zeroValue5;have E:∀args w,(callFunc 279 args).run zl w=.ok (.enter 279 args) w:=enters_of Tryz.func279 ag rfl;have r:∀args w,(callFunc 280 args).run zl w=.ok (.enter 280 args) w:=enters_of Tryz.func280 ag rfl;have g:1<=u:=ae
 have p:zz u<=20:=by have:=Lib.numDigits_eq u g a;split at this<;>omega
 have l:zl.arrayLen 303=24:=by simp[Program.arrayLen,zy]
 have K:∀W,(Instr.sliceAt 303 (.pointer (some ⟨w.heap.size,0,none⟩)) none (some (.int .i64 (zz u:Int))) none).run zl W=.ok (.slice (some ⟨w.heap.size,0,none⟩) (zz u) 24) W:=fun W=>by
  rw[run_sliceAt_array_h W 303 ⟨w.heap.size,0,none⟩ (by simp[Program.arrayLen,Program.elem,zy]) .i64 (zz u:Int) ae (by rw[l];omega)];go_simp
 have d:=Lib.holds_zero0 w 303 (zz u) ae;have c:=Any.internal_strconv_formatBase10 (ρ:=Gk) (P:=zl) { Hk with } w.heap.size 0 24 u (Array.replicate (zz u) 0) (w.alloc (.cells yi 303)) d (by rw[zq];exact Lib.lt_pow_nDigits u) a (by rw[zq];omega);rw[zq]at c;have o:=Lib.hid d;have O:(100:Int)<=(u:Int):=ae
 clear d l;go_enter Tryz.func248,Tryz.ntmps248
 go_wp2_with (first
  |(go_at_fn 279;refine(Any.internal_strconv_numDigits (ρ:=Gk) { Hk with } u g a _ (Lib.tabIs_alloc f _)).mono ?_;rintro e w' ⟨rfl,rfl⟩))
 go_at_fn 280
 refine c.mono ?_;rintro e w' ⟨rfl,k,v',i,rfl,n⟩;have L:(convert 232 9 (.slice (some ⟨w.heap.size,0,none⟩) (zz u) 24)).run zl ((putRow (fun(b:UInt8)=>yq .u8 (b.toNat:Int)) (w.alloc (.cells yi 303)) w.heap.size 0 i).drewN k)=.ok (.string ⟨(zo u).toArray⟩) ((putRow (fun(b:UInt8)=>yq .u8 (b.toNat:Int)) (w.alloc (.cells yi 303)) w.heap.size 0 i).drewN k):=by
  have h:=run_convert_bytes_back (P:=zl) ((putRow (fun(b:UInt8)=>yq .u8 (b.toNat:Int)) (w.alloc (.cells yi 303)) w.heap.size 0 i).drewN k) 232 9 5 ⟨w.heap.size,0,none⟩ 24 (zo u) ye Tryz.underlying5 z8 (fun j m=>by
   rw[Lib.row_is_numeral n j m,Lib.add_plain,World.cell?_drewN];exact cell?_putRow (fun(b:UInt8)=>yq .u8 (b.toNat:Int)) _ w.heap.size 0 _ i o.out (by rw[n.size,zq]) j (by rw[n.size];rw[Lib.decDigits_length]at m;exact m))
  rw[Lib.decDigits_length]at h;exact h
 go_wp2
 go_ret
 obtain⟨os,M⟩:=Lib.fin_at w (.cells yi 303) i k 0;exact⟨rfl,k,os,M⟩
theorem all (u : Nat) (a : u < 18446744073709551616) (w : World) (b : Lib.TabIs Tryz.prog w "internal/strconv.uint64pow10" .u64 Lib.pow10Tab) :
  Calls zl 248 #[.int .u64 u,.int .i64 10] w fun e w'=>e=.returned (.string ⟨(zo u).toArray⟩)/\∃k os,w'=grow (w.drewN k) os:=by
 by_cases h:u<100
 ·exact(small u h w).mono fun e w' ⟨d,c⟩=>⟨d,0, #[],by rw[c];simp[World.drewN_zero]⟩
 ·exact big u ae a w b
theorem outer (u : Nat) (b : u < 18446744073709551616) (w : World) (a : Lib.TabIs Tryz.prog w "internal/strconv.uint64pow10" .u64 Lib.pow10Tab) :
  Calls zl 193 #[.int .u64 u,.int .i64 10] w fun e w'=>e=.returned (.string ⟨(zo u).toArray⟩)/\∃k os,w'=grow (w.drewN k) os:=by
 have mixed:=Hk.mixed;have t3:=Tryz.underlying3;have a3:=Tryz.isAgg3;have z3:=Tryz.sizeOf3;have v3:=Tryz.zeroValue3;have t9:=z8;have a9:=Tryz.isAgg9;have z9:=Tryz.sizeOf9;have v9:=Tryz.zeroValue9;have g:=yd;have d:=Tryz.isAgg200;have f:=Tryz.sizeOf200;have c:=yh;have i:∀args w,(callFunc 248 args).run zl w=.ok (.enter 248 args) w:=enters_of Tryz.func248 ag rfl;go_enter Tryz.func193,Tryz.ntmps193
 go_wp2_with (go_at_fn 248;refine(all u b _ a).mono ?_;rintro e w' ⟨rfl,k,os,rfl⟩)
 go_ret
 exact⟨rfl,k,os,rfl⟩
end FmtU
end Go.Proofs
namespace Go.Det
open Go.Proofs
open Go.Proofs.Tryz (prog)
def fmtQ:List V->H->Option (V×H)
 |[.int .u64<|.ofNat n,.int .i64<|.ofNat b],h=>bif Zc h&&(zx n 18446744073709551615&&ze b 10)then some (.str<|zo n,h)else none
 |_,_=>none
def fmtS:S6:=fun f=>bif ze f 193 then some fmtQ else none
theorem rX:Fe prog fmtS:=by
 intro f q c p h w args args' v h' i r o a;unfold fmtS at c;cases g:ze f 193 with
 |false=>rw[g]at c;cases c
 |true=>
  rw[g]at c;cases c;cases zd g;unfold fmtQ at a;split at a
  case h_2=>cases a
  rename_i n b;cases d:(Zc h&&(zx n 18446744073709551615&&ze b 10))with
  |false=>rw[d]at a;cases a
  |true=>
   rw[d]at a;cases a;rw[zc,zc]at d;obtain⟨m,l,t⟩:=d;have l:=z7 l;cases zd t;obtain⟨x,y,hl,g1,g2⟩:=o.two;have:args'= #[x,y]:=Array.toList_inj.1 hl;subst this;simp only[Ab]at g1 g2;subst g1 g2;refine(FmtU.outer n ae w<|X2 i r m).mono ?_;rintro e w' ⟨rfl,k,os,rfl⟩;exact⟨_,p,rfl,by simp only[Ab];rfl,LV i ⟨rfl,rfl,rfl,by show w.heap.size<=(w.heap++os).size;rw[Array.size_append];omega,fun j s=>by show(w.heap++os)[j]?=_;exact yc s⟩<|by show w.drawn<=w.drawn+k;omega⟩
section
open Go.Proofs.Tryz (prog)
def MRp:CJ:=(List.range 19).map fun(c:Nat)=>(194,[.str [48],.int .i64 (c:Int)],.str<|zj c 48)
theorem wI:AZ C7 1000 MRp=true:=by kernel_rfl
theorem spR:Fe prog (Hs MRp):=R1 Of FB Gw wI
end
end Go.Det
namespace Go.Pe
open Go.Det
@[reducible] def Bz:List Sh->Sh
 |[]=>.unit
 |[a]=>a
 |a::b::l=>.pair a<|Bz (b::l)
def Ae:(l:List Sh)->(Bz l).T->List PV
 |[],_=>[]
 |[a],x=>[BU a x]
 |a::b::l,x=>BU a x.1::Ae (b::l) x.2
structure An where
 ins:List Sh
 pre:(Bz ins).T->Bool
 outs:List Sh
 f:(Bz ins).T->(Bz outs).T
 nd:Bool:=false
def Sh.sc:Sh->Bool
 | .int _| .bool| .str| .unit| .fnv=>true
 | .list _| .nlist _| .ptr _=>false
 | .pair a b=>a.sc&&b.sc
structure KR where
 ins:List Sh
 ty:TypeId
 el:Sh
 pre:(Bz ins).T->List el.T->Bool
 g:(Bz ins).T->List el.T->List el.T
 fst:Bool
def wj{α:Type}(b:Bool)(r:List α)(x:α):List α:=bif b then x::r else r++[x]
def wsp{α:Type}(b:Bool)(a:List α):Option (α×List α):=bif b then(match a with|[]=>none|x::r=>some (x,r))else(match a.reverse with|[]=>none|x::r=>some (x,r.reverse))
structure AX where
 C:Ctx
 sp:FuncId->Option An
 pl:FuncId->Nat->List Nat
 ct:FuncId->Nat->Bool
 fz:FuncId->Nat->List (Nat×Sh)
 ws:FuncId->Option KR:=fun _=>none
 esc:List FuncId:=[]
 escOk:∀g∈esc,C.prim g=some PK.noEsc.run:=by intro g h;cases h
def GL(st:AG)(s:Sh)(p:PV):Option (Bool×s.T):=
 bif M9 p==s.Nf then
  match Ds st p.cells with
  |some (c,cs)=>match Dg s (K8 s.leaves cs).2 with
   |some x=>some ((K8 s.leaves cs).1&&c,x)
   |none=>none
  |none=>none
 else none
def CV(st:AG):(l:List Sh)->List PV->Option (Bool×(Bz l).T)
 |[],[]=>some (true,())
 |[a],[p]=>GL st a p
 |a::b::l,p::ps=>match GL st a p,CV st (b::l) ps with
  |some (c,x),some (d,y)=>some (c&&d,(x,y))
  |_,_=>none
 |_,_=>none
def one:List PV->PV
 |[v]=>v
 |l=>.tup l
def fU(sp:An)(args:List PV)(st:AG)(k:PV->AG->Tr):Tr:=
 match CV st sp.ins args with
 |some (c,i)=>.ite (c&&sp.pre i) (k (one<|Ae sp.outs<|sp.f i)<|bif sp.outs.all Sh.sc then st else Bk (args.flatMap PV.cells) st) .fail
 |none=>.fail
def V8(w:KR)(args:List PV)(st:AG)(k:PV->AG->Tr):Tr:=
 match wsp w.fst args with
 |some (.sl id sz 0 n none,r)=>match CV st w.ins r,(Bk (r.flatMap PV.cells) st).obj id with
  |some (c,i),some (.arr false t s l)=>bif ze t w.ty then
    match El (.list s) (.list w.el) l with
    |some l'=>.ite (c&&w.pre i l'&&decide (n=List.length (α:=w.el.T) l')&&ze sz w.el.sz) (k (.tup [])<|(Bk (r.flatMap PV.cells) st).setObj id<|.arr false w.ty w.el<|w.g i l') .fail
    |none=>.fail
   else .fail
  |_,_=>.fail
 |some (.nil,r)=>match CV st w.ins r with
  |some (c,i)=>.ite (c&&w.pre i []) (k (.tup [])<|Bk (r.flatMap PV.cells) st) .fail
  |none=>.fail
 |_=>.fail
mutual
def AcJ:PV->List Nat
 | .ptr id _| .eptr id _ _ _| .sl id _ _ _ _| .mp id| .yl id=>[id]
 | .agg l| .tup l=>JT l
 | .fn _ a b=>JT a++JT b
 |_=>[]
def JT:List PV->List Nat
 |[]=>[]
 |v::vs=>AcJ v++JT vs
end
def AbM:Obj->List Nat
 | .box cs=>JT cs
 | .tbox _ cs=>JT cs
 | .lp _ _ _ _ _ _ _ sl=>JT (sl.map (·.2))
 |_=>[]
def IT(st:AG)(base:Nat):Nat->List Nat->List Nat->List Nat
 |0,_,acc=>acc
 |_+1,[],acc=>acc
 |f+1,i::a,acc=>bif zt i base||acc.any (ze i)then IT st base f a acc
  else match st.obj i with
   |some o=>IT st base f (a++AbM o)<|acc++[i]
   |none=>IT st base f a acc
def Pk(base:Nat):List Nat->Nat->Nat->Option Nat
 |[],_,i=>bif zt i base then some i else none
 |j::a,n,i=>bif ze i j then some n else Pk base a (yb n 1) i
mutual
def H4(f:Nat->Option Nat):PV->PV
 | .ptr i o=>match f i with|some j=>.ptr j o|none=>.any
 | .eptr i a b c=>match f i with|some j=>.eptr j a b c|none=>.any
 | .sl i a b c d=>match f i with|some j=>.sl j a b c d|none=>.any
 | .mp i=>match f i with|some j=>.mp j|none=>.any
 | .yl i=>match f i with|some j=>.yl j|none=>.any
 | .agg l=>.agg<|JN f l
 | .tup l=>.tup<|JN f l
 | .fn g a b=>.fn g (JN f a)<|JN f b
 |v=>v
def JN(f:Nat->Option Nat):List PV->List PV
 |[]=>[]
 |v::vs=>H4 f v::JN f vs
end
def OQ(f:Nat->Option Nat):Obj->Obj
 | .box cs=>.box<|JN f cs
 | .tbox t cs=>.tbox t<|JN f cs
 | .lp g r ps asg body s n sl=>.lp g r ps asg body s n<|sl.map fun x=>(x.1,H4 f x.2)
 |o=>o
def low(f:Nat->Option Nat)(base:Nat):Ob->Ob
 |[]=>[]
 |(i,o)::l=>bif zt i base then(i,OQ f o)::low f base l else low f base l
def kept(st:AG)(f:Nat->Option Nat):List Nat->Nat->Ob->Ob
 |[],_,a=>a
 |j::b,n,a=>match st.obj j with
  |some o=>kept st f b (yb n 1) ((n,OQ f o)::a)
  |none=>kept st f b (yb n 1) a
def Pw(base:Nat):Ob->List Nat
 |[]=>[]
 |(i,o)::l=>bif zt i base then AbM o++Pw base l else Pw base l
def AE(n:Nat)(vs:List (Nat×PV))(ob:Ob)(nx:Nat):AG:=⟨n,ED vs,ob,nx⟩
def canon(base:Nat)(L:List Nat)(st:AG):AG:=
 let vs:=L.map fun t=>(t,st.get t)
 let a:=IT st base 100 (JT (vs.map (·.2))++Pw base st.ob) []
 let f:=Pk base a base
 AE st.n (vs.map fun x=>(x.1,H4 f x.2)) (kept st f a base<|low f base st.ob) (yb base a.length)
def qG(base:Nat)(x:Nat×Sh)(st:AG):AG:=
 match st.get x.1 with
 | .nil=>st.set x.1<|.dat (.list x.2) []
 | .sl id sz off len _=>match st.obj id with
  |some (.arr _ e s l)=>bif ze sz s.sz then(st.setObj id<|.arr true e s l).set x.1 (.dat (.list s)<|(l.drop off).take len)else st
  |_=>st
 | .ptr id 0=>bif zx base id then match st.obj id with
   |some (.box ps)=>match Dg x.2 ps with
    |some v=>(st.FE id).set x.1<|.Ei x.2 v 0
    |none=>st
   |_=>st
  else st
 |_=>st
def lR(base:Nat):List (Nat×Sh)->AG->AG
 |[],st=>st
 |x::l,st=>lR base l<|qG base x st
def BC:Code->Nat
 | .region id _ _=>id
 | .seq a _=>BC a
 | .block _ b=>BC b
 | .loop b=>BC b
 | .scope b=>BC b
 |_=>0
def Mr(X:AX)(f:FuncId)(r:Nat)(base:Nat)(st:AG):AG:=canon base (X.pl f r)<|lR base (X.fz f r) st
inductive yI where
 |fn (g:FuncId)
 |rnd (id:Nat)
abbrev FM:=yI->List PV->AG->(PV->AG->Tr)->Tr
def QY(d:Option Nat)(k:AG->Tr):PO->Tr
 | .bad=>.fail
 | .val v st=>match st.put d v with
  |some st'=>k st'
  |none=>.fail
 | .ite c a b=>.ite c (QY d k a)<|QY d k b
inductive CK where
 |no
 |bad
 |yes (g:yI) (args:List PV)
def Mg(st:AG)(o:Op):CK:=
 match o with
 | .call c=>match c.callee with
  | .value f=>match P1 st f,LG st c.args.toList with
   |some (.fn (.func g) first cap),some args=>.yes (.fn g)<|first++args++cap
   |some (.yl id),some args=>.yes (.rnd id) args
   |_,_=>.bad
  |_=>.no
 |_=>.no
def HG(T:BX)(call:FM)(o:Oper)(st:AG)(k:AG->Tr):Tr:=
 match Mg st o.op with
 | .yes g args=>call g args st fun v st=>match st.put o.dst v with
  |some st'=>k st'
  |none=>.fail
 | .bad=>.fail
 | .no=>QY o.dst k<|pop o.op T st
def RP(T:BX)(st:AG)(o:Op):Option (PV×AG):=
 match o with
 | .convert s d x=>match T.und s,T.und d,P1 st x with
  |some .string,some<|.slice e,some (.dat .str l)=>match T.und e with
   |some (.int .u8)=>some (.sl st.nx 1 0 (List.length l) none,st.push<|.arr false e (.int .u8)<|List.map (fun b:UInt8=>(b.toNat:Int)) l)
   |_=>none
  |_,_,_=>none
 |_=>none
def yT(T:BX)(st:AG)(o:Op):Option PV:=
 match o with
 | .convert s d x=>match T.und s,T.und d,P1 st x with
  |some (.pointer t),some .unsafePointer,some (.ptr id off)=>match T.inf t,st.obj id with
   |some i,some (.tbox _ cs)=>bif zt 0 i.size&&zt off (Fm cs)then some (.ptr id off)else none
   |_,_=>none
  |some .unsafePointer,some<|.pointer u,some (.ptr id off)=>match T.inf u,st.obj id with
   |some i,some (.tbox e cs)=>bif zt 0 i.size&&zx i.size (Fm cs)&&ze e u&&ze off 0 then some (.ptr id 0)else none
   |_,_=>none
  |_,_,_=>none
 |_=>none
def Wx(T:BX)(st:AG)(o:Op):Option (PV×AG):=
 match RP T st o with
 |some r=>some r
 |none=>match yT T st o with
  |some v=>some (v,st)
  |none=>none
def uY(T:BX)(call:FM)(o:Oper)(st:AG)(k:AG->Tr):Tr:=
 match Wx T st o.op with
 |some (v,a)=>match a.put o.dst v with
  |some b=>k b
  |none=>.fail
 |none=>HG T call o st k
def guarded(ops:Array Oper)(o:Oper)(st:AG)(yes no:AG->Tr):Tr:=
 match o.guard with
 |none=>yes st
 |some (j,a)=>match (ops[j]?).bind (·.dst)with
  |some t=>bif zt t st.n then(match st.get t with
   | .bl b=>bif b==a then yes st else no st
   | .dat .bool b=>bif a then .ite b (yes<|st.set t<|.bl true) (no<|st.set t<|.bl false)else .ite b (no<|st.set t<|.bl true)<|yes<|st.set t<|.bl false
   | .tup _=>no st
   | .ub=>.both (bif a then yes (st.set t<|.bl true)else no<|st.set t<|.bl true)<|bif a then no (st.set t<|.bl false)else yes<|st.set t<|.bl false
   |_=>.fail)else .fail
  |none=>.fail
def LF(o:Oper)(k:AG->Tr)(st:AG):Tr:=
 match st.put o.dst (.tup [])with
 |some st'=>k st'
 |none=>.fail
def prun(T:BX)(call:FM)(ops:Array Oper):List Oper->AG->(AG->Tr)->Tr
 |[],st,k=>k st
 |o::a,st,k=>guarded ops o st
   (fun st=>uY T call o st fun st'=>prun T call ops a st' k)
   (fun st=>LF o (fun st'=>prun T call ops a st' k) st)
def pO(st:AG)(o:Op):Option (List Nat):=
 match o with
 | .load _ x=>match P1 st x with
  |some (.ptr id _)|some (.eptr id _ _ _)=>some [id]
  |some (.Ei _ _ _)=>some []
  |_=>none
 | .convert _ _ x=>match P1 st x with
  |some (.dat (.int _) _)|some (.dat .str _)=>some []
  |_=>none
 | .call c=>match c.callee,LG st c.args.toList with
  | .builtin .len,some [.dat _ _]| .builtin .len,some [.sl _ _ _ _ _]| .builtin .len,some [.nil]=>some []
  | .builtin .len,some [.mp id]=>some [id]
  |_,_=>none
 | .lookup _ x _ _=>match P1 st x with
  |some (.mp id)=>some [id]
  |some .nilm=>some []
  |_=>none
 |_=>none
def G0(sp:FuncId->Option An)(st:AG)(o:Op):Option (List Nat):=
 match o with
 | .store _ x _=>match P1 st x with
  |some (.ptr id _)|some (.eptr id _ _ _)=>some [id]
  |_=>none
 | .mapUpdate _ x _ _| .insert _ x _ _=>match P1 st x with
  |some (.mp id)=>some [id]
  |_=>none
 | .makeMap _ _| .makeSlice _ _ _=>some []
 | .call c=>match c.callee with
  | .value f=>match P1 st f with
   |some (.fn (.func g) _ _)=>match sp g with
    |some _=>some []
    |none=>none
   |_=>none
  | .builtin .append=>match LG st c.args.toList with
   |some (.sl id _ _ _ _::_)=>some [id]
   |some _=>some []
   |none=>none
  | .builtin .delete=>match LG st c.args.toList with
   |some (.mp id::_)=>some [id]
   |_=>none
  | .builtin .unsafeString=>match LG st c.args.toList with
   |some (.eptr id _ _ _::_)=>some [id]
   |_=>none
  |_=>none
 |_=>none
abbrev Rs:=List<|Nat×Option (List Nat)
def S7:Option (List Nat)->Option (List Nat)->Bool
 |some a,some b=>a.all fun i=> !(b.any<|ze i)
 |some [],none=>true
 |_,_=>false
def La(st:AG):Option (List Nat)->Bool
 |some l=>l.all fun i=>H7<|st.obj i
 |none=>false
def apart(anc:Nat->Nat->Bool)(i:Nat)(st:AG)(t:Option (List Nat))(a:Rs):Bool:=a.all fun r=>anc i r.1||(S7 r.2 t&&La st r.2)
def behind(st:AG)(t:Option (List Nat))(a:Rs):Rs:=a.map fun r=>bif S7 r.2 t&&La st r.2 then r else(r.1,none)
def gF(st:AG)(o:Op):Bool:=match Mg st o with
 | .yes (.rnd _) _=>false
 |_=>true
def JS(T:BX)(sp:FuncId->Option An)(call:FM)(ops:Array Oper)(anc:Nat->Nat->Bool):List Nat->AG->Rs->(AG->Tr)->Tr
 |[],st,_,k=>k st
 |i::b,st,a,k=>match ops[i]? with
  |none=>.fail
  |some o=>guarded ops o st
    (fun st=>bif Eh o then HG T call o st (fun st'=>JS T sp call ops anc b st' (bif P9 o then(i,pO st o.op)::a else a) k)
     else bif CC o then HG T call o st (fun st'=>JS T sp call ops anc b st' a k)
     else bif apart anc i st (G0 sp st o.op) a&&gF st o.op then HG T call o st (fun st'=>JS T sp call ops anc b st' (behind st (G0 sp st o.op) a) k)else .fail)
    (fun st=>bif CI o then(bif apart anc i st (some []) a then LF o (fun st'=>JS T sp call ops anc b st' (behind st (some []) a) k) st else .fail)
     else LF o (fun st'=>JS T sp call ops anc b st' a k) st)
def Lf(X:AX)(f:FuncId)(r:Nat)(st:AG):List (Nat×PV):=(X.pl f r).map fun t=>(t,st.get t)
def exec(X:AX)(call c:FM)(nd ro:Bool)(d:Nat)(f:FuncId)(base:Nat):Code->AG->(DX->AG->Tr)->Tr
 | .skip,st,k| .label _,st,k=>k .normal st
 | .region _ ops dr,st,k=>bif dr then(bif !ro||HT ops (En ops)then JS X.C.T X.sp c ops (En ops).a (En ops).ord st [] (k .normal)else .fail)else prun X.C.T call ops ops.toList st<|k .normal
 | .seq a b,st,k=>exec X call c nd ro d f base a st fun e st'=>match e with
  | .normal=>bif X.ct f (BC b)then .cut nd ro d f base b (Mr X f (BC b) base st') k else exec X call c nd ro d f base b st' k
  |e=>k e st'
 | .cond x a b,st,k=>match P1 st x with
  |some (.bl t)=>bif t then exec X call c nd ro d f base a st k else exec X call c nd ro d f base b st k
  |some (.dat .bool t)=>match x with
   | .tmp s=>.ite t (exec X call c nd ro d f base a (st.set s<|.bl true) k)<|exec X call c nd ro d f base b (st.set s<|.bl false) k
   |_=>.ite t (exec X call c nd ro d f base a st k)<|exec X call c nd ro d f base b st k
  |some .ub=>match x with
   | .tmp s=>.both (exec X call c nd ro d f base a (st.set s<|.bl true) k)<|exec X call c nd ro d f base b (st.set s<|.bl false) k
   |_=>.fail
  |_=>.fail
 | .block id b,st,k=>exec X call c nd ro d f base b st fun e st'=>match e with
  | .exit i=>bif ze i id then k .normal st' else k e st'
  |e=>k e st'
 | .loop b,st,k=>.loop nd ro d f base b (Mr X f (BC b) base st) k
 | .exit i,st,k=>k (.exit i) st
 | .ret,st,k=>k .ret st
 | .scope b,st,k=>exec X call c nd ro d f base b st k
 | .rangeFunc g ps asg b,st,k=>bif ro then .fail else match P1 st g with
  |some (.fn (.func l) first cap)=>bif (X.C.prim l).isSome then .fail else
   call (.fn l) (first++[.yl st.nx]++cap) (st.push<|.lp f (BC b) ps asg b .ready st.n<|Lf X f (BC b) st) fun _ j=>
    match j.obj st.nx with
    |some (.lp _ _ _ _ _ s _ _)=>match s with
     | .ready=>k .normal<|j.FE st.nx
     | .ret=>k .ret<|j.FE st.nx
     | .exit i=>k (.exit i)<|j.FE st.nx
     | .busy=>.fail
    |_=>.fail
  |_=>.fail
 |_,_,_=>.fail
def kV(T:BX)(st:AG):ResultVar->Option PV
 | .tmp t=>some<|st.get t
 | .cell a t=>match M0 T st t (st.get a)with
  | .val v _=>some v
  | .IW _ v _=>some v
  |_=>none
def MK(T:BX)(st:AG):List ResultVar->List Bool
 |[]=>[]
 | .tmp _::b=>MK T st b
 | .cell a t::b=>match M0 T st t (st.get a)with
  | .IW c _ _=>c::MK T st b
  |_=>MK T st b
def Rv:List Bool->Tr->Tr
 |[],t=>t
 |c::cs,t=>.ite c (Rv cs t) .fail
def dN(T:BX)(st:AG):List ResultVar->Option (List PV)
 |[]=>some []
 |r::a=>match kV T st r,dN T st a with
  |some v,some vs=>some (v::vs)
  |_,_=>none
def ET:List PV->Nat->List (Nat×PV)
 |[],_=>[]
 |v::vs,i=>(i,v)::ET vs (yb i 1)
def enter(X:AX)(call a:FM)(nd:Bool)(d:Nat)(f:FuncId)(args:List PV)(st:AG)(k:PV->AG->Tr):Tr:=
 match X.C.fn f with
 |none=>.fail
 |some i=>bif i.cert then
   exec X call a nd false d f st.nx i.body (AE (yb args.length<|Nat.sub i.ntmps args.length) (ET args 0) st.ob st.nx) fun e s=>match e with
    | .exit _=>.fail
    |_=>match dN X.C.T s i.results.toList with
     |some vs=>Rv (MK X.C.T s i.results.toList)<|k (one vs) ⟨st.n,st.fr,s.ob,s.nx⟩
     |none=>.fail
  else .fail
def MJ:List Tmp->List PV->AG->AG
 |t::ts,v::vs,st=>MJ ts vs<|bif zt t st.n then st.set t v else st
 |_,_,st=>st
def VN(X:AX)(call a:FM)(nd:Bool)(d:Nat)(id:Nat)(args:List PV)(st:AG)(k:PV->AG->Tr):Tr:=
 match st.obj id with
 |some (.lp f _ ps asg b .ready n sl)=>bif ze args.length ps.size then
   exec X call a nd true d f st.nx asg (MJ ps.toList args<|AE n sl st.ob st.nx) fun e s=>match e with
   | .normal=>match s.obj id with
    |some (.lp r r1 m l t .ready n1 p)=>
     exec X call a nd true d f st.nx b (s.setObj id<|.lp r r1 m l t .busy n1 p) fun e2 s2=>
      match s2.obj id with
      |some (.lp q r2 j c o _ n2 g)=>match e2 with
       | .normal=>k (.bl true) ⟨st.n,st.fr,(s2.setObj id<|.lp q r2 j c o .ready n2 g).ob,s2.nx⟩
       | .ret=>k (.bl false) ⟨st.n,st.fr,(s2.setObj id<|.lp q r2 j c o .ret n2 g).ob,s2.nx⟩
       | .exit i=>k (.bl false) ⟨st.n,st.fr,(s2.setObj id<|.lp q r2 j c o (.exit i) n2 g).ob,s2.nx⟩
      |_=>.fail
    |_=>.fail
   |_=>.fail
  else .fail
 |_=>.fail
def Abh(args:List PV)(st:AG)(k:PV->AG->Tr):Tr:=
 match args with
 |[.ptr id off]=>bif H7 (st.obj id)then k (.ptr id off) st else .fail
 |_=>.fail
def B8(X:AX)(nd:Bool):Nat->FM
 |0=>fun _ _ _ _=>.fail
 |d+1=>fun c args st k=>match c with
  | .fn g=>match X.sp g with
   |some sp=>bif nd|| !sp.nd then fU sp args st k else .fail
   |none=>match X.ws g with
    |some w=>V8 w args st k
    |none=>bif X.esc.any (ze g)then Abh args st k else match X.C.prim g,X.C.spec g with
     |none,none=>enter X (B8 X nd d) (B8 X false d) nd d g args st k
     |_,_=>.fail
  | .rnd id=>VN X (B8 X nd d) (B8 X false d) nd d id args st k
def dC:PV->Bool
 | .dat _ _| .Ei _ _ _| .bl _| .nil=>true
 |_=>false
def QO(v:PV):Bool:=v.cells.all dC
def uI:PV->Bool
 | .tup a=>a.all QO
 |v=>QO v
def zS(v:PV)(ob:Ob):Ob:=bif uI v then[]else ob
def tree(X:AX)(nd:Bool)(d:Nat)(f:FuncId)(args:List PV):Tr:=
 enter X (B8 X nd d) (B8 X false d) nd d f args (AE 0 [] [] 0) fun v st=>.leaf v<|zS v st.ob
def body(X:AX)(nd ro:Bool)(d:Nat)(f:FuncId)(base:Nat)(b:Code)(st:AG)(k:DX->AG->Tr):Tr:=
 exec X (B8 X nd d) (B8 X false d) nd ro d f base b st fun e st'=>match e with
  | .normal=>.loop nd ro d f base b (Mr X f (BC b) base st') k
  |e=>k e st'
def AR(X:AX)(nd ro:Bool)(d:Nat)(f:FuncId)(base:Nat)(b:Code)(st:AG)(k:DX->AG->Tr):Tr:=exec X (B8 X nd d) (B8 X false d) nd ro d f base b st k
inductive Ev (X:AX) (Q:PV->Ob->Prop):Nat->Tr->Prop where
 |leaf {n:Nat} {v:PV} {ob:Ob}:Q v ob->Ev X Q n (.leaf v ob)
 |ite {n:Nat} {c:Bool} {a b:Tr}:(c=true->Ev X Q n a)->(c=false->Ev X Q n b)->Ev X Q n (.ite c a b)
 |both {n:Nat} {a b:Tr}:Ev X Q n a->Ev X Q n b->Ev X Q n (.both a b)
 |cut {n:Nat} {nd ro:Bool} {d:Nat} {f:FuncId} {base:Nat} {b:Code} {st:AG} {k:DX->AG->Tr}:Ev X Q n (AR X nd ro d f base b st k)->Ev X Q n (.cut nd ro d f base b st k)
 |alts {n m:Nat} {f:Nat->Tr}:(∀i,i<m->Ev X Q n (f i))->Ev X Q n (.alts m f)
 |loop {n:Nat} {nd ro:Bool} {d:Nat} {f:FuncId} {base:Nat} {b:Code} {st:AG} {k:DX->AG->Tr}:Ev X Q n (body X nd ro d f base b st k)->Ev X Q (n+1) (.loop nd ro d f base b st k)
abbrev Fz:=Nat->Option (List V)
abbrev DZ:=Nat->Option (Nat×Nat)
def DC(F:Fz):(s:Sh)->s.T->List V->Prop
 | .int k,x,cs=>cs=[.int k x]
 | .bool,x,cs=>cs=[.bool x]
 | .str,x,cs=>cs=[.str x]
 | .list s,l,cs=>∃v,cs=[v]/\((l=[]/\(v=.nils\/v=.esl\/v=.es0))\/
   ∃b off cap o e,v=.sl b off l.length cap o/\l.length<=cap/\F b=some e/\off+l.length*s.sz<=e.length/\(o=0\/o=s.sz)/\
    ∀i (h:i<l.length),DC F s l[i]<|(e.drop<|off+i*s.sz).take s.sz)
 | .pair a b,x,cs=>∃c d,cs=c++d/\DC F a x.1 c/\DC F b x.2 d
 | .unit,_,cs=>cs=[]
 | .fnv,x,cs=>cs=[match (x:Option Fn)with|some f=>.fn f [] []|none=>.nilf]
 | .ptr s,x,cs=>∃b o e,cs=[.ptr b o]/\F b=some e/\o+s.sz<=e.length/\DC F s x ((e.drop o).take s.sz)
 | .nlist s,l,cs=>∃v,cs=[v]/\((l=[]/\v=.nils)\/(l≠[]/\
   ∃b off cap o e,v=.sl b off l.length cap o/\l.length<=cap/\F b=some e/\off+l.length*s.sz<=e.length/\(o=0\/o=s.sz)/\
    ∀i (h:i<l.length),DC F s l[i]<|(e.drop<|off+i*s.sz).take s.sz))
theorem DC.len{F:Fz}:∀ {s:Sh} {x:s.T} {cs:List V},DC F s x cs->cs.length=s.sz
 | .int _,_,_,h=>by subst h;rfl
 | .bool,_,_,h=>by subst h;rfl
 | .str,_,_,h=>by subst h;rfl
 | .list _,_,_,h=>by obtain⟨v,rfl,_⟩:=h;rfl
 | .pair a b,x,_,h=>by
  obtain⟨c,d,rfl,f,e⟩:=h;rw[List.length_append,f.len,e.len];rfl
 | .unit,_,_,h=>by subst h;rfl
 | .nlist _,_,_,h=>by obtain⟨v,rfl,_⟩:=h;rfl
 | .fnv,_,_,h=>by subst h;rfl
 | .ptr _,_,_,h=>by obtain⟨b,o,g,rfl,_⟩:=h;rfl
theorem DC.ok{F:Fz}:∀ {s:Sh} {x:s.T} {cs:List V},DC F s x cs->∀v∈cs,v.ok=true
 | .int _,_,_,h=>by grind [DC,yn]
 | .bool,_,_,h=>by grind [DC,yn]
 | .str,_,_,h=>by grind [DC,yn]
 | .list s,_,_,h=>by
  obtain⟨v,rfl,⟨_,rfl|rfl|rfl⟩|⟨b,off,cap,o,f,rfl,_⟩⟩:=h<;>simp[yn]
 | .pair a b,x,_,h=>by
  obtain⟨c,d,rfl,i,g⟩:=h;intro v e;rcases List.mem_append.1 e with e|e
  ·exact i.ok v e
  ·exact g.ok v e
 | .unit,_,_,h=>by grind [DC]
 | .fnv,x,_,h=>by subst h;intro v e;rw[zn.1 e];cases (x:Option Fn)<;>rfl
 | .nlist s,_,_,h=>by
  obtain⟨v,rfl,⟨_,rfl⟩|⟨_,b,off,cap,o,f,rfl,_⟩⟩:=h<;>simp[yn]
 | .ptr _,_,_,h=>by obtain⟨b,o,f,rfl,_⟩:=h;simp[yn]
theorem DC.mono{F F':Fz}(e:∀b cs,F b=some cs->F' b=some cs):∀ {s:Sh} {x:s.T} {cs:List V},DC F s x cs->DC F' s x cs
 | .int _,_,_,h=>by simpa only[DC]using h
 | .bool,_,_,h=>by simpa only[DC]using h
 | .str,_,_,h=>by simpa only[DC]using h
 | .list s,l,_,h=>by
  obtain⟨v,rfl,h⟩:=h;refine⟨v,rfl,?_⟩;rcases h with h|⟨b,off,cap,o,j,g,f,k,m,n,p⟩
  ·grind
  ·exact .inr ⟨b,off,cap,o,j,g,f,e _ _ k,m,n,fun i q=>(p i q).mono e⟩
 | .pair a b,x,_,h=>by
  obtain⟨c,d,rfl,g,f⟩:=h;exact⟨c,d,rfl,g.mono e,f.mono e⟩
 | .unit,_,_,h=>by simpa only[DC]using h
 | .fnv,_,_,h=>by simpa only[DC]using h
 | .ptr s,x,_,h=>by
  obtain⟨b,o,j,g,f,k,m⟩:=h;exact⟨b,o,j,g,e _ _ f,k,m.mono e⟩
 | .nlist s,l,_,h=>by
  obtain⟨v,rfl,h⟩:=h;refine⟨v,rfl,?_⟩;rcases h with h|⟨h0,b,off,cap,o,j,g,f,k,m,n,p⟩
  ·grind
  ·exact .inr ⟨h0,b,off,cap,o,j,g,f,e _ _ k,m,n,fun i q=>(p i q).mono e⟩
theorem DC.nl{F:Fz}{s:Sh}{l:List s.T}{cs:List V}(h:DC F (.nlist s) l cs):DC F (.list s) l cs:=by
 simp only[DC]at h ⊢;obtain⟨v,rfl,h⟩:=h;rcases h with⟨rfl,rfl⟩|⟨_,h⟩
 ·simp
 simp_all
theorem DC.nl'{F:Fz}{s:Sh}{l:List s.T}{cs:List V}(h:DC F (.list s) l cs)(h0:0<l.length):DC F (.nlist s) l cs:=by
 have a:l≠[]:=ah
 simp_all [DC]
mutual
def PR(F:Fz)(ρ:DZ)(N:Nat):PV->V->Prop
 | .any,_=>True
 | .bl b,v=>v=.bool b
 | .ub,v=>∃b,v=.bool b
 | .dat s x,v=>DC F s x [v]
 | .nil,v=>v=.nils
 | .nilp,v=>v=.nilp
 | .nilm,v=>v=.nilm
 | .nilf,v=>v=.nilf
 | .nili,v=>v=.nili
 | .agg l,v=>∃cs,v=.agg cs/\BD F ρ N l cs
 | .tup l,v=>∃cs,v=.tup cs/\BD F ρ N l cs
 | .ptr id off,v=>id<N/\∀b n,ρ id=some (b,n)->v=.ptr b off
 | .eptr id sz i off,v=>id<N/\∀b n,ρ id=some (b,n)->v=.ptr b (i*sz+off)
 | .Ei s x off,v=>∃b o cs,v=.ptr b (o+off)/\F b=some cs/\o+s.sz<=cs.length/\DC F s x ((cs.drop o).take s.sz)
 | .sl id sz off len cap,v=>id<N/\∀b n,ρ id=some (b,n)->
   (len<=cap.getD len/\off+cap.getD len<=n/\∃o,(o=0\/o=sz)/\v=.sl b (off*sz) len (cap.getD len) o)\/
   (len=0/\cap=some 0/\off<=n/\(v=.esl\/∃c,v=.sl b c 0 0 0/\c<=off*sz))
 | .mp id,v=>id<N/\∀b n,ρ id=some (b,n)->v=.map b
 | .fn f first captured,v=>∃a b,v=.fn f a b/\BD F ρ N first a/\BD F ρ N captured b
 | .yl id,v=>id<N/\∀b n,ρ id=some (b,n)->v=.yld b
def BD(F:Fz)(ρ:DZ)(N:Nat):List PV->List V->Prop
 |[],l=>l=[]
 |p::ps,l=>∃v vs,l=v::vs/\PR F ρ N p v/\BD F ρ N ps vs
end
section
variable {F F':Fz}{ρ ρ':DZ}{N N':Nat}
@[simp] theorem DH(l:List V):BD F ρ N [] l↔l=[]:=by rfl
@[simp] theorem BB(p:PV)(ps:List PV)(v:V)(vs:List V):BD F ρ N (p::ps) (v::vs)↔PR F ρ N p v/\BD F ρ N ps vs:=by
 simp only[BD];grind
theorem BD.len:∀ {ps:List PV} {vs:List V},BD F ρ N ps vs->ps.length=vs.length
 |[],vs,h=>by simp_all
 |p::ps,vs,h=>by
  obtain⟨v,vs,rfl,_,a⟩:=h;simp[a.len]
theorem BD.append:∀ {a:List PV} {x:List V} {b:List PV} {y:List V},BD F ρ N a x->BD F ρ N b y->BD F ρ N (a++b) (x++y)
 |[],x,b,y,h,h'=>by simp_all
 |p::ps,x,b,y,h,h'=>by
  obtain⟨v,vs,rfl,d,c⟩:=h;simp only[List.cons_append,BB];exact⟨d,c.append h'⟩
theorem BD.drop:∀ {a:List PV} {x:List V} (n:Nat),BD F ρ N a x->BD F ρ N (a.drop n) (x.drop n)
 |[],x,n,h=>by simp_all
 |p::ps,x,0,h=>by grind
 |p::ps,x,n+1,h=>by
  obtain⟨v,vs,rfl,c,b⟩:=h;simpa using b.drop n
theorem BD.take:∀ {a:List PV} {x:List V} (n:Nat),BD F ρ N a x->BD F ρ N (a.take n) (x.take n)
 |[],x,n,h=>by simp_all
 |p::ps,x,0,h=>by simp
 |p::ps,x,n+1,h=>by
  obtain⟨v,vs,rfl,c,b⟩:=h;simpa using⟨c,b.take n⟩
theorem BD.get:∀ {a:List PV} {x:List V},BD F ρ N a x->∀ {i:Nat} {p:PV},a[i]?=some p->∃v,x[i]?=some v/\PR F ρ N p v
 |[],x,h,i,p,b=>by grind
 |q::ps,x,h,i,p,b=>by
  obtain⟨v,vs,rfl,d,c⟩:=h;cases i with
  |zero=>grind
  |succ i=>simpa using c.get b
structure Le(F:Fz)(ρ:DZ)(N:Nat)(F':Fz)(ρ':DZ)(N':Nat):Prop where
 fz:∀b cs,F b=some cs->F' b=some cs
 rho:∀id,id<N->ρ' id=ρ id\/ρ' id=none
 n:N<=N'
theorem Le.refl:Le F ρ N F ρ N:=⟨fun _ _ h=>h,(by simp),zi _⟩
theorem Le.trans{g:Fz}{d:DZ}{f:Nat}(a:Le F ρ N F' ρ' N')(b:Le F' ρ' N' g d f):Le F ρ N g d f:=
 ⟨fun c cs h=>b.fz c cs<|a.fz c cs h,fun id h=>by
  rcases b.rho id (zk h a.n)with e|e
  ·rw[e];exact a.rho id h
  grind,Nat.le_trans a.n b.n⟩
theorem Le.at(a:Le F ρ N F' ρ' N'){id:Nat}(h:id<N){x:Nat×Nat}(b:ρ' id=some x):ρ id=some x:=by
 rcases a.rho id h with e|e
 ·grind
 grind
mutual
theorem PR.mono(c:Le F ρ N F' ρ' N'):∀ {p:PV} {v:V},PR F ρ N p v->PR F' ρ' N' p v
 | .any,_,_=>by simp[PR]
 | .bl _,_,h=>by simpa only[PR]using h
 | .ub,_,h=>by simpa only[PR]using h
 | .dat s x,_,h=>by simp only[PR]at h ⊢;exact h.mono c.fz
 | .nil,_,h| .nilp,_,h| .nilm,_,h| .nilf,_,h| .nili,_,h=>by simpa only[PR]using h
 | .agg l,_,h=>by obtain⟨cs,rfl,e⟩:=h;exact⟨cs,rfl,e.mono c⟩
 | .tup l,_,h=>by obtain⟨cs,rfl,e⟩:=h;exact⟨cs,rfl,e.mono c⟩
 | .ptr _ _,_,h=>by exact⟨zk h.1 c.n,fun b n d=>h.2 b n<|c.at h.1 d⟩
 | .eptr _ _ _ _,_,h=>by exact⟨zk h.1 c.n,fun b n d=>h.2 b n<|c.at h.1 d⟩
 | .Ei s x off,_,h=>by
  obtain⟨b,o,cs,e,g,j,i⟩:=h;exact⟨b,o,cs,e,c.fz _ _ g,j,i.mono c.fz⟩
 | .sl _ _ _ _ _,_,h=>by exact⟨zk h.1 c.n,fun b n d=>h.2 b n<|c.at h.1 d⟩
 | .mp _,_,h=>by exact⟨zk h.1 c.n,fun b n d=>h.2 b n<|c.at h.1 d⟩
 | .fn f a b,_,h=>by
  obtain⟨x,y,rfl,e,g⟩:=h;exact⟨x,y,rfl,e.mono c,g.mono c⟩
 | .yl _,_,h=>by exact⟨zk h.1 c.n,fun b n d=>h.2 b n<|c.at h.1 d⟩
theorem BD.mono(a:Le F ρ N F' ρ' N'):∀ {ps:List PV} {vs:List V},BD F ρ N ps vs->BD F' ρ' N' ps vs
 |[],_,h=>by simp_all
 |p::ps,_,h=>by
  obtain⟨v,vs,rfl,c,b⟩:=h;exact⟨v,vs,rfl,c.mono a,b.mono a⟩
end
theorem PR.lz:∀ {p:PV} {v:V},PR F ρ N p v->PR F ρ N (lz p) v:=by
 intro p v h;unfold Pe.lz;split
 ·exact h.nl
 omega
theorem BD.lz:∀ {ps:List PV} {vs:List V},BD F ρ N ps vs->BD F ρ N (ps.map Pe.lz) vs
 |[],_,h=>by grind
 |p::ps,_,h=>by
  obtain⟨v,vs,rfl,b,a⟩:=h;simp only[List.map_cons,BB];exact⟨b.lz,a.lz⟩
theorem Zb{s:Sh}{p:PV}{v:V}(h:PR F ρ N p v)(b:(Uz s p).1=true):PR F ρ N (Uz s p).2 v:=by
 unfold Uz at b ⊢;split
 ·rename_i s a x;cases c:(s==a)with
  |false=>exact h
  |true=>
   have b:(bif s==a then(decide (0<List.length x),PV.dat a.nlist x)else(true,PV.dat a.list x)).1=true:=b;rw[c]at b;simp only[we,w5]at b;exact h.nl' b
 ·rename_i s a x;cases c:(s==a)with
  |false=>exact h
  |true=>exact h.nl
 omega
theorem QC:∀ {l:List Sh} {ps:List PV} {vs:List V},BD F ρ N ps vs->(K8 l ps).1=true->BD F ρ N (K8 l ps).2 vs
 |[],ps,vs,h,_=>h
 |s::l,[],vs,h,_=>h
 |s::l,p::ps,vs,h,a=>by
  obtain⟨v,vs,rfl,c,b⟩:=h;simp only[K8,zc]at a;simp only[K8,BB];exact⟨Zb c a.1,QC b a.2⟩
def Dd(F:Fz)(s:Sh)(l:List s.T)(cs:List V):Prop:=cs.length=l.length*s.sz/\∀i (h:i<l.length),DC F s l[i]<|(cs.drop<|i*s.sz).take s.sz
theorem Dd.mono(a:∀b cs,F b=some cs->F' b=some cs){s:Sh}{l:List s.T}{cs:List V}(h:Dd F s l cs):Dd F' s l cs:=⟨h.1,fun i c=>(h.2 i c).mono a⟩
theorem Dd.ok{F:Fz}{s:Sh}{l:List s.T}{cs:List V}(h:Dd F s l cs):∀v∈cs,v.ok=true:=by
 intro v d;obtain⟨k,c⟩:=List.mem_iff_getElem?.1 d;have a:=(List.getElem?_eq_some_iff.1 c).1;have b:0<s.sz:=by
  rcases Nat.eq_zero_or_pos s.sz with e|e
  ·rw[h.1,e,Nat.mul_zero]at a;omega
  omega
 have f:k/s.sz<l.length:=Nat.div_lt_of_lt_mul (by rw[Nat.mul_comm, <-h.1];exact a);refine(h.2 _ f).ok v ?_;refine List.mem_iff_getElem?.2 ⟨k % s.sz,?_⟩;grind [Nat.mod_lt,Nat.div_add_mod]
def DV(F:Fz)(s:Sh)(x:s.T)(v:V):Prop:=(s.Nf=true->∃cs,v=.agg cs/\DC F s x cs)/\(s.Nf=false->DC F s x [v])
theorem DV.mono(a:∀b cs,F b=some cs->F' b=some cs){s:Sh}{x:s.T}{v:V}(h:DV F s x v):DV F' s x v:=
 ⟨fun e=>by obtain⟨cs,d,c⟩:=h.1 e;exact⟨cs,d,c.mono a⟩,fun e=>(h.2 e).mono a⟩
inductive MR (F:Fz) (ks vs:Sh):List (ks.T×vs.T)->List (V×V×Nat)->Prop where
 |nil:MR F ks vs [] []
 |cons {k:ks.T} {v:vs.T} {l:List (ks.T×vs.T)} {a b:V} {n:Nat} {es:List (V×V×Nat)}:DV F ks k a->DV F vs v b->MR F ks vs l es->MR F ks vs ((k,v)::l) ((a,b,n)::es)
theorem MR.mono(a:∀b cs,F b=some cs->F' b=some cs){ks vs:Sh}{l:List (ks.T×vs.T)}{es:List (V×V×Nat)}(h:MR F ks vs l es):MR F' ks vs l es:=by
 induction h with
 |nil=>exact .nil
 |cons e d _ c=>exact .cons (e.mono a) (d.mono a) c
def Py(sl:List (Nat×PV))(t:Nat):PV:=((ED sl).get t).getD .any
def LpR:LpS->LoopState->Option Code->Prop
 | .ready,st,a=>st=.ready/\a=none
 | .busy,st,_=>st=.busy
 | .ret,st,a=>st=.done/\a=some .ret
 | .exit i,st,a=>st=.done/\a=some (.exit i)
def Wr(F:Fz)(ρ:DZ)(N n:Nat):Obj->O->Prop
 | .arr _ e s l,o=>∃cs fz,o=.cells cs e fz/\Dd F s l cs/\fz.2<=fz.1/\l.length=n
 | .box ps,o=>∃cs t fz,o=.cells cs t fz/\BD F ρ N ps cs/\fz.2<=fz.1/\∀v∈cs,v.ok=true
 | .tbox t ps,o=>∃cs fz,o=.cells cs t fz/\BD F ρ N ps cs/\fz.2<=fz.1/\∀v∈cs,v.ok=true
 | .map ks vs l,o=>∃es a,o=.map es a/\MR F ks vs l es
 | .siter s pos,o=>o=.siter s pos
 | .lp _ _ ps asg body s n' sl,o=>∃ls,o=.loop ls/\ls.ps=ps/\ls.asg=asg/\ls.body=body/\LpR s ls.st ls.pend/\ls.fr.n=n'/\∀t,PR F ρ N (Py sl t)<|ls.fr.get t
theorem Wr.mono(d:Le F ρ N F' ρ' N'){n:Nat}{x:Obj}{o:O}(h:Wr F ρ N n x o):Wr F' ρ' N' n x o:=by
 cases x with
 |arr fz e s l=>obtain⟨cs,f,a,b,c⟩:=h;exact⟨cs,f,a,b.mono d.fz,c⟩
 |box ps=>obtain⟨cs,t,f,a,b,c⟩:=h;exact⟨cs,t,f,a,b.mono d,c⟩
 |tbox t ps=>obtain⟨cs,f,a,b,c⟩:=h;exact⟨cs,f,a,b.mono d,c⟩
 |map ks vs l=>obtain⟨es,g,a,b⟩:=h;exact⟨es,g,a,b.mono d.fz⟩
 |siter s pos=>exact h
 |lp f r ps asg body s n sl=>obtain⟨ls,a,b,c,j,i,m,k⟩:=h;exact⟨ls,a,b,c,j,i,m,fun t=>(k t).mono d⟩
def Obj.frozen:Obj->Bool
 | .arr fz _ _ _=>fz
 |_=>false
structure H0 where
 h:H
 F:Fz
 pin:List Nat
 ex:Nat->Prop:=fun _=>False
def H0.pins(h0:H0)(ps:List Nat):H0:={ h0 with pin:=ps++h0.pin }
def H0.ZP(h0:H0)(B b:Nat):Prop:=B<=b\/h0.ex b
theorem NN{h0:H0}{B b c:Nat}(h:h0.ZP B b)(a:c<B)(d:¬h0.ex c):c≠b:=by
 rcases h with h|h
 ·omega
 grind
structure SR(B:Nat)(h0:H0)(F:Fz)(ρ:DZ)(N:Nat)(ob:Ob)(h:H):Prop where
 obj:∀id o,AN ob id=some o->∃b n x,ρ id=some (b,n)/\h.get b=some x/\Wr F ρ N n o x/\(o.frozen=false->F b=none)/\
  (o.frozen=true->∃cs t fz,x=.cells cs t fz/\F b=some cs)
 inj:∀id id' o o' b n n',AN ob id=some o->AN ob id'=some o'->ρ id=some (b,n)->ρ id'=some (b,n')->id=id'
 frz:∀b cs,F b=some cs->∃t fz,h.get b=some (.cells cs t fz)
 own:∀id b n,ρ id=some (b,n)->id<N/\h0.ZP B b
 dead:∀id,AN ob id=none->ρ id=none
 old:∀b,b<B->¬h0.ex b->h.get b=h0.h.get b
 lt:∀b o,h.get b=some o->b<h.nx
 le:B<=h.nx
 fo:∀b cs,F b=some cs->h0.F b=some cs\/h0.ZP B b
 gl:∀x∈Dr,x.1<B/\¬h0.ex x.1/\h0.h.get x.1=some x.2
 pn:∀b∈h0.pin,h.get b=some (.defd true)/\B<=b/\∀id n,ρ id≠some (b,n)
structure FP(F:Fz)(ρ:DZ)(N:Nat)(st:AG)(fr:Fr):Prop where
 n:st.n=fr.n
 slot:∀t,PR F ρ N (st.get t) (fr.get t)
theorem FP.mono(a:Le F ρ N F' ρ' N'){st:AG}{fr:Fr}(h:FP F ρ N st fr):FP F' ρ' N' st fr:=⟨h.n,fun t=>(h.slot t).mono a⟩
end
section
variable {B:Nat}{h0:H0}{F:Fz}{ρ:DZ}{N:Nat}
mutual
theorem Xz:∀ {v:Value} {p:PV},M7 v=some p->∃x,cv v=some x/\PR F ρ N p x
 | .bool b,p,h=>by simp[M7]at h;subst h;exact⟨_,rfl,by simp[PR]⟩
 | .int k n,p,h=>by simp[M7]at h;subst h;exact⟨_,rfl,by rfl⟩
 | .string s,p,h=>by simp[M7]at h;subst h;exact⟨_,rfl,by rfl⟩
 | .pointer none,p,h=>by simp[M7]at h;subst h;exact⟨_,rfl,by simp[PR]⟩
 | .pointer (some a),p,h=>by simp[M7]at h
 | .slice none 0 0,p,h=>by simp[M7]at h;subst h;exact⟨_,rfl,by simp[PR]⟩
 | .slice none 0 (_+1),p,h=>by simp[M7]at h
 | .slice none (_+1) _,p,h=>by simp[M7]at h
 | .slice (some a) _ _,p,h=>by simp[M7]at h
 | .map none,p,h=>by simp[M7]at h;subst h;exact⟨_,rfl,by simp[PR]⟩
 | .map (some a),p,h=>by simp[M7]at h
 | .nilFunc,p,h=>by simp[M7]at h;subst h;exact⟨_,rfl,by simp[PR]⟩
 | .nilIface,p,h=>by simp[M7]at h;subst h;exact⟨_,rfl,by simp[PR]⟩
 | .func f ⟨[]⟩ ⟨[]⟩,p,h=>by simp[M7]at h;subst h;exact⟨_,rfl,by simp[PR]⟩
 | .func f ⟨_::_⟩ _,p,h=>by simp[M7]at h
 | .func f ⟨[]⟩ ⟨_::_⟩,p,h=>by simp[M7]at h
 | .agg ⟨cs⟩,p,h=>by
  simp only[M7,zf]at h;obtain⟨d,c,rfl⟩:=h;obtain⟨ys,h2,h3⟩:=O9 c;simp_all [cv,PR]
 | .tuple ⟨cs⟩,p,h=>by
  simp only[M7,zf]at h;obtain⟨d,c,rfl⟩:=h;obtain⟨ys,h2,h3⟩:=O9 c;simp_all [cv,PR]
 | .float _ _,p,h=>by simp[M7]at h
 | .complex _ _ _,p,h=>by simp[M7]at h
 | .chan _,p,h=>by simp[M7]at h
 | .iface _ _,p,h=>by simp[M7]at h
theorem O9:∀ {vs:List Value} {ps:List PV},Zh vs=some ps->∃a,tC vs=some a/\BD F ρ N ps a
 |[],ps,h=>by simp[Zh]at h;subst h;exact⟨[],rfl,by simp⟩
 |v::vs,ps,h=>by
  unfold Zh at h;split at h
  case h_2=>cases h
  rename_i x a c b;cases h;obtain⟨y,e,d⟩:=Xz c;obtain⟨ys,g3,g4⟩:=O9 b;simp_all [tC]
end
theorem nK(v:V):PR F ρ N (VQ v) v:=by
 cases v<;>simp[VQ,PR,DC]
theorem Ef:∀vs:List V,BD F ρ N (vs.map VQ) vs
 |[]=>by simp
 |v::vs=>by simp only[List.map_cons,BB];exact⟨nK v,Ef vs⟩
variable {C:Ctx}{st st':AG}{fr:Fr}{h:H}
theorem B0(b:FP F ρ N st fr){x:Operand}{p:PV}(a:P1 st x=some p):∃v,ev C fr x=some v/\PR F ρ N p v:=by
 cases x with
 |tmp t=>simp only[P1,zh]at a;subst a;exact⟨_,rfl,b.slot t⟩
 |const v=>exact Xz a
 |global g=>simp[P1]at a
 |func f=>simp only[P1,zh]at a;subst a;exact⟨_,rfl,by simp[PR]⟩
theorem EU(c:FP F ρ N st fr):∀ {b:List Operand} {ps:List PV},LG st b=some ps->∃vs,Uu C fr b=some vs/\BD F ρ N ps vs
 |[],ps,a=>by simp[LG]at a;subst a;exact⟨[],rfl,by simp⟩
 |x::b,ps,a=>by
  unfold LG at a;split at a
  case h_2=>cases a
  rename_i v vs e d;cases a;obtain⟨y,g,f⟩:=B0 (C:=C) c e;obtain⟨ys,g3,g4⟩:=EU c d;simp_all [Uu]
inductive zE (F:Fz) (ρ:DZ) (N:Nat):List (Nat×PV)->List (Nat×V)->Prop
 |nil:zE F ρ N [] []
 |cons {i:Nat} {p:PV} {v:V} {l:List (Nat×PV)} {l':List (Nat×V)}:PR F ρ N p v->zE F ρ N l l'->zE F ρ N ((i,p)::l) ((i,v)::l')
theorem OO(c:FP F ρ N st fr):∀ {b:List (Nat×Operand)} {ps:List (Nat×PV)},Zp st b=some ps->∃vs,WA C fr b=some vs/\zE F ρ N ps vs
 |[],ps,a=>by simp[Zp]at a;subst a;exact⟨[],rfl,.nil⟩
 |(i,x)::b,ps,a=>by
  unfold Zp at a;split at a
  case h_2=>cases a
  rename_i v vs g e;cases a;obtain⟨y,f,d⟩:=B0 (C:=C) c g;obtain⟨ys,g3,g4⟩:=OO c e;exact⟨(i,y)::ys,by simp[WA,f,g3],.cons d g4⟩
structure Rel(B:Nat)(h0:H0)(F:Fz)(ρ:DZ)(st:AG)(fr:Fr)(h:H):Prop where
 fp:FP F ρ st.nx st fr
 sr:SR B h0 F ρ st.nx st.ob h
inductive PO.To:PO->PV->AG->Prop
 |val {v:PV} {st:AG}:PO.To (.val v st) v st
 |tt {a b:PO} {v:PV} {st:AG}:PO.To a v st->PO.To (.ite true a b) v st
 |ff {a b:PO} {v:PV} {st:AG}:PO.To b v st->PO.To (.ite false a b) v st
@[simp] theorem LY{v:PV}{s:AG}:¬PO.To .bad v s:=by intro h;cases h
@[simp] theorem B1{v u:PV}{s t:AG}:PO.To (.val v s) u t↔v=u/\s=t:=by
 constructor
 ·intro h;cases h;simp
 ·rintro⟨rfl,rfl⟩;exact .val
@[simp] theorem B4{c:Bool}{v u:PV}{s t:AG}:PO.To (.IW c v s) u t↔c=true/\v=u/\s=t:=by
 constructor
 ·intro h;cases h with
  |tt h=>simp_all
  |ff h=>cases h
 ·rintro⟨rfl,rfl,rfl⟩;exact .tt .val
@[simp] theorem QS{o:Option PV}{u:PV}{s t:AG}:PO.To (ov s o) u t↔o=some u/\s=t:=by
 cases o with
 |none=>simp[ov]
 |some v=>simp only[ov,B1,zh]
@[simp] theorem Wz{c:Bool}{o:Option PV}{u:PV}{s t:AG}:PO.To (zJ c s o) u t↔c=true/\o=some u/\s=t:=by
 cases o with
 |none=>simp[zJ]
 |some v=>simp only[zJ,B4,zh]
def OK(B:Nat)(h0:H0)(F:Fz)(ρ:DZ)(st:AG)(h:H)(a:List Nat)(d:Option OR)(v:PV)(st':AG):Prop:=
 ∃v' h' F' ρ',(d=some (.val v' h')\/(d=some (.skip h')/\v'=.tup []))/\PR F' ρ' st'.nx v v'/\SR B h0 F' ρ' st'.nx st'.ob h'/\Le F ρ st.nx F' ρ' st'.nx/\
  st'.fr=st.fr/\st'.n=st.n/\h.nx<=h'.nx/\∀b,b<h.nx->h'.get b=h.get b\/∃id∈a,∃n,ρ id=some (b,n)
theorem OK.pure{a:List Nat}(e:SR B h0 F ρ st.nx st.ob h){d:Option OR}{v:PV}{v':V}(c:d=some (.val v' h))(b:PR F ρ st.nx v v'):OK B h0 F ρ st h a d v st:=
 ⟨v',h,F,ρ,.inl c,b,e,Le.refl,rfl,rfl,zi _,(by simp)⟩
theorem LP{α:Type}(n:Nat)(l:List α):Det.JP n l=l.drop n:=NP n l
theorem rd_some{h:H}{b off n:Nat}{cs:List V}{t:TypeId}{fz:Nat×Nat}(a:h.get b=some (.cells cs t fz))(c:off+n<=cs.length)(d:∀v∈(cs.drop off).take n,v.ok=true):rd h b off n=some ((cs.drop off).take n):=by
 simp_all [W1,zK]
theorem PY{d:TypeDesc}{n:Nat}{ps:List PV}{cs:List V}(e:BD F ρ N ps cs){p:PV}(a:pick d n ps=some p):
  (Ea d=true/\0<n/\n<=cs.length/\PR F ρ N p (.agg<|cs.take n))\/(Ea d=false/\∃v vs,cs=v::vs/\PR F ρ N p v):=by
 unfold pick at a;cases f:Ea d with
 |true=>
  left;simp only[f,we]at a;rw[DE,N3]at a;cases b:(zx n ps.length&&zt 0 n)with
  |false=>grind
  |true=>
   rw[b]at a;simp only[we,zh]at a;subst a;simp only[zc]at b;obtain⟨b,c⟩:=b;refine⟨rfl,z7 c,by rw[<-e.len];simp_all,?_⟩;exact⟨_,rfl,e.take n⟩
 |false=>
  simp only[f,wg]at a;cases ps with
  |nil=>cases a
  |cons q g=>
   simp only[BD]at e;grind
theorem CF:∀ {s:Sh} {x:s.T} {cs:List V},DC F s x cs->BD F ρ N (flat s x) cs
 | .pair a b,(x,y),cs,h=>by
  obtain⟨c,d,rfl,f,e⟩:=h;exact(CF f).append<|CF e
 | .unit,_,cs,h=>by simp_all [DC,flat]
 | .int k,x,cs,h=>by simp_all [DC,flat,PR]
 | .bool,x,cs,h=>by simp_all [DC,flat,PR]
 | .str,x,cs,h=>by simp_all [DC,flat,PR]
 | .list s,x,cs,h=>by
  have h':=h;obtain⟨v,rfl,_⟩:=h;simp_all [flat,PR]
 | .fnv,x,cs,h=>by subst h;simp only[flat,BB,DH,ve];cases (x:Option Fn)<;>simp[PR]
 | .ptr s,x,cs,h=>by
  obtain⟨b,o,g,rfl,e,j,i⟩:=h;simp only[flat,BB,DH,ve,PR];grind
 | .nlist s,x,cs,h=>by
  have h':=h;obtain⟨v,rfl,_⟩:=h;simp_all [flat,PR]
theorem FH{α:Type}(l:List α)(a b:Nat):l.drop (a+b)=(l.drop a).drop b:=by simp
theorem GZ{T:BX}{t:TypeId}{d:TypeDesc}{i:TI}(n:T.und t=some d)(w:T.inf t=some i){b off:Nat}{cs:List V}{g:TypeId}{fz:Nat×Nat}(e:h.get b=some (.cells cs g fz))
  {m:Nat} (s:∀v∈(cs.drop off).take m,v.ok=true) {ps:List PV} (q:BD F ρ N ps ((cs.drop off).take m)) {p:PV} (c:pick d i.size ps=some p):∃v,EH T h t (.ptr b off)=some v/\PR F ρ N p v:=by
 unfold EH;simp only[n,w];have f:((cs.drop off).take m).length<=cs.length-off:=ah
 rcases PY q c with⟨j,_,y,u⟩|⟨j,v,vs,r,u⟩
 ·rw[rd_some e ae ah];grind
 ·have x:off+1<=cs.length:=by
   grind
  have l:(cs.drop off).take 1=[v]:=by
   have:m≠0:=ah
   obtain⟨k,rfl⟩:=Nat.exists_eq_succ_of_ne_zero this;cases z:cs.drop off with
   |nil=>grind
   |cons a o=>grind
  rw[rd_some e x ah,l];grind
end
section
variable {B:Nat}{h0:H0}{F:Fz}{ρ:DZ}{N:Nat}{C:Ctx}{st st':AG}{fr:Fr}{h:H}
theorem SR.at(a:SR B h0 F ρ N st.ob h){id:Nat}{o:Obj}(c:st.obj id=some o):∃b n x,ρ id=some (b,n)/\h.get b=some x/\Wr F ρ N n o x/\(o.frozen=false->F b=none)/\
  (o.frozen=true->∃cs t fz,x=.cells cs t fz/\F b=some cs):=a.obj id o c
theorem Ph{s:Sh}{l:List s.T}{cs:List V}(b:Dd F s l cs)(c:s.sz=1):∀(n j:Nat),j+n=l.length->BD F ρ N (PU s l j n) (cs.drop j)
 |0,j,f=>by
  have:cs.length=l.length:=by rw[b.1,c,yo]
  simp_all [PU]
 |n+1,j,f=>by
  have a:j<l.length:=ae
  have d:=b.2 j a;rw[c,yo]at d;have e:cs.drop j=(cs.drop j).take 1++cs.drop (j+1):=by
   grind [List.take_append_drop,yp]
  unfold PU;rw[e,show l.getD j s.HO=l[j]from by grind];exact(CF d).append (Ph b c n (j+1) ae)
theorem bN(k:SR B h0 F ρ st.nx st.ob h){t:TypeId}{p:PV}{a:V}(A:PR F ρ st.nx p a){v:PV}(f:(M0 C.T st t p).To v st'):
  OK B h0 F ρ st h [] (Bx h<|EH C.T h t a) v st':=by
 unfold M0 at f;split at f
 case h_2=>simp at f
 rename_i d i D G;split at f
 case h_4=>simp at f
 case h_1=>
  rename_i id off;split at f
  case h_4=>simp at f
  case h_3=>
   rename_i tb ps w;simp only[QS]at f;obtain⟨c,rfl⟩:=f;obtain⟨b,n,x,h1,h2,⟨cs,fz,rfl,h4,_,hbok⟩,_⟩:=k.at w;obtain rfl:=A.2 b n h1;rw[LP]at c;obtain⟨v',q,r⟩:=GZ (h:=h) D G h2 (m:=cs.length) ah (by rw[zm<|by simp];exact h4.drop off) c;exact OK.pure k (by rw[q];rfl) r
  case h_2=>
   rename_i K e s l w;cases g:(ze off 0&&ze s.sz 1)with
   |false=>simp_all
   |true=>
    rw[g]at f;simp only[we,Wz,w5]at f;obtain⟨I,c,rfl⟩:=f;rw[zc]at g;have h0:=zd g.1;have J:=zd g.2;subst h0;obtain⟨b,n,x,h1,h2,⟨cs,fz,rfl,h4,_⟩,_⟩:=k.at w;obtain rfl:=A.2 b n h1;have z:=Ph (ρ:=ρ) (N:=st.nx) h4 J i.size 0 ae;obtain⟨v',q,r⟩:=GZ (h:=h) D G h2 (m:=cs.length) (fun u y=>h4.ok u ah) (by rw[zm<|by simp];exact z) c;exact OK.pure k (by rw[q];rfl) r
  rename_i ps w;simp only[QS]at f;obtain⟨c,rfl⟩:=f;obtain⟨b,n,x,h1,h2,⟨cs,te,fz,rfl,h4,_,hbok⟩,_⟩:=k.at w;obtain rfl:=A.2 b n h1;rw[LP]at c;obtain⟨v',q,r⟩:=GZ (h:=h) D G h2 (m:=cs.length) ah (by rw[zm<|by simp];exact h4.drop off) c;exact OK.pure k (by rw[q];rfl) r
 case h_2=>
  rename_i id sz j off;split at f
  case h_2=>simp at f
  rename_i K e s l w;cases g:ze sz s.sz with
  |false=>simp_all
  |true=>
   rw[g]at f;simp only[we,Wz,w5]at f;obtain⟨I,c,rfl⟩:=f;have g:=zd g;subst g;obtain⟨b,n,x,h1,h2,⟨cs,fz,rfl,h4,_⟩,_⟩:=k.at w;obtain rfl:=A.2 b n h1;have E:=h4.2 j I;rw[show l.getD j s.HO=l[j]from by simp[I],LP]at c;have z:BD F ρ st.nx ((flat s l[j]).drop off) ((cs.drop<|j*s.sz+off).take<|s.sz-off):=by
    have:=(CF (F:=F) (ρ:=ρ) (N:=st.nx) E).drop off;rw[FH, <-zr]at*;omega
   obtain⟨v',q,r⟩:=GZ (h:=h) D G h2 (fun u y=>E.ok u<|List.mem_of_mem_drop (i:=off)<|by rw[FH, <-zr]at y;exact y) z c;exact OK.pure k (by rw[q];rfl) r
 case h_3=>
  rename_i s x off;simp only[QS]at f;obtain⟨c,rfl⟩:=f;obtain⟨b,o,cs,rfl,h1,h2,h3⟩:=A;obtain⟨te,fz,h4⟩:=k.frz b cs h1;rw[LP]at c;have z:BD F ρ st.nx ((flat s x).drop off) ((cs.drop<|o+off).take<|s.sz-off):=by
   have:=(CF (F:=F) (ρ:=ρ) (N:=st.nx) h3).drop off;rw[FH, <-zr]at*;omega
  obtain⟨v',q,r⟩:=GZ (h:=h) D G h4 (fun u y=>h3.ok u<|List.mem_of_mem_drop (i:=off)<|by rw[FH, <-zr]at y;exact y) z c;exact OK.pure k (by rw[q];rfl) r
theorem DC.TV:∀ {s:Sh} {x:s.T} {cs:List V},DC F s x cs->∀v∈cs,v.one=true
 | .int _,_,_,h=>by grind [DC,V.one]
 | .bool,_,_,h=>by grind [DC,V.one]
 | .str,_,_,h=>by grind [DC,V.one]
 | .list s,l,_,h=>by
  obtain⟨u,rfl,h⟩:=h;intro v e;rw[zn.1 e];rcases h with⟨_,rfl|rfl|rfl⟩|⟨b,off,cap,o,f,rfl,_⟩<;>rfl
 | .pair a b,x,_,h=>by
  obtain⟨c,d,rfl,i,g⟩:=h;intro v e;rcases List.mem_append.1 e with e|e
  ·exact i.TV v e
  ·exact g.TV v e
 | .unit,_,_,h=>by grind [DC]
 | .fnv,x,_,h=>by subst h;intro v e;rw[zn.1 e];cases (x:Option Fn)<;>rfl
 | .ptr _,x,_,h=>by obtain⟨b,o,f,rfl,_⟩:=h;intro v e;rw[zn.1 e];rfl
 | .nlist s,l,_,h=>by
  obtain⟨u,rfl,h⟩:=h;intro v e;rw[zn.1 e];rcases h with⟨_,rfl⟩|⟨_,b,off,cap,o,f,rfl,_⟩<;>rfl
theorem Il{o:Option Obj}(h:H7 o=true):∃x,o=some x:=by cases o with|none=>cases h|some x=>simp
theorem QH(f:SR B h0 F ρ st.nx st.ob h){p:PV}{v:V}(e:KT st p=true)(c:PR F ρ st.nx p v):v.one=true:=by
 have key:∀ {id:Nat},H7 (st.obj id)=true->∃b n,ρ id=some (b,n):=by
  intro id i;obtain⟨o,g⟩:=Il i;obtain⟨b,n,_,d,_⟩:=f.at g;grind
 cases p<;>simp only[KT]at e<;>simp only[PR]at c<;>try (cases e;done)
 case bl=>subst c;rfl
 case dat=>exact c.TV v (by simp)
 case nil|nilp|nilm|nilf|nili=>subst c;rfl
 case ptr=>obtain⟨b,n,d⟩:=key e;rw[c.2 b n d];rfl
 case eptr=>obtain⟨b,n,d⟩:=key e;rw[c.2 b n d];rfl
 case Ei=>obtain⟨b,o,cs,rfl,_⟩:=c;rfl
 case sl=>
  obtain⟨b,n,d⟩:=key e;rcases c.2 b n d with⟨_,_,o,_,rfl⟩|⟨_,_,_,rfl|⟨_,rfl,_⟩⟩<;>rfl
 case mp|yl=>obtain⟨b,n,d⟩:=key e;rw[c.2 b n d];rfl
 case fn=>obtain⟨a,b,rfl,_⟩:=c;rfl
theorem Y7{v:V}(h:v.one=true):v.cells=[v]:=by cases v<;>first|rfl|cases h
theorem Nz(d:SR B h0 F ρ st.nx st.ob h){p:PV}{v:V}{ps:List PV}(b:PR F ρ st.nx p v)(a:zM st p=some ps):BD F ρ st.nx ps v.cells:=by
 unfold zM at a;split at a
 ·cases a;obtain⟨cs,rfl,c⟩:=b;exact c
 grind [Y7,QH,BD]
theorem JY(b:SR B h0 F ρ st.nx st.ob h):∀ {ps:List PV} {vs:List V},ps.all (KT st)=true->BD F ρ st.nx ps vs->vs.all V.one=true
 |[],vs,_,h=>by simp_all
 |p::ps,vs,a,h=>by
  obtain⟨v,vs,rfl,d,c⟩:=h;simp only[List.all_cons,zc]at a ⊢;exact⟨QH b a.1 d,JY b a.2 c⟩
theorem BD.JO:∀ {a:List PV} {x:List V} {b:List PV} {y:List V},BD F ρ N a x->BD F ρ N b y->BD F ρ N (JO a b) (JO x y)
 |[],x,b,y,h,h'=>by subst h;exact h'
 |p::ps,x,b,y,h,h'=>by
  obtain⟨v,vs,rfl,c,e⟩:=h;cases b with
  |nil=>subst h';rfl
  |cons q d=>
   obtain⟨u,f,rfl,i,g⟩:=h';show BD F ρ N (p::Det.JO ps d) (v::Det.JO vs f);simp only[BB];exact⟨c,e.JO g⟩
theorem BD.Cn{a:List PV}{x:List V}(c:BD F ρ N a x):∀(n:Nat) {b:List PV} {y:List V},BD F ρ N b y->BD F ρ N (Cn n a b) (Cn n x y)
 |0,b,y,h=>c.JO h
 |n+1,[],y,h=>by subst h;rfl
 |n+1,q::e,y,h=>by
  obtain⟨u,g,rfl,f,d⟩:=h;show BD F ρ N (q::yr n a e) (u::yr n x g);simp only[BB];exact⟨f,BD.Cn c n d⟩
theorem G9:∀(l:Ob) (i:Nat) (x:Obj) (j:Nat),(AN l i).isSome=true->AN (DP l i x) j=if j=i then some x else AN l j
 |[],i,x,j,h=>by cases h
 |(a,o)::l,i,x,j,h=>by
  simp only[DP,AN,Bm]at h ⊢;by_cases e:a=i
  ·subst e;simp only[decide_true,we,AN,Bm];grind
  ·simp only[e,decide_false,wg]at h ⊢;simp only[AN,Bm];by_cases e2:a=j
   ·grind
   ·simp only[e2,decide_false,wg];exact G9 l i x j h
theorem MG{b off:Nat}{vs cs:List V}{t:TypeId}{fz:Nat×Nat}(a:h.get b=some (.cells cs t fz))(e:off+vs.length<=cs.length)(c:fz.2<=fz.1)(d:vs.all V.one=true):
  wr h b off vs=some (h.put b<|.cells (Cn off vs cs) t fz):=by
 unfold wr;simp only[a,DE,Fi,d];simp_all [zp,Det.clear]
theorem SR.set(a:SR B h0 F ρ st.nx st.ob h){id b n:Nat}{o o':Obj}{x x':O}(z:st.obj id=some o)(r:ρ id=some (b,n))(K:h.get b=some x)(T:o.frozen=false)(I:o'.frozen=false)
  (L:Wr F ρ st.nx n o' x'):SR B h0 F ρ st.nx (DP st.ob id o') (h.put b x'):=by
 have u:AN st.ob id=some o:=z;have s:F b=none:=by
  obtain⟨b',n',_,q,_,_,t,_⟩:=a.at z;grind
 have p:∀j,AN (DP st.ob id o') j=if j=id then some o' else AN st.ob j:=(by grind [G9])
 refine⟨fun j oj d=>?_,fun i j oi oj c m M Q d q t=>?_,fun c cs g=>?_,a.own,fun j d=>?_,fun c g v=>?_,fun c E g=>?_,a.le,a.fo,a.gl,fun c g=>?_⟩
 ·rw[p]at d;by_cases e:j=id
  ·subst e;simp only[wm,zh]at d;subst d;exact⟨b,n,x',r,by simp,L,fun _=>s,ah⟩
  ·rw[wc e]at d;obtain⟨c,m,y,q,t,P,G,D⟩:=a.obj j oj d;have f:c≠b:=fun J=>e<|a.inj j id oj o c m n d u q<|J▸r
   exact⟨c,m,y,q,by simp_all,P,G,D⟩
 ·have l:∀k ok,AN (DP st.ob id o') k=some ok->∃R,AN st.ob k=some R:=by
   grind
  obtain⟨_,w⟩:=l i oi Q;obtain⟨_,A⟩:=l j oj d;exact a.inj i j _ _ c m M w A q t
 ·have f:c≠b:=ah;rw[H.BT,wc f];exact a.frz c cs g
 ·rw[p]at d;by_cases e:j=id
  ·grind
  ·rw[wc e]at d;exact a.dead j d
 ·have f:c≠b:=NN (a.own id b n r).2 g v;rw[H.BT,wc f];exact a.old c g v
 ·rw[H.BT]at g;by_cases e:c=b
  ·subst e;exact a.lt _ _ K
  ·rw[wc e]at g;exact a.lt c E g
 ·obtain⟨w,A,S⟩:=a.pn c g;have f:c≠b:=ah;simp_all
def Bq(ρ:DZ)(i:Nat)(x:Option (Nat×Nat)):DZ:=fun j=>if j=i then x else ρ j
theorem Le.Jb(i:Nat):Le F ρ N F (Bq ρ i none) N:=⟨fun _ _ h=>h,(by grind [Bq]),zi _⟩
theorem Le.new(x:Nat×Nat):Le F ρ N F (Bq ρ N<|some x) (N+1):=⟨fun _ _ h=>h,fun id h=>by unfold Bq;grind,Nat.le_succ _⟩
theorem SR.push{ob:Ob}(a:SR B h0 F ρ N ob h){o:Obj}{x:O}{n:Nat}(U:o.frozen=false)(Q:Wr F (Bq ρ N<|some (h.nx,n)) (N+1) n o x):
  SR B h0 F (Bq ρ N<|some (h.nx,n)) (N+1) ((N,o)::ob) (h.push x):=by
 have K:Le F ρ N F (Bq ρ N<|some (h.nx,n)) (N+1):=Le.new _;have f:∀j,AN ((N,o)::ob) j=if j=N then some o else AN ob j:=by
  simp only[AN,Bm];grind
 have v:∀b y,h.get b=some y->b≠h.nx:=fun b y l=>by have:=a.lt b y l;omega
 refine⟨fun j oj d=>?_,fun i j oi oj c m r A d q w=>?_,fun c cs g=>?_,fun id b m l=>?_,fun j d=>?_,fun c g E=>?_,fun c I g=>?_,?_,?_,a.gl,fun c g=>?_⟩
 ·rw[f]at d;by_cases e:j=N
  ·subst e;simp only[wm,zh]at d;subst d;refine⟨h.nx,n,x,by simp[Bq],by simp,Q,fun _=>?_,ah⟩;cases g:F h.nx with
   |none=>rfl
   |some cs=>
    obtain⟨t,fz,P⟩:=a.frz _ _ g;grind
  ·rw[wc e]at d;obtain⟨c,m,y,q,w,R,J,G⟩:=a.obj j oj d;exact⟨c,m,y,by simp[Bq,e,q],by simp_all,R.mono K,J,G⟩
 ·rw[f]at A d;have key:∀k ok m,(if k=N then some o else AN ob k)=some ok->Bq ρ N (some (h.nx,n)) k=some (c,m)->(k=N/\c=h.nx)\/(k≠N/\AN ob k=some ok/\ρ k=some (c,m)/\c≠h.nx):=by
   intro k ok m s p;by_cases e:k=N
   ·simp_all [Bq]
   ·rw[wc e]at s;simp only[Bq,e,vf]at p;obtain⟨T,r,y,L,z,_⟩:=a.obj k ok s;grind
  rcases key i oi m A q with⟨e1,e2⟩|⟨e1,e2,e3,e4⟩<;>rcases key j oj r d w with⟨M,u⟩|⟨M,u,D,V⟩
  ·omega
  ·omega
  ·omega
  ·exact a.inj i j oi oj c m r e2 u e3 D
 ·obtain⟨t,fz,P⟩:=a.frz c cs g;simp_all
 ·unfold Bq at l;split at l
  ·cases l;exact⟨ae,.inl a.le⟩
  ·have:=a.own id b m l;grind
 ·rw[f]at d;by_cases e:j=N
  ·grind
  ·rw[wc e]at d;simp[Bq,e,a.dead j d]
 ·have:=a.le;rw[H.Cw,wc ae];exact a.old c g E
 ·rw[H.Cw]at g;by_cases e:c=h.nx
  ·simp_all
  ·rw[wc e]at g;have:=a.lt c I g;show c<h.nx+1;omega
 ·have:=a.le;show B<=h.nx+1;omega
 ·exact a.fo
 ·obtain⟨L,z,S⟩:=a.pn c g;refine⟨by simp_all,z,fun id m e=>?_⟩;unfold Bq at e;grind
theorem Di:∀(l:Ob) (i j:Nat),AN (F9 l i) j=if j=i then none else AN l j
 |[],i,j=>by simp[F9,AN]
 |(a,o)::l,i,j=>by
  simp only[F9,Bm];by_cases e:a=i
  ·subst e;simp only[decide_true,we];rw[Di l a j];simp only[AN,Bm];grind
  ·simp only[e,decide_false,wg,AN,Bm];rw[Di l i j];grind
theorem SR.del{ob:Ob}(d:SR B h0 F ρ N ob h)(id:Nat):SR B h0 F (Bq ρ id none) N (F9 ob id) h:=by
 have q:Le F ρ N F (Bq ρ id none) N:=Le.Jb id;refine⟨fun j oj a=>?_,fun i j oi oj c m o k a l f=>?_,d.frz,fun j b m g=>?_,fun j a=>?_,d.old,d.lt,d.le,d.fo,d.gl,fun c p=>?_⟩
 ·rw[Di]at a;split at a
  ·cases a
  ·rename_i e;obtain⟨c,m,y,l,f,r,n⟩:=d.obj j oj a;exact⟨c,m,y,by simp[Bq,e,l],f,r.mono q,n⟩
 ·rw[Di]at k a;split at k
  ·cases k
  split at a
  ·cases a
  rename_i e1 e2;simp only[Bq,e1,e2,vf]at l f;exact d.inj i j oi oj c m o k a l f
 ·unfold Bq at g;split at g
  ·cases g
  ·exact d.own j b m g
 ·rw[Di]at a;unfold Bq;split
  ·rfl
  ·rename_i e;rw[wc e]at a;exact d.dead j a
 ·obtain⟨u,s,t⟩:=d.pn c p;grind [Bq]
theorem SR.kill{ob:Ob}(a:SR B h0 F ρ N ob h){b:Nat}(t:∀id o n,AN ob id=some o->ρ id≠some (b,n))(r:F b=none)(q:h0.ZP B b)(s:b∉h0.pin):SR B h0 F ρ N ob (h.kill b):=by
 refine⟨fun j oj k=>?_,a.inj,fun c cs d=>?_,a.own,a.dead,fun c d e=>?_,fun c l d=>?_,a.le,a.fo,a.gl,fun c d=>?_⟩
 ·obtain⟨c,m,y,g,p,f⟩:=a.obj j oj k;have:c≠b:=ah;exact⟨c,m,y,g,by simp_all,f⟩
 ·have:c≠b:=ah;rw[H.Dv,wc this];exact a.frz c cs d
 ·have:c≠b:=NN q d e;rw[H.Dv,wc this];exact a.old c d e
 ·rw[H.Dv]at d;split at d
  ·cases d
  ·exact a.lt c l d
 ·obtain⟨g,p,f⟩:=a.pn c d;have i:c≠b:=ah;simp_all
theorem Ct{s a:Sh}{x:s.T}{y:a.T}(h:El s a x=some y):∃e:s=a,e▸x=y:=by
 simp_all [El]
theorem Gj{s:Sh}{p:PV}{x:s.T}{v:V}(b:PR F ρ N p v)(a:qC s p=some x):DC F s x [v]:=by
 unfold qC at a;split at a
 ·unfold asP at a;split at a
  ·obtain⟨rfl,rfl⟩:=Ct a;simp_all [PR,DC]
  grind
 ·obtain⟨rfl,rfl⟩:=Ct a;simpa only[PR]using b
 ·obtain⟨rfl,rfl⟩:=Ct a;grind [PR,DC]
 ·obtain⟨rfl,rfl⟩:=Ct a;simp_all [PR,DC]
 ·obtain⟨rfl,rfl⟩:=Ct a;grind [PR,DC]
 ·split at a
  ·grind [PR,DC]
  ·grind [PR,DC]
  grind
 grind
theorem Hq:∀ {s:Sh} {ps:List PV} {vs:List V} {x:s.T} {e:List PV},BD F ρ N ps vs->Ck s ps=some (x,e)->∃a b,vs=a++b/\DC F s x a/\BD F ρ N e b
 | .pair s t,ps,vs,x,e,g,f=>by
  unfold Ck at f;split at f
  case h_2=>cases f
  rename_i y l1 j;split at f
  case h_2=>cases f
  rename_i z l2 i;cases f;obtain⟨a,b,rfl,n,m⟩:=Hq g j;obtain⟨c,d,rfl,g3,g4⟩:=Hq m i;exact⟨a++c,d,by simp,by simp only[DC];grind,g4⟩
 | .unit,ps,vs,x,e,g,f=>by
  cases f;exact⟨[],vs,rfl,by simp[DC],g⟩
 | .int k,[],vs,x,e,g,f=>by simp[Ck]at f
 | .bool,[],vs,x,e,g,f=>by simp[Ck]at f
 | .str,[],vs,x,e,g,f=>by simp[Ck]at f
 | .list s,[],vs,x,e,g,f=>by simp[Ck]at f
 | .nlist s,[],vs,x,e,g,f=>by simp[Ck]at f
 | .fnv,[],vs,x,e,g,f=>by simp[Ck]at f
 | .ptr _,[],vs,x,e,g,f=>by simp[Ck]at f
 | .int k,p::ps,vs,x,e,g,f=>by
  obtain⟨v,vs,rfl,j,i⟩:=g;simp only[Ck]at f;split at f
  ·rename_i y l;cases f;exact⟨[v],vs,rfl,Gj j l,i⟩
  grind
 | .bool,p::ps,vs,x,e,g,f=>by
  obtain⟨v,vs,rfl,j,i⟩:=g;simp only[Ck]at f;split at f
  ·rename_i y l;cases f;exact⟨[v],vs,rfl,Gj j l,i⟩
  grind
 | .str,p::ps,vs,x,e,g,f=>by
  obtain⟨v,vs,rfl,j,i⟩:=g;simp only[Ck]at f;split at f
  ·rename_i y l;cases f;exact⟨[v],vs,rfl,Gj j l,i⟩
  grind
 | .list s,p::ps,vs,x,e,g,f=>by
  obtain⟨v,vs,rfl,j,i⟩:=g;simp only[Ck]at f;split at f
  ·rename_i y l;cases f;exact⟨[v],vs,rfl,Gj j l,i⟩
  grind
 | .fnv,p::ps,vs,x,e,g,f=>by
  obtain⟨v,vs,rfl,j,i⟩:=g;simp only[Ck]at f;split at f
  ·rename_i y l;cases f;exact⟨[v],vs,rfl,Gj j l,i⟩
  grind
 | .ptr s,p::ps,vs,x,e,g,f=>by
  obtain⟨v,vs,rfl,j,i⟩:=g;simp only[Ck]at f;split at f
  ·rename_i y l;cases f;exact⟨[v],vs,rfl,Gj j l,i⟩
  grind
 | .nlist s,p::ps,vs,x,e,g,f=>by
  obtain⟨v,vs,rfl,j,i⟩:=g;simp only[Ck]at f;split at f
  ·rename_i y l;cases f;exact⟨[v],vs,rfl,Gj j l,i⟩
  grind
theorem CM{s:Sh}{ps:List PV}{vs:List V}{x:s.T}(d:BD F ρ N ps vs)(c:Dg s ps=some x):DC F s x vs:=by
 unfold Dg at c;split at c
 ·rename_i y e;obtain⟨a,b,rfl,g,f⟩:=Hq d e;simp_all
 grind
theorem TX{v:V}:∀(vs cs:List V) (off:Nat),v∈G4 cs off vs->v∈vs\/v∈cs
 |[],cs,off,h=>.inr h
 |u::vs,cs,off,h=>by
  rcases TX vs _ _ h with h|h
  ·grind
  grind
theorem UX{v:V}{vs cs:List V}{off:Nat}(h:v∈yr off vs cs):v∈vs\/v∈cs:=by
 grind [Jo,TX]
theorem GR{cs vs:List V}{off:Nat}(a:off+vs.length<=cs.length)(j:Nat):(Cn off vs cs)[j]?=if off<=j/\j<off+vs.length then vs[j-off]? else cs[j]?:=by
 grind [Jo,Oe]
theorem eI{cs vs:List V}{off:Nat}:(Cn off vs cs).length=cs.length:=by
 grind [Jo,IJ]
theorem zA{cs vs:List V}{m off k:Nat}(b:off+vs.length<=k)(c:m+k<=cs.length):((Cn (m+off) vs cs).drop m).take k=Cn off vs ((cs.drop m).take k):=by
 apply z6;intro j;rw[GR ah];by_cases a:j<k
 ·rw[zw a,yf,GR ae];grind
 grind
theorem oA{cs vs:List V}{m p k:Nat}(c:p+vs.length<=m\/m+k<=p)(b:p+vs.length<=cs.length):((Cn p vs cs).drop m).take k=(cs.drop m).take k:=by
 apply z6;intro j;by_cases a:j<k
 ·rw[zw a,zw a,yf,yf,GR b,wc ae]
 grind
theorem Dd.set{s:Sh}{l:List s.T}{cs vs:List V}{j off:Nat}{y:s.T}(a:Dd F s l cs)(d:j<l.length)(c:off+vs.length<=s.sz)(g:DC F s y (Cn off vs<|(cs.drop<|j*s.sz).take s.sz)):
  Dd F s (l.set j y) (Cn (j*s.sz+off) vs cs):=by
 have f:j*s.sz+s.sz<=cs.length:=by
  rw[a.1, <-zu];exact zg _ d
 refine⟨by rw[eI,List.length_set];exact a.1,fun i k=>?_⟩;have b:i<l.length:=ah
 by_cases e:i=j
 ·simp_all [zA]
 ·rw[List.getElem_set_ne ae,oA ?_ ae]
  ·exact a.2 i b
  ·rcases Nat.lt_or_gt_of_ne e with h1|h1
   ·have:(i+1)*s.sz<=j*s.sz:=zg _ h1;grind
   ·have:(j+1)*s.sz<=i*s.sz:=zg _ h1;grind
theorem Jg{s:Sh}:∀ {n:Nat} {ps:List PV} {vs:List V} {l:List s.T},BD F ρ N ps vs->chunk s n ps=some l->vs.length=n*s.sz->l.length=n/\Dd F s l vs
 |0,ps,vs,l,e,c,k=>by
  cases c;simp_all [Dd]
 |n+1,ps,vs,l,e,c,k=>by
  unfold chunk at c;split at c
  case h_2=>cases c
  rename_i x d g;rw[zf]at c;obtain⟨l',f,rfl⟩:=c;obtain⟨a,b,rfl,h2,h3⟩:=Hq e g;have o:=h2.len;have j:b.length=n*s.sz:=ah
  obtain⟨m,p⟩:=Jg h3 f j;refine⟨by simp[m],by grind,fun i q=>?_⟩;cases i with
  |zero=>
   grind
  |succ i=>
   grind [zu,FH,Dd]
theorem cI{cs a:List V}(h:a.length=cs.length):yr 0 a cs=a:=by
 apply z6;simp_all [GR]
theorem mZ(w:SR B h0 F ρ st.nx st.ob h){t:TypeId}{p q:PV}{a x:V}(I:PR F ρ st.nx p a)(Y:PR F ρ st.nx q x){v:PV}(d:(Vk C.T st t p q).To v st'):
  ∃id,((∃off,p=.ptr id off)\/∃sz j off,p=.eptr id sz j off)/\OK B h0 F ρ st h [id] (eE<|Hp C.T h t a x) v st':=by
 unfold Vk at d;split at d
 case h_2=>simp at d
 rename_i i M L S;cases R:(ze (Det.Fm M) i.size&&Det.KU (KT st) M)with
 |false=>simp_all
 |true=>
  rw[R]at d;simp only[zc]at R;obtain⟨U,J⟩:=R;rw[DE]at U;rw[Fi]at J;have g:=Nz w Y S;have r:x.cells.length=i.size:=by rw[<-g.len];simp_all
  have o:=JY w J g;have A:ze x.cells.length i.size=true:=by simp_all
  simp only[we]at d;split at d
  case h_3=>simp at d
  case h_1=>
   rename_i id off;split at d
   case h_4=>simp_all
   case h_3=>
    rename_i tb ps u;cases k:zx (yb off i.size) (Det.Fm ps)with
    |false=>simp_all
    |true=>
     rw[k]at d;simp only[we,B1]at d;obtain⟨rfl,rfl⟩:=d;obtain⟨b,n,y,h1,h2,⟨cs,fz,rfl,h4,h5,hbok⟩,hf,_⟩:=w.at u;simp only[PR]at I;obtain rfl:=I.2 b n h1;rw[DE]at k;have m:off+x.cells.length<=cs.length:=by rw[<-h4.len,r];simp_all
     refine⟨id,(by simp),.tup [],_,F,ρ,.inr ⟨?_,rfl⟩,by simp[PR],w.set u h1 h2 rfl rfl (o':=.tbox tb<|yr off M ps) ⟨_,fz,rfl,g.Cn off h4,h5,(by grind [UX,V.Ma])⟩,Le.refl,rfl,rfl,zi _,fun c _=>?_⟩
     ·unfold Hp;simp only[L,A,we];rw[MG h2 m h5 o];rfl
     ·rw[H.BT];grind
   case h_2=>
    rename_i e s l u;cases f:(ze off 0&&ze s.sz 1)with
    |false=>simp_all
    |true=>
     rw[f]at d;rw[zc]at f;have D:=zd f.1;have Q:=zd f.2;subst D;simp only[we]at d;split at d
     case h_2=>simp_all
     rename_i y K;simp only[B4,w5]at d;obtain⟨E,rfl,rfl⟩:=d;obtain⟨b,n,z,h1,h2,⟨cs,fz,rfl,h4,h5,h6⟩,hf,_⟩:=w.at u;obtain rfl:=I.2 b n h1;have X:cs.length=x.cells.length:=by rw[h4.1,Q,yo,r];exact E
     obtain⟨k1,Z⟩:=Jg g K ah;have m:0+x.cells.length<=cs.length:=ae
     refine⟨id,(by simp),.tup [],_,F,ρ,.inr ⟨?_,rfl⟩,by simp[PR],w.set u h1 h2 rfl rfl (o':=.arr false e s y) ⟨yr 0 x.cells cs,fz,rfl,by grind [cI],h5,by omega⟩,Le.refl,rfl,rfl,zi _,fun c _=>?_⟩
     ·unfold Hp;simp only[L,A,we];rw[MG h2 m h5 o];rfl
     ·rw[H.BT];grind
   rename_i ps u;cases k:zx (yb off i.size) (Det.Fm ps)with
   |false=>simp_all
   |true=>
    rw[k]at d;obtain⟨rfl,rfl⟩:=d;obtain⟨b,n,y,h1,h2,⟨cs,te,fz,rfl,h4,h5,hbok⟩,hf,_⟩:=w.at u;obtain rfl:=I.2 b n h1;rw[DE]at k;have m:off+x.cells.length<=cs.length:=by rw[<-h4.len,r];simp_all
    refine⟨id,(by simp),.tup [],_,F,ρ,.inr ⟨?_,rfl⟩,by simp[PR],w.set u h1 h2 rfl rfl (o':=.box<|yr off M ps) ⟨_,te,fz,rfl,g.Cn off h4,h5,(by grind [UX,V.Ma])⟩,Le.refl,rfl,rfl,zi _,fun c _=>?_⟩
    ·unfold Hp;simp only[L,A,we];rw[MG h2 m h5 o];rfl
    ·rw[H.BT];grind
  case h_2=>
   rename_i id sz j off;split at d
   case h_2=>simp at d
   rename_i e s l u;cases f:(ze sz s.sz&&zx (yb off i.size) sz)with
   |false=>rw[f]at d;simp at d
   |true=>
    rw[f]at d;simp only[zc]at f;have O:=zd f.1;have D:=z7 f.2;subst O;simp only[we]at d;split at d
    case h_2=>simp at d
    rename_i y K;simp only[B4,w5]at d;obtain⟨E,rfl,rfl⟩:=d;obtain⟨b,n,z,h1,h2,⟨cs,fz,rfl,h4,h5,h6⟩,hf,_⟩:=w.at u;obtain rfl:=I.2 b n h1;rw[show l.getD j s.HO=l[j]from by simp[E]]at K;have P:=CF (F:=F) (ρ:=ρ) (N:=st.nx)<|h4.2 j E;have W:=CM (g.Cn off P) K;have G:=Dd.set h4 E ah W;have m:j*s.sz+off+x.cells.length<=cs.length:=by
     have:j*s.sz+s.sz<=cs.length:=by rw[h4.1, <-zu];exact zg _ E
     grind
    refine⟨id,(by simp),.tup [],_,F,ρ,.inr ⟨?_,rfl⟩,by simp[PR],w.set u h1 h2 rfl rfl (o':=.arr false e s<|l.set j y) ⟨_,fz,rfl,G,h5,by grind⟩,Le.refl,rfl,rfl,zi _,fun c _=>?_⟩
    ·unfold Hp;simp only[L,A,we];rw[MG h2 m h5 o];rfl
    ·rw[H.BT];grind
theorem C8{k:IntKind}{n:Int}{v:V}(h:PR F ρ N (.dat (.int k) n) v):v=.int k n:=by simpa [PR,DC]using h
theorem FQ{s:Rd}{v:V}(h:PR F ρ N (.dat .str s) v):v=.str s:=by simpa [PR,DC]using h
theorem Lc{b:Bool}{v:V}(h:PR F ρ N (.dat .bool b) v):v=.bool b:=by simpa [PR,DC]using h
theorem N7{b:Bool}{v:V}(h:PR F ρ N (.bl b) v):v=.bool b:=by simpa [PR]using h
theorem Dp(k:IntKind)(n:Int):PR F ρ N (.dat (.int k) n) (.int k n):=by rfl
theorem V9(s:Rd):PR F ρ N (.dat .str s) (.str s):=by rfl
theorem DF(b:Bool):PR F ρ N (.dat .bool b) (.bool b):=by rfl
theorem lO(b:Bool):PR F ρ N (.bl b) (.bool b):=by simp[PR]
theorem HP{p:PV}{b:Bool}{v:V}(h:Jn p=some b)(a:PR F ρ N p v):v=.bool b:=by
 unfold Jn at h;grind [N7,Lc]
theorem Abu(d:SR B h0 F ρ st.nx st.ob h){op:BinOp}{k:IntKind}{a b:Int}{v:PV}(c:(xN op k a b st).To v st'):OK B h0 F ρ st h [] (Bx h<|Oc op k a b) v st':=by
 unfold xN at c;split at c<;>simp only[LY,B1,B4,w5,vc]at c
 all_goals first
  |(obtain⟨rfl,rfl⟩:=c;exact OK.pure d rfl (Dp _ _))
  |(obtain⟨rfl,rfl⟩:=c;exact OK.pure d rfl (DF _))
  |(obtain⟨e,rfl,rfl⟩:=c;simp_all [OK.pure,Oc,Bx,Dp])
theorem Acd(d:SR B h0 F ρ st.nx st.ob h){op:BinOp}{k:IntKind}{a b:Int}{v:PV}(c:(psh op k a b st).To v st'):OK B h0 F ρ st h [] (Bx h<|Z4 op k a b) v st':=by
 unfold psh at c;split at c<;>simp only[LY,B4,w5]at c
 all_goals
  obtain⟨e,rfl,rfl⟩:=c;exact OK.pure d (by simp only[Z4,Int.not_lt.2 e,vf,Bx])<|Dp _ _
theorem Abq(b:SR B h0 F ρ st.nx st.ob h){op:BinOp}{x y:Rd}{v:PV}(a:(vK op x y st).To v st'):OK B h0 F ρ st h [] (Bx h<|TF op x y) v st':=by
 unfold vK at a;split at a<;>simp only[LY,B1,B4,w5]at a
 all_goals first
  |(obtain⟨rfl,rfl⟩:=a;exact OK.pure b rfl (DF _))
  |(obtain⟨c,rfl,rfl⟩:=a;simp_all [OK.pure,TF,Bx,V9])
theorem Qh:∀ {ks:List FK} {ps l:List PV} {e f:List V} {r:Bool},BD F ρ N ps e->BD F ρ N l f->G3 ks ps l=some r->fit ks e=true/\fit ks f=true/\BM e f=some r
 |[],[],[],e,f,r,i,j,d=>by
  subst i j;simp only[G3,zh]at d;subst d;exact⟨rfl,rfl,rfl⟩
 |[],_::_,_,e,f,r,i,j,d=>by simp[G3]at d
 |[],[],_::_,e,f,r,i,j,d=>by simp[G3]at d
 |k::ks,[],_,e,f,r,i,j,d=>by grind [G3]
 |k::ks,_::_,[],e,f,r,i,j,d=>by grind [G3]
 |k::ks,p::ps,q::l,e,f,r,i,j,d=>by
  obtain⟨x,e,rfl,g,m⟩:=i;obtain⟨y,f,rfl,hy1,hy2⟩:=j;have key:∀ {c:Bool},k.ok x=true->k.ok y=true->Eb x y=some c->(G3 ks ps l).map (fun r=>c&&r)=some r->fit (k::ks) (x::e)=true/\fit (k::ks) (y::f)=true/\BM (x::e) (y::f)=some r:=by
   intro c z D L o;rw[zf]at o;obtain⟨K,u,rfl⟩:=o;obtain⟨g1,g2,g3⟩:=Qh m hy2 u;refine⟨by simp[fit,z,g1],by simp[fit,D,g2],?_⟩;have J:e.length=f.length:=by rw[<-SL g1, <-SL g2]
   cases c with
   |true=>simp_all [BM]
   |false=>simp_all [BM]
  unfold G3 at d;split at d
  case h_1=>grind
  case h_2=>
   rename_i n E v a w s b G e1 e2 e3;cases e2;cases e3;cases I:(n==v&&n==s)with
   |false=>grind
   |true=>
    obtain rfl:=C8 g;obtain rfl:=C8 hy1;grind [FK.ok,Eb]
  case h_3=>
   rename_i e1 e2 e3;cases e1;cases e2;cases e3;obtain rfl:=FQ g;obtain rfl:=FQ hy1;exact key rfl rfl (by rfl) d
  case h_4=>
   rename_i e1 e2 e3;cases e1;cases e2;cases e3;split at d
   case h_2=>cases d
   rename_i a b A t;obtain rfl:=HP A g;obtain rfl:=HP t hy1;exact key rfl rfl rfl d
  grind
theorem X3(q:SR B h0 F ρ st.nx st.ob h){op:BinOp}{t e:TypeId}(k:C.T.und t=some (.slice e)){p:PV}{x:V}(d:PR F ρ st.nx p x){ng:Bool}{v:PV}(a:(Rw st ng p).To v st'):
  (∀(_:x=.nili),False)/\∃b,Bs C.T t x .nils=some b/\PR F ρ st.nx v (.bool<|b !=ng)/\J6 C.T op t x .nils=(match op with| .eql=>(Bs C.T t x .nils).map fun b=>.bool b| .neq=>(Bs C.T t x .nils).map fun b=>.bool !b|_=>none)/\st'=st:=by
 have dq:∀ {x:V},x=.nils\/x=.esl\/x=.es0\/(∃b off len cap o,x=.sl b off len cap o)->J6 C.T op t x .nils=(match op with| .eql=>(Bs C.T t x .nils).map fun b=>.bool b| .neq=>(Bs C.T t x .nils).map fun b=>.bool !b|_=>none):=by
  rintro x (rfl|rfl|rfl|⟨b,off,len,cap,o,rfl⟩)<;>cases op<;>rfl
 have no:∀ {x:V},x=.esl\/x=.es0\/(∃b off len cap o,x=.sl b off len cap o)->Bs C.T t x .nils=some false:=by
  rintro x (rfl|rfl|⟨b,off,len,cap,o,rfl⟩)<;>simp[Bs,k]
 have yes:Bs C.T t .nils .nils=some true:=by simp[Bs,k]
 unfold Rw at a;split at a
 case h_1=>
  simp only[B1]at a;obtain⟨rfl,rfl⟩:=a;simp only[PR]at d;subst d;exact⟨(by simp),true,yes,by simp[PR],dq<|.inl rfl,rfl⟩
 case h_2=>
  rename_i id sz off len cap;cases i:H7 (st.obj id)with
  |false=>rw[i]at a;simp at a
  |true=>
   rw[i]at a;simp only[we,B1]at a;obtain⟨rfl,rfl⟩:=a;obtain⟨o,ho⟩:=Il i;obtain⟨b,n,_,h1,_⟩:=q.at ho;simp only[PR]at d;have:x=.esl\/x=.es0\/(∃b off len cap o,x=.sl b off len cap o):=by
    grind
   exact⟨ah,false,no this,by simp[PR],dq<|.inr this,rfl⟩
 case h_3=>
  rename_i s l;simp only[PR,DC]at d;obtain⟨u,g,d⟩:=d;obtain rfl:x=u:=ah
  have f:(decide (0<(l:List s.T).length)=true/\v=.bl ng/\st'=st)\/(v=.ub/\st'=st):=by
   generalize decide (0<(l:List s.T).length)=c at a;cases a with
   |tt a=>simp only[B1]at a;grind
   |ff a=>grind [B1]
  rcases f with⟨r,rfl,rfl⟩|⟨rfl,rfl⟩
  ·rcases d with⟨rfl,_⟩|⟨b,off,cap,o,j,rfl,_⟩
   ·grind
   ·exact⟨(by simp),false,ah,by simp[PR],ah,rfl⟩
  ·rcases d with⟨rfl,rfl|rfl|rfl⟩|⟨b,off,cap,o,j,rfl,_⟩
   ·exact⟨(by simp),true,yes,by simp[PR],dq<|.inl rfl,rfl⟩
   ·exact⟨(by simp),false,no<|.inl rfl,by simp[PR],ah,rfl⟩
   ·exact⟨(by simp),false,ah,by simp[PR],ah,rfl⟩
   ·exact⟨(by simp),false,ah,by simp[PR],ah,rfl⟩
 case h_4=>
  rename_i s l;simp only[B1]at a;obtain⟨rfl,rfl⟩:=a;simp only[PR,DC]at d;obtain⟨u,g,d⟩:=d;obtain rfl:x=u:=ah
  rcases d with⟨rfl,rfl⟩|⟨h0,b,off,cap,o,j,rfl,_⟩
  ·exact⟨(by simp),true,yes,by cases ng<;>simp[PR,DC],dq<|.inl rfl,rfl⟩
  ·have m:0<(l:List s.T).length:=ah;exact⟨(by simp),false,ah,by grind [PR,DC],ah,rfl⟩
 case h_5=>simp at a
theorem Vu{o:Option Obj}(h:H7 o=true):∃x,o=some x:=by
 cases o with
 |none=>cases h
 |some x=>simp
theorem QW(u:SR B h0 F ρ st.nx st.ob h){t e:TypeId}{p q:PV}{x y:V}(f:C.T.und t=some (.pointer e))(g:PR F ρ st.nx p x)(k:PR F ρ st.nx q y){r:Bool}(d:ptrEq C.T e st p q=some r):
  Bs C.T t x y=some r/\x≠ .nili/\∀op,J6 C.T op t x y=(match op with| .eql=>(Bs C.T t x y).map .bool| .neq=>(Bs C.T t x y).map fun b=>.bool !b|_=>none):=by
 have live:∀ {id off:Nat} {v:V},PR F ρ st.nx (.ptr id off) v->H7 (st.obj id)=true->∃b n,ρ id=some (b,n)/\v=.ptr b off:=by
  intro id off v D c;obtain⟨o,A⟩:=Vu c;obtain⟨b,n,_,h1,_⟩:=u.at A;grind [PR]
 unfold ptrEq at d;split at d
 case h_5=>cases d
 case h_1=>
  cases d;subst g k;exact⟨by unfold Bs;rw[f],(by simp),fun op=>by cases op<;>rfl⟩
 case h_2=>
  rename_i id off;cases c:H7 (st.obj id)with
  |false=>grind
  |true=>
   rw[c]at d;cases d;obtain⟨b,n,_,rfl⟩:=live g c;subst k;exact⟨by unfold Bs;rw[f],(by simp),fun op=>by cases op<;>rfl⟩
 case h_3=>
  rename_i id off;cases c:H7 (st.obj id)with
  |false=>grind
  |true=>
   rw[c]at d;cases d;obtain⟨b,n,_,rfl⟩:=live k c;subst g;exact⟨by unfold Bs;rw[f],(by simp),fun op=>by cases op<;>rfl⟩
 case h_4=>
  rename_i a i b j;cases c:(ze a b&&H7 (st.obj a))with
  |false=>grind
  |true=>
   rw[c]at d;rw[zc]at c;have l:=zd c.1;subst l;split at d
   case h_2=>cases d
   rename_i z m;cases s:zt 0 z.size with
   |false=>grind
   |true=>
    rw[s]at d;cases d;rw[Nat.blt_eq]at s;obtain⟨b,n,w,rfl⟩:=live g c.2;obtain⟨b',n',g2,rfl⟩:=live k c.2;rw[w]at g2;cases g2;refine⟨?_,(by simp),fun op=>by cases op<;>rfl⟩;unfold Bs;rw[f];simp only[wm,m];rw[wd ae];congr 1;rw[Bm,Bool.eq_iff_iff];simp
theorem Abt(f:SR B h0 F ρ st.nx st.ob h){op:BinOp}{t:TypeId}{z A:Operand}{p q:PV}{x y:V}(g:PR F ρ st.nx p x)(j:PR F ρ st.nx q y){v:PV}(c:(yA C.T op t p q st).To v st'):
  OK B h0 F ρ st h [] (Bx h<|JG C.T op t z A x y) v st':=by
 have o:∀ {x y:V},(∀(e:x=.nili),False)->JG C.T op t z A x y=J6 C.T op t x y:=by
  simp_all [JG,nU]
 unfold yA at c;split at c
 case h_1=>
  rename_i k a D b;obtain rfl:=C8 g;obtain rfl:=C8 j;rw[o<|by simp];cases i:oF op with
  |true=>
   rw[i]at c;have:=Acd f c;unfold J6;grind [oF]
  |false=>
   rw[i]at c;cases l:(k==D)with
   |false=>simp_all
   |true=>
    rw[l]at c;have:=Abu f c;have l:=wk.1 l;subst l;unfold J6;cases op<;>simp only[oF]at i<;>first|(cases i;done)|(simp only[wm];exact this)
 case h_2=>
  obtain rfl:=FQ g;obtain rfl:=FQ j;grind [Abq,J6]
 case h_3=>
  rename_i ps I;obtain⟨n,rfl,g⟩:=g;obtain⟨ys,rfl,j⟩:=j;split at c
  case h_2=>simp at c
  rename_i ks G;have eq:∀ {r:Bool},G3 ks ps I=some r->Bs C.T t (.agg n) (.agg ys)=some r:=by
   intro r d;obtain⟨M,O,L⟩:=Qh g j d;simp_all [O7,Bs]
  split at c
  case h_1=>
   rename_i r d;obtain⟨rfl,rfl⟩:=c;exact OK.pure f (by show Bx h ((Bs C.T t (.agg n)<|.agg ys).map _)=_;rw[eq d];rfl)<|DF _
  case h_2=>
   rename_i r d;obtain⟨rfl,rfl⟩:=c;exact OK.pure f (by show Bx h ((Bs C.T t (.agg n)<|.agg ys).map _)=_;rw[eq d];rfl) (DF _)
  simp_all
 case h_4=>
  split at c
  case h_4=>simp at c
  case h_3=>
   split at c
   case h_3=>simp at c
   case h_1=>
    simp only[B1]at c;grind [QW,OK.pure,Bx,JG,PR,J6]
   case h_2=>
    simp only[B1]at c;grind [QW,OK.pure,Bx,JG,PR,J6]
  case h_2=>
   rename_i e _ _ m;unfold bI at c;split at c
   case h_3=>simp at c
   case h_1=>
    have i:=X3 (op:=.eql) f m g c;obtain⟨u,b,s,K,w,e⟩:=i;subst e;subst j;rw[o u,w];exact OK.pure f (v':=.bool b) (by simp only[s];rfl) (by simp_all)
   case h_2=>
    have i:=X3 (op:=.neq) f m g c;obtain⟨u,b,s,K,w,e⟩:=i;subst e;subst j;rw[o u,w];exact OK.pure f (v':=.bool<|!b) (by simp only[s];rfl) (by simp_all)
  rename_i a b J E m;obtain rfl:=HP J g;obtain rfl:=HP E j;have eq:Bs C.T t (.bool a) (.bool b)=some (a==b):=by unfold Bs;rw[m]
  split at c
  case h_1=>
   obtain⟨rfl,rfl⟩:=c;exact OK.pure f (by show Bx h ((Bs C.T t (.bool a)<|.bool b).map _)=_;rw[eq];rfl)<|DF _
  case h_2=>
   obtain⟨rfl,rfl⟩:=c;exact OK.pure f (by show Bx h ((Bs C.T t (.bool a)<|.bool b).map _)=_;rw[eq];rfl) (DF _)
  simp_all
theorem Ab8(d:SR B h0 F ρ st.nx st.ob h){op:UnOp}{p:PV}{x:V}(c:PR F ρ st.nx p x){v:PV}(a:(pun op p st).To v st'):OK B h0 F ρ st h [] (Bx h<|dun op x) v st':=by
 unfold pun at a;split at a<;>simp only[LY,B1]at a
 ·obtain⟨rfl,rfl⟩:=a;obtain rfl:=C8 c;exact OK.pure d rfl (Dp _ _)
 ·obtain⟨rfl,rfl⟩:=a;obtain rfl:=N7 c;exact OK.pure d rfl (lO _)
 ·obtain⟨rfl,rfl⟩:=a;obtain⟨b,rfl⟩:=c;exact OK.pure d (v':=.bool<|!b) rfl (by simp[PR])
 ·obtain⟨rfl,rfl⟩:=a;obtain rfl:=Lc c;exact OK.pure d rfl (DF _)
theorem xS(c:SR B h0 F ρ st.nx st.ob h){s d:TypeId}{p:PV}{x:V}(b:PR F ρ st.nx p x){v:PV}(a:(kQ C.T s d p st).To v st'):OK B h0 F ρ st h [] (Bx h<|FG C.T h s d x) v st':=by
 unfold kQ at a;split at a<;>simp only[LY,B1]at a
 ·obtain⟨rfl,rfl⟩:=a;obtain rfl:=C8 b;simp_all [OK.pure,FG,Bx,Dp]
 ·obtain rfl:=FQ b;simp_all [OK.pure,FG,Bx]
theorem wR(e:SR B h0 F ρ st.nx st.ob h){c a b:PV}{x y z:V}(i:PR F ρ st.nx c x)(f:PR F ρ st.nx a y)(g:PR F ρ st.nx b z){v:PV}(d:(cK c a b st).To v st'):
  ∃t,x=.bool t/\OK B h0 F ρ st h [] (Bx h<|some<|if t then y else z) v st':=by
 unfold cK at d;split at d
 case h_3=>simp at d
 case h_1=>
  rename_i t;obtain⟨rfl,rfl⟩:=d;refine⟨t,N7 i,OK.pure e rfl ?_⟩;grind
 case h_2=>
  rename_i t;refine⟨t,Lc i,?_⟩;split at d
  case h_1=>
   obtain⟨rfl,rfl⟩:=d;obtain rfl:=N7 g;refine OK.pure e rfl ?_;grind [DF]
  case h_2=>
   obtain⟨rfl,rfl⟩:=d;obtain rfl:=N7 f;refine OK.pure e rfl ?_;grind [DF]
  case h_3=>
   cases d with
   |tt h=>obtain⟨rfl,rfl⟩:=h;exact OK.pure e rfl f
   |ff h=>obtain⟨rfl,rfl⟩:=h;exact OK.pure e rfl g
theorem qU(l:SR B h0 F ρ st.nx st.ob h){t:TypeId}{p:PV}{x:V}(g:PR F ρ st.nx p x){f:Nat}{v:PV}(a:(Vm C.T t p f st).To v st'):OK B h0 F ρ st h [] (Bx h<|JW C.T t x f) v st':=by
 unfold Vm at a;split at a
 case h_2=>simp at a
 split at a
 case h_2=>simp at a
 rename_i c i;split at a
 case h_2=>simp at a
 simp only[QS]at a;obtain⟨b,rfl⟩:=a;obtain⟨cs,rfl,hps⟩:=g;rw[LP]at b;have j:=hps.drop c.offset;rcases PY j b with⟨d,_,m,k⟩|⟨d,u,n,e,k⟩
 ·simp_all [OK.pure,JW,KQ,Bx]
 ·have:cs[c.offset]?=some u:=by
   have:=wi (·[0]?) e;grind
  simp_all [OK.pure,JW,KQ,Bx]
theorem sD(k:SR B h0 F ρ st.nx st.ob h){t:TypeId}{p:PV}{x:V}(l:PR F ρ st.nx p x){f:Nat}{v:PV}(a:(WV C.T t p f st).To v st'):
  OK B h0 F ρ st h [] (Bx h<|J2 C.T t x f) v st':=by
 have live:∀ {id},H7 (st.obj id)=true->∃b n,ρ id=some (b,n):=by
  intro id m;obtain⟨o,r⟩:=Il m;obtain⟨b,n,_,h1,_⟩:=k.at r;grind
 unfold WV at a;split at a
 case h_2=>simp at a
 split at a
 case h_2=>simp at a
 rename_i w u;split at a
 case h_2=>simp at a
 rename_i i m;cases s:ze i.size 0 with
 |true=>simp_all
 |false=>
  have q:i.size≠0:=by intro e;simp_all
  rw[s]at a;have c:∀b off,J2 C.T t (.ptr b off) f=some (.ptr b<|off+w.offset):=by
   simp_all [J2]
  split at a
  ·rename_i id off;cases g:H7 (st.obj id)with
   |false=>simp_all
   |true=>
   rw[g]at a;obtain⟨rfl,rfl⟩:=a;have d:=l;obtain⟨b,n,h1⟩:=live g;obtain rfl:=d.2 b n h1;refine OK.pure k (by rw[c];rfl) ?_;grind [PR]
  ·rename_i id sz j off;cases g:H7 (st.obj id)with
   |false=>simp_all
   |true=>
   rw[g]at a;obtain⟨rfl,rfl⟩:=a;have d:=l;obtain⟨b,n,h1⟩:=live g;obtain rfl:=d.2 b n h1;refine OK.pure k (by rw[c];rfl) ?_;grind [PR]
  ·obtain⟨rfl,rfl⟩:=a;obtain⟨b,o,cs,rfl,h1,h2⟩:=l;refine OK.pure k (by rw[c];rfl) ?_;grind [PR]
  simp_all
theorem SR.live(a:SR B h0 F ρ st.nx st.ob h){id:Nat}(d:H7 (st.obj id)=true):∃b n,ρ id=some (b,n):=by
 obtain⟨o,c⟩:=Il d;obtain⟨b,n,_,h1,_⟩:=a.at c;grind
theorem D7{i:Int}(h:0<=i):∃n:Nat,i=yt n/\i.toNat=n:=ah
theorem Dw{a b:Nat}(h:a<b):zt a b=true:=zp h
theorem jP(f:SR B h0 F ρ st.nx st.ob h){t:TypeId}{p q:PV}{x y:V}(z:PR F ρ st.nx p x)(M:PR F ρ st.nx q y){v:PV}(a:(Sz C.T t p q st).To v st'):
  OK B h0 F ρ st h [] (Bx h<|EX C.T t x y) v st':=by
 unfold Sz at a;split at a
 case h_3=>simp at a
 case h_2=>
  rename_i K e k i X;obtain rfl:=C8 M;split at a
  case h_2=>simp at a
  rename_i g I;split at a
  case h_4=>simp at a
  case h_1=>
   rename_i id off;simp only[PR]at z;split at a
   case h_3=>simp_all
   case h_1=>
    rename_i R U s l J;cases w:(ze off 0&&ze g.size s.sz)with
    |false=>simp_all
    |true=>
     rw[w]at a;rw[zc]at w;have D:=zd w.1;have Q:=zd w.2;subst D;simp only[we,B4,zc,w5]at a;obtain⟨⟨c,d⟩,rfl,rfl⟩:=a;obtain⟨n,rfl,hn⟩:=D7 c;obtain⟨b,m,_,A,_⟩:=f.at J;refine OK.pure f (v':=.ptr b<|0+n*g.size) ?_ ?_
     ·simp_all [Bx,EX,Dw]
     simp_all [PR]
   case h_2=>
    rename_i o _ J;simp only[B4,zc,w5]at a;obtain⟨⟨c,d⟩,rfl,rfl⟩:=a;obtain⟨n,rfl,hn⟩:=D7 c;obtain⟨b,m,_,A,_⟩:=f.at J;refine OK.pure f (v':=.ptr b<|off+n*g.size) ?_ ?_
    ·simp_all [Bx,EX,Dw]
    grind [PR]
  case h_2=>
   rename_i id sz j off;cases G:H7 (st.obj id)with
   |false=>simp_all
   |true=>
    rw[G]at a;simp only[we,B4,zc,w5]at a;obtain⟨⟨c,d⟩,rfl,rfl⟩:=a;obtain⟨n,rfl,hn⟩:=D7 c;obtain⟨b,m,A⟩:=f.live G;simp only[PR]at z;refine OK.pure f (v':=.ptr b<|j*sz+off+n*g.size) ?_ ?_
    ·simp_all [Bx,EX,Dw]
    grind [PR]
  case h_3=>
   rename_i s y off;simp only[B4,zc,w5]at a;obtain⟨⟨c,d⟩,rfl,rfl⟩:=a;obtain⟨n,rfl,hn⟩:=D7 c;obtain⟨b,o,cs,rfl,A,L,S⟩:=z;refine OK.pure f (v':=.ptr b<|o+off+n*g.size) ?_ ?_
   ·simp_all [Bx,EX,Dw]
   grind [PR]
 case h_1=>
 obtain rfl:=C8 M;split at a
 case h_2=>simp at a
 rename_i g I;split at a
 case h_3=>simp at a
 case h_1=>
  rename_i s l;cases r:ze g.size s.sz with
  |false=>simp_all
  |true=>
   rw[r]at a;have r:=zd r;simp only[we,B4,zc,w5]at a;obtain⟨⟨c,d⟩,rfl,rfl⟩:=a;obtain⟨n,rfl,hn⟩:=D7 c;have E:n<l.length:=ah
   obtain⟨u,P,z⟩:=z;rcases z with⟨rfl,_⟩|⟨b,off,cap,o,O,rfl,A,L,S,_,W⟩
   ·grind
   ·refine OK.pure f (v':=.ptr b<|off+n*g.size) ?_ ?_
    ·simp_all [Bx,EX,Dw]
    ·refine⟨b,off+n*s.sz,O,by grind,L,?_,?_⟩
     ·have:(n+1)*s.sz<=l.length*s.sz:=zg _ E;grind
     grind
 case h_2=>
  rename_i id sz off len cap;cases r:(ze g.size sz&&H7 (st.obj id))with
  |false=>simp_all
  |true=>
   rw[r]at a;simp only[zc]at r;obtain⟨r,G⟩:=r;have r:=zd r;simp only[we,B4,zc,w5]at a;obtain⟨⟨c,d⟩,rfl,rfl⟩:=a;obtain⟨n,rfl,hn⟩:=D7 c;have E:n<len:=ah
   obtain⟨b,m,A⟩:=f.live G;rcases z.2 b m A with⟨_,_,o,_,rfl⟩|⟨Y,_⟩
   ·refine OK.pure f (v':=.ptr b<|off*sz+n*g.size) ?_ ?_
    ·simp_all [Bx,EX,Dw]
    grind [PR]
   ·omega
theorem mH(E:SR B h0 F ρ st.nx st.ob h){t:TypeId}{p q:PV}{x y:V}(j:PR F ρ st.nx p x)(m:PR F ρ st.nx q y){v:PV}(a:(WM C.T t p q st).To v st'):
  OK B h0 F ρ st h [] (Bx h<|IN C.T t x y) v st':=by
 unfold WM at a;split at a
 case h_3=>simp at a
 case h_2=>
  rename_i l e ps k i D;obtain rfl:=C8 m;split at a
  case h_2=>simp at a
  rename_i d g I o;simp only[Wz,zc,w5]at a;obtain⟨⟨b,f⟩,c,rfl⟩:=a;obtain⟨n,rfl,hn⟩:=D7 b;obtain⟨cs,rfl,hps⟩:=j;rw[LP,hn]at c;have w:=hps.drop<|n*g.size;have s:IN C.T t (.agg cs) (.int k<|yt n)=KQ C.T e cs (n*g.size):=by simp_all [IN,Dw]
  rcases PY w c with⟨r,_,_,z⟩|⟨r,u,G,A,z⟩
  ·simp_all [OK.pure,KQ,Bx]
  ·have:cs[n*g.size]?=some u:=by
    have:=wi (·[0]?) A;grind
   simp_all [OK.pure,KQ,Bx]
 case h_1=>
 obtain rfl:=FQ j;obtain rfl:=C8 m;simp only[B4,zc,w5]at a;obtain⟨⟨b,f⟩,rfl,rfl⟩:=a;obtain⟨n,rfl,hn⟩:=D7 b;simp_all [OK.pure,Bx,IN,Dp]
theorem Y8(e:SR B h0 F ρ st.nx st.ob h){p:PV}{x:V}(d:PR F ρ st.nx p x){i:Nat}{v:PV}(a:(Oj p i st).To v st'):OK B h0 F ρ st h [] (Bx h<|GY x i) v st':=by
 unfold Oj at a;split at a
 case h_2=>simp at a
 split at a
 case h_2=>simp at a
 rename_i q c;simp only[B1]at a;obtain⟨cs,rfl,b⟩:=d;obtain⟨u,h1,h2⟩:=b.get c;grind [OK.pure,GY,Bx]
def U7(F:Fz)(ρ:DZ)(N:Nat):Option PV->Option V->Prop
 |none,x=>x=none
 |some p,x=>∃v,x=some v/\PR F ρ N p v
theorem DM{o:Option PV}{x:Option V}{d:Nat}{c:Bool}{n:Nat}(b:U7 F ρ N o x)(a:pb o d=some (c,n))(f:c=true){y:Nat}(g:n<=y):Jv x y d=some n:=by
 unfold pb at a;split at a
 ·cases a;subst b;rfl
 ·obtain⟨v,rfl,e⟩:=b;obtain rfl:=C8 e;grind [zp,Jv]
 grind
theorem U7.isNone{o:Option PV}{x:Option V}(a:U7 F ρ N o x):(o=none↔x=none):=by
 cases o with
 |none=>grind [U7]
 |some p=>simp only[U7]at a;grind
theorem Mt{T:BX}{t e:TypeId}{c:TI}{b off len cap o m a l:Nat}{lo d mx:Option V}(i:T.und t=some (.slice e))(f:T.inf e=some c)(k:Jv mx cap cap=some m)(j:Jv d m len=some a)
  (n:Jv lo a 0=some l) (g:d=none->mx=none):
  DI T t (.sl b off len cap o) lo d mx=bif ze m l then(bif ze (Mn mx o) 0 then some (.sl b off (a-l) (m-l) 0)else some .esl)
   else bif ze (Mn mx o) 0||ze (Mn mx o) c.size then some (.sl b (off+l*c.size) (a-l) (m-l)<|Mn mx o)else none:=by
 simp_all [DI]
theorem bS(w:SR B h0 F ρ st.nx st.ob h){t:TypeId}{p:PV}{x:V}{lo hi mx:Option PV}{a b c:Option V}(K:PR F ρ st.nx p x)(E:U7 F ρ st.nx lo a)(k:U7 F ρ st.nx hi b)(j:U7 F ρ st.nx mx c)
  {v:PV} (d:(SS C.T t p lo hi mx st).To v st'):OK B h0 F ρ st h [] (Bx h<|DI C.T t x a b c) v st':=by
 unfold SS at d;split at d
 case h_3=>simp at d
 case h_1=>
  rename_i hu;split at d
  case h_2=>simp at d
  rename_i s;obtain rfl:=FQ K;split at d
  case h_2=>simp at d
  rename_i c1 l c2 n f g;simp only[B4,zc,w5]at d;obtain⟨⟨⟨⟨J,D⟩,G⟩,A⟩,rfl,rfl⟩:=d;simp only[U7]at j;subst j;have e1:=DM E f J G;have e2:=DM k g D A;simp_all [OK.pure,DI,Bx,V9]
 case h_2=>
  rename_i e hu;split at d
  case h_2=>simp at d
  rename_i O M;split at d
  case h_4=>simp at d
  case h_1=>
   rename_i s S;cases y:ze O.size s.sz with
   |false=>simp_all
   |true=>
    rw[y]at d;have y:=zd y;simp only[we]at d;split at d
    case h_2=>simp at d
    rename_i c1 l c2 n f g;simp only[B4,zc,w5]at d;obtain⟨⟨⟨⟨J,D⟩,G⟩,A⟩,rfl,rfl⟩:=d;simp only[U7]at j;subst j;have e1:=DM E f J G;simp only[PR,DC]at K;obtain⟨u,hu1,K⟩:=K;obtain rfl:x=u:=ah
    rcases K with⟨rfl,rfl|rfl|rfl⟩|⟨W,off,cap,o,bs,rfl,h1,h2,h3,h5,h4⟩
    ·have e2:=DM k g D A;simp only[ym]at e2 A;refine OK.pure w (v':=.nils) (by simp_all [DI,Jv,iO,Bx]) ?_;simp[PR,DC]
    ·have e2:=DM k g D A;simp only[ym]at e2 A;refine OK.pure w (v':=.esl) (by simp_all [DI,Jv,iO,Bx,OA]) ?_;simp[PR,DC]
    ·have e2:=DM k g D A;simp only[ym]at e2 A;refine OK.pure w (v':=.es0) (by simp_all [DI,Jv,iO,Bx]) ?_;simp[PR,DC]
    ·have e2:Jv b cap S.length=some n:=(by grind [DM]);have r:=Mt (b:=W) (off:=off) (len:=S.length) (cap:=cap) (o:=o) (mx:=none) hu M rfl e2 e1 (fun _=>rfl);have L:((S.drop l).take<|Nat.sub n l).length=n-l:=by
      grind
     by_cases R:cap=l
     ·have hhl:n=l:=ae
      have Q:(S.drop l).take (Nat.sub n l)=[]:=by
       grind
      rw[Q];by_cases I:o=0
      ·refine OK.pure w (v':=.sl W off (n-l) (cap-l) 0) ?_ ?_
       ·have:Mn none o=0:=I;rw[r,this,R,yj];rfl
       ·simp only[PR,DC];exact⟨_,rfl,.inr ⟨W,off,cap-l,0,bs,by grind,by simp,h2,by grind,.inl rfl,(by simp)⟩⟩
      ·refine OK.pure w (v':=.esl) ?_ ?_
       ·have h1:ze (Mn none o) 0=false:=by rw[Bm];simp[Mn,I]
        rw[r,h1,R,yj];rfl
       ·simp[PR,DC]
     ·refine OK.pure w (v':=.sl W (off+l*O.size) (n-l) (cap-l) o) ?_ ?_
      ·have f:ze cap l=false:=by rw[Bm];grind
       have I:(ze (Mn none o) 0||ze (Mn none o) O.size)=true:=by
        rcases h5 with rfl|rfl
        ·rfl
        ·rw[y];show(ze s.sz 0||ze s.sz s.sz)=true;simp
       rw[r,f,I];rfl
      ·simp only[PR,DC];refine⟨_,rfl,.inr ⟨W,off+l*O.size,cap-l,o,bs,by rw[L],by omega,h2,?_,h5,fun i hi=>?_⟩⟩
       ·rw[L,y];have:(l+(n-l))*s.sz<=S.length*s.sz:=zg _ ae;grind
       grind
  case h_2=>
   rename_i id sz off len cap;cases y:(ze O.size sz&&H7 (st.obj id))with
   |false=>rw[y]at d;simp at d
   |true=>
    rw[y]at d;simp only[zc]at y;obtain⟨y,hl⟩:=y;have y:=zd y;simp only[we]at d;have hno:¬(hi=none/\mx≠none):=by
     rintro⟨rfl,hm⟩;cases mx with
     |none=>grind
     |some _=>simp at d
    split at d
    case h_1=>grind
    split at d
    case h_2=>simp at d
    rename_i c1 l c2 n c3 m f g P;simp only[B4,zc,w5]at d;obtain⟨⟨⟨⟨⟨⟨⟨J,D⟩,G⟩,A⟩,k5⟩,k6⟩,k7⟩,rfl,rfl⟩:=d;have e1:=DM E f J A;have e3:=DM j P G k6;have e2:=DM k g D k5;have U:b=none->c=none:=by
     intro hbn;cases hcc:c with
     |none=>rfl
     |some z=>
      exfalso;apply hno;exact⟨k.isNone.2 hbn,fun e=>by have:=j.isNone.1 e;grind⟩
    obtain⟨Y,n0,h1⟩:=w.live hl;simp only[PR]at K;rcases K.2 Y n0 h1 with⟨g1,g2,o,g3,rfl⟩|⟨rfl,rfl,g2,g3⟩
    ·have r:=Mt (b:=Y) (off:=off*sz) (len:=len) (cap:=cap.getD len) (o:=o) hu M e3 e2 e1 U;have hoz:Mn c o=0\/Mn c o=sz:=by
      unfold Mn;grind
     by_cases Z:m=l
     ·have hhl:n-l=0:=ae
      by_cases I:Mn c o=0
      ·refine OK.pure w (v':=.sl Y (off*sz) (n-l) (m-l) 0) ?_ ?_
       ·rw[r,I,Z,yj];rfl
       ·unfold PR;grind
      ·refine OK.pure w (v':=.esl) ?_ ?_
       ·have hb0:ze (Mn c o) 0=false:=by rw[Bm];simp[I]
        rw[r,hb0,Z,yj];rfl
       ·unfold PR;grind
     ·refine OK.pure w (v':=.sl Y (off*sz+l*O.size) (n-l) (m-l)<|Mn c o) ?_ ?_
      ·have f:ze m l=false:=by rw[Bm];grind
       have I:(ze (Mn c o) 0||ze (Mn c o) O.size)=true:=by
        simp_all
       rw[r,f,I];rfl
      grind [PR,Nat.add_mul]
    ·simp only[Option.getD_some]at k6 k7 e3;obtain rfl:m=0:=ae
     obtain rfl:n=0:=ae
     obtain rfl:l=0:=ae
     have hc:c=none:=by
      cases mx with
      |none=>exact j
      |some _=>simp[has]at k7
     subst hc;rcases g3 with rfl|⟨X,rfl,g4⟩
     ·refine OK.pure w (v':=.esl) (by simp_all [DI,iO,Bx,OA]) ?_;simp_all [PR]
     ·refine OK.pure w (v':=.sl Y X 0 0 0) ?_ ?_
      ·rw[Mt (mx:=none) hu M rfl e2 e1 (fun _=>rfl)];rfl
      simp_all [PR]
  case h_3=>
   split at d
   case h_3=>simp at d
   case h_2=>
    rename_i c1 l c2 n q f g;split at d
    case h_2=>simp at d
    rename_i p' c3 m P;simp only[B4,zc,w5]at d;obtain⟨⟨⟨⟨⟨⟨J,D⟩,k5⟩,G⟩,A⟩,k6⟩,rfl,rfl⟩:=d;have e1:=DM E f J G;have e2:=DM k g D ae;have e3:=DM j P k5 k6;simp only[PR]at K;cases b with
    |none=>simp[U7]at k
    |some b=>exact OK.pure w (v':=.nils) (by simp_all [DI,iO,Bx]) (by simp[PR])
   rename_i c1 l c2 n f g;simp only[B4,zc,w5]at d;obtain⟨⟨⟨⟨J,D⟩,G⟩,A⟩,rfl,rfl⟩:=d;simp only[U7]at j;have e1:=DM E f J G;have e2:=DM k g D A;simp only[PR]at K;exact OK.pure w (v':=.nils) (by simp_all [DI,Jv,iO,Bx]) (by simp[PR])
theorem sJ(b:SR B h0 F ρ st.nx st.ob h){t:TypeId}{p q:PV}{x y:V}(a:PR F ρ st.nx p x)(d:PR F ρ st.nx q y){v:PV}(c:(eU C.T t p q st).To v st'):
  OK B h0 F ρ st h [] (Bx h<|EX C.T t x y) v st':=jP b a.lz d c
theorem nP(j:SR B h0 F ρ st.nx st.ob h){t:TypeId}{p:PV}{x:V}{lo g mx:Option PV}{a b c:Option V}(i:PR F ρ st.nx p x)(d:U7 F ρ st.nx lo a)(f:U7 F ρ st.nx g b)(e:U7 F ρ st.nx mx c)
  {v:PV} (k:(kN C.T t p lo g mx st).To v st'):OK B h0 F ρ st h [] (Bx h<|DI C.T t x a b c) v st':=bS j i.lz d f e k
theorem MR.len{ks vs:Sh}{l:List (ks.T×vs.T)}{es:List (V×V×Nat)}(h:MR F ks vs l es):l.length=es.length:=by
 induction h with
 |nil=>rfl
 |cons _ _ _ a=>simp[a]
theorem yM(e:SR B h0 F ρ st.nx st.ob h){ts:Array TypeId}{ps:List PV}{i:List V}(f:BD F ρ st.nx ps i){v:PV}(c:(T2 C.T ts ps st).To v st'):OK B h0 F ρ st h [] (Bx h<|Fy C.T h ts i) v st':=by
 unfold T2 at c;split at c
 case h_2=>simp at c
 rename_i t p a;obtain⟨x,k,rfl,f,rfl⟩:=f;split at c
 case h_6=>simp at c
 case h_1=>
  rename_i s d;obtain⟨rfl,rfl⟩:=c;obtain rfl:=FQ f;exact OK.pure e (by simp only[Fy,a,d,Bx];rfl)<|Dp _ _
 case h_2=>
  rename_i s l d;obtain⟨rfl,rfl⟩:=c;obtain⟨u,hu1,f⟩:=f;obtain rfl:x=u:=ah
  rcases f with⟨rfl,rfl|rfl|rfl⟩|⟨b,off,cap,o,m,rfl,_⟩
  ·exact OK.pure e (by simp only[Fy,a,d,Bx];rfl)<|Dp _ _
  ·exact OK.pure e (by simp only[Fy,a,d,Bx];rfl)<|Dp _ _
  ·exact OK.pure e (by simp only[Fy,a,d,Bx];rfl)<|Dp _ _
  ·exact OK.pure e (by simp only[Fy,a,d,Bx];rfl)<|Dp _ _
 case h_3=>
  rename_i id sz off len cap d;cases g:H7 (st.obj id)with
  |false=>simp_all
  |true=>
   rw[g]at c;obtain⟨rfl,rfl⟩:=c;obtain⟨b,n,h1⟩:=e.live g;rcases f.2 b n h1 with⟨_,_,o,_,rfl⟩|⟨rfl,_,_,rfl|⟨_,rfl,_⟩⟩
   ·exact OK.pure e (by simp only[Fy,a,d,Bx];rfl)<|Dp _ _
   ·exact OK.pure e (by simp only[Fy,a,d,Bx];rfl)<|Dp _ _
   ·exact OK.pure e (by simp only[Fy,a,d,Bx];rfl)<|Dp _ _
 case h_4=>
  rename_i d;obtain⟨rfl,rfl⟩:=c;subst f;exact OK.pure e (by simp only[Fy,a,d,Bx];rfl)<|Dp _ _
 case h_5=>
  split at c
  case h_2=>simp at c
  rename_i ks vs l j;obtain⟨rfl,rfl⟩:=c;obtain⟨b,n,y,h1,h2,⟨es,clk,rfl,h3⟩,_⟩:=e.at j;simp only[PR]at f;have g:l.length=es.length:=h3.len;refine OK.pure e (v':=i64 es.length) (by simp_all [Fy,Bx]) ?_;rw[<-g];rfl
theorem Abg(d:SR B h0 F ρ st.nx st.ob h){ts:Array TypeId}{ps:List PV}{a:List V}(b:BD F ρ st.nx ps a){v:PV}(c:(rK C.T ts ps st).To v st'):OK B h0 F ρ st h [] (Bx h<|Fy C.T h ts a) v st':=yM d b.lz c
theorem AaP(o:SR B h0 F ρ st.nx st.ob h){f:Int->Int->Int}{g:V->V->Option V}(n:∀k x y,g (.int k x) (.int k y)=some (.int k<|f x y)){ps:List PV}{a:List V}(c:BD F ρ st.nx ps a){v:PV}
  (b:(NM f ps st).To v st'):OK B h0 F ρ st h [] (Bx h<|Gb g a) v st':=by
 have key:∀(ps:List PV) (a:List V) (k:IntKind) (x z:Int),BD F ρ st.nx ps a->zT f k x ps=some z->dfold g (.int k x) a=some (.int k z):=by
  intro ps;induction ps with
  |nil=>grind [zT,BD,dfold]
  |cons p ps r=>
   intro a k x z c i;obtain⟨u,m,rfl,d,l⟩:=c;unfold zT at i;split at i
   case h_1=>grind
   case h_2=>
    rename_i e;cases e;rename_i j y;cases q:(k==j)with
    |false=>grind
    |true=>
     obtain rfl:=C8 d;grind [dfold]
   grind
 unfold NM at b;split at b
 case h_2=>simp at b
 split at b
 case h_2=>simp at b
 simp only[B1]at b;obtain⟨u,m,rfl,d,l⟩:=c;obtain rfl:=C8 d;grind [OK.pure,Gb,Bx,Dp]
theorem OK.new(c:SR B h0 F ρ st.nx st.ob h){o:Obj}{x:O}{n:Nat}(d:o.frozen=false)(a:Wr F (Bq ρ st.nx<|some (h.nx,n)) (st.nx+1) n o x){v:PV}{v':V}
  (e:PR F (Bq ρ st.nx<|some (h.nx,n)) (st.nx+1) v v'):OK B h0 F ρ st h [] (EW<|some (v',h.push x)) v (st.push o):=by
 refine⟨v',h.push x,F,_,.inl rfl,e,c.push d a,Le.new _,rfl,rfl,Nat.le_succ _,fun b f=>.inl ?_⟩;rw[H.Cw,wc ae]
theorem Km{n:Nat}:PR F (Bq ρ N<|some (h.nx,n)) (N+1) (.ptr N 0) (.ptr h.nx 0):=by
 simp_all [PR,Bq]
theorem yF{F:Fz}:∀ {s:Sh} {v:V},zO s v=true->DC F s s.HO [v]
 | .bool,.bool b,h=>by
  grind [zO,DC,Sh.HO]
 | .int k,.int a n,h=>by
  simp_all [zO,DC,Sh.HO]
theorem pQ{T:BX}{t:TypeId}{s:Sh}{n:Nat}(h:vB T t=some (s,n)):∃i,T.inf t=some i/\n=i.zero.length/\(∀v∈i.zero,zO s v=true)/\s.sz=1:=by
 unfold vB at h;split at h
 case h_2=>cases h
 rename_i i e d;split at h
 case h_2=>cases h
 rename_i c a;cases b:(zx 32 (Det.Fm i.zero)&&Det.KU (zO c) i.zero)with
 |false=>grind
 |true=>
  rw[b]at h;cases h;rw[zc,Fi]at b;refine⟨i,d,DE ..,ah,?_⟩;unfold zsh at a;split at a<;>first|(cases a;rfl)|cases a
theorem sB(e:SR B h0 F ρ st.nx st.ob h){t:TypeId}{v:PV}(b:(SJ t C.T st).To v st'):OK B h0 F ρ st h [] (EW<|Gv C.T h t) v st':=by
 unfold SJ dT at b;split at b
 case h_1=>
  rename_i s n g;obtain⟨rfl,rfl⟩:=b;obtain⟨i,f,rfl,hall,hs⟩:=pQ g;have:Gv C.T h t=some (.ptr h.nx 0,h.push<|.cells i.zero t (0,0)):=by simp[Gv,f,IF]
  rw[this];refine OK.new e (o:=.arr false t s<|zj i.zero.length s.HO) (n:=i.zero.length) rfl ⟨_,_,rfl,⟨by grind,fun j k=>?_⟩,zi _,(by simp)⟩ Km;have d:j<i.zero.length:=ah
  have:=hall i.zero[j] (by simp);rw[List.getElem_replicate,hs,yo,yg d];exact yF this
 split at b
 case h_2=>simp_all
 rename_i cs a;rw[Option.bind_eq_some_iff]at a;obtain⟨i,f,a⟩:=a;cases c:KU V.ok i.zero with
 |false=>grind
 |true=>
 rw[c]at a;cases a;rw[Fi]at c;obtain⟨rfl,rfl⟩:=b;have:Gv C.T h t=some (.ptr h.nx 0,h.push<|.cells i.zero t (0,0)):=by simp[Gv,f,IF]
 rw[this];cases sU C.T t with
 |true=>exact OK.new e (o:=.tbox t<|i.zero.map VQ) (n:=0) rfl ⟨_,_,rfl,Ef _,zi _,ah⟩ Km
 |false=>exact OK.new e (o:=.box<|i.zero.map VQ) (n:=0) rfl ⟨_,_,_,rfl,Ef _,zi _,ah⟩ Km
theorem AbB(b:SR B h0 F ρ st.nx st.ob h){t:TypeId}{p:PV}{x:V}(d:PR F ρ st.nx p x){cs:List PV}(a:zM st p=some cs)(e:cs.all (KT st)=true):OK B h0 F ρ st h [] (EW<|some<|Z1 h t x) (.ptr st.nx 0) (st.push<|.box cs):=
 OK.new b (o:=.box cs) (n:=0) rfl ⟨_,_,_,rfl,(Nz b d a).mono<|Le.new _,zi _,fun u c=>V.Ma<|List.all_eq_true.1 (by grind [JY,Nz]) u c⟩ Km
theorem I8(j:SR B h0 F ρ st.nx st.ob h){place:Nat->Option (Nat×Nat)}:∀ {l:List (Nat×PV)} {l':List (Nat×V)},zE F ρ st.nx l l'->∀ {cs:List PV} {b:List V},BD F ρ st.nx cs b->∀ {out:List PV},QL st place cs l=some out->
  ∃e,Ie place b l'=some e/\BD F ρ st.nx out e:=by
 intro l l' m;induction m with
 |nil=>intro cs b c out a;cases a;exact⟨b,rfl,c⟩
 |@cons i p v l l' n _ o=>
  intro cs b c out a;unfold QL at a;unfold Ie;split at a
  case h_1=>cases a
  rename_i off size g;split at a
  case h_2=>cases a
  rename_i vs d;cases k:(ze (Det.Fm vs) size&&zx (yb off size) (Det.Fm cs))with
  |false=>grind
  |true=>
   have f:=Nz j n d;rw[DE,DE,f.len,c.len]at k;have:=f.Cn off c;grind [Jo]
theorem nG(b:SR B h0 F ρ st.nx st.ob h){t:TypeId}{l:List (Nat×PV)}{l':List (Nat×V)}(f:zE F ρ st.nx l l'){v:PV}(d:(ov st<|V0 C.T st t l).To v st'):OK B h0 F ρ st h [] (Bx h<|J4 C.T t l') v st':=by
 simp only[QS]at d;obtain⟨a,rfl⟩:=d;unfold V0 at a;split at a
 case h_3=>cases a
 case h_1=>
  rename_i i fs j g;split at a
  case h_2=>cases a
  rw[zf]at a;obtain⟨out,c,rfl⟩:=a;obtain⟨ys,g1,g2⟩:=I8 b f (Ef i.zero) c;exact OK.pure b (v':=.agg ys) (by grind [J4,Bx]) (by simp_all [PR])
 case h_2=>
  rename_i i k e j g;split at a
  case h_2=>cases a
  rw[zf]at a;obtain⟨out,c,rfl⟩:=a;obtain⟨ys,g1,g2⟩:=I8 b f (Ef i.zero) c;exact OK.pure b (v':=.agg ys) (by grind [J4,Bx]) (by simp_all [PR])
theorem J3(z:List V):∀n,BD F ρ N (Pr (z.map VQ) n)<|(zj n z).flatten
 |0=>by rfl
 |n+1=>by
  exact(Ef z).append<|J3 z n
theorem HS(z:List V):∀n,E9 z (n*z.length)=(zj n z).flatten:=by
 intro n;apply z6;intro i;unfold E9;by_cases b:z.length=0
 ·simp_all
 ·induction n generalizing i with
  |zero=>simp
  |succ n a=>
   rw[List.replicate_succ,List.flatten_cons];by_cases c:i<z.length
   ·grind [Nat.mod_eq_of_lt]
   ·rw[List.getElem?_append_right ae, <-a (i-z.length)];grind [Nat.mod_eq_sub_mod]
theorem Og{sz n:Nat}{o:Nat}(a:o=0\/o=sz):PR F (Bq ρ N<|some (h.nx,n)) (N+1) (.sl N sz 0 n none) (.sl h.nx 0 n n o):=by
 simp_all [PR,Bq]
theorem Ml{place:Nat->Option (Nat×Nat)}:∀ {l:List (Nat×V)} {a b:List V},Ie place a l=some b->b.length=a.length
 |[],a,b,h=>by cases h;rfl
 |(i,v)::l,a,b,h=>by
  unfold Ie at h;split at h
  ·cases h
  ·rename_i off size _;cases c:(ze v.cells.length size&&zx (off+size) a.length)with
   |false=>grind
   |true=>
    rw[c]at h;rw[Ml h,IJ]
end
section
variable {B:Nat}{h0:H0}{F:Fz}{ρ:DZ}{N:Nat}{C:Ctx}{st st':AG}{fr:Fr}{h h':H}
theorem Dd.nil{s:Sh}:Dd F s [] []:=⟨by simp,(by simp)⟩
theorem Dd.cons{s:Sh}{x:s.T}{l:List s.T}{a b:List V}(c:DC F s x a)(d:Dd F s l b):Dd F s (x::l) (a++b):=by
 refine⟨by rw[List.length_append,c.len,d.1,List.length_cons,zu];omega,fun i f=>?_⟩;cases i with
 |zero=>
  simp only[Nat.zero_mul,List.drop_zero,yk];rw[<-c.len,List.take_left];exact c
 |succ i=>
  have e:(a++b).drop ((i+1)*s.sz)=b.drop (i*s.sz):=by
   rw[zu,Nat.add_comm,FH, <-c.len,List.drop_left]
  rw[e];exact d.2 i ah
theorem Dd.jK{s:Sh}{x:s.T}{l:List s.T}{cs:List V}(h:Dd F s (x::l) cs):∃a b,cs=a++b/\DC F s x a/\Dd F s l b:=by
 have h0:=h.2 0 (by simp);simp only[Nat.zero_mul,List.drop_zero,yk]at h0;refine⟨cs.take s.sz,cs.drop s.sz,(by simp),h0,?_,fun i c=>?_⟩
 ·grind [zu,Dd]
 ·have:=h.2 (i+1) ah;grind [FH,zu]
theorem Dd.append{s:Sh}:∀ {l m:List s.T} {a b:List V},Dd F s l a->Dd F s m b->Dd F s (l++m) (a++b)
 |[],m,a,b,h,h'=>by
  have:a=[]:=List.length_eq_zero_iff.1 (by rw[h.1];simp);grind
 |x::l,m,a,b,h,h'=>by
  obtain⟨c,d,rfl,f,e⟩:=h.jK;rw[List.append_assoc,List.cons_append];exact Dd.cons f<|e.append h'
theorem Dd.replicate{s:Sh}{z:s.T}{c:List V}(a:DC F s z c):∀n,Dd F s (zj n z)<|(zj n c).flatten
 |0=>Dd.nil
 |n+1=>by
  exact Dd.cons a<|Dd.replicate a n
theorem Dd.TV{s:Sh}:∀ {l:List s.T} {a:List V},Dd F s l a->a.all V.one=true
 |[],a,h=>by
  grind [Dd]
 |x::l,a,h=>by
  obtain⟨c,d,rfl,e,b⟩:=h.jK;rw[List.all_append,b.TV,Bool.and_true];exact List.all_eq_true.2 e.TV
theorem Dd.part{s:Sh}{l:List s.T}{cs:List V}(h:Dd F s l cs){off len:Nat}(b:off+len<=l.length):Dd F s ((l.drop off).take len) ((cs.drop<|off*s.sz).take<|len*s.sz):=by
 have d:(off+len)*s.sz<=l.length*s.sz:=zg _ b;have f:=h.1;refine⟨by grind,fun i e=>?_⟩;have a:i<len:=ah
 have c:(i+1)*s.sz<=len*s.sz:=zg _ a;grind [zr,yp,Nat.add_mul,Dd]
theorem yC(m:SR B h0 F ρ st.nx st.ob h){t:TypeId}{p q:PV}{x y:V}(L:PR F ρ st.nx p x)(G:PR F ρ st.nx q y){v:PV}(a:(iX C.T t p q st).To v st'):OK B h0 F ρ st h [] (EW<|Pv C.T h t x y) v st':=by
 unfold iX at a;split at a
 case h_2=>simp at a
 rename_i e k l J c w;obtain rfl:=C8 L;obtain rfl:=C8 G;split at a
 case h_2=>simp at a
 rename_i i s I P;cases d:(zt 0 i.zero.length&&ze i.zero.length i.size&&ze i.size s.sz)with
 |false=>simp_all
 |true=>
  rw[d]at a;simp only[zc]at d;obtain⟨⟨E,g⟩,O⟩:=d;simp only[we]at a;split at a
  case h_2=>simp at a
  rename_i z A;simp only[B4,zc,w5]at a;obtain⟨⟨⟨⟨K,j⟩,r⟩,M⟩,rfl,rfl⟩:=a;have f:l=c:=j;subst f;obtain⟨n,rfl,hn⟩:=D7 K;have e3:=zd g;have D:Pv C.T h t (.int k<|yt n) (.int J<|yt n)=some (.sl h.nx 0 n n 0,h.push<|.cells (E9 i.zero<|n*i.size) e (0,0)):=by
   have a1:zx n n=true:=(by simp);have a2:zt n 9223372036854775808=true:=(by grind [Dw]);have a3:zx (i.bytes*n) 281474976710656=true:=zp r;simp only[Pv,w,I,a1,a2,a3,E,g,Bool.and_self,we,IF]
  rw[D];have u:=CM (Ef (F:=F) (ρ:=ρ) (N:=st.nx) i.zero) A;have b:Dd F s (zj n z) (E9 i.zero<|n*i.size):=by
   grind [HS,Dd.replicate]
  exact OK.new m (o:=.arr false e s<|zj n z) (n:=n) rfl ⟨_,_,rfl,b,zi _,by simp⟩ (Og<|.inl rfl)
theorem Vw(G:SR B h0 F ρ st.nx st.ob h){s:Sh}{p:PV}{x:V}(k:PR F ρ st.nx p x){c:Bool}{l:List s.T}(a:HH st s p=some (c,l))(E:c=true):
  Pd x=some l.length/\(s.sz=1\/Px x=true)/\∃cs,src h s.sz x l.length=some cs/\Dd F s l cs:=by
 unfold HH at a;split at a
 case h_1=>
  cases a;subst k;exact⟨rfl,.inr rfl,[],rfl,Dd.nil⟩
 case h_2=>
  rename_i d l';rw[zf]at a;obtain⟨r,v,w⟩:=a;obtain⟨e,he⟩:=Ct v;have m:d=s:=ah
  subst m;have:r=l':=ah
  subst this;cases w;obtain⟨u,Q,k⟩:=k;obtain rfl:x=u:=ah
  rcases k with⟨rfl,rfl|rfl|rfl⟩|⟨b,off,cap,o,I,rfl,J,D,g,M,O⟩
  ·exact⟨rfl,.inr rfl,[],rfl,Dd.nil⟩
  ·exact⟨rfl,.inr rfl,[],rfl,Dd.nil⟩
  ·exact⟨rfl,.inr rfl,[],rfl,Dd.nil⟩
  ·obtain⟨L,fz,S⟩:=G.frz b I D;suffices hD:Dd F d l ((I.drop off).take<|l.length*d.sz)from⟨rfl,.inr rfl,_,rd_some S g hD.ok,hD⟩
   refine⟨?_,fun i X=>?_⟩
   ·grind
   ·have P:(i+1)*d.sz<=l.length*d.sz:=zg _ X;grind [zr,yp]
 case h_3=>
  rename_i id sz off len cap;split at a
  case h_2=>cases a
  rename_i R L d l' U;cases f:ze sz d.sz with
  |false=>grind
  |true=>
   rw[f]at a;have f:=zd f;simp only[we,zf]at a;obtain⟨r,v,w⟩:=a;obtain⟨e,he⟩:=Ct v;have m:d=s:=ah
   subst m;have:r=l':=ah
   subst this;cases w;simp only[w5]at E;obtain⟨b,n,y,J,D,⟨cs,fz,rfl,g,O,M⟩,_⟩:=G.at U;have z:((r.drop off).take len).length=len:=ah
   have A:(off+len)*d.sz<=r.length*d.sz:=zg _ E;rw[Nat.add_mul]at A;rw[z];rcases k.2 b n J with⟨_,_,o,_,rfl⟩|⟨rfl,_,W,rfl|⟨K,rfl,q⟩⟩
   ·refine⟨rfl,.inr rfl,_,rd_some D ?_ ?_,?_⟩
    ·rw[f,g.1];exact A
    ·rw[f];exact(g.part E).ok
    ·rw[f];exact g.part E
   ·refine⟨rfl,.inr rfl,[],rfl,?_⟩;simpa using Dd.nil
   ·refine⟨rfl,.inr rfl,_,rd_some D ?_ ?_,?_⟩
    ·rw[f]at q;rw[g.1];omega
    ·simp
    ·simp;exact Dd.nil
 case h_5=>cases a
 case h_4=>
  rename_i t;rw[zf]at a;obtain⟨r,v,w⟩:=a;obtain⟨e,he⟩:=Ct v;have m:s=.int .u8:=ah
  subst m;have:r=List.map (fun b:UInt8=>(b.toNat:Int)) t:=ah
  subst this;cases w;obtain rfl:=FQ k;refine⟨by simp[Pd],.inl rfl,_,rfl,?_⟩;refine⟨by simp[Sh.sz],fun j Z=>?_⟩;have Y:j<t.length:=ah
  have e1:((t.map fun b=>V.int .u8 (b.toNat:Int)).drop<|j*1).take 1=[V.int .u8 ((t[j]).toNat:Int)]:=by
   simp_all [yg]
  grind [DC,Sh.sz]
theorem ZV(e:SR B h0 F ρ st.nx st.ob h){s:Sh}{p:PV}{x:V}(d:PR F ρ st.nx p x){c:Bool}{l:List s.T}(b:OT st s p=some (c,l))(a:c=true):
  Pd x=some l.length/\(s.sz=1\/Px x=true)/\∃cs,src h s.sz x l.length=some cs/\Dd F s l cs:=Vw e d.lz b a
theorem SR.congr(a:SR B h0 F ρ N st.ob h)(g:∀c,h'.get c=h.get c)(e:h'.nx=h.nx):SR B h0 F ρ N st.ob h':=
 ⟨fun id o i=>by obtain⟨b,n,x,k,l,q⟩:=a.obj id o i;grind,a.inj,fun b cs d=>by obtain⟨t,fz,k⟩:=a.frz b cs d;grind,a.own,a.dead,
  fun b d f=>(g b).trans<|a.old b d f,fun b o d=>by rw[e];exact a.lt b o ah,by rw[e];exact a.le,a.fo,a.gl,fun c j=>by obtain⟨r,m,p⟩:=a.pn c j;grind⟩
end
end Go.Pe
