import Derived.Test.YtipkapecgjpnlaaGreatDoorX06
import Derived.Shelf.Strings.OnBuilder
import Derived.Shelf.Strconv.Itoa3
import Derived.Lib.LaidTab
import Derived.Lib.AppendIntMem
/- A part of a proof; no law is stated here. -/
noncomputable section
set_option maxRecDepth 100000
open Nat renaming beq -> zc, eq_of_beq_eq_true -> zd, add -> zf, lt_of_lt_of_le -> zi, blt -> zk, ble -> zp, mul_le_mul_right -> zt, le_refl -> zy, le_of_ble_eq_true -> z6, succ_mul -> ym, mul -> yo, sub -> yp
open Bool renaming and_eq_true -> ze
open Int renaming toNat -> zg
open Option.some renaming injEq -> zh
open Go.Proofs.Tryz renaming prog -> zj, underlying306 -> zw, underlying9 -> z7, underlying206 -> yb, underlying213 -> yc, zeroValue206 -> yf
open List renaming take_of_length_le -> zl, mem_singleton -> zn, replicate -> zr, getElem?_take_of_lt -> zu, drop_take -> yd, getElem?_drop -> ye, ext_getElem? -> yh
open BitVec renaming ofInt -> zm
open Go.Lib renaming decDigits -> zo, nDigits -> zx, zeros24 -> yg
open Array renaming size_replicate -> zq, getElem?_append_left -> z8
open Option renaming map_eq_some_iff -> zz
open Go.Op renaming bytesLess -> yi
open Go.Det.V renaming ok -> yj
open Go.Value renaming int -> yk
open Go.Det renaming Ch -> yn
namespace Go.Det
section
open Go.Proofs.Tryz (prog)
def A7:CH:=[(8,[],.bool true)]
theorem xG:AX C74 1000 A7=true:=by kernel_rfl
theorem spA:Fh prog (Hj A7):=Sw yQ YX GD xG
end
open Go.Proofs
def Gt:Go.Shelf.Ren:=⟨fun|171=>156|243=>225|246=>275|283=>276|284=>277|285=>278|286=>279|129=>192|317=>308|318=>309|319=>310|320=>311|337=>323|338=>324|n=>n,fun|3=>3|9=>9|2=>2|4=>4|171=>306|0=>0|53=>206|37=>213|5=>5|173=>308|212=>334|51=>242|20=>20|213=>335|46=>183|232=>354|233=>355|n=>n,fun|17=>3|18=>8|19=>9|n=>n⟩
theorem HM:Go.Proofs.LaysM.n171 Go.Proofs.Tryz.prog Gt:=
  {mixed:=by kernel_rfl,f129:=Go.Proofs.Tryz.func192.trans (wi some ag),f171:=Go.Proofs.Tryz.func156.trans (wi some ag),f243:=Go.Proofs.Tryz.func225.trans (wi some ag),f246:=Go.Proofs.Tryz.func275.trans (wi some ag),f283:=Go.Proofs.Tryz.func276.trans (wi some ag),f284:=Go.Proofs.Tryz.func277.trans (wi some ag),f285:=Go.Proofs.Tryz.func278.trans (wi some ag),f286:=Go.Proofs.Tryz.func279.trans (wi some ag),f317:=Go.Proofs.Tryz.func308.trans (wi some ag),f318:=Go.Proofs.Tryz.func309.trans (wi some ag),f319:=Go.Proofs.Tryz.func310.trans (wi some ag),f320:=Go.Proofs.Tryz.func311.trans (wi some ag),f337:=Go.Proofs.Tryz.func323.trans (wi some ag),f338:=Go.Proofs.Tryz.func324.trans (wi some ag),t0:=Go.Proofs.Tryz.underlying0,a0:=Go.Proofs.Tryz.isAgg0,z0:=Go.Proofs.Tryz.sizeOf0,v0:=Go.Proofs.Tryz.zeroValue0,t2:=Go.Proofs.Tryz.underlying2,a2:=Go.Proofs.Tryz.isAgg2,z2:=Go.Proofs.Tryz.sizeOf2,v2:=Go.Proofs.Tryz.zeroValue2,t3:=Go.Proofs.Tryz.underlying3,a3:=Go.Proofs.Tryz.isAgg3,z3:=Go.Proofs.Tryz.sizeOf3,v3:=Go.Proofs.Tryz.zeroValue3,t4:=Go.Proofs.Tryz.underlying4,a4:=Go.Proofs.Tryz.isAgg4,z4:=Go.Proofs.Tryz.sizeOf4,v4:=Go.Proofs.Tryz.zeroValue4,t5:=Go.Proofs.Tryz.underlying5,a5:=Go.Proofs.Tryz.isAgg5,z5:=Go.Proofs.Tryz.sizeOf5,v5:=Go.Proofs.Tryz.zeroValue5,t9:=Go.Proofs.Tryz.underlying9,a9:=Go.Proofs.Tryz.isAgg9,z9:=Go.Proofs.Tryz.sizeOf9,v9:=Go.Proofs.Tryz.zeroValue9,t20:=Go.Proofs.Tryz.underlying20,a20:=Go.Proofs.Tryz.isAgg20,z20:=Go.Proofs.Tryz.sizeOf20,v20:=Go.Proofs.Tryz.zeroValue20,t37:=Go.Proofs.Tryz.underlying213,a37:=Go.Proofs.Tryz.isAgg213,z37:=Go.Proofs.Tryz.sizeOf213,v37:=Go.Proofs.Tryz.zeroValue213,t46:=Go.Proofs.Tryz.underlying183,a46:=Go.Proofs.Tryz.isAgg183,z46:=Go.Proofs.Tryz.sizeOf183,v46:=Go.Proofs.Tryz.zeroValue183,t51:=Go.Proofs.Tryz.underlying242,a51:=Go.Proofs.Tryz.isAgg242,z51:=Go.Proofs.Tryz.sizeOf242,v51:=Go.Proofs.Tryz.zeroValue242,t53:=Go.Proofs.Tryz.underlying206,a53:=Go.Proofs.Tryz.isAgg206,z53:=Go.Proofs.Tryz.sizeOf206,v53:=Go.Proofs.Tryz.zeroValue206,t171:=Go.Proofs.Tryz.underlying306,a171:=Go.Proofs.Tryz.isAgg306,z171:=Go.Proofs.Tryz.sizeOf306,v171:=Go.Proofs.Tryz.zeroValue306,t173:=Go.Proofs.Tryz.underlying308,a173:=Go.Proofs.Tryz.isAgg308,z173:=Go.Proofs.Tryz.sizeOf308,v173:=Go.Proofs.Tryz.zeroValue308,t212:=Go.Proofs.Tryz.underlying334,a212:=Go.Proofs.Tryz.isAgg334,z212:=Go.Proofs.Tryz.sizeOf334,v212:=Go.Proofs.Tryz.zeroValue334,t213:=Go.Proofs.Tryz.underlying335,a213:=Go.Proofs.Tryz.isAgg335,z213:=Go.Proofs.Tryz.sizeOf335,t232:=Go.Proofs.Tryz.underlying354,a232:=Go.Proofs.Tryz.isAgg354,z232:=Go.Proofs.Tryz.sizeOf354,v232:=Go.Proofs.Tryz.zeroValue354,t233:=Go.Proofs.Tryz.underlying355,a233:=Go.Proofs.Tryz.isAgg355,z233:=Go.Proofs.Tryz.sizeOf355,v233:=Go.Proofs.Tryz.zeroValue355,g17:=by kernel_rfl,g18:=by kernel_rfl,g19:=by kernel_rfl,i0:=by kernel_rfl,i2:=by kernel_rfl,i3:=by kernel_rfl,i4:=by kernel_rfl,i5:=by kernel_rfl,i9:=by kernel_rfl,i20:=by kernel_rfl,i37:=by kernel_rfl,i46:=by kernel_rfl,i51:=by kernel_rfl,i53:=by kernel_rfl,i171:=by kernel_rfl,i173:=by kernel_rfl,i212:=by kernel_rfl,i232:=by kernel_rfl,i233:=by kernel_rfl,m17:=by kernel_rfl,m18:=by kernel_rfl,m19:=by kernel_rfl }
open Go.Proofs.Tryz (prog)
def vM:List V->List Int->Bool
 |[],[]=>true
 | .int .u64 n::l,m::r=>bif decide (n=m)then vM l r else false
 |_,_=>false
theorem YJ{p:Pl}:∀ {cs:List V} {r:List Int} {vs:List Value},vM cs r=true->Au p cs vs->vs=r.map fun z=>yk .u64 z
 |[],[],vs,_,h=>by simpa using h
 | .int .u64 n::l,m::r,vs,a,h=>by
  unfold vM at a;cases b:decide (n=m)with
  |false=>rw[b]at a;cases a
  |true=>
   rw[b]at a;have e:=w6 b;subst e;cases vs with
   |nil=>simp at h
   |cons v vs=>
    simp only[Bb,Ac]at h;rw[h.1,YJ a h.2];rfl
def SK(h:H):Bool:=match h.get 3 with
 |some (.cells cs _ _)=>vM cs Lib.pow10Tab
 |_=>false
def Yu:List V->H->Option (V×H)
 |[.int .i64 n],h=>bif SK h&&decide (-9223372036854775808<=n)&&decide (n<=9223372036854775807)then some (.str<|Lib.itoa n,h)else none
 |_,_=>none
def fD:Te:=fun f=>bif zc f 156 then some Yu else none
theorem bL:∀ {cs:List V} {r:List Int},vM cs r=true->cs.length=r.length/\∀d∈cs,d.ok=true
 |[],[],_=>⟨rfl,fun d a=>by cases a⟩
 | .int .u64 n::l,m::r,b=>by
  unfold vM at b;cases a:decide (n=m)with
  |false=>rw[a]at b;cases b
  |true=>
   rw[a]at b;obtain⟨c,e⟩:=bL (cs:=l) (r:=r) b;refine⟨by simp[c],fun d a=>?_⟩;rcases List.mem_cons.1 a with rfl|a
   ·rfl
   ·exact e d a
theorem wB : prog.globalNamed "internal/strconv.uint64pow10" = some 3 := by kernel_rfl
theorem at5{p:Pl}(a:Gp p):p[3]?=some (3,20):=a _<|List.mem_cons_self ..
theorem Ys {p : Pl} {h : H} {w : World} (j : R p h w) (k : Gp p) (a : SK h = true) : Lib.TabIs prog w "internal/strconv.uint64pow10" .u64 Lib.pow10Tab := by
 unfold SK at a;split at a
 case h_2=>cases a
 rename_i cs t fz f;obtain⟨r,n,x,d,g,c,fz',rfl,l,o,e,_⟩:=j.obj 3 _ f;rw[at5 k]at d;cases d;obtain⟨e1,e2⟩:=bL a;have m:cs.length=20:=e1.trans rfl;have b:c.toList.take cs.length=c.toList:=zl (by simp;omega);rw[b]at e;have i:=YJ a (e.KI e2);unfold Lib.TabIs World.var?;rw[wB];show(match w.heap[3]? with
  |some (.cells cs _ _)=>some cs
  |_=>none)=_
 rw[g];show some c=_;rw[<-i]
theorem kR:Fh prog fD:=by
 intro f q c p h w args args' v h' i o r a;unfold fD at c;cases d:zc f 156 with
 |false=>rw[d]at c;cases c
 |true=>
  rw[d]at c;cases c;cases zd d;unfold Yu at a;split at a
  case h_2=>cases a
  rename_i n;cases b:(SK h&&decide (-9223372036854775808<=n)&&decide (n<=9223372036854775807))with
  |false=>rw[b]at a;cases a
  |true=>
   rw[b]at a;cases a;rw[ze,ze,w5,w5]at b;obtain⟨x,l,g⟩:=r.one;have:args'= #[x]:=Array.toList_inj.1 l;subst this;simp only[Ac]at g;subst g;refine(Any.strconv_Itoa HM n b.1.2 b.2 w<|Ys i o b.1.1).mono ?_;rintro e w' ⟨rfl,k,os,rfl⟩;exact⟨_,p,rfl,by simp only[Ac];rfl,Mr i ⟨rfl,rfl,rfl,by show w.heap.size<=(w.heap++os).size;rw[Array.size_append];omega,fun j m=>by show(w.heap++os)[j]?=_;exact z8 m⟩<|by show w.drawn<=w.drawn+k;omega⟩
end Go.Det
namespace Go.Proofs
open Go.Shelf Go.RowKit Go.Sort Go.Lib Go.Det
namespace FmtU
set_option maxHeartbeats 6400000 in
theorem small(i:Nat)(q:i<100)(w:World):Calls zj 231 #[.int .u64 i,.int .i64 10] w fun e w'=>e=.returned (.string ⟨(zo i).toArray⟩)/\w'=w:=by
 have mixed:=HM.mixed;have t3:=Tryz.underlying3;have a3:=Tryz.isAgg3;have z3:=Tryz.sizeOf3;have v3:=Tryz.zeroValue3;have t9:=z7;have a9:=Tryz.isAgg9;have z9:=Tryz.sizeOf9;have v9:=Tryz.zeroValue9;have t4:=Tryz.underlying4;have a4:=Tryz.isAgg4;have z4:=Tryz.sizeOf4;have v4:=Tryz.zeroValue4;have d:=yb;have g:=Tryz.isAgg206;have n:=Tryz.sizeOf206;have m:=yf;have b:=zw;have j:=Tryz.isAgg306;have k:=Tryz.sizeOf306;have f:=Tryz.zeroValue306;have t0:=Tryz.underlying0;have a0:=Tryz.isAgg0;have z0:=Tryz.sizeOf0;have v0:=Tryz.zeroValue0;have p:=yc;have a:=Tryz.isAgg213;have l:=Tryz.sizeOf213;have c:=Tryz.zeroValue213;have t5:=Tryz.underlying5;have a5:=Tryz.isAgg5;have z5:=Tryz.sizeOf5;have v5:=Tryz.zeroValue5;have o:∀args w,(callFunc 276 args).run zj w=.ok (.enter 276 args) w:=enters_of Tryz.func276 ag rfl;go_enter Tryz.func231,Tryz.ntmps231
 go_wp2_with (go_at_fn 276;refine(Any.internal_strconv_small (ρ:=Gt) { HM with } i q _).mono ?_;rintro e w' ⟨rfl,rfl⟩)
 go_ret
 exact⟨rfl,rfl⟩
set_option maxHeartbeats 6400000 in
theorem big (u : Nat) (Q : 100 <= u) (a : u < 18446744073709551616) (w : World) (l : Lib.TabIs Tryz.prog w "internal/strconv.uint64pow10" .u64 Lib.pow10Tab) :
  Calls zj 231 #[.int .u64 u,.int .i64 10] w fun e w'=>e=.returned (.string ⟨(zo u).toArray⟩)/\∃k os,w'=grow (w.drewN k) os:=by
 have mixed:=HM.mixed;have t3:=Tryz.underlying3;have a3:=Tryz.isAgg3;have z3:=Tryz.sizeOf3;have v3:=Tryz.zeroValue3;have t9:=z7;have a9:=Tryz.isAgg9;have z9:=Tryz.sizeOf9;have v9:=Tryz.zeroValue9;have t4:=Tryz.underlying4;have a4:=Tryz.isAgg4;have z4:=Tryz.sizeOf4;have v4:=Tryz.zeroValue4;have t:=yb;have x:=Tryz.isAgg206;have I:=Tryz.sizeOf206;have G:=yf;have r:=zw;have A:=Tryz.isAgg306;have D:=Tryz.sizeOf306;have v:=Tryz.zeroValue306;have t0:=Tryz.underlying0;have a0:=Tryz.isAgg0;have z0:=Tryz.sizeOf0;have v0:=Tryz.zeroValue0;have J:=yc;have q:=Tryz.isAgg213;have E:=Tryz.sizeOf213;have s:=Tryz.zeroValue213;have t5:=Tryz.underlying5;have a5:=Tryz.isAgg5;have z5:=Tryz.sizeOf5;have v5:=Tryz.zeroValue5;have y:∀args w,(callFunc 277 args).run zj w=.ok (.enter 277 args) w:=enters_of Tryz.func277 ag rfl;have z:∀args w,(callFunc 278 args).run zj w=.ok (.enter 278 args) w:=enters_of Tryz.func278 ag rfl;have f:1<=u:=ae
 have m:zx u<=20:=by have:=Lib.numDigits_eq u f a;split at this<;>omega
 have g:zj.arrayLen 306=24:=by simp[Program.arrayLen,zw]
 have L:∀W,(Instr.sliceAt 306 (.pointer (some ⟨w.heap.size,0,none⟩)) none (some (.int .i64 (zx u:Int))) none).run zj W=.ok (.slice (some ⟨w.heap.size,0,none⟩) (zx u) 24) W:=fun W=>by
  rw[run_sliceAt_array_h W 306 ⟨w.heap.size,0,none⟩ (by simp[Program.arrayLen,Program.elem,zw]) .i64 (zx u:Int) ae (by rw[g];omega)];go_simp
 have d:=Lib.holds_zero0 w 306 (zx u) ae;have c:=Any.internal_strconv_formatBase10 (ρ:=Gt) (P:=zj) { HM with } w.heap.size 0 24 u (Array.replicate (zx u) 0) (w.alloc (.cells yg 306)) d (by rw[zq];exact Lib.lt_pow_nDigits u) a (by rw[zq];omega);rw[zq]at c;have o:=Lib.hid d;have O:(100:Int)<=(u:Int):=ae
 clear d g;go_enter Tryz.func231,Tryz.ntmps231
 go_wp2_with (first
  |(go_at_fn 277;refine(Any.internal_strconv_numDigits (ρ:=Gt) { HM with } u f a _ (Lib.tabIs_alloc l _)).mono ?_;rintro e w' ⟨rfl,rfl⟩))
 go_at_fn 278
 refine c.mono ?_;rintro e w' ⟨rfl,k,v',i,rfl,p⟩;have M:(convert 213 9 (.slice (some ⟨w.heap.size,0,none⟩) (zx u) 24)).run zj ((putRow (fun(b:UInt8)=>yk .u8 (b.toNat:Int)) (w.alloc (.cells yg 306)) w.heap.size 0 i).drewN k)=.ok (.string ⟨(zo u).toArray⟩) ((putRow (fun(b:UInt8)=>yk .u8 (b.toNat:Int)) (w.alloc (.cells yg 306)) w.heap.size 0 i).drewN k):=by
  have h:=run_convert_bytes_back (P:=zj) ((putRow (fun(b:UInt8)=>yk .u8 (b.toNat:Int)) (w.alloc (.cells yg 306)) w.heap.size 0 i).drewN k) 213 9 5 ⟨w.heap.size,0,none⟩ 24 (zo u) yc Tryz.underlying5 z7 (fun j n=>by
   rw[Lib.row_is_numeral p j n,Lib.add_plain,World.cell?_drewN];exact cell?_putRow (fun(b:UInt8)=>yk .u8 (b.toNat:Int)) _ w.heap.size 0 _ i o.out (by rw[p.size,zq]) j (by rw[p.size];rw[Lib.decDigits_length]at n;exact n))
  rw[Lib.decDigits_length]at h;exact h
 go_wp2
 go_ret
 obtain⟨os,K⟩:=Lib.fin_at w (.cells yg 306) i k 0;exact⟨rfl,k,os,K⟩
theorem all (u : Nat) (a : u < 18446744073709551616) (w : World) (b : Lib.TabIs Tryz.prog w "internal/strconv.uint64pow10" .u64 Lib.pow10Tab) :
  Calls zj 231 #[.int .u64 u,.int .i64 10] w fun e w'=>e=.returned (.string ⟨(zo u).toArray⟩)/\∃k os,w'=grow (w.drewN k) os:=by
 by_cases h:u<100
 ·exact(small u h w).mono fun e w' ⟨c,d⟩=>⟨c,0, #[],by rw[d];simp[World.drewN_zero]⟩
 ·exact big u ae a w b
theorem outer (u : Nat) (a : u < 18446744073709551616) (w : World) (b : Lib.TabIs Tryz.prog w "internal/strconv.uint64pow10" .u64 Lib.pow10Tab) :
  Calls zj 159 #[.int .u64 u,.int .i64 10] w fun e w'=>e=.returned (.string ⟨(zo u).toArray⟩)/\∃k os,w'=grow (w.drewN k) os:=by
 have mixed:=HM.mixed;have t3:=Tryz.underlying3;have a3:=Tryz.isAgg3;have z3:=Tryz.sizeOf3;have v3:=Tryz.zeroValue3;have t9:=z7;have a9:=Tryz.isAgg9;have z9:=Tryz.sizeOf9;have v9:=Tryz.zeroValue9;have d:=yb;have g:=Tryz.isAgg206;have i:=Tryz.sizeOf206;have f:=yf;have c:∀args w,(callFunc 231 args).run zj w=.ok (.enter 231 args) w:=enters_of Tryz.func231 ag rfl;go_enter Tryz.func159,Tryz.ntmps159
 go_wp2_with (go_at_fn 231;refine(all u a _ b).mono ?_;rintro e w' ⟨rfl,k,os,rfl⟩)
 go_ret
 exact⟨rfl,k,os,rfl⟩
end FmtU
end Go.Proofs
namespace Go.Det
open Go.Proofs
open Go.Proofs.Tryz (prog)
def fmtQ:List V->H->Option (V×H)
 |[.int .u64<|.ofNat n,.int .i64<|.ofNat b],h=>bif SK h&&(zp n 18446744073709551615&&zc b 10)then some (.str<|zo n,h)else none
 |_,_=>none
def fmtS:Te:=fun f=>bif zc f 159 then some fmtQ else none
theorem sA:Fh prog fmtS:=by
 intro f q c p h w args args' v h' l s t a;unfold fmtS at c;cases g:zc f 159 with
 |false=>rw[g]at c;cases c
 |true=>
  rw[g]at c;cases c;cases zd g;unfold fmtQ at a;split at a
  case h_2=>cases a
  rename_i n b;cases d:(SK h&&(zp n 18446744073709551615&&zc b 10))with
  |false=>rw[d]at a;cases a
  |true=>
   rw[d]at a;cases a;rw[ze,ze]at d;obtain⟨m,i,o⟩:=d;have i:=z6 i;cases zd o;obtain⟨x,y,hl,g1,g2⟩:=t.two;have:args'= #[x,y]:=Array.toList_inj.1 hl;subst this;simp only[Ac]at g1 g2;subst g1 g2;refine(FmtU.outer n ae w<|Ys l s m).mono ?_;rintro e w' ⟨rfl,k,os,rfl⟩;exact⟨_,p,rfl,by simp only[Ac];rfl,Mr l ⟨rfl,rfl,rfl,by show w.heap.size<=(w.heap++os).size;rw[Array.size_append];omega,fun j r=>by show(w.heap++os)[j]?=_;exact z8 r⟩<|by show w.drawn<=w.drawn+k;omega⟩
section
open Go.Proofs.Tryz (prog)
def zZ:CH:=(List.range 19).map fun(c:Nat)=>(160,[.str [48],.int .i64 (c:Int)],.str<|zr c 48)
theorem yL:AX C7 1000 zZ=true:=by kernel_rfl
theorem spR:Fh prog (Hj zZ):=Sw PA FI GD yL
def rpB(c:Nat):Bool:=match EN zZ 160 [.str [48],.int .i64 (c:Int)]with
 |some v=>V.beq v<|.str<|zr c 48
 |none=>false
theorem oS:(List.range 19).all rpB=true:=by kernel_rfl
theorem fY{c:Nat}(h:c<19):EN zZ 160 [.str [48],.int .i64 (c:Int)]=some (.str<|zr c 48):=by
 have:=List.all_eq_true.1 oS c<|List.mem_range.2 h;unfold rpB at this;split at this
 ·next v e=>rw[e,V.beq_eq this]
 ·cases this
end
end Go.Det
namespace Go.Pe
open Go.Det
inductive Sh where
 |int (k:IntKind)
 |bool
 |str
 |list (s:Sh)
 |pair (a b:Sh)
 |unit
 |nlist (s:Sh)
 |fnv
 |ptr (s:Sh)
 deriving DecidableEq
@[reducible] def Sh.T:Sh->Type
 | .int _=>Int
 | .bool=>Bool
 | .str=>Z
 | .list s=>List s.T
 | .pair a b=>a.T×b.T
 | .unit=>Unit
 | .nlist s=>List s.T
 | .fnv=>Option Fn
 | .ptr s=>s.T
def Sh.HA:(s:Sh)->s.T
 | .int _=>(0:Int)
 | .bool=>false
 | .str=>([]:Z)
 | .list _=>[]
 | .pair a b=>(a.HA,b.HA)
 | .unit=>()
 | .nlist _=>[]
 | .fnv=>none
 | .ptr s=>s.HA
def Sh.sz:Sh->Nat
 | .pair a b=>zf a.sz b.sz
 | .unit=>0
 |_=>1
inductive PV where
 |any
 |bl (b:Bool)
 |ub
 |dat (s:Sh) (x:s.T)
 |nil|nilp|nilm|nilf|nili
 |agg (l:List PV)
 |tup (l:List PV)
 |ptr (id off:Nat)
 |eptr (id sz i off:Nat)
 |Ef (s:Sh) (x:s.T) (off:Nat)
 |sl (id sz off len:Nat) (cap:Option Nat)
 |mp (id:Nat)
 |fn (f:Fn) (first captured:List PV)
 |yl (id:Nat)
inductive LpS where
 |ready|busy|ret
 |exit (i:Nat)
inductive Obj where
 |arr (fz:Bool) (e:TypeId) (s:Sh) (l:List s.T)
 |box (cs:List PV)
 |tbox (t:TypeId) (cs:List PV)
 |map (ks vs:Sh) (l:List (ks.T×vs.T))
 |siter (s:Z) (pos:Nat)
 |lp (f:FuncId) (r:Nat) (ps:Array Tmp) (asg body:Code) (s:LpS) (n:Nat) (sl:List (Nat×PV))
abbrev Ob:=List<|Nat×Obj
def AM:Ob->Nat->Option Obj
 |[],_=>none
 |(i,o)::l,j=>bif zc i j then some o else AM l j
def DS:Ob->Nat->Obj->Ob
 |[],_,_=>[]
 |(i,o)::l,j,x=>bif zc i j then(i,x)::l else(i,o)::DS l j x
def F6:Ob->Nat->Ob
 |[],_=>[]
 |(i,o)::l,j=>bif zc i j then F6 l j else(i,o)::F6 l j
structure AI where
 n:Nat
 fr:PM PV
 ob:Ob
 nx:Nat
def AI.get(st:AI)(t:Nat):PV:=(st.fr.get t).getD .any
def AI.obj(st:AI)(id:Nat):Option Obj:=AM st.ob id
def AI.set(st:AI)(t:Nat)(v:PV):AI:=⟨st.n,st.fr.set t<|some v,st.ob,st.nx⟩
def AI.setObj(st:AI)(id:Nat)(o:Obj):AI:=⟨st.n,st.fr,DS st.ob id o,st.nx⟩
def AI.FM(st:AI)(id:Nat):AI:=⟨st.n,st.fr,F6 st.ob id,st.nx⟩
def AI.push(st:AI)(o:Obj):AI:=⟨st.n,st.fr,(st.nx,o)::st.ob,zf st.nx 1⟩
def AI.put(st:AI)(d:Option Nat)(v:PV):Option AI:=
 match d with
 |none=>some st
 |some t=>bif zk t st.n then some (st.set t v)else none
def Ew(vs:List (Nat×PV)):PM PV:=vs.foldl (fun m x=>m.set x.1<|some x.2) .leaf
def flat:(s:Sh)->s.T->List PV
 | .pair a b,(x,y)=>flat a x++flat b y
 | .unit,_=>[]
 | .fnv,x=>[match (x:Option Fn)with|some f=>.fn f [] []|none=>.nilf]
 | .ptr s,x=>[.Ef s x 0]
 |s,x=>[.dat s x]
def Eg(s a:Sh)(x:s.T):Option a.T:=if h:s=a then some (h▸x)else none
def asP(a:Sh)(x:a.T):(s:Sh)->Option s.T
 | .ptr s=>Eg a s x
 |_=>none
def nB(s:Sh)(v:PV):Option s.T:=
 match v with
 | .Ef a x 0=>asP a x s
 | .dat a x=>Eg a s x
 | .bl b=>Eg .bool s b
 | .fn f [] []=>Eg .fnv s<|some f
 | .nilf=>Eg .fnv s none
 | .nil=>match s with
  | .list _=>some []
  | .nlist _=>some []
  |_=>none
 |_=>none
def Cj:(s:Sh)->List PV->Option (s.T×List PV)
 | .pair a b,l=>match Cj a l with
  |some (x,c)=>match Cj b c with
   |some (y,d)=>some ((x,y),d)
   |none=>none
  |none=>none
 | .unit,l=>some ((),l)
 |s,v::l=>match nB s v with
  |some x=>some (x,l)
  |none=>none
 |_,[]=>none
def Dg(s:Sh)(l:List PV):Option s.T:=
 match Cj s l with
 |some (x,[])=>some x
 |_=>none
def PV.cells:PV->List PV
 | .agg cs=>cs
 |v=>[v]
def Xx(ty:TypeId->Option Sh):List Field->Option Sh
 |[]=>none
 |[x]=>ty x.type
 |x::c=>match ty x.type,Xx ty c with
  |some a,some b=>some<|.pair a b
  |_,_=>none
def nlf:Option Sh->Option Sh
 |some (.list<|.int .u64)=>some<|.nlist<|.int .u64
 |s=>s
def lz:PV->PV
 | .dat (.nlist s) x=>.dat (.list s) x
 |v=>v
def Sh.leaves:Sh->List Sh
 | .pair a b=>a.leaves++b.leaves
 | .unit=>[]
 |s=>[s]
def Um:Sh->PV->Bool×PV
 | .nlist s,.dat (.list a) x=>bif s==a then(decide (0<x.length),.dat (.nlist a) x)else(true,.dat (.list a) x)
 | .list s,.dat (.nlist a) x=>bif s==a then(true,.dat (.list a) x)else(true,.dat (.nlist a) x)
 |_,v=>(true,v)
def Kl:List Sh->List PV->Bool×List PV
 |s::l,v::vs=>((Um s v).1&&(Kl l vs).1,(Um s v).2::(Kl l vs).2)
 |_,vs=>(true,vs)
def W4(T:BV):Nat->TypeId->Option Sh
 |0,_=>none
 |f+1,t=>match T.und t with
  |some (.int k)=>some<|.int k
  |some .bool=>some .bool
  |some .string=>some .str
  |some (.slice e)=>(W4 T f e).map .list
  |some (.func _ _ _)=>some .fnv
  |some (.struct fs)=>Xx (fun x=>nlf<|W4 T f x) fs.toList
  |_=>none
def Sh.sU:Sh->Bool
 | .pair a b=>a.sU||b.sU
 | .fnv=>true
 |_=>false
def BL:(s:Sh)->s.T->PV
 | .pair a b,x=>.agg<|flat (.pair a b) x
 | .unit,_=>.agg []
 | .fnv,x=>match (x:Option Fn)with|some f=>.fn f [] []|none=>.nilf
 | .ptr s,x=>.Ef s x 0
 |s,x=>.dat s x
def Sh.MZ:Sh->Bool
 | .pair _ _| .unit=>true
 |_=>false
def Wa:(s:Sh)->s.T->s.T->Bool
 | .int _,a,b=>(a:Int)==b
 | .bool,a,b=>(a:Bool)==b
 | .str,a,b=>(a:Z)==b
 |_,_,_=>false
def D9(s v:Sh)(k:s.T):List (s.T×v.T)->Option v.T
 |[]=>none
 |(a,b)::l=>bif Wa s k a then some b else D9 s v k l
def JH(s v:Sh)(k:s.T)(x:v.T):List (s.T×v.T)->List (s.T×v.T)
 |[]=>[(k,x)]
 |(a,b)::l=>bif Wa s k a then(k,x)::l else(a,b)::JH s v k x l
def SB(s v:Sh)(k:s.T):List (s.T×v.T)->List (s.T×v.T)
 |[]=>[]
 |(a,b)::l=>bif Wa s k a then l else(a,b)::SB s v k l
inductive Tr where
 |fail
 |leaf (v:PV) (ob:Ob)
 |ite (c:Bool) (a b:Tr)
 |both (a b:Tr)
 |cut (nd ro:Bool) (d:Nat) (f:FuncId) (base:Nat) (b:Code) (st:AI) (k:DX->AI->Tr)
 |alts (m:Nat) (f:Nat->Tr)
 |loop (nd ro:Bool) (d:Nat) (f:FuncId) (base:Nat) (b:Code) (st:AI) (k:DX->AI->Tr)
abbrev Tr.ck(c:Bool)(x:Tr):Tr:=.ite c x .fail
abbrev Tr.cd(P:Prop)[Decidable P](x:Tr):Tr:=.ite (decide P) x .fail
abbrev aa(k:Nat):Bool:=decide (1<=1)&&decide (0<1)&&decide ((3*1+2000)*k<=562949953421312)
abbrev ac(n m k:Nat):Bool:=decide (1<=1)&&true&&decide (n=m)&&decide ((3*(n+1)+2000)*k<=562949953421312)
abbrev Tr.di(P:Prop)[Decidable P](x y:Tr):Tr:=.ite (decide P) x y
inductive PO where
 |bad
 |val (v:PV) (st:AI)
 |ite (c:Bool) (a b:PO)
def PO.IZ(c:Bool)(v:PV)(st:AI):PO:=.ite c (.val v st) .bad
mutual
def Na:Value->Option PV
 | .bool b=>some<|.bl b
 | .int k n=>some<|.dat (.int k) n
 | .string s=>some<|.dat .str s.data.toList
 | .pointer none=>some .nilp
 | .slice none 0 0=>some .nil
 | .map none=>some .nilm
 | .nilFunc=>some .nilf
 | .nilIface=>some .nili
 | .func f ⟨[]⟩ ⟨[]⟩=>some<|.fn f [] []
 | .agg ⟨cs⟩=>(ZR cs).map .agg
 | .tuple ⟨cs⟩=>(ZR cs).map .tup
 |_=>none
def ZR:List Value->Option (List PV)
 |[]=>some []
 |v::vs=>match Na v,ZR vs with
  |some x,some a=>some (x::a)
  |_,_=>none
end
def W6:V->PV
 | .bool b=>.bl b
 | .int k n=>.dat (.int k) n
 | .str s=>.dat .str s
 | .nilp=>.nilp
 | .nils=>.nil
 | .nilm=>.nilm
 | .nilf=>.nilf
 | .nili=>.nili
 |_=>.any
def Qa(st:AI):Operand->Option PV
 | .tmp t=>some<|st.get t
 | .const v=>Na v
 | .global _=>none
 | .func f=>some<|.fn (.func f) [] []
def Mn(st:AI):List Operand->Option (List PV)
 |[]=>some []
 |x::a=>match Qa st x,Mn st a with
  |some v,some vs=>some (v::vs)
  |_,_=>none
def Y7(st:AI):List (Nat×Operand)->Option (List<|Nat×PV)
 |[]=>some []
 |(i,x)::a=>match Qa st x,Y7 st a with
  |some v,some vs=>some ((i,v)::vs)
  |_,_=>none
def iK(T:BV)(t:TypeId):Option (List PV):=(T.inf t).bind fun i=>bif Lt V.ok i.zero then some (i.zero.map W6)else none
def pick(d:TypeDesc)(n:Nat)(cs:List PV):Option PV:=
 bif DZ d then(bif zp n (Fm cs)&&zk 0 n then some (.agg<|X6 n cs)else none)
 else match cs with
  |v::_=>some v
  |[]=>none
def ov(st:AI):Option PV->PO
 |some v=>.val v st
 |none=>.bad
def ovc(c:Bool)(st:AI):Option PV->PO
 |some v=>.IZ c v st
 |none=>.bad
def chunk(s:Sh):Nat->List PV->Option (List s.T)
 |0,_=>some []
 |n+1,cs=>match Cj s cs with
  |some (x,cs')=>(chunk s n cs').map (x:: ·)
  |none=>none
def N7(s:Sh)(l:List s.T):Nat->Nat->List PV
 |_,0=>[]
 |j,n+1=>flat s (l.getD j s.HA)++N7 s l (zf j 1) n
def zsh:List V->Option Sh
 | .bool _::_=>some .bool
 | .int k _::_=>some<|.int k
 |_=>none
def isZ:Sh->V->Bool
 | .bool,.bool b=> !b
 | .int k,.int a n=>decide (k=a)&&decide (n=0)
 |_,_=>false
def xX(T:BV)(t:TypeId):Option (Sh×Nat):=
 match T.und t,T.inf t with
 |some (.array _ _),some i=>match zsh i.zero with
  |some s=>bif zp 32 (Fm i.zero)&&Lt (isZ s) i.zero then some (s,Fm i.zero)else none
  |none=>none
 |_,_=>none
def ML(T:BV)(st:AI)(t:TypeId)(a:PV):PO:=
 match T.und t,T.inf t with
 |some d,some i=>match a with
  | .ptr id off=>match st.obj id with
   |some (.box cs)=>ov st<|pick d i.size<|JX off cs
   |some (.arr _ _ s l)=>bif zc off 0&&zc s.sz 1 then ovc (decide (l.length=i.size)) st (pick d i.size<|N7 s l 0 i.size)else .bad
   |some (.tbox _ cs)=>ov st<|pick d i.size<|JX off cs
   |_=>.bad
  | .eptr id sz j off=>match st.obj id with
   |some (.arr _ _ s l)=>bif zc sz s.sz then ovc (decide (j<l.length)) st (pick d i.size<|JX off<|flat s<|l.getD j s.HA)else .bad
   |_=>.bad
  | .Ef s x off=>ov st<|pick d i.size<|JX off<|flat s x
  |_=>.bad
 |_,_=>.bad
def Ia:Option Obj->Bool
 |some _=>true
 |none=>false
def KN(st:AI):PV->Bool
 | .agg _| .tup _| .any| .ub=>false
 | .ptr id _| .eptr id _ _ _| .sl id _ _ _ _| .mp id| .yl id=>Ia<|st.obj id
 |_=>true
def pcs(st:AI):PV->Option (List PV)
 | .agg l=>some l
 |p=>bif KN st p then some [p]else none
def WM(T:BV)(st:AI)(t:TypeId)(a x:PV):PO:=
 match T.inf t,pcs st x with
 |some i,some b=>bif zc (Fm b) i.size&&Lt (KN st) b then
   match a with
   | .ptr id off=>match st.obj id with
    |some (.box cs)=>bif zp (zf off i.size) (Fm cs)then .val (.tup []) (st.setObj id<|.box<|Ch off b cs)else .bad
    |some (.arr false e s l)=>bif zc off 0&&zc s.sz 1 then
      match chunk s i.size b with
      |some y=>.IZ (decide (l.length=i.size)) (.tup [])<|st.setObj id<|.arr false e s y
      |none=>.bad
     else .bad
    |some (.tbox tb cs)=>bif zp (zf off i.size) (Fm cs)then .val (.tup []) (st.setObj id<|.tbox tb<|Ch off b cs)else .bad
    |_=>.bad
   | .eptr id sz j off=>match st.obj id with
    |some (.arr false e s l)=>bif zc sz s.sz&&zp (zf off i.size) sz then
      match Dg s (Ch off b<|flat s<|l.getD j s.HA)with
      |some y=>.IZ (decide (j<l.length)) (.tup [])<|st.setObj id<|.arr false e s<|l.set j y
      |none=>.bad
     else .bad
    |_=>.bad
   |_=>.bad
  else .bad
 |_,_=>.bad
def HR(k:IntKind)(a b:Int):Int:=k.wrap (zm k.bits a&&&zm k.bits b).toNat
def Zu(k:IntKind)(a b:Int):Int:=k.wrap (zm k.bits a|||zm k.bits b).toNat
def AcO(k:IntKind)(a b:Int):Int:=k.wrap (zm k.bits a^^^zm k.bits b).toNat
def AaV(k:IntKind)(a b:Int):Int:=k.wrap (zm k.bits a&&& ~~~zm k.bits b).toNat
def vN(op:BinOp)(k:IntKind)(a b:Int)(st:AI):PO:=
 match op with
 | .add=>.val (.dat (.int k)<|k.wrap<|a+b) st
 | .sub=>.val (.dat (.int k)<|k.wrap<|a-b) st
 | .mul=>.val (.dat (.int k)<|k.wrap<|a*b) st
 | .quo=>.IZ (decide (b≠0)) (.dat (.int k)<|k.wrap<|a.tdiv b) st
 | .rem=>.IZ (decide (b≠0)) (.dat (.int k)<|a.tmod b) st
 | .and=>.val (.dat (.int k)<|HR k a b) st
 | .or=>.val (.dat (.int k)<|Zu k a b) st
 | .xor=>.val (.dat (.int k)<|AcO k a b) st
 | .andNot=>.val (.dat (.int k)<|AaV k a b) st
 | .eql=>.val (.dat .bool<|a==b) st
 | .neq=>.val (.dat .bool<|a !=b) st
 | .lss=>.val (.dat .bool<|decide (a<b)) st
 | .leq=>.val (.dat .bool<|decide (a<=b)) st
 | .gtr=>.val (.dat .bool<|decide (a>b)) st
 | .geq=>.val (.dat .bool<|decide (a>=b)) st
 |_=>.bad
def psh(op:BinOp)(k:IntKind)(a b:Int)(st:AI):PO:=
 match op with
 | .shl=>.IZ (decide (0<=b)) (.dat (.int k)<|k.wrap<|a*2^(min b.toNat k.bits)) st
 | .shr=>.IZ (decide (0<=b)) (.dat (.int k)<|a.fdiv<|2^(min b.toNat k.bits)) st
 |_=>.bad
def zF(op:BinOp)(x y:Z)(st:AI):PO:=
 match op with
 | .add=>.IZ (decide (x.length+y.length<=4611686018427387904)) (.dat .str<|x++y) st
 | .eql=>.val (.dat .bool<|x==y) st
 | .neq=>.val (.dat .bool<|!(x==y)) st
 | .lss=>.val (.dat .bool<|yi x y) st
 | .leq=>.val (.dat .bool<|yi x y||x==y) st
 | .gtr=>.val (.dat .bool<|!(yi x y||x==y)) st
 | .geq=>.val (.dat .bool<|!yi x y) st
 |_=>.bad
def oW:BinOp->Bool
 | .shl| .shr=>true
 |_=>false
def Jz:PV->Option Bool
 | .bl b=>some b
 | .dat .bool b=>some b
 |_=>none
def Hd:List FK->List PV->List PV->Option Bool
 |[],[],[]=>some true
 | .int k::ks,.dat (.int f) a::c,.dat (.int e) b::d=>bif k==f&&k==e then(Hd ks c d).map fun r=>(a:Int)==(b:Int)&&r else none
 | .str::ks,.dat .str a::c,.dat .str b::d=>(Hd ks c d).map fun r=>(a:Z)==(b:Z)&&r
 | .bool::ks,a::c,b::d=>match Jz a,Jz b with
  |some a,some b=>(Hd ks c d).map fun r=>a==b&&r
  |_,_=>none
 |_,_,_=>none
def R5(st:AI)(ng:Bool)(x:PV):PO:=
 match x with
 | .nil=>.val (.bl<|!ng) st
 | .sl id _ _ _ _=>bif Ia (st.obj id)then .val (.bl ng) st else .bad
 | .dat (.list _) l=>.ite (decide (0<l.length)) (.val (.bl ng) st)<|.val .ub st
 | .dat (.nlist _) l=>.val (.dat .bool<|bif ng then decide (0<l.length)else !decide (0<l.length)) st
 |_=>.bad
def gJ(op:BinOp)(x y:PV)(st:AI):PO:=
 match op,x,y with
 | .eql,x,.nil=>R5 st false x
 | .neq,x,.nil=>R5 st true x
 |_,_,_=>.bad
def ptrEq(T:BV)(e:TypeId)(st:AI)(x y:PV):Option Bool:=
 match x,y with
 | .nilp,.nilp=>some true
 | .ptr id _,.nilp=>bif Ia (st.obj id)then some false else none
 | .nilp,.ptr id _=>bif Ia (st.obj id)then some false else none
 | .ptr a i,.ptr b j=>bif zc a b&&Ia (st.obj a)then match T.inf e with
   |some c=>bif zk 0 c.size then some (zc i j)else none
   |none=>none
  else none
 |_,_=>none
def vT(T:BV)(op:BinOp)(t:TypeId)(x y:PV)(st:AI):PO:=
 match x,y with
 | .dat (.int k) a,.dat (.int f) b=>bif oW op then psh op k a b st else(bif k==f then vN op k a b st else .bad)
 | .dat .str a,.dat .str b=>zF op a b st
 | .agg c,.agg d=>match T.flat t with
  |some ks=>match op,Hd ks c d with
   | .eql,some r=>.val (.dat .bool r) st
   | .neq,some r=>.val (.dat .bool<|!r) st
   |_,_=>.bad
  |none=>.bad
 |x,y=>match Jz x,Jz y,T.und t with
  |some a,some b,some .bool=>match op with
   | .eql=>.val (.dat .bool<|a==b) st
   | .neq=>.val (.dat .bool<|!(a==b)) st
   |_=>.bad
  |_,_,some (.slice _)=>gJ op x y st
  |_,_,some (.pointer e)=>match op,ptrEq T e st x y with
   | .eql,some r=>.val (.bl r) st
   | .neq,some r=>.val (.bl<|!r) st
   |_,_=>.bad
  |_,_,_=>.bad
def pun(op:UnOp)(x:PV)(st:AI):PO:=
 match op,x with
 | .neg,.dat (.int k) n=>.val (.dat (.int k)<|k.wrap<|0-(n:Int)) st
 | .not,.bl b=>.val (.bl<|!b) st
 | .not,.ub=>.val .ub st
 | .not,.dat .bool b=>.val (.dat .bool<|!b) st
 |_,_=>.bad
def kP(T:BV)(s d:TypeId)(x:PV)(st:AI):PO:=
 match T.und s,T.und d,x with
 |some _,some<|.int k,.dat (.int _) n=>.val (.dat (.int k)<|k.wrap n) st
 |some .string,some .string,.dat .str s=>.val (.dat .str s) st
 |_,_,_=>.bad
def iT(c a b:PV)(st:AI):PO:=
 match c with
 | .bl t=>.val (bif t then a else b) st
 | .dat .bool t=>match a,b with
  | .dat .bool x,.bl false=>.val (.dat .bool<|t&&x) st
  | .bl true,.dat .bool x=>.val (.dat .bool<|t||x) st
  |_,_=>.ite t (.val a st)<|.val b st
 |_=>.bad
def Wu(T:BV)(t:TypeId)(x:PV)(f:Nat)(st:AI):PO:=
 match T.und t,x with
 |some (.struct fs),.agg cs=>match fs[f]? with
  |some a=>match T.und a.type,T.inf a.type with
   |some d,some i=>ov st<|pick d i.size<|JX a.offset cs
   |_,_=>.bad
  |none=>.bad
 |_,_=>.bad
def Wd(T:BV)(t:TypeId)(x:PV)(f:Nat)(st:AI):PO:=
 match T.und t with
 |some (.struct fs)=>match fs[f]? with
  |some a=>match T.inf a.type with
   |some i=>bif zc i.size 0 then .bad else match x with
    | .ptr id off=>bif Ia (st.obj id)then .val (.ptr id<|zf off a.offset) st else .bad
    | .eptr id sz j off=>bif Ia (st.obj id)then .val (.eptr id sz j<|zf off a.offset) st else .bad
    | .Ef s y off=>.val (.Ef s y<|zf off a.offset) st
    |_=>.bad
   |none=>.bad
  |none=>.bad
 |_=>.bad
def Sa(T:BV)(t:TypeId)(x ix:PV)(st:AI):PO:=
 match T.und t,ix with
 |some (.slice e),.dat (.int _) i=>match T.inf e with
  |some a=>match x with
   | .dat (.list s) l=>bif zc a.size s.sz then .IZ (decide (0<=(i:Int))&&decide ((i:Int)<(l.length:Int))) (.Ef s (l.getD (zg i) s.HA) 0) st else .bad
   | .sl id sz off len _=>bif zc a.size sz&&Ia (st.obj id)then .IZ (decide (0<=(i:Int))&&decide ((i:Int)<(len:Int))) (.eptr id sz (zf (zg i) off) 0) st else .bad
   |_=>.bad
  |none=>.bad
 |some (.array len e),.dat (.int _) i=>match T.inf e with
  |some a=>match x with
   | .ptr id off=>match st.obj id with
    |some (.arr _ _ s _)=>bif zc off 0&&zc a.size s.sz then .IZ (decide (0<=(i:Int))&&decide ((i:Int)<(len:Int))) (.eptr id s.sz (zg i) 0) st else .bad
    |some _=>.IZ (decide (0<=(i:Int))&&decide ((i:Int)<(len:Int))) (.ptr id<|zf off<|yo (zg i) a.size) st
    |none=>.bad
   | .eptr id sz j off=>bif Ia (st.obj id)then .IZ (decide (0<=(i:Int))&&decide ((i:Int)<(len:Int))) (.eptr id sz j<|zf off<|yo (zg i) a.size) st else .bad
   | .Ef s y off=>.IZ (decide (0<=(i:Int))&&decide ((i:Int)<(len:Int))) (.Ef s y<|zf off<|yo (zg i) a.size) st
   |_=>.bad
  |none=>.bad
 |_,_=>.bad
def lR(T:BV)(t:TypeId)(x ix:PV)(st:AI):PO:=Sa T t (lz x) ix st
def Xb(T:BV)(t:TypeId)(x ix:PV)(st:AI):PO:=
 match T.und t,x,ix with
 |some .string,.dat .str s,.dat (.int _) i=>.IZ (decide (0<=(i:Int))&&decide ((i:Int)<((s:Z).length:Int))) (.dat (.int .u8) (((s:Z).getD (zg i) 0).toNat:Int)) st
 |some (.array len e),.agg cs,.dat (.int _) i=>match T.und e,T.inf e with
  |some d,some a=>ovc (decide (0<=(i:Int))&&decide ((i:Int)<(len:Int))) st<|pick d a.size<|JX (yo (zg i) a.size) cs
  |_,_=>.bad
 |_,_,_=>.bad
def PW(x:PV)(i:Nat)(st:AI):PO:=
 match x with
 | .tup vs=>match vs[i]? with
  |some v=>.val v st
  |none=>.bad
 |_=>.bad
def pb(x:Option PV)(HA:Nat):Option (Bool×Nat):=
 match x with
 |none=>some (true,HA)
 |some (.dat (.int _) n)=>some (decide (0<=(n:Int)),zg n)
 |_=>none
def has(mx:Option PV)(c:Nat):Bool:=match mx with
 |none=>true
 |some _=>decide (0<c)
def SS(T:BV)(t:TypeId)(x:PV)(d c mx:Option PV)(st:AI):PO:=
 match T.und t with
 |some .string=>match x,mx with
  | .dat .str s,none=>match pb d 0,pb c (s:Z).length with
   |some (b,l),some (a,h)=>.IZ (b&&a&&decide (l<=h)&&decide (h<=(s:Z).length)) (.dat .str<|((s:Z).drop l).take<|yp h l) st
   |_,_=>.bad
  |_,_=>.bad
 |some (.slice e)=>match T.inf e with
  |some i=>match x with
   | .dat (.list s) f=>bif zc i.size s.sz then
     match pb d 0,pb c f.length,mx with
     |some (b,l),some (a,h),none=>.IZ (b&&a&&decide (l<=h)&&decide (h<=f.length)) (.dat (.list s)<|(f.drop l).take<|yp h l) st
     |_,_,_=>.bad
    else .bad
   | .sl id sz off len cap=>bif zc i.size sz&&Ia (st.obj id)then
     match c,mx with
     |none,some _=>.bad
     |_,_=>match pb d 0,pb c len,pb mx (cap.getD len)with
      |some (b,l),some (a,h),some (g,m)=>.IZ (b&&a&&g&&decide (l<=h)&&decide (h<=m)&&decide (m<=cap.getD len)&&has mx (cap.getD len)) (.sl id sz (zf off l) (yp h l)<|some<|yp m l) st
      |_,_,_=>.bad
    else .bad
   | .nil=>match pb d 0,pb c 0,mx with
    |some (b,l),some (a,h),none=>.IZ (b&&a&&decide (l<=h)&&decide (h<=0)) .nil st
    |some (b,l),some (a,h),some q=>match c,pb (some q) 0 with
     |some _,some (g,m)=>.IZ (b&&a&&g&&decide (l<=h)&&decide (h<=m)&&decide (m<=0)) .nil st
     |_,_=>.bad
    |_,_,_=>.bad
   |_=>.bad
  |none=>.bad
 |_=>.bad
def kS(T:BV)(t:TypeId)(x:PV)(b a mx:Option PV)(st:AI):PO:=SS T t (lz x) b a mx st
def pi64(n:Nat):PV:=.dat (.int .i64)<|Int.ofNat n
def Va(T:BV)(ts:Array TypeId)(args:List PV)(st:AI):PO:=
 match ts[0]?,args with
 |some t,[x]=>match T.und t,x with
  |some .string,.dat .str s=>.val (pi64 (s:Z).length) st
  |some (.slice _),.dat (.list _) l=>.val (pi64 l.length) st
  |some (.slice _),.sl id _ _ len _=>bif Ia (st.obj id)then .val (pi64 len) st else .bad
  |some (.slice _),.nil=>.val (pi64 0) st
  |some (.map _ _),.mp id=>match st.obj id with
   |some (.map _ _ l)=>.val (pi64 l.length) st
   |_=>.bad
  |_,_=>.bad
 |_,_=>.bad
def nV(T:BV)(ts:Array TypeId)(args:List PV)(st:AI):PO:=Va T ts (args.map lz) st
def pmm(f:Int->Int->Int)(k:IntKind):Int->List PV->Option Int
 |x,[]=>some x
 |x,.dat (.int b) y::a=>bif k==b then pmm f k (f x y) a else none
 |_,_=>none
def Nl(f:Int->Int->Int)(args:List PV)(st:AI):PO:=
 match args with
 | .dat (.int k) x::a=>match pmm f k x a with
  |some z=>.val (.dat (.int k) z) st
  |none=>.bad
 |_=>.bad
def imax(x y:Int):Int:=if y>x then y else x
def EO(x y:Int):Int:=if y<x then y else x
def HL(st:AI)(s:Sh)(x:PV):Option (Bool×List s.T):=
 match x with
 | .nil=>some (true,[])
 | .dat (.list a) l=>(Eg (.list a) (.list s) l).map fun r=>(true,r)
 | .sl id sz off len _=>match st.obj id with
  |some (.arr _ _ a l)=>bif zc sz a.sz then(Eg (.list a) (.list s) l).map fun r=>(decide (off+len<=r.length),(r.drop off).take len)else none
  |_=>none
 | .dat .str l=>(Eg (.list<|.int .u8) (.list s)<|List.map (fun b:UInt8=>(b.toNat:Int)) l).map fun r=>(true,r)
 |_=>none
def OI(st:AI)(s:Sh)(x:PV):Option (Bool×List s.T):=HL st s<|lz x
def LIM:Nat:=281474976710656
def lZ:Nat:=562949953421312
def Sk:TypeDesc->Bool
 | .slice _=>true
 | .string=>true
 |_=>false
def RK(T:BV)(ts:Array TypeId)(args:List PV)(st:AI):PO:=
 match ts[0]?,ts[1]?,args with
 |some t,some g,[b,x]=>match T.und t,T.und g with
  |some (.slice e),some a=>bif Sk a then match T.inf e,W4 T 9 e with
   |some i,some s=>
    bif zk 0 i.bytes&&zk 0 i.size&&zc i.zero.length i.size&&zc i.size s.sz then
     match OI st s x with
     |some (c,new)=>match b with
      | .nil=>match x with
       | .nil=>.val .nil st
       | .dat _ _=>.ite (decide (0<new.length)) (.IZ (c&&decide ((3*new.length+2000)*i.bytes<=lZ)) (.sl st.nx s.sz 0 new.length none)<|st.push<|.arr false e s new)<|.val .nil st
       | .sl _ _ _ _ (some _)=>.ite (decide (0<new.length)) (.IZ (c&&decide ((3*new.length+2000)*i.bytes<=lZ)) (.sl st.nx s.sz 0 new.length none)<|st.push<|.arr false e s new)<|.IZ c .nil st
       |_=>.IZ (c&&decide (0<new.length)&&decide ((3*new.length+2000)*i.bytes<=lZ)) (.sl st.nx s.sz 0 new.length none)<|st.push<|.arr false e s new
      | .sl id sz off len cap=>match st.obj id with
       |some (.arr false d f l)=>match Eg (.list f) (.list s) l with
        |some l'=>bif zc e d&&zc sz s.sz then
          match cap with
          |none=>.IZ (c&&decide (off=0)&&decide (len=l'.length)&&decide ((3*(len+new.length)+2000)*i.bytes<=lZ)) (.sl st.nx s.sz 0 (zf len new.length) none)<|(st.FM id).push<|.arr false e s<|l'++new
          |some k=>.IZ (c&&decide (len+new.length<=k)&&decide (off+k<=l'.length)) (.sl id sz off (zf len new.length)<|some k) (st.setObj id<|.arr false e s<|l'.take (off+len)++(new++l'.drop (off+len+new.length)))
         else .bad
        |none=>.bad
       |_=>.bad
      |_=>.bad
     |none=>.bad
    else .bad
   |_,_=>.bad
   else .bad
  |_,_=>.bad
 |_,_,_=>.bad
def Vz(T:BV)(ts:Array TypeId)(args:List PV)(st:AI):PO:=
 match ts[0]?,args with
 |some t,[x]=>match T.und t with
  |some (.slice e)=>match x with
   | .nil=>.val (.tup []) st
   | .sl id sz off len _=>match T.inf e,st.obj id with
    |some i,some (.arr false a s l)=>
     bif zc sz s.sz&&zk 0 i.zero.length&&zc i.zero.length s.sz&&Lt V.one i.zero then
      match Dg s (i.zero.map W6)with
      |some z=>.IZ (decide (off+len<=l.length)) (.tup [])<|st.setObj id<|.arr false a s<|l.take off++(zr len z++l.drop (off+len))
      |none=>.bad
     else .bad
    |_,_=>.bad
   |_=>.bad
  |_=>.bad
 |_,_=>.bad
def VN(args:List PV)(st:AI):PO:=
 match args with
 |[.sl id sz off len none]=>bif Ia (st.obj id)then .IZ (decide (0<len)) (.eptr id sz off 0) st else .bad
 |_=>.bad
def SV(l:List Int):Z:=l.map fun x=>UInt8.ofNat x.toNat
def QV(l:List Int):Bool:=l.all fun x=>decide (0<=x)&&decide (x<256)
def fQ(T:BV)(ts:List TypeId)(args:List PV)(st:AI):PO:=
 match ts,args with
 |[d,_],[.eptr id _ i 0,.dat (.int .i64) n]=>match T.und d,st.obj id with
  |some (.pointer e),some (.arr false b s l)=>match T.inf e,Eg (.list s) (.list<|.int .u8) l with
   |some c,some a=>bif zc c.size 1&&zc e b then
     .IZ (decide (i=0)&&decide (0<(n:Int))&&decide (zg n<=(a:List Int).length)&&decide (zg n<=9223372036854775807)&&QV a) (.dat .str<|SV<|(a:List Int).take<|zg n) (st.FM id)
    else .bad
   |_,_=>.bad
  |_,_=>.bad
 |_,_=>.bad
def I3(T:BV)(b:Builtin)(ts:Array TypeId)(args:List PV)(st:AI):PO:=
 match b with
 | .len=>nV T ts args st
 | .append=>RK T ts args st
 | .max=>Nl imax args st
 | .min=>Nl EO args st
 | .clear=>Vz T ts args st
 | .unsafeSliceData=>VN args st
 | .unsafeString=>fQ T ts.toList args st
 |_=>.bad
def rune(s:Z)(pos:Nat):Int:=(Utf8.decode (bytesOf s) pos).1
def tG(s:Z)(pos:Nat):Nat:=(Utf8.decode (bytesOf s) pos).2
def V3(T:BV)(t:TypeId)(x:PV)(st:AI):PO:=
 match T.und t,x with
 |some .string,.dat .str s=>.val (.ptr st.nx 0)<|st.push<|.siter s 0
 |_,_=>.bad
def fA(x:PV)(a:Bool)(st:AI):PO:=
 match x,a with
 | .ptr id 0,true=>match st.obj id with
  |some (.siter s pos)=>.ite (decide (pos<s.length)) (.val (.tup [.bl true,.dat (.int .i64)<|Int.ofNat pos,.dat (.int .i32)<|rune s pos])<|st.setObj id<|.siter s<|zf pos<|tG s pos)<|.val (.tup [.bl false]) st
  |_=>.bad
 |_,_=>.bad
def Q3(st:AI)(place:Nat->Option (Nat×Nat))(cells:List PV):List (Nat×PV)->Option (List PV)
 |[]=>some cells
 |(i,v)::a=>match place i with
  |none=>none
  |some (off,size)=>match pcs st v with
   |some vs=>bif zc (Fm vs) size&&zp (zf off size) (Fm cells)then Q3 st place (Ch off vs cells) a else none
   |none=>none
def Vu(T:BV)(st:AI)(t:TypeId)(a:List (Nat×PV)):Option PV:=
 match T.inf t,T.und t with
 |some i,some (.struct fs)=>
  match fs.toList.mapM (fun f=>(T.inf f.type).map fun j=>(f.offset,j.size))with
  |some pl=>(Q3 st (fun i=>pl[i]?) (i.zero.map W6) a).map .agg
  |none=>none
 |some i,some (.array _ e)=>match T.inf e with
  |some j=>(Q3 st (fun i=>some (i*j.size,j.size)) (i.zero.map W6) a).map .agg
  |none=>none
 |_,_=>none
def NN(z:List PV):Nat->List PV
 |0=>[]
 |n+1=>z++NN z n
def Cb(st:AI):PV->Option (Bool×PV)
 | .sl id sz off len _=>match st.obj id with
  |some (.arr _ _ s l)=>bif zc sz s.sz then some (decide (off+len<=l.length),.dat (.list s)<|(l.drop off).take len)else none
  |_=>none
 | .dat s x=>some (true,.dat s x)
 | .Ef s x off=>some (true,.Ef s x off)
 | .bl b=>some (true,.bl b)
 | .nil=>some (true,.nil)
 | .fn f [] []=>some (true,.fn f [] [])
 |_=>none
def Dr(st:AI):List PV->Option (Bool×List PV)
 |[]=>some (true,[])
 |v::vs=>match Cb st v,Dr st vs with
  |some (c,x),some (d,a)=>some (c&&d,x::a)
  |_,_=>none
def Bx(st:AI):PV->AI
 | .sl id _ _ _ _=>match st.obj id with
  |some (.arr _ e s l)=>st.setObj id<|.arr true e s l
  |_=>st
 |_=>st
def Bl:List PV->AI->AI
 |[],st=>st
 |v::vs,st=>Bl vs<|Bx st v
def Ss(T:BV)(t:TypeId)(len:Nat)(a:List (Nat×PV))(st:AI):PO:=
 match T.und t with
 |some (.slice e)=>match T.inf e,W4 T 9 e with
  |some i,some s=>
   bif zp (yo len i.size) 16777216&&zk 0 i.zero.length&&zc i.zero.length i.size&&zc i.size s.sz then
    match Q3 st (fun k=>some (k*i.size,i.size)) (NN (i.zero.map W6) len) a with
    |some cs=>match chunk s len cs with
     |some l=>.val (.sl st.nx s.sz 0 len none)<|st.push<|.arr false e s l
     |none=>match Dr st cs with
      |some (c,cs')=>match chunk s len cs' with
       |some l=>.IZ c (.sl st.nx s.sz 0 len none)<|(Bl cs st).push<|.arr false e s l
       |none=>.bad
      |none=>.bad
    |none=>.bad
   else .bad
  |_,_=>.bad
 |_=>.bad
def kJ(T:BV)(t:TypeId)(l c:PV)(st:AI):PO:=
 match T.und t,l,c with
 |some (.slice e),.dat (.int _) l,.dat (.int _) c=>match T.inf e,W4 T 9 e with
  |some i,some s=>
   bif zk 0 i.zero.length&&zc i.zero.length i.size&&zc i.size s.sz then
    match Dg s (i.zero.map W6)with
    |some z=>.IZ (decide (0<=(l:Int))&&decide ((l:Int)=(c:Int))&&decide (i.bytes*zg l<=LIM)&&decide ((l:Int)<9223372036854775808)) (.sl st.nx s.sz 0 (zg l) none)<|st.push<|.arr false e s<|zr (zg l) z
    |none=>.bad
   else .bad
  |_,_=>.bad
 |_,_,_=>.bad
def sL(T:BV)(t:TypeId):Option Sh:=match T.und t with
 |some (.int k)=>some<|.int k
 |some .string=>some .str
 |some .bool=>some .bool
 |_=>none
def M0:PV->Bool
 | .agg _=>true
 |_=>false
def asV(s:Sh)(p:PV):Option s.T:=bif M0 p==s.MZ then Dg s p.cells else none
def WR(T:BV)(t:TypeId)(st:AI):PO:=match T.und t with
 |some (.map a e)=>match sL T a,W4 T 9 e with
  |some ks,some vs=>.val (.mp st.nx)<|st.push<|.map ks vs []
  |_,_=>.bad
 |_=>.bad
def cX(st:AI)(ks vs:Sh)(m:PV):Option (List<|ks.T×vs.T):=match m with
 | .nilm=>some []
 | .mp id=>match st.obj id with
  |some (.map b a l)=>Eg (.list<|.pair b a) (.list<|.pair ks vs) l
  |_=>none
 |_=>none
def vAg:V->Bool
 | .agg _=>true
 |_=>false
def plk(ks vs:Sh)(ok:Bool)(z:vs.T)(x:ks.T)(st:AI):List (ks.T×vs.T)->PO
 |[]=>.val (bif ok then .tup [BL vs z,.bl false]else BL vs z) st
 |(a,b)::l=>.ite (Wa ks x a) (.val (bif ok then .tup [BL vs b,.bl true]else BL vs b) st)<|plk ks vs ok z x st l
def SQ(T:BV)(t:TypeId)(m k:PV)(ok:Bool)(st:AI):PO:=match T.und t with
 |some (.map a e)=>match sL T a,W4 T 9 e,T.inf e with
  |some ks,some vs,some i=>match nB ks k,cX st ks vs m,Dg vs (i.zero.map W6)with
   |some x,some l,some z=>
    bif vAg i.zv==vs.MZ then bif vs.sU then plk ks vs ok z x st l else
     (let v:=BL vs ((D9 ks vs x l).getD z)
     .val (bif ok then .tup [v,.dat .bool (D9 ks vs x l).isSome]else v) st)
    else .bad
   |_,_,_=>.bad
  |_,_,_=>.bad
 |_=>.bad
def Rw(T:BV)(t:TypeId)(m k v:PV)(st:AI):PO:=match T.und t,m with
 |some (.map b _),.mp id=>match sL T b,st.obj id with
  |some ks,some (.map a vs l)=>match nB ks k,Eg (.list<|.pair a vs) (.list<|.pair ks vs) l,asV vs v with
   |some x,some l,some y=>.val (.tup [])<|st.setObj id<|.map ks vs<|JH ks vs x y l
   |_,_,_=>.bad
  |_,_=>.bad
 |_,_=>.bad
def S9(T:BV)(ts:Array TypeId)(args:List PV)(st:AI):PO:=match ts[0]?,args with
 |some t,[.mp id,k]=>match T.und t with
  |some (.map b _)=>match sL T b,st.obj id with
   |some ks,some (.map a vs l)=>match nB ks k,Eg (.list<|.pair a vs) (.list<|.pair ks vs) l with
    |some x,some l=>.val (.tup [])<|st.setObj id<|.map ks vs<|SB ks vs x l
    |_,_=>.bad
   |_,_=>.bad
  |_=>.bad
 |_,_=>.bad
abbrev Km:=BV->AI->PO
def v1(st:AI)(x:Operand)(k:PV->PO):PO:=match Qa st x with|some v=>k v|none=>.bad
def WB(x:Operand):Km:=fun _ st=>ov st<|Qa st x
def iO(c a b:Operand):Km:=fun _ st=>v1 st c fun c=>v1 st a fun a=>v1 st b fun b=>iT c a b st
def tE(T:BV)(t:TypeId):Bool:=
 match T.und t with
 |some (.struct fs)=>match fs[0]? with
  |some f=>match T.und f.type with
   |some (.pointer u)=>zc u t
   |_=>false
  |none=>false
 |_=>false
def RB(t:TypeId):Km:=fun T st=>match xX T t with
 |some (s,n)=>.val (.ptr st.nx 0)<|st.push<|.arr false t s<|zr n s.HA
 |none=>match iK T t with|some cs=>.val (.ptr st.nx 0) (st.push<|bif tE T t then .tbox t cs else .box cs)|none=>.bad
def vC(_:TypeId)(x:Operand):Km:=fun _ st=>v1 st x fun v=>match pcs st v with|some cs=>bif Lt (KN st) cs then .val (.ptr st.nx 0) (st.push<|.box cs)else .bad|none=>.bad
def Yk(t:TypeId)(ps:Array (Nat×Operand)):Km:=fun T st=>match Y7 st ps.toList with|some l=>ov st (Vu T st t l)|none=>.bad
def Uq(t:TypeId)(n:Nat)(ps:Array (Nat×Operand)):Km:=fun T st=>match Y7 st ps.toList with|some l=>Ss T t n l st|none=>.bad
def fR(t:TypeId)(x:Operand):Km:=fun T st=>v1 st x fun a=>ML T st t a
def Yv(t:TypeId)(x y:Operand):Km:=fun T st=>v1 st x fun a=>v1 st y fun b=>WM T st t a b
def OG(x:Operand):Km:=fun _ st=>v1 st x fun a=>match a with| .ptr id _| .eptr id _ _ _=>bif Ia (st.obj id)then .val a st else .bad| .Ef .. =>.val a st|_=>.bad
def tV(T:BV)(op:BinOp)(t:TypeId)(x y:Operand)(a b:PV):Option Bool:=
 match op,a,b,T.und t with
 | .eql,.nili,.nili,some (.interface _)=>bif XJ x||XJ y then some true else none
 | .neq,.nili,.nili,some (.interface _)=>bif XJ x||XJ y then some false else none
 |_,_,_,_=>none
def uD(op:BinOp)(t:TypeId)(x y:Operand)(_:TypeId):Km:=fun T st=>v1 st x fun a=>v1 st y fun b=>match tV T op t x y a b with|some r=>.val (.bl r) st|none=>vT T op t a b st
def AbX(op:UnOp)(_:TypeId)(x:Operand):Km:=fun _ st=>v1 st x fun a=>pun op a st
def lG(s d:TypeId)(x:Operand):Km:=fun T st=>v1 st x fun a=>kP T s d a st
def cW(f:Fn)(a b:Array Operand):Km:=fun _ st=>match Mn st a.toList,Mn st b.toList with|some x,some y=>.val (.fn f x y) st|_,_=>.bad
def bU(t:TypeId)(l c:Operand):Km:=fun T st=>v1 st l fun a=>v1 st c fun b=>kJ T t a b st
def o1(st:AI)(x:Option Operand)(k:Option PV->PO):PO:=match x with|none=>k none|some y=>v1 st y fun v=>k<|some v
def Yw(t:TypeId)(x:Operand)(a b c:Option Operand):Km:=fun T st=>v1 st x fun v=>o1 st a fun l=>o1 st b fun h=>o1 st c fun m=>kS T t v l h m st
def Xn(t:TypeId)(x:Operand)(f:Nat):Km:=fun T st=>v1 st x fun a=>Wd T t a f st
def YA(t:TypeId)(x:Operand)(f:Nat):Km:=fun T st=>v1 st x fun a=>Wu T t a f st
def Yy(t:TypeId)(x i:Operand):Km:=fun T st=>v1 st x fun a=>v1 st i fun b=>lR T t a b st
def Yj(t:TypeId)(x i:Operand):Km:=fun T st=>v1 st x fun a=>v1 st i fun b=>Xb T t a b st
def QQ(x:Operand)(i:Nat):Km:=fun _ st=>v1 st x fun a=>PW a i st
def RE(c:Call):Km:=fun T st=>
 match Mn st c.args.toList with
 |none=>.bad
 |some args=>match c.callee with
  | .builtin b=>match b with
   | .delete=>S9 T c.argTypes args st
   |_=>I3 T b c.argTypes args st
  |_=>.bad
def Yl(t:TypeId)(r:Option Operand):Km:=fun T st=>match r with|none=>WR T t st|some _=>.bad
def UP(t:TypeId)(x i:Operand)(ok:Bool):Km:=fun T st=>v1 st x fun a=>v1 st i fun b=>SQ T t a b ok st
def OX(t:TypeId)(m k x:Operand):Km:=fun T st=>v1 st m fun a=>v1 st k fun b=>v1 st x fun c=>Rw T t a b c st
def XB(t:TypeId)(x:Operand):Km:=fun T st=>v1 st x fun a=>V3 T t a st
def kN(x:Operand)(b:Bool):Km:=fun _ st=>v1 st x fun a=>fA a b st
def JG:Km:=fun _ _=>.bad
def pop(o:Op):Km:=@Op.casesOn (fun _=>Km) o WB WB iO RB vC Yk Uq OX fR Yv (fun _=>JG) (fun _=>JG) OG uD AbX lG
 (fun _ _=>JG) (fun _ _=>JG) cW Yl (fun _ _=>JG) bU Yw Xn YA Yy Yj UP OX (fun _ _ _=>JG) (fun _ _ _ _=>JG)
 XB kN (fun _=>JG) (fun _ _ _ _=>JG) QQ RE (fun _=>JG) (fun _=>JG) (fun _=>JG) (fun _ _=>JG) (fun _ _ _=>JG) (fun _ _=>JG)
@[reducible] def Bv:List Sh->Sh
 |[]=>.unit
 |[a]=>a
 |a::b::l=>.pair a<|Bv (b::l)
def Ae:(l:List Sh)->(Bv l).T->List PV
 |[],_=>[]
 |[a],x=>[BL a x]
 |a::b::l,x=>BL a x.1::Ae (b::l) x.2
structure Ap where
 ins:List Sh
 pre:(Bv ins).T->Bool
 outs:List Sh
 f:(Bv ins).T->(Bv outs).T
 nd:Bool:=false
def Sh.sc:Sh->Bool
 | .int _| .bool| .str| .unit| .fnv=>true
 | .list _| .nlist _| .ptr _=>false
 | .pair a b=>a.sc&&b.sc
structure KW where
 ins:List Sh
 ty:TypeId
 el:Sh
 pre:(Bv ins).T->List el.T->Bool
 g:(Bv ins).T->List el.T->List el.T
 fst:Bool
def wj{α:Type}(b:Bool)(r:List α)(x:α):List α:=bif b then x::r else r++[x]
def wsp{α:Type}(b:Bool)(a:List α):Option (α×List α):=bif b then(match a with|[]=>none|x::r=>some (x,r))else(match a.reverse with|[]=>none|x::r=>some (x,r.reverse))
structure AR where
 C:Ctx
 sp:FuncId->Option Ap
 pl:FuncId->Nat->List Nat
 ct:FuncId->Nat->Bool
 fz:FuncId->Nat->List (Nat×Sh)
 ws:FuncId->Option KW:=fun _=>none
 esc:List FuncId:=[]
 escOk:∀g∈esc,C.prim g=some PK.noEsc.run:=by intro g h;cases h
def GZ(st:AI)(s:Sh)(p:PV):Option (Bool×s.T):=
 bif M0 p==s.MZ then
  match Dr st p.cells with
  |some (c,cs)=>match Dg s (Kl s.leaves cs).2 with
   |some x=>some ((Kl s.leaves cs).1&&c,x)
   |none=>none
  |none=>none
 else none
def C8(st:AI):(l:List Sh)->List PV->Option (Bool×(Bv l).T)
 |[],[]=>some (true,())
 |[a],[p]=>GZ st a p
 |a::b::l,p::ps=>match GZ st a p,C8 st (b::l) ps with
  |some (c,x),some (d,y)=>some (c&&d,(x,y))
  |_,_=>none
 |_,_=>none
def one:List PV->PV
 |[v]=>v
 |l=>.tup l
def dZ(sp:Ap)(args:List PV)(st:AI)(k:PV->AI->Tr):Tr:=
 match C8 st sp.ins args with
 |some (c,i)=>.ite (c&&sp.pre i) (k (one<|Ae sp.outs<|sp.f i)<|bif sp.outs.all Sh.sc then st else Bl (args.flatMap PV.cells) st) .fail
 |none=>.fail
def VC(w:KW)(args:List PV)(st:AI)(k:PV->AI->Tr):Tr:=
 match wsp w.fst args with
 |some (.sl id sz 0 n none,r)=>match C8 st w.ins r,(Bl (r.flatMap PV.cells) st).obj id with
  |some (c,i),some (.arr false t s l)=>bif zc t w.ty then
    match Eg (.list s) (.list w.el) l with
    |some l'=>.ite (c&&w.pre i l'&&decide (n=List.length (α:=w.el.T) l')&&zc sz w.el.sz) (k (.tup [])<|(Bl (r.flatMap PV.cells) st).setObj id<|.arr false w.ty w.el<|w.g i l') .fail
    |none=>.fail
   else .fail
  |_,_=>.fail
 |some (.nil,r)=>match C8 st w.ins r with
  |some (c,i)=>.ite (c&&w.pre i []) (k (.tup [])<|Bl (r.flatMap PV.cells) st) .fail
  |none=>.fail
 |_=>.fail
mutual
def Ac8:PV->List Nat
 | .ptr id _| .eptr id _ _ _| .sl id _ _ _ _| .mp id| .yl id=>[id]
 | .agg l| .tup l=>JN l
 | .fn _ a b=>JN a++JN b
 |_=>[]
def JN:List PV->List Nat
 |[]=>[]
 |v::vs=>Ac8 v++JN vs
end
def Ab2:Obj->List Nat
 | .box cs=>JN cs
 | .tbox _ cs=>JN cs
 | .lp _ _ _ _ _ _ _ sl=>JN (sl.map (·.2))
 |_=>[]
def IF(st:AI)(base:Nat):Nat->List Nat->List Nat->List Nat
 |0,_,acc=>acc
 |_+1,[],acc=>acc
 |f+1,i::a,acc=>bif zk i base||acc.any (zc i)then IF st base f a acc
  else match st.obj i with
   |some o=>IF st base f (a++Ab2 o)<|acc++[i]
   |none=>IF st base f a acc
def P3(base:Nat):List Nat->Nat->Nat->Option Nat
 |[],_,i=>bif zk i base then some i else none
 |j::a,n,i=>bif zc i j then some n else P3 base a (zf n 1) i
mutual
def H8(f:Nat->Option Nat):PV->PV
 | .ptr i o=>match f i with|some j=>.ptr j o|none=>.any
 | .eptr i a b c=>match f i with|some j=>.eptr j a b c|none=>.any
 | .sl i a b c d=>match f i with|some j=>.sl j a b c d|none=>.any
 | .mp i=>match f i with|some j=>.mp j|none=>.any
 | .yl i=>match f i with|some j=>.yl j|none=>.any
 | .agg l=>.agg<|JQ f l
 | .tup l=>.tup<|JQ f l
 | .fn g a b=>.fn g (JQ f a)<|JQ f b
 |v=>v
def JQ(f:Nat->Option Nat):List PV->List PV
 |[]=>[]
 |v::vs=>H8 f v::JQ f vs
end
def OV(f:Nat->Option Nat):Obj->Obj
 | .box cs=>.box<|JQ f cs
 | .tbox t cs=>.tbox t<|JQ f cs
 | .lp g r ps asg body s n sl=>.lp g r ps asg body s n<|sl.map fun x=>(x.1,H8 f x.2)
 |o=>o
def low(f:Nat->Option Nat)(base:Nat):Ob->Ob
 |[]=>[]
 |(i,o)::l=>bif zk i base then(i,OV f o)::low f base l else low f base l
def kept(st:AI)(f:Nat->Option Nat):List Nat->Nat->Ob->Ob
 |[],_,a=>a
 |j::b,n,a=>match st.obj j with
  |some o=>kept st f b (zf n 1) ((n,OV f o)::a)
  |none=>kept st f b (zf n 1) a
def P8(base:Nat):Ob->List Nat
 |[]=>[]
 |(i,o)::l=>bif zk i base then Ab2 o++P8 base l else P8 base l
def AB(n:Nat)(vs:List (Nat×PV))(ob:Ob)(nx:Nat):AI:=⟨n,Ew vs,ob,nx⟩
def canon(base:Nat)(L:List Nat)(st:AI):AI:=
 let vs:=L.map fun t=>(t,st.get t)
 let a:=IF st base 100 (JN (vs.map (·.2))++P8 base st.ob) []
 let f:=P3 base a base
 AB st.n (vs.map fun x=>(x.1,H8 f x.2)) (kept st f a base<|low f base st.ob) (zf base a.length)
def mP(base:Nat)(x:Nat×Sh)(st:AI):AI:=
 match st.get x.1 with
 | .nil=>st.set x.1<|.dat (.list x.2) []
 | .sl id sz off len _=>match st.obj id with
  |some (.arr _ e s l)=>bif zc sz s.sz then(st.setObj id<|.arr true e s l).set x.1 (.dat (.list s)<|(l.drop off).take len)else st
  |_=>st
 | .ptr id 0=>bif zp base id then match st.obj id with
   |some (.box ps)=>match Dg x.2 ps with
    |some v=>(st.FM id).set x.1<|.Ef x.2 v 0
    |none=>st
   |_=>st
  else st
 |_=>st
def eA(base:Nat):List (Nat×Sh)->AI->AI
 |[],st=>st
 |x::l,st=>eA base l<|mP base x st
def By:Code->Nat
 | .region id _ _=>id
 | .seq a _=>By a
 | .block _ b=>By b
 | .loop b=>By b
 | .scope b=>By b
 |_=>0
def LY(X:AR)(f:FuncId)(r:Nat)(base:Nat)(st:AI):AI:=canon base (X.pl f r)<|eA base (X.fz f r) st
inductive xJ where
 |fn (g:FuncId)
 |rnd (id:Nat)
abbrev Fv:=xJ->List PV->AI->(PV->AI->Tr)->Tr
def QU(d:Option Nat)(k:AI->Tr):PO->Tr
 | .bad=>.fail
 | .val v st=>match st.put d v with
  |some st'=>k st'
  |none=>.fail
 | .ite c a b=>.ite c (QU d k a)<|QU d k b
inductive CK where
 |no
 |bad
 |yes (g:xJ) (args:List PV)
def Mp(st:AI)(o:Op):CK:=
 match o with
 | .call c=>match c.callee with
  | .value f=>match Qa st f,Mn st c.args.toList with
   |some (.fn (.func g) first cap),some args=>.yes (.fn g)<|first++args++cap
   |some (.yl id),some args=>.yes (.rnd id) args
   |_,_=>.bad
  |_=>.no
 |_=>.no
def HN(T:BV)(call:Fv)(o:Oper)(st:AI)(k:AI->Tr):Tr:=
 match Mp st o.op with
 | .yes g args=>call g args st fun v st=>match st.put o.dst v with
  |some st'=>k st'
  |none=>.fail
 | .bad=>.fail
 | .no=>QU o.dst k<|pop o.op T st
def Sn(T:BV)(st:AI)(o:Op):Option (PV×AI):=
 match o with
 | .convert s d x=>match T.und s,T.und d,Qa st x with
  |some .string,some<|.slice e,some (.dat .str l)=>match T.und e with
   |some (.int .u8)=>some (.sl st.nx 1 0 (List.length l) none,st.push<|.arr false e (.int .u8)<|List.map (fun b:UInt8=>(b.toNat:Int)) l)
   |_=>none
  |_,_,_=>none
 |_=>none
def xM(T:BV)(st:AI)(o:Op):Option PV:=
 match o with
 | .convert s d x=>match T.und s,T.und d,Qa st x with
  |some (.pointer t),some .unsafePointer,some (.ptr id off)=>match T.inf t,st.obj id with
   |some i,some (.tbox _ cs)=>bif zk 0 i.size&&zk off (Fm cs)then some (.ptr id off)else none
   |_,_=>none
  |some .unsafePointer,some<|.pointer u,some (.ptr id off)=>match T.inf u,st.obj id with
   |some i,some (.tbox e cs)=>bif zk 0 i.size&&zp i.size (Fm cs)&&zc e u&&zc off 0 then some (.ptr id 0)else none
   |_,_=>none
  |_,_,_=>none
 |_=>none
def VB(T:BV)(st:AI)(o:Op):Option (PV×AI):=
 match Sn T st o with
 |some r=>some r
 |none=>match xM T st o with
  |some v=>some (v,st)
  |none=>none
def tN(T:BV)(call:Fv)(o:Oper)(st:AI)(k:AI->Tr):Tr:=
 match VB T st o.op with
 |some (v,a)=>match a.put o.dst v with
  |some b=>k b
  |none=>.fail
 |none=>HN T call o st k
def guarded(ops:Array Oper)(o:Oper)(st:AI)(yes no:AI->Tr):Tr:=
 match o.guard with
 |none=>yes st
 |some (j,a)=>match (ops[j]?).bind (·.dst)with
  |some t=>bif zk t st.n then(match st.get t with
   | .bl b=>bif b==a then yes st else no st
   | .dat .bool b=>bif a then .ite b (yes<|st.set t<|.bl true) (no<|st.set t<|.bl false)else .ite b (no<|st.set t<|.bl true)<|yes<|st.set t<|.bl false
   | .tup _=>no st
   | .ub=>.both (bif a then yes (st.set t<|.bl true)else no<|st.set t<|.bl true)<|bif a then no (st.set t<|.bl false)else yes<|st.set t<|.bl false
   |_=>.fail)else .fail
  |none=>.fail
def LI(o:Oper)(k:AI->Tr)(st:AI):Tr:=
 match st.put o.dst (.tup [])with
 |some st'=>k st'
 |none=>.fail
def prun(T:BV)(call:Fv)(ops:Array Oper):List Oper->AI->(AI->Tr)->Tr
 |[],st,k=>k st
 |o::a,st,k=>guarded ops o st
   (fun st=>tN T call o st fun st'=>prun T call ops a st' k)
   (fun st=>LI o (fun st'=>prun T call ops a st' k) st)
def qN(st:AI)(o:Op):Option (List Nat):=
 match o with
 | .load _ x=>match Qa st x with
  |some (.ptr id _)|some (.eptr id _ _ _)=>some [id]
  |some (.Ef _ _ _)=>some []
  |_=>none
 | .convert _ _ x=>match Qa st x with
  |some (.dat (.int _) _)|some (.dat .str _)=>some []
  |_=>none
 | .call c=>match c.callee,Mn st c.args.toList with
  | .builtin .len,some [.dat _ _]| .builtin .len,some [.sl _ _ _ _ _]| .builtin .len,some [.nil]=>some []
  | .builtin .len,some [.mp id]=>some [id]
  |_,_=>none
 | .lookup _ x _ _=>match Qa st x with
  |some (.mp id)=>some [id]
  |some .nilm=>some []
  |_=>none
 |_=>none
def GY(sp:FuncId->Option Ap)(st:AI)(o:Op):Option (List Nat):=
 match o with
 | .store _ x _=>match Qa st x with
  |some (.ptr id _)|some (.eptr id _ _ _)=>some [id]
  |_=>none
 | .mapUpdate _ x _ _| .insert _ x _ _=>match Qa st x with
  |some (.mp id)=>some [id]
  |_=>none
 | .makeMap _ _| .makeSlice _ _ _=>some []
 | .call c=>match c.callee with
  | .value f=>match Qa st f with
   |some (.fn (.func g) _ _)=>match sp g with
    |some _=>some []
    |none=>none
   |_=>none
  | .builtin .append=>match Mn st c.args.toList with
   |some (.sl id _ _ _ _::_)=>some [id]
   |some _=>some []
   |none=>none
  | .builtin .delete=>match Mn st c.args.toList with
   |some (.mp id::_)=>some [id]
   |_=>none
  | .builtin .unsafeString=>match Mn st c.args.toList with
   |some (.eptr id _ _ _::_)=>some [id]
   |_=>none
  |_=>none
 |_=>none
abbrev Rs:=List<|Nat×Option (List Nat)
def T0:Option (List Nat)->Option (List Nat)->Bool
 |some a,some b=>a.all fun i=> !(b.any<|zc i)
 |some [],none=>true
 |_,_=>false
def K2(st:AI):Option (List Nat)->Bool
 |some l=>l.all fun i=>Ia<|st.obj i
 |none=>false
def apart(anc:Nat->Nat->Bool)(i:Nat)(st:AI)(t:Option (List Nat))(a:Rs):Bool:=a.all fun r=>anc i r.1||(T0 r.2 t&&K2 st r.2)
def behind(st:AI)(t:Option (List Nat))(a:Rs):Rs:=a.map fun r=>bif T0 r.2 t&&K2 st r.2 then r else(r.1,none)
def dE(st:AI)(o:Op):Bool:=match Mp st o with
 | .yes (.rnd _) _=>false
 |_=>true
def JO(T:BV)(sp:FuncId->Option Ap)(call:Fv)(ops:Array Oper)(anc:Nat->Nat->Bool):List Nat->AI->Rs->(AI->Tr)->Tr
 |[],st,_,k=>k st
 |i::b,st,a,k=>match ops[i]? with
  |none=>.fail
  |some o=>guarded ops o st
    (fun st=>bif Ed o then HN T call o st (fun st'=>JO T sp call ops anc b st' (bif Qm o then(i,qN st o.op)::a else a) k)
     else bif Cy o then HN T call o st (fun st'=>JO T sp call ops anc b st' a k)
     else bif apart anc i st (GY sp st o.op) a&&dE st o.op then HN T call o st (fun st'=>JO T sp call ops anc b st' (behind st (GY sp st o.op) a) k)else .fail)
    (fun st=>bif CG o then(bif apart anc i st (some []) a then LI o (fun st'=>JO T sp call ops anc b st' (behind st (some []) a) k) st else .fail)
     else LI o (fun st'=>JO T sp call ops anc b st' a k) st)
def KS(X:AR)(f:FuncId)(r:Nat)(st:AI):List (Nat×PV):=(X.pl f r).map fun t=>(t,st.get t)
def exec(X:AR)(call c:Fv)(nd ro:Bool)(d:Nat)(f:FuncId)(base:Nat):Code->AI->(DX->AI->Tr)->Tr
 | .skip,st,k| .label _,st,k=>k .normal st
 | .region _ ops dr,st,k=>bif dr then(bif !ro||HZ ops (Ek ops)then JO X.C.T X.sp c ops (Ek ops).a (Ek ops).ord st [] (k .normal)else .fail)else prun X.C.T call ops ops.toList st<|k .normal
 | .seq a b,st,k=>exec X call c nd ro d f base a st fun e st'=>match e with
  | .normal=>bif X.ct f (By b)then .cut nd ro d f base b (LY X f (By b) base st') k else exec X call c nd ro d f base b st' k
  |e=>k e st'
 | .cond x a b,st,k=>match Qa st x with
  |some (.bl t)=>bif t then exec X call c nd ro d f base a st k else exec X call c nd ro d f base b st k
  |some (.dat .bool t)=>match x with
   | .tmp s=>.ite t (exec X call c nd ro d f base a (st.set s<|.bl true) k)<|exec X call c nd ro d f base b (st.set s<|.bl false) k
   |_=>.ite t (exec X call c nd ro d f base a st k)<|exec X call c nd ro d f base b st k
  |some .ub=>match x with
   | .tmp s=>.both (exec X call c nd ro d f base a (st.set s<|.bl true) k)<|exec X call c nd ro d f base b (st.set s<|.bl false) k
   |_=>.fail
  |_=>.fail
 | .block id b,st,k=>exec X call c nd ro d f base b st fun e st'=>match e with
  | .exit i=>bif zc i id then k .normal st' else k e st'
  |e=>k e st'
 | .loop b,st,k=>.loop nd ro d f base b (LY X f (By b) base st) k
 | .exit i,st,k=>k (.exit i) st
 | .ret,st,k=>k .ret st
 | .scope b,st,k=>exec X call c nd ro d f base b st k
 | .rangeFunc g ps asg b,st,k=>bif ro then .fail else match Qa st g with
  |some (.fn (.func l) first cap)=>bif (X.C.prim l).isSome then .fail else
   call (.fn l) (first++[.yl st.nx]++cap) (st.push<|.lp f (By b) ps asg b .ready st.n<|KS X f (By b) st) fun _ j=>
    match j.obj st.nx with
    |some (.lp _ _ _ _ _ s _ _)=>match s with
     | .ready=>k .normal<|j.FM st.nx
     | .ret=>k .ret<|j.FM st.nx
     | .exit i=>k (.exit i)<|j.FM st.nx
     | .busy=>.fail
    |_=>.fail
  |_=>.fail
 |_,_,_=>.fail
def dO(T:BV)(st:AI):ResultVar->Option PV
 | .tmp t=>some<|st.get t
 | .cell a t=>match ML T st t (st.get a)with
  | .val v _=>some v
  | .IZ _ v _=>some v
  |_=>none
def ME(T:BV)(st:AI):List ResultVar->List Bool
 |[]=>[]
 | .tmp _::b=>ME T st b
 | .cell a t::b=>match ML T st t (st.get a)with
  | .IZ c _ _=>c::ME T st b
  |_=>ME T st b
def Ry:List Bool->Tr->Tr
 |[],t=>t
 |c::cs,t=>.ite c (Ry cs t) .fail
def mD(T:BV)(st:AI):List ResultVar->Option (List PV)
 |[]=>some []
 |r::a=>match dO T st r,mD T st a with
  |some v,some vs=>some (v::vs)
  |_,_=>none
def EI:List PV->Nat->List (Nat×PV)
 |[],_=>[]
 |v::vs,i=>(i,v)::EI vs (zf i 1)
def enter(X:AR)(call a:Fv)(nd:Bool)(d:Nat)(f:FuncId)(args:List PV)(st:AI)(k:PV->AI->Tr):Tr:=
 match X.C.fn f with
 |none=>.fail
 |some i=>bif i.cert then
   exec X call a nd false d f st.nx i.body (AB (zf args.length<|yp i.ntmps args.length) (EI args 0) st.ob st.nx) fun e s=>match e with
    | .exit _=>.fail
    |_=>match mD X.C.T s i.results.toList with
     |some vs=>Ry (ME X.C.T s i.results.toList)<|k (one vs) ⟨st.n,st.fr,s.ob,s.nx⟩
     |none=>.fail
  else .fail
def MD:List Tmp->List PV->AI->AI
 |t::ts,v::vs,st=>MD ts vs<|bif zk t st.n then st.set t v else st
 |_,_,st=>st
def V8(X:AR)(call c:Fv)(nd:Bool)(d:Nat)(id:Nat)(args:List PV)(st:AI)(k:PV->AI->Tr):Tr:=
 match st.obj id with
 |some (.lp f _ ps asg b .ready n sl)=>bif zc args.length ps.size then
   exec X call c nd true d f st.nx asg (MD ps.toList args<|AB n sl st.ob st.nx) fun e s=>match e with
   | .normal=>match s.obj id with
    |some (.lp v r1 r l u .ready n1 p)=>
     exec X call c nd true d f st.nx b (s.setObj id<|.lp v r1 r l u .busy n1 p) fun t s2=>
      match s2.obj id with
      |some (.lp q r2 g a m _ o j)=>match t with
       | .normal=>k (.bl true) ⟨st.n,st.fr,(s2.setObj id<|.lp q r2 g a m .ready o j).ob,s2.nx⟩
       | .ret=>k (.bl false) ⟨st.n,st.fr,(s2.setObj id<|.lp q r2 g a m .ret o j).ob,s2.nx⟩
       | .exit i=>k (.bl false) ⟨st.n,st.fr,(s2.setObj id<|.lp q r2 g a m (.exit i) o j).ob,s2.nx⟩
      |_=>.fail
    |_=>.fail
   |_=>.fail
  else .fail
 |_=>.fail
def AaO(args:List PV)(st:AI)(k:PV->AI->Tr):Tr:=
 match args with
 |[.ptr id off]=>bif Ia (st.obj id)then k (.ptr id off) st else .fail
 |_=>.fail
def B4(X:AR)(nd:Bool):Nat->Fv
 |0=>fun _ _ _ _=>.fail
 |d+1=>fun c args st k=>match c with
  | .fn g=>match X.sp g with
   |some sp=>bif nd|| !sp.nd then dZ sp args st k else .fail
   |none=>match X.ws g with
    |some w=>VC w args st k
    |none=>bif X.esc.any (zc g)then AaO args st k else match X.C.prim g,X.C.spec g with
     |none,none=>enter X (B4 X nd d) (B4 X false d) nd d g args st k
     |_,_=>.fail
  | .rnd id=>V8 X (B4 X nd d) (B4 X false d) nd d id args st k
def dV:PV->Bool
 | .dat _ _| .Ef _ _ _| .bl _| .nil=>true
 |_=>false
def QW(v:PV):Bool:=v.cells.all dV
def tU:PV->Bool
 | .tup a=>a.all QW
 |v=>QW v
def gcO(v:PV)(ob:Ob):Ob:=bif tU v then[]else ob
def tree(X:AR)(nd:Bool)(d:Nat)(f:FuncId)(args:List PV):Tr:=
 enter X (B4 X nd d) (B4 X false d) nd d f args (AB 0 [] [] 0) fun v st=>.leaf v<|gcO v st.ob
def body(X:AR)(nd ro:Bool)(d:Nat)(f:FuncId)(base:Nat)(b:Code)(st:AI)(k:DX->AI->Tr):Tr:=
 exec X (B4 X nd d) (B4 X false d) nd ro d f base b st fun e st'=>match e with
  | .normal=>.loop nd ro d f base b (LY X f (By b) base st') k
  |e=>k e st'
def AT(X:AR)(nd ro:Bool)(d:Nat)(f:FuncId)(base:Nat)(b:Code)(st:AI)(k:DX->AI->Tr):Tr:=exec X (B4 X nd d) (B4 X false d) nd ro d f base b st k
inductive Ev (X:AR) (Q:PV->Ob->Prop):Nat->Tr->Prop where
 |leaf {n:Nat} {v:PV} {ob:Ob}:Q v ob->Ev X Q n (.leaf v ob)
 |ite {n:Nat} {c:Bool} {a b:Tr}:(c=true->Ev X Q n a)->(c=false->Ev X Q n b)->Ev X Q n (.ite c a b)
 |both {n:Nat} {a b:Tr}:Ev X Q n a->Ev X Q n b->Ev X Q n (.both a b)
 |cut {n:Nat} {nd ro:Bool} {d:Nat} {f:FuncId} {base:Nat} {b:Code} {st:AI} {k:DX->AI->Tr}:Ev X Q n (AT X nd ro d f base b st k)->Ev X Q n (.cut nd ro d f base b st k)
 |alts {n m:Nat} {f:Nat->Tr}:(∀i,i<m->Ev X Q n (f i))->Ev X Q n (.alts m f)
 |loop {n:Nat} {nd ro:Bool} {d:Nat} {f:FuncId} {base:Nat} {b:Code} {st:AI} {k:DX->AI->Tr}:Ev X Q n (body X nd ro d f base b st k)->Ev X Q (n+1) (.loop nd ro d f base b st k)
abbrev Fz:=Nat->Option (List V)
abbrev DU:=Nat->Option (Nat×Nat)
def DC(F:Fz):(s:Sh)->s.T->List V->Prop
 | .int k,x,cs=>cs=[.int k x]
 | .bool,x,cs=>cs=[.bool x]
 | .str,x,cs=>cs=[.str x]
 | .list s,l,cs=>∃v,cs=[v]/\((l=[]/\(v=.nils\/v=.esl\/v=.es0))\/
   ∃b off cap o e,v=.sl b off l.length cap o/\l.length<=cap/\F b=some e/\off+l.length*s.sz<=e.length/\(o=0\/o=s.sz)/\
    ∀i (h:i<l.length),DC F s l[i]<|(e.drop<|off+i*s.sz).take s.sz)
 | .pair a b,x,cs=>∃c d,cs=c++d/\DC F a x.1 c/\DC F b x.2 d
 | .unit,_,cs=>cs=[]
 | .fnv,x,cs=>cs=[match (x:Option Fn)with|some f=>.fn f [] []|none=>.nilf]
 | .ptr s,x,cs=>∃b o e,cs=[.ptr b o]/\F b=some e/\o+s.sz<=e.length/\DC F s x ((e.drop o).take s.sz)
 | .nlist s,l,cs=>∃v,cs=[v]/\((l=[]/\v=.nils)\/(l≠[]/\
   ∃b off cap o e,v=.sl b off l.length cap o/\l.length<=cap/\F b=some e/\off+l.length*s.sz<=e.length/\(o=0\/o=s.sz)/\
    ∀i (h:i<l.length),DC F s l[i]<|(e.drop<|off+i*s.sz).take s.sz))
theorem DC.len{F:Fz}:∀ {s:Sh} {x:s.T} {cs:List V},DC F s x cs->cs.length=s.sz
 | .int _,_,_,h=>by subst h;rfl
 | .bool,_,_,h=>by subst h;rfl
 | .str,_,_,h=>by subst h;rfl
 | .list _,_,_,h=>by obtain⟨v,rfl,_⟩:=h;rfl
 | .pair a b,x,_,h=>by
  obtain⟨c,d,rfl,e,f⟩:=h;rw[List.length_append,e.len,f.len];rfl
 | .unit,_,_,h=>by subst h;rfl
 | .nlist _,_,_,h=>by obtain⟨v,rfl,_⟩:=h;rfl
 | .fnv,_,_,h=>by subst h;rfl
 | .ptr _,_,_,h=>by obtain⟨b,o,g,rfl,_⟩:=h;rfl
theorem DC.ok{F:Fz}:∀ {s:Sh} {x:s.T} {cs:List V},DC F s x cs->∀v∈cs,v.ok=true
 | .int _,_,_,h=>by grind [DC,yj]
 | .bool,_,_,h=>by grind [DC,yj]
 | .str,_,_,h=>by grind [DC,yj]
 | .list s,_,_,h=>by
  obtain⟨v,rfl,⟨_,rfl|rfl|rfl⟩|⟨b,off,cap,o,f,rfl,_⟩⟩:=h<;>simp[yj]
 | .pair a b,x,_,h=>by
  obtain⟨c,d,rfl,g,i⟩:=h;intro v e;rcases List.mem_append.1 e with e|e
  ·exact g.ok v e
  ·exact i.ok v e
 | .unit,_,_,h=>by grind [DC]
 | .fnv,x,_,h=>by subst h;intro v e;rw[zn.1 e];cases (x:Option Fn)<;>rfl
 | .nlist s,_,_,h=>by
  obtain⟨v,rfl,⟨_,rfl⟩|⟨_,b,off,cap,o,f,rfl,_⟩⟩:=h<;>simp[yj]
 | .ptr _,_,_,h=>by obtain⟨b,o,f,rfl,_⟩:=h;simp[yj]
theorem DC.mono{F F':Fz}(e:∀b cs,F b=some cs->F' b=some cs):∀ {s:Sh} {x:s.T} {cs:List V},DC F s x cs->DC F' s x cs
 | .int _,_,_,h=>by simpa only[DC]using h
 | .bool,_,_,h=>by simpa only[DC]using h
 | .str,_,_,h=>by simpa only[DC]using h
 | .list s,l,_,h=>by
  obtain⟨v,rfl,h⟩:=h;refine⟨v,rfl,?_⟩;rcases h with h|⟨b,off,cap,o,j,f,g,m,k,p,n⟩
  ·grind
  ·exact .inr ⟨b,off,cap,o,j,f,g,e _ _ m,k,p,fun i q=>(n i q).mono e⟩
 | .pair a b,x,_,h=>by
  obtain⟨c,d,rfl,f,g⟩:=h;exact⟨c,d,rfl,f.mono e,g.mono e⟩
 | .unit,_,_,h=>by simpa only[DC]using h
 | .fnv,_,_,h=>by simpa only[DC]using h
 | .ptr s,x,_,h=>by
  obtain⟨b,o,j,f,g,m,k⟩:=h;exact⟨b,o,j,f,e _ _ g,m,k.mono e⟩
 | .nlist s,l,_,h=>by
  obtain⟨v,rfl,h⟩:=h;refine⟨v,rfl,?_⟩;rcases h with h|⟨h0,b,off,cap,o,j,f,g,m,k,p,n⟩
  ·grind
  ·exact .inr ⟨h0,b,off,cap,o,j,f,g,e _ _ m,k,p,fun i q=>(n i q).mono e⟩
theorem DC.nl{F:Fz}{s:Sh}{l:List s.T}{cs:List V}(h:DC F (.nlist s) l cs):DC F (.list s) l cs:=by
 simp only[DC]at h ⊢;obtain⟨v,rfl,h⟩:=h;rcases h with⟨rfl,rfl⟩|⟨_,h⟩
 ·simp
 simp_all
theorem DC.nl'{F:Fz}{s:Sh}{l:List s.T}{cs:List V}(h:DC F (.list s) l cs)(h0:0<l.length):DC F (.nlist s) l cs:=by
 have a:l≠[]:=ah
 simp_all [DC]
mutual
def PR(F:Fz)(ρ:DU)(N:Nat):PV->V->Prop
 | .any,_=>True
 | .bl b,v=>v=.bool b
 | .ub,v=>∃b,v=.bool b
 | .dat s x,v=>DC F s x [v]
 | .nil,v=>v=.nils
 | .nilp,v=>v=.nilp
 | .nilm,v=>v=.nilm
 | .nilf,v=>v=.nilf
 | .nili,v=>v=.nili
 | .agg l,v=>∃cs,v=.agg cs/\BC F ρ N l cs
 | .tup l,v=>∃cs,v=.tup cs/\BC F ρ N l cs
 | .ptr id off,v=>id<N/\∀b n,ρ id=some (b,n)->v=.ptr b off
 | .eptr id sz i off,v=>id<N/\∀b n,ρ id=some (b,n)->v=.ptr b (i*sz+off)
 | .Ef s x off,v=>∃b o cs,v=.ptr b (o+off)/\F b=some cs/\o+s.sz<=cs.length/\DC F s x ((cs.drop o).take s.sz)
 | .sl id sz off len cap,v=>id<N/\∀b n,ρ id=some (b,n)->
   (len<=cap.getD len/\off+cap.getD len<=n/\∃o,(o=0\/o=sz)/\v=.sl b (off*sz) len (cap.getD len) o)\/
   (len=0/\cap=some 0/\off<=n/\(v=.esl\/∃c,v=.sl b c 0 0 0/\c<=off*sz))
 | .mp id,v=>id<N/\∀b n,ρ id=some (b,n)->v=.map b
 | .fn f first captured,v=>∃a b,v=.fn f a b/\BC F ρ N first a/\BC F ρ N captured b
 | .yl id,v=>id<N/\∀b n,ρ id=some (b,n)->v=.yld b
def BC(F:Fz)(ρ:DU)(N:Nat):List PV->List V->Prop
 |[],l=>l=[]
 |p::ps,l=>∃v vs,l=v::vs/\PR F ρ N p v/\BC F ρ N ps vs
end
section
variable {F F':Fz}{ρ ρ':DU}{N N':Nat}
@[simp] theorem DB(l:List V):BC F ρ N [] l↔l=[]:=by rfl
@[simp] theorem BF(p:PV)(ps:List PV)(v:V)(vs:List V):BC F ρ N (p::ps) (v::vs)↔PR F ρ N p v/\BC F ρ N ps vs:=by
 simp only[BC];grind
theorem BC.len:∀ {ps:List PV} {vs:List V},BC F ρ N ps vs->ps.length=vs.length
 |[],vs,h=>by simp_all
 |p::ps,vs,h=>by
  obtain⟨v,vs,rfl,_,a⟩:=h;simp[a.len]
theorem BC.append:∀ {a:List PV} {x:List V} {b:List PV} {y:List V},BC F ρ N a x->BC F ρ N b y->BC F ρ N (a++b) (x++y)
 |[],x,b,y,h,h'=>by simp_all
 |p::ps,x,b,y,h,h'=>by
  obtain⟨v,vs,rfl,c,d⟩:=h;simp only[List.cons_append,BF];exact⟨c,d.append h'⟩
theorem BC.drop:∀ {a:List PV} {x:List V} (n:Nat),BC F ρ N a x->BC F ρ N (a.drop n) (x.drop n)
 |[],x,n,h=>by simp_all
 |p::ps,x,0,h=>by grind
 |p::ps,x,n+1,h=>by
  obtain⟨v,vs,rfl,c,b⟩:=h;simpa using b.drop n
theorem BC.take:∀ {a:List PV} {x:List V} (n:Nat),BC F ρ N a x->BC F ρ N (a.take n) (x.take n)
 |[],x,n,h=>by simp_all
 |p::ps,x,0,h=>by simp
 |p::ps,x,n+1,h=>by
  obtain⟨v,vs,rfl,b,c⟩:=h;simpa using⟨b,c.take n⟩
theorem BC.get:∀ {a:List PV} {x:List V},BC F ρ N a x->∀ {i:Nat} {p:PV},a[i]?=some p->∃v,x[i]?=some v/\PR F ρ N p v
 |[],x,h,i,p,b=>by grind
 |q::ps,x,h,i,p,b=>by
  obtain⟨v,vs,rfl,d,c⟩:=h;cases i with
  |zero=>grind
  |succ i=>simpa using c.get b
structure Le(F:Fz)(ρ:DU)(N:Nat)(F':Fz)(ρ':DU)(N':Nat):Prop where
 fz:∀b cs,F b=some cs->F' b=some cs
 rho:∀id,id<N->ρ' id=ρ id\/ρ' id=none
 n:N<=N'
theorem Le.refl:Le F ρ N F ρ N:=⟨fun _ _ h=>h,(by simp),zy _⟩
theorem Le.trans{g:Fz}{d:DU}{f:Nat}(a:Le F ρ N F' ρ' N')(b:Le F' ρ' N' g d f):Le F ρ N g d f:=
 ⟨fun c cs h=>b.fz c cs<|a.fz c cs h,fun id h=>by
  rcases b.rho id (zi h a.n)with e|e
  ·rw[e];exact a.rho id h
  grind,Nat.le_trans a.n b.n⟩
theorem Le.at(a:Le F ρ N F' ρ' N'){id:Nat}(h:id<N){x:Nat×Nat}(b:ρ' id=some x):ρ id=some x:=by
 rcases a.rho id h with e|e
 ·grind
 grind
mutual
theorem PR.mono(c:Le F ρ N F' ρ' N'):∀ {p:PV} {v:V},PR F ρ N p v->PR F' ρ' N' p v
 | .any,_,_=>by simp[PR]
 | .bl _,_,h=>by simpa only[PR]using h
 | .ub,_,h=>by simpa only[PR]using h
 | .dat s x,_,h=>by simp only[PR]at h ⊢;exact h.mono c.fz
 | .nil,_,h| .nilp,_,h| .nilm,_,h| .nilf,_,h| .nili,_,h=>by simpa only[PR]using h
 | .agg l,_,h=>by obtain⟨cs,rfl,e⟩:=h;exact⟨cs,rfl,e.mono c⟩
 | .tup l,_,h=>by obtain⟨cs,rfl,e⟩:=h;exact⟨cs,rfl,e.mono c⟩
 | .ptr _ _,_,h=>by exact⟨zi h.1 c.n,fun b n d=>h.2 b n<|c.at h.1 d⟩
 | .eptr _ _ _ _,_,h=>by exact⟨zi h.1 c.n,fun b n d=>h.2 b n<|c.at h.1 d⟩
 | .Ef s x off,_,h=>by
  obtain⟨b,o,cs,e,g,j,i⟩:=h;exact⟨b,o,cs,e,c.fz _ _ g,j,i.mono c.fz⟩
 | .sl _ _ _ _ _,_,h=>by exact⟨zi h.1 c.n,fun b n d=>h.2 b n<|c.at h.1 d⟩
 | .mp _,_,h=>by exact⟨zi h.1 c.n,fun b n d=>h.2 b n<|c.at h.1 d⟩
 | .fn f a b,_,h=>by
  obtain⟨x,y,rfl,e,g⟩:=h;exact⟨x,y,rfl,e.mono c,g.mono c⟩
 | .yl _,_,h=>by exact⟨zi h.1 c.n,fun b n d=>h.2 b n<|c.at h.1 d⟩
theorem BC.mono(a:Le F ρ N F' ρ' N'):∀ {ps:List PV} {vs:List V},BC F ρ N ps vs->BC F' ρ' N' ps vs
 |[],_,h=>by simp_all
 |p::ps,_,h=>by
  obtain⟨v,vs,rfl,b,c⟩:=h;exact⟨v,vs,rfl,b.mono a,c.mono a⟩
end
theorem PR.lz:∀ {p:PV} {v:V},PR F ρ N p v->PR F ρ N (lz p) v:=by
 intro p v h;unfold Pe.lz;split
 ·exact h.nl
 omega
theorem BC.lz:∀ {ps:List PV} {vs:List V},BC F ρ N ps vs->BC F ρ N (ps.map Pe.lz) vs
 |[],_,h=>by grind
 |p::ps,_,h=>by
  obtain⟨v,vs,rfl,a,b⟩:=h;simp only[List.map_cons,BF];exact⟨a.lz,b.lz⟩
theorem aK{s:Sh}{p:PV}{v:V}(h:PR F ρ N p v)(a:(Um s p).1=true):PR F ρ N (Um s p).2 v:=by
 unfold Um at a ⊢;split
 ·rename_i s b x;cases c:(s==b)with
  |false=>exact h
  |true=>
   have a:(bif s==b then(decide (0<List.length x),PV.dat b.nlist x)else(true,PV.dat b.list x)).1=true:=a;rw[c]at a;simp only[we,w5]at a;exact h.nl' a
 ·rename_i s b x;cases c:(s==b)with
  |false=>exact h
  |true=>exact h.nl
 omega
theorem QZ:∀ {l:List Sh} {ps:List PV} {vs:List V},BC F ρ N ps vs->(Kl l ps).1=true->BC F ρ N (Kl l ps).2 vs
 |[],ps,vs,h,_=>h
 |s::l,[],vs,h,_=>h
 |s::l,p::ps,vs,h,a=>by
  obtain⟨v,vs,rfl,b,c⟩:=h;simp only[Kl,ze]at a;simp only[Kl,BF];exact⟨aK b a.1,QZ c a.2⟩
def C9(F:Fz)(s:Sh)(l:List s.T)(cs:List V):Prop:=cs.length=l.length*s.sz/\∀i (h:i<l.length),DC F s l[i]<|(cs.drop<|i*s.sz).take s.sz
theorem C9.mono(c:∀b cs,F b=some cs->F' b=some cs){s:Sh}{l:List s.T}{cs:List V}(h:C9 F s l cs):C9 F' s l cs:=⟨h.1,fun i a=>(h.2 i a).mono c⟩
theorem C9.ok{F:Fz}{s:Sh}{l:List s.T}{cs:List V}(h:C9 F s l cs):∀v∈cs,v.ok=true:=by
 intro v c;obtain⟨k,f⟩:=List.mem_iff_getElem?.1 c;have a:=(List.getElem?_eq_some_iff.1 f).1;have d:0<s.sz:=by
  rcases Nat.eq_zero_or_pos s.sz with e|e
  ·rw[h.1,e,Nat.mul_zero]at a;omega
  omega
 have b:k/s.sz<l.length:=Nat.div_lt_of_lt_mul (by rw[Nat.mul_comm, <-h.1];exact a);refine(h.2 _ b).ok v ?_;refine List.mem_iff_getElem?.2 ⟨k % s.sz,?_⟩;grind [Nat.mod_lt,Nat.div_add_mod]
def DV(F:Fz)(s:Sh)(x:s.T)(v:V):Prop:=(s.MZ=true->∃cs,v=.agg cs/\DC F s x cs)/\(s.MZ=false->DC F s x [v])
theorem DV.mono(a:∀b cs,F b=some cs->F' b=some cs){s:Sh}{x:s.T}{v:V}(h:DV F s x v):DV F' s x v:=
 ⟨fun e=>by obtain⟨cs,c,d⟩:=h.1 e;exact⟨cs,c,d.mono a⟩,fun e=>(h.2 e).mono a⟩
inductive MR (F:Fz) (ks vs:Sh):List (ks.T×vs.T)->List (V×V×Nat)->Prop where
 |nil:MR F ks vs [] []
 |cons {k:ks.T} {v:vs.T} {l:List (ks.T×vs.T)} {a b:V} {n:Nat} {es:List (V×V×Nat)}:DV F ks k a->DV F vs v b->MR F ks vs l es->MR F ks vs ((k,v)::l) ((a,b,n)::es)
theorem MR.mono(a:∀b cs,F b=some cs->F' b=some cs){ks vs:Sh}{l:List (ks.T×vs.T)}{es:List (V×V×Nat)}(h:MR F ks vs l es):MR F' ks vs l es:=by
 induction h with
 |nil=>exact .nil
 |cons d e _ c=>exact .cons (d.mono a) (e.mono a) c
def Ov(sl:List (Nat×PV))(t:Nat):PV:=((Ew sl).get t).getD .any
def LpR:LpS->LoopState->Option Code->Prop
 | .ready,st,a=>st=.ready/\a=none
 | .busy,st,_=>st=.busy
 | .ret,st,a=>st=.done/\a=some .ret
 | .exit i,st,a=>st=.done/\a=some (.exit i)
def VE(F:Fz)(ρ:DU)(N n:Nat):Obj->O->Prop
 | .arr _ e s l,o=>∃cs fz,o=.cells cs e fz/\C9 F s l cs/\fz.2<=fz.1/\l.length=n
 | .box ps,o=>∃cs t fz,o=.cells cs t fz/\BC F ρ N ps cs/\fz.2<=fz.1/\∀v∈cs,v.ok=true
 | .tbox t ps,o=>∃cs fz,o=.cells cs t fz/\BC F ρ N ps cs/\fz.2<=fz.1/\∀v∈cs,v.ok=true
 | .map ks vs l,o=>∃es a,o=.map es a/\MR F ks vs l es
 | .siter s pos,o=>o=.siter s pos
 | .lp _ _ ps asg body s n' sl,o=>∃ls,o=.loop ls/\ls.ps=ps/\ls.asg=asg/\ls.body=body/\LpR s ls.st ls.pend/\ls.fr.n=n'/\∀t,PR F ρ N (Ov sl t)<|ls.fr.get t
theorem VE.mono(d:Le F ρ N F' ρ' N'){n:Nat}{x:Obj}{o:O}(h:VE F ρ N n x o):VE F' ρ' N' n x o:=by
 cases x with
 |arr fz e s l=>obtain⟨cs,f,a,b,c⟩:=h;exact⟨cs,f,a,b.mono d.fz,c⟩
 |box ps=>obtain⟨cs,t,f,a,b,c⟩:=h;exact⟨cs,t,f,a,b.mono d,c⟩
 |tbox t ps=>obtain⟨cs,f,a,b,c⟩:=h;exact⟨cs,f,a,b.mono d,c⟩
 |map ks vs l=>obtain⟨es,g,a,b⟩:=h;exact⟨es,g,a,b.mono d.fz⟩
 |siter s pos=>exact h
 |lp f r ps asg body s n sl=>obtain⟨ls,a,b,c,i,m,k,j⟩:=h;exact⟨ls,a,b,c,i,m,k,fun t=>(j t).mono d⟩
def Obj.frozen:Obj->Bool
 | .arr fz _ _ _=>fz
 |_=>false
structure H0 where
 h:H
 F:Fz
 pin:List Nat
 ex:Nat->Prop:=fun _=>False
def H0.pins(h0:H0)(ps:List Nat):H0:={ h0 with pin:=ps++h0.pin }
def H0.Zn(h0:H0)(B b:Nat):Prop:=B<=b\/h0.ex b
theorem ND{h0:H0}{B b c:Nat}(h:h0.Zn B b)(a:c<B)(d:¬h0.ex c):c≠b:=by
 rcases h with h|h
 ·omega
 grind
structure SR(B:Nat)(h0:H0)(F:Fz)(ρ:DU)(N:Nat)(ob:Ob)(h:H):Prop where
 obj:∀id o,AM ob id=some o->∃b n x,ρ id=some (b,n)/\h.get b=some x/\VE F ρ N n o x/\(o.frozen=false->F b=none)/\
  (o.frozen=true->∃cs t fz,x=.cells cs t fz/\F b=some cs)
 inj:∀id id' o o' b n n',AM ob id=some o->AM ob id'=some o'->ρ id=some (b,n)->ρ id'=some (b,n')->id=id'
 frz:∀b cs,F b=some cs->∃t fz,h.get b=some (.cells cs t fz)
 own:∀id b n,ρ id=some (b,n)->id<N/\h0.Zn B b
 dead:∀id,AM ob id=none->ρ id=none
 old:∀b,b<B->¬h0.ex b->h.get b=h0.h.get b
 lt:∀b o,h.get b=some o->b<h.nx
 le:B<=h.nx
 fo:∀b cs,F b=some cs->h0.F b=some cs\/h0.Zn B b
 gl:∀x∈C5,x.1<B/\¬h0.ex x.1/\h0.h.get x.1=some x.2
 pn:∀b∈h0.pin,h.get b=some (.defd true)/\B<=b/\∀id n,ρ id≠some (b,n)
structure FP(F:Fz)(ρ:DU)(N:Nat)(st:AI)(fr:Fr):Prop where
 n:st.n=fr.n
 slot:∀t,PR F ρ N (st.get t) (fr.get t)
theorem FP.mono(a:Le F ρ N F' ρ' N'){st:AI}{fr:Fr}(h:FP F ρ N st fr):FP F' ρ' N' st fr:=⟨h.n,fun t=>(h.slot t).mono a⟩
end
section
variable {B:Nat}{h0:H0}{F:Fz}{ρ:DU}{N:Nat}
mutual
theorem Xi:∀ {v:Value} {p:PV},Na v=some p->∃x,cv v=some x/\PR F ρ N p x
 | .bool b,p,h=>by simp[Na]at h;subst h;exact⟨_,rfl,by simp[PR]⟩
 | .int k n,p,h=>by simp[Na]at h;subst h;exact⟨_,rfl,by rfl⟩
 | .string s,p,h=>by simp[Na]at h;subst h;exact⟨_,rfl,by rfl⟩
 | .pointer none,p,h=>by simp[Na]at h;subst h;exact⟨_,rfl,by simp[PR]⟩
 | .pointer (some a),p,h=>by simp[Na]at h
 | .slice none 0 0,p,h=>by simp[Na]at h;subst h;exact⟨_,rfl,by simp[PR]⟩
 | .slice none 0 (_+1),p,h=>by simp[Na]at h
 | .slice none (_+1) _,p,h=>by simp[Na]at h
 | .slice (some a) _ _,p,h=>by simp[Na]at h
 | .map none,p,h=>by simp[Na]at h;subst h;exact⟨_,rfl,by simp[PR]⟩
 | .map (some a),p,h=>by simp[Na]at h
 | .nilFunc,p,h=>by simp[Na]at h;subst h;exact⟨_,rfl,by simp[PR]⟩
 | .nilIface,p,h=>by simp[Na]at h;subst h;exact⟨_,rfl,by simp[PR]⟩
 | .func f ⟨[]⟩ ⟨[]⟩,p,h=>by simp[Na]at h;subst h;exact⟨_,rfl,by simp[PR]⟩
 | .func f ⟨_::_⟩ _,p,h=>by simp[Na]at h
 | .func f ⟨[]⟩ ⟨_::_⟩,p,h=>by simp[Na]at h
 | .agg ⟨cs⟩,p,h=>by
  simp only[Na,zz]at h;obtain⟨d,c,rfl⟩:=h;obtain⟨ys,h2,h3⟩:=Px c;simp_all [cv,PR]
 | .tuple ⟨cs⟩,p,h=>by
  simp only[Na,zz]at h;obtain⟨d,c,rfl⟩:=h;obtain⟨ys,h2,h3⟩:=Px c;simp_all [cv,PR]
 | .float _ _,p,h=>by simp[Na]at h
 | .complex _ _ _,p,h=>by simp[Na]at h
 | .chan _,p,h=>by simp[Na]at h
 | .iface _ _,p,h=>by simp[Na]at h
theorem Px:∀ {vs:List Value} {ps:List PV},ZR vs=some ps->∃a,tI vs=some a/\BC F ρ N ps a
 |[],ps,h=>by simp[ZR]at h;subst h;exact⟨[],rfl,by simp⟩
 |v::vs,ps,h=>by
  unfold ZR at h;split at h
  case h_2=>cases h
  rename_i x a b c;cases h;obtain⟨y,e,d⟩:=Xi b;obtain⟨ys,g3,g4⟩:=Px c;simp_all [tI]
end
theorem sB(v:V):PR F ρ N (W6 v) v:=by
 cases v<;>simp[W6,PR,DC]
theorem D1:∀vs:List V,BC F ρ N (vs.map W6) vs
 |[]=>by simp
 |v::vs=>by simp only[List.map_cons,BF];exact⟨sB v,D1 vs⟩
variable {C:Ctx}{st st':AI}{fr:Fr}{h:H}
theorem BY(b:FP F ρ N st fr){x:Operand}{p:PV}(a:Qa st x=some p):∃v,ev C fr x=some v/\PR F ρ N p v:=by
 cases x with
 |tmp t=>simp only[Qa,zh]at a;subst a;exact⟨_,rfl,b.slot t⟩
 |const v=>exact Xi a
 |global g=>simp[Qa]at a
 |func f=>simp only[Qa,zh]at a;subst a;exact⟨_,rfl,by simp[PR]⟩
theorem EG(c:FP F ρ N st fr):∀ {b:List Operand} {ps:List PV},Mn st b=some ps->∃vs,Tq C fr b=some vs/\BC F ρ N ps vs
 |[],ps,a=>by simp[Mn]at a;subst a;exact⟨[],rfl,by simp⟩
 |x::b,ps,a=>by
  unfold Mn at a;split at a
  case h_2=>cases a
  rename_i v vs d e;cases a;obtain⟨y,g,f⟩:=BY (C:=C) c d;obtain⟨ys,g3,g4⟩:=EG c e;simp_all [Tq]
inductive yD (F:Fz) (ρ:DU) (N:Nat):List (Nat×PV)->List (Nat×V)->Prop
 |nil:yD F ρ N [] []
 |cons {i:Nat} {p:PV} {v:V} {l:List (Nat×PV)} {l':List (Nat×V)}:PR F ρ N p v->yD F ρ N l l'->yD F ρ N ((i,p)::l) ((i,v)::l')
theorem Pp(c:FP F ρ N st fr):∀ {b:List (Nat×Operand)} {ps:List (Nat×PV)},Y7 st b=some ps->∃vs,WI C fr b=some vs/\yD F ρ N ps vs
 |[],ps,a=>by simp[Y7]at a;subst a;exact⟨[],rfl,.nil⟩
 |(i,x)::b,ps,a=>by
  unfold Y7 at a;split at a
  case h_2=>cases a
  rename_i v vs d e;cases a;obtain⟨y,g,f⟩:=BY (C:=C) c d;obtain⟨ys,g3,g4⟩:=Pp c e;exact⟨(i,y)::ys,by simp[WI,g,g3],.cons f g4⟩
structure Rel(B:Nat)(h0:H0)(F:Fz)(ρ:DU)(st:AI)(fr:Fr)(h:H):Prop where
 fp:FP F ρ st.nx st fr
 sr:SR B h0 F ρ st.nx st.ob h
inductive PO.To:PO->PV->AI->Prop
 |val {v:PV} {st:AI}:PO.To (.val v st) v st
 |tt {a b:PO} {v:PV} {st:AI}:PO.To a v st->PO.To (.ite true a b) v st
 |ff {a b:PO} {v:PV} {st:AI}:PO.To b v st->PO.To (.ite false a b) v st
@[simp] theorem LR{v:PV}{s:AI}:¬PO.To .bad v s:=by intro h;cases h
@[simp] theorem B1{v u:PV}{s t:AI}:PO.To (.val v s) u t↔v=u/\s=t:=by
 constructor
 ·intro h;cases h;simp
 ·rintro⟨rfl,rfl⟩;exact .val
@[simp] theorem B2{c:Bool}{v u:PV}{s t:AI}:PO.To (.IZ c v s) u t↔c=true/\v=u/\s=t:=by
 constructor
 ·intro h;cases h with
  |tt h=>simp_all
  |ff h=>cases h
 ·rintro⟨rfl,rfl,rfl⟩;exact .tt .val
@[simp] theorem Rf{o:Option PV}{u:PV}{s t:AI}:PO.To (ov s o) u t↔o=some u/\s=t:=by
 cases o with
 |none=>simp[ov]
 |some v=>simp only[ov,B1,zh]
@[simp] theorem WQ{c:Bool}{o:Option PV}{u:PV}{s t:AI}:PO.To (ovc c s o) u t↔c=true/\o=some u/\s=t:=by
 cases o with
 |none=>simp[ovc]
 |some v=>simp only[ovc,B2,zh]
def OK(B:Nat)(h0:H0)(F:Fz)(ρ:DU)(st:AI)(h:H)(a:List Nat)(d:Option OR)(v:PV)(st':AI):Prop:=
 ∃v' h' F' ρ',(d=some (.val v' h')\/(d=some (.skip h')/\v'=.tup []))/\PR F' ρ' st'.nx v v'/\SR B h0 F' ρ' st'.nx st'.ob h'/\Le F ρ st.nx F' ρ' st'.nx/\
  st'.fr=st.fr/\st'.n=st.n/\h.nx<=h'.nx/\∀b,b<h.nx->h'.get b=h.get b\/∃id∈a,∃n,ρ id=some (b,n)
theorem OK.pure{a:List Nat}(e:SR B h0 F ρ st.nx st.ob h){d:Option OR}{v:PV}{v':V}(b:d=some (.val v' h))(c:PR F ρ st.nx v v'):OK B h0 F ρ st h a d v st:=
 ⟨v',h,F,ρ,.inl b,c,e,Le.refl,rfl,rfl,zy _,(by simp)⟩
theorem LF{α:Type}(n:Nat)(l:List α):Det.JX n l=l.drop n:=N6 n l
theorem rd_some{h:H}{b off n:Nat}{cs:List V}{t:TypeId}{fz:Nat×Nat}(c:h.get b=some (.cells cs t fz))(a:off+n<=cs.length)(d:∀v∈(cs.drop off).take n,v.ok=true):rd h b off n=some ((cs.drop off).take n):=by
 simp_all [YK,rd0]
theorem Pt{d:TypeDesc}{n:Nat}{ps:List PV}{cs:List V}(c:BC F ρ N ps cs){p:PV}(a:pick d n ps=some p):
  (DZ d=true/\0<n/\n<=cs.length/\PR F ρ N p (.agg<|cs.take n))\/(DZ d=false/\∃v vs,cs=v::vs/\PR F ρ N p v):=by
 unfold pick at a;cases f:DZ d with
 |true=>
  left;simp only[f,we]at a;rw[DF,Oo]at a;cases b:(zp n ps.length&&zk 0 n)with
  |false=>grind
  |true=>
   rw[b]at a;simp only[we,zh]at a;subst a;simp only[ze]at b;obtain⟨b,e⟩:=b;refine⟨rfl,z6 e,by rw[<-c.len];simp_all,?_⟩;exact⟨_,rfl,c.take n⟩
 |false=>
  simp only[f,wg]at a;cases ps with
  |nil=>cases a
  |cons q g=>
   simp only[BC]at c;grind
theorem CB:∀ {s:Sh} {x:s.T} {cs:List V},DC F s x cs->BC F ρ N (flat s x) cs
 | .pair a b,(x,y),cs,h=>by
  obtain⟨c,d,rfl,f,e⟩:=h;exact(CB f).append<|CB e
 | .unit,_,cs,h=>by simp_all [DC,flat]
 | .int k,x,cs,h=>by simp_all [DC,flat,PR]
 | .bool,x,cs,h=>by simp_all [DC,flat,PR]
 | .str,x,cs,h=>by simp_all [DC,flat,PR]
 | .list s,x,cs,h=>by
  have h':=h;obtain⟨v,rfl,_⟩:=h;simp_all [flat,PR]
 | .fnv,x,cs,h=>by subst h;simp only[flat,BF,DB,ve];cases (x:Option Fn)<;>simp[PR]
 | .ptr s,x,cs,h=>by
  obtain⟨b,o,g,rfl,e,j,i⟩:=h;simp only[flat,BF,DB,ve,PR];grind
 | .nlist s,x,cs,h=>by
  have h':=h;obtain⟨v,rfl,_⟩:=h;simp_all [flat,PR]
theorem FB{α:Type}(l:List α)(a b:Nat):l.drop (a+b)=(l.drop a).drop b:=by simp
theorem G3{T:BV}{t:TypeId}{d:TypeDesc}{i:TI}(w:T.und t=some d)(u:T.inf t=some i){b off:Nat}{cs:List V}{s:TypeId}{fz:Nat×Nat}(e:h.get b=some (.cells cs s fz))
  {m:Nat} (l:∀v∈(cs.drop off).take m,v.ok=true) {ps:List PV} (r:BC F ρ N ps ((cs.drop off).take m)) {p:PV} (c:pick d i.size ps=some p):∃v,EP T h t (.ptr b off)=some v/\PR F ρ N p v:=by
 unfold EP;simp only[w,u];have f:((cs.drop off).take m).length<=cs.length-off:=ah
 rcases Pt r c with⟨x,_,y,j⟩|⟨x,v,vs,q,j⟩
 ·rw[rd_some e ae ah];grind
 ·have n:off+1<=cs.length:=by
   grind
  have o:(cs.drop off).take 1=[v]:=by
   have:m≠0:=ah
   obtain⟨k,rfl⟩:=Nat.exists_eq_succ_of_ne_zero this;cases z:cs.drop off with
   |nil=>grind
   |cons a g=>grind
  rw[rd_some e n ah,o];grind
end
section
variable {B:Nat}{h0:H0}{F:Fz}{ρ:DU}{N:Nat}{C:Ctx}{st st':AI}{fr:Fr}{h:H}
theorem SR.at(c:SR B h0 F ρ N st.ob h){id:Nat}{o:Obj}(a:st.obj id=some o):∃b n x,ρ id=some (b,n)/\h.get b=some x/\VE F ρ N n o x/\(o.frozen=false->F b=none)/\
  (o.frozen=true->∃cs t fz,x=.cells cs t fz/\F b=some cs):=c.obj id o a
theorem OF{s:Sh}{l:List s.T}{cs:List V}(c:C9 F s l cs)(a:s.sz=1):∀(n j:Nat),j+n=l.length->BC F ρ N (N7 s l j n) (cs.drop j)
 |0,j,f=>by
  have:cs.length=l.length:=by rw[c.1,a,Nat.mul_one]
  simp_all [N7]
 |n+1,j,f=>by
  have b:j<l.length:=ae
  have d:=c.2 j b;rw[a,Nat.mul_one]at d;have e:cs.drop j=(cs.drop j).take 1++cs.drop (j+1):=by
   grind [List.take_append_drop,List.drop_drop]
  unfold N7;rw[e,show l.getD j s.HA=l[j]from by grind];exact(CB d).append (OF c a n (j+1) ae)
theorem jL(k:SR B h0 F ρ st.nx st.ob h){t:TypeId}{p:PV}{a:V}(A:PR F ρ st.nx p a){v:PV}(f:(ML C.T st t p).To v st'):
  OK B h0 F ρ st h [] (Bz h<|EP C.T h t a) v st':=by
 unfold ML at f;split at f
 case h_2=>simp at f
 rename_i d i z E;split at f
 case h_4=>simp at f
 case h_1=>
  rename_i id off;split at f
  case h_4=>simp at f
  case h_3=>
   rename_i tb ps w;simp only[Rf]at f;obtain⟨c,rfl⟩:=f;obtain⟨b,n,x,h1,h2,⟨cs,fz,rfl,h4,_,hbok⟩,_⟩:=k.at w;obtain rfl:=A.2 b n h1;rw[LF]at c;obtain⟨v',r,q⟩:=G3 (h:=h) z E h2 (m:=cs.length) ah (by rw[zl<|by simp];exact h4.drop off) c;exact OK.pure k (by rw[r];rfl) q
  case h_2=>
   rename_i I e s l w;cases g:(zc off 0&&zc s.sz 1)with
   |false=>simp_all
   |true=>
    rw[g]at f;simp only[we,WQ,w5]at f;obtain⟨J,c,rfl⟩:=f;rw[ze]at g;have h0:=zd g.1;have K:=zd g.2;subst h0;obtain⟨b,n,x,h1,h2,⟨cs,fz,rfl,h4,_⟩,_⟩:=k.at w;obtain rfl:=A.2 b n h1;have D:=OF (ρ:=ρ) (N:=st.nx) h4 K i.size 0 ae;obtain⟨v',r,q⟩:=G3 (h:=h) z E h2 (m:=cs.length) (fun u y=>h4.ok u ah) (by rw[zl<|by simp];exact D) c;exact OK.pure k (by rw[r];rfl) q
  rename_i ps w;simp only[Rf]at f;obtain⟨c,rfl⟩:=f;obtain⟨b,n,x,h1,h2,⟨cs,te,fz,rfl,h4,_,hbok⟩,_⟩:=k.at w;obtain rfl:=A.2 b n h1;rw[LF]at c;obtain⟨v',r,q⟩:=G3 (h:=h) z E h2 (m:=cs.length) ah (by rw[zl<|by simp];exact h4.drop off) c;exact OK.pure k (by rw[r];rfl) q
 case h_2=>
  rename_i id sz j off;split at f
  case h_2=>simp at f
  rename_i I e s l w;cases g:zc sz s.sz with
  |false=>simp_all
  |true=>
   rw[g]at f;simp only[we,WQ,w5]at f;obtain⟨J,c,rfl⟩:=f;have g:=zd g;subst g;obtain⟨b,n,x,h1,h2,⟨cs,fz,rfl,h4,_⟩,_⟩:=k.at w;obtain rfl:=A.2 b n h1;have G:=h4.2 j J;rw[show l.getD j s.HA=l[j]from by simp[J],LF]at c;have D:BC F ρ st.nx ((flat s l[j]).drop off) ((cs.drop<|j*s.sz+off).take<|s.sz-off):=by
    have:=(CB (F:=F) (ρ:=ρ) (N:=st.nx) G).drop off;rw[FB, <-yd]at*;omega
   obtain⟨v',r,q⟩:=G3 (h:=h) z E h2 (fun u y=>G.ok u<|List.mem_of_mem_drop (i:=off)<|by rw[FB, <-yd]at y;exact y) D c;exact OK.pure k (by rw[r];rfl) q
 case h_3=>
  rename_i s x off;simp only[Rf]at f;obtain⟨c,rfl⟩:=f;obtain⟨b,o,cs,rfl,h1,h2,h3⟩:=A;obtain⟨te,fz,h4⟩:=k.frz b cs h1;rw[LF]at c;have D:BC F ρ st.nx ((flat s x).drop off) ((cs.drop<|o+off).take<|s.sz-off):=by
   have:=(CB (F:=F) (ρ:=ρ) (N:=st.nx) h3).drop off;rw[FB, <-yd]at*;omega
  obtain⟨v',r,q⟩:=G3 (h:=h) z E h4 (fun u y=>h3.ok u<|List.mem_of_mem_drop (i:=off)<|by rw[FB, <-yd]at y;exact y) D c;exact OK.pure k (by rw[r];rfl) q
theorem DC.UZ:∀ {s:Sh} {x:s.T} {cs:List V},DC F s x cs->∀v∈cs,v.one=true
 | .int _,_,_,h=>by grind [DC,V.one]
 | .bool,_,_,h=>by grind [DC,V.one]
 | .str,_,_,h=>by grind [DC,V.one]
 | .list s,l,_,h=>by
  obtain⟨u,rfl,h⟩:=h;intro v e;rw[zn.1 e];rcases h with⟨_,rfl|rfl|rfl⟩|⟨b,off,cap,o,f,rfl,_⟩<;>rfl
 | .pair a b,x,_,h=>by
  obtain⟨c,d,rfl,g,i⟩:=h;intro v e;rcases List.mem_append.1 e with e|e
  ·exact g.UZ v e
  ·exact i.UZ v e
 | .unit,_,_,h=>by grind [DC]
 | .fnv,x,_,h=>by subst h;intro v e;rw[zn.1 e];cases (x:Option Fn)<;>rfl
 | .ptr _,x,_,h=>by obtain⟨b,o,f,rfl,_⟩:=h;intro v e;rw[zn.1 e];rfl
 | .nlist s,l,_,h=>by
  obtain⟨u,rfl,h⟩:=h;intro v e;rw[zn.1 e];rcases h with⟨_,rfl⟩|⟨_,b,off,cap,o,f,rfl,_⟩<;>rfl
theorem IB{o:Option Obj}(h:Ia o=true):∃x,o=some x:=by cases o with|none=>cases h|some x=>simp
theorem Q2(g:SR B h0 F ρ st.nx st.ob h){p:PV}{v:V}(e:KN st p=true)(c:PR F ρ st.nx p v):v.one=true:=by
 have key:∀ {id:Nat},Ia (st.obj id)=true->∃b n,ρ id=some (b,n):=by
  intro id i;obtain⟨o,f⟩:=IB i;obtain⟨b,n,_,d,_⟩:=g.at f;grind
 cases p<;>simp only[KN]at e<;>simp only[PR]at c<;>try (cases e;done)
 case bl=>subst c;rfl
 case dat=>exact c.UZ v (by simp)
 case nil|nilp|nilm|nilf|nili=>subst c;rfl
 case ptr=>obtain⟨b,n,d⟩:=key e;rw[c.2 b n d];rfl
 case eptr=>obtain⟨b,n,d⟩:=key e;rw[c.2 b n d];rfl
 case Ef=>obtain⟨b,o,cs,rfl,_⟩:=c;rfl
 case sl=>
  obtain⟨b,n,d⟩:=key e;rcases c.2 b n d with⟨_,_,o,_,rfl⟩|⟨_,_,_,rfl|⟨_,rfl,_⟩⟩<;>rfl
 case mp|yl=>obtain⟨b,n,d⟩:=key e;rw[c.2 b n d];rfl
 case fn=>obtain⟨a,b,rfl,_⟩:=c;rfl
theorem aI{v:V}(h:v.one=true):v.cells=[v]:=by cases v<;>first|rfl|cases h
theorem Nr(d:SR B h0 F ρ st.nx st.ob h){p:PV}{v:V}{ps:List PV}(b:PR F ρ st.nx p v)(a:pcs st p=some ps):BC F ρ st.nx ps v.cells:=by
 unfold pcs at a;split at a
 ·cases a;obtain⟨cs,rfl,c⟩:=b;exact c
 grind [aI,Q2,BC]
theorem Ka(b:SR B h0 F ρ st.nx st.ob h):∀ {ps:List PV} {vs:List V},ps.all (KN st)=true->BC F ρ st.nx ps vs->vs.all V.one=true
 |[],vs,_,h=>by simp_all
 |p::ps,vs,a,h=>by
  obtain⟨v,vs,rfl,c,d⟩:=h;simp only[List.all_cons,ze]at a ⊢;exact⟨Q2 b a.1 c,Ka b a.2 d⟩
theorem BC.JR:∀ {a:List PV} {x:List V} {b:List PV} {y:List V},BC F ρ N a x->BC F ρ N b y->BC F ρ N (JR a b) (JR x y)
 |[],x,b,y,h,h'=>by subst h;exact h'
 |p::ps,x,b,y,h,h'=>by
  obtain⟨v,vs,rfl,c,d⟩:=h;cases b with
  |nil=>subst h';rfl
  |cons q g=>
   obtain⟨u,e,rfl,i,f⟩:=h';show BC F ρ N (p::Det.JR ps g) (v::Det.JR vs e);simp only[BF];exact⟨c,d.JR f⟩
theorem BC.Ch{a:List PV}{x:List V}(c:BC F ρ N a x):∀(n:Nat) {b:List PV} {y:List V},BC F ρ N b y->BC F ρ N (Ch n a b) (Ch n x y)
 |0,b,y,h=>c.JR h
 |n+1,[],y,h=>by subst h;rfl
 |n+1,q::g,y,h=>by
  obtain⟨u,d,rfl,f,e⟩:=h;show BC F ρ N (q::yn n a g) (u::yn n x d);simp only[BF];exact⟨f,BC.Ch c n e⟩
theorem Hg:∀(l:Ob) (i:Nat) (x:Obj) (j:Nat),(AM l i).isSome=true->AM (DS l i x) j=if j=i then some x else AM l j
 |[],i,x,j,h=>by cases h
 |(a,o)::l,i,x,j,h=>by
  simp only[DS,AM,Bo]at h ⊢;by_cases e:a=i
  ·subst e;simp only[decide_true,we,AM,Bo];grind
  ·simp only[e,decide_false,wg]at h ⊢;simp only[AM,Bo];by_cases b:a=j
   ·grind
   ·simp only[b,decide_false,wg];exact Hg l i x j h
theorem Mz{b off:Nat}{vs cs:List V}{t:TypeId}{fz:Nat×Nat}(d:h.get b=some (.cells cs t fz))(e:off+vs.length<=cs.length)(c:fz.2<=fz.1)(a:vs.all V.one=true):
  wr h b off vs=some (h.put b<|.cells (Ch off vs cs) t fz):=by
 unfold wr;simp only[d,DF,Fp,a];simp_all [Nat.ble_eq_true_of_le,Det.clear]
theorem SR.set(a:SR B h0 F ρ st.nx st.ob h){id b n:Nat}{o o':Obj}{x x':O}(z:st.obj id=some o)(r:ρ id=some (b,n))(I:h.get b=some x)(T:o.frozen=false)(K:o'.frozen=false)
  (J:VE F ρ st.nx n o' x'):SR B h0 F ρ st.nx (DS st.ob id o') (h.put b x'):=by
 have t:AM st.ob id=some o:=z;have u:F b=none:=by
  obtain⟨b',n',_,q,_,_,s,_⟩:=a.at z;grind
 have l:∀j,AM (DS st.ob id o') j=if j=id then some o' else AM st.ob j:=(by grind [Hg])
 refine⟨fun j oj d=>?_,fun i j oi oj c m M Q d q s=>?_,fun c cs g=>?_,a.own,fun j d=>?_,fun c g v=>?_,fun c R g=>?_,a.le,a.fo,a.gl,fun c g=>?_⟩
 ·rw[l]at d;by_cases e:j=id
  ·subst e;simp only[wm,zh]at d;subst d;exact⟨b,n,x',r,by simp,J,fun _=>u,ah⟩
  ·rw[wc e]at d;obtain⟨c,m,y,q,s,L,D,P⟩:=a.obj j oj d;have f:c≠b:=fun G=>e<|a.inj j id oj o c m n d t q<|G▸r
   exact⟨c,m,y,q,by simp_all,L,D,P⟩
 ·have p:∀k ok,AM (DS st.ob id o') k=some ok->∃E,AM st.ob k=some E:=by
   grind
  obtain⟨_,A⟩:=p i oi Q;obtain⟨_,w⟩:=p j oj d;exact a.inj i j _ _ c m M A w q s
 ·have f:c≠b:=ah;rw[H.BT,wc f];exact a.frz c cs g
 ·rw[l]at d;by_cases e:j=id
  ·grind
  ·rw[wc e]at d;exact a.dead j d
 ·have f:c≠b:=ND (a.own id b n r).2 g v;rw[H.BT,wc f];exact a.old c g v
 ·rw[H.BT]at g;by_cases e:c=b
  ·subst e;exact a.lt _ _ I
  ·rw[wc e]at g;exact a.lt c R g
 ·obtain⟨A,w,S⟩:=a.pn c g;have f:c≠b:=ah;simp_all
def Bs(ρ:DU)(i:Nat)(x:Option (Nat×Nat)):DU:=fun j=>if j=i then x else ρ j
theorem Le.Jj(i:Nat):Le F ρ N F (Bs ρ i none) N:=⟨fun _ _ h=>h,(by grind [Bs]),zy _⟩
theorem Le.new(x:Nat×Nat):Le F ρ N F (Bs ρ N<|some x) (N+1):=⟨fun _ _ h=>h,fun id h=>by unfold Bs;grind,Nat.le_succ _⟩
theorem SR.push{ob:Ob}(a:SR B h0 F ρ N ob h){o:Obj}{x:O}{n:Nat}(Z:o.frozen=false)(L:VE F (Bs ρ N<|some (h.nx,n)) (N+1) n o x):
  SR B h0 F (Bs ρ N<|some (h.nx,n)) (N+1) ((N,o)::ob) (h.push x):=by
 have P:Le F ρ N F (Bs ρ N<|some (h.nx,n)) (N+1):=Le.new _;have f:∀j,AM ((N,o)::ob) j=if j=N then some o else AM ob j:=by
  simp only[AM,Bo];grind
 have s:∀b y,h.get b=some y->b≠h.nx:=fun b y l=>by have:=a.lt b y l;omega
 refine⟨fun j oj d=>?_,fun i j oi oj c m r A d q w=>?_,fun c cs g=>?_,fun id b m l=>?_,fun j d=>?_,fun c g E=>?_,fun c U g=>?_,?_,?_,a.gl,fun c g=>?_⟩
 ·rw[f]at d;by_cases e:j=N
  ·subst e;simp only[wm,zh]at d;subst d;refine⟨h.nx,n,x,by simp[Bs],by simp,L,fun _=>?_,ah⟩;cases g:F h.nx with
   |none=>rfl
   |some cs=>
    obtain⟨t,fz,K⟩:=a.frz _ _ g;grind
  ·rw[wc e]at d;obtain⟨c,m,y,q,w,M,G,R⟩:=a.obj j oj d;exact⟨c,m,y,by simp[Bs,e,q],by simp_all,M.mono P,G,R⟩
 ·rw[f]at A d;have key:∀k ok m,(if k=N then some o else AM ob k)=some ok->Bs ρ N (some (h.nx,n)) k=some (c,m)->(k=N/\c=h.nx)\/(k≠N/\AM ob k=some ok/\ρ k=some (c,m)/\c≠h.nx):=by
   intro k ok m D p;by_cases e:k=N
   ·simp_all [Bs]
   ·rw[wc e]at D;simp only[Bs,e,vf]at p;obtain⟨Y,r,y,S,v,_⟩:=a.obj k ok D;grind
  rcases key i oi m A q with⟨J,z⟩|⟨J,z,Q,W⟩<;>rcases key j oj r d w with⟨T,u⟩|⟨T,u,I,X⟩
  ·omega
  ·omega
  ·omega
  ·exact a.inj i j oi oj c m r z u Q I
 ·obtain⟨t,fz,K⟩:=a.frz c cs g;simp_all
 ·unfold Bs at l;split at l
  ·cases l;exact⟨ae,.inl a.le⟩
  ·have:=a.own id b m l;grind
 ·rw[f]at d;by_cases e:j=N
  ·grind
  ·rw[wc e]at d;simp[Bs,e,a.dead j d]
 ·have:=a.le;rw[H.Cq,wc ae];exact a.old c g E
 ·rw[H.Cq]at g;by_cases e:c=h.nx
  ·simp_all
  ·rw[wc e]at g;have:=a.lt c U g;show c<h.nx+1;omega
 ·have:=a.le;show B<=h.nx+1;omega
 ·exact a.fo
 ·obtain⟨S,v,V⟩:=a.pn c g;refine⟨by simp_all,v,fun id m e=>?_⟩;unfold Bs at e;grind
theorem Dh:∀(l:Ob) (i j:Nat),AM (F6 l i) j=if j=i then none else AM l j
 |[],i,j=>by simp[F6,AM]
 |(a,o)::l,i,j=>by
  simp only[F6,Bo];by_cases e:a=i
  ·subst e;simp only[decide_true,we];rw[Dh l a j];simp only[AM,Bo];grind
  ·simp only[e,decide_false,wg,AM,Bo];rw[Dh l i j];grind
theorem SR.del{ob:Ob}(d:SR B h0 F ρ N ob h)(id:Nat):SR B h0 F (Bs ρ id none) N (F6 ob id) h:=by
 have o:Le F ρ N F (Bs ρ id none) N:=Le.Jj id;refine⟨fun j oj a=>?_,fun i j oi oj c m q l a g k=>?_,d.frz,fun j b m f=>?_,fun j a=>?_,d.old,d.lt,d.le,d.fo,d.gl,fun c t=>?_⟩
 ·rw[Dh]at a;split at a
  ·cases a
  ·rename_i e;obtain⟨c,m,y,g,k,s,n⟩:=d.obj j oj a;exact⟨c,m,y,by simp[Bs,e,g],k,s.mono o,n⟩
 ·rw[Dh]at l a;split at l
  ·cases l
  split at a
  ·cases a
  rename_i r p;simp only[Bs,r,p,vf]at g k;exact d.inj i j oi oj c m q l a g k
 ·unfold Bs at f;split at f
  ·cases f
  ·exact d.own j b m f
 ·rw[Dh]at a;unfold Bs;split
  ·rfl
  ·rename_i e;rw[wc e]at a;exact d.dead j a
 ·obtain⟨w,v,u⟩:=d.pn c t;grind [Bs]
theorem SR.kill{ob:Ob}(a:SR B h0 F ρ N ob h){b:Nat}(s:∀id o n,AM ob id=some o->ρ id≠some (b,n))(t:F b=none)(q:h0.Zn B b)(r:b∉h0.pin):SR B h0 F ρ N ob (h.kill b):=by
 refine⟨fun j oj l=>?_,a.inj,fun c cs d=>?_,a.own,a.dead,fun c d e=>?_,fun c i d=>?_,a.le,a.fo,a.gl,fun c d=>?_⟩
 ·obtain⟨c,m,y,g,p,f⟩:=a.obj j oj l;have:c≠b:=ah;exact⟨c,m,y,g,by simp_all,f⟩
 ·have:c≠b:=ah;rw[H.Dv,wc this];exact a.frz c cs d
 ·have:c≠b:=ND q d e;rw[H.Dv,wc this];exact a.old c d e
 ·rw[H.Dv]at d;split at d
  ·cases d
  ·exact a.lt c i d
 ·obtain⟨g,p,f⟩:=a.pn c d;have k:c≠b:=ah;simp_all
theorem Cp{s a:Sh}{x:s.T}{y:a.T}(h:Eg s a x=some y):∃e:s=a,e▸x=y:=by
 simp_all [Eg]
theorem Gb{s:Sh}{p:PV}{x:s.T}{v:V}(b:PR F ρ N p v)(a:nB s p=some x):DC F s x [v]:=by
 unfold nB at a;split at a
 ·unfold asP at a;split at a
  ·obtain⟨rfl,rfl⟩:=Cp a;simp_all [PR,DC]
  grind
 ·obtain⟨rfl,rfl⟩:=Cp a;simpa only[PR]using b
 ·obtain⟨rfl,rfl⟩:=Cp a;grind [PR,DC]
 ·obtain⟨rfl,rfl⟩:=Cp a;simp_all [PR,DC]
 ·obtain⟨rfl,rfl⟩:=Cp a;grind [PR,DC]
 ·split at a
  ·grind [PR,DC]
  ·grind [PR,DC]
  grind
 grind
theorem Hv:∀ {s:Sh} {ps:List PV} {vs:List V} {x:s.T} {e:List PV},BC F ρ N ps vs->Cj s ps=some (x,e)->∃a b,vs=a++b/\DC F s x a/\BC F ρ N e b
 | .pair s t,ps,vs,x,e,g,f=>by
  unfold Cj at f;split at f
  case h_2=>cases f
  rename_i y n i;split at f
  case h_2=>cases f
  rename_i z o j;cases f;obtain⟨a,b,rfl,q,m⟩:=Hv g i;obtain⟨c,d,rfl,g3,g4⟩:=Hv m j;exact⟨a++c,d,by simp,by simp only[DC];grind,g4⟩
 | .unit,ps,vs,x,e,g,f=>by
  cases f;exact⟨[],vs,rfl,by simp[DC],g⟩
 | .int k,[],vs,x,e,g,f=>by simp[Cj]at f
 | .bool,[],vs,x,e,g,f=>by simp[Cj]at f
 | .str,[],vs,x,e,g,f=>by simp[Cj]at f
 | .list s,[],vs,x,e,g,f=>by simp[Cj]at f
 | .nlist s,[],vs,x,e,g,f=>by simp[Cj]at f
 | .fnv,[],vs,x,e,g,f=>by simp[Cj]at f
 | .ptr _,[],vs,x,e,g,f=>by simp[Cj]at f
 | .int k,p::ps,vs,x,e,g,f=>by
  obtain⟨v,vs,rfl,i,j⟩:=g;simp only[Cj]at f;split at f
  ·rename_i y l;cases f;exact⟨[v],vs,rfl,Gb i l,j⟩
  grind
 | .bool,p::ps,vs,x,e,g,f=>by
  obtain⟨v,vs,rfl,i,j⟩:=g;simp only[Cj]at f;split at f
  ·rename_i y l;cases f;exact⟨[v],vs,rfl,Gb i l,j⟩
  grind
 | .str,p::ps,vs,x,e,g,f=>by
  obtain⟨v,vs,rfl,i,j⟩:=g;simp only[Cj]at f;split at f
  ·rename_i y l;cases f;exact⟨[v],vs,rfl,Gb i l,j⟩
  grind
 | .list s,p::ps,vs,x,e,g,f=>by
  obtain⟨v,vs,rfl,i,j⟩:=g;simp only[Cj]at f;split at f
  ·rename_i y l;cases f;exact⟨[v],vs,rfl,Gb i l,j⟩
  grind
 | .fnv,p::ps,vs,x,e,g,f=>by
  obtain⟨v,vs,rfl,i,j⟩:=g;simp only[Cj]at f;split at f
  ·rename_i y l;cases f;exact⟨[v],vs,rfl,Gb i l,j⟩
  grind
 | .ptr s,p::ps,vs,x,e,g,f=>by
  obtain⟨v,vs,rfl,i,j⟩:=g;simp only[Cj]at f;split at f
  ·rename_i y l;cases f;exact⟨[v],vs,rfl,Gb i l,j⟩
  grind
 | .nlist s,p::ps,vs,x,e,g,f=>by
  obtain⟨v,vs,rfl,i,j⟩:=g;simp only[Cj]at f;split at f
  ·rename_i y l;cases f;exact⟨[v],vs,rfl,Gb i l,j⟩
  grind
theorem CI{s:Sh}{ps:List PV}{vs:List V}{x:s.T}(d:BC F ρ N ps vs)(c:Dg s ps=some x):DC F s x vs:=by
 unfold Dg at c;split at c
 ·rename_i y e;obtain⟨a,b,rfl,f,g⟩:=Hv d e;simp_all
 grind
theorem U0{v:V}:∀(vs cs:List V) (off:Nat),v∈GO cs off vs->v∈vs\/v∈cs
 |[],cs,off,h=>.inr h
 |u::vs,cs,off,h=>by
  rcases U0 vs _ _ h with h|h
  ·grind
  grind
theorem Ub{v:V}{vs cs:List V}{off:Nat}(h:v∈yn off vs cs):v∈vs\/v∈cs:=by
 grind [Jb,U0]
theorem GQ{cs vs:List V}{off:Nat}(a:off+vs.length<=cs.length)(j:Nat):(Ch off vs cs)[j]?=if off<=j/\j<off+vs.length then vs[j-off]? else cs[j]?:=by
 grind [Jb,NW]
theorem fO{cs vs:List V}{off:Nat}:(Ch off vs cs).length=cs.length:=by
 grind [Jb,Ip]
theorem xS{cs vs:List V}{m off k:Nat}(c:off+vs.length<=k)(b:m+k<=cs.length):((Ch (m+off) vs cs).drop m).take k=Ch off vs ((cs.drop m).take k):=by
 apply yh;intro j;rw[GQ ah];by_cases a:j<k
 ·rw[zu a,ye,GQ ae];grind
 grind
theorem rI{cs vs:List V}{m p k:Nat}(c:p+vs.length<=m\/m+k<=p)(b:p+vs.length<=cs.length):((Ch p vs cs).drop m).take k=(cs.drop m).take k:=by
 apply yh;intro j;by_cases a:j<k
 ·rw[zu a,zu a,ye,ye,GQ b,wc ae]
 grind
theorem C9.set{s:Sh}{l:List s.T}{cs vs:List V}{j off:Nat}{y:s.T}(a:C9 F s l cs)(d:j<l.length)(c:off+vs.length<=s.sz)(k:DC F s y (Ch off vs<|(cs.drop<|j*s.sz).take s.sz)):
  C9 F s (l.set j y) (Ch (j*s.sz+off) vs cs):=by
 have g:j*s.sz+s.sz<=cs.length:=by
  rw[a.1, <-ym];exact zt _ d
 refine⟨by rw[fO,List.length_set];exact a.1,fun i f=>?_⟩;have b:i<l.length:=ah
 by_cases e:i=j
 ·simp_all [xS]
 ·rw[List.getElem_set_ne ae,rI ?_ ae]
  ·exact a.2 i b
  ·rcases Nat.lt_or_gt_of_ne e with h1|h1
   ·have:(i+1)*s.sz<=j*s.sz:=zt _ h1;grind
   ·have:(j+1)*s.sz<=i*s.sz:=zt _ h1;grind
theorem Ja{s:Sh}:∀ {n:Nat} {ps:List PV} {vs:List V} {l:List s.T},BC F ρ N ps vs->chunk s n ps=some l->vs.length=n*s.sz->l.length=n/\C9 F s l vs
 |0,ps,vs,l,e,c,j=>by
  cases c;simp_all [C9]
 |n+1,ps,vs,l,e,c,j=>by
  unfold chunk at c;split at c
  case h_2=>cases c
  rename_i x d m;rw[zz]at c;obtain⟨l',g,rfl⟩:=c;obtain⟨a,b,rfl,h2,h3⟩:=Hv e m;have q:=h2.len;have f:b.length=n*s.sz:=ah
  obtain⟨k,p⟩:=Ja h3 g f;refine⟨by simp[k],by grind,fun i o=>?_⟩;cases i with
  |zero=>
   grind
  |succ i=>
   grind [ym,FB,C9]
theorem lS{cs a:List V}(h:a.length=cs.length):yn 0 a cs=a:=by
 apply yh;simp_all [GQ]
theorem sO(w:SR B h0 F ρ st.nx st.ob h){t:TypeId}{p q:PV}{a x:V}(J:PR F ρ st.nx p a)(Y:PR F ρ st.nx q x){v:PV}(d:(WM C.T st t p q).To v st'):
  ∃id,((∃off,p=.ptr id off)\/∃sz j off,p=.eptr id sz j off)/\OK B h0 F ρ st h [id] (dR<|HJ C.T h t a x) v st':=by
 unfold WM at d;split at d
 case h_2=>simp at d
 rename_i i K M U;cases W:(zc (Det.Fm K) i.size&&Det.Lt (KN st) K)with
 |false=>simp_all
 |true=>
  rw[W]at d;simp only[ze]at W;obtain⟨S,G⟩:=W;rw[DF]at S;rw[Fp]at G;have g:=Nr w Y U;have r:x.cells.length=i.size:=by rw[<-g.len];simp_all
  have o:=Ka w G g;have A:zc x.cells.length i.size=true:=by simp_all
  simp only[we]at d;split at d
  case h_3=>simp at d
  case h_1=>
   rename_i id off;split at d
   case h_4=>simp_all
   case h_3=>
    rename_i tb ps u;cases k:zp (zf off i.size) (Det.Fm ps)with
    |false=>simp_all
    |true=>
     rw[k]at d;simp only[we,B1]at d;obtain⟨rfl,rfl⟩:=d;obtain⟨b,n,y,h1,h2,⟨cs,fz,rfl,h4,h5,hbok⟩,hf,_⟩:=w.at u;simp only[PR]at J;obtain rfl:=J.2 b n h1;rw[DF]at k;have m:off+x.cells.length<=cs.length:=by rw[<-h4.len,r];simp_all
     refine⟨id,(by simp),.tup [],_,F,ρ,.inr ⟨?_,rfl⟩,by simp[PR],w.set u h1 h2 rfl rfl (o':=.tbox tb<|yn off K ps) ⟨_,fz,rfl,g.Ch off h4,h5,(by grind [Ub,V.Ml])⟩,Le.refl,rfl,rfl,zy _,fun c _=>?_⟩
     ·unfold HJ;simp only[M,A,we];rw[Mz h2 m h5 o];rfl
     ·rw[H.BT];grind
   case h_2=>
    rename_i e s l u;cases f:(zc off 0&&zc s.sz 1)with
    |false=>simp_all
    |true=>
     rw[f]at d;rw[ze]at f;have D:=zd f.1;have O:=zd f.2;subst D;simp only[we]at d;split at d
     case h_2=>simp_all
     rename_i y L;simp only[B2,w5]at d;obtain⟨E,rfl,rfl⟩:=d;obtain⟨b,n,z,h1,h2,⟨cs,fz,rfl,h4,h5,h6⟩,hf,_⟩:=w.at u;obtain rfl:=J.2 b n h1;have X:cs.length=x.cells.length:=by rw[h4.1,O,Nat.mul_one,r];exact E
     obtain⟨k1,Z⟩:=Ja g L ah;have m:0+x.cells.length<=cs.length:=ae
     refine⟨id,(by simp),.tup [],_,F,ρ,.inr ⟨?_,rfl⟩,by simp[PR],w.set u h1 h2 rfl rfl (o':=.arr false e s y) ⟨yn 0 x.cells cs,fz,rfl,by grind [lS],h5,by omega⟩,Le.refl,rfl,rfl,zy _,fun c _=>?_⟩
     ·unfold HJ;simp only[M,A,we];rw[Mz h2 m h5 o];rfl
     ·rw[H.BT];grind
   rename_i ps u;cases k:zp (zf off i.size) (Det.Fm ps)with
   |false=>simp_all
   |true=>
    rw[k]at d;obtain⟨rfl,rfl⟩:=d;obtain⟨b,n,y,h1,h2,⟨cs,te,fz,rfl,h4,h5,hbok⟩,hf,_⟩:=w.at u;obtain rfl:=J.2 b n h1;rw[DF]at k;have m:off+x.cells.length<=cs.length:=by rw[<-h4.len,r];simp_all
    refine⟨id,(by simp),.tup [],_,F,ρ,.inr ⟨?_,rfl⟩,by simp[PR],w.set u h1 h2 rfl rfl (o':=.box<|yn off K ps) ⟨_,te,fz,rfl,g.Ch off h4,h5,(by grind [Ub,V.Ml])⟩,Le.refl,rfl,rfl,zy _,fun c _=>?_⟩
    ·unfold HJ;simp only[M,A,we];rw[Mz h2 m h5 o];rfl
    ·rw[H.BT];grind
  case h_2=>
   rename_i id sz j off;split at d
   case h_2=>simp at d
   rename_i e s l u;cases f:(zc sz s.sz&&zp (zf off i.size) sz)with
   |false=>rw[f]at d;simp at d
   |true=>
    rw[f]at d;simp only[ze]at f;have R:=zd f.1;have D:=z6 f.2;subst R;simp only[we]at d;split at d
    case h_2=>simp at d
    rename_i y L;simp only[B2,w5]at d;obtain⟨E,rfl,rfl⟩:=d;obtain⟨b,n,z,h1,h2,⟨cs,fz,rfl,h4,h5,h6⟩,hf,_⟩:=w.at u;obtain rfl:=J.2 b n h1;rw[show l.getD j s.HA=l[j]from by simp[E]]at L;have Q:=CB (F:=F) (ρ:=ρ) (N:=st.nx)<|h4.2 j E;have P:=CI (g.Ch off Q) L;have I:=C9.set h4 E ah P;have m:j*s.sz+off+x.cells.length<=cs.length:=by
     have:j*s.sz+s.sz<=cs.length:=by rw[h4.1, <-ym];exact zt _ E
     grind
    refine⟨id,(by simp),.tup [],_,F,ρ,.inr ⟨?_,rfl⟩,by simp[PR],w.set u h1 h2 rfl rfl (o':=.arr false e s<|l.set j y) ⟨_,fz,rfl,I,h5,by grind⟩,Le.refl,rfl,rfl,zy _,fun c _=>?_⟩
    ·unfold HJ;simp only[M,A,we];rw[Mz h2 m h5 o];rfl
    ·rw[H.BT];grind
theorem Cw{k:IntKind}{n:Int}{v:V}(h:PR F ρ N (.dat (.int k) n) v):v=.int k n:=by simpa [PR,DC]using h
theorem E1{s:Z}{v:V}(h:PR F ρ N (.dat .str s) v):v=.str s:=by simpa [PR,DC]using h
theorem Lf{b:Bool}{v:V}(h:PR F ρ N (.dat .bool b) v):v=.bool b:=by simpa [PR,DC]using h
theorem Pd{b:Bool}{v:V}(h:PR F ρ N (.bl b) v):v=.bool b:=by simpa [PR]using h
theorem Dq(k:IntKind)(n:Int):PR F ρ N (.dat (.int k) n) (.int k n):=by rfl
theorem LH(s:Z):PR F ρ N (.dat .str s) (.str s):=by rfl
theorem DE(b:Bool):PR F ρ N (.dat .bool b) (.bool b):=by rfl
theorem jY(b:Bool):PR F ρ N (.bl b) (.bool b):=by simp[PR]
theorem HH{p:PV}{b:Bool}{v:V}(h:Jz p=some b)(a:PR F ρ N p v):v=.bool b:=by
 unfold Jz at h;grind [Pd,Lf]
theorem AbS(d:SR B h0 F ρ st.nx st.ob h){op:BinOp}{k:IntKind}{a b:Int}{v:PV}(c:(vN op k a b st).To v st'):OK B h0 F ρ st h [] (Bz h<|Oz op k a b) v st':=by
 unfold vN at c;split at c<;>simp only[LR,B1,B2,w5,vc]at c
 all_goals first
  |(obtain⟨rfl,rfl⟩:=c;exact OK.pure d rfl (Dq _ _))
  |(obtain⟨rfl,rfl⟩:=c;exact OK.pure d rfl (DE _))
  |(obtain⟨e,rfl,rfl⟩:=c;simp_all [OK.pure,Oz,Bz,Dq])
theorem Adf(e:SR B h0 F ρ st.nx st.ob h){op:BinOp}{k:IntKind}{a b:Int}{v:PV}(c:(psh op k a b st).To v st'):OK B h0 F ρ st h [] (Bz h<|ZV op k a b) v st':=by
 unfold psh at c;split at c<;>simp only[LR,B2,w5]at c
 all_goals
  obtain⟨d,rfl,rfl⟩:=c;exact OK.pure e (by simp only[ZV,Int.not_lt.2 d,vf,Bz])<|Dq _ _
theorem Abs(b:SR B h0 F ρ st.nx st.ob h){op:BinOp}{x y:Z}{v:PV}(a:(zF op x y st).To v st'):OK B h0 F ρ st h [] (Bz h<|Uc op x y) v st':=by
 unfold zF at a;split at a<;>simp only[LR,B1,B2,w5]at a
 all_goals first
  |(obtain⟨rfl,rfl⟩:=a;exact OK.pure b rfl (DE _))
  |(obtain⟨c,rfl,rfl⟩:=a;simp_all [OK.pure,Uc,Bz,LH])
end
end Go.Pe
