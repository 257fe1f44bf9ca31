import Derived.Test.YtipkapecgjpnlaaGreatDoorX06
import Derived.Shelf.Strings.OnBuilder
import Derived.Shelf.Strconv.Itoa3
import Derived.Lib.LaidTab
import Derived.Lib.AppendIntMem
/- A part of a proof; no law is stated here. -/
noncomputable section
set_option maxRecDepth 100000
open Bool renaming and_eq_true -> Za
open Nat renaming eq_of_beq_eq_true -> Zb, beq -> Zc, mul_le_mul_right -> Ze, le_refl -> Zg, lt_of_lt_of_le -> Zi, ble_eq_true_of_le -> Zn, blt -> Zq, succ_mul -> Zr, ble -> Zt, le_of_ble_eq_true -> Zx, add -> Zz, beq_refl -> ZH, mul_one -> ZL
open Option renaming map_eq_some_iff -> Zd
open Option.some renaming injEq -> Zf
open List renaming replicate -> Zh, take_of_length_le -> Zk, mem_singleton -> Zl, drop_take -> Zp, getElem?_take_of_lt -> Zs, ext_getElem? -> Zw, getElem?_drop -> ZD, drop_eq_getElem_cons -> ZE, getElem_cons_zero -> ZI, length_nil -> ZJ, drop_drop -> ZM
open Go.Proofs.Tryz renaming prog -> Zj, underlying306 -> Zu, underlying9 -> Zy, underlying206 -> ZB, underlying213 -> ZC, zeroValue206 -> ZF
open Go.Lib renaming decDigits -> Zm, nDigits -> Zv, zeros24 -> ZG
open Array renaming size_replicate -> Zo, getElem?_append_left -> ZA
open Go.Det.V renaming ok -> ZK
open Go.Value renaming int -> ZN
open Go.Det renaming A1 -> ZO
open Int renaming ofNat -> ZP
namespace Go.Det
section
open Go.Proofs.Tryz (prog)
def A7:Bg:=[(8,[],.bool true)]
theorem V8:An XX 1000 A7=true:=by kernel_rfl
theorem YX:DR prog (DQ A7):=Ld U5 Pn D0 V8
end
open Go.Proofs
def Di:Go.Shelf.Ren:=⟨fun|171=>156|243=>225|246=>275|283=>276|284=>277|285=>278|286=>279|129=>192|317=>308|318=>309|319=>310|320=>311|337=>323|338=>324|n=>n,fun|3=>3|9=>9|2=>2|4=>4|171=>306|0=>0|53=>206|37=>213|5=>5|173=>308|212=>334|51=>242|20=>20|213=>335|46=>183|232=>354|233=>355|n=>n,fun|17=>3|18=>8|19=>9|n=>n⟩
theorem D7:Go.Proofs.LaysM.n171 Go.Proofs.Tryz.prog Di:=
  {mixed:=by kernel_rfl,f129:=Go.Proofs.Tryz.func192.trans (wg some ac),f171:=Go.Proofs.Tryz.func156.trans (wg some ac),f243:=Go.Proofs.Tryz.func225.trans (wg some ac),f246:=Go.Proofs.Tryz.func275.trans (wg some ac),f283:=Go.Proofs.Tryz.func276.trans (wg some ac),f284:=Go.Proofs.Tryz.func277.trans (wg some ac),f285:=Go.Proofs.Tryz.func278.trans (wg some ac),f286:=Go.Proofs.Tryz.func279.trans (wg some ac),f317:=Go.Proofs.Tryz.func308.trans (wg some ac),f318:=Go.Proofs.Tryz.func309.trans (wg some ac),f319:=Go.Proofs.Tryz.func310.trans (wg some ac),f320:=Go.Proofs.Tryz.func311.trans (wg some ac),f337:=Go.Proofs.Tryz.func323.trans (wg some ac),f338:=Go.Proofs.Tryz.func324.trans (wg some ac),t0:=Go.Proofs.Tryz.underlying0,a0:=Go.Proofs.Tryz.isAgg0,z0:=Go.Proofs.Tryz.sizeOf0,v0:=Go.Proofs.Tryz.zeroValue0,t2:=Go.Proofs.Tryz.underlying2,a2:=Go.Proofs.Tryz.isAgg2,z2:=Go.Proofs.Tryz.sizeOf2,v2:=Go.Proofs.Tryz.zeroValue2,t3:=Go.Proofs.Tryz.underlying3,a3:=Go.Proofs.Tryz.isAgg3,z3:=Go.Proofs.Tryz.sizeOf3,v3:=Go.Proofs.Tryz.zeroValue3,t4:=Go.Proofs.Tryz.underlying4,a4:=Go.Proofs.Tryz.isAgg4,z4:=Go.Proofs.Tryz.sizeOf4,v4:=Go.Proofs.Tryz.zeroValue4,t5:=Go.Proofs.Tryz.underlying5,a5:=Go.Proofs.Tryz.isAgg5,z5:=Go.Proofs.Tryz.sizeOf5,v5:=Go.Proofs.Tryz.zeroValue5,t9:=Go.Proofs.Tryz.underlying9,a9:=Go.Proofs.Tryz.isAgg9,z9:=Go.Proofs.Tryz.sizeOf9,v9:=Go.Proofs.Tryz.zeroValue9,t20:=Go.Proofs.Tryz.underlying20,a20:=Go.Proofs.Tryz.isAgg20,z20:=Go.Proofs.Tryz.sizeOf20,v20:=Go.Proofs.Tryz.zeroValue20,t37:=Go.Proofs.Tryz.underlying213,a37:=Go.Proofs.Tryz.isAgg213,z37:=Go.Proofs.Tryz.sizeOf213,v37:=Go.Proofs.Tryz.zeroValue213,t46:=Go.Proofs.Tryz.underlying183,a46:=Go.Proofs.Tryz.isAgg183,z46:=Go.Proofs.Tryz.sizeOf183,v46:=Go.Proofs.Tryz.zeroValue183,t51:=Go.Proofs.Tryz.underlying242,a51:=Go.Proofs.Tryz.isAgg242,z51:=Go.Proofs.Tryz.sizeOf242,v51:=Go.Proofs.Tryz.zeroValue242,t53:=Go.Proofs.Tryz.underlying206,a53:=Go.Proofs.Tryz.isAgg206,z53:=Go.Proofs.Tryz.sizeOf206,v53:=Go.Proofs.Tryz.zeroValue206,t171:=Go.Proofs.Tryz.underlying306,a171:=Go.Proofs.Tryz.isAgg306,z171:=Go.Proofs.Tryz.sizeOf306,v171:=Go.Proofs.Tryz.zeroValue306,t173:=Go.Proofs.Tryz.underlying308,a173:=Go.Proofs.Tryz.isAgg308,z173:=Go.Proofs.Tryz.sizeOf308,v173:=Go.Proofs.Tryz.zeroValue308,t212:=Go.Proofs.Tryz.underlying334,a212:=Go.Proofs.Tryz.isAgg334,z212:=Go.Proofs.Tryz.sizeOf334,v212:=Go.Proofs.Tryz.zeroValue334,t213:=Go.Proofs.Tryz.underlying335,a213:=Go.Proofs.Tryz.isAgg335,z213:=Go.Proofs.Tryz.sizeOf335,t232:=Go.Proofs.Tryz.underlying354,a232:=Go.Proofs.Tryz.isAgg354,z232:=Go.Proofs.Tryz.sizeOf354,v232:=Go.Proofs.Tryz.zeroValue354,t233:=Go.Proofs.Tryz.underlying355,a233:=Go.Proofs.Tryz.isAgg355,z233:=Go.Proofs.Tryz.sizeOf355,v233:=Go.Proofs.Tryz.zeroValue355,g17:=by kernel_rfl,g18:=by kernel_rfl,g19:=by kernel_rfl,i0:=by kernel_rfl,i2:=by kernel_rfl,i3:=by kernel_rfl,i4:=by kernel_rfl,i5:=by kernel_rfl,i9:=by kernel_rfl,i20:=by kernel_rfl,i37:=by kernel_rfl,i46:=by kernel_rfl,i51:=by kernel_rfl,i53:=by kernel_rfl,i171:=by kernel_rfl,i173:=by kernel_rfl,i212:=by kernel_rfl,i232:=by kernel_rfl,i233:=by kernel_rfl,m17:=by kernel_rfl,m18:=by kernel_rfl,m19:=by kernel_rfl }
open Go.Proofs.Tryz (prog)
def Wn:List V->List Int->Bool
 |[],[]=>true
 | .int .u64 n::l,m::r=>bif decide (n=m)then Wn l r else false
 |_,_=>false
theorem OG{p:Pl}:∀ {cs:List V} {r:List Int} {vs:List Value},Wn cs r=true->Ac p cs vs->vs=r.map fun z=>ZN .u64 z
 |[],[],vs,_,h=>by simpa using h
 | .int .u64 n::l,m::r,vs,he,h=>by
  unfold Wn at he;cases a:decide (n=m)with
  |false=>rw[a]at he;cases he
  |true=>
   rw[a]at he;have e:=w6 a;subst e;cases vs with
   |nil=>simp at h
   |cons v vs=>
    simp only[Au,Aa]at h;rw[h.1,OG he h.2];rfl
def Pj(h:H):Bool:=match h.get 3 with
 |some (.cells cs _ _)=>Wn cs Lib.pow10Tab
 |_=>false
def UQ:List V->H->Option (V×H)
 |[.int .i64 n],h=>bif Pj h&&decide (-9223372036854775808<=n)&&decide (n<=9223372036854775807)then some (.str<|Lib.itoa n,h)else none
 |_,_=>none
def RW:Ms:=fun f=>bif Zc f 156 then some UQ else none
theorem Q2:∀ {cs:List V} {r:List Int},Wn cs r=true->cs.length=r.length/\∀d∈cs,d.ok=true
 |[],[],_=>⟨rfl,fun d a=>by cases a⟩
 | .int .u64 n::l,m::r,he=>by
  unfold Wn at he;cases a:decide (n=m)with
  |false=>rw[a]at he;cases he
  |true=>
   rw[a]at he;obtain⟨b,c⟩:=Q2 (cs:=l) (r:=r) he;refine⟨by simp[b],fun d a=>?_⟩;rcases List.mem_cons.1 a with rfl|a
   ·rfl
   ·exact c d a
theorem VC : prog.globalNamed "internal/strconv.uint64pow10" = some 3 := by kernel_rfl
theorem YS{p:Pl}(a:Gp p):p[3]?=some (3,20):=a _<|List.mem_cons_self ..
theorem NW {p : Pl} {h : H} {w : World} (f : R p h w) (g : Gp p) (a : Pj h = true) : Lib.TabIs prog w "internal/strconv.uint64pow10" .u64 Lib.pow10Tab := by
 unfold Pj at a;split at a
 case h_2=>cases a
 rename_i cs t fz k;obtain⟨r,n,x,e,i,c,fz',rfl,l,m,d,_⟩:=f.obj 3 _ k;rw[YS g]at e;cases e;obtain⟨e1,e2⟩:=Q2 a;have o:cs.length=20:=e1.trans rfl;have b:c.toList.take cs.length=c.toList:=Zk (by simp;omega);rw[b]at d;have j:=OG a (d.G9 e2);unfold Lib.TabIs World.var?;rw[VC];show(match w.heap[3]? with
  |some (.cells cs _ _)=>some cs
  |_=>none)=_
 rw[i];show some c=_;rw[<-j]
theorem SE:DR prog RW:=by
 intro f q c p h w args args' v h' g l m a;unfold RW at c;cases d:Zc f 156 with
 |false=>rw[d]at c;cases c
 |true=>
  rw[d]at c;cases c;cases Zb d;unfold UQ at a;split at a
  case h_2=>cases a
  rename_i n;cases b:(Pj h&&decide (-9223372036854775808<=n)&&decide (n<=9223372036854775807))with
  |false=>rw[b]at a;cases a
  |true=>
   rw[b]at a;cases a;rw[Za,Za,w5,w5]at b;obtain⟨x,o,i⟩:=m.one;have:args'= #[x]:=Array.toList_inj.1 o;subst this;simp only[Aa]at i;subst i;refine(Any.strconv_Itoa D7 n b.1.2 b.2 w<|NW g l b.1.1).mono ?_;rintro e w' ⟨rfl,k,os,rfl⟩;exact⟨_,p,rfl,by simp only[Aa];rfl,JB g ⟨rfl,rfl,rfl,by show w.heap.size<=(w.heap++os).size;rw[Array.size_append];omega,fun j r=>by show(w.heap++os)[j]?=_;exact ZA r⟩<|by show w.drawn<=w.drawn+k;omega⟩
end Go.Det
namespace Go.Proofs
open Go.Shelf Go.RowKit Go.Sort Go.Lib Go.Det
namespace FmtU
set_option maxHeartbeats 6400000 in
theorem small(i:Nat)(q:i<100)(w:World):Calls Zj 231 #[.int .u64 i,.int .i64 10] w fun e w'=>e=.returned (.string ⟨(Zm i).toArray⟩)/\w'=w:=by
 have mixed:=D7.mixed;have t3:=Tryz.underlying3;have a3:=Tryz.isAgg3;have z3:=Tryz.sizeOf3;have v3:=Tryz.zeroValue3;have t9:=Zy;have a9:=Tryz.isAgg9;have z9:=Tryz.sizeOf9;have v9:=Tryz.zeroValue9;have t4:=Tryz.underlying4;have a4:=Tryz.isAgg4;have z4:=Tryz.sizeOf4;have v4:=Tryz.zeroValue4;have l:=ZB;have a:=Tryz.isAgg206;have n:=Tryz.sizeOf206;have g:=ZF;have b:=Zu;have d:=Tryz.isAgg306;have j:=Tryz.sizeOf306;have c:=Tryz.zeroValue306;have t0:=Tryz.underlying0;have a0:=Tryz.isAgg0;have z0:=Tryz.sizeOf0;have v0:=Tryz.zeroValue0;have p:=ZC;have f:=Tryz.isAgg213;have o:=Tryz.sizeOf213;have k:=Tryz.zeroValue213;have t5:=Tryz.underlying5;have a5:=Tryz.isAgg5;have z5:=Tryz.sizeOf5;have v5:=Tryz.zeroValue5;have m:∀args w,(callFunc 276 args).run Zj w=.ok (.enter 276 args) w:=enters_of Tryz.func276 ac rfl;go_enter Tryz.func231,Tryz.ntmps231
 go_wp2_with (go_at_fn 276;refine(Any.internal_strconv_small (ρ:=Di) { D7 with } i q _).mono ?_;rintro e w' ⟨rfl,rfl⟩)
 go_ret
 exact⟨rfl,rfl⟩
set_option maxHeartbeats 6400000 in
theorem YT (u : Nat) (Q : 100 <= u) (a : u < 18446744073709551616) (w : World) (l : Lib.TabIs Tryz.prog w "internal/strconv.uint64pow10" .u64 Lib.pow10Tab) :
  Calls Zj 231 #[.int .u64 u,.int .i64 10] w fun e w'=>e=.returned (.string ⟨(Zm u).toArray⟩)/\∃k os,w'=grow (w.drewN k) os:=by
 have mixed:=D7.mixed;have t3:=Tryz.underlying3;have a3:=Tryz.isAgg3;have z3:=Tryz.sizeOf3;have v3:=Tryz.zeroValue3;have t9:=Zy;have a9:=Tryz.isAgg9;have z9:=Tryz.sizeOf9;have v9:=Tryz.zeroValue9;have t4:=Tryz.underlying4;have a4:=Tryz.isAgg4;have z4:=Tryz.sizeOf4;have v4:=Tryz.zeroValue4;have E:=ZB;have r:=Tryz.isAgg206;have G:=Tryz.sizeOf206;have z:=ZF;have t:=Zu;have x:=Tryz.isAgg306;have A:=Tryz.sizeOf306;have v:=Tryz.zeroValue306;have t0:=Tryz.underlying0;have a0:=Tryz.isAgg0;have z0:=Tryz.sizeOf0;have v0:=Tryz.zeroValue0;have J:=ZC;have y:=Tryz.isAgg213;have I:=Tryz.sizeOf213;have D:=Tryz.zeroValue213;have t5:=Tryz.underlying5;have a5:=Tryz.isAgg5;have z5:=Tryz.sizeOf5;have v5:=Tryz.zeroValue5;have s:∀args w,(callFunc 277 args).run Zj w=.ok (.enter 277 args) w:=enters_of Tryz.func277 ac rfl;have q:∀args w,(callFunc 278 args).run Zj w=.ok (.enter 278 args) w:=enters_of Tryz.func278 ac rfl;have i:1<=u:=a8
 have n:Zv u<=20:=by have:=Lib.numDigits_eq u i a;split at this<;>omega
 have g:Zj.arrayLen 306=24:=by simp[Program.arrayLen,Zu]
 have M:∀W,(Instr.sliceAt 306 (.pointer (some ⟨w.heap.size,0,none⟩)) none (some (.int .i64 (Zv u:Int))) none).run Zj W=.ok (.slice (some ⟨w.heap.size,0,none⟩) (Zv u) 24) W:=fun W=>by
  rw[run_sliceAt_array_h W 306 ⟨w.heap.size,0,none⟩ (by simp[Program.arrayLen,Program.elem,Zu]) .i64 (Zv u:Int) a8 (by rw[g];omega)];go_simp
 have d:=Lib.holds_zero0 w 306 (Zv u) a8;have c:=Any.internal_strconv_formatBase10 (ρ:=Di) (P:=Zj) { D7 with } w.heap.size 0 24 u (Array.replicate (Zv u) 0) (w.alloc (.cells ZG 306)) d (by rw[Zo];exact Lib.lt_pow_nDigits u) a (by rw[Zo];omega);rw[Zo]at c;have o:=Lib.hid d;have O:(100:Int)<=(u:Int):=a8
 clear d g;go_enter Tryz.func231,Tryz.ntmps231
 go_wp2_with (first
  |(go_at_fn 277;refine(Any.internal_strconv_numDigits (ρ:=Di) { D7 with } u i a _ (Lib.tabIs_alloc l _)).mono ?_;rintro e w' ⟨rfl,rfl⟩))
 go_at_fn 278
 refine c.mono ?_;rintro e w' ⟨rfl,k,v',f,rfl,p⟩;have L:(convert 213 9 (.slice (some ⟨w.heap.size,0,none⟩) (Zv u) 24)).run Zj ((putRow (fun(b:UInt8)=>ZN .u8 (b.toNat:Int)) (w.alloc (.cells ZG 306)) w.heap.size 0 f).drewN k)=.ok (.string ⟨(Zm u).toArray⟩) ((putRow (fun(b:UInt8)=>ZN .u8 (b.toNat:Int)) (w.alloc (.cells ZG 306)) w.heap.size 0 f).drewN k):=by
  have h:=run_convert_bytes_back (P:=Zj) ((putRow (fun(b:UInt8)=>ZN .u8 (b.toNat:Int)) (w.alloc (.cells ZG 306)) w.heap.size 0 f).drewN k) 213 9 5 ⟨w.heap.size,0,none⟩ 24 (Zm u) ZC Tryz.underlying5 Zy (fun j m=>by
   rw[Lib.row_is_numeral p j m,Lib.add_plain,World.cell?_drewN];exact cell?_putRow (fun(b:UInt8)=>ZN .u8 (b.toNat:Int)) _ w.heap.size 0 _ f o.out (by rw[p.size,Zo]) j (by rw[p.size];rw[Lib.decDigits_length]at m;exact m))
  rw[Lib.decDigits_length]at h;exact h
 go_wp2
 go_ret
 obtain⟨os,K⟩:=Lib.fin_at w (.cells ZG 306) f k 0;exact⟨rfl,k,os,K⟩
theorem all (u : Nat) (b : u < 18446744073709551616) (w : World) (a : Lib.TabIs Tryz.prog w "internal/strconv.uint64pow10" .u64 Lib.pow10Tab) :
  Calls Zj 231 #[.int .u64 u,.int .i64 10] w fun e w'=>e=.returned (.string ⟨(Zm u).toArray⟩)/\∃k os,w'=grow (w.drewN k) os:=by
 by_cases h:u<100
 ·exact(small u h w).mono fun e w' ⟨c,d⟩=>⟨c,0, #[],by rw[d];simp[World.drewN_zero]⟩
 ·exact YT u a8 b w a
theorem outer (u : Nat) (b : u < 18446744073709551616) (w : World) (a : Lib.TabIs Tryz.prog w "internal/strconv.uint64pow10" .u64 Lib.pow10Tab) :
  Calls Zj 159 #[.int .u64 u,.int .i64 10] w fun e w'=>e=.returned (.string ⟨(Zm u).toArray⟩)/\∃k os,w'=grow (w.drewN k) os:=by
 have mixed:=D7.mixed;have t3:=Tryz.underlying3;have a3:=Tryz.isAgg3;have z3:=Tryz.sizeOf3;have v3:=Tryz.zeroValue3;have t9:=Zy;have a9:=Tryz.isAgg9;have z9:=Tryz.sizeOf9;have v9:=Tryz.zeroValue9;have g:=ZB;have c:=Tryz.isAgg206;have i:=Tryz.sizeOf206;have d:=ZF;have f:∀args w,(callFunc 231 args).run Zj w=.ok (.enter 231 args) w:=enters_of Tryz.func231 ac rfl;go_enter Tryz.func159,Tryz.ntmps159
 go_wp2_with (go_at_fn 231;refine(all u b _ a).mono ?_;rintro e w' ⟨rfl,k,os,rfl⟩)
 go_ret
 exact⟨rfl,k,os,rfl⟩
end FmtU
end Go.Proofs
namespace Go.Det
open Go.Proofs
open Go.Proofs.Tryz (prog)
def fmtQ:List V->H->Option (V×H)
 |[.int .u64<|.ofNat n,.int .i64<|.ofNat b],h=>bif Pj h&&(Zt n 18446744073709551615&&Zc b 10)then some (.str<|Zm n,h)else none
 |_,_=>none
def fmtS:Ms:=fun f=>bif Zc f 159 then some fmtQ else none
theorem Uk:DR prog fmtS:=by
 intro f q c p h w args args' v h' i m o a;unfold fmtS at c;cases g:Zc f 159 with
 |false=>rw[g]at c;cases c
 |true=>
  rw[g]at c;cases c;cases Zb g;unfold fmtQ at a;split at a
  case h_2=>cases a
  rename_i n b;cases d:(Pj h&&(Zt n 18446744073709551615&&Zc b 10))with
  |false=>rw[d]at a;cases a
  |true=>
   rw[d]at a;cases a;rw[Za,Za]at d;obtain⟨r,l,s⟩:=d;have l:=Zx l;cases Zb s;obtain⟨x,y,hl,g1,g2⟩:=o.two;have:args'= #[x,y]:=Array.toList_inj.1 hl;subst this;simp only[Aa]at g1 g2;subst g1 g2;refine(FmtU.outer n a8 w<|NW i m r).mono ?_;rintro e w' ⟨rfl,k,os,rfl⟩;exact⟨_,p,rfl,by simp only[Aa];rfl,JB i ⟨rfl,rfl,rfl,by show w.heap.size<=(w.heap++os).size;rw[Array.size_append];omega,fun j t=>by show(w.heap++os)[j]?=_;exact ZA t⟩<|by show w.drawn<=w.drawn+k;omega⟩
section
open Go.Proofs.Tryz (prog)
def X9:Bg:=(List.range 19).map fun(c:Nat)=>(160,[.str [48],.int .i64 (c:Int)],.str<|Zh c 48)
theorem Vc:An C7 1000 X9=true:=by kernel_rfl
theorem YN:DR prog (DQ X9):=Ld Ip C1 D0 Vc
end
end Go.Det
namespace Go.Pe
open Go.Det
@[reducible] def Bn:List Sh->Sh
 |[]=>.unit
 |[a]=>a
 |a::b::l=>.pair a<|Bn (b::l)
def Af:(l:List Sh)->(Bn l).T->List PV
 |[],_=>[]
 |[a],x=>[AX a x]
 |a::b::l,x=>AX a x.1::Af (b::l) x.2
structure Ay where
 ins:List Sh
 pre:(Bn ins).T->Bool
 outs:List Sh
 f:(Bn ins).T->(Bn outs).T
 nd:Bool:=false
def Sh.sc:Sh->Bool
 | .int _| .bool| .str| .unit| .fnv=>true
 | .list _| .nlist _| .ptr _=>false
 | .pair a b=>a.sc&&b.sc
structure OI where
 ins:List Sh
 ty:TypeId
 el:Sh
 pre:(Bn ins).T->List el.T->Bool
 g:(Bn ins).T->List el.T->List el.T
 fst:Bool
def wj{α:Type}(b:Bool)(r:List α)(x:α):List α:=bif b then x::r else r++[x]
def Yg{α:Type}(b:Bool)(a:List α):Option (α×List α):=bif b then(match a with|[]=>none|x::r=>some (x,r))else(match a.reverse with|[]=>none|x::r=>some (x,r.reverse))
structure AW where
 C:Ctx
 sp:FuncId->Option Ay
 pl:FuncId->Nat->List Nat
 ct:FuncId->Nat->Bool
 fz:FuncId->Nat->List (Nat×Sh)
 ws:FuncId->Option OI:=fun _=>none
 esc:List FuncId:=[]
 escOk:∀g∈esc,C.prim g=some PK.noEsc.run:=by intro g h;cases h
def Dz(st:Ag)(s:Sh)(p:PV):Option (Bool×s.T):=
 bif Hn p==s.Ho then
  match Bt st p.cells with
  |some (c,cs)=>match Bp s (F5 s.leaves cs).2 with
   |some x=>some ((F5 s.leaves cs).1&&c,x)
   |none=>none
  |none=>none
 else none
def Bm(st:Ag):(l:List Sh)->List PV->Option (Bool×(Bn l).T)
 |[],[]=>some (true,())
 |[a],[p]=>Dz st a p
 |a::b::l,p::ps=>match Dz st a p,Bm st (b::l) ps with
  |some (c,x),some (d,y)=>some (c&&d,(x,y))
  |_,_=>none
 |_,_=>none
def one:List PV->PV
 |[v]=>v
 |l=>.tup l
def SV(sp:Ay)(args:List PV)(st:Ag)(k:PV->Ag->Tr):Tr:=
 match Bm st sp.ins args with
 |some (c,i)=>.ite (c&&sp.pre i) (k (one<|Af sp.outs<|sp.f i)<|bif sp.outs.all Sh.sc then st else Av (args.flatMap PV.cells) st) .fail
 |none=>.fail
def NA(w:OI)(args:List PV)(st:Ag)(k:PV->Ag->Tr):Tr:=
 match Yg w.fst args with
 |some (.sl id sz 0 n none,r)=>match Bm st w.ins r,(Av (r.flatMap PV.cells) st).obj id with
  |some (c,i),some (.arr false t s l)=>bif Zc t w.ty then
    match Cc (.list s) (.list w.el) l with
    |some l'=>.ite (c&&w.pre i l'&&decide (n=List.length (α:=w.el.T) l')&&Zc sz w.el.sz) (k (.tup [])<|(Av (r.flatMap PV.cells) st).setObj id<|.arr false w.ty w.el<|w.g i l') .fail
    |none=>.fail
   else .fail
  |_,_=>.fail
 |some (.nil,r)=>match Bm st w.ins r with
  |some (c,i)=>.ite (c&&w.pre i []) (k (.tup [])<|Av (r.flatMap PV.cells) st) .fail
  |none=>.fail
 |_=>.fail
mutual
def XN:PV->List Nat
 | .ptr id _| .eptr id _ _ _| .sl id _ _ _ _| .mp id| .yl id=>[id]
 | .agg l| .tup l=>Fv l
 | .fn _ a b=>Fv a++Fv b
 |_=>[]
def Fv:List PV->List Nat
 |[]=>[]
 |v::vs=>XN v++Fv vs
end
def Wy:Obj->List Nat
 | .box cs=>Fv cs
 | .tbox _ cs=>Fv cs
 | .lp _ _ _ _ _ _ _ sl=>Fv (sl.map (·.2))
 |_=>[]
def EO(st:Ag)(base:Nat):Nat->List Nat->List Nat->List Nat
 |0,_,acc=>acc
 |_+1,[],acc=>acc
 |f+1,i::a,acc=>bif Zq i base||acc.any (Zc i)then EO st base f a acc
  else match st.obj i with
   |some o=>EO st base f (a++Wy o)<|acc++[i]
   |none=>EO st base f a acc
def Ie(base:Nat):List Nat->Nat->Nat->Option Nat
 |[],_,i=>bif Zq i base then some i else none
 |j::a,n,i=>bif Zc i j then some n else Ie base a (Zz n 1) i
mutual
def Eh(f:Nat->Option Nat):PV->PV
 | .ptr i o=>match f i with|some j=>.ptr j o|none=>.any
 | .eptr i a b c=>match f i with|some j=>.eptr j a b c|none=>.any
 | .sl i a b c d=>match f i with|some j=>.sl j a b c d|none=>.any
 | .mp i=>match f i with|some j=>.mp j|none=>.any
 | .yl i=>match f i with|some j=>.yl j|none=>.any
 | .agg l=>.agg<|Fu f l
 | .tup l=>.tup<|Fu f l
 | .fn g a b=>.fn g (Fu f a)<|Fu f b
 |v=>v
def Fu(f:Nat->Option Nat):List PV->List PV
 |[]=>[]
 |v::vs=>Eh f v::Fu f vs
end
def HQ(f:Nat->Option Nat):Obj->Obj
 | .box cs=>.box<|Fu f cs
 | .tbox t cs=>.tbox t<|Fu f cs
 | .lp g r ps asg body s n sl=>.lp g r ps asg body s n<|sl.map fun x=>(x.1,Eh f x.2)
 |o=>o
def low(f:Nat->Option Nat)(base:Nat):Ob->Ob
 |[]=>[]
 |(i,o)::l=>bif Zq i base then(i,HQ f o)::low f base l else low f base l
def kept(st:Ag)(f:Nat->Option Nat):List Nat->Nat->Ob->Ob
 |[],_,a=>a
 |j::b,n,a=>match st.obj j with
  |some o=>kept st f b (Zz n 1) ((n,HQ f o)::a)
  |none=>kept st f b (Zz n 1) a
def IZ(base:Nat):Ob->List Nat
 |[]=>[]
 |(i,o)::l=>bif Zq i base then Wy o++IZ base l else IZ base l
def Ba(n:Nat)(vs:List (Nat×PV))(ob:Ob)(nx:Nat):Ag:=⟨n,Cn vs,ob,nx⟩
def canon(base:Nat)(L:List Nat)(st:Ag):Ag:=
 let vs:=L.map fun t=>(t,st.get t)
 let a:=EO st base 100 (Fv (vs.map (·.2))++IZ base st.ob) []
 let f:=Ie base a base
 Ba st.n (vs.map fun x=>(x.1,Eh f x.2)) (kept st f a base<|low f base st.ob) (Zz base a.length)
def S3(base:Nat)(x:Nat×Sh)(st:Ag):Ag:=
 match st.get x.1 with
 | .nil=>st.set x.1<|.dat (.list x.2) []
 | .sl id sz off len _=>match st.obj id with
  |some (.arr _ e s l)=>bif Zc sz s.sz then(st.setObj id<|.arr true e s l).set x.1 (.dat (.list s)<|(l.drop off).take len)else st
  |_=>st
 | .ptr id 0=>bif Zt base id then match st.obj id with
   |some (.box ps)=>match Bp x.2 ps with
    |some v=>(st.C8 id).set x.1<|.B4 x.2 v 0
    |none=>st
   |_=>st
  else st
 |_=>st
def RS(base:Nat):List (Nat×Sh)->Ag->Ag
 |[],st=>st
 |x::l,st=>RS base l<|S3 base x st
def AH:Code->Nat
 | .region id _ _=>id
 | .seq a _=>AH a
 | .block _ b=>AH b
 | .loop b=>AH b
 | .scope b=>AH b
 |_=>0
def GX(X:AW)(f:FuncId)(r:Nat)(base:Nat)(st:Ag):Ag:=canon base (X.pl f r)<|RS base (X.fz f r) st
inductive U3 where
 |fn (g:FuncId)
 |rnd (id:Nat)
abbrev CX:=U3->List PV->Ag->(PV->Ag->Tr)->Tr
def Ju(d:Option Nat)(k:Ag->Tr):PO->Tr
 | .bad=>.fail
 | .val v st=>match st.put d v with
  |some st'=>k st'
  |none=>.fail
 | .ite c a b=>.ite c (Ju d k a)<|Ju d k b
inductive CK where
 |no
 |bad
 |yes (g:U3) (args:List PV)
def G3(st:Ag)(o:Op):CK:=
 match o with
 | .call c=>match c.callee with
  | .value f=>match Jj st f,Gy st c.args.toList with
   |some (.fn (.func g) first cap),some args=>.yes (.fn g)<|first++args++cap
   |some (.yl id),some args=>.yes (.rnd id) args
   |_,_=>.bad
  |_=>.no
 |_=>.no
def D8(T:AP)(call:CX)(o:Oper)(st:Ag)(k:Ag->Tr):Tr:=
 match G3 st o.op with
 | .yes g args=>call g args st fun v st=>match st.put o.dst v with
  |some st'=>k st'
  |none=>.fail
 | .bad=>.fail
 | .no=>Ju o.dst k<|pop o.op T st
def K8(T:AP)(st:Ag)(o:Op):Option (PV×Ag):=
 match o with
 | .convert s d x=>match T.und s,T.und d,Jj st x with
  |some .string,some<|.slice e,some (.dat .str l)=>match T.und e with
   |some (.int .u8)=>some (.sl st.nx 1 0 (List.length l) none,st.push<|.arr false e (.int .u8)<|List.map (fun b:UInt8=>(b.toNat:Int)) l)
   |_=>none
  |_,_,_=>none
 |_=>none
def Vp(T:AP)(st:Ag)(o:Op):Option PV:=
 match o with
 | .convert s d x=>match T.und s,T.und d,Jj st x with
  |some (.pointer t),some .unsafePointer,some (.ptr id off)=>match T.inf t,st.obj id with
   |some i,some (.tbox _ cs)=>bif Zq 0 i.size&&Zq off (CL cs)then some (.ptr id off)else none
   |_,_=>none
  |some .unsafePointer,some<|.pointer u,some (.ptr id off)=>match T.inf u,st.obj id with
   |some i,some (.tbox e cs)=>bif Zq 0 i.size&&Zt i.size (CL cs)&&Zc e u&&Zc off 0 then some (.ptr id 0)else none
   |_,_=>none
  |_,_,_=>none
 |_=>none
def NT(T:AP)(st:Ag)(o:Op):Option (PV×Ag):=
 match K8 T st o with
 |some r=>some r
 |none=>match Vp T st o with
  |some v=>some (v,st)
  |none=>none
def UG(T:AP)(call:CX)(o:Oper)(st:Ag)(k:Ag->Tr):Tr:=
 match NT T st o.op with
 |some (v,b)=>match b.put o.dst v with
  |some a=>k a
  |none=>.fail
 |none=>D8 T call o st k
def guarded(ops:Array Oper)(o:Oper)(st:Ag)(yes no:Ag->Tr):Tr:=
 match o.guard with
 |none=>yes st
 |some (j,a)=>match (ops[j]?).bind (·.dst)with
  |some t=>bif Zq t st.n then(match st.get t with
   | .bl b=>bif b==a then yes st else no st
   | .dat .bool b=>bif a then .ite b (yes<|st.set t<|.bl true) (no<|st.set t<|.bl false)else .ite b (no<|st.set t<|.bl true)<|yes<|st.set t<|.bl false
   | .tup _=>no st
   | .ub=>.both (bif a then yes (st.set t<|.bl true)else no<|st.set t<|.bl true)<|bif a then no (st.set t<|.bl false)else yes<|st.set t<|.bl false
   |_=>.fail)else .fail
  |none=>.fail
def GG(o:Oper)(k:Ag->Tr)(st:Ag):Tr:=
 match st.put o.dst (.tup [])with
 |some st'=>k st'
 |none=>.fail
def prun(T:AP)(call:CX)(ops:Array Oper):List Oper->Ag->(Ag->Tr)->Tr
 |[],st,k=>k st
 |o::a,st,k=>guarded ops o st
   (fun st=>UG T call o st fun st'=>prun T call ops a st' k)
   (fun st=>GG o (fun st'=>prun T call ops a st' k) st)
def Tf(st:Ag)(o:Op):Option (List Nat):=
 match o with
 | .load _ x=>match Jj st x with
  |some (.ptr id _)|some (.eptr id _ _ _)=>some [id]
  |some (.B4 _ _ _)=>some []
  |_=>none
 | .convert _ _ x=>match Jj st x with
  |some (.dat (.int _) _)|some (.dat .str _)=>some []
  |_=>none
 | .call c=>match c.callee,Gy st c.args.toList with
  | .builtin .len,some [.dat _ _]| .builtin .len,some [.sl _ _ _ _ _]| .builtin .len,some [.nil]=>some []
  | .builtin .len,some [.mp id]=>some [id]
  |_,_=>none
 | .lookup _ x _ _=>match Jj st x with
  |some (.mp id)=>some [id]
  |some .nilm=>some []
  |_=>none
 |_=>none
def Du(sp:FuncId->Option Ay)(st:Ag)(o:Op):Option (List Nat):=
 match o with
 | .store _ x _=>match Jj st x with
  |some (.ptr id _)|some (.eptr id _ _ _)=>some [id]
  |_=>none
 | .mapUpdate _ x _ _| .insert _ x _ _=>match Jj st x with
  |some (.mp id)=>some [id]
  |_=>none
 | .makeMap _ _| .makeSlice _ _ _=>some []
 | .call c=>match c.callee with
  | .value f=>match Jj st f with
   |some (.fn (.func g) _ _)=>match sp g with
    |some _=>some []
    |none=>none
   |_=>none
  | .builtin .append=>match Gy st c.args.toList with
   |some (.sl id _ _ _ _::_)=>some [id]
   |some _=>some []
   |none=>none
  | .builtin .delete=>match Gy st c.args.toList with
   |some (.mp id::_)=>some [id]
   |_=>none
  | .builtin .unsafeString=>match Gy st c.args.toList with
   |some (.eptr id _ _ _::_)=>some [id]
   |_=>none
  |_=>none
 |_=>none
abbrev Rs:=List<|Nat×Option (List Nat)
def Mk:Option (List Nat)->Option (List Nat)->Bool
 |some a,some b=>a.all fun i=> !(b.any<|Zc i)
 |some [],none=>true
 |_,_=>false
def FV(st:Ag):Option (List Nat)->Bool
 |some l=>l.all fun i=>Ei<|st.obj i
 |none=>false
def apart(anc:Nat->Nat->Bool)(i:Nat)(st:Ag)(t:Option (List Nat))(a:Rs):Bool:=a.all fun r=>anc i r.1||(Mk r.2 t&&FV st r.2)
def behind(st:Ag)(t:Option (List Nat))(a:Rs):Rs:=a.map fun r=>bif Mk r.2 t&&FV st r.2 then r else(r.1,none)
def Rx(st:Ag)(o:Op):Bool:=match G3 st o with
 | .yes (.rnd _) _=>false
 |_=>true
def Fk(T:AP)(sp:FuncId->Option Ay)(call:CX)(ops:Array Oper)(anc:Nat->Nat->Bool):List Nat->Ag->Rs->(Ag->Tr)->Tr
 |[],st,_,k=>k st
 |i::b,st,a,k=>match ops[i]? with
  |none=>.fail
  |some o=>guarded ops o st
    (fun st=>bif Ca o then D8 T call o st (fun st'=>Fk T sp call ops anc b st' (bif Jq o then(i,Tf st o.op)::a else a) k)
     else bif Bc o then D8 T call o st (fun st'=>Fk T sp call ops anc b st' a k)
     else bif apart anc i st (Du sp st o.op) a&&Rx st o.op then D8 T call o st (fun st'=>Fk T sp call ops anc b st' (behind st (Du sp st o.op) a) k)else .fail)
    (fun st=>bif Bi o then(bif apart anc i st (some []) a then GG o (fun st'=>Fk T sp call ops anc b st' (behind st (some []) a) k) st else .fail)
     else GG o (fun st'=>Fk T sp call ops anc b st' a k) st)
def FR(X:AW)(f:FuncId)(r:Nat)(st:Ag):List (Nat×PV):=(X.pl f r).map fun t=>(t,st.get t)
def exec(X:AW)(call c:CX)(nd ro:Bool)(d:Nat)(f:FuncId)(base:Nat):Code->Ag->(DX->Ag->Tr)->Tr
 | .skip,st,k| .label _,st,k=>k .normal st
 | .region _ ops dr,st,k=>bif dr then(bif !ro||Ed ops (Cg ops)then Fk X.C.T X.sp c ops (Cg ops).a (Cg ops).ord st [] (k .normal)else .fail)else prun X.C.T call ops ops.toList st<|k .normal
 | .seq a b,st,k=>exec X call c nd ro d f base a st fun e st'=>match e with
  | .normal=>bif X.ct f (AH b)then .cut nd ro d f base b (GX X f (AH b) base st') k else exec X call c nd ro d f base b st' k
  |e=>k e st'
 | .cond x a b,st,k=>match Jj st x with
  |some (.bl t)=>bif t then exec X call c nd ro d f base a st k else exec X call c nd ro d f base b st k
  |some (.dat .bool t)=>match x with
   | .tmp s=>.ite t (exec X call c nd ro d f base a (st.set s<|.bl true) k)<|exec X call c nd ro d f base b (st.set s<|.bl false) k
   |_=>.ite t (exec X call c nd ro d f base a st k)<|exec X call c nd ro d f base b st k
  |some .ub=>match x with
   | .tmp s=>.both (exec X call c nd ro d f base a (st.set s<|.bl true) k)<|exec X call c nd ro d f base b (st.set s<|.bl false) k
   |_=>.fail
  |_=>.fail
 | .block id b,st,k=>exec X call c nd ro d f base b st fun e st'=>match e with
  | .exit i=>bif Zc i id then k .normal st' else k e st'
  |e=>k e st'
 | .loop b,st,k=>.loop nd ro d f base b (GX X f (AH b) base st) k
 | .exit i,st,k=>k (.exit i) st
 | .ret,st,k=>k .ret st
 | .scope b,st,k=>exec X call c nd ro d f base b st k
 | .rangeFunc g ps asg b,st,k=>bif ro then .fail else match Jj st g with
  |some (.fn (.func l) first cap)=>bif (X.C.prim l).isSome then .fail else
   call (.fn l) (first++[.yl st.nx]++cap) (st.push<|.lp f (AH b) ps asg b .ready st.n<|FR X f (AH b) st) fun _ j=>
    match j.obj st.nx with
    |some (.lp _ _ _ _ _ s _ _)=>match s with
     | .ready=>k .normal<|j.C8 st.nx
     | .ret=>k .ret<|j.C8 st.nx
     | .exit i=>k (.exit i)<|j.C8 st.nx
     | .busy=>.fail
    |_=>.fail
  |_=>.fail
 |_,_,_=>.fail
def SO(T:AP)(st:Ag):ResultVar->Option PV
 | .tmp t=>some<|st.get t
 | .cell a t=>match Hg T st t (st.get a)with
  | .val v _=>some v
  | .EF _ v _=>some v
  |_=>none
def Ha(T:AP)(st:Ag):List ResultVar->List Bool
 |[]=>[]
 | .tmp _::b=>Ha T st b
 | .cell a t::b=>match Hg T st t (st.get a)with
  | .EF c _ _=>c::Ha T st b
  |_=>Ha T st b
def KP:List Bool->Tr->Tr
 |[],t=>t
 |c::cs,t=>.ite c (KP cs t) .fail
def Qk(T:AP)(st:Ag):List ResultVar->Option (List PV)
 |[]=>some []
 |r::a=>match SO T st r,Qk T st a with
  |some v,some vs=>some (v::vs)
  |_,_=>none
def Cr:List PV->Nat->List (Nat×PV)
 |[],_=>[]
 |v::vs,i=>(i,v)::Cr vs (Zz i 1)
def enter(X:AW)(call a:CX)(nd:Bool)(d:Nat)(f:FuncId)(args:List PV)(st:Ag)(k:PV->Ag->Tr):Tr:=
 match X.C.fn f with
 |none=>.fail
 |some i=>bif i.cert then
   exec X call a nd false d f st.nx i.body (Ba (Zz args.length<|Nat.sub i.ntmps args.length) (Cr args 0) st.ob st.nx) fun e s=>match e with
    | .exit _=>.fail
    |_=>match Qk X.C.T s i.results.toList with
     |some vs=>KP (Ha X.C.T s i.results.toList)<|k (one vs) ⟨st.n,st.fr,s.ob,s.nx⟩
     |none=>.fail
  else .fail
def G6:List Tmp->List PV->Ag->Ag
 |t::ts,v::vs,st=>G6 ts vs<|bif Zq t st.n then st.set t v else st
 |_,_,st=>st
def Nc(X:AW)(call a:CX)(nd:Bool)(d:Nat)(id:Nat)(args:List PV)(st:Ag)(k:PV->Ag->Tr):Tr:=
 match st.obj id with
 |some (.lp f _ ps asg b .ready n sl)=>bif Zc args.length ps.size then
   exec X call a nd true d f st.nx asg (G6 ps.toList args<|Ba n sl st.ob st.nx) fun e s=>match e with
   | .normal=>match s.obj id with
    |some (.lp v u t l x .ready w r)=>
     exec X call a nd true d f st.nx b (s.setObj id<|.lp v u t l x .busy w r) fun e2 s2=>
      match s2.obj id with
      |some (.lp o q j c m _ p g)=>match e2 with
       | .normal=>k (.bl true) ⟨st.n,st.fr,(s2.setObj id<|.lp o q j c m .ready p g).ob,s2.nx⟩
       | .ret=>k (.bl false) ⟨st.n,st.fr,(s2.setObj id<|.lp o q j c m .ret p g).ob,s2.nx⟩
       | .exit i=>k (.bl false) ⟨st.n,st.fr,(s2.setObj id<|.lp o q j c m (.exit i) p g).ob,s2.nx⟩
      |_=>.fail
    |_=>.fail
   |_=>.fail
  else .fail
 |_=>.fail
def WC(args:List PV)(st:Ag)(k:PV->Ag->Tr):Tr:=
 match args with
 |[.ptr id off]=>bif Ei (st.obj id)then k (.ptr id off) st else .fail
 |_=>.fail
def AY(X:AW)(nd:Bool):Nat->CX
 |0=>fun _ _ _ _=>.fail
 |d+1=>fun c args st k=>match c with
  | .fn g=>match X.sp g with
   |some sp=>bif nd|| !sp.nd then SV sp args st k else .fail
   |none=>match X.ws g with
    |some w=>NA w args st k
    |none=>bif X.esc.any (Zc g)then WC args st k else match X.C.prim g,X.C.spec g with
     |none,none=>enter X (AY X nd d) (AY X false d) nd d g args st k
     |_,_=>.fail
  | .rnd id=>Nc X (AY X nd d) (AY X false d) nd d id args st k
def Rw:PV->Bool
 | .dat _ _| .B4 _ _ _| .bl _| .nil=>true
 |_=>false
def JH(v:PV):Bool:=v.cells.all Rw
def UK:PV->Bool
 | .tup a=>a.all JH
 |v=>JH v
def Wk(v:PV)(ob:Ob):Ob:=bif UK v then[]else ob
def tree(X:AW)(nd:Bool)(d:Nat)(f:FuncId)(args:List PV):Tr:=
 enter X (AY X nd d) (AY X false d) nd d f args (Ba 0 [] [] 0) fun v st=>.leaf v<|Wk v st.ob
def body(X:AW)(nd ro:Bool)(d:Nat)(f:FuncId)(base:Nat)(b:Code)(st:Ag)(k:DX->Ag->Tr):Tr:=
 exec X (AY X nd d) (AY X false d) nd ro d f base b st fun e st'=>match e with
  | .normal=>.loop nd ro d f base b (GX X f (AH b) base st') k
  |e=>k e st'
def Xi(X:AW)(nd ro:Bool)(d:Nat)(f:FuncId)(base:Nat)(b:Code)(st:Ag)(k:DX->Ag->Tr):Tr:=exec X (AY X nd d) (AY X false d) nd ro d f base b st k
inductive Ev (X:AW) (Q:PV->Ob->Prop):Nat->Tr->Prop where
 |leaf {n:Nat} {v:PV} {ob:Ob}:Q v ob->Ev X Q n (.leaf v ob)
 |ite {n:Nat} {c:Bool} {a b:Tr}:(c=true->Ev X Q n a)->(c=false->Ev X Q n b)->Ev X Q n (.ite c a b)
 |both {n:Nat} {a b:Tr}:Ev X Q n a->Ev X Q n b->Ev X Q n (.both a b)
 |cut {n:Nat} {nd ro:Bool} {d:Nat} {f:FuncId} {base:Nat} {b:Code} {st:Ag} {k:DX->Ag->Tr}:Ev X Q n (Xi X nd ro d f base b st k)->Ev X Q n (.cut nd ro d f base b st k)
 |alts {n m:Nat} {f:Nat->Tr}:(∀i,i<m->Ev X Q n (f i))->Ev X Q n (.alts m f)
 |loop {n:Nat} {nd ro:Bool} {d:Nat} {f:FuncId} {base:Nat} {b:Code} {st:Ag} {k:DX->Ag->Tr}:Ev X Q n (body X nd ro d f base b st k)->Ev X Q (n+1) (.loop nd ro d f base b st k)
abbrev Fz:=Nat->Option (List V)
abbrev BX:=Nat->Option (Nat×Nat)
def DC(F:Fz):(s:Sh)->s.T->List V->Prop
 | .int k,x,cs=>cs=[.int k x]
 | .bool,x,cs=>cs=[.bool x]
 | .str,x,cs=>cs=[.str x]
 | .list s,l,cs=>∃v,cs=[v]/\((l=[]/\(v=.nils\/v=.esl\/v=.es0))\/
   ∃b off cap o e,v=.sl b off l.length cap o/\l.length<=cap/\F b=some e/\off+l.length*s.sz<=e.length/\(o=0\/o=s.sz)/\
    ∀i (h:i<l.length),DC F s l[i]<|(e.drop<|off+i*s.sz).take s.sz)
 | .pair a b,x,cs=>∃c d,cs=c++d/\DC F a x.1 c/\DC F b x.2 d
 | .unit,_,cs=>cs=[]
 | .fnv,x,cs=>cs=[match (x:Option Fn)with|some f=>.fn f [] []|none=>.nilf]
 | .ptr s,x,cs=>∃b o e,cs=[.ptr b o]/\F b=some e/\o+s.sz<=e.length/\DC F s x ((e.drop o).take s.sz)
 | .nlist s,l,cs=>∃v,cs=[v]/\((l=[]/\v=.nils)\/(l≠[]/\
   ∃b off cap o e,v=.sl b off l.length cap o/\l.length<=cap/\F b=some e/\off+l.length*s.sz<=e.length/\(o=0\/o=s.sz)/\
    ∀i (h:i<l.length),DC F s l[i]<|(e.drop<|off+i*s.sz).take s.sz))
theorem DC.len{F:Fz}:∀ {s:Sh} {x:s.T} {cs:List V},DC F s x cs->cs.length=s.sz
 | .int _,_,_,h=>by subst h;rfl
 | .bool,_,_,h=>by subst h;rfl
 | .str,_,_,h=>by subst h;rfl
 | .list _,_,_,h=>by obtain⟨v,rfl,_⟩:=h;rfl
 | .pair a b,x,_,h=>by
  obtain⟨c,d,rfl,e,f⟩:=h;rw[List.length_append,e.len,f.len];rfl
 | .unit,_,_,h=>by subst h;rfl
 | .nlist _,_,_,h=>by obtain⟨v,rfl,_⟩:=h;rfl
 | .fnv,_,_,h=>by subst h;rfl
 | .ptr _,_,_,h=>by obtain⟨b,o,g,rfl,_⟩:=h;rfl
theorem DC.ok{F:Fz}:∀ {s:Sh} {x:s.T} {cs:List V},DC F s x cs->∀v∈cs,v.ok=true
 | .int _,_,_,h=>by grind [DC,ZK]
 | .bool,_,_,h=>by grind [DC,ZK]
 | .str,_,_,h=>by grind [DC,ZK]
 | .list s,_,_,h=>by
  obtain⟨v,rfl,⟨_,rfl|rfl|rfl⟩|⟨b,off,cap,o,f,rfl,_⟩⟩:=h<;>simp[ZK]
 | .pair a b,x,_,h=>by
  obtain⟨c,d,rfl,g,i⟩:=h;intro v e;rcases List.mem_append.1 e with e|e
  ·exact g.ok v e
  ·exact i.ok v e
 | .unit,_,_,h=>by grind [DC]
 | .fnv,x,_,h=>by subst h;intro v e;rw[Zl.1 e];cases (x:Option Fn)<;>rfl
 | .nlist s,_,_,h=>by
  obtain⟨v,rfl,⟨_,rfl⟩|⟨_,b,off,cap,o,f,rfl,_⟩⟩:=h<;>simp[ZK]
 | .ptr _,_,_,h=>by obtain⟨b,o,f,rfl,_⟩:=h;simp[ZK]
theorem DC.mono{F F':Fz}(e:∀b cs,F b=some cs->F' b=some cs):∀ {s:Sh} {x:s.T} {cs:List V},DC F s x cs->DC F' s x cs
 | .int _,_,_,h=>by simpa only[DC]using h
 | .bool,_,_,h=>by simpa only[DC]using h
 | .str,_,_,h=>by simpa only[DC]using h
 | .list s,l,_,h=>by
  obtain⟨v,rfl,h⟩:=h;refine⟨v,rfl,?_⟩;rcases h with h|⟨b,off,cap,o,k,f,g,m,j,q,n⟩
  ·grind
  ·exact .inr ⟨b,off,cap,o,k,f,g,e _ _ m,j,q,fun i p=>(n i p).mono e⟩
 | .pair a b,x,_,h=>by
  obtain⟨c,d,rfl,f,g⟩:=h;exact⟨c,d,rfl,f.mono e,g.mono e⟩
 | .unit,_,_,h=>by simpa only[DC]using h
 | .fnv,_,_,h=>by simpa only[DC]using h
 | .ptr s,x,_,h=>by
  obtain⟨b,o,k,f,g,m,j⟩:=h;exact⟨b,o,k,f,e _ _ g,m,j.mono e⟩
 | .nlist s,l,_,h=>by
  obtain⟨v,rfl,h⟩:=h;refine⟨v,rfl,?_⟩;rcases h with h|⟨h0,b,off,cap,o,k,f,g,m,j,q,n⟩
  ·grind
  ·exact .inr ⟨h0,b,off,cap,o,k,f,g,e _ _ m,j,q,fun i p=>(n i p).mono e⟩
theorem DC.nl{F:Fz}{s:Sh}{l:List s.T}{cs:List V}(h:DC F (.nlist s) l cs):DC F (.list s) l cs:=by
 simp only[DC]at h ⊢;obtain⟨v,rfl,h⟩:=h;rcases h with⟨rfl,rfl⟩|⟨_,h⟩
 ·simp
 simp_all
theorem DC.YP{F:Fz}{s:Sh}{l:List s.T}{cs:List V}(h:DC F (.list s) l cs)(h0:0<l.length):DC F (.nlist s) l cs:=by
 have a:l≠[]:=ae
 simp_all [DC]
mutual
def PR(F:Fz)(ρ:BX)(N:Nat):PV->V->Prop
 | .any,_=>True
 | .bl b,v=>v=.bool b
 | .ub,v=>∃b,v=.bool b
 | .dat s x,v=>DC F s x [v]
 | .nil,v=>v=.nils
 | .nilp,v=>v=.nilp
 | .nilm,v=>v=.nilm
 | .nilf,v=>v=.nilf
 | .nili,v=>v=.nili
 | .agg l,v=>∃cs,v=.agg cs/\AJ F ρ N l cs
 | .tup l,v=>∃cs,v=.tup cs/\AJ F ρ N l cs
 | .ptr id off,v=>id<N/\∀b n,ρ id=some (b,n)->v=.ptr b off
 | .eptr id sz i off,v=>id<N/\∀b n,ρ id=some (b,n)->v=.ptr b (i*sz+off)
 | .B4 s x off,v=>∃b o cs,v=.ptr b (o+off)/\F b=some cs/\o+s.sz<=cs.length/\DC F s x ((cs.drop o).take s.sz)
 | .sl id sz off len cap,v=>id<N/\∀b n,ρ id=some (b,n)->
   (len<=cap.getD len/\off+cap.getD len<=n/\∃o,(o=0\/o=sz)/\v=.sl b (off*sz) len (cap.getD len) o)\/
   (len=0/\cap=some 0/\off<=n/\(v=.esl\/∃c,v=.sl b c 0 0 0/\c<=off*sz))
 | .mp id,v=>id<N/\∀b n,ρ id=some (b,n)->v=.map b
 | .fn f first captured,v=>∃a b,v=.fn f a b/\AJ F ρ N first a/\AJ F ρ N captured b
 | .yl id,v=>id<N/\∀b n,ρ id=some (b,n)->v=.yld b
def AJ(F:Fz)(ρ:BX)(N:Nat):List PV->List V->Prop
 |[],l=>l=[]
 |p::ps,l=>∃v vs,l=v::vs/\PR F ρ N p v/\AJ F ρ N ps vs
end
section
variable {F F':Fz}{ρ ρ':BX}{N N':Nat}
@[simp] theorem BM(l:List V):AJ F ρ N [] l↔l=[]:=by rfl
@[simp] theorem AG(p:PV)(ps:List PV)(v:V)(vs:List V):AJ F ρ N (p::ps) (v::vs)↔PR F ρ N p v/\AJ F ρ N ps vs:=by
 simp only[AJ];grind
theorem AJ.len:∀ {ps:List PV} {vs:List V},AJ F ρ N ps vs->ps.length=vs.length
 |[],vs,h=>by simp_all
 |p::ps,vs,h=>by
  obtain⟨v,vs,rfl,_,a⟩:=h;simp[a.len]
theorem AJ.append:∀ {a:List PV} {x:List V} {b:List PV} {y:List V},AJ F ρ N a x->AJ F ρ N b y->AJ F ρ N (a++b) (x++y)
 |[],x,b,y,h,h'=>by simp_all
 |p::ps,x,b,y,h,h'=>by
  obtain⟨v,vs,rfl,c,d⟩:=h;simp only[List.cons_append,AG];exact⟨c,d.append h'⟩
theorem AJ.drop:∀ {a:List PV} {x:List V} (n:Nat),AJ F ρ N a x->AJ F ρ N (a.drop n) (x.drop n)
 |[],x,n,h=>by simp_all
 |p::ps,x,0,h=>by grind
 |p::ps,x,n+1,h=>by
  obtain⟨v,vs,rfl,c,b⟩:=h;simpa using b.drop n
theorem AJ.take:∀ {a:List PV} {x:List V} (n:Nat),AJ F ρ N a x->AJ F ρ N (a.take n) (x.take n)
 |[],x,n,h=>by simp_all
 |p::ps,x,0,h=>by simp
 |p::ps,x,n+1,h=>by
  obtain⟨v,vs,rfl,b,c⟩:=h;simpa using⟨b,c.take n⟩
theorem AJ.get:∀ {a:List PV} {x:List V},AJ F ρ N a x->∀ {i:Nat} {p:PV},a[i]?=some p->∃v,x[i]?=some v/\PR F ρ N p v
 |[],x,h,i,p,b=>by grind
 |q::ps,x,h,i,p,b=>by
  obtain⟨v,vs,rfl,d,c⟩:=h;cases i with
  |zero=>grind
  |succ i=>simpa using c.get b
structure Le(F:Fz)(ρ:BX)(N:Nat)(F':Fz)(ρ':BX)(N':Nat):Prop where
 fz:∀b cs,F b=some cs->F' b=some cs
 rho:∀id,id<N->ρ' id=ρ id\/ρ' id=none
 n:N<=N'
theorem Le.refl:Le F ρ N F ρ N:=⟨fun _ _ h=>h,(by simp),Zg _⟩
theorem Le.trans{f:Fz}{d:BX}{g:Nat}(a:Le F ρ N F' ρ' N')(b:Le F' ρ' N' f d g):Le F ρ N f d g:=
 ⟨fun c cs h=>b.fz c cs<|a.fz c cs h,fun id h=>by
  rcases b.rho id (Zi h a.n)with e|e
  ·rw[e];exact a.rho id h
  grind,Nat.le_trans a.n b.n⟩
theorem Le.at(a:Le F ρ N F' ρ' N'){id:Nat}(h:id<N){x:Nat×Nat}(b:ρ' id=some x):ρ id=some x:=by
 rcases a.rho id h with e|e
 ·grind
 grind
mutual
theorem PR.mono(c:Le F ρ N F' ρ' N'):∀ {p:PV} {v:V},PR F ρ N p v->PR F' ρ' N' p v
 | .any,_,_=>by simp[PR]
 | .bl _,_,h=>by simpa only[PR]using h
 | .ub,_,h=>by simpa only[PR]using h
 | .dat s x,_,h=>by simp only[PR]at h ⊢;exact h.mono c.fz
 | .nil,_,h| .nilp,_,h| .nilm,_,h| .nilf,_,h| .nili,_,h=>by simpa only[PR]using h
 | .agg l,_,h=>by obtain⟨cs,rfl,e⟩:=h;exact⟨cs,rfl,e.mono c⟩
 | .tup l,_,h=>by obtain⟨cs,rfl,e⟩:=h;exact⟨cs,rfl,e.mono c⟩
 | .ptr _ _,_,h=>by exact⟨Zi h.1 c.n,fun b n d=>h.2 b n<|c.at h.1 d⟩
 | .eptr _ _ _ _,_,h=>by exact⟨Zi h.1 c.n,fun b n d=>h.2 b n<|c.at h.1 d⟩
 | .B4 s x off,_,h=>by
  obtain⟨b,o,cs,e,g,j,i⟩:=h;exact⟨b,o,cs,e,c.fz _ _ g,j,i.mono c.fz⟩
 | .sl _ _ _ _ _,_,h=>by exact⟨Zi h.1 c.n,fun b n d=>h.2 b n<|c.at h.1 d⟩
 | .mp _,_,h=>by exact⟨Zi h.1 c.n,fun b n d=>h.2 b n<|c.at h.1 d⟩
 | .fn f a b,_,h=>by
  obtain⟨x,y,rfl,e,g⟩:=h;exact⟨x,y,rfl,e.mono c,g.mono c⟩
 | .yl _,_,h=>by exact⟨Zi h.1 c.n,fun b n d=>h.2 b n<|c.at h.1 d⟩
theorem AJ.mono(a:Le F ρ N F' ρ' N'):∀ {ps:List PV} {vs:List V},AJ F ρ N ps vs->AJ F' ρ' N' ps vs
 |[],_,h=>by simp_all
 |p::ps,_,h=>by
  obtain⟨v,vs,rfl,b,c⟩:=h;exact⟨v,vs,rfl,b.mono a,c.mono a⟩
end
theorem PR.lz:∀ {p:PV} {v:V},PR F ρ N p v->PR F ρ N (lz p) v:=by
 intro p v h;unfold Pe.lz;split
 ·exact h.nl
 omega
theorem AJ.lz:∀ {ps:List PV} {vs:List V},AJ F ρ N ps vs->AJ F ρ N (ps.map Pe.lz) vs
 |[],_,h=>by grind
 |p::ps,_,h=>by
  obtain⟨v,vs,rfl,a,b⟩:=h;simp only[List.map_cons,AG];exact⟨a.lz,b.lz⟩
theorem Px{s:Sh}{p:PV}{v:V}(h:PR F ρ N p v)(b:(Lq s p).1=true):PR F ρ N (Lq s p).2 v:=by
 unfold Lq at b ⊢;split
 ·rename_i s a x;cases c:(s==a)with
  |false=>exact h
  |true=>
   have b:(bif s==a then(decide (0<List.length x),PV.dat a.nlist x)else(true,PV.dat a.list x)).1=true:=b;rw[c]at b;simp only[wc,w5]at b;exact h.YP b
 ·rename_i s a x;cases c:(s==a)with
  |false=>exact h
  |true=>exact h.nl
 omega
theorem J4:∀ {l:List Sh} {ps:List PV} {vs:List V},AJ F ρ N ps vs->(F5 l ps).1=true->AJ F ρ N (F5 l ps).2 vs
 |[],ps,vs,h,_=>h
 |s::l,[],vs,h,_=>h
 |s::l,p::ps,vs,h,a=>by
  obtain⟨v,vs,rfl,b,c⟩:=h;simp only[F5,Za]at a;simp only[F5,AG];exact⟨Px b a.1,J4 c a.2⟩
def BG(F:Fz)(s:Sh)(l:List s.T)(cs:List V):Prop:=cs.length=l.length*s.sz/\∀i (h:i<l.length),DC F s l[i]<|(cs.drop<|i*s.sz).take s.sz
theorem BG.mono(c:∀b cs,F b=some cs->F' b=some cs){s:Sh}{l:List s.T}{cs:List V}(h:BG F s l cs):BG F' s l cs:=⟨h.1,fun i a=>(h.2 i a).mono c⟩
theorem BG.ok{F:Fz}{s:Sh}{l:List s.T}{cs:List V}(h:BG F s l cs):∀v∈cs,v.ok=true:=by
 intro v b;obtain⟨k,c⟩:=List.mem_iff_getElem?.1 b;have a:=(List.getElem?_eq_some_iff.1 c).1;have f:0<s.sz:=by
  rcases Nat.eq_zero_or_pos s.sz with e|e
  ·rw[h.1,e,Nat.mul_zero]at a;omega
  omega
 have d:k/s.sz<l.length:=Nat.div_lt_of_lt_mul (by rw[Nat.mul_comm, <-h.1];exact a);refine(h.2 _ d).ok v ?_;refine List.mem_iff_getElem?.2 ⟨k % s.sz,?_⟩;grind [Nat.mod_lt,Nat.div_add_mod]
def DV(F:Fz)(s:Sh)(x:s.T)(v:V):Prop:=(s.Ho=true->∃cs,v=.agg cs/\DC F s x cs)/\(s.Ho=false->DC F s x [v])
theorem DV.mono(a:∀b cs,F b=some cs->F' b=some cs){s:Sh}{x:s.T}{v:V}(h:DV F s x v):DV F' s x v:=
 ⟨fun e=>by obtain⟨cs,c,d⟩:=h.1 e;exact⟨cs,c,d.mono a⟩,fun e=>(h.2 e).mono a⟩
inductive MR (F:Fz) (ks vs:Sh):List (ks.T×vs.T)->List (V×V×Nat)->Prop where
 |nil:MR F ks vs [] []
 |cons {k:ks.T} {v:vs.T} {l:List (ks.T×vs.T)} {a b:V} {n:Nat} {es:List (V×V×Nat)}:DV F ks k a->DV F vs v b->MR F ks vs l es->MR F ks vs ((k,v)::l) ((a,b,n)::es)
theorem MR.mono(a:∀b cs,F b=some cs->F' b=some cs){ks vs:Sh}{l:List (ks.T×vs.T)}{es:List (V×V×Nat)}(h:MR F ks vs l es):MR F' ks vs l es:=by
 induction h with
 |nil=>exact .nil
 |cons d e _ c=>exact .cons (d.mono a) (e.mono a) c
def I8(sl:List (Nat×PV))(t:Nat):PV:=((Cn sl).get t).getD .any
def YI:XM->LoopState->Option Code->Prop
 | .ready,st,a=>st=.ready/\a=none
 | .busy,st,_=>st=.busy
 | .ret,st,a=>st=.done/\a=some .ret
 | .exit i,st,a=>st=.done/\a=some (.exit i)
def Nf(F:Fz)(ρ:BX)(N n:Nat):Obj->O->Prop
 | .arr _ e s l,o=>∃cs fz,o=.cells cs e fz/\BG F s l cs/\fz.2<=fz.1/\l.length=n
 | .box ps,o=>∃cs t fz,o=.cells cs t fz/\AJ F ρ N ps cs/\fz.2<=fz.1/\∀v∈cs,v.ok=true
 | .tbox t ps,o=>∃cs fz,o=.cells cs t fz/\AJ F ρ N ps cs/\fz.2<=fz.1/\∀v∈cs,v.ok=true
 | .map ks vs l,o=>∃es a,o=.map es a/\MR F ks vs l es
 | .siter s pos,o=>o=.siter s pos
 | .lp _ _ ps asg body s n' sl,o=>∃ls,o=.loop ls/\ls.ps=ps/\ls.asg=asg/\ls.body=body/\YI s ls.st ls.pend/\ls.fr.n=n'/\∀t,PR F ρ N (I8 sl t)<|ls.fr.get t
theorem Nf.mono(d:Le F ρ N F' ρ' N'){n:Nat}{x:Obj}{o:O}(h:Nf F ρ N n x o):Nf F' ρ' N' n x o:=by
 cases x with
 |arr fz e s l=>obtain⟨cs,f,a,b,c⟩:=h;exact⟨cs,f,a,b.mono d.fz,c⟩
 |box ps=>obtain⟨cs,t,f,a,b,c⟩:=h;exact⟨cs,t,f,a,b.mono d,c⟩
 |tbox t ps=>obtain⟨cs,f,a,b,c⟩:=h;exact⟨cs,f,a,b.mono d,c⟩
 |map ks vs l=>obtain⟨es,g,a,b⟩:=h;exact⟨es,g,a,b.mono d.fz⟩
 |siter s pos=>exact h
 |lp f r ps asg body s n sl=>obtain⟨ls,a,b,c,i,m,j,k⟩:=h;exact⟨ls,a,b,c,i,m,j,fun t=>(k t).mono d⟩
def Obj.frozen:Obj->Bool
 | .arr fz _ _ _=>fz
 |_=>false
structure H0 where
 h:H
 F:Fz
 pin:List Nat
 ex:Nat->Prop:=fun _=>False
def H0.pins(h0:H0)(ps:List Nat):H0:={ h0 with pin:=ps++h0.pin }
def H0.OZ(h0:H0)(B b:Nat):Prop:=B<=b\/h0.ex b
theorem HB{h0:H0}{B b c:Nat}(h:h0.OZ B b)(a:c<B)(he:¬h0.ex c):c≠b:=by
 rcases h with h|h
 ·omega
 grind
structure SR(B:Nat)(h0:H0)(F:Fz)(ρ:BX)(N:Nat)(ob:Ob)(h:H):Prop where
 obj:∀id o,Aj ob id=some o->∃b n x,ρ id=some (b,n)/\h.get b=some x/\Nf F ρ N n o x/\(o.frozen=false->F b=none)/\
  (o.frozen=true->∃cs t fz,x=.cells cs t fz/\F b=some cs)
 inj:∀id id' o o' b n n',Aj ob id=some o->Aj ob id'=some o'->ρ id=some (b,n)->ρ id'=some (b,n')->id=id'
 frz:∀b cs,F b=some cs->∃t fz,h.get b=some (.cells cs t fz)
 own:∀id b n,ρ id=some (b,n)->id<N/\h0.OZ B b
 dead:∀id,Aj ob id=none->ρ id=none
 old:∀b,b<B->¬h0.ex b->h.get b=h0.h.get b
 lt:∀b o,h.get b=some o->b<h.nx
 le:B<=h.nx
 fo:∀b cs,F b=some cs->h0.F b=some cs\/h0.OZ B b
 gl:∀x∈BW,x.1<B/\¬h0.ex x.1/\h0.h.get x.1=some x.2
 pn:∀b∈h0.pin,h.get b=some (.defd true)/\B<=b/\∀id n,ρ id≠some (b,n)
structure FP(F:Fz)(ρ:BX)(N:Nat)(st:Ag)(fr:Fr):Prop where
 n:st.n=fr.n
 slot:∀t,PR F ρ N (st.get t) (fr.get t)
theorem FP.mono(a:Le F ρ N F' ρ' N'){st:Ag}{fr:Fr}(h:FP F ρ N st fr):FP F' ρ' N' st fr:=⟨h.n,fun t=>(h.slot t).mono a⟩
end
section
variable {B:Nat}{h0:H0}{F:Fz}{ρ:BX}{N:Nat}
mutual
theorem Of:∀ {v:Value} {p:PV},Hp v=some p->∃x,cv v=some x/\PR F ρ N p x
 | .bool b,p,h=>by simp[Hp]at h;subst h;exact⟨_,rfl,by simp[PR]⟩
 | .int k n,p,h=>by simp[Hp]at h;subst h;exact⟨_,rfl,by rfl⟩
 | .string s,p,h=>by simp[Hp]at h;subst h;exact⟨_,rfl,by rfl⟩
 | .pointer none,p,h=>by simp[Hp]at h;subst h;exact⟨_,rfl,by simp[PR]⟩
 | .pointer (some a),p,h=>by simp[Hp]at h
 | .slice none 0 0,p,h=>by simp[Hp]at h;subst h;exact⟨_,rfl,by simp[PR]⟩
 | .slice none 0 (_+1),p,h=>by simp[Hp]at h
 | .slice none (_+1) _,p,h=>by simp[Hp]at h
 | .slice (some a) _ _,p,h=>by simp[Hp]at h
 | .map none,p,h=>by simp[Hp]at h;subst h;exact⟨_,rfl,by simp[PR]⟩
 | .map (some a),p,h=>by simp[Hp]at h
 | .nilFunc,p,h=>by simp[Hp]at h;subst h;exact⟨_,rfl,by simp[PR]⟩
 | .nilIface,p,h=>by simp[Hp]at h;subst h;exact⟨_,rfl,by simp[PR]⟩
 | .func f ⟨[]⟩ ⟨[]⟩,p,h=>by simp[Hp]at h;subst h;exact⟨_,rfl,by simp[PR]⟩
 | .func f ⟨_::_⟩ _,p,h=>by simp[Hp]at h
 | .func f ⟨[]⟩ ⟨_::_⟩,p,h=>by simp[Hp]at h
 | .agg ⟨cs⟩,p,h=>by
  simp only[Hp,Zd]at h;obtain⟨d,c,rfl⟩:=h;obtain⟨ys,h2,h3⟩:=ID c;simp_all [cv,PR]
 | .tuple ⟨cs⟩,p,h=>by
  simp only[Hp,Zd]at h;obtain⟨d,c,rfl⟩:=h;obtain⟨ys,h2,h3⟩:=ID c;simp_all [cv,PR]
 | .float _ _,p,h=>by simp[Hp]at h
 | .complex _ _ _,p,h=>by simp[Hp]at h
 | .chan _,p,h=>by simp[Hp]at h
 | .iface _ _,p,h=>by simp[Hp]at h
theorem ID:∀ {vs:List Value} {ps:List PV},P5 vs=some ps->∃a,U0 vs=some a/\AJ F ρ N ps a
 |[],ps,h=>by simp[P5]at h;subst h;exact⟨[],rfl,by simp⟩
 |v::vs,ps,h=>by
  unfold P5 at h;split at h
  case h_2=>cases h
  rename_i x a b c;cases h;obtain⟨y,d,e⟩:=Of b;obtain⟨ys,g3,g4⟩:=ID c;simp_all [U0]
end
theorem Uz(v:V):PR F ρ N (NH v) v:=by
 cases v<;>simp[NH,PR,DC]
theorem B6:∀vs:List V,AJ F ρ N (vs.map NH) vs
 |[]=>by simp
 |v::vs=>by simp only[List.map_cons,AG];exact⟨Uz v,B6 vs⟩
variable {C:Ctx}{st st':Ag}{fr:Fr}{h:H}
theorem AQ(b:FP F ρ N st fr){x:Operand}{p:PV}(a:Jj st x=some p):∃v,ev C fr x=some v/\PR F ρ N p v:=by
 cases x with
 |tmp t=>simp only[Jj,Zf]at a;subst a;exact⟨_,rfl,b.slot t⟩
 |const v=>exact Of a
 |global g=>simp[Jj]at a
 |func f=>simp only[Jj,Zf]at a;subst a;exact⟨_,rfl,by simp[PR]⟩
theorem Cx(c:FP F ρ N st fr):∀ {b:List Operand} {ps:List PV},Gy st b=some ps->∃vs,LO C fr b=some vs/\AJ F ρ N ps vs
 |[],ps,a=>by simp[Gy]at a;subst a;exact⟨[],rfl,by simp⟩
 |x::b,ps,a=>by
  unfold Gy at a;split at a
  case h_2=>cases a
  rename_i v vs d e;cases a;obtain⟨y,f,g⟩:=AQ (C:=C) c d;obtain⟨ys,g3,g4⟩:=Cx c e;simp_all [LO]
inductive Vb (F:Fz) (ρ:BX) (N:Nat):List (Nat×PV)->List (Nat×V)->Prop
 |nil:Vb F ρ N [] []
 |cons {i:Nat} {p:PV} {v:V} {l:List (Nat×PV)} {l':List (Nat×V)}:PR F ρ N p v->Vb F ρ N l l'->Vb F ρ N ((i,p)::l) ((i,v)::l')
theorem Ja(c:FP F ρ N st fr):∀ {b:List (Nat×Operand)} {ps:List (Nat×PV)},Pu st b=some ps->∃vs,Nu C fr b=some vs/\Vb F ρ N ps vs
 |[],ps,a=>by simp[Pu]at a;subst a;exact⟨[],rfl,.nil⟩
 |(i,x)::b,ps,a=>by
  unfold Pu at a;split at a
  case h_2=>cases a
  rename_i v vs e g;cases a;obtain⟨y,d,f⟩:=AQ (C:=C) c e;obtain⟨ys,g3,g4⟩:=Ja c g;exact⟨(i,y)::ys,by simp[Nu,d,g3],.cons f g4⟩
structure Rel(B:Nat)(h0:H0)(F:Fz)(ρ:BX)(st:Ag)(fr:Fr)(h:H):Prop where
 fp:FP F ρ st.nx st fr
 sr:SR B h0 F ρ st.nx st.ob h
inductive PO.To:PO->PV->Ag->Prop
 |val {v:PV} {st:Ag}:PO.To (.val v st) v st
 |tt {a b:PO} {v:PV} {st:Ag}:PO.To a v st->PO.To (.ite true a b) v st
 |ff {a b:PO} {v:PV} {st:Ag}:PO.To b v st->PO.To (.ite false a b) v st
@[simp] theorem GD{v:PV}{s:Ag}:¬PO.To .bad v s:=by intro h;cases h
@[simp] theorem AU{v u:PV}{s t:Ag}:PO.To (.val v s) u t↔v=u/\s=t:=by
 constructor
 ·intro h;cases h;simp
 ·rintro⟨rfl,rfl⟩;exact .val
@[simp] theorem AT{c:Bool}{v u:PV}{s t:Ag}:PO.To (.EF c v s) u t↔c=true/\v=u/\s=t:=by
 constructor
 ·intro h;cases h with
  |tt h=>simp_all
  |ff h=>cases h
 ·rintro⟨rfl,rfl,rfl⟩;exact .tt .val
@[simp] theorem JK{o:Option PV}{u:PV}{s t:Ag}:PO.To (ov s o) u t↔o=some u/\s=t:=by
 cases o with
 |none=>simp[ov]
 |some v=>simp only[ov,AU,Zf]
@[simp] theorem MZ{c:Bool}{o:Option PV}{u:PV}{s t:Ag}:PO.To (Wo c s o) u t↔c=true/\o=some u/\s=t:=by
 cases o with
 |none=>simp[Wo]
 |some v=>simp only[Wo,AT,Zf]
def OK(B:Nat)(h0:H0)(F:Fz)(ρ:BX)(st:Ag)(h:H)(a:List Nat)(d:Option OR)(v:PV)(st':Ag):Prop:=
 ∃v' h' F' ρ',(d=some (.val v' h')\/(d=some (.skip h')/\v'=.tup []))/\PR F' ρ' st'.nx v v'/\SR B h0 F' ρ' st'.nx st'.ob h'/\Le F ρ st.nx F' ρ' st'.nx/\
  st'.fr=st.fr/\st'.n=st.n/\h.nx<=h'.nx/\∀b,b<h.nx->h'.get b=h.get b\/∃id∈a,∃n,ρ id=some (b,n)
theorem OK.pure{a:List Nat}(c:SR B h0 F ρ st.nx st.ob h){d:Option OR}{v:PV}{v':V}(e:d=some (.val v' h))(b:PR F ρ st.nx v v'):OK B h0 F ρ st h a d v st:=
 ⟨v',h,F,ρ,.inl e,b,c,Le.refl,rfl,rfl,Zg _,(by simp)⟩
theorem GP{α:Type}(n:Nat)(l:List α):Det.Fl n l=l.drop n:=Iq n l
theorem rd_some{h:H}{b off n:Nat}{cs:List V}{t:TypeId}{fz:Nat×Nat}(d:h.get b=some (.cells cs t fz))(a:off+n<=cs.length)(c:∀v∈(cs.drop off).take n,v.ok=true):rd h b off n=some ((cs.drop off).take n):=by
 simp_all [Oq,Wh]
theorem IX{d:TypeDesc}{n:Nat}{ps:List PV}{cs:List V}(e:AJ F ρ N ps cs){p:PV}(a:pick d n ps=some p):
  (B8 d=true/\0<n/\n<=cs.length/\PR F ρ N p (.agg<|cs.take n))\/(B8 d=false/\∃v vs,cs=v::vs/\PR F ρ N p v):=by
 unfold pick at a;cases f:B8 d with
 |true=>
  left;simp only[f,wc]at a;rw[BK,I1]at a;cases b:(Zt n ps.length&&Zq 0 n)with
  |false=>grind
  |true=>
   rw[b]at a;simp only[wc,Zf]at a;subst a;simp only[Za]at b;obtain⟨b,c⟩:=b;refine⟨rfl,Zx c,by rw[<-e.len];simp_all,?_⟩;exact⟨_,rfl,e.take n⟩
 |false=>
  simp only[f,wd]at a;cases ps with
  |nil=>cases a
  |cons q g=>
   simp only[AJ]at e;grind
theorem Bf:∀ {s:Sh} {x:s.T} {cs:List V},DC F s x cs->AJ F ρ N (flat s x) cs
 | .pair a b,(x,y),cs,h=>by
  obtain⟨c,d,rfl,f,e⟩:=h;exact(Bf f).append<|Bf e
 | .unit,_,cs,h=>by simp_all [DC,flat]
 | .int k,x,cs,h=>by simp_all [DC,flat,PR]
 | .bool,x,cs,h=>by simp_all [DC,flat,PR]
 | .str,x,cs,h=>by simp_all [DC,flat,PR]
 | .list s,x,cs,h=>by
  have h':=h;obtain⟨v,rfl,_⟩:=h;simp_all [flat,PR]
 | .fnv,x,cs,h=>by subst h;simp only[flat,AG,BM,va];cases (x:Option Fn)<;>simp[PR]
 | .ptr s,x,cs,h=>by
  obtain⟨b,o,i,rfl,e,j,g⟩:=h;simp only[flat,AG,BM,va,PR];grind
 | .nlist s,x,cs,h=>by
  have h':=h;obtain⟨v,rfl,_⟩:=h;simp_all [flat,PR]
theorem CW{α:Type}(l:List α)(a b:Nat):l.drop (a+b)=(l.drop a).drop b:=by simp
theorem DK{T:AP}{t:TypeId}{d:TypeDesc}{i:TI}(o:T.und t=some d)(g:T.inf t=some i){b off:Nat}{cs:List V}{w:TypeId}{fz:Nat×Nat}(f:h.get b=some (.cells cs w fz))
  {m:Nat} (n:∀v∈(cs.drop off).take m,v.ok=true) {ps:List PV} (q:AJ F ρ N ps ((cs.drop off).take m)) {p:PV} (c:pick d i.size ps=some p):∃v,Ct T h t (.ptr b off)=some v/\PR F ρ N p v:=by
 unfold Ct;simp only[o,g];have e:((cs.drop off).take m).length<=cs.length-off:=ae
 rcases IX q c with⟨j,_,z,u⟩|⟨j,v,vs,s,u⟩
 ·rw[rd_some f a8 ae];grind
 ·have l:off+1<=cs.length:=by
   grind
  have r:(cs.drop off).take 1=[v]:=by
   have:m≠0:=ae
   obtain⟨k,rfl⟩:=Nat.exists_eq_succ_of_ne_zero this;cases y:cs.drop off with
   |nil=>grind
   |cons a x=>grind
  rw[rd_some f l ae,r];grind
end
section
variable {B:Nat}{h0:H0}{F:Fz}{ρ:BX}{N:Nat}{C:Ctx}{st st':Ag}{fr:Fr}{h:H}
theorem SR.at(c:SR B h0 F ρ N st.ob h){id:Nat}{o:Obj}(a:st.obj id=some o):∃b n x,ρ id=some (b,n)/\h.get b=some x/\Nf F ρ N n o x/\(o.frozen=false->F b=none)/\
  (o.frozen=true->∃cs t fz,x=.cells cs t fz/\F b=some cs):=c.obj id o a
theorem I7{s:Sh}{l:List s.T}{cs:List V}(c:BG F s l cs)(b:s.sz=1):∀(n j:Nat),j+n=l.length->AJ F ρ N (IA s l j n) (cs.drop j)
 |0,j,f=>by
  have:cs.length=l.length:=by rw[c.1,b,ZL]
  simp_all [IA]
 |n+1,j,f=>by
  have a:j<l.length:=a8
  have d:=c.2 j a;rw[b,ZL]at d;have e:cs.drop j=(cs.drop j).take 1++cs.drop (j+1):=by
   grind [List.take_append_drop,ZM]
  unfold IA;rw[e,show l.getD j s.D9=l[j]from by grind];exact(Bf d).append (I7 c b n (j+1) a8)
theorem RQ(k:SR B h0 F ρ st.nx st.ob h){t:TypeId}{p:PV}{a:V}(z:PR F ρ st.nx p a){v:PV}(f:(Hg C.T st t p).To v st'):
  OK B h0 F ρ st h [] (AE h<|Ct C.T h t a) v st':=by
 unfold Hg at f;split at f
 case h_2=>simp at f
 rename_i d i D G;split at f
 case h_4=>simp at f
 case h_1=>
  rename_i id off;split at f
  case h_4=>simp at f
  case h_3=>
   rename_i tb ps w;simp only[JK]at f;obtain⟨c,rfl⟩:=f;obtain⟨b,n,x,h1,h2,⟨cs,fz,rfl,h4,_,hbok⟩,_⟩:=k.at w;obtain rfl:=z.2 b n h1;rw[GP]at c;obtain⟨v',r,q⟩:=DK (h:=h) D G h2 (m:=cs.length) ae (by rw[Zk<|by simp];exact h4.drop off) c;exact OK.pure k (by rw[r];rfl) q
  case h_2=>
   rename_i J e s l w;cases g:(Zc off 0&&Zc s.sz 1)with
   |false=>simp_all
   |true=>
    rw[g]at f;simp only[wc,MZ,w5]at f;obtain⟨I,c,rfl⟩:=f;rw[Za]at g;have h0:=Zb g.1;have K:=Zb g.2;subst h0;obtain⟨b,n,x,h1,h2,⟨cs,fz,rfl,h4,_⟩,_⟩:=k.at w;obtain rfl:=z.2 b n h1;have A:=I7 (ρ:=ρ) (N:=st.nx) h4 K i.size 0 a8;obtain⟨v',r,q⟩:=DK (h:=h) D G h2 (m:=cs.length) (fun u y=>h4.ok u ae) (by rw[Zk<|by simp];exact A) c;exact OK.pure k (by rw[r];rfl) q
  rename_i ps w;simp only[JK]at f;obtain⟨c,rfl⟩:=f;obtain⟨b,n,x,h1,h2,⟨cs,te,fz,rfl,h4,_,hbok⟩,_⟩:=k.at w;obtain rfl:=z.2 b n h1;rw[GP]at c;obtain⟨v',r,q⟩:=DK (h:=h) D G h2 (m:=cs.length) ae (by rw[Zk<|by simp];exact h4.drop off) c;exact OK.pure k (by rw[r];rfl) q
 case h_2=>
  rename_i id sz j off;split at f
  case h_2=>simp at f
  rename_i J e s l w;cases g:Zc sz s.sz with
  |false=>simp_all
  |true=>
   rw[g]at f;simp only[wc,MZ,w5]at f;obtain⟨I,c,rfl⟩:=f;have g:=Zb g;subst g;obtain⟨b,n,x,h1,h2,⟨cs,fz,rfl,h4,_⟩,_⟩:=k.at w;obtain rfl:=z.2 b n h1;have E:=h4.2 j I;rw[show l.getD j s.D9=l[j]from by simp[I],GP]at c;have A:AJ F ρ st.nx ((flat s l[j]).drop off) ((cs.drop<|j*s.sz+off).take<|s.sz-off):=by
    have:=(Bf (F:=F) (ρ:=ρ) (N:=st.nx) E).drop off;rw[CW, <-Zp]at*;omega
   obtain⟨v',r,q⟩:=DK (h:=h) D G h2 (fun u y=>E.ok u<|List.mem_of_mem_drop (i:=off)<|by rw[CW, <-Zp]at y;exact y) A c;exact OK.pure k (by rw[r];rfl) q
 case h_3=>
  rename_i s x off;simp only[JK]at f;obtain⟨c,rfl⟩:=f;obtain⟨b,o,cs,rfl,h1,h2,h3⟩:=z;obtain⟨te,fz,h4⟩:=k.frz b cs h1;rw[GP]at c;have A:AJ F ρ st.nx ((flat s x).drop off) ((cs.drop<|o+off).take<|s.sz-off):=by
   have:=(Bf (F:=F) (ρ:=ρ) (N:=st.nx) h3).drop off;rw[CW, <-Zp]at*;omega
  obtain⟨v',r,q⟩:=DK (h:=h) D G h4 (fun u y=>h3.ok u<|List.mem_of_mem_drop (i:=off)<|by rw[CW, <-Zp]at y;exact y) A c;exact OK.pure k (by rw[r];rfl) q
theorem DC.LV:∀ {s:Sh} {x:s.T} {cs:List V},DC F s x cs->∀v∈cs,v.one=true
 | .int _,_,_,h=>by grind [DC,V.one]
 | .bool,_,_,h=>by grind [DC,V.one]
 | .str,_,_,h=>by grind [DC,V.one]
 | .list s,l,_,h=>by
  obtain⟨u,rfl,h⟩:=h;intro v e;rw[Zl.1 e];rcases h with⟨_,rfl|rfl|rfl⟩|⟨b,off,cap,o,f,rfl,_⟩<;>rfl
 | .pair a b,x,_,h=>by
  obtain⟨c,d,rfl,g,i⟩:=h;intro v e;rcases List.mem_append.1 e with e|e
  ·exact g.LV v e
  ·exact i.LV v e
 | .unit,_,_,h=>by grind [DC]
 | .fnv,x,_,h=>by subst h;intro v e;rw[Zl.1 e];cases (x:Option Fn)<;>rfl
 | .ptr _,x,_,h=>by obtain⟨b,o,f,rfl,_⟩:=h;intro v e;rw[Zl.1 e];rfl
 | .nlist s,l,_,h=>by
  obtain⟨u,rfl,h⟩:=h;intro v e;rw[Zl.1 e];rcases h with⟨_,rfl⟩|⟨_,b,off,cap,o,f,rfl,_⟩<;>rfl
theorem Em{o:Option Obj}(h:Ei o=true):∃x,o=some x:=by cases o with|none=>cases h|some x=>simp
theorem JI(g:SR B h0 F ρ st.nx st.ob h){p:PV}{v:V}(e:Gd st p=true)(c:PR F ρ st.nx p v):v.one=true:=by
 have key:∀ {id:Nat},Ei (st.obj id)=true->∃b n,ρ id=some (b,n):=by
  intro id i;obtain⟨o,f⟩:=Em i;obtain⟨b,n,_,d,_⟩:=g.at f;grind
 cases p<;>simp only[Gd]at e<;>simp only[PR]at c<;>try (cases e;done)
 case bl=>subst c;rfl
 case dat=>exact c.LV v (by simp)
 case nil|nilp|nilm|nilf|nili=>subst c;rfl
 case ptr=>obtain⟨b,n,d⟩:=key e;rw[c.2 b n d];rfl
 case eptr=>obtain⟨b,n,d⟩:=key e;rw[c.2 b n d];rfl
 case B4=>obtain⟨b,o,cs,rfl,_⟩:=c;rfl
 case sl=>
  obtain⟨b,n,d⟩:=key e;rcases c.2 b n d with⟨_,_,o,_,rfl⟩|⟨_,_,_,rfl|⟨_,rfl,_⟩⟩<;>rfl
 case mp|yl=>obtain⟨b,n,d⟩:=key e;rw[c.2 b n d];rfl
 case fn=>obtain⟨a,b,rfl,_⟩:=c;rfl
theorem PS{v:V}(h:v.one=true):v.cells=[v]:=by cases v<;>first|rfl|cases h
theorem Hx(d:SR B h0 F ρ st.nx st.ob h){p:PV}{v:V}{ps:List PV}(c:PR F ρ st.nx p v)(a:Wj st p=some ps):AJ F ρ st.nx ps v.cells:=by
 unfold Wj at a;split at a
 ·cases a;obtain⟨cs,rfl,b⟩:=c;exact b
 grind [PS,JI,AJ]
theorem FG(b:SR B h0 F ρ st.nx st.ob h):∀ {ps:List PV} {vs:List V},ps.all (Gd st)=true->AJ F ρ st.nx ps vs->vs.all V.one=true
 |[],vs,_,h=>by simp_all
 |p::ps,vs,a,h=>by
  obtain⟨v,vs,rfl,c,d⟩:=h;simp only[List.all_cons,Za]at a ⊢;exact⟨JI b a.1 c,FG b a.2 d⟩
theorem AJ.Fo:∀ {a:List PV} {x:List V} {b:List PV} {y:List V},AJ F ρ N a x->AJ F ρ N b y->AJ F ρ N (Fo a b) (Fo x y)
 |[],x,b,y,h,h'=>by subst h;exact h'
 |p::ps,x,b,y,h,h'=>by
  obtain⟨v,vs,rfl,c,f⟩:=h;cases b with
  |nil=>subst h';rfl
  |cons q d=>
   obtain⟨u,g,rfl,i,e⟩:=h';show AJ F ρ N (p::Det.Fo ps d) (v::Det.Fo vs g);simp only[AG];exact⟨c,f.Fo e⟩
theorem AJ.A1{a:List PV}{x:List V}(c:AJ F ρ N a x):∀(n:Nat) {b:List PV} {y:List V},AJ F ρ N b y->AJ F ρ N (A1 n a b) (A1 n x y)
 |0,b,y,h=>c.Fo h
 |n+1,[],y,h=>by subst h;rfl
 |n+1,q::f,y,h=>by
  obtain⟨u,e,rfl,d,g⟩:=h;show AJ F ρ N (q::ZO n a f) (u::ZO n x e);simp only[AG];exact⟨d,AJ.A1 c n g⟩
theorem Dv:∀(l:Ob) (i:Nat) (x:Obj) (j:Nat),(Aj l i).isSome=true->Aj (BT l i x) j=if j=i then some x else Aj l j
 |[],i,x,j,h=>by cases h
 |(a,o)::l,i,x,j,h=>by
  simp only[BT,Aj,Aw]at h ⊢;by_cases e:a=i
  ·subst e;simp only[decide_true,wc,Aj,Aw];grind
  ·simp only[e,decide_false,wd]at h ⊢;simp only[Aj,Aw];by_cases e2:a=j
   ·grind
   ·simp only[e2,decide_false,wd];exact Dv l i x j h
theorem Hm{b off:Nat}{vs cs:List V}{t:TypeId}{fz:Nat×Nat}(c:h.get b=some (.cells cs t fz))(e:off+vs.length<=cs.length)(d:fz.2<=fz.1)(a:vs.all V.one=true):
  wr h b off vs=some (h.put b<|.cells (A1 off vs cs) t fz):=by
 unfold wr;simp only[c,BK,CQ,a];simp_all [Zn,Det.clear]
theorem SR.set(a:SR B h0 F ρ st.nx st.ob h){id b n:Nat}{o o':Obj}{x x':O}(z:st.obj id=some o)(r:ρ id=some (b,n))(E:h.get b=some x)(R:o.frozen=false)(Q:o'.frozen=false)
  (P:Nf F ρ st.nx n o' x'):SR B h0 F ρ st.nx (BT st.ob id o') (h.put b x'):=by
 have s:Aj st.ob id=some o:=z;have u:F b=none:=by
  obtain⟨b',n',_,q,_,_,t,_⟩:=a.at z;grind
 have p:∀j,Aj (BT st.ob id o') j=if j=id then some o' else Aj st.ob j:=(by grind [Dv])
 refine⟨fun j oj d=>?_,fun i j oi oj c m I J d q t=>?_,fun c cs g=>?_,a.own,fun j d=>?_,fun c g he=>?_,fun c G g=>?_,a.le,a.fo,a.gl,fun c g=>?_⟩
 ·rw[p]at d;by_cases e:j=id
  ·subst e;simp only[wi,Zf]at d;subst d;exact⟨b,n,x',r,by simp,P,fun _=>u,ae⟩
  ·rw[wa e]at d;obtain⟨c,m,y,q,t,L,D,K⟩:=a.obj j oj d;have f:c≠b:=fun M=>e<|a.inj j id oj o c m n d s q<|M▸r
   exact⟨c,m,y,q,by simp_all,L,D,K⟩
 ·have l:∀k ok,Aj (BT st.ob id o') k=some ok->∃A,Aj st.ob k=some A:=by
   grind
  obtain⟨_,w⟩:=l i oi J;obtain⟨_,v⟩:=l j oj d;exact a.inj i j _ _ c m I w v q t
 ·have f:c≠b:=ae;rw[H.A8,wa f];exact a.frz c cs g
 ·rw[p]at d;by_cases e:j=id
  ·grind
  ·rw[wa e]at d;exact a.dead j d
 ·have f:c≠b:=HB (a.own id b n r).2 g he;rw[H.A8,wa f];exact a.old c g he
 ·rw[H.A8]at g;by_cases e:c=b
  ·subst e;exact a.lt _ _ E
  ·rw[wa e]at g;exact a.lt c G g
 ·obtain⟨w,v,S⟩:=a.pn c g;have f:c≠b:=ae;simp_all
def AA(ρ:BX)(i:Nat)(x:Option (Nat×Nat)):BX:=fun j=>if j=i then x else ρ j
theorem Le.E0(i:Nat):Le F ρ N F (AA ρ i none) N:=⟨fun _ _ h=>h,(by grind [AA]),Zg _⟩
theorem Le.new(x:Nat×Nat):Le F ρ N F (AA ρ N<|some x) (N+1):=⟨fun _ _ h=>h,fun id h=>by unfold AA;grind,Nat.le_succ _⟩
theorem SR.push{ob:Ob}(a:SR B h0 F ρ N ob h){o:Obj}{x:O}{n:Nat}(W:o.frozen=false)(S:Nf F (AA ρ N<|some (h.nx,n)) (N+1) n o x):
  SR B h0 F (AA ρ N<|some (h.nx,n)) (N+1) ((N,o)::ob) (h.push x):=by
 have L:Le F ρ N F (AA ρ N<|some (h.nx,n)) (N+1):=Le.new _;have f:∀j,Aj ((N,o)::ob) j=if j=N then some o else Aj ob j:=by
  simp only[Aj,Aw];grind
 have v:∀b y,h.get b=some y->b≠h.nx:=fun b y l=>by have:=a.lt b y l;omega
 refine⟨fun j oj d=>?_,fun i j oi oj c m p w d q z=>?_,fun c cs g=>?_,fun id b m l=>?_,fun j d=>?_,fun c g he=>?_,fun c M g=>?_,?_,?_,a.gl,fun c g=>?_⟩
 ·rw[f]at d;by_cases e:j=N
  ·subst e;simp only[wi,Zf]at d;subst d;refine⟨h.nx,n,x,by simp[AA],by simp,S,fun _=>?_,ae⟩;cases g:F h.nx with
   |none=>rfl
   |some cs=>
    obtain⟨t,fz,E⟩:=a.frz _ _ g;grind
  ·rw[wa e]at d;obtain⟨c,m,y,q,z,R,D,P⟩:=a.obj j oj d;exact⟨c,m,y,by simp[AA,e,q],by simp_all,R.mono L,D,P⟩
 ·rw[f]at w d;have key:∀k ok m,(if k=N then some o else Aj ob k)=some ok->AA ρ N (some (h.nx,n)) k=some (c,m)->(k=N/\c=h.nx)\/(k≠N/\Aj ob k=some ok/\ρ k=some (c,m)/\c≠h.nx):=by
   intro k ok m A r;by_cases e:k=N
   ·simp_all [AA]
   ·rw[wa e]at A;simp only[AA,e,vb]at r;obtain⟨T,p,y,K,u,_⟩:=a.obj k ok A;grind
  rcases key i oi m w q with⟨J,e2⟩|⟨J,e2,Q,U⟩<;>rcases key j oj p d z with⟨I,s⟩|⟨I,s,G,V⟩
  ·omega
  ·omega
  ·omega
  ·exact a.inj i j oi oj c m p e2 s Q G
 ·obtain⟨t,fz,E⟩:=a.frz c cs g;simp_all
 ·unfold AA at l;split at l
  ·cases l;exact⟨a8,.inl a.le⟩
  ·have:=a.own id b m l;grind
 ·rw[f]at d;by_cases e:j=N
  ·grind
  ·rw[wa e]at d;simp[AA,e,a.dead j d]
 ·have:=a.le;rw[H.A6,wa a8];exact a.old c g he
 ·rw[H.A6]at g;by_cases e:c=h.nx
  ·simp_all
  ·rw[wa e]at g;have:=a.lt c M g;show c<h.nx+1;omega
 ·have:=a.le;show B<=h.nx+1;omega
 ·exact a.fo
 ·obtain⟨K,u,X⟩:=a.pn c g;refine⟨by simp_all,u,fun id m e=>?_⟩;unfold AA at e;grind
theorem Bv:∀(l:Ob) (i j:Nat),Aj (Df l i) j=if j=i then none else Aj l j
 |[],i,j=>by simp[Df,Aj]
 |(a,o)::l,i,j=>by
  simp only[Df,Aw];by_cases e:a=i
  ·subst e;simp only[decide_true,wc];rw[Bv l a j];simp only[Aj,Aw];grind
  ·simp only[e,decide_false,wd,Aj,Aw];rw[Bv l i j];grind
theorem SR.del{ob:Ob}(d:SR B h0 F ρ N ob h)(id:Nat):SR B h0 F (AA ρ id none) N (Df ob id) h:=by
 have p:Le F ρ N F (AA ρ id none) N:=Le.E0 id;refine⟨fun j oj a=>?_,fun i j oi oj c m s f a g k=>?_,d.frz,fun j b m l=>?_,fun j a=>?_,d.old,d.lt,d.le,d.fo,d.gl,fun c r=>?_⟩
 ·rw[Bv]at a;split at a
  ·cases a
  ·rename_i e;obtain⟨c,m,y,g,k,q,n⟩:=d.obj j oj a;exact⟨c,m,y,by simp[AA,e,g],k,q.mono p,n⟩
 ·rw[Bv]at f a;split at f
  ·cases f
  split at a
  ·cases a
  rename_i o e2;simp only[AA,o,e2,vb]at g k;exact d.inj i j oi oj c m s f a g k
 ·unfold AA at l;split at l
  ·cases l
  ·exact d.own j b m l
 ·rw[Bv]at a;unfold AA;split
  ·rfl
  ·rename_i e;rw[wa e]at a;exact d.dead j a
 ·obtain⟨u,t,v⟩:=d.pn c r;grind [AA]
theorem SR.kill{ob:Ob}(a:SR B h0 F ρ N ob h){b:Nat}(r:∀id o n,Aj ob id=some o->ρ id≠some (b,n))(s:F b=none)(p:h0.OZ B b)(q:b∉h0.pin):SR B h0 F ρ N ob (h.kill b):=by
 refine⟨fun j oj l=>?_,a.inj,fun c cs d=>?_,a.own,a.dead,fun c d he=>?_,fun c k d=>?_,a.le,a.fo,a.gl,fun c d=>?_⟩
 ·obtain⟨c,m,y,e,i,f⟩:=a.obj j oj l;have:c≠b:=ae;exact⟨c,m,y,e,by simp_all,f⟩
 ·have:c≠b:=ae;rw[H.BI,wa this];exact a.frz c cs d
 ·have:c≠b:=HB p d he;rw[H.BI,wa this];exact a.old c d he
 ·rw[H.BI]at d;split at d
  ·cases d
  ·exact a.lt c k d
 ·obtain⟨e,i,f⟩:=a.pn c d;have g:c≠b:=ae;simp_all
theorem A4{s a:Sh}{x:s.T}{y:a.T}(h:Cc s a x=some y):∃e:s=a,e▸x=y:=by
 simp_all [Cc]
theorem Dl{s:Sh}{p:PV}{x:s.T}{v:V}(b:PR F ρ N p v)(a:TB s p=some x):DC F s x [v]:=by
 unfold TB at a;split at a
 ·unfold Yz at a;split at a
  ·obtain⟨rfl,rfl⟩:=A4 a;simp_all [PR,DC]
  grind
 ·obtain⟨rfl,rfl⟩:=A4 a;simpa only[PR]using b
 ·obtain⟨rfl,rfl⟩:=A4 a;grind [PR,DC]
 ·obtain⟨rfl,rfl⟩:=A4 a;simp_all [PR,DC]
 ·obtain⟨rfl,rfl⟩:=A4 a;grind [PR,DC]
 ·split at a
  ·grind [PR,DC]
  ·grind [PR,DC]
  grind
 grind
theorem DP:∀ {s:Sh} {ps:List PV} {vs:List V} {x:s.T} {e:List PV},AJ F ρ N ps vs->A2 s ps=some (x,e)->∃a b,vs=a++b/\DC F s x a/\AJ F ρ N e b
 | .pair s t,ps,vs,x,e,g,f=>by
  unfold A2 at f;split at f
  case h_2=>cases f
  rename_i y n i;split at f
  case h_2=>cases f
  rename_i z o j;cases f;obtain⟨a,b,rfl,q,m⟩:=DP g i;obtain⟨c,d,rfl,g3,g4⟩:=DP m j;exact⟨a++c,d,by simp,by simp only[DC];grind,g4⟩
 | .unit,ps,vs,x,e,g,f=>by
  cases f;exact⟨[],vs,rfl,by simp[DC],g⟩
 | .int k,[],vs,x,e,g,f=>by simp[A2]at f
 | .bool,[],vs,x,e,g,f=>by simp[A2]at f
 | .str,[],vs,x,e,g,f=>by simp[A2]at f
 | .list s,[],vs,x,e,g,f=>by simp[A2]at f
 | .nlist s,[],vs,x,e,g,f=>by simp[A2]at f
 | .fnv,[],vs,x,e,g,f=>by simp[A2]at f
 | .ptr _,[],vs,x,e,g,f=>by simp[A2]at f
 | .int k,p::ps,vs,x,e,g,f=>by
  obtain⟨v,vs,rfl,i,j⟩:=g;simp only[A2]at f;split at f
  ·rename_i y l;cases f;exact⟨[v],vs,rfl,Dl i l,j⟩
  grind
 | .bool,p::ps,vs,x,e,g,f=>by
  obtain⟨v,vs,rfl,i,j⟩:=g;simp only[A2]at f;split at f
  ·rename_i y l;cases f;exact⟨[v],vs,rfl,Dl i l,j⟩
  grind
 | .str,p::ps,vs,x,e,g,f=>by
  obtain⟨v,vs,rfl,i,j⟩:=g;simp only[A2]at f;split at f
  ·rename_i y l;cases f;exact⟨[v],vs,rfl,Dl i l,j⟩
  grind
 | .list s,p::ps,vs,x,e,g,f=>by
  obtain⟨v,vs,rfl,i,j⟩:=g;simp only[A2]at f;split at f
  ·rename_i y l;cases f;exact⟨[v],vs,rfl,Dl i l,j⟩
  grind
 | .fnv,p::ps,vs,x,e,g,f=>by
  obtain⟨v,vs,rfl,i,j⟩:=g;simp only[A2]at f;split at f
  ·rename_i y l;cases f;exact⟨[v],vs,rfl,Dl i l,j⟩
  grind
 | .ptr s,p::ps,vs,x,e,g,f=>by
  obtain⟨v,vs,rfl,i,j⟩:=g;simp only[A2]at f;split at f
  ·rename_i y l;cases f;exact⟨[v],vs,rfl,Dl i l,j⟩
  grind
 | .nlist s,p::ps,vs,x,e,g,f=>by
  obtain⟨v,vs,rfl,i,j⟩:=g;simp only[A2]at f;split at f
  ·rename_i y l;cases f;exact⟨[v],vs,rfl,Dl i l,j⟩
  grind
theorem Bj{s:Sh}{ps:List PV}{vs:List V}{x:s.T}(e:AJ F ρ N ps vs)(c:Bp s ps=some x):DC F s x vs:=by
 unfold Bp at c;split at c
 ·rename_i y d;obtain⟨a,b,rfl,f,g⟩:=DP e d;simp_all
 grind
theorem LG{v:V}:∀(vs cs:List V) (off:Nat),v∈DE cs off vs->v∈vs\/v∈cs
 |[],cs,off,h=>.inr h
 |u::vs,cs,off,h=>by
  rcases LG vs _ _ h with h|h
  ·grind
  grind
theorem Lv{v:V}{vs cs:List V}{off:Nat}(h:v∈ZO off vs cs):v∈vs\/v∈cs:=by
 grind [E1,LG]
theorem DJ{cs vs:List V}{off:Nat}(a:off+vs.length<=cs.length)(j:Nat):(A1 off vs cs)[j]?=if off<=j/\j<off+vs.length then vs[j-off]? else cs[j]?:=by
 grind [E1,H3]
theorem Qm{cs vs:List V}{off:Nat}:(A1 off vs cs).length=cs.length:=by
 grind [E1,EG]
theorem Wa{cs vs:List V}{m off k:Nat}(c:off+vs.length<=k)(b:m+k<=cs.length):((A1 (m+off) vs cs).drop m).take k=A1 off vs ((cs.drop m).take k):=by
 apply Zw;intro j;rw[DJ ae];by_cases a:j<k
 ·rw[Zs a,ZD,DJ a8];grind
 grind
theorem Tn{cs vs:List V}{m p k:Nat}(c:p+vs.length<=m\/m+k<=p)(b:p+vs.length<=cs.length):((A1 p vs cs).drop m).take k=(cs.drop m).take k:=by
 apply Zw;intro j;by_cases a:j<k
 ·rw[Zs a,Zs a,ZD,ZD,DJ b,wa a8]
 grind
theorem BG.set{s:Sh}{l:List s.T}{cs vs:List V}{j off:Nat}{y:s.T}(c:BG F s l cs)(f:j<l.length)(d:off+vs.length<=s.sz)(g:DC F s y (A1 off vs<|(cs.drop<|j*s.sz).take s.sz)):
  BG F s (l.set j y) (A1 (j*s.sz+off) vs cs):=by
 have m:j*s.sz+s.sz<=cs.length:=by
  rw[c.1, <-Zr];exact Ze _ f
 refine⟨by rw[Qm,List.length_set];exact c.1,fun i k=>?_⟩;have a:i<l.length:=ae
 by_cases e:i=j
 ·simp_all [Wa]
 ·rw[List.getElem_set_ne a8,Tn ?_ a8]
  ·exact c.2 i a
  ·rcases Nat.lt_or_gt_of_ne e with b|b
   ·have:(i+1)*s.sz<=j*s.sz:=Ze _ b;grind
   ·have:(j+1)*s.sz<=i*s.sz:=Ze _ b;grind
theorem ET{s:Sh}:∀ {n:Nat} {ps:List PV} {vs:List V} {l:List s.T},AJ F ρ N ps vs->chunk s n ps=some l->vs.length=n*s.sz->l.length=n/\BG F s l vs
 |0,ps,vs,l,d,c,m=>by
  cases c;simp_all [BG]
 |n+1,ps,vs,l,d,c,m=>by
  unfold chunk at c;split at c
  case h_2=>cases c
  rename_i x e k;rw[Zd]at c;obtain⟨l',f,rfl⟩:=c;obtain⟨a,b,rfl,h2,h3⟩:=DP d k;have p:=h2.len;have j:b.length=n*s.sz:=ae
  obtain⟨g,q⟩:=ET h3 f j;refine⟨by simp[g],by grind,fun i o=>?_⟩;cases i with
  |zero=>
   grind
  |succ i=>
   grind [Zr,CW,BG]
theorem Sv{cs a:List V}(h:a.length=cs.length):ZO 0 a cs=a:=by
 apply Zw;simp_all [DJ]
theorem S0(w:SR B h0 F ρ st.nx st.ob h){t:TypeId}{p q:PV}{a x:V}(G:PR F ρ st.nx p a)(X:PR F ρ st.nx q x){v:PV}(d:(Nn C.T st t p q).To v st'):
  ∃id,((∃off,p=.ptr id off)\/∃sz j off,p=.eptr id sz j off)/\OK B h0 F ρ st h [id] (Sd<|D4 C.T h t a x) v st':=by
 unfold Nn at d;split at d
 case h_2=>simp at d
 rename_i i K L W;cases Q:(Zc (Det.CL K) i.size&&Det.Gg (Gd st) K)with
 |false=>simp_all
 |true=>
  rw[Q]at d;simp only[Za]at Q;obtain⟨O,J⟩:=Q;rw[BK]at O;rw[CQ]at J;have g:=Hx w X W;have r:x.cells.length=i.size:=by rw[<-g.len];simp_all
  have o:=FG w J g;have A:Zc x.cells.length i.size=true:=by simp_all
  simp only[wc]at d;split at d
  case h_3=>simp at d
  case h_1=>
   rename_i id off;split at d
   case h_4=>simp_all
   case h_3=>
    rename_i tb ps u;cases k:Zt (Zz off i.size) (Det.CL ps)with
    |false=>simp_all
    |true=>
     rw[k]at d;simp only[wc,AU]at d;obtain⟨rfl,rfl⟩:=d;obtain⟨b,n,y,h1,h2,⟨cs,fz,rfl,h4,h5,hbok⟩,hf,_⟩:=w.at u;simp only[PR]at G;obtain rfl:=G.2 b n h1;rw[BK]at k;have m:off+x.cells.length<=cs.length:=by rw[<-h4.len,r];simp_all
     refine⟨id,(by simp),.tup [],_,F,ρ,.inr ⟨?_,rfl⟩,by simp[PR],w.set u h1 h2 rfl rfl (o':=.tbox tb<|ZO off K ps) ⟨_,fz,rfl,g.A1 off h4,h5,(by grind [Lv,V.G1])⟩,Le.refl,rfl,rfl,Zg _,fun c _=>?_⟩
     ·unfold D4;simp only[L,A,wc];rw[Hm h2 m h5 o];rfl
     ·rw[H.A8];grind
   case h_2=>
    rename_i e s l u;cases f:(Zc off 0&&Zc s.sz 1)with
    |false=>simp_all
    |true=>
     rw[f]at d;rw[Za]at f;have D:=Zb f.1;have P:=Zb f.2;subst D;simp only[wc]at d;split at d
     case h_2=>simp_all
     rename_i y M;simp only[AT,w5]at d;obtain⟨E,rfl,rfl⟩:=d;obtain⟨b,n,z,h1,h2,⟨cs,fz,rfl,h4,h5,h6⟩,hf,_⟩:=w.at u;obtain rfl:=G.2 b n h1;have Y:cs.length=x.cells.length:=by rw[h4.1,P,ZL,r];exact E
     obtain⟨k1,Z⟩:=ET g M ae;have m:0+x.cells.length<=cs.length:=a8
     refine⟨id,(by simp),.tup [],_,F,ρ,.inr ⟨?_,rfl⟩,by simp[PR],w.set u h1 h2 rfl rfl (o':=.arr false e s y) ⟨ZO 0 x.cells cs,fz,rfl,by grind [Sv],h5,by omega⟩,Le.refl,rfl,rfl,Zg _,fun c _=>?_⟩
     ·unfold D4;simp only[L,A,wc];rw[Hm h2 m h5 o];rfl
     ·rw[H.A8];grind
   rename_i ps u;cases k:Zt (Zz off i.size) (Det.CL ps)with
   |false=>simp_all
   |true=>
    rw[k]at d;obtain⟨rfl,rfl⟩:=d;obtain⟨b,n,y,h1,h2,⟨cs,te,fz,rfl,h4,h5,hbok⟩,hf,_⟩:=w.at u;obtain rfl:=G.2 b n h1;rw[BK]at k;have m:off+x.cells.length<=cs.length:=by rw[<-h4.len,r];simp_all
    refine⟨id,(by simp),.tup [],_,F,ρ,.inr ⟨?_,rfl⟩,by simp[PR],w.set u h1 h2 rfl rfl (o':=.box<|ZO off K ps) ⟨_,te,fz,rfl,g.A1 off h4,h5,(by grind [Lv,V.G1])⟩,Le.refl,rfl,rfl,Zg _,fun c _=>?_⟩
    ·unfold D4;simp only[L,A,wc];rw[Hm h2 m h5 o];rfl
    ·rw[H.A8];grind
  case h_2=>
   rename_i id sz j off;split at d
   case h_2=>simp at d
   rename_i e s l u;cases f:(Zc sz s.sz&&Zt (Zz off i.size) sz)with
   |false=>rw[f]at d;simp at d
   |true=>
    rw[f]at d;simp only[Za]at f;have R:=Zb f.1;have D:=Zx f.2;subst R;simp only[wc]at d;split at d
    case h_2=>simp at d
    rename_i y M;simp only[AT,w5]at d;obtain⟨E,rfl,rfl⟩:=d;obtain⟨b,n,z,h1,h2,⟨cs,fz,rfl,h4,h5,h6⟩,hf,_⟩:=w.at u;obtain rfl:=G.2 b n h1;rw[show l.getD j s.D9=l[j]from by simp[E]]at M;have U:=Bf (F:=F) (ρ:=ρ) (N:=st.nx)<|h4.2 j E;have S:=Bj (g.A1 off U) M;have I:=BG.set h4 E ae S;have m:j*s.sz+off+x.cells.length<=cs.length:=by
     have:j*s.sz+s.sz<=cs.length:=by rw[h4.1, <-Zr];exact Ze _ E
     grind
    refine⟨id,(by simp),.tup [],_,F,ρ,.inr ⟨?_,rfl⟩,by simp[PR],w.set u h1 h2 rfl rfl (o':=.arr false e s<|l.set j y) ⟨_,fz,rfl,I,h5,by grind⟩,Le.refl,rfl,rfl,Zg _,fun c _=>?_⟩
    ·unfold D4;simp only[L,A,wc];rw[Hm h2 m h5 o];rfl
    ·rw[H.A8];grind
theorem BA{k:IntKind}{n:Int}{v:V}(h:PR F ρ N (.dat (.int k) n) v):v=.int k n:=by simpa [PR,DC]using h
theorem CZ{s:Y}{v:V}(h:PR F ρ N (.dat .str s) v):v=.str s:=by simpa [PR,DC]using h
theorem Gb{b:Bool}{v:V}(h:PR F ρ N (.dat .bool b) v):v=.bool b:=by simpa [PR,DC]using h
theorem IY{b:Bool}{v:V}(h:PR F ρ N (.bl b) v):v=.bool b:=by simpa [PR]using h
theorem Bz(k:IntKind)(n:Int):PR F ρ N (.dat (.int k) n) (.int k n):=by rfl
theorem MT(s:Y):PR F ρ N (.dat .str s) (.str s):=by rfl
theorem BL(b:Bool):PR F ρ N (.dat .bool b) (.bool b):=by rfl
theorem So(b:Bool):PR F ρ N (.bl b) (.bool b):=by simp[PR]
theorem DZ{p:PV}{b:Bool}{v:V}(h:E3 p=some b)(a:PR F ρ N p v):v=.bool b:=by
 unfold E3 at h;grind [IY,Gb]
theorem W3(d:SR B h0 F ρ st.nx st.ob h){op:BinOp}{k:IntKind}{a b:Int}{v:PV}(c:(VK op k a b st).To v st'):OK B h0 F ρ st h [] (AE h<|H4 op k a b) v st':=by
 unfold VK at c;split at c<;>simp only[GD,AU,AT,w5,wk]at c
 all_goals first
  |(obtain⟨rfl,rfl⟩:=c;exact OK.pure d rfl (Bz _ _))
  |(obtain⟨rfl,rfl⟩:=c;exact OK.pure d rfl (BL _))
  |(obtain⟨e,rfl,rfl⟩:=c;simp_all [OK.pure,H4,AE,Bz])
theorem XJ(d:SR B h0 F ρ st.nx st.ob h){op:BinOp}{k:IntKind}{a b:Int}{v:PV}(c:(Yh op k a b st).To v st'):OK B h0 F ρ st h [] (AE h<|PU op k a b) v st':=by
 unfold Yh at c;split at c<;>simp only[GD,AT,w5]at c
 all_goals
  obtain⟨e,rfl,rfl⟩:=c;exact OK.pure d (by simp only[PU,Int.not_lt.2 e,vb,AE])<|Bz _ _
theorem Xp(b:SR B h0 F ρ st.nx st.ob h){op:BinOp}{x y:Y}{v:PV}(a:(Vv op x y st).To v st'):OK B h0 F ρ st h [] (AE h<|Mf op x y) v st':=by
 unfold Vv at a;split at a<;>simp only[GD,AU,AT,w5]at a
 all_goals first
  |(obtain⟨rfl,rfl⟩:=a;exact OK.pure b rfl (BL _))
  |(obtain⟨c,rfl,rfl⟩:=a;simp_all [OK.pure,Mf,AE,MT])
theorem JC:∀ {ks:List FK} {ps m:List PV} {e f:List V} {r:Bool},AJ F ρ N ps e->AJ F ρ N m f->DL ks ps m=some r->fit ks e=true/\fit ks f=true/\AK e f=some r
 |[],[],[],e,f,r,j,i,d=>by
  subst j i;simp only[DL,Zf]at d;subst d;exact⟨rfl,rfl,rfl⟩
 |[],_::_,_,e,f,r,j,i,d=>by simp[DL]at d
 |[],[],_::_,e,f,r,j,i,d=>by simp[DL]at d
 |k::ks,[],_,e,f,r,j,i,d=>by grind [DL]
 |k::ks,_::_,[],e,f,r,j,i,d=>by grind [DL]
 |k::ks,p::ps,q::m,e,f,r,j,i,d=>by
  obtain⟨x,e,rfl,g,o⟩:=j;obtain⟨y,f,rfl,hy1,hy2⟩:=i;have key:∀ {c:Bool},k.ok x=true->k.ok y=true->BZ x y=some c->(DL ks ps m).map (fun r=>c&&r)=some r->fit (k::ks) (x::e)=true/\fit (k::ks) (y::f)=true/\AK (x::e) (y::f)=some r:=by
   intro c D G O s;rw[Zd]at s;obtain⟨L,E,rfl⟩:=s;obtain⟨g1,g2,g3⟩:=JC o hy2 E;refine⟨by simp[fit,D,g1],by simp[fit,G,g2],?_⟩;have K:e.length=f.length:=by rw[<-K9 g1, <-K9 g2]
   cases c with
   |true=>simp_all [AK]
   |false=>simp_all [AK]
  unfold DL at d;split at d
  case h_1=>grind
  case h_2=>
   rename_i t I J a w u b v n e2 l;cases e2;cases l;cases M:(t==J&&t==u)with
   |false=>grind
   |true=>
    obtain rfl:=BA g;obtain rfl:=BA hy1;grind [FK.ok,BZ]
  case h_3=>
   rename_i n e2 l;cases n;cases e2;cases l;obtain rfl:=CZ g;obtain rfl:=CZ hy1;exact key rfl rfl (by rfl) d
  case h_4=>
   rename_i n e2 l;cases n;cases e2;cases l;split at d
   case h_2=>cases d
   rename_i a b z A;obtain rfl:=DZ z g;obtain rfl:=DZ A hy1;exact key rfl rfl rfl d
  grind
theorem OM(r:SR B h0 F ρ st.nx st.ob h){op:BinOp}{t e:TypeId}(m:C.T.und t=some (.slice e)){p:PV}{x:V}(d:PR F ρ st.nx p x){ng:Bool}{v:PV}(a:(KJ st ng p).To v st'):
  (∀(_:x=.nili),False)/\∃b,Az C.T t x .nils=some b/\PR F ρ st.nx v (.bool<|b !=ng)/\FH C.T op t x .nils=(match op with| .eql=>(Az C.T t x .nils).map fun b=>.bool b| .neq=>(Az C.T t x .nils).map fun b=>.bool !b|_=>none)/\st'=st:=by
 have f:∀ {x:V},x=.nils\/x=.esl\/x=.es0\/(∃b off len cap o,x=.sl b off len cap o)->FH C.T op t x .nils=(match op with| .eql=>(Az C.T t x .nils).map fun b=>.bool b| .neq=>(Az C.T t x .nils).map fun b=>.bool !b|_=>none):=by
  rintro x (rfl|rfl|rfl|⟨b,off,len,cap,o,rfl⟩)<;>cases op<;>rfl
 have no:∀ {x:V},x=.esl\/x=.es0\/(∃b off len cap o,x=.sl b off len cap o)->Az C.T t x .nils=some false:=by
  rintro x (rfl|rfl|⟨b,off,len,cap,o,rfl⟩)<;>simp[Az,m]
 have yes:Az C.T t .nils .nils=some true:=by simp[Az,m]
 unfold KJ at a;split at a
 case h_1=>
  simp only[AU]at a;obtain⟨rfl,rfl⟩:=a;simp only[PR]at d;subst d;exact⟨(by simp),true,yes,by simp[PR],f<|.inl rfl,rfl⟩
 case h_2=>
  rename_i id sz off len cap;cases i:Ei (st.obj id)with
  |false=>rw[i]at a;simp at a
  |true=>
   rw[i]at a;simp only[wc,AU]at a;obtain⟨rfl,rfl⟩:=a;obtain⟨o,ho⟩:=Em i;obtain⟨b,n,_,h1,_⟩:=r.at ho;simp only[PR]at d;have:x=.esl\/x=.es0\/(∃b off len cap o,x=.sl b off len cap o):=by
    grind
   exact⟨ae,false,no this,by simp[PR],f<|.inr this,rfl⟩
 case h_3=>
  rename_i s l;simp only[PR,DC]at d;obtain⟨u,g,d⟩:=d;obtain rfl:x=u:=ae
  have j:(decide (0<(l:List s.T).length)=true/\v=.bl ng/\st'=st)\/(v=.ub/\st'=st):=by
   generalize decide (0<(l:List s.T).length)=c at a;cases a with
   |tt a=>simp only[AU]at a;grind
   |ff a=>grind [AU]
  rcases j with⟨w,rfl,rfl⟩|⟨rfl,rfl⟩
  ·rcases d with⟨rfl,_⟩|⟨b,off,cap,o,k,rfl,_⟩
   ·grind
   ·exact⟨(by simp),false,ae,by simp[PR],ae,rfl⟩
  ·rcases d with⟨rfl,rfl|rfl|rfl⟩|⟨b,off,cap,o,k,rfl,_⟩
   ·exact⟨(by simp),true,yes,by simp[PR],f<|.inl rfl,rfl⟩
   ·exact⟨(by simp),false,no<|.inl rfl,by simp[PR],ae,rfl⟩
   ·exact⟨(by simp),false,ae,by simp[PR],ae,rfl⟩
   ·exact⟨(by simp),false,ae,by simp[PR],ae,rfl⟩
 case h_4=>
  rename_i s l;simp only[AU]at a;obtain⟨rfl,rfl⟩:=a;simp only[PR,DC]at d;obtain⟨u,g,d⟩:=d;obtain rfl:x=u:=ae
  rcases d with⟨rfl,rfl⟩|⟨h0,b,off,cap,o,k,rfl,_⟩
  ·exact⟨(by simp),true,yes,by cases ng<;>simp[PR,DC],f<|.inl rfl,rfl⟩
  ·have q:0<(l:List s.T).length:=ae;exact⟨(by simp),false,ae,by grind [PR,DC],ae,rfl⟩
 case h_5=>simp at a
theorem NN{o:Option Obj}(h:Ei o=true):∃x,o=some x:=by
 cases o with
 |none=>cases h
 |some x=>simp
theorem JJ(z:SR B h0 F ρ st.nx st.ob h){t e:TypeId}{p q:PV}{x y:V}(g:C.T.und t=some (.pointer e))(k:PR F ρ st.nx p x)(f:PR F ρ st.nx q y){r:Bool}(c:ptrEq C.T e st p q=some r):
  Az C.T t x y=some r/\x≠ .nili/\∀op,FH C.T op t x y=(match op with| .eql=>(Az C.T t x y).map .bool| .neq=>(Az C.T t x y).map fun b=>.bool !b|_=>none):=by
 have live:∀ {id off:Nat} {v:V},PR F ρ st.nx (.ptr id off) v->Ei (st.obj id)=true->∃b n,ρ id=some (b,n)/\v=.ptr b off:=by
  intro id off v D d;obtain⟨o,w⟩:=NN d;obtain⟨b,n,_,h1,_⟩:=z.at w;grind [PR]
 unfold ptrEq at c;split at c
 case h_5=>cases c
 case h_1=>
  cases c;subst k f;exact⟨by unfold Az;rw[g],(by simp),fun op=>by cases op<;>rfl⟩
 case h_2=>
  rename_i id off;cases d:Ei (st.obj id)with
  |false=>grind
  |true=>
   rw[d]at c;cases c;obtain⟨b,n,_,rfl⟩:=live k d;subst f;exact⟨by unfold Az;rw[g],(by simp),fun op=>by cases op<;>rfl⟩
 case h_3=>
  rename_i id off;cases d:Ei (st.obj id)with
  |false=>grind
  |true=>
   rw[d]at c;cases c;obtain⟨b,n,_,rfl⟩:=live f d;subst k;exact⟨by unfold Az;rw[g],(by simp),fun op=>by cases op<;>rfl⟩
 case h_4=>
  rename_i a i b j;cases d:(Zc a b&&Ei (st.obj a))with
  |false=>grind
  |true=>
   rw[d]at c;rw[Za]at d;have m:=Zb d.1;subst m;split at c
   case h_2=>cases c
   rename_i A l;cases s:Zq 0 A.size with
   |false=>grind
   |true=>
    rw[s]at c;cases c;rw[Nat.blt_eq]at s;obtain⟨b,n,u,rfl⟩:=live k d.2;obtain⟨b',n',g2,rfl⟩:=live f d.2;rw[u]at g2;cases g2;refine⟨?_,(by simp),fun op=>by cases op<;>rfl⟩;unfold Az;rw[g];simp only[wi,l];rw[wb a8];congr 1;rw[Aw,Bool.eq_iff_iff];simp
theorem XB(f:SR B h0 F ρ st.nx st.ob h){op:BinOp}{t:TypeId}{z A:Operand}{p q:PV}{x y:V}(j:PR F ρ st.nx p x)(i:PR F ρ st.nx q y){v:PV}(c:(VW C.T op t p q st).To v st'):
  OK B h0 F ρ st h [] (AE h<|Fx C.T op t z A x y) v st':=by
 have n:∀ {x y:V},(∀(e:x=.nili),False)->Fx C.T op t z A x y=FH C.T op t x y:=by
  simp_all [Fx,TM]
 unfold VW at c;split at c
 case h_1=>
  rename_i k a K b;obtain rfl:=BA j;obtain rfl:=BA i;rw[n<|by simp];cases g:Ta op with
  |true=>
   rw[g]at c;have:=XJ f c;unfold FH;grind [Ta]
  |false=>
   rw[g]at c;cases l:(k==K)with
   |false=>simp_all
   |true=>
    rw[l]at c;have:=W3 f c;have l:=wh.1 l;subst l;unfold FH;cases op<;>simp only[Ta]at g<;>first|(cases g;done)|(simp only[wi];exact this)
 case h_2=>
  obtain rfl:=CZ j;obtain rfl:=CZ i;grind [Xp,FH]
 case h_3=>
  rename_i ps E;obtain⟨u,rfl,j⟩:=j;obtain⟨ys,rfl,i⟩:=i;split at c
  case h_2=>simp at c
  rename_i ks I;have eq:∀ {r:Bool},DL ks ps E=some r->Az C.T t (.agg u) (.agg ys)=some r:=by
   intro r d;obtain⟨M,L,O⟩:=JC j i d;simp_all [H7,Az]
  split at c
  case h_1=>
   rename_i r d;obtain⟨rfl,rfl⟩:=c;exact OK.pure f (by show AE h ((Az C.T t (.agg u)<|.agg ys).map _)=_;rw[eq d];rfl)<|BL _
  case h_2=>
   rename_i r d;obtain⟨rfl,rfl⟩:=c;exact OK.pure f (by show AE h ((Az C.T t (.agg u)<|.agg ys).map _)=_;rw[eq d];rfl) (BL _)
  simp_all
 case h_4=>
  split at c
  case h_4=>simp at c
  case h_3=>
   split at c
   case h_3=>simp at c
   case h_1=>
    simp only[AU]at c;grind [JJ,OK.pure,AE,Fx,PR,FH]
   case h_2=>
    simp only[AU]at c;grind [JJ,OK.pure,AE,Fx,PR,FH]
  case h_2=>
   rename_i e _ _ m;unfold Re at c;split at c
   case h_3=>simp at c
   case h_1=>
    have g:=OM (op:=.eql) f m j c;obtain⟨o,b,s,J,w,e⟩:=g;subst e;subst i;rw[n o,w];exact OK.pure f (v':=.bool b) (by simp only[s];rfl) (by simp_all)
   case h_2=>
    have g:=OM (op:=.neq) f m j c;obtain⟨o,b,s,J,w,e⟩:=g;subst e;subst i;rw[n o,w];exact OK.pure f (v':=.bool<|!b) (by simp only[s];rfl) (by simp_all)
  rename_i a b D G m;obtain rfl:=DZ D j;obtain rfl:=DZ G i;have eq:Az C.T t (.bool a) (.bool b)=some (a==b):=by unfold Az;rw[m]
  split at c
  case h_1=>
   obtain⟨rfl,rfl⟩:=c;exact OK.pure f (by show AE h ((Az C.T t (.bool a)<|.bool b).map _)=_;rw[eq];rfl)<|BL _
  case h_2=>
   obtain⟨rfl,rfl⟩:=c;exact OK.pure f (by show AE h ((Az C.T t (.bool a)<|.bool b).map _)=_;rw[eq];rfl) (BL _)
  simp_all
theorem XV(c:SR B h0 F ρ st.nx st.ob h){op:UnOp}{p:PV}{x:V}(d:PR F ρ st.nx p x){v:PV}(a:(Ye op p st).To v st'):OK B h0 F ρ st h [] (AE h<|Wr op x) v st':=by
 unfold Ye at a;split at a<;>simp only[GD,AU]at a
 ·obtain⟨rfl,rfl⟩:=a;obtain rfl:=BA d;exact OK.pure c rfl (Bz _ _)
 ·obtain⟨rfl,rfl⟩:=a;obtain rfl:=IY d;exact OK.pure c rfl (So _)
 ·obtain⟨rfl,rfl⟩:=a;obtain⟨b,rfl⟩:=d;exact OK.pure c (v':=.bool<|!b) rfl (by simp[PR])
 ·obtain⟨rfl,rfl⟩:=a;obtain rfl:=Gb d;exact OK.pure c rfl (BL _)
theorem Vz(c:SR B h0 F ρ st.nx st.ob h){s d:TypeId}{p:PV}{x:V}(b:PR F ρ st.nx p x){v:PV}(a:(Qy C.T s d p st).To v st'):OK B h0 F ρ st h [] (AE h<|C3 C.T h s d x) v st':=by
 unfold Qy at a;split at a<;>simp only[GD,AU]at a
 ·obtain⟨rfl,rfl⟩:=a;obtain rfl:=BA b;simp_all [OK.pure,C3,AE,Bz]
 ·obtain rfl:=CZ b;simp_all [OK.pure,C3,AE]
theorem VG(e:SR B h0 F ρ st.nx st.ob h){c a b:PV}{x y z:V}(i:PR F ρ st.nx c x)(f:PR F ρ st.nx a y)(g:PR F ρ st.nx b z){v:PV}(d:(RT c a b st).To v st'):
  ∃t,x=.bool t/\OK B h0 F ρ st h [] (AE h<|some<|if t then y else z) v st':=by
 unfold RT at d;split at d
 case h_3=>simp at d
 case h_1=>
  rename_i t;obtain⟨rfl,rfl⟩:=d;refine⟨t,IY i,OK.pure e rfl ?_⟩;grind
 case h_2=>
  rename_i t;refine⟨t,Gb i,?_⟩;split at d
  case h_1=>
   obtain⟨rfl,rfl⟩:=d;obtain rfl:=IY g;refine OK.pure e rfl ?_;grind [BL]
  case h_2=>
   obtain⟨rfl,rfl⟩:=d;obtain rfl:=IY f;refine OK.pure e rfl ?_;grind [BL]
  case h_3=>
   cases d with
   |tt h=>obtain⟨rfl,rfl⟩:=h;exact OK.pure e rfl f
   |ff h=>obtain⟨rfl,rfl⟩:=h;exact OK.pure e rfl g
theorem Uj(l:SR B h0 F ρ st.nx st.ob h){t:TypeId}{p:PV}{x:V}(k:PR F ρ st.nx p x){f:Nat}{v:PV}(a:(NM C.T t p f st).To v st'):OK B h0 F ρ st h [] (AE h<|FE C.T t x f) v st':=by
 unfold NM at a;split at a
 case h_2=>simp at a
 split at a
 case h_2=>simp at a
 rename_i c d;split at a
 case h_2=>simp at a
 simp only[JK]at a;obtain⟨b,rfl⟩:=a;obtain⟨cs,rfl,hps⟩:=k;rw[GP]at b;have i:=hps.drop c.offset;rcases IX i b with⟨g,_,n,j⟩|⟨g,u,m,e,j⟩
 ·simp_all [OK.pure,FE,Ga,AE]
 ·have:cs[c.offset]?=some u:=by
   have:=wg (·[0]?) e;grind
  simp_all [OK.pure,FE,Ga,AE]
theorem TP(k:SR B h0 F ρ st.nx st.ob h){t:TypeId}{p:PV}{x:V}(l:PR F ρ st.nx p x){f:Nat}{v:PV}(a:(M0 C.T t p f st).To v st'):
  OK B h0 F ρ st h [] (AE h<|FJ C.T t x f) v st':=by
 have live:∀ {id},Ei (st.obj id)=true->∃b n,ρ id=some (b,n):=by
  intro id m;obtain⟨o,q⟩:=Em m;obtain⟨b,n,_,h1,_⟩:=k.at q;grind
 unfold M0 at a;split at a
 case h_2=>simp at a
 split at a
 case h_2=>simp at a
 rename_i w r;split at a
 case h_2=>simp at a
 rename_i i m;cases u:Zc i.size 0 with
 |true=>simp_all
 |false=>
  have s:i.size≠0:=by intro e;simp_all
  rw[u]at a;have c:∀b off,FJ C.T t (.ptr b off) f=some (.ptr b<|off+w.offset):=by
   simp_all [FJ]
  split at a
  ·rename_i id off;cases g:Ei (st.obj id)with
   |false=>simp_all
   |true=>
   rw[g]at a;obtain⟨rfl,rfl⟩:=a;have d:=l;obtain⟨b,n,h1⟩:=live g;obtain rfl:=d.2 b n h1;refine OK.pure k (by rw[c];rfl) ?_;grind [PR]
  ·rename_i id sz j off;cases g:Ei (st.obj id)with
   |false=>simp_all
   |true=>
   rw[g]at a;obtain⟨rfl,rfl⟩:=a;have d:=l;obtain⟨b,n,h1⟩:=live g;obtain rfl:=d.2 b n h1;refine OK.pure k (by rw[c];rfl) ?_;grind [PR]
  ·obtain⟨rfl,rfl⟩:=a;obtain⟨b,o,cs,rfl,h1,h2⟩:=l;refine OK.pure k (by rw[c];rfl) ?_;grind [PR]
  simp_all
theorem SR.live(a:SR B h0 F ρ st.nx st.ob h){id:Nat}(d:Ei (st.obj id)=true):∃b n,ρ id=some (b,n):=by
 obtain⟨o,c⟩:=Em d;obtain⟨b,n,_,h1,_⟩:=a.at c;grind
theorem B5{i:Int}(h:0<=i):∃n:Nat,i=ZP n/\i.toNat=n:=ae
theorem BJ{a b:Nat}(h:a<b):Zq a b=true:=Zn h
theorem Qq(f:SR B h0 F ρ st.nx st.ob h){t:TypeId}{p q:PV}{x y:V}(z:PR F ρ st.nx p x)(M:PR F ρ st.nx q y){v:PV}(a:(Kz C.T t p q st).To v st'):
  OK B h0 F ρ st h [] (AE h<|CD C.T t x y) v st':=by
 unfold Kz at a;split at a
 case h_3=>simp at a
 case h_2=>
  rename_i K e k i Y;obtain rfl:=BA M;split at a
  case h_2=>simp at a
  rename_i g I;split at a
  case h_4=>simp at a
  case h_1=>
   rename_i id off;simp only[PR]at z;split at a
   case h_3=>simp_all
   case h_1=>
    rename_i Q X s l J;cases w:(Zc off 0&&Zc g.size s.sz)with
    |false=>simp_all
    |true=>
     rw[w]at a;rw[Za]at w;have D:=Zb w.1;have P:=Zb w.2;subst D;simp only[wc,AT,Za,w5]at a;obtain⟨⟨c,d⟩,rfl,rfl⟩:=a;obtain⟨n,rfl,hn⟩:=B5 c;obtain⟨b,m,_,A,_⟩:=f.at J;refine OK.pure f (v':=.ptr b<|0+n*g.size) ?_ ?_
     ·simp_all [AE,CD,BJ]
     simp_all [PR]
   case h_2=>
    rename_i o _ J;simp only[AT,Za,w5]at a;obtain⟨⟨c,d⟩,rfl,rfl⟩:=a;obtain⟨n,rfl,hn⟩:=B5 c;obtain⟨b,m,_,A,_⟩:=f.at J;refine OK.pure f (v':=.ptr b<|off+n*g.size) ?_ ?_
    ·simp_all [AE,CD,BJ]
    grind [PR]
  case h_2=>
   rename_i id sz j off;cases G:Ei (st.obj id)with
   |false=>simp_all
   |true=>
    rw[G]at a;simp only[wc,AT,Za,w5]at a;obtain⟨⟨c,d⟩,rfl,rfl⟩:=a;obtain⟨n,rfl,hn⟩:=B5 c;obtain⟨b,m,A⟩:=f.live G;simp only[PR]at z;refine OK.pure f (v':=.ptr b<|j*sz+off+n*g.size) ?_ ?_
    ·simp_all [AE,CD,BJ]
    grind [PR]
  case h_3=>
   rename_i s y off;simp only[AT,Za,w5]at a;obtain⟨⟨c,d⟩,rfl,rfl⟩:=a;obtain⟨n,rfl,hn⟩:=B5 c;obtain⟨b,o,cs,rfl,A,L,S⟩:=z;refine OK.pure f (v':=.ptr b<|o+off+n*g.size) ?_ ?_
   ·simp_all [AE,CD,BJ]
   grind [PR]
 case h_1=>
 obtain rfl:=BA M;split at a
 case h_2=>simp at a
 rename_i g I;split at a
 case h_3=>simp at a
 case h_1=>
  rename_i s l;cases r:Zc g.size s.sz with
  |false=>simp_all
  |true=>
   rw[r]at a;have r:=Zb r;simp only[wc,AT,Za,w5]at a;obtain⟨⟨c,d⟩,rfl,rfl⟩:=a;obtain⟨n,rfl,hn⟩:=B5 c;have E:n<l.length:=ae
   obtain⟨u,O,z⟩:=z;rcases z with⟨rfl,_⟩|⟨b,off,cap,o,R,rfl,A,L,S,_,U⟩
   ·grind
   ·refine OK.pure f (v':=.ptr b<|off+n*g.size) ?_ ?_
    ·simp_all [AE,CD,BJ]
    ·refine⟨b,off+n*s.sz,R,by grind,L,?_,?_⟩
     ·have:(n+1)*s.sz<=l.length*s.sz:=Ze _ E;grind
     grind
 case h_2=>
  rename_i id sz off len cap;cases r:(Zc g.size sz&&Ei (st.obj id))with
  |false=>simp_all
  |true=>
   rw[r]at a;simp only[Za]at r;obtain⟨r,G⟩:=r;have r:=Zb r;simp only[wc,AT,Za,w5]at a;obtain⟨⟨c,d⟩,rfl,rfl⟩:=a;obtain⟨n,rfl,hn⟩:=B5 c;have E:n<len:=ae
   obtain⟨b,m,A⟩:=f.live G;rcases z.2 b m A with⟨_,_,o,_,rfl⟩|⟨W,_⟩
   ·refine OK.pure f (v':=.ptr b<|off*sz+n*g.size) ?_ ?_
    ·simp_all [AE,CD,BJ]
    grind [PR]
   ·omega
theorem TC(D:SR B h0 F ρ st.nx st.ob h){t:TypeId}{p q:PV}{x y:V}(m:PR F ρ st.nx p x)(l:PR F ρ st.nx q y){v:PV}(a:(NU C.T t p q st).To v st'):
  OK B h0 F ρ st h [] (AE h<|EK C.T t x y) v st':=by
 unfold NU at a;split at a
 case h_3=>simp at a
 case h_2=>
  rename_i j e ps k i G;obtain rfl:=BA l;split at a
  case h_2=>simp at a
  rename_i d f E z;simp only[MZ,Za,w5]at a;obtain⟨⟨b,g⟩,c,rfl⟩:=a;obtain⟨n,rfl,hn⟩:=B5 b;obtain⟨cs,rfl,hps⟩:=m;rw[GP,hn]at c;have r:=hps.drop<|n*f.size;have w:EK C.T t (.agg cs) (.int k<|ZP n)=Ga C.T e cs (n*f.size):=by simp_all [EK,BJ]
  rcases IX r c with⟨o,_,_,s⟩|⟨o,u,I,A,s⟩
  ·simp_all [OK.pure,Ga,AE]
  ·have:cs[n*f.size]?=some u:=by
    have:=wg (·[0]?) A;grind
   simp_all [OK.pure,Ga,AE]
 case h_1=>
 obtain rfl:=CZ m;obtain rfl:=BA l;simp only[AT,Za,w5]at a;obtain⟨⟨b,g⟩,rfl,rfl⟩:=a;obtain⟨n,rfl,hn⟩:=B5 b;simp_all [OK.pure,AE,EK,Bz]
theorem Pg(e:SR B h0 F ρ st.nx st.ob h){p:PV}{x:V}(d:PR F ρ st.nx p x){i:Nat}{v:PV}(a:(Iu p i st).To v st'):OK B h0 F ρ st h [] (AE h<|DD x i) v st':=by
 unfold Iu at a;split at a
 case h_2=>simp at a
 split at a
 case h_2=>simp at a
 rename_i q c;simp only[AU]at a;obtain⟨cs,rfl,b⟩:=d;obtain⟨u,h1,h2⟩:=b.get c;grind [OK.pure,DD,AE]
def My(F:Fz)(ρ:BX)(N:Nat):Option PV->Option V->Prop
 |none,x=>x=none
 |some p,x=>∃v,x=some v/\PR F ρ N p v
theorem BP{o:Option PV}{x:Option V}{d:Nat}{c:Bool}{n:Nat}(b:My F ρ N o x)(a:pb o d=some (c,n))(g:c=true){y:Nat}(f:n<=y):ER x y d=some n:=by
 unfold pb at a;split at a
 ·cases a;subst b;rfl
 ·obtain⟨v,rfl,e⟩:=b;obtain rfl:=BA e;grind [Zn,ER]
 grind
theorem My.isNone{o:Option PV}{x:Option V}(a:My F ρ N o x):(o=none↔x=none):=by
 cases o with
 |none=>grind [My]
 |some p=>simp only[My]at a;grind
theorem GY{T:AP}{t e:TypeId}{d:TI}{b off len cap o m a l:Nat}{f c mx:Option V}(p:T.und t=some (.slice e))(i:T.inf e=some d)(j:ER mx cap cap=some m)(n:ER c m len=some a)
  (k:ER f a 0=some l) (g:c=none->mx=none):
  BO T t (.sl b off len cap o) f c mx=bif Zc m l then(bif Zc (GC mx o) 0 then some (.sl b off (a-l) (m-l) 0)else some .esl)
   else bif Zc (GC mx o) 0||Zc (GC mx o) d.size then some (.sl b (off+l*d.size) (a-l) (m-l)<|GC mx o)else none:=by
 simp_all [BO]
theorem Qx(w:SR B h0 F ρ st.nx st.ob h){t:TypeId}{p:PV}{x:V}{lo hi mx:Option PV}{a b c:Option V}(K:PR F ρ st.nx p x)(D:My F ρ st.nx lo a)(k:My F ρ st.nx hi b)(j:My F ρ st.nx mx c)
  {v:PV} (d:(Kg C.T t p lo hi mx st).To v st'):OK B h0 F ρ st h [] (AE h<|BO C.T t x a b c) v st':=by
 unfold Kg at d;split at d
 case h_3=>simp at d
 case h_1=>
  rename_i hu;split at d
  case h_2=>simp at d
  rename_i s;obtain rfl:=CZ K;split at d
  case h_2=>simp at d
  rename_i c1 l c2 n f g;simp only[AT,Za,w5]at d;obtain⟨⟨⟨⟨J,E⟩,G⟩,y⟩,rfl,rfl⟩:=d;simp only[My]at j;subst j;have Q:=BP D f J G;have e2:=BP k g E y;simp_all [OK.pure,BO,AE,MT]
 case h_2=>
  rename_i e hu;split at d
  case h_2=>simp at d
  rename_i P M;split at d
  case h_4=>simp at d
  case h_1=>
   rename_i s S;cases A:Zc P.size s.sz with
   |false=>simp_all
   |true=>
    rw[A]at d;have A:=Zb A;simp only[wc]at d;split at d
    case h_2=>simp at d
    rename_i c1 l c2 n f g;simp only[AT,Za,w5]at d;obtain⟨⟨⟨⟨J,E⟩,G⟩,y⟩,rfl,rfl⟩:=d;simp only[My]at j;subst j;have Q:=BP D f J G;simp only[PR,DC]at K;obtain⟨u,hu1,K⟩:=K;obtain rfl:x=u:=ae
    rcases K with⟨rfl,rfl|rfl|rfl⟩|⟨R,off,cap,o,bs,rfl,h1,h2,h3,h5,h4⟩
    ·have e2:=BP k g E y;simp only[ZJ]at e2 y;refine OK.pure w (v':=.nils) (by simp_all [BO,ER,Sz,AE]) ?_;simp[PR,DC]
    ·have e2:=BP k g E y;simp only[ZJ]at e2 y;refine OK.pure w (v':=.esl) (by simp_all [BO,ER,Sz,AE,HM]) ?_;simp[PR,DC]
    ·have e2:=BP k g E y;simp only[ZJ]at e2 y;refine OK.pure w (v':=.es0) (by simp_all [BO,ER,Sz,AE]) ?_;simp[PR,DC]
    ·have e2:ER b cap S.length=some n:=(by grind [BP]);have r:=GY (b:=R) (off:=off) (len:=S.length) (cap:=cap) (o:=o) (mx:=none) hu M rfl e2 Q (fun _=>rfl);have L:((S.drop l).take<|Nat.sub n l).length=n-l:=by
      grind
     by_cases hcl:cap=l
     ·have hhl:n=l:=a8
      have Z:(S.drop l).take (Nat.sub n l)=[]:=by
       grind
      rw[Z];by_cases I:o=0
      ·refine OK.pure w (v':=.sl R off (n-l) (cap-l) 0) ?_ ?_
       ·have:GC none o=0:=I;rw[r,this,hcl,ZH];rfl
       ·simp only[PR,DC];exact⟨_,rfl,.inr ⟨R,off,cap-l,0,bs,by grind,by simp,h2,by grind,.inl rfl,(by simp)⟩⟩
      ·refine OK.pure w (v':=.esl) ?_ ?_
       ·have h1:Zc (GC none o) 0=false:=by rw[Aw];simp[GC,I]
        rw[r,h1,hcl,ZH];rfl
       ·simp[PR,DC]
     ·refine OK.pure w (v':=.sl R (off+l*P.size) (n-l) (cap-l) o) ?_ ?_
      ·have f:Zc cap l=false:=by rw[Aw];grind
       have I:(Zc (GC none o) 0||Zc (GC none o) P.size)=true:=by
        rcases h5 with rfl|rfl
        ·rfl
        ·rw[A];show(Zc s.sz 0||Zc s.sz s.sz)=true;simp
       rw[r,f,I];rfl
      ·simp only[PR,DC];refine⟨_,rfl,.inr ⟨R,off+l*P.size,cap-l,o,bs,by rw[L],by omega,h2,?_,h5,fun i hi=>?_⟩⟩
       ·rw[L,A];have:(l+(n-l))*s.sz<=S.length*s.sz:=Ze _ a8;grind
       grind
  case h_2=>
   rename_i id sz off len cap;cases A:(Zc P.size sz&&Ei (st.obj id))with
   |false=>rw[A]at d;simp at d
   |true=>
    rw[A]at d;simp only[Za]at A;obtain⟨A,hl⟩:=A;have A:=Zb A;simp only[wc]at d;have hno:¬(hi=none/\mx≠none):=by
     rintro⟨rfl,hm⟩;cases mx with
     |none=>grind
     |some _=>simp at d
    split at d
    case h_1=>grind
    split at d
    case h_2=>simp at d
    rename_i c1 l c2 n c3 m f g O;simp only[AT,Za,w5]at d;obtain⟨⟨⟨⟨⟨⟨⟨J,E⟩,G⟩,y⟩,k5⟩,k6⟩,k7⟩,rfl,rfl⟩:=d;have Q:=BP D f J y;have e3:=BP j O G k6;have e2:=BP k g E k5;have Y:b=none->c=none:=by
     intro hbn;cases hcc:c with
     |none=>rfl
     |some z=>
      exfalso;apply hno;exact⟨k.isNone.2 hbn,fun e=>by have:=j.isNone.1 e;grind⟩
    obtain⟨X,n0,h1⟩:=w.live hl;simp only[PR]at K;rcases K.2 X n0 h1 with⟨g1,g2,o,g3,rfl⟩|⟨rfl,rfl,g2,g3⟩
    ·have r:=GY (b:=X) (off:=off*sz) (len:=len) (cap:=cap.getD len) (o:=o) hu M e3 e2 Q Y;have hoz:GC c o=0\/GC c o=sz:=by
      unfold GC;grind
     by_cases W:m=l
     ·have hhl:n-l=0:=a8
      by_cases I:GC c o=0
      ·refine OK.pure w (v':=.sl X (off*sz) (n-l) (m-l) 0) ?_ ?_
       ·rw[r,I,W,ZH];rfl
       ·unfold PR;grind
      ·refine OK.pure w (v':=.esl) ?_ ?_
       ·have hb0:Zc (GC c o) 0=false:=by rw[Aw];simp[I]
        rw[r,hb0,W,ZH];rfl
       ·unfold PR;grind
     ·refine OK.pure w (v':=.sl X (off*sz+l*P.size) (n-l) (m-l)<|GC c o) ?_ ?_
      ·have f:Zc m l=false:=by rw[Aw];grind
       have I:(Zc (GC c o) 0||Zc (GC c o) P.size)=true:=by
        simp_all
       rw[r,f,I];rfl
      grind [PR,Nat.add_mul]
    ·simp only[Option.getD_some]at k6 k7 e3;obtain rfl:m=0:=a8
     obtain rfl:n=0:=a8
     obtain rfl:l=0:=a8
     have hc:c=none:=by
      cases mx with
      |none=>exact j
      |some _=>simp[has]at k7
     subst hc;rcases g3 with rfl|⟨U,rfl,g4⟩
     ·refine OK.pure w (v':=.esl) (by simp_all [BO,Sz,AE,HM]) ?_;simp_all [PR]
     ·refine OK.pure w (v':=.sl X U 0 0 0) ?_ ?_
      ·rw[GY (mx:=none) hu M rfl e2 Q (fun _=>rfl)];rfl
      simp_all [PR]
  case h_3=>
   split at d
   case h_3=>simp at d
   case h_2=>
    rename_i c1 l c2 n q f g;split at d
    case h_2=>simp at d
    rename_i p' c3 m O;simp only[AT,Za,w5]at d;obtain⟨⟨⟨⟨⟨⟨J,E⟩,k5⟩,G⟩,y⟩,k6⟩,rfl,rfl⟩:=d;have Q:=BP D f J G;have e2:=BP k g E a8;have e3:=BP j O k5 k6;simp only[PR]at K;cases b with
    |none=>simp[My]at k
    |some b=>exact OK.pure w (v':=.nils) (by simp_all [BO,Sz,AE]) (by simp[PR])
   rename_i c1 l c2 n f g;simp only[AT,Za,w5]at d;obtain⟨⟨⟨⟨J,E⟩,G⟩,y⟩,rfl,rfl⟩:=d;simp only[My]at j;have Q:=BP D f J G;have e2:=BP k g E y;simp only[PR]at K;exact OK.pure w (v':=.nils) (by simp_all [BO,ER,Sz,AE]) (by simp[PR])
theorem T9(b:SR B h0 F ρ st.nx st.ob h){t:TypeId}{p q:PV}{x y:V}(c:PR F ρ st.nx p x)(a:PR F ρ st.nx q y){v:PV}(d:(Qi C.T t p q st).To v st'):
  OK B h0 F ρ st h [] (AE h<|CD C.T t x y) v st':=Qq b c.lz a d
theorem UA(j:SR B h0 F ρ st.nx st.ob h){t:TypeId}{p:PV}{x:V}{g i mx:Option PV}{a b c:Option V}(k:PR F ρ st.nx p x)(d:My F ρ st.nx g a)(e:My F ρ st.nx i b)(f:My F ρ st.nx mx c)
  {v:PV} (l:(Rv C.T t p g i mx st).To v st'):OK B h0 F ρ st h [] (AE h<|BO C.T t x a b c) v st':=Qx j k.lz d e f l
theorem MR.len{ks vs:Sh}{l:List (ks.T×vs.T)}{es:List (V×V×Nat)}(h:MR F ks vs l es):l.length=es.length:=by
 induction h with
 |nil=>rfl
 |cons _ _ _ a=>simp[a]
theorem Wc(d:SR B h0 F ρ st.nx st.ob h){ts:Array TypeId}{ps:List PV}{i:List V}(f:AJ F ρ st.nx ps i){v:PV}(c:(Lo C.T ts ps st).To v st'):OK B h0 F ρ st h [] (AE h<|C2 C.T h ts i) v st':=by
 unfold Lo at c;split at c
 case h_2=>simp at c
 rename_i t p a;obtain⟨x,k,rfl,f,rfl⟩:=f;split at c
 case h_6=>simp at c
 case h_1=>
  rename_i s e;obtain⟨rfl,rfl⟩:=c;obtain rfl:=CZ f;exact OK.pure d (by simp only[C2,a,e,AE];rfl)<|Bz _ _
 case h_2=>
  rename_i s l e;obtain⟨rfl,rfl⟩:=c;obtain⟨u,hu1,f⟩:=f;obtain rfl:x=u:=ae
  rcases f with⟨rfl,rfl|rfl|rfl⟩|⟨b,off,cap,o,m,rfl,_⟩
  ·exact OK.pure d (by simp only[C2,a,e,AE];rfl)<|Bz _ _
  ·exact OK.pure d (by simp only[C2,a,e,AE];rfl)<|Bz _ _
  ·exact OK.pure d (by simp only[C2,a,e,AE];rfl)<|Bz _ _
  ·exact OK.pure d (by simp only[C2,a,e,AE];rfl)<|Bz _ _
 case h_3=>
  rename_i id sz off len cap e;cases g:Ei (st.obj id)with
  |false=>simp_all
  |true=>
   rw[g]at c;obtain⟨rfl,rfl⟩:=c;obtain⟨b,n,h1⟩:=d.live g;rcases f.2 b n h1 with⟨_,_,o,_,rfl⟩|⟨rfl,_,_,rfl|⟨_,rfl,_⟩⟩
   ·exact OK.pure d (by simp only[C2,a,e,AE];rfl)<|Bz _ _
   ·exact OK.pure d (by simp only[C2,a,e,AE];rfl)<|Bz _ _
   ·exact OK.pure d (by simp only[C2,a,e,AE];rfl)<|Bz _ _
 case h_4=>
  rename_i e;obtain⟨rfl,rfl⟩:=c;subst f;exact OK.pure d (by simp only[C2,a,e,AE];rfl)<|Bz _ _
 case h_5=>
  split at c
  case h_2=>simp at c
  rename_i ks vs l j;obtain⟨rfl,rfl⟩:=c;obtain⟨b,n,y,h1,h2,⟨es,clk,rfl,h3⟩,_⟩:=d.at j;simp only[PR]at f;have g:l.length=es.length:=h3.len;refine OK.pure d (v':=i64 es.length) (by simp_all [C2,AE]) ?_;rw[<-g];rfl
theorem Wz(c:SR B h0 F ρ st.nx st.ob h){ts:Array TypeId}{ps:List PV}{a:List V}(b:AJ F ρ st.nx ps a){v:PV}(d:(Tw C.T ts ps st).To v st'):OK B h0 F ρ st h [] (AE h<|C2 C.T h ts a) v st':=Wc c b.lz d
theorem Xm(o:SR B h0 F ρ st.nx st.ob h){f:Int->Int->Int}{g:V->V->Option V}(q:∀k x y,g (.int k x) (.int k y)=some (.int k<|f x y)){ps:List PV}{b:List V}(d:AJ F ρ st.nx ps b){v:PV}
  (a:(HD f ps st).To v st'):OK B h0 F ρ st h [] (AE h<|Dc g b) v st':=by
 have key:∀(ps:List PV) (b:List V) (k:IntKind) (x z:Int),AJ F ρ st.nx ps b->WW f k x ps=some z->dfold g (.int k x) b=some (.int k z):=by
  intro ps;induction ps with
  |nil=>grind [WW,AJ,dfold]
  |cons p ps n=>
   intro b k x z d i;obtain⟨u,m,rfl,c,j⟩:=d;unfold WW at i;split at i
   case h_1=>grind
   case h_2=>
    rename_i e;cases e;rename_i l y;cases r:(k==l)with
    |false=>grind
    |true=>
     obtain rfl:=BA c;grind [dfold]
   grind
 unfold HD at a;split at a
 case h_2=>simp at a
 split at a
 case h_2=>simp at a
 simp only[AU]at a;obtain⟨u,m,rfl,c,j⟩:=d;obtain rfl:=BA c;grind [OK.pure,Dc,AE,Bz]
theorem OK.new(c:SR B h0 F ρ st.nx st.ob h){o:Obj}{x:O}{n:Nat}(d:o.frozen=false)(e:Nf F (AA ρ st.nx<|some (h.nx,n)) (st.nx+1) n o x){v:PV}{v':V}
  (a:PR F (AA ρ st.nx<|some (h.nx,n)) (st.nx+1) v v'):OK B h0 F ρ st h [] (CF<|some (v',h.push x)) v (st.push o):=by
 refine⟨v',h.push x,F,_,.inl rfl,a,c.push d e,Le.new _,rfl,rfl,Nat.le_succ _,fun b f=>.inl ?_⟩;rw[H.A6,wa a8]
theorem Gc{n:Nat}:PR F (AA ρ N<|some (h.nx,n)) (N+1) (.ptr N 0) (.ptr h.nx 0):=by
 simp_all [PR,AA]
theorem V3{F:Fz}:∀ {s:Sh} {v:V},Wl s v=true->DC F s s.D9 [v]
 | .bool,.bool b,h=>by
  grind [Wl,DC,Sh.D9]
 | .int k,.int a n,h=>by
  simp_all [Wl,DC,Sh.D9]
theorem T1{T:AP}{t:TypeId}{s:Sh}{n:Nat}(h:VV T t=some (s,n)):∃i,T.inf t=some i/\n=i.zero.length/\(∀v∈i.zero,Wl s v=true)/\s.sz=1:=by
 unfold VV at h;split at h
 case h_2=>cases h
 rename_i i e d;split at h
 case h_2=>cases h
 rename_i c a;cases b:(Zt 32 (Det.CL i.zero)&&Det.Gg (Wl c) i.zero)with
 |false=>grind
 |true=>
  rw[b]at h;cases h;rw[Za,CQ]at b;refine⟨i,d,BK ..,ae,?_⟩;unfold Yy at a;split at a<;>first|(cases a;rfl)|cases a
theorem Ts(d:SR B h0 F ρ st.nx st.ob h){t:TypeId}{v:PV}(c:(J7 t C.T st).To v st'):OK B h0 F ρ st h [] (CF<|Dr C.T h t) v st':=by
 unfold J7 Sl at c;split at c
 case h_1=>
  rename_i s n g;obtain⟨rfl,rfl⟩:=c;obtain⟨i,e,rfl,hall,hs⟩:=T1 g;have:Dr C.T h t=some (.ptr h.nx 0,h.push<|.cells i.zero t (0,0)):=by simp[Dr,e,EB]
  rw[this];refine OK.new d (o:=.arr false t s<|Zh i.zero.length s.D9) (n:=i.zero.length) rfl ⟨_,_,rfl,⟨by grind,fun j k=>?_⟩,Zg _,(by simp)⟩ Gc;have f:j<i.zero.length:=ae
  have:=hall i.zero[j] (by simp);rw[List.getElem_replicate,hs,ZL,ZE f];exact V3 this
 split at c
 case h_2=>simp_all
 rename_i cs a;rw[Option.bind_eq_some_iff]at a;obtain⟨i,e,a⟩:=a;cases b:Gg V.ok i.zero with
 |false=>grind
 |true=>
 rw[b]at a;cases a;rw[CQ]at b;obtain⟨rfl,rfl⟩:=c;have:Dr C.T h t=some (.ptr h.nx 0,h.push<|.cells i.zero t (0,0)):=by simp[Dr,e,EB]
 rw[this];cases UE C.T t with
 |true=>exact OK.new d (o:=.tbox t<|i.zero.map NH) (n:=0) rfl ⟨_,_,rfl,B6 _,Zg _,ae⟩ Gc
 |false=>exact OK.new d (o:=.box<|i.zero.map NH) (n:=0) rfl ⟨_,_,_,rfl,B6 _,Zg _,ae⟩ Gc
theorem WQ(b:SR B h0 F ρ st.nx st.ob h){t:TypeId}{p:PV}{x:V}(d:PR F ρ st.nx p x){cs:List PV}(a:Wj st p=some cs)(e:cs.all (Gd st)=true):OK B h0 F ρ st h [] (CF<|some<|Pf h t x) (.ptr st.nx 0) (st.push<|.box cs):=
 OK.new b (o:=.box cs) (n:=0) rfl ⟨_,_,_,rfl,(Hx b d a).mono<|Le.new _,Zg _,fun u c=>V.G1<|List.all_eq_true.1 (by grind [FG,Hx]) u c⟩ Gc
theorem Fe(g:SR B h0 F ρ st.nx st.ob h){place:Nat->Option (Nat×Nat)}:∀ {l:List (Nat×PV)} {l':List (Nat×V)},Vb F ρ st.nx l l'->∀ {cs:List PV} {b:List V},AJ F ρ st.nx cs b->∀ {out:List PV},JU st place cs l=some out->
  ∃f,Er place b l'=some f/\AJ F ρ st.nx out f:=by
 intro l l' k;induction k with
 |nil=>intro cs b c out a;cases a;exact⟨b,rfl,c⟩
 |@cons i p v l l' j _ o=>
  intro cs b c out a;unfold JU at a;unfold Er;split at a
  case h_1=>cases a
  rename_i off size n;split at a
  case h_2=>cases a
  rename_i vs d;cases m:(Zc (Det.CL vs) size&&Zt (Zz off size) (Det.CL cs))with
  |false=>grind
  |true=>
   have e:=Hx g j d;rw[BK,BK,e.len,c.len]at m;have:=e.A1 off c;grind [E1]
theorem Ty(b:SR B h0 F ρ st.nx st.ob h){t:TypeId}{l:List (Nat×PV)}{l':List (Nat×V)}(f:Vb F ρ st.nx l l'){v:PV}(d:(ov st<|Ng C.T st t l).To v st'):OK B h0 F ρ st h [] (AE h<|FC C.T t l') v st':=by
 simp only[JK]at d;obtain⟨a,rfl⟩:=d;unfold Ng at a;split at a
 case h_3=>cases a
 case h_1=>
  rename_i i fs g j;split at a
  case h_2=>cases a
  rw[Zd]at a;obtain⟨out,c,rfl⟩:=a;obtain⟨ys,g1,g2⟩:=Fe b f (B6 i.zero) c;exact OK.pure b (v':=.agg ys) (by grind [FC,AE]) (by simp_all [PR])
 case h_2=>
  rename_i i k e g j;split at a
  case h_2=>cases a
  rw[Zd]at a;obtain⟨out,c,rfl⟩:=a;obtain⟨ys,g1,g2⟩:=Fe b f (B6 i.zero) c;exact OK.pure b (v':=.agg ys) (by grind [FC,AE]) (by simp_all [PR])
theorem FL(z:List V):∀n,AJ F ρ N (IM (z.map NH) n)<|(Zh n z).flatten
 |0=>by rfl
 |n+1=>by
  exact(B6 z).append<|FL z n
theorem D5(z:List V):∀n,CI z (n*z.length)=(Zh n z).flatten:=by
 intro n;apply Zw;intro i;unfold CI;by_cases c:z.length=0
 ·simp_all
 ·induction n generalizing i with
  |zero=>simp
  |succ n a=>
   rw[List.replicate_succ,List.flatten_cons];by_cases b:i<z.length
   ·grind [Nat.mod_eq_of_lt]
   ·rw[List.getElem?_append_right a8, <-a (i-z.length)];grind [Nat.mod_eq_sub_mod]
theorem IV{sz n:Nat}{o:Nat}(a:o=0\/o=sz):PR F (AA ρ N<|some (h.nx,n)) (N+1) (.sl N sz 0 n none) (.sl h.nx 0 n n o):=by
 simp_all [PR,AA]
theorem GZ{place:Nat->Option (Nat×Nat)}:∀ {l:List (Nat×V)} {a b:List V},Er place a l=some b->b.length=a.length
 |[],a,b,h=>by cases h;rfl
 |(i,v)::l,a,b,h=>by
  unfold Er at h;split at h
  ·cases h
  ·rename_i off size _;cases c:(Zc v.cells.length size&&Zt (off+size) a.length)with
   |false=>grind
   |true=>
    rw[c]at h;rw[GZ h,EG]
end
section
variable {B:Nat}{h0:H0}{F:Fz}{ρ:BX}{N:Nat}{C:Ctx}{st st':Ag}{fr:Fr}{h h':H}
theorem BG.nil{s:Sh}:BG F s [] []:=⟨by simp,(by simp)⟩
theorem BG.cons{s:Sh}{x:s.T}{l:List s.T}{a b:List V}(c:DC F s x a)(d:BG F s l b):BG F s (x::l) (a++b):=by
 refine⟨by rw[List.length_append,c.len,d.1,List.length_cons,Zr];omega,fun i f=>?_⟩;cases i with
 |zero=>
  simp only[Nat.zero_mul,List.drop_zero,ZI];rw[<-c.len,List.take_left];exact c
 |succ i=>
  have e:(a++b).drop ((i+1)*s.sz)=b.drop (i*s.sz):=by
   rw[Zr,Nat.add_comm,CW, <-c.len,List.drop_left]
  rw[e];exact d.2 i ae
theorem BG.RK{s:Sh}{x:s.T}{l:List s.T}{cs:List V}(h:BG F s (x::l) cs):∃a b,cs=a++b/\DC F s x a/\BG F s l b:=by
 have h0:=h.2 0 (by simp);simp only[Nat.zero_mul,List.drop_zero,ZI]at h0;refine⟨cs.take s.sz,cs.drop s.sz,(by simp),h0,?_,fun i c=>?_⟩
 ·grind [Zr,BG]
 ·have:=h.2 (i+1) ae;grind [CW,Zr]
theorem BG.append{s:Sh}:∀ {l m:List s.T} {a b:List V},BG F s l a->BG F s m b->BG F s (l++m) (a++b)
 |[],m,a,b,h,h'=>by
  have:a=[]:=List.length_eq_zero_iff.1 (by rw[h.1];simp);grind
 |x::l,m,a,b,h,h'=>by
  obtain⟨c,d,rfl,e,f⟩:=h.RK;rw[List.append_assoc,List.cons_append];exact BG.cons e<|f.append h'
theorem BG.replicate{s:Sh}{z:s.T}{c:List V}(a:DC F s z c):∀n,BG F s (Zh n z)<|(Zh n c).flatten
 |0=>BG.nil
 |n+1=>by
  exact BG.cons a<|BG.replicate a n
theorem BG.LV{s:Sh}:∀ {l:List s.T} {a:List V},BG F s l a->a.all V.one=true
 |[],a,h=>by
  grind [BG]
 |x::l,a,h=>by
  obtain⟨c,d,rfl,b,e⟩:=h.RK;rw[List.all_append,e.LV,Bool.and_true];exact List.all_eq_true.2 b.LV
theorem BG.part{s:Sh}{l:List s.T}{cs:List V}(h:BG F s l cs){off len:Nat}(b:off+len<=l.length):BG F s ((l.drop off).take len) ((cs.drop<|off*s.sz).take<|len*s.sz):=by
 have d:(off+len)*s.sz<=l.length*s.sz:=Ze _ b;have f:=h.1;refine⟨by grind,fun i e=>?_⟩;have a:i<len:=ae
 have c:(i+1)*s.sz<=len*s.sz:=Ze _ a;grind [Zp,ZM,Nat.add_mul,BG]
theorem Vr(m:SR B h0 F ρ st.nx st.ob h){t:TypeId}{p q:PV}{x y:V}(L:PR F ρ st.nx p x)(I:PR F ρ st.nx q y){v:PV}(a:(SN C.T t p q st).To v st'):OK B h0 F ρ st h [] (CF<|IG C.T h t x y) v st':=by
 unfold SN at a;split at a
 case h_2=>simp at a
 rename_i e k l r c K;obtain rfl:=BA L;obtain rfl:=BA I;split at a
 case h_2=>simp at a
 rename_i i s D O;cases d:(Zq 0 i.zero.length&&Zc i.zero.length i.size&&Zc i.size s.sz)with
 |false=>simp_all
 |true=>
  rw[d]at a;simp only[Za]at d;obtain⟨⟨A,g⟩,P⟩:=d;simp only[wc]at a;split at a
  case h_2=>simp at a
  rename_i z G;simp only[AT,Za,w5]at a;obtain⟨⟨⟨⟨J,u⟩,w⟩,M⟩,rfl,rfl⟩:=a;have f:l=c:=u;subst f;obtain⟨n,rfl,hn⟩:=B5 J;have Q:=Zb g;have j:IG C.T h t (.int k<|ZP n) (.int r<|ZP n)=some (.sl h.nx 0 n n 0,h.push<|.cells (CI i.zero<|n*i.size) e (0,0)):=by
   have a1:Zt n n=true:=(by simp);have a2:Zq n 9223372036854775808=true:=(by grind [BJ]);have a3:Zt (i.bytes*n) 281474976710656=true:=Zn w;simp only[IG,K,D,a1,a2,a3,A,g,Bool.and_self,wc,EB]
  rw[j];have E:=Bj (B6 (F:=F) (ρ:=ρ) (N:=st.nx) i.zero) G;have b:BG F s (Zh n z) (CI i.zero<|n*i.size):=by
   grind [D5,BG.replicate]
  exact OK.new m (o:=.arr false e s<|Zh n z) (n:=n) rfl ⟨_,_,rfl,b,Zg _,by simp⟩ (IV<|.inl rfl)
theorem NB(I:SR B h0 F ρ st.nx st.ob h){s:Sh}{p:PV}{x:V}(g:PR F ρ st.nx p x){c:Bool}{l:List s.T}(a:DN st s p=some (c,l))(E:c=true):
  IE x=some l.length/\(s.sz=1\/H9 x=true)/\∃cs,src h s.sz x l.length=some cs/\BG F s l cs:=by
 unfold DN at a;split at a
 case h_1=>
  cases a;subst g;exact⟨rfl,.inr rfl,[],rfl,BG.nil⟩
 case h_2=>
  rename_i d l';rw[Zd]at a;obtain⟨r,v,z⟩:=a;obtain⟨e,he⟩:=A4 v;have A:d=s:=ae
  subst A;have:r=l':=ae
  subst this;cases z;obtain⟨u,L,g⟩:=g;obtain rfl:x=u:=ae
  rcases g with⟨rfl,rfl|rfl|rfl⟩|⟨b,off,cap,o,J,rfl,G,D,k,X,P⟩
  ·exact⟨rfl,.inr rfl,[],rfl,BG.nil⟩
  ·exact⟨rfl,.inr rfl,[],rfl,BG.nil⟩
  ·exact⟨rfl,.inr rfl,[],rfl,BG.nil⟩
  ·obtain⟨W,fz,M⟩:=I.frz b J D;suffices hD:BG F d l ((J.drop off).take<|l.length*d.sz)from⟨rfl,.inr rfl,_,rd_some M k hD.ok,hD⟩
   refine⟨?_,fun i R=>?_⟩
   ·grind
   ·have U:(i+1)*d.sz<=l.length*d.sz:=Ze _ R;grind [Zp,ZM]
 case h_3=>
  rename_i id sz off len cap;split at a
  case h_2=>cases a
  rename_i S W d l' Q;cases f:Zc sz d.sz with
  |false=>grind
  |true=>
   rw[f]at a;have f:=Zb f;simp only[wc,Zd]at a;obtain⟨r,v,z⟩:=a;obtain⟨e,he⟩:=A4 v;have A:d=s:=ae
   subst A;have:r=l':=ae
   subst this;cases z;simp only[w5]at E;obtain⟨b,n,y,G,D,⟨cs,fz,rfl,k,P,X⟩,_⟩:=I.at Q;have m:((r.drop off).take len).length=len:=ae
   have w:(off+len)*d.sz<=r.length*d.sz:=Ze _ E;rw[Nat.add_mul]at w;rw[m];rcases g.2 b n G with⟨_,_,o,_,rfl⟩|⟨rfl,_,Y,rfl|⟨K,rfl,q⟩⟩
   ·refine⟨rfl,.inr rfl,_,rd_some D ?_ ?_,?_⟩
    ·rw[f,k.1];exact w
    ·rw[f];exact(k.part E).ok
    ·rw[f];exact k.part E
   ·refine⟨rfl,.inr rfl,[],rfl,?_⟩;simpa using BG.nil
   ·refine⟨rfl,.inr rfl,_,rd_some D ?_ ?_,?_⟩
    ·rw[f]at q;rw[k.1];omega
    ·simp
    ·simp;exact BG.nil
 case h_5=>cases a
 case h_4=>
  rename_i t;rw[Zd]at a;obtain⟨r,v,z⟩:=a;obtain⟨e,he⟩:=A4 v;have A:s=.int .u8:=ae
  subst A;have:r=List.map (fun b:UInt8=>(b.toNat:Int)) t:=ae
  subst this;cases z;obtain rfl:=CZ g;refine⟨by simp[IE],.inl rfl,_,rfl,?_⟩;refine⟨by simp[Sh.sz],fun j hj=>?_⟩;have O:j<t.length:=ae
  have Z:((t.map fun b=>V.int .u8 (b.toNat:Int)).drop<|j*1).take 1=[V.int .u8 ((t[j]).toNat:Int)]:=by
   simp_all [ZE]
  grind [DC,Sh.sz]
theorem PI(a:SR B h0 F ρ st.nx st.ob h){s:Sh}{p:PV}{x:V}(d:PR F ρ st.nx p x){c:Bool}{l:List s.T}(e:Jd st s p=some (c,l))(b:c=true):
  IE x=some l.length/\(s.sz=1\/H9 x=true)/\∃cs,src h s.sz x l.length=some cs/\BG F s l cs:=NB a d.lz e b
theorem SR.congr(a:SR B h0 F ρ N st.ob h)(g:∀c,h'.get c=h.get c)(e:h'.nx=h.nx):SR B h0 F ρ N st.ob h':=
 ⟨fun id o f=>by obtain⟨b,n,x,i,l,p⟩:=a.obj id o f;grind,a.inj,fun b cs d=>by obtain⟨t,fz,i⟩:=a.frz b cs d;grind,a.own,a.dead,
  fun b d he=>(g b).trans<|a.old b d he,fun b o d=>by rw[e];exact a.lt b o ae,by rw[e];exact a.le,a.fo,a.gl,fun c j=>by obtain⟨m,k,q⟩:=a.pn c j;grind⟩
end
end Go.Pe
