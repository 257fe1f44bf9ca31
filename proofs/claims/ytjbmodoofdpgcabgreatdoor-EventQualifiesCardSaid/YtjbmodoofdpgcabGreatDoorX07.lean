import Derived.Test.YtjbmodoofdpgcabGreatDoorX06
import Derived.Shelf.Sort.Plain
/- A part of a proof; no law is stated here. -/
noncomputable section
open Bool renaming and_eq_true -> Za
open Nat renaming eq_of_beq_eq_true -> Zb, beq -> Zc, mul_le_mul_right -> Ze, le_refl -> Zh, lt_of_lt_of_le -> Zk, le_of_ble_eq_true -> Zq, ble_eq_true_of_le -> Zs, ble -> Zt, blt -> Zx, succ_mul -> Zy, add -> ZE, beq_refl -> ZI, mul_one -> ZN
open Option renaming map_eq_some_iff -> Zd
open List renaming getElem?_take_of_lt -> Zf, length_take -> Zi, getElem?_eq_getElem -> Zj, length_map -> Zl, replicate -> Zm, getElem?_drop -> Zn, length_append -> Zo, mem_singleton -> Zp, getElem?_append_right -> Zv, drop_take -> Zw, getElem?_eq_some_iff -> Zz, take_of_length_le -> ZB, ext_getElem? -> ZC, length_drop -> ZD, getElem?_append_left -> ZG, drop_eq_getElem_cons -> ZH, getElem_cons_zero -> ZJ, length_nil -> ZK, length -> ZL, drop_drop -> ZO
open Option.some renaming injEq -> Zg
open Array renaming getElem?_toList -> Zr, getElem?_eq_some_iff -> Zu, getElem?_eq_getElem -> ZA
open Go.Value renaming int -> ZF
open Go.Det.V renaming ok -> ZM
open Go.Det renaming AR -> ZP
open Int renaming ofNat -> ZQ
namespace Go.Det
section
open Go.Proofs.Tryz (prog)
def A7:G6:=[(5,[],.bool true)]
theorem Se:CB UA 1000 A7=true:=by kernel_rfl
theorem U5:HR prog (ED A7):=MH Th NP Mm Se
end
open Go.Proofs Go.Sort
def KL:Go.Shelf.Ren:=⟨fun|189=>65|125=>93|257=>92|128=>126|129=>127|294=>117|295=>118|296=>119|297=>120|298=>121|299=>122|216=>123|300=>124|301=>125|328=>150|329=>151|330=>152|331=>153|332=>154|215=>84|343=>175|n=>n,fun|28=>22|3=>3|46=>159|0=>0|51=>189|53=>191|4=>4|183=>183|182=>182|131=>178|5=>5|9=>9|218=>210|222=>214|228=>230|229=>231|n=>n,fun|n=>n⟩
theorem Q2:Go.Proofs.Lays.n189 Go.Proofs.Tryz.prog KL:=
 {mixed:=by kernel_rfl,
  f125:=Go.Proofs.Tryz.func93.trans (we some ac),
  f128:=Go.Proofs.Tryz.func126.trans (we some ac),
  f129:=Go.Proofs.Tryz.func127.trans (we some ac),
  f189:=Go.Proofs.Tryz.func65.trans (we some ac),
  f215:=Go.Proofs.Tryz.func84.trans (we some ac),
  f216:=Go.Proofs.Tryz.func123.trans (we some ac),
  f257:=Go.Proofs.Tryz.func92.trans (we some ac),
  f294:=Go.Proofs.Tryz.func117.trans (we some ac),
  f295:=Go.Proofs.Tryz.func118.trans (we some ac),
  f296:=Go.Proofs.Tryz.func119.trans (we some ac),
  f297:=Go.Proofs.Tryz.func120.trans (we some ac),
  f298:=Go.Proofs.Tryz.func121.trans (we some ac),
  f299:=Go.Proofs.Tryz.func122.trans (we some ac),
  f300:=Go.Proofs.Tryz.func124.trans (we some ac),
  f301:=Go.Proofs.Tryz.func125.trans (we some ac),
  f328:=Go.Proofs.Tryz.func150.trans (we some ac),
  f329:=Go.Proofs.Tryz.func151.trans (we some ac),
  f330:=Go.Proofs.Tryz.func152.trans (we some ac),
  f331:=Go.Proofs.Tryz.func153.trans (we some ac),
  f332:=Go.Proofs.Tryz.func154.trans (we some ac),
  f343:=Go.Proofs.Tryz.func175.trans (we some ac),
  t0:=Go.Proofs.Tryz.underlying0,
  a0:=Go.Proofs.Tryz.isAgg0,
  z0:=Go.Proofs.Tryz.sizeOf0,
  v0:=Go.Proofs.Tryz.zeroValue0,
  t3:=Go.Proofs.Tryz.underlying3,
  a3:=Go.Proofs.Tryz.isAgg3,
  z3:=Go.Proofs.Tryz.sizeOf3,
  v3:=Go.Proofs.Tryz.zeroValue3,
  t4:=Go.Proofs.Tryz.underlying4,
  a4:=Go.Proofs.Tryz.isAgg4,
  z4:=Go.Proofs.Tryz.sizeOf4,
  v4:=Go.Proofs.Tryz.zeroValue4,
  t5:=Go.Proofs.Tryz.underlying5,
  a5:=Go.Proofs.Tryz.isAgg5,
  z5:=Go.Proofs.Tryz.sizeOf5,
  v5:=Go.Proofs.Tryz.zeroValue5,
  t9:=Go.Proofs.Tryz.underlying9,
  a9:=Go.Proofs.Tryz.isAgg9,
  z9:=Go.Proofs.Tryz.sizeOf9,
  v9:=Go.Proofs.Tryz.zeroValue9,
  t28:=Go.Proofs.Tryz.underlying22,
  a28:=Go.Proofs.Tryz.isAgg22,
  z28:=Go.Proofs.Tryz.sizeOf22,
  v28:=Go.Proofs.Tryz.zeroValue22,
  t46:=Go.Proofs.Tryz.underlying159,
  a46:=Go.Proofs.Tryz.isAgg159,
  z46:=Go.Proofs.Tryz.sizeOf159,
  v46:=Go.Proofs.Tryz.zeroValue159,
  t51:=Go.Proofs.Tryz.underlying189,
  a51:=Go.Proofs.Tryz.isAgg189,
  z51:=Go.Proofs.Tryz.sizeOf189,
  v51:=Go.Proofs.Tryz.zeroValue189,
  t53:=Go.Proofs.Tryz.underlying191,
  a53:=Go.Proofs.Tryz.isAgg191,
  z53:=Go.Proofs.Tryz.sizeOf191,
  v53:=Go.Proofs.Tryz.zeroValue191,
  t131:=Go.Proofs.Tryz.underlying178,
  a131:=Go.Proofs.Tryz.isAgg178,
  z131:=Go.Proofs.Tryz.sizeOf178,
  v131:=Go.Proofs.Tryz.zeroValue178,
  t182:=Go.Proofs.Tryz.underlying182,
  a182:=Go.Proofs.Tryz.isAgg182,
  z182:=Go.Proofs.Tryz.sizeOf182,
  v182:=Go.Proofs.Tryz.zeroValue182,
  t183:=Go.Proofs.Tryz.underlying183,
  a183:=Go.Proofs.Tryz.isAgg183,
  z183:=Go.Proofs.Tryz.sizeOf183,
  v183:=Go.Proofs.Tryz.zeroValue183,
  t218:=Go.Proofs.Tryz.underlying210,
  a218:=Go.Proofs.Tryz.isAgg210,
  z218:=Go.Proofs.Tryz.sizeOf210,
  v218:=Go.Proofs.Tryz.zeroValue210,
  t222:=Go.Proofs.Tryz.underlying214,
  a222:=Go.Proofs.Tryz.isAgg214,
  z222:=Go.Proofs.Tryz.sizeOf214,
  v222:=Go.Proofs.Tryz.zeroValue214,
  t228:=Go.Proofs.Tryz.underlying230,
  a228:=Go.Proofs.Tryz.isAgg230,
  z228:=Go.Proofs.Tryz.sizeOf230,
  v228:=Go.Proofs.Tryz.zeroValue230,
  t229:=Go.Proofs.Tryz.underlying231,
  a229:=Go.Proofs.Tryz.isAgg231,
  z229:=Go.Proofs.Tryz.sizeOf231,
  v229:=Go.Proofs.Tryz.zeroValue231 }
open Go.Proofs.Tryz (prog)
def Fv:List V->Option (List Int)
 |[]=>some []
 | .int .i64 n::l=>(Fv l).map (n:: ·)
 |_=>none
theorem GO:∀ {l:List V} {a:List Int},Fv l=some a->l=a.map (V.int .i64)
 |[],a,h=>by cases h;rfl
 | .int .i64 n::l,a,h=>by
  simp only[Fv,Zd]at h;obtain⟨c,b,rfl⟩:=h;rw[GO b];rfl
def sorted(a:List Int):List Int:=a.mergeSort fun x y=>decide (x<=y)
def J6:List V->H->Option (V×H)
 |[.sl b off len _ _],h=>match h.get b with
  |some (.cells cs t fz)=>match Fv (KH len<|DJ off cs)with
   |some a=>bif Zc (B1 a) len&&(Zt len 140737488355328&&Zt fz.2 fz.1)then some (.tup [],h.put b<|.cells (cs.take off++((sorted a).map (V.int .i64)++cs.drop (off+len))) t fz)else none
   |none=>none
  |_=>none
 |_,_=>none
def Qm:Oh:=fun f=>bif Zc f 65 then some J6 else none
theorem JE(enc:Int->Value)(off:Nat)(d:Array Int)(c:Array Value)(i:Nat):(putCells enc off d c)[i]?=c[i]?.map fun x=>if off<=i/\i<off+d.size then enc d[i-off]! else x:=by
 unfold putCells;rw[Array.getElem?_mapIdx]
theorem JN{w:World}{r off:Nat}{d:Array Int}{c:Array Value}{t:TypeId}{fz:Nat×Nat}(h:w.heap[r]?=some (.cells c t fz)):(putRow (ZF .i64) w r off d).heap=w.heap.setIfInBounds r (.cells (putCells (ZF .i64) off d c) t fz):=by
 apply Array.ext_getElem?;intro k;show(w.heap.modify r _)[k]?=_;rw[Array.getElem?_modify,Array.getElem?_setIfInBounds];by_cases e:r=k
 ·subst e;have a:r<w.heap.size:=(Zu.1 h).1;rw[wa rfl,wa rfl,wa a,h];rfl
 ·rw[w9 e,w9 e]
theorem OT:HR prog Qm:=by
 intro f q M p h w args args' v h' hr hgp ha s;unfold Qm at M;cases U:Zc f 65 with
 |false=>rw[U]at M;cases M
 |true=>
  rw[U]at M;cases M;cases Zb U;unfold J6 at s;split at s
  case h_2=>cases s
  rename_i b off len cap o;split at s
  case h_2=>cases s
  rename_i cs t fz X;split at s
  case h_2=>cases s
  rename_i g hz;cases Q:(Zc (B1 g) len&&(Zt len 140737488355328&&Zt fz.2 fz.1))with
  |false=>rw[Q]at s;cases s
  |true=>
   rw[Q]at s;cases s;simp only[Za]at Q;obtain⟨y,K,I⟩:=Q;have y:=Zb y;have K:=Zq K;have I:=Zq I;rw[A9]at y;obtain⟨x,hl,h1⟩:=ha.one;have:args'= #[x]:=Array.toList_inj.1 hl;subst this;simp only[Aa]at h1;obtain⟨r,n,c,k1,rfl,k3,k4,_,_⟩:=h1;obtain⟨r',n',ob,g1,g2,g3⟩:=hr.obj b _ X;rw[k1]at g1;cases g1;simp only[Ey]at g3;obtain⟨ca,fz',rfl,hsz,g5,g6,g7⟩:=g3;have G:=GO hz;rw[DN,DE]at G;have J:(cs.drop off).length>=len:=by
    have:=we ZL G;rw[Zi,Zl]at this;omega
   rw[ZD]at J;have D:∀j,j<len->cs[off+j]?=some (.int .i64<|g[j]?.getD 0):=by
    intro j u;have S:=we (fun l=>l[j]?) G;simp only[List.getElem?_map]at S;rw[Zf u,Zn]at S;rw[S,Zj a8];rfl
   have O:∀j,j<len->ca[off+j]?=some (.int .i64<|g[j]?.getD 0):=by
    intro j u;have Y:=D j u;have A:off+j<(ca.toList.take cs.length).length:=by rw[<-g6.1];exact(Zz.1 Y).1
    have T:=g6.2 (off+j) _ _ Y (Zj A) rfl;simp only[Aa]at T;rw[List.getElem_take]at T;rw[<-Zr,Zj (by rw[Zi]at A;omega),T]
   have hH:Holds (ZF .i64) w r off g.toArray:=by
    intro j u;have u:j<g.length:=by simpa using u
    refine⟨?_,?_⟩
    ·unfold World.cell?;rw[g2];show ca[off+j]?=_;rw[O j a8,Zj u];simp[u]
    ·unfold World.frozen?;rw[g2];obtain⟨lo,R⟩:=fz';show(decide (lo<=off+j)&&decide (off+j<R))=false;rw[Bool.and_eq_false_iff,decide_eq_false_iff_not,decide_eq_false_iff_not];have W:off+j<n:=by
      have:=(Zu.1<|O j a8).1;omega
     by_cases k:lo<=off+j
     ·refine .inr fun a=>?_
      have:=g7 (off+j) W k a;omega
     ·exact .inl k
   have Z:=Any.slices_Sort_int (P:=prog) Q2 r off c g w hH (Zu.1 g2).1 a8;rw[y]at Z;refine Z.mono ?_;rintro e w' ⟨rfl,m,os,rfl⟩;have hsl:(sorted g).length=g.length:=List.length_mergeSort ..;have z:Ext p h w p (h.put b<|.cells (cs.take off++((sorted g).map (V.int .i64)++cs.drop (off+len))) t fz) (putRow (ZF .i64) (Go.Sort.ahead w m) r off (sorted g).toArray):=by
    have hh:(Go.Sort.ahead w m).heap[r]?=some (.cells ca t fz'):=g2;refine Ext.put hr X k1 (x':=Obj.cells (putCells (ZF .i64) off (sorted g).toArray ca) t fz') ?_ (JN hh) rfl rfl rfl ?_ (by show w.drawn<=w.drawn+m;omega)
    ·refine⟨_,fz',rfl,by simp[putCells,hsz],?_,⟨?_,?_⟩,g7⟩
     ·simp only[Zo,Zi,Zl,ZD];omega
     ·simp only[Zo,Zi,Zl,ZD,Array.length_toList];have:(putCells (ZF .i64) off (sorted g).toArray ca).size=n:=by simp[putCells,hsz]
      omega
     ·intro i d v k a L;have R:i<cs.length:=by
       have:=(Zz.1 k).1;simp only[Zo,Zi,Zl,ZD]at this;omega
      have a:(putCells (ZF .i64) off (sorted g).toArray ca)[i]?=some v:=by
       rw[List.getElem?_take]at a;split at a
       ·rw[<-Zr];exact a
       ·cases a
      rw[JE]at a;have E:i<ca.size:=a8
      rw[ZA E]at a;simp only[Option.map_some,Zg]at a;by_cases c1:i<off
      ·rw[ZG (by rw[Zi];omega),Zf c1]at k;rw[w9 a8]at a;subst a;refine g6.2 i d _ k ?_ L;rw[Zf R,Zr,ZA E]
      ·rw[Zv (by rw[Zi];omega),Zi,Nat.min_eq_left a8]at k;by_cases c2:i<off+len
       ·rw[ZG (by rw[Zl];omega),List.getElem?_map,Zj a8]at k;simp only[Option.map_some,Zg]at k;subst k;rw[wa ⟨by omega,by simp;omega⟩]at a;simp only[Aa];rw[<-a];congr 1;simp[show i-off<(sorted g).length by omega]
       ·rw[Zv (by rw[Zl];omega),Zl,Zn]at k;rw[show off+len+(i-off-(sorted g).length)=i by omega]at k;rw[w9<|by simp;omega]at a;subst a;refine g6.2 i d _ k ?_ L;rw[Zf R,Zr,ZA E]
    ·intro cs2 t2 fz2 he hk;cases he;unfold Lk at hk;omega
   refine⟨_,p,rfl,by simp[Aa],z.trans<|N6 z.rel ⟨rfl,rfl,rfl,by show _<=(Array.append _ os).size;exact Nat.le_trans (Nat.le_add_right _ _)<|Nat.le_of_eq (Array.size_append ..).symm,fun j u=>by show((putRow _ _ _ _ _).heap++os)[j]?=_;exact Array.getElem?_append_left u⟩<|Zh _⟩
end Go.Det
namespace Go.Pe
open Go.Det
@[reducible] def A5:List Sh->Sh
 |[]=>.unit
 |[a]=>a
 |a::b::l=>.pair a<|A5 (b::l)
def Ah:(l:List Sh)->(A5 l).T->List PV
 |[],_=>[]
 |[a],x=>[AO a x]
 |a::b::l,x=>AO a x.1::Ah (b::l) x.2
structure AE where
 ins:List Sh
 pre:(A5 ins).T->Bool
 outs:List Sh
 f:(A5 ins).T->(A5 outs).T
 nd:Bool:=false
def Sh.sc:Sh->Bool
 | .int _| .bool| .str| .unit| .fnv=>true
 | .list _| .nlist _| .ptr _=>false
 | .pair a b=>a.sc&&b.sc
structure E4 where
 ins:List Sh
 ty:TypeId
 el:Sh
 pre:(A5 ins).T->List el.T->Bool
 g:(A5 ins).T->List el.T->List el.T
 fst:Bool
def wj{α:Type}(b:Bool)(r:List α)(x:α):List α:=bif b then x::r else r++[x]
def UG{α:Type}(b:Bool)(a:List α):Option (α×List α):=bif b then(match a with|[]=>none|x::r=>some (x,r))else(match a.reverse with|[]=>none|x::r=>some (x,r.reverse))
structure AG where
 C:Ctx
 sp:FuncId->Option AE
 pl:FuncId->Nat->List Nat
 ct:FuncId->Nat->Bool
 fz:FuncId->Nat->List (Nat×Sh)
 ws:FuncId->Option E4:=fun _=>none
 esc:List FuncId:=[]
 escOk:∀g∈esc,C.prim g=some PK.noEsc.run:=by intro g h;cases h
def Dp(st:Ae)(s:Sh)(p:PV):Option (Bool×s.T):=
 bif HI p==s.Gs then
  match BM st p.cells with
  |some (c,cs)=>match BI s (Fc s.leaves cs).2 with
   |some x=>some ((Fc s.leaves cs).1&&c,x)
   |none=>none
  |none=>none
 else none
def A0(st:Ae):(l:List Sh)->List PV->Option (Bool×(A5 l).T)
 |[],[]=>some (true,())
 |[a],[p]=>Dp st a p
 |a::b::l,p::ps=>match Dp st a p,A0 st (b::l) ps with
  |some (c,x),some (d,y)=>some (c&&d,(x,y))
  |_,_=>none
 |_,_=>none
def one:List PV->PV
 |[v]=>v
 |l=>.tup l
def OI(sp:AE)(args:List PV)(st:Ae)(k:PV->Ae->Tr):Tr:=
 match A0 st sp.ins args with
 |some (c,i)=>.ite (c&&sp.pre i) (k (one<|Ah sp.outs<|sp.f i)<|bif sp.outs.all Sh.sc then st else Ak (args.flatMap PV.cells) st) .fail
 |none=>.fail
def Lr(w:E4)(args:List PV)(st:Ae)(k:PV->Ae->Tr):Tr:=
 match UG w.fst args with
 |some (.sl id sz 0 n none,r)=>match A0 st w.ins r,(Ak (r.flatMap PV.cells) st).obj id with
  |some (c,i),some (.arr false t s l)=>bif Zc t w.ty then
    match B5 (.list s) (.list w.el) l with
    |some l'=>.ite (c&&w.pre i l'&&decide (n=ZL (α:=w.el.T) l')&&Zc sz w.el.sz) (k (.tup [])<|(Ak (r.flatMap PV.cells) st).setObj id<|.arr false w.ty w.el<|w.g i l') .fail
    |none=>.fail
   else .fail
  |_,_=>.fail
 |some (.nil,r)=>match A0 st w.ins r with
  |some (c,i)=>.ite (c&&w.pre i []) (k (.tup [])<|Ak (r.flatMap PV.cells) st) .fail
  |none=>.fail
 |_=>.fail
mutual
def Uw:PV->List Nat
 | .ptr id _| .eptr id _ _ _| .sl id _ _ _ _| .mp id| .yl id=>[id]
 | .agg l| .tup l=>Es l
 | .fn _ a b=>Es a++Es b
 |_=>[]
def Es:List PV->List Nat
 |[]=>[]
 |v::vs=>Uw v++Es vs
end
def TY:Obj->List Nat
 | .box cs=>Es cs
 | .tbox _ cs=>Es cs
 | .lp _ _ _ _ _ _ _ sl=>Es (sl.map (·.2))
 |_=>[]
def DS(st:Ae)(base:Nat):Nat->List Nat->List Nat->List Nat
 |0,_,acc=>acc
 |_+1,[],acc=>acc
 |f+1,i::a,acc=>bif Zx i base||acc.any (Zc i)then DS st base f a acc
  else match st.obj i with
   |some o=>DS st base f (a++TY o)<|acc++[i]
   |none=>DS st base f a acc
def GR(base:Nat):List Nat->Nat->Nat->Option Nat
 |[],_,i=>bif Zx i base then some i else none
 |j::a,n,i=>bif Zc i j then some n else GR base a (ZE n 1) i
mutual
def Dq(f:Nat->Option Nat):PV->PV
 | .ptr i o=>match f i with|some j=>.ptr j o|none=>.any
 | .eptr i a b c=>match f i with|some j=>.eptr j a b c|none=>.any
 | .sl i a b c d=>match f i with|some j=>.sl j a b c d|none=>.any
 | .mp i=>match f i with|some j=>.mp j|none=>.any
 | .yl i=>match f i with|some j=>.yl j|none=>.any
 | .agg l=>.agg<|Ep f l
 | .tup l=>.tup<|Ep f l
 | .fn g a b=>.fn g (Ep f a)<|Ep f b
 |v=>v
def Ep(f:Nat->Option Nat):List PV->List PV
 |[]=>[]
 |v::vs=>Dq f v::Ep f vs
end
def GH(f:Nat->Option Nat):Obj->Obj
 | .box cs=>.box<|Ep f cs
 | .tbox t cs=>.tbox t<|Ep f cs
 | .lp g r ps asg body s n sl=>.lp g r ps asg body s n<|sl.map fun x=>(x.1,Dq f x.2)
 |o=>o
def low(f:Nat->Option Nat)(base:Nat):Ob->Ob
 |[]=>[]
 |(i,o)::l=>bif Zx i base then(i,GH f o)::low f base l else low f base l
def kept(st:Ae)(f:Nat->Option Nat):List Nat->Nat->Ob->Ob
 |[],_,a=>a
 |j::b,n,a=>match st.obj j with
  |some o=>kept st f b (ZE n 1) ((n,GH f o)::a)
  |none=>kept st f b (ZE n 1) a
def HJ(base:Nat):Ob->List Nat
 |[]=>[]
 |(i,o)::l=>bif Zx i base then TY o++HJ base l else HJ base l
def Ba(n:Nat)(vs:List (Nat×PV))(ob:Ob)(nx:Nat):Ae:=⟨n,BW vs,ob,nx⟩
def canon(base:Nat)(L:List Nat)(st:Ae):Ae:=
 let vs:=L.map fun t=>(t,st.get t)
 let a:=DS st base 100 (Es (vs.map (·.2))++HJ base st.ob) []
 let f:=GR base a base
 Ba st.n (vs.map fun x=>(x.1,Dq f x.2)) (kept st f a base<|low f base st.ob) (ZE base a.length)
def Rm(base:Nat)(x:Nat×Sh)(st:Ae):Ae:=
 match st.get x.1 with
 | .nil=>st.set x.1<|.dat (.list x.2) []
 | .sl id sz off len _=>match st.obj id with
  |some (.arr _ e s l)=>bif Zc sz s.sz then(st.setObj id<|.arr true e s l).set x.1 (.dat (.list s)<|(l.drop off).take len)else st
  |_=>st
 | .ptr id 0=>bif Zt base id then match st.obj id with
   |some (.box ps)=>match BI x.2 ps with
    |some v=>(st.Cm id).set x.1<|.BN x.2 v 0
    |none=>st
   |_=>st
  else st
 |_=>st
def OE(base:Nat):List (Nat×Sh)->Ae->Ae
 |[],st=>st
 |x::l,st=>OE base l<|Rm base x st
def Au:Code->Nat
 | .region id _ _=>id
 | .seq a _=>Au a
 | .block _ b=>Au b
 | .loop b=>Au b
 | .scope b=>Au b
 |_=>0
def FC(X:AG)(f:FuncId)(r:Nat)(base:Nat)(st:Ae):Ae:=canon base (X.pl f r)<|OE base (X.fz f r) st
inductive SK where
 |fn (g:FuncId)
 |rnd (id:Nat)
abbrev Cu:=SK->List PV->Ae->(PV->Ae->Tr)->Tr
def IL(d:Option Nat)(k:Ae->Tr):PO->Tr
 | .bad=>.fail
 | .val v st=>match st.put d v with
  |some st'=>k st'
  |none=>.fail
 | .ite c a b=>.ite c (IL d k a)<|IL d k b
inductive CK where
 |no
 |bad
 |yes (g:SK) (args:List PV)
def FE(st:Ae)(o:Op):CK:=
 match o with
 | .call c=>match c.callee with
  | .value f=>match H6 st f,Fx st c.args.toList with
   |some (.fn (.func g) first cap),some args=>.yes (.fn g)<|first++args++cap
   |some (.yl id),some args=>.yes (.rnd id) args
   |_,_=>.bad
  |_=>.no
 |_=>.no
def De(T:AF)(call:Cu)(o:Oper)(st:Ae)(k:Ae->Tr):Tr:=
 match FE st o.op with
 | .yes g args=>call g args st fun v st=>match st.put o.dst v with
  |some st'=>k st'
  |none=>.fail
 | .bad=>.fail
 | .no=>IL o.dst k<|pop o.op T st
def I3(T:AF)(st:Ae)(o:Op):Option (PV×Ae):=
 match o with
 | .convert s d x=>match T.und s,T.und d,H6 st x with
  |some .string,some<|.slice e,some (.dat .str l)=>match T.und e with
   |some (.int .u8)=>some (.sl st.nx 1 0 (ZL l) none,st.push<|.arr false e (.int .u8)<|List.map (fun b:UInt8=>(b.toNat:Int)) l)
   |_=>none
  |_,_,_=>none
 |_=>none
def SP(T:AF)(st:Ae)(o:Op):Option PV:=
 match o with
 | .convert s d x=>match T.und s,T.und d,H6 st x with
  |some (.pointer t),some .unsafePointer,some (.ptr id off)=>match T.inf t,st.obj id with
   |some i,some (.tbox _ cs)=>bif Zx 0 i.size&&Zx off (B1 cs)then some (.ptr id off)else none
   |_,_=>none
  |some .unsafePointer,some<|.pointer u,some (.ptr id off)=>match T.inf u,st.obj id with
   |some i,some (.tbox e cs)=>bif Zx 0 i.size&&Zt i.size (B1 cs)&&Zc e u&&Zc off 0 then some (.ptr id 0)else none
   |_,_=>none
  |_,_,_=>none
 |_=>none
def LP(T:AF)(st:Ae)(o:Op):Option (PV×Ae):=
 match I3 T st o with
 |some r=>some r
 |none=>match SP T st o with
  |some v=>some (v,st)
  |none=>none
def Sc(T:AF)(call:Cu)(o:Oper)(st:Ae)(k:Ae->Tr):Tr:=
 match LP T st o.op with
 |some (v,b)=>match b.put o.dst v with
  |some a=>k a
  |none=>.fail
 |none=>De T call o st k
def guarded(ops:Array Oper)(o:Oper)(st:Ae)(yes no:Ae->Tr):Tr:=
 match o.guard with
 |none=>yes st
 |some (j,a)=>match (ops[j]?).bind (·.dst)with
  |some t=>bif Zx t st.n then(match st.get t with
   | .bl b=>bif b==a then yes st else no st
   | .dat .bool b=>bif a then .ite b (yes<|st.set t<|.bl true) (no<|st.set t<|.bl false)else .ite b (no<|st.set t<|.bl true)<|yes<|st.set t<|.bl false
   | .tup _=>no st
   | .ub=>.both (bif a then yes (st.set t<|.bl true)else no<|st.set t<|.bl true)<|bif a then no (st.set t<|.bl false)else yes<|st.set t<|.bl false
   |_=>.fail)else .fail
  |none=>.fail
def FH(o:Oper)(k:Ae->Tr)(st:Ae):Tr:=
 match st.put o.dst (.tup [])with
 |some st'=>k st'
 |none=>.fail
def prun(T:AF)(call:Cu)(ops:Array Oper):List Oper->Ae->(Ae->Tr)->Tr
 |[],st,k=>k st
 |o::a,st,k=>guarded ops o st
   (fun st=>Sc T call o st fun st'=>prun T call ops a st' k)
   (fun st=>FH o (fun st'=>prun T call ops a st' k) st)
def RP(st:Ae)(o:Op):Option (List Nat):=
 match o with
 | .load _ x=>match H6 st x with
  |some (.ptr id _)|some (.eptr id _ _ _)=>some [id]
  |some (.BN _ _ _)=>some []
  |_=>none
 | .convert _ _ x=>match H6 st x with
  |some (.dat (.int _) _)|some (.dat .str _)=>some []
  |_=>none
 | .call c=>match c.callee,Fx st c.args.toList with
  | .builtin .len,some [.dat _ _]| .builtin .len,some [.sl _ _ _ _ _]| .builtin .len,some [.nil]=>some []
  | .builtin .len,some [.mp id]=>some [id]
  |_,_=>none
 | .lookup _ x _ _=>match H6 st x with
  |some (.mp id)=>some [id]
  |some .nilm=>some []
  |_=>none
 |_=>none
def CW(sp:FuncId->Option AE)(st:Ae)(o:Op):Option (List Nat):=
 match o with
 | .store _ x _=>match H6 st x with
  |some (.ptr id _)|some (.eptr id _ _ _)=>some [id]
  |_=>none
 | .mapUpdate _ x _ _| .insert _ x _ _=>match H6 st x with
  |some (.mp id)=>some [id]
  |_=>none
 | .makeMap _ _| .makeSlice _ _ _=>some []
 | .call c=>match c.callee with
  | .value f=>match H6 st f with
   |some (.fn (.func g) _ _)=>match sp g with
    |some _=>some []
    |none=>none
   |_=>none
  | .builtin .append=>match Fx st c.args.toList with
   |some (.sl id _ _ _ _::_)=>some [id]
   |some _=>some []
   |none=>none
  | .builtin .delete=>match Fx st c.args.toList with
   |some (.mp id::_)=>some [id]
   |_=>none
  | .builtin .unsafeString=>match Fx st c.args.toList with
   |some (.eptr id _ _ _::_)=>some [id]
   |_=>none
  |_=>none
 |_=>none
abbrev Rs:=List<|Nat×Option (List Nat)
def Kh:Option (List Nat)->Option (List Nat)->Bool
 |some a,some b=>a.all fun i=> !(b.any<|Zc i)
 |some [],none=>true
 |_,_=>false
def EW(st:Ae):Option (List Nat)->Bool
 |some l=>l.all fun i=>Ds<|st.obj i
 |none=>false
def apart(anc:Nat->Nat->Bool)(i:Nat)(st:Ae)(t:Option (List Nat))(a:Rs):Bool:=a.all fun r=>anc i r.1||(Kh r.2 t&&EW st r.2)
def behind(st:Ae)(t:Option (List Nat))(a:Rs):Rs:=a.map fun r=>bif Kh r.2 t&&EW st r.2 then r else(r.1,none)
def P3(st:Ae)(o:Op):Bool:=match FE st o with
 | .yes (.rnd _) _=>false
 |_=>true
def Et(T:AF)(sp:FuncId->Option AE)(call:Cu)(ops:Array Oper)(anc:Nat->Nat->Bool):List Nat->Ae->Rs->(Ae->Tr)->Tr
 |[],st,_,k=>k st
 |i::b,st,a,k=>match ops[i]? with
  |none=>.fail
  |some o=>guarded ops o st
    (fun st=>bif BO o then De T call o st (fun st'=>Et T sp call ops anc b st' (bif H9 o then(i,RP st o.op)::a else a) k)
     else bif AZ o then De T call o st (fun st'=>Et T sp call ops anc b st' a k)
     else bif apart anc i st (CW sp st o.op) a&&P3 st o.op then De T call o st (fun st'=>Et T sp call ops anc b st' (behind st (CW sp st o.op) a) k)else .fail)
    (fun st=>bif A1 o then(bif apart anc i st (some []) a then FH o (fun st'=>Et T sp call ops anc b st' (behind st (some []) a) k) st else .fail)
     else FH o (fun st'=>Et T sp call ops anc b st' a k) st)
def EP(X:AG)(f:FuncId)(r:Nat)(st:Ae):List (Nat×PV):=(X.pl f r).map fun t=>(t,st.get t)
def exec(X:AG)(call c:Cu)(nd ro:Bool)(d:Nat)(f:FuncId)(base:Nat):Code->Ae->(DX->Ae->Tr)->Tr
 | .skip,st,k| .label _,st,k=>k .normal st
 | .region _ ops dr,st,k=>bif dr then(bif !ro||Di ops (BS ops)then Et X.C.T X.sp c ops (BS ops).a (BS ops).ord st [] (k .normal)else .fail)else prun X.C.T call ops ops.toList st<|k .normal
 | .seq a b,st,k=>exec X call c nd ro d f base a st fun e st'=>match e with
  | .normal=>bif X.ct f (Au b)then .cut nd ro d f base b (FC X f (Au b) base st') k else exec X call c nd ro d f base b st' k
  |e=>k e st'
 | .cond x a b,st,k=>match H6 st x with
  |some (.bl t)=>bif t then exec X call c nd ro d f base a st k else exec X call c nd ro d f base b st k
  |some (.dat .bool t)=>match x with
   | .tmp s=>.ite t (exec X call c nd ro d f base a (st.set s<|.bl true) k)<|exec X call c nd ro d f base b (st.set s<|.bl false) k
   |_=>.ite t (exec X call c nd ro d f base a st k)<|exec X call c nd ro d f base b st k
  |some .ub=>match x with
   | .tmp s=>.both (exec X call c nd ro d f base a (st.set s<|.bl true) k)<|exec X call c nd ro d f base b (st.set s<|.bl false) k
   |_=>.fail
  |_=>.fail
 | .block id b,st,k=>exec X call c nd ro d f base b st fun e st'=>match e with
  | .exit i=>bif Zc i id then k .normal st' else k e st'
  |e=>k e st'
 | .loop b,st,k=>.loop nd ro d f base b (FC X f (Au b) base st) k
 | .exit i,st,k=>k (.exit i) st
 | .ret,st,k=>k .ret st
 | .scope b,st,k=>exec X call c nd ro d f base b st k
 | .rangeFunc g ps asg b,st,k=>bif ro then .fail else match H6 st g with
  |some (.fn (.func l) first cap)=>bif (X.C.prim l).isSome then .fail else
   call (.fn l) (first++[.yl st.nx]++cap) (st.push<|.lp f (Au b) ps asg b .ready st.n<|EP X f (Au b) st) fun _ j=>
    match j.obj st.nx with
    |some (.lp _ _ _ _ _ s _ _)=>match s with
     | .ready=>k .normal<|j.Cm st.nx
     | .ret=>k .ret<|j.Cm st.nx
     | .exit i=>k (.exit i)<|j.Cm st.nx
     | .busy=>.fail
    |_=>.fail
  |_=>.fail
 |_,_,_=>.fail
def Pf(T:AF)(st:Ae):ResultVar->Option PV
 | .tmp t=>some<|st.get t
 | .cell a t=>match F8 T st t (st.get a)with
  | .val v _=>some v
  | .DU _ v _=>some v
  |_=>none
def FR(T:AF)(st:Ae):List ResultVar->List Bool
 |[]=>[]
 | .tmp _::b=>FR T st b
 | .cell a t::b=>match F8 T st t (st.get a)with
  | .DU c _ _=>c::FR T st b
  |_=>FR T st b
def Jv:List Bool->Tr->Tr
 |[],t=>t
 |c::cs,t=>.ite c (Jv cs t) .fail
def O8(T:AF)(st:Ae):List ResultVar->Option (List PV)
 |[]=>some []
 |r::a=>match Pf T st r,O8 T st a with
  |some v,some vs=>some (v::vs)
  |_,_=>none
def B3:List PV->Nat->List (Nat×PV)
 |[],_=>[]
 |v::vs,i=>(i,v)::B3 vs (ZE i 1)
def enter(X:AG)(call a:Cu)(nd:Bool)(d:Nat)(f:FuncId)(args:List PV)(st:Ae)(k:PV->Ae->Tr):Tr:=
 match X.C.fn f with
 |none=>.fail
 |some i=>bif i.cert then
   exec X call a nd false d f st.nx i.body (Ba (ZE args.length<|Nat.sub i.ntmps args.length) (B3 args 0) st.ob st.nx) fun e s=>match e with
    | .exit _=>.fail
    |_=>match O8 X.C.T s i.results.toList with
     |some vs=>Jv (FR X.C.T s i.results.toList)<|k (one vs) ⟨st.n,st.fr,s.ob,s.nx⟩
     |none=>.fail
  else .fail
def FU:List Tmp->List PV->Ae->Ae
 |t::ts,v::vs,st=>FU ts vs<|bif Zx t st.n then st.set t v else st
 |_,_,st=>st
def K6(X:AG)(call c:Cu)(nd:Bool)(d:Nat)(id:Nat)(args:List PV)(st:Ae)(k:PV->Ae->Tr):Tr:=
 match st.obj id with
 |some (.lp f _ ps asg b .ready n sl)=>bif Zc args.length ps.size then
   exec X call c nd true d f st.nx asg (FU ps.toList args<|Ba n sl st.ob st.nx) fun e s=>match e with
   | .normal=>match s.obj id with
    |some (.lp w u p l x .ready y r)=>
     exec X call c nd true d f st.nx b (s.setObj id<|.lp w u p l x .busy y r) fun v s2=>
      match s2.obj id with
      |some (.lp t m j a o _ q g)=>match v with
       | .normal=>k (.bl true) ⟨st.n,st.fr,(s2.setObj id<|.lp t m j a o .ready q g).ob,s2.nx⟩
       | .ret=>k (.bl false) ⟨st.n,st.fr,(s2.setObj id<|.lp t m j a o .ret q g).ob,s2.nx⟩
       | .exit i=>k (.bl false) ⟨st.n,st.fr,(s2.setObj id<|.lp t m j a o (.exit i) q g).ob,s2.nx⟩
      |_=>.fail
    |_=>.fail
   |_=>.fail
  else .fail
 |_=>.fail
def Tx(args:List PV)(st:Ae)(k:PV->Ae->Tr):Tr:=
 match args with
 |[.ptr id off]=>bif Ds (st.obj id)then k (.ptr id off) st else .fail
 |_=>.fail
def AP(X:AG)(nd:Bool):Nat->Cu
 |0=>fun _ _ _ _=>.fail
 |d+1=>fun c args st k=>match c with
  | .fn g=>match X.sp g with
   |some sp=>bif nd|| !sp.nd then OI sp args st k else .fail
   |none=>match X.ws g with
    |some w=>Lr w args st k
    |none=>bif X.esc.any (Zc g)then Tx args st k else match X.C.prim g,X.C.spec g with
     |none,none=>enter X (AP X nd d) (AP X false d) nd d g args st k
     |_,_=>.fail
  | .rnd id=>K6 X (AP X nd d) (AP X false d) nd d id args st k
def O1:PV->Bool
 | .dat _ _| .BN _ _ _| .bl _| .nil=>true
 |_=>false
def IG(v:PV):Bool:=v.cells.all O1
def RZ:PV->Bool
 | .tup a=>a.all IG
 |v=>IG v
def Tm(v:PV)(ob:Ob):Ob:=bif RZ v then[]else ob
def tree(X:AG)(nd:Bool)(d:Nat)(f:FuncId)(args:List PV):Tr:=
 enter X (AP X nd d) (AP X false d) nd d f args (Ba 0 [] [] 0) fun v st=>.leaf v<|Tm v st.ob
def body(X:AG)(nd ro:Bool)(d:Nat)(f:FuncId)(base:Nat)(b:Code)(st:Ae)(k:DX->Ae->Tr):Tr:=
 exec X (AP X nd d) (AP X false d) nd ro d f base b st fun e st'=>match e with
  | .normal=>.loop nd ro d f base b (FC X f (Au b) base st') k
  |e=>k e st'
def TC(X:AG)(nd ro:Bool)(d:Nat)(f:FuncId)(base:Nat)(b:Code)(st:Ae)(k:DX->Ae->Tr):Tr:=exec X (AP X nd d) (AP X false d) nd ro d f base b st k
inductive Ev (X:AG) (Q:PV->Ob->Prop):Nat->Tr->Prop where
 |leaf {n:Nat} {v:PV} {ob:Ob}:Q v ob->Ev X Q n (.leaf v ob)
 |ite {n:Nat} {c:Bool} {a b:Tr}:(c=true->Ev X Q n a)->(c=false->Ev X Q n b)->Ev X Q n (.ite c a b)
 |both {n:Nat} {a b:Tr}:Ev X Q n a->Ev X Q n b->Ev X Q n (.both a b)
 |cut {n:Nat} {nd ro:Bool} {d:Nat} {f:FuncId} {base:Nat} {b:Code} {st:Ae} {k:DX->Ae->Tr}:Ev X Q n (TC X nd ro d f base b st k)->Ev X Q n (.cut nd ro d f base b st k)
 |alts {n m:Nat} {f:Nat->Tr}:(∀i,i<m->Ev X Q n (f i))->Ev X Q n (.alts m f)
 |loop {n:Nat} {nd ro:Bool} {d:Nat} {f:FuncId} {base:Nat} {b:Code} {st:Ae} {k:DX->Ae->Tr}:Ev X Q n (body X nd ro d f base b st k)->Ev X Q (n+1) (.loop nd ro d f base b st k)
abbrev Fz:=Nat->Option (List V)
abbrev BB:=Nat->Option (Nat×Nat)
def DC(F:Fz):(s:Sh)->s.T->List V->Prop
 | .int k,x,cs=>cs=[.int k x]
 | .bool,x,cs=>cs=[.bool x]
 | .str,x,cs=>cs=[.str x]
 | .list s,l,cs=>∃v,cs=[v]/\((l=[]/\(v=.nils\/v=.esl\/v=.es0))\/
   ∃b off cap o e,v=.sl b off l.length cap o/\l.length<=cap/\F b=some e/\off+l.length*s.sz<=e.length/\(o=0\/o=s.sz)/\
    ∀i (h:i<l.length),DC F s l[i]<|(e.drop<|off+i*s.sz).take s.sz)
 | .pair a b,x,cs=>∃c d,cs=c++d/\DC F a x.1 c/\DC F b x.2 d
 | .unit,_,cs=>cs=[]
 | .fnv,x,cs=>cs=[match (x:Option Fn)with|some f=>.fn f [] []|none=>.nilf]
 | .ptr s,x,cs=>∃b o e,cs=[.ptr b o]/\F b=some e/\o+s.sz<=e.length/\DC F s x ((e.drop o).take s.sz)
 | .nlist s,l,cs=>∃v,cs=[v]/\((l=[]/\v=.nils)\/(l≠[]/\
   ∃b off cap o e,v=.sl b off l.length cap o/\l.length<=cap/\F b=some e/\off+l.length*s.sz<=e.length/\(o=0\/o=s.sz)/\
    ∀i (h:i<l.length),DC F s l[i]<|(e.drop<|off+i*s.sz).take s.sz))
theorem DC.len{F:Fz}:∀ {s:Sh} {x:s.T} {cs:List V},DC F s x cs->cs.length=s.sz
 | .int _,_,_,h=>by subst h;rfl
 | .bool,_,_,h=>by subst h;rfl
 | .str,_,_,h=>by subst h;rfl
 | .list _,_,_,h=>by obtain⟨v,rfl,_⟩:=h;rfl
 | .pair a b,x,_,h=>by
  obtain⟨c,d,rfl,f,e⟩:=h;rw[Zo,f.len,e.len];rfl
 | .unit,_,_,h=>by subst h;rfl
 | .nlist _,_,_,h=>by obtain⟨v,rfl,_⟩:=h;rfl
 | .fnv,_,_,h=>by subst h;rfl
 | .ptr _,_,_,h=>by obtain⟨b,o,g,rfl,_⟩:=h;rfl
theorem DC.ok{F:Fz}:∀ {s:Sh} {x:s.T} {cs:List V},DC F s x cs->∀v∈cs,v.ok=true
 | .int _,_,_,h=>by grind [DC,ZM]
 | .bool,_,_,h=>by grind [DC,ZM]
 | .str,_,_,h=>by grind [DC,ZM]
 | .list s,_,_,h=>by
  obtain⟨v,rfl,⟨_,rfl|rfl|rfl⟩|⟨b,off,cap,o,f,rfl,_⟩⟩:=h<;>simp[ZM]
 | .pair a b,x,_,h=>by
  obtain⟨c,d,rfl,i,g⟩:=h;intro v e;rcases List.mem_append.1 e with e|e
  ·exact i.ok v e
  ·exact g.ok v e
 | .unit,_,_,h=>by grind [DC]
 | .fnv,x,_,h=>by subst h;intro v e;rw[Zp.1 e];cases (x:Option Fn)<;>rfl
 | .nlist s,_,_,h=>by
  obtain⟨v,rfl,⟨_,rfl⟩|⟨_,b,off,cap,o,f,rfl,_⟩⟩:=h<;>simp[ZM]
 | .ptr _,_,_,h=>by obtain⟨b,o,f,rfl,_⟩:=h;simp[ZM]
theorem DC.mono{F F':Fz}(e:∀b cs,F b=some cs->F' b=some cs):∀ {s:Sh} {x:s.T} {cs:List V},DC F s x cs->DC F' s x cs
 | .int _,_,_,h=>by simpa only[DC]using h
 | .bool,_,_,h=>by simpa only[DC]using h
 | .str,_,_,h=>by simpa only[DC]using h
 | .list s,l,_,h=>by
  obtain⟨v,rfl,h⟩:=h;refine⟨v,rfl,?_⟩;rcases h with h|⟨b,off,cap,o,m,g,f,j,k,p,n⟩
  ·grind
  ·exact .inr ⟨b,off,cap,o,m,g,f,e _ _ j,k,p,fun i q=>(n i q).mono e⟩
 | .pair a b,x,_,h=>by
  obtain⟨c,d,rfl,g,f⟩:=h;exact⟨c,d,rfl,g.mono e,f.mono e⟩
 | .unit,_,_,h=>by simpa only[DC]using h
 | .fnv,_,_,h=>by simpa only[DC]using h
 | .ptr s,x,_,h=>by
  obtain⟨b,o,m,g,f,j,k⟩:=h;exact⟨b,o,m,g,e _ _ f,j,k.mono e⟩
 | .nlist s,l,_,h=>by
  obtain⟨v,rfl,h⟩:=h;refine⟨v,rfl,?_⟩;rcases h with h|⟨h0,b,off,cap,o,m,g,f,j,k,p,n⟩
  ·grind
  ·exact .inr ⟨h0,b,off,cap,o,m,g,f,e _ _ j,k,p,fun i q=>(n i q).mono e⟩
theorem DC.nl{F:Fz}{s:Sh}{l:List s.T}{cs:List V}(h:DC F (.nlist s) l cs):DC F (.list s) l cs:=by
 simp only[DC]at h ⊢;obtain⟨v,rfl,h⟩:=h;rcases h with⟨rfl,rfl⟩|⟨_,h⟩
 ·simp
 simp_all
theorem DC.UX{F:Fz}{s:Sh}{l:List s.T}{cs:List V}(h:DC F (.list s) l cs)(h0:0<l.length):DC F (.nlist s) l cs:=by
 have a:l≠[]:=ae
 simp_all [DC]
mutual
def PR(F:Fz)(ρ:BB)(N:Nat):PV->V->Prop
 | .any,_=>True
 | .bl b,v=>v=.bool b
 | .ub,v=>∃b,v=.bool b
 | .dat s x,v=>DC F s x [v]
 | .nil,v=>v=.nils
 | .nilp,v=>v=.nilp
 | .nilm,v=>v=.nilm
 | .nilf,v=>v=.nilf
 | .nili,v=>v=.nili
 | .agg l,v=>∃cs,v=.agg cs/\Ay F ρ N l cs
 | .tup l,v=>∃cs,v=.tup cs/\Ay F ρ N l cs
 | .ptr id off,v=>id<N/\∀b n,ρ id=some (b,n)->v=.ptr b off
 | .eptr id sz i off,v=>id<N/\∀b n,ρ id=some (b,n)->v=.ptr b (i*sz+off)
 | .BN s x off,v=>∃b o cs,v=.ptr b (o+off)/\F b=some cs/\o+s.sz<=cs.length/\DC F s x ((cs.drop o).take s.sz)
 | .sl id sz off len cap,v=>id<N/\∀b n,ρ id=some (b,n)->
   (len<=cap.getD len/\off+cap.getD len<=n/\∃o,(o=0\/o=sz)/\v=.sl b (off*sz) len (cap.getD len) o)\/
   (len=0/\cap=some 0/\off<=n/\(v=.esl\/∃c,v=.sl b c 0 0 0/\c<=off*sz))
 | .mp id,v=>id<N/\∀b n,ρ id=some (b,n)->v=.map b
 | .fn f first captured,v=>∃a b,v=.fn f a b/\Ay F ρ N first a/\Ay F ρ N captured b
 | .yl id,v=>id<N/\∀b n,ρ id=some (b,n)->v=.yld b
def Ay(F:Fz)(ρ:BB)(N:Nat):List PV->List V->Prop
 |[],l=>l=[]
 |p::ps,l=>∃v vs,l=v::vs/\PR F ρ N p v/\Ay F ρ N ps vs
end
section
variable {F F':Fz}{ρ ρ':BB}{N N':Nat}
@[simp] theorem Bs(l:List V):Ay F ρ N [] l↔l=[]:=by rfl
@[simp] theorem Ax(p:PV)(ps:List PV)(v:V)(vs:List V):Ay F ρ N (p::ps) (v::vs)↔PR F ρ N p v/\Ay F ρ N ps vs:=by
 simp only[Ay];grind
theorem Ay.len:∀ {ps:List PV} {vs:List V},Ay F ρ N ps vs->ps.length=vs.length
 |[],vs,h=>by simp_all
 |p::ps,vs,h=>by
  obtain⟨v,vs,rfl,_,a⟩:=h;simp[a.len]
theorem Ay.append:∀ {a:List PV} {x:List V} {b:List PV} {y:List V},Ay F ρ N a x->Ay F ρ N b y->Ay F ρ N (a++b) (x++y)
 |[],x,b,y,h,h'=>by simp_all
 |p::ps,x,b,y,h,h'=>by
  obtain⟨v,vs,rfl,c,d⟩:=h;simp only[List.cons_append,Ax];exact⟨c,d.append h'⟩
theorem Ay.drop:∀ {a:List PV} {x:List V} (n:Nat),Ay F ρ N a x->Ay F ρ N (a.drop n) (x.drop n)
 |[],x,n,h=>by simp_all
 |p::ps,x,0,h=>by grind
 |p::ps,x,n+1,h=>by
  obtain⟨v,vs,rfl,c,b⟩:=h;simpa using b.drop n
theorem Ay.take:∀ {a:List PV} {x:List V} (n:Nat),Ay F ρ N a x->Ay F ρ N (a.take n) (x.take n)
 |[],x,n,h=>by simp_all
 |p::ps,x,0,h=>by simp
 |p::ps,x,n+1,h=>by
  obtain⟨v,vs,rfl,b,c⟩:=h;simpa using⟨b,c.take n⟩
theorem Ay.get:∀ {a:List PV} {x:List V},Ay F ρ N a x->∀ {i:Nat} {p:PV},a[i]?=some p->∃v,x[i]?=some v/\PR F ρ N p v
 |[],x,h,i,p,b=>by grind
 |q::ps,x,h,i,p,b=>by
  obtain⟨v,vs,rfl,d,c⟩:=h;cases i with
  |zero=>grind
  |succ i=>simpa using c.get b
structure Le(F:Fz)(ρ:BB)(N:Nat)(F':Fz)(ρ':BB)(N':Nat):Prop where
 fz:∀b cs,F b=some cs->F' b=some cs
 rho:∀id,id<N->ρ' id=ρ id\/ρ' id=none
 n:N<=N'
theorem Le.refl:Le F ρ N F ρ N:=⟨fun _ _ h=>h,(by simp),Zh _⟩
theorem Le.trans{f:Fz}{d:BB}{g:Nat}(a:Le F ρ N F' ρ' N')(b:Le F' ρ' N' f d g):Le F ρ N f d g:=
 ⟨fun c cs h=>b.fz c cs<|a.fz c cs h,fun id h=>by
  rcases b.rho id (Zk h a.n)with e|e
  ·rw[e];exact a.rho id h
  grind,Nat.le_trans a.n b.n⟩
theorem Le.at(a:Le F ρ N F' ρ' N'){id:Nat}(h:id<N){x:Nat×Nat}(b:ρ' id=some x):ρ id=some x:=by
 rcases a.rho id h with e|e
 ·grind
 grind
mutual
theorem PR.mono(c:Le F ρ N F' ρ' N'):∀ {p:PV} {v:V},PR F ρ N p v->PR F' ρ' N' p v
 | .any,_,_=>by simp[PR]
 | .bl _,_,h=>by simpa only[PR]using h
 | .ub,_,h=>by simpa only[PR]using h
 | .dat s x,_,h=>by simp only[PR]at h ⊢;exact h.mono c.fz
 | .nil,_,h| .nilp,_,h| .nilm,_,h| .nilf,_,h| .nili,_,h=>by simpa only[PR]using h
 | .agg l,_,h=>by obtain⟨cs,rfl,e⟩:=h;exact⟨cs,rfl,e.mono c⟩
 | .tup l,_,h=>by obtain⟨cs,rfl,e⟩:=h;exact⟨cs,rfl,e.mono c⟩
 | .ptr _ _,_,h=>by exact⟨Zk h.1 c.n,fun b n d=>h.2 b n<|c.at h.1 d⟩
 | .eptr _ _ _ _,_,h=>by exact⟨Zk h.1 c.n,fun b n d=>h.2 b n<|c.at h.1 d⟩
 | .BN s x off,_,h=>by
  obtain⟨b,o,cs,e,g,i,j⟩:=h;exact⟨b,o,cs,e,c.fz _ _ g,i,j.mono c.fz⟩
 | .sl _ _ _ _ _,_,h=>by exact⟨Zk h.1 c.n,fun b n d=>h.2 b n<|c.at h.1 d⟩
 | .mp _,_,h=>by exact⟨Zk h.1 c.n,fun b n d=>h.2 b n<|c.at h.1 d⟩
 | .fn f a b,_,h=>by
  obtain⟨x,y,rfl,e,g⟩:=h;exact⟨x,y,rfl,e.mono c,g.mono c⟩
 | .yl _,_,h=>by exact⟨Zk h.1 c.n,fun b n d=>h.2 b n<|c.at h.1 d⟩
theorem Ay.mono(a:Le F ρ N F' ρ' N'):∀ {ps:List PV} {vs:List V},Ay F ρ N ps vs->Ay F' ρ' N' ps vs
 |[],_,h=>by simp_all
 |p::ps,_,h=>by
  obtain⟨v,vs,rfl,b,c⟩:=h;exact⟨v,vs,rfl,b.mono a,c.mono a⟩
end
theorem PR.lz:∀ {p:PV} {v:V},PR F ρ N p v->PR F ρ N (lz p) v:=by
 intro p v h;unfold Pe.lz;split
 ·exact h.nl
 omega
theorem Ay.lz:∀ {ps:List PV} {vs:List V},Ay F ρ N ps vs->Ay F ρ N (ps.map Pe.lz) vs
 |[],_,h=>by grind
 |p::ps,_,h=>by
  obtain⟨v,vs,rfl,a,b⟩:=h;simp only[List.map_cons,Ax];exact⟨a.lz,b.lz⟩
theorem NT{s:Sh}{p:PV}{v:V}(h:PR F ρ N p v)(a:(Kn s p).1=true):PR F ρ N (Kn s p).2 v:=by
 unfold Kn at a ⊢;split
 ·rename_i s b x;cases c:(s==b)with
  |false=>exact h
  |true=>
   have a:(bif s==b then(decide (0<ZL x),PV.dat b.nlist x)else(true,PV.dat b.list x)).1=true:=a;rw[c]at a;simp only[wb,w5]at a;exact h.UX a
 ·rename_i s b x;cases c:(s==b)with
  |false=>exact h
  |true=>exact h.nl
 omega
theorem IN:∀ {l:List Sh} {ps:List PV} {vs:List V},Ay F ρ N ps vs->(Fc l ps).1=true->Ay F ρ N (Fc l ps).2 vs
 |[],ps,vs,h,_=>h
 |s::l,[],vs,h,_=>h
 |s::l,p::ps,vs,h,a=>by
  obtain⟨v,vs,rfl,b,c⟩:=h;simp only[Fc,Za]at a;simp only[Fc,Ax];exact⟨NT b a.1,IN c a.2⟩
def Bk(F:Fz)(s:Sh)(l:List s.T)(cs:List V):Prop:=cs.length=l.length*s.sz/\∀i (h:i<l.length),DC F s l[i]<|(cs.drop<|i*s.sz).take s.sz
theorem Bk.mono(a:∀b cs,F b=some cs->F' b=some cs){s:Sh}{l:List s.T}{cs:List V}(h:Bk F s l cs):Bk F' s l cs:=⟨h.1,fun i c=>(h.2 i c).mono a⟩
theorem Bk.ok{F:Fz}{s:Sh}{l:List s.T}{cs:List V}(h:Bk F s l cs):∀v∈cs,v.ok=true:=by
 intro v d;obtain⟨k,f⟩:=List.mem_iff_getElem?.1 d;have a:=(Zz.1 f).1;have b:0<s.sz:=by
  rcases Nat.eq_zero_or_pos s.sz with e|e
  ·rw[h.1,e,Nat.mul_zero]at a;omega
  omega
 have c:k/s.sz<l.length:=Nat.div_lt_of_lt_mul (by rw[Nat.mul_comm, <-h.1];exact a);refine(h.2 _ c).ok v ?_;refine List.mem_iff_getElem?.2 ⟨k % s.sz,?_⟩;grind [Nat.mod_lt,Nat.div_add_mod]
def DV(F:Fz)(s:Sh)(x:s.T)(v:V):Prop:=(s.Gs=true->∃cs,v=.agg cs/\DC F s x cs)/\(s.Gs=false->DC F s x [v])
theorem DV.mono(a:∀b cs,F b=some cs->F' b=some cs){s:Sh}{x:s.T}{v:V}(h:DV F s x v):DV F' s x v:=
 ⟨fun e=>by obtain⟨cs,c,d⟩:=h.1 e;exact⟨cs,c,d.mono a⟩,fun e=>(h.2 e).mono a⟩
inductive MR (F:Fz) (ks vs:Sh):List (ks.T×vs.T)->List (V×V×Nat)->Prop where
 |nil:MR F ks vs [] []
 |cons {k:ks.T} {v:vs.T} {l:List (ks.T×vs.T)} {a b:V} {n:Nat} {es:List (V×V×Nat)}:DV F ks k a->DV F vs v b->MR F ks vs l es->MR F ks vs ((k,v)::l) ((a,b,n)::es)
theorem MR.mono(a:∀b cs,F b=some cs->F' b=some cs){ks vs:Sh}{l:List (ks.T×vs.T)}{es:List (V×V×Nat)}(h:MR F ks vs l es):MR F' ks vs l es:=by
 induction h with
 |nil=>exact .nil
 |cons c e _ d=>exact .cons (c.mono a) (e.mono a) d
def HL(sl:List (Nat×PV))(t:Nat):PV:=((BW sl).get t).getD .any
def UP:RW->LoopState->Option Code->Prop
 | .ready,st,a=>st=.ready/\a=none
 | .busy,st,_=>st=.busy
 | .ret,st,a=>st=.done/\a=some .ret
 | .exit i,st,a=>st=.done/\a=some (.exit i)
def K9(F:Fz)(ρ:BB)(N n:Nat):Obj->O->Prop
 | .arr _ e s l,o=>∃cs fz,o=.cells cs e fz/\Bk F s l cs/\fz.2<=fz.1/\l.length=n
 | .box ps,o=>∃cs t fz,o=.cells cs t fz/\Ay F ρ N ps cs/\fz.2<=fz.1/\∀v∈cs,v.ok=true
 | .tbox t ps,o=>∃cs fz,o=.cells cs t fz/\Ay F ρ N ps cs/\fz.2<=fz.1/\∀v∈cs,v.ok=true
 | .map ks vs l,o=>∃es a,o=.map es a/\MR F ks vs l es
 | .siter s pos,o=>o=.siter s pos
 | .lp _ _ ps asg body s n' sl,o=>∃ls,o=.loop ls/\ls.ps=ps/\ls.asg=asg/\ls.body=body/\UP s ls.st ls.pend/\ls.fr.n=n'/\∀t,PR F ρ N (HL sl t)<|ls.fr.get t
theorem K9.mono(d:Le F ρ N F' ρ' N'){n:Nat}{x:Obj}{o:O}(h:K9 F ρ N n x o):K9 F' ρ' N' n x o:=by
 cases x with
 |arr fz e s l=>obtain⟨cs,f,b,a,c⟩:=h;exact⟨cs,f,b,a.mono d.fz,c⟩
 |box ps=>obtain⟨cs,t,f,b,a,c⟩:=h;exact⟨cs,t,f,b,a.mono d,c⟩
 |tbox t ps=>obtain⟨cs,f,b,a,c⟩:=h;exact⟨cs,f,b,a.mono d,c⟩
 |map ks vs l=>obtain⟨es,g,b,a⟩:=h;exact⟨es,g,b,a.mono d.fz⟩
 |siter s pos=>exact h
 |lp f r ps asg body s n sl=>obtain⟨ls,b,a,c,m,i,k,j⟩:=h;exact⟨ls,b,a,c,m,i,k,fun t=>(j t).mono d⟩
def Obj.frozen:Obj->Bool
 | .arr fz _ _ _=>fz
 |_=>false
structure H0 where
 h:H
 F:Fz
 pin:List Nat
 ex:Nat->Prop:=fun _=>False
def H0.pins(h0:H0)(ps:List Nat):H0:={ h0 with pin:=ps++h0.pin }
def H0.Nc(h0:H0)(B b:Nat):Prop:=B<=b\/h0.ex b
theorem Gt{h0:H0}{B b c:Nat}(h:h0.Nc B b)(d:c<B)(a:¬h0.ex c):c≠b:=by
 rcases h with h|h
 ·omega
 grind
structure SR(B:Nat)(h0:H0)(F:Fz)(ρ:BB)(N:Nat)(ob:Ob)(h:H):Prop where
 obj:∀id o,Af ob id=some o->∃b n x,ρ id=some (b,n)/\h.get b=some x/\K9 F ρ N n o x/\(o.frozen=false->F b=none)/\
  (o.frozen=true->∃cs t fz,x=.cells cs t fz/\F b=some cs)
 inj:∀id id' o o' b n n',Af ob id=some o->Af ob id'=some o'->ρ id=some (b,n)->ρ id'=some (b,n')->id=id'
 frz:∀b cs,F b=some cs->∃t fz,h.get b=some (.cells cs t fz)
 own:∀id b n,ρ id=some (b,n)->id<N/\h0.Nc B b
 dead:∀id,Af ob id=none->ρ id=none
 old:∀b,b<B->¬h0.ex b->h.get b=h0.h.get b
 lt:∀b o,h.get b=some o->b<h.nx
 le:B<=h.nx
 fo:∀b cs,F b=some cs->h0.F b=some cs\/h0.Nc B b
 gl:∀x∈CG,x.1<B/\¬h0.ex x.1/\h0.h.get x.1=some x.2
 pn:∀b∈h0.pin,h.get b=some (.defd true)/\B<=b/\∀id n,ρ id≠some (b,n)
structure FP(F:Fz)(ρ:BB)(N:Nat)(st:Ae)(fr:Fr):Prop where
 n:st.n=fr.n
 slot:∀t,PR F ρ N (st.get t) (fr.get t)
theorem FP.mono(a:Le F ρ N F' ρ' N'){st:Ae}{fr:Fr}(h:FP F ρ N st fr):FP F' ρ' N' st fr:=⟨h.n,fun t=>(h.slot t).mono a⟩
end
section
variable {B:Nat}{h0:H0}{F:Fz}{ρ:BB}{N:Nat}
mutual
theorem Mu:∀ {v:Value} {p:PV},Gm v=some p->∃x,cv v=some x/\PR F ρ N p x
 | .bool b,p,h=>by simp[Gm]at h;subst h;exact⟨_,rfl,by simp[PR]⟩
 | .int k n,p,h=>by simp[Gm]at h;subst h;exact⟨_,rfl,by rfl⟩
 | .string s,p,h=>by simp[Gm]at h;subst h;exact⟨_,rfl,by rfl⟩
 | .pointer none,p,h=>by simp[Gm]at h;subst h;exact⟨_,rfl,by simp[PR]⟩
 | .pointer (some a),p,h=>by simp[Gm]at h
 | .slice none 0 0,p,h=>by simp[Gm]at h;subst h;exact⟨_,rfl,by simp[PR]⟩
 | .slice none 0 (_+1),p,h=>by simp[Gm]at h
 | .slice none (_+1) _,p,h=>by simp[Gm]at h
 | .slice (some a) _ _,p,h=>by simp[Gm]at h
 | .map none,p,h=>by simp[Gm]at h;subst h;exact⟨_,rfl,by simp[PR]⟩
 | .map (some a),p,h=>by simp[Gm]at h
 | .nilFunc,p,h=>by simp[Gm]at h;subst h;exact⟨_,rfl,by simp[PR]⟩
 | .nilIface,p,h=>by simp[Gm]at h;subst h;exact⟨_,rfl,by simp[PR]⟩
 | .func f ⟨[]⟩ ⟨[]⟩,p,h=>by simp[Gm]at h;subst h;exact⟨_,rfl,by simp[PR]⟩
 | .func f ⟨_::_⟩ _,p,h=>by simp[Gm]at h
 | .func f ⟨[]⟩ ⟨_::_⟩,p,h=>by simp[Gm]at h
 | .agg ⟨cs⟩,p,h=>by
  simp only[Gm,Zd]at h;obtain⟨d,c,rfl⟩:=h;obtain⟨ys,h2,h3⟩:=HY c;simp_all [cv,PR]
 | .tuple ⟨cs⟩,p,h=>by
  simp only[Gm,Zd]at h;obtain⟨d,c,rfl⟩:=h;obtain⟨ys,h2,h3⟩:=HY c;simp_all [cv,PR]
 | .float _ _,p,h=>by simp[Gm]at h
 | .complex _ _ _,p,h=>by simp[Gm]at h
 | .chan _,p,h=>by simp[Gm]at h
 | .iface _ _,p,h=>by simp[Gm]at h
theorem HY:∀ {vs:List Value} {ps:List PV},Nh vs=some ps->∃a,RX vs=some a/\Ay F ρ N ps a
 |[],ps,h=>by simp[Nh]at h;subst h;exact⟨[],rfl,by simp⟩
 |v::vs,ps,h=>by
  unfold Nh at h;split at h
  case h_2=>cases h
  rename_i x a b c;cases h;obtain⟨y,e,d⟩:=Mu b;obtain⟨ys,g3,g4⟩:=HY c;simp_all [RX]
end
theorem Rq(v:V):PR F ρ N (Mj v) v:=by
 cases v<;>simp[Mj,PR,DC]
theorem BE:∀vs:List V,Ay F ρ N (vs.map Mj) vs
 |[]=>by simp
 |v::vs=>by simp only[List.map_cons,Ax];exact⟨Rq v,BE vs⟩
variable {C:Ctx}{st st':Ae}{fr:Fr}{h:H}
theorem AH(b:FP F ρ N st fr){x:Operand}{p:PV}(a:H6 st x=some p):∃v,ev C fr x=some v/\PR F ρ N p v:=by
 cases x with
 |tmp t=>simp only[H6,Zg]at a;subst a;exact⟨_,rfl,b.slot t⟩
 |const v=>exact Mu a
 |global g=>simp[H6]at a
 |func f=>simp only[H6,Zg]at a;subst a;exact⟨_,rfl,by simp[PR]⟩
theorem B4(c:FP F ρ N st fr):∀ {b:List Operand} {ps:List PV},Fx st b=some ps->∃vs,JW C fr b=some vs/\Ay F ρ N ps vs
 |[],ps,a=>by simp[Fx]at a;subst a;exact⟨[],rfl,by simp⟩
 |x::b,ps,a=>by
  unfold Fx at a;split at a
  case h_2=>cases a
  rename_i v vs d e;cases a;obtain⟨y,g,f⟩:=AH (C:=C) c d;obtain⟨ys,g3,g4⟩:=B4 c e;simp_all [JW]
inductive SI (F:Fz) (ρ:BB) (N:Nat):List (Nat×PV)->List (Nat×V)->Prop
 |nil:SI F ρ N [] []
 |cons {i:Nat} {p:PV} {v:V} {l:List (Nat×PV)} {l':List (Nat×V)}:PR F ρ N p v->SI F ρ N l l'->SI F ρ N ((i,p)::l) ((i,v)::l')
theorem HA(c:FP F ρ N st fr):∀ {b:List (Nat×Operand)} {ps:List (Nat×PV)},ND st b=some ps->∃vs,Lq C fr b=some vs/\SI F ρ N ps vs
 |[],ps,a=>by simp[ND]at a;subst a;exact⟨[],rfl,.nil⟩
 |(i,x)::b,ps,a=>by
  unfold ND at a;split at a
  case h_2=>cases a
  rename_i v vs e f;cases a;obtain⟨y,g,d⟩:=AH (C:=C) c e;obtain⟨ys,g3,g4⟩:=HA c f;exact⟨(i,y)::ys,by simp[Lq,g,g3],.cons d g4⟩
structure Rel(B:Nat)(h0:H0)(F:Fz)(ρ:BB)(st:Ae)(fr:Fr)(h:H):Prop where
 fp:FP F ρ st.nx st fr
 sr:SR B h0 F ρ st.nx st.ob h
inductive PO.To:PO->PV->Ae->Prop
 |val {v:PV} {st:Ae}:PO.To (.val v st) v st
 |tt {a b:PO} {v:PV} {st:Ae}:PO.To a v st->PO.To (.ite true a b) v st
 |ff {a b:PO} {v:PV} {st:Ae}:PO.To b v st->PO.To (.ite false a b) v st
@[simp] theorem FB{v:PV}{s:Ae}:¬PO.To .bad v s:=by intro h;cases h
@[simp] theorem AL{v u:PV}{s t:Ae}:PO.To (.val v s) u t↔v=u/\s=t:=by
 constructor
 ·intro h;cases h;simp
 ·rintro⟨rfl,rfl⟩;exact .val
@[simp] theorem AK{c:Bool}{v u:PV}{s t:Ae}:PO.To (.DU c v s) u t↔c=true/\v=u/\s=t:=by
 constructor
 ·intro h;cases h with
  |tt h=>simp_all
  |ff h=>cases h
 ·rintro⟨rfl,rfl,rfl⟩;exact .tt .val
@[simp] theorem IM{o:Option PV}{u:PV}{s t:Ae}:PO.To (ov s o) u t↔o=some u/\s=t:=by
 cases o with
 |none=>simp[ov]
 |some v=>simp only[ov,AL,Zg]
@[simp] theorem LJ{c:Bool}{o:Option PV}{u:PV}{s t:Ae}:PO.To (Tt c s o) u t↔c=true/\o=some u/\s=t:=by
 cases o with
 |none=>simp[Tt]
 |some v=>simp only[Tt,AK,Zg]
def OK(B:Nat)(h0:H0)(F:Fz)(ρ:BB)(st:Ae)(h:H)(a:List Nat)(d:Option OR)(v:PV)(st':Ae):Prop:=
 ∃v' h' F' ρ',(d=some (.val v' h')\/(d=some (.skip h')/\v'=.tup []))/\PR F' ρ' st'.nx v v'/\SR B h0 F' ρ' st'.nx st'.ob h'/\Le F ρ st.nx F' ρ' st'.nx/\
  st'.fr=st.fr/\st'.n=st.n/\h.nx<=h'.nx/\∀b,b<h.nx->h'.get b=h.get b\/∃id∈a,∃n,ρ id=some (b,n)
theorem OK.pure{a:List Nat}(c:SR B h0 F ρ st.nx st.ob h){d:Option OR}{v:PV}{v':V}(b:d=some (.val v' h))(e:PR F ρ st.nx v v'):OK B h0 F ρ st h a d v st:=
 ⟨v',h,F,ρ,.inl b,e,c,Le.refl,rfl,rfl,Zh _,(by simp)⟩
theorem FN{α:Type}(n:Nat)(l:List α):Det.DJ n l=l.drop n:=DE n l
theorem rd_some{h:H}{b off n:Nat}{cs:List V}{t:TypeId}{fz:Nat×Nat}(a:h.get b=some (.cells cs t fz))(d:off+n<=cs.length)(c:∀v∈(cs.drop off).take n,v.ok=true):rd h b off n=some ((cs.drop off).take n):=by
 simp_all [MZ,Tj]
theorem HC{d:TypeDesc}{n:Nat}{ps:List PV}{cs:List V}(c:Ay F ρ N ps cs){p:PV}(a:pick d n ps=some p):
  (BC d=true/\0<n/\n<=cs.length/\PR F ρ N p (.agg<|cs.take n))\/(BC d=false/\∃v vs,cs=v::vs/\PR F ρ N p v):=by
 unfold pick at a;cases f:BC d with
 |true=>
  left;simp only[f,wb]at a;rw[A9,DN]at a;cases b:(Zt n ps.length&&Zx 0 n)with
  |false=>grind
  |true=>
   rw[b]at a;simp only[wb,Zg]at a;subst a;simp only[Za]at b;obtain⟨b,e⟩:=b;refine⟨rfl,Zq e,by rw[<-c.len];simp_all,?_⟩;exact⟨_,rfl,c.take n⟩
 |false=>
  simp only[f,wc]at a;cases ps with
  |nil=>cases a
  |cons q g=>
   simp only[Ay]at c;grind
theorem A8:∀ {s:Sh} {x:s.T} {cs:List V},DC F s x cs->Ay F ρ N (flat s x) cs
 | .pair a b,(x,y),cs,h=>by
  obtain⟨c,d,rfl,f,e⟩:=h;exact(A8 f).append<|A8 e
 | .unit,_,cs,h=>by simp_all [DC,flat]
 | .int k,x,cs,h=>by simp_all [DC,flat,PR]
 | .bool,x,cs,h=>by simp_all [DC,flat,PR]
 | .str,x,cs,h=>by simp_all [DC,flat,PR]
 | .list s,x,cs,h=>by
  have h':=h;obtain⟨v,rfl,_⟩:=h;simp_all [flat,PR]
 | .fnv,x,cs,h=>by subst h;simp only[flat,Ax,Bs,wh];cases (x:Option Fn)<;>simp[PR]
 | .ptr s,x,cs,h=>by
  obtain⟨b,o,j,rfl,e,g,i⟩:=h;simp only[flat,Ax,Bs,wh,PR];grind
 | .nlist s,x,cs,h=>by
  have h':=h;obtain⟨v,rfl,_⟩:=h;simp_all [flat,PR]
theorem Cj{α:Type}(l:List α)(a b:Nat):l.drop (a+b)=(l.drop a).drop b:=by simp
theorem CX{T:AF}{t:TypeId}{d:TypeDesc}{i:TI}(o:T.und t=some d)(u:T.inf t=some i){b off:Nat}{cs:List V}{j:TypeId}{fz:Nat×Nat}(e:h.get b=some (.cells cs j fz))
  {m:Nat} (g:∀v∈(cs.drop off).take m,v.ok=true) {ps:List PV} (n:Ay F ρ N ps ((cs.drop off).take m)) {p:PV} (c:pick d i.size ps=some p):∃v,B6 T h t (.ptr b off)=some v/\PR F ρ N p v:=by
 unfold B6;simp only[o,u];have f:((cs.drop off).take m).length<=cs.length-off:=ae
 rcases HC n c with⟨q,_,y,w⟩|⟨q,v,vs,r,w⟩
 ·rw[rd_some e a8 ae];grind
 ·have s:off+1<=cs.length:=by
   grind
  have l:(cs.drop off).take 1=[v]:=by
   have:m≠0:=ae
   obtain⟨k,rfl⟩:=Nat.exists_eq_succ_of_ne_zero this;cases z:cs.drop off with
   |nil=>grind
   |cons a x=>grind
  rw[rd_some e s ae,l];grind
end
section
variable {B:Nat}{h0:H0}{F:Fz}{ρ:BB}{N:Nat}{C:Ctx}{st st':Ae}{fr:Fr}{h:H}
theorem SR.at(a:SR B h0 F ρ N st.ob h){id:Nat}{o:Obj}(c:st.obj id=some o):∃b n x,ρ id=some (b,n)/\h.get b=some x/\K9 F ρ N n o x/\(o.frozen=false->F b=none)/\
  (o.frozen=true->∃cs t fz,x=.cells cs t fz/\F b=some cs):=a.obj id o c
theorem Hl{s:Sh}{l:List s.T}{cs:List V}(a:Bk F s l cs)(c:s.sz=1):∀(n j:Nat),j+n=l.length->Ay F ρ N (GG s l j n) (cs.drop j)
 |0,j,f=>by
  have:cs.length=l.length:=by rw[a.1,c,ZN]
  simp_all [GG]
 |n+1,j,f=>by
  have b:j<l.length:=a8
  have d:=a.2 j b;rw[c,ZN]at d;have e:cs.drop j=(cs.drop j).take 1++cs.drop (j+1):=by
   grind [List.take_append_drop,ZO]
  unfold GG;rw[e,show l.getD j s.C2=l[j]from by grind];exact(A8 d).append (Hl a c n (j+1) a8)
theorem Qr(k:SR B h0 F ρ st.nx st.ob h){t:TypeId}{p:PV}{a:V}(G:PR F ρ st.nx p a){v:PV}(f:(F8 C.T st t p).To v st'):
  OK B h0 F ρ st h [] (Av h<|B6 C.T h t a) v st':=by
 unfold F8 at f;split at f
 case h_2=>simp at f
 rename_i d i z A;split at f
 case h_4=>simp at f
 case h_1=>
  rename_i id off;split at f
  case h_4=>simp at f
  case h_3=>
   rename_i tb ps w;simp only[IM]at f;obtain⟨c,rfl⟩:=f;obtain⟨b,n,x,h1,h2,⟨cs,fz,rfl,h4,_,hbok⟩,_⟩:=k.at w;obtain rfl:=G.2 b n h1;rw[FN]at c;obtain⟨v',r,q⟩:=CX (h:=h) z A h2 (m:=cs.length) ae (by rw[ZB<|by simp];exact h4.drop off) c;exact OK.pure k (by rw[r];rfl) q
  case h_2=>
   rename_i K e s l w;cases g:(Zc off 0&&Zc s.sz 1)with
   |false=>simp_all
   |true=>
    rw[g]at f;simp only[wb,LJ,w5]at f;obtain⟨J,c,rfl⟩:=f;rw[Za]at g;have h0:=Zb g.1;have I:=Zb g.2;subst h0;obtain⟨b,n,x,h1,h2,⟨cs,fz,rfl,h4,_⟩,_⟩:=k.at w;obtain rfl:=G.2 b n h1;have E:=Hl (ρ:=ρ) (N:=st.nx) h4 I i.size 0 a8;obtain⟨v',r,q⟩:=CX (h:=h) z A h2 (m:=cs.length) (fun u y=>h4.ok u ae) (by rw[ZB<|by simp];exact E) c;exact OK.pure k (by rw[r];rfl) q
  rename_i ps w;simp only[IM]at f;obtain⟨c,rfl⟩:=f;obtain⟨b,n,x,h1,h2,⟨cs,te,fz,rfl,h4,_,hbok⟩,_⟩:=k.at w;obtain rfl:=G.2 b n h1;rw[FN]at c;obtain⟨v',r,q⟩:=CX (h:=h) z A h2 (m:=cs.length) ae (by rw[ZB<|by simp];exact h4.drop off) c;exact OK.pure k (by rw[r];rfl) q
 case h_2=>
  rename_i id sz j off;split at f
  case h_2=>simp at f
  rename_i K e s l w;cases g:Zc sz s.sz with
  |false=>simp_all
  |true=>
   rw[g]at f;simp only[wb,LJ,w5]at f;obtain⟨J,c,rfl⟩:=f;have g:=Zb g;subst g;obtain⟨b,n,x,h1,h2,⟨cs,fz,rfl,h4,_⟩,_⟩:=k.at w;obtain rfl:=G.2 b n h1;have D:=h4.2 j J;rw[show l.getD j s.C2=l[j]from by simp[J],FN]at c;have E:Ay F ρ st.nx ((flat s l[j]).drop off) ((cs.drop<|j*s.sz+off).take<|s.sz-off):=by
    have:=(A8 (F:=F) (ρ:=ρ) (N:=st.nx) D).drop off;rw[Cj, <-Zw]at*;omega
   obtain⟨v',r,q⟩:=CX (h:=h) z A h2 (fun u y=>D.ok u<|List.mem_of_mem_drop (i:=off)<|by rw[Cj, <-Zw]at y;exact y) E c;exact OK.pure k (by rw[r];rfl) q
 case h_3=>
  rename_i s x off;simp only[IM]at f;obtain⟨c,rfl⟩:=f;obtain⟨b,o,cs,rfl,h1,h2,h3⟩:=G;obtain⟨te,fz,h4⟩:=k.frz b cs h1;rw[FN]at c;have E:Ay F ρ st.nx ((flat s x).drop off) ((cs.drop<|o+off).take<|s.sz-off):=by
   have:=(A8 (F:=F) (ρ:=ρ) (N:=st.nx) h3).drop off;rw[Cj, <-Zw]at*;omega
  obtain⟨v',r,q⟩:=CX (h:=h) z A h4 (fun u y=>h3.ok u<|List.mem_of_mem_drop (i:=off)<|by rw[Cj, <-Zw]at y;exact y) E c;exact OK.pure k (by rw[r];rfl) q
theorem DC.Ka:∀ {s:Sh} {x:s.T} {cs:List V},DC F s x cs->∀v∈cs,v.one=true
 | .int _,_,_,h=>by grind [DC,V.one]
 | .bool,_,_,h=>by grind [DC,V.one]
 | .str,_,_,h=>by grind [DC,V.one]
 | .list s,l,_,h=>by
  obtain⟨u,rfl,h⟩:=h;intro v e;rw[Zp.1 e];rcases h with⟨_,rfl|rfl|rfl⟩|⟨b,off,cap,o,f,rfl,_⟩<;>rfl
 | .pair a b,x,_,h=>by
  obtain⟨c,d,rfl,i,g⟩:=h;intro v e;rcases List.mem_append.1 e with e|e
  ·exact i.Ka v e
  ·exact g.Ka v e
 | .unit,_,_,h=>by grind [DC]
 | .fnv,x,_,h=>by subst h;intro v e;rw[Zp.1 e];cases (x:Option Fn)<;>rfl
 | .ptr _,x,_,h=>by obtain⟨b,o,f,rfl,_⟩:=h;intro v e;rw[Zp.1 e];rfl
 | .nlist s,l,_,h=>by
  obtain⟨u,rfl,h⟩:=h;intro v e;rw[Zp.1 e];rcases h with⟨_,rfl⟩|⟨_,b,off,cap,o,f,rfl,_⟩<;>rfl
theorem Dt{o:Option Obj}(h:Ds o=true):∃x,o=some x:=by cases o with|none=>cases h|some x=>simp
theorem Ip(i:SR B h0 F ρ st.nx st.ob h){p:PV}{v:V}(e:EJ st p=true)(c:PR F ρ st.nx p v):v.one=true:=by
 have key:∀ {id:Nat},Ds (st.obj id)=true->∃b n,ρ id=some (b,n):=by
  intro id g;obtain⟨o,f⟩:=Dt g;obtain⟨b,n,_,d,_⟩:=i.at f;grind
 cases p<;>simp only[EJ]at e<;>simp only[PR]at c<;>try (cases e;done)
 case bl=>subst c;rfl
 case dat=>exact c.Ka v (by simp)
 case nil|nilp|nilm|nilf|nili=>subst c;rfl
 case ptr=>obtain⟨b,n,d⟩:=key e;rw[c.2 b n d];rfl
 case eptr=>obtain⟨b,n,d⟩:=key e;rw[c.2 b n d];rfl
 case BN=>obtain⟨b,o,cs,rfl,_⟩:=c;rfl
 case sl=>
  obtain⟨b,n,d⟩:=key e;rcases c.2 b n d with⟨_,_,o,_,rfl⟩|⟨_,_,_,rfl|⟨_,rfl,_⟩⟩<;>rfl
 case mp|yl=>obtain⟨b,n,d⟩:=key e;rw[c.2 b n d];rfl
 case fn=>obtain⟨a,b,rfl,_⟩:=c;rfl
theorem Nw{v:V}(h:v.one=true):v.cells=[v]:=by cases v<;>first|rfl|cases h
theorem Gu(d:SR B h0 F ρ st.nx st.ob h){p:PV}{v:V}{ps:List PV}(b:PR F ρ st.nx p v)(a:Ti st p=some ps):Ay F ρ st.nx ps v.cells:=by
 unfold Ti at a;split at a
 ·cases a;obtain⟨cs,rfl,c⟩:=b;exact c
 grind [Nw,Ip,Ay]
theorem Ex(b:SR B h0 F ρ st.nx st.ob h):∀ {ps:List PV} {vs:List V},ps.all (EJ st)=true->Ay F ρ st.nx ps vs->vs.all V.one=true
 |[],vs,_,h=>by simp_all
 |p::ps,vs,a,h=>by
  obtain⟨v,vs,rfl,c,d⟩:=h;simp only[List.all_cons,Za]at a ⊢;exact⟨Ip b a.1 c,Ex b a.2 d⟩
theorem Ay.Eu:∀ {a:List PV} {x:List V} {b:List PV} {y:List V},Ay F ρ N a x->Ay F ρ N b y->Ay F ρ N (Eu a b) (Eu x y)
 |[],x,b,y,h,h'=>by subst h;exact h'
 |p::ps,x,b,y,h,h'=>by
  obtain⟨v,vs,rfl,g,e⟩:=h;cases b with
  |nil=>subst h';rfl
  |cons q d=>
   obtain⟨u,f,rfl,i,c⟩:=h';show Ay F ρ N (p::Det.Eu ps d) (v::Det.Eu vs f);simp only[Ax];exact⟨g,e.Eu c⟩
theorem Ay.AR{a:List PV}{x:List V}(c:Ay F ρ N a x):∀(n:Nat) {b:List PV} {y:List V},Ay F ρ N b y->Ay F ρ N (AR n a b) (AR n x y)
 |0,b,y,h=>c.Eu h
 |n+1,[],y,h=>by subst h;rfl
 |n+1,q::e,y,h=>by
  obtain⟨u,f,rfl,g,d⟩:=h;show Ay F ρ N (q::ZP n a e) (u::ZP n x f);simp only[Ax];exact⟨g,Ay.AR c n d⟩
theorem CS:∀(l:Ob) (i:Nat) (x:Obj) (j:Nat),(Af l i).isSome=true->Af (Bz l i x) j=if j=i then some x else Af l j
 |[],i,x,j,h=>by cases h
 |(a,o)::l,i,x,j,h=>by
  simp only[Bz,Af,Al]at h ⊢;by_cases e:a=i
  ·subst e;simp only[decide_true,wb,Af,Al];grind
  ·simp only[e,decide_false,wc]at h ⊢;simp only[Af,Al];by_cases b:a=j
   ·grind
   ·simp only[b,decide_false,wc];exact CS l i x j h
theorem FT{b off:Nat}{vs cs:List V}{t:TypeId}{fz:Nat×Nat}(a:h.get b=some (.cells cs t fz))(e:off+vs.length<=cs.length)(c:fz.2<=fz.1)(d:vs.all V.one=true):
  wr h b off vs=some (h.put b<|.cells (AR off vs cs) t fz):=by
 unfold wr;simp only[a,A9,Cc,d];simp_all [Zs,Det.clear]
theorem SR.set(a:SR B h0 F ρ st.nx st.ob h){id b n:Nat}{o o':Obj}{x x':O}(z:st.obj id=some o)(r:ρ id=some (b,n))(D:h.get b=some x)(T:o.frozen=false)(E:o'.frozen=false)
  (P:K9 F ρ st.nx n o' x'):SR B h0 F ρ st.nx (Bz st.ob id o') (h.put b x'):=by
 have u:Af st.ob id=some o:=z;have t:F b=none:=by
  obtain⟨b',n',_,q,_,_,s,_⟩:=a.at z;grind
 have p:∀j,Af (Bz st.ob id o') j=if j=id then some o' else Af st.ob j:=(by grind [CS])
 refine⟨fun j oj d=>?_,fun i j oi oj c m R J d q s=>?_,fun c cs g=>?_,a.own,fun j d=>?_,fun c g w=>?_,fun c M g=>?_,a.le,a.fo,a.gl,fun c g=>?_⟩
 ·rw[p]at d;by_cases e:j=id
  ·subst e;simp only[wg,Zg]at d;subst d;exact⟨b,n,x',r,by simp,P,fun _=>t,ae⟩
  ·rw[w9 e]at d;obtain⟨c,m,y,q,s,K,L,I⟩:=a.obj j oj d;have f:c≠b:=fun Q=>e<|a.inj j id oj o c m n d u q<|Q▸r
   exact⟨c,m,y,q,by simp_all,K,L,I⟩
 ·have l:∀k ok,Af (Bz st.ob id o') k=some ok->∃G,Af st.ob k=some G:=by
   grind
  obtain⟨_,A⟩:=l i oi J;obtain⟨_,v⟩:=l j oj d;exact a.inj i j _ _ c m R A v q s
 ·have f:c≠b:=ae;rw[H.AB,w9 f];exact a.frz c cs g
 ·rw[p]at d;by_cases e:j=id
  ·grind
  ·rw[w9 e]at d;exact a.dead j d
 ·have f:c≠b:=Gt (a.own id b n r).2 g w;rw[H.AB,w9 f];exact a.old c g w
 ·rw[H.AB]at g;by_cases e:c=b
  ·subst e;exact a.lt _ _ D
  ·rw[w9 e]at g;exact a.lt c M g
 ·obtain⟨A,v,S⟩:=a.pn c g;have f:c≠b:=ae;simp_all
def An(ρ:BB)(i:Nat)(x:Option (Nat×Nat)):BB:=fun j=>if j=i then x else ρ j
theorem Le.Ei(i:Nat):Le F ρ N F (An ρ i none) N:=⟨fun _ _ h=>h,(by grind [An]),Zh _⟩
theorem Le.new(x:Nat×Nat):Le F ρ N F (An ρ N<|some x) (N+1):=⟨fun _ _ h=>h,fun id h=>by unfold An;grind,Nat.le_succ _⟩
theorem SR.push{ob:Ob}(a:SR B h0 F ρ N ob h){o:Obj}{x:O}{n:Nat}(Z:o.frozen=false)(R:K9 F (An ρ N<|some (h.nx,n)) (N+1) n o x):
  SR B h0 F (An ρ N<|some (h.nx,n)) (N+1) ((N,o)::ob) (h.push x):=by
 have U:Le F ρ N F (An ρ N<|some (h.nx,n)) (N+1):=Le.new _;have g:∀j,Af ((N,o)::ob) j=if j=N then some o else Af ob j:=by
  simp only[Af,Al];grind
 have v:∀b y,h.get b=some y->b≠h.nx:=fun b y l=>by have:=a.lt b y l;omega
 refine⟨fun j oj d=>?_,fun i j oi oj c m r w d p u=>?_,fun c cs f=>?_,fun id b m l=>?_,fun j d=>?_,fun c f I=>?_,fun c Q f=>?_,?_,?_,a.gl,fun c f=>?_⟩
 ·rw[g]at d;by_cases e:j=N
  ·subst e;simp only[wg,Zg]at d;subst d;refine⟨h.nx,n,x,by simp[An],by simp,R,fun _=>?_,ae⟩;cases f:F h.nx with
   |none=>rfl
   |some cs=>
    obtain⟨t,fz,E⟩:=a.frz _ _ f;grind
  ·rw[w9 e]at d;obtain⟨c,m,y,p,u,M,P,J⟩:=a.obj j oj d;exact⟨c,m,y,by simp[An,e,p],by simp_all,M.mono U,P,J⟩
 ·rw[g]at w d;have key:∀k ok m,(if k=N then some o else Af ob k)=some ok->An ρ N (some (h.nx,n)) k=some (c,m)->(k=N/\c=h.nx)\/(k≠N/\Af ob k=some ok/\ρ k=some (c,m)/\c≠h.nx):=by
   intro k ok m D q;by_cases e:k=N
   ·simp_all [An]
   ·rw[w9 e]at D;simp only[An,e,wi]at q;obtain⟨V,r,y,K,s,_⟩:=a.obj k ok D;grind
  rcases key i oi m w p with⟨S,A⟩|⟨S,A,G,X⟩<;>rcases key j oj r d u with⟨L,z⟩|⟨L,z,T,W⟩
  ·omega
  ·omega
  ·omega
  ·exact a.inj i j oi oj c m r A z G T
 ·obtain⟨t,fz,E⟩:=a.frz c cs f;simp_all
 ·unfold An at l;split at l
  ·cases l;exact⟨a8,.inl a.le⟩
  ·have:=a.own id b m l;grind
 ·rw[g]at d;by_cases e:j=N
  ·grind
  ·rw[w9 e]at d;simp[An,e,a.dead j d]
 ·have:=a.le;rw[H.AT,w9 a8];exact a.old c f I
 ·rw[H.AT]at f;by_cases e:c=h.nx
  ·simp_all
  ·rw[w9 e]at f;have:=a.lt c Q f;show c<h.nx+1;omega
 ·have:=a.le;show B<=h.nx+1;omega
 ·exact a.fo
 ·obtain⟨K,s,Y⟩:=a.pn c f;refine⟨by simp_all,s,fun id m e=>?_⟩;unfold An at e;grind
theorem Bh:∀(l:Ob) (i j:Nat),Af (Cw l i) j=if j=i then none else Af l j
 |[],i,j=>by simp[Cw,Af]
 |(a,o)::l,i,j=>by
  simp only[Cw,Al];by_cases e:a=i
  ·subst e;simp only[decide_true,wb];rw[Bh l a j];simp only[Af,Al];grind
  ·simp only[e,decide_false,wc,Af,Al];rw[Bh l i j];grind
theorem SR.del{ob:Ob}(d:SR B h0 F ρ N ob h)(id:Nat):SR B h0 F (An ρ id none) N (Cw ob id) h:=by
 have t:Le F ρ N F (An ρ id none) N:=Le.Ei id;refine⟨fun j oj a=>?_,fun i j oi oj c m r l a k g=>?_,d.frz,fun j b m f=>?_,fun j a=>?_,d.old,d.lt,d.le,d.fo,d.gl,fun c s=>?_⟩
 ·rw[Bh]at a;split at a
  ·cases a
  ·rename_i e;obtain⟨c,m,y,k,g,n,o⟩:=d.obj j oj a;exact⟨c,m,y,by simp[An,e,k],g,n.mono t,o⟩
 ·rw[Bh]at l a;split at l
  ·cases l
  split at a
  ·cases a
  rename_i q p;simp only[An,q,p,wi]at k g;exact d.inj i j oi oj c m r l a k g
 ·unfold An at f;split at f
  ·cases f
  ·exact d.own j b m f
 ·rw[Bh]at a;unfold An;split
  ·rfl
  ·rename_i e;rw[w9 e]at a;exact d.dead j a
 ·obtain⟨w,u,v⟩:=d.pn c s;grind [An]
theorem SR.kill{ob:Ob}(d:SR B h0 F ρ N ob h){b:Nat}(t:∀id o n,Af ob id=some o->ρ id≠some (b,n))(s:F b=none)(l:h0.Nc B b)(r:b∉h0.pin):SR B h0 F ρ N ob (h.kill b):=by
 refine⟨fun j oj i=>?_,d.inj,fun c cs a=>?_,d.own,d.dead,fun c a e=>?_,fun c p a=>?_,d.le,d.fo,d.gl,fun c a=>?_⟩
 ·obtain⟨c,m,y,g,k,f⟩:=d.obj j oj i;have:c≠b:=ae;exact⟨c,m,y,g,by simp_all,f⟩
 ·have:c≠b:=ae;rw[H.Bp,w9 this];exact d.frz c cs a
 ·have:c≠b:=Gt l a e;rw[H.Bp,w9 this];exact d.old c a e
 ·rw[H.Bp]at a;split at a
  ·cases a
  ·exact d.lt c p a
 ·obtain⟨g,k,f⟩:=d.pn c a;have q:c≠b:=ae;simp_all
theorem AU{s a:Sh}{x:s.T}{y:a.T}(h:B5 s a x=some y):∃e:s=a,e▸x=y:=by
 simp_all [B5]
theorem CE{s:Sh}{p:PV}{x:s.T}{v:V}(b:PR F ρ N p v)(a:RT s p=some x):DC F s x [v]:=by
 unfold RT at a;split at a
 ·unfold UQ at a;split at a
  ·obtain⟨rfl,rfl⟩:=AU a;simp_all [PR,DC]
  grind
 ·obtain⟨rfl,rfl⟩:=AU a;simpa only[PR]using b
 ·obtain⟨rfl,rfl⟩:=AU a;grind [PR,DC]
 ·obtain⟨rfl,rfl⟩:=AU a;simp_all [PR,DC]
 ·obtain⟨rfl,rfl⟩:=AU a;grind [PR,DC]
 ·split at a
  ·grind [PR,DC]
  ·grind [PR,DC]
  grind
 grind
theorem C9:∀ {s:Sh} {ps:List PV} {vs:List V} {x:s.T} {e:List PV},Ay F ρ N ps vs->AX s ps=some (x,e)->∃a b,vs=a++b/\DC F s x a/\Ay F ρ N e b
 | .pair s t,ps,vs,x,e,g,f=>by
  unfold AX at f;split at f
  case h_2=>cases f
  rename_i y q j;split at f
  case h_2=>cases f
  rename_i z o i;cases f;obtain⟨a,b,rfl,n,m⟩:=C9 g j;obtain⟨c,d,rfl,g3,g4⟩:=C9 m i;exact⟨a++c,d,by simp,by simp only[DC];grind,g4⟩
 | .unit,ps,vs,x,e,g,f=>by
  cases f;exact⟨[],vs,rfl,by simp[DC],g⟩
 | .int k,[],vs,x,e,g,f=>by simp[AX]at f
 | .bool,[],vs,x,e,g,f=>by simp[AX]at f
 | .str,[],vs,x,e,g,f=>by simp[AX]at f
 | .list s,[],vs,x,e,g,f=>by simp[AX]at f
 | .nlist s,[],vs,x,e,g,f=>by simp[AX]at f
 | .fnv,[],vs,x,e,g,f=>by simp[AX]at f
 | .ptr _,[],vs,x,e,g,f=>by simp[AX]at f
 | .int k,p::ps,vs,x,e,g,f=>by
  obtain⟨v,vs,rfl,j,i⟩:=g;simp only[AX]at f;split at f
  ·rename_i y l;cases f;exact⟨[v],vs,rfl,CE j l,i⟩
  grind
 | .bool,p::ps,vs,x,e,g,f=>by
  obtain⟨v,vs,rfl,j,i⟩:=g;simp only[AX]at f;split at f
  ·rename_i y l;cases f;exact⟨[v],vs,rfl,CE j l,i⟩
  grind
 | .str,p::ps,vs,x,e,g,f=>by
  obtain⟨v,vs,rfl,j,i⟩:=g;simp only[AX]at f;split at f
  ·rename_i y l;cases f;exact⟨[v],vs,rfl,CE j l,i⟩
  grind
 | .list s,p::ps,vs,x,e,g,f=>by
  obtain⟨v,vs,rfl,j,i⟩:=g;simp only[AX]at f;split at f
  ·rename_i y l;cases f;exact⟨[v],vs,rfl,CE j l,i⟩
  grind
 | .fnv,p::ps,vs,x,e,g,f=>by
  obtain⟨v,vs,rfl,j,i⟩:=g;simp only[AX]at f;split at f
  ·rename_i y l;cases f;exact⟨[v],vs,rfl,CE j l,i⟩
  grind
 | .ptr s,p::ps,vs,x,e,g,f=>by
  obtain⟨v,vs,rfl,j,i⟩:=g;simp only[AX]at f;split at f
  ·rename_i y l;cases f;exact⟨[v],vs,rfl,CE j l,i⟩
  grind
 | .nlist s,p::ps,vs,x,e,g,f=>by
  obtain⟨v,vs,rfl,j,i⟩:=g;simp only[AX]at f;split at f
  ·rename_i y l;cases f;exact⟨[v],vs,rfl,CE j l,i⟩
  grind
theorem A2{s:Sh}{ps:List PV}{vs:List V}{x:s.T}(d:Ay F ρ N ps vs)(c:BI s ps=some x):DC F s x vs:=by
 unfold BI at c;split at c
 ·rename_i y e;obtain⟨a,b,rfl,f,g⟩:=C9 d e;simp_all
 grind
theorem Ky{v:V}:∀(vs cs:List V) (off:Nat),v∈CY cs off vs->v∈vs\/v∈cs
 |[],cs,off,h=>.inr h
 |u::vs,cs,off,h=>by
  rcases Ky vs _ _ h with h|h
  ·grind
  grind
theorem JY{v:V}{vs cs:List V}{off:Nat}(h:v∈ZP off vs cs):v∈vs\/v∈cs:=by
 grind [D6,Ky]
theorem CU{cs vs:List V}{off:Nat}(a:off+vs.length<=cs.length)(j:Nat):(AR off vs cs)[j]?=if off<=j/\j<off+vs.length then vs[j-off]? else cs[j]?:=by
 grind [D6,G5]
theorem OL{cs vs:List V}{off:Nat}:(AR off vs cs).length=cs.length:=by
 grind [D6,DD]
theorem SZ{cs vs:List V}{m off k:Nat}(c:off+vs.length<=k)(b:m+k<=cs.length):((AR (m+off) vs cs).drop m).take k=AR off vs ((cs.drop m).take k):=by
 apply ZC;intro j;rw[CU ae];by_cases a:j<k
 ·rw[Zf a,Zn,CU a8];grind
 grind
theorem QP{cs vs:List V}{m p k:Nat}(c:p+vs.length<=m\/m+k<=p)(b:p+vs.length<=cs.length):((AR p vs cs).drop m).take k=(cs.drop m).take k:=by
 apply ZC;intro j;by_cases a:j<k
 ·rw[Zf a,Zf a,Zn,Zn,CU b,w9 a8]
 grind
theorem Bk.set{s:Sh}{l:List s.T}{cs vs:List V}{j off:Nat}{y:s.T}(a:Bk F s l cs)(f:j<l.length)(d:off+vs.length<=s.sz)(g:DC F s y (AR off vs<|(cs.drop<|j*s.sz).take s.sz)):
  Bk F s (l.set j y) (AR (j*s.sz+off) vs cs):=by
 have k:j*s.sz+s.sz<=cs.length:=by
  rw[a.1, <-Zy];exact Ze _ f
 refine⟨by rw[OL,List.length_set];exact a.1,fun i m=>?_⟩;have c:i<l.length:=ae
 by_cases e:i=j
 ·simp_all [SZ]
 ·rw[List.getElem_set_ne a8,QP ?_ a8]
  ·exact a.2 i c
  ·rcases Nat.lt_or_gt_of_ne e with b|b
   ·have:(i+1)*s.sz<=j*s.sz:=Ze _ b;grind
   ·have:(j+1)*s.sz<=i*s.sz:=Ze _ b;grind
theorem D8{s:Sh}:∀ {n:Nat} {ps:List PV} {vs:List V} {l:List s.T},Ay F ρ N ps vs->chunk s n ps=some l->vs.length=n*s.sz->l.length=n/\Bk F s l vs
 |0,ps,vs,l,e,c,k=>by
  cases c;simp_all [Bk]
 |n+1,ps,vs,l,e,c,k=>by
  unfold chunk at c;split at c
  case h_2=>cases c
  rename_i x d f;rw[Zd]at c;obtain⟨l',m,rfl⟩:=c;obtain⟨a,b,rfl,h2,h3⟩:=C9 e f;have p:=h2.len;have g:b.length=n*s.sz:=ae
  obtain⟨j,o⟩:=D8 h3 m g;refine⟨by simp[j],by grind,fun i q=>?_⟩;cases i with
  |zero=>
   grind
  |succ i=>
   grind [Zy,Cj,Bk]
theorem OH{cs a:List V}(h:a.length=cs.length):ZP 0 a cs=a:=by
 apply ZC;simp_all [CU]
theorem RA(w:SR B h0 F ρ st.nx st.ob h){t:TypeId}{p q:PV}{a x:V}(J:PR F ρ st.nx p a)(Y:PR F ρ st.nx q x){v:PV}(d:(K1 C.T st t p q).To v st'):
  ∃id,((∃off,p=.ptr id off)\/∃sz j off,p=.eptr id sz j off)/\OK B h0 F ρ st h [id] (Pb<|Db C.T h t a x) v st':=by
 unfold K1 at d;split at d
 case h_2=>simp at d
 rename_i i L M W;cases P:(Zc (Det.B1 L) i.size&&Det.E0 (EJ st) L)with
 |false=>simp_all
 |true=>
  rw[P]at d;simp only[Za]at P;obtain⟨S,I⟩:=P;rw[A9]at S;rw[Cc]at I;have g:=Gu w Y W;have u:x.cells.length=i.size:=by rw[<-g.len];simp_all
  have o:=Ex w I g;have A:Zc x.cells.length i.size=true:=by simp_all
  simp only[wb]at d;split at d
  case h_3=>simp at d
  case h_1=>
   rename_i id off;split at d
   case h_4=>simp_all
   case h_3=>
    rename_i tb ps r;cases k:Zt (ZE off i.size) (Det.B1 ps)with
    |false=>simp_all
    |true=>
     rw[k]at d;simp only[wb,AL]at d;obtain⟨rfl,rfl⟩:=d;obtain⟨b,n,y,h1,h2,⟨cs,fz,rfl,h4,h5,hbok⟩,hf,_⟩:=w.at r;simp only[PR]at J;obtain rfl:=J.2 b n h1;rw[A9]at k;have m:off+x.cells.length<=cs.length:=by rw[<-h4.len,u];simp_all
     refine⟨id,(by simp),.tup [],_,F,ρ,.inr ⟨?_,rfl⟩,by simp[PR],w.set r h1 h2 rfl rfl (o':=.tbox tb<|ZP off L ps) ⟨_,fz,rfl,g.AR off h4,h5,(by grind [JY,V.Fi])⟩,Le.refl,rfl,rfl,Zh _,fun c _=>?_⟩
     ·unfold Db;simp only[M,A,wb];rw[FT h2 m h5 o];rfl
     ·rw[H.AB];grind
   case h_2=>
    rename_i e s l r;cases f:(Zc off 0&&Zc s.sz 1)with
    |false=>simp_all
    |true=>
     rw[f]at d;rw[Za]at f;have D:=Zb f.1;have O:=Zb f.2;subst D;simp only[wb]at d;split at d
     case h_2=>simp_all
     rename_i y K;simp only[AK,w5]at d;obtain⟨E,rfl,rfl⟩:=d;obtain⟨b,n,z,h1,h2,⟨cs,fz,rfl,h4,h5,h6⟩,hf,_⟩:=w.at r;obtain rfl:=J.2 b n h1;have X:cs.length=x.cells.length:=by rw[h4.1,O,ZN,u];exact E
     obtain⟨k1,Z⟩:=D8 g K ae;have m:0+x.cells.length<=cs.length:=a8
     refine⟨id,(by simp),.tup [],_,F,ρ,.inr ⟨?_,rfl⟩,by simp[PR],w.set r h1 h2 rfl rfl (o':=.arr false e s y) ⟨ZP 0 x.cells cs,fz,rfl,by grind [OH],h5,by omega⟩,Le.refl,rfl,rfl,Zh _,fun c _=>?_⟩
     ·unfold Db;simp only[M,A,wb];rw[FT h2 m h5 o];rfl
     ·rw[H.AB];grind
   rename_i ps r;cases k:Zt (ZE off i.size) (Det.B1 ps)with
   |false=>simp_all
   |true=>
    rw[k]at d;obtain⟨rfl,rfl⟩:=d;obtain⟨b,n,y,h1,h2,⟨cs,te,fz,rfl,h4,h5,hbok⟩,hf,_⟩:=w.at r;obtain rfl:=J.2 b n h1;rw[A9]at k;have m:off+x.cells.length<=cs.length:=by rw[<-h4.len,u];simp_all
    refine⟨id,(by simp),.tup [],_,F,ρ,.inr ⟨?_,rfl⟩,by simp[PR],w.set r h1 h2 rfl rfl (o':=.box<|ZP off L ps) ⟨_,te,fz,rfl,g.AR off h4,h5,(by grind [JY,V.Fi])⟩,Le.refl,rfl,rfl,Zh _,fun c _=>?_⟩
    ·unfold Db;simp only[M,A,wb];rw[FT h2 m h5 o];rfl
    ·rw[H.AB];grind
  case h_2=>
   rename_i id sz j off;split at d
   case h_2=>simp at d
   rename_i e s l r;cases f:(Zc sz s.sz&&Zt (ZE off i.size) sz)with
   |false=>rw[f]at d;simp at d
   |true=>
    rw[f]at d;simp only[Za]at f;have U:=Zb f.1;have D:=Zq f.2;subst U;simp only[wb]at d;split at d
    case h_2=>simp at d
    rename_i y K;simp only[AK,w5]at d;obtain⟨E,rfl,rfl⟩:=d;obtain⟨b,n,z,h1,h2,⟨cs,fz,rfl,h4,h5,h6⟩,hf,_⟩:=w.at r;obtain rfl:=J.2 b n h1;rw[show l.getD j s.C2=l[j]from by simp[E]]at K;have Q:=A8 (F:=F) (ρ:=ρ) (N:=st.nx)<|h4.2 j E;have R:=A2 (g.AR off Q) K;have G:=Bk.set h4 E ae R;have m:j*s.sz+off+x.cells.length<=cs.length:=by
     have:j*s.sz+s.sz<=cs.length:=by rw[h4.1, <-Zy];exact Ze _ E
     grind
    refine⟨id,(by simp),.tup [],_,F,ρ,.inr ⟨?_,rfl⟩,by simp[PR],w.set r h1 h2 rfl rfl (o':=.arr false e s<|l.set j y) ⟨_,fz,rfl,G,h5,by grind⟩,Le.refl,rfl,rfl,Zh _,fun c _=>?_⟩
    ·unfold Db;simp only[M,A,wb];rw[FT h2 m h5 o];rfl
    ·rw[H.AB];grind
theorem Bl{k:IntKind}{n:Int}{v:V}(h:PR F ρ N (.dat (.int k) n) v):v=.int k n:=by simpa [PR,DC]using h
theorem Ci{s:Y}{v:V}(h:PR F ρ N (.dat .str s) v):v=.str s:=by simpa [PR,DC]using h
theorem EZ{b:Bool}{v:V}(h:PR F ρ N (.dat .bool b) v):v=.bool b:=by simpa [PR,DC]using h
theorem Hm{b:Bool}{v:V}(h:PR F ρ N (.bl b) v):v=.bool b:=by simpa [PR]using h
theorem Bj(k:IntKind)(n:Int):PR F ρ N (.dat (.int k) n) (.int k n):=by rfl
theorem Lj(s:Y):PR F ρ N (.dat .str s) (.str s):=by rfl
theorem Br(b:Bool):PR F ρ N (.dat .bool b) (.bool b):=by rfl
theorem Pc(b:Bool):PR F ρ N (.bl b) (.bool b):=by simp[PR]
theorem C1{p:PV}{b:Bool}{v:V}(h:Eg p=some b)(a:PR F ρ N p v):v=.bool b:=by
 unfold Eg at h;grind [Hm,EZ]
theorem Tz(d:SR B h0 F ρ st.nx st.ob h){op:BinOp}{k:IntKind}{a b:Int}{v:PV}(c:(SB op k a b st).To v st'):OK B h0 F ρ st h [] (Av h<|G8 op k a b) v st':=by
 unfold SB at c;split at c<;>simp only[FB,AL,AK,w5,ne_eq]at c
 all_goals first
  |(obtain⟨rfl,rfl⟩:=c;exact OK.pure d rfl (Bj _ _))
  |(obtain⟨rfl,rfl⟩:=c;exact OK.pure d rfl (Br _))
  |(obtain⟨e,rfl,rfl⟩:=c;simp_all [OK.pure,G8,Av,Bj])
theorem Uy(e:SR B h0 F ρ st.nx st.ob h){op:BinOp}{k:IntKind}{a b:Int}{v:PV}(c:(UM op k a b st).To v st'):OK B h0 F ρ st h [] (Av h<|NW op k a b) v st':=by
 unfold UM at c;split at c<;>simp only[FB,AK,w5]at c
 all_goals
  obtain⟨d,rfl,rfl⟩:=c;exact OK.pure e (by simp only[NW,Int.not_lt.2 d,wi,Av])<|Bj _ _
theorem Ul(b:SR B h0 F ρ st.nx st.ob h){op:BinOp}{x y:Y}{v:PV}(a:(Sm op x y st).To v st'):OK B h0 F ρ st h [] (Av h<|Kc op x y) v st':=by
 unfold Sm at a;split at a<;>simp only[FB,AL,AK,w5]at a
 all_goals first
  |(obtain⟨rfl,rfl⟩:=a;exact OK.pure b rfl (Br _))
  |(obtain⟨c,rfl,rfl⟩:=a;simp_all [OK.pure,Kc,Av,Lj])
theorem IF:∀ {ks:List FK} {ps n:List PV} {e f:List V} {r:Bool},Ay F ρ N ps e->Ay F ρ N n f->CR ks ps n=some r->fit ks e=true/\fit ks f=true/\Az e f=some r
 |[],[],[],e,f,r,i,g,d=>by
  subst i g;simp only[CR,Zg]at d;subst d;exact⟨rfl,rfl,rfl⟩
 |[],_::_,_,e,f,r,i,g,d=>by simp[CR]at d
 |[],[],_::_,e,f,r,i,g,d=>by simp[CR]at d
 |k::ks,[],_,e,f,r,i,g,d=>by grind [CR]
 |k::ks,_::_,[],e,f,r,i,g,d=>by grind [CR]
 |k::ks,p::ps,q::n,e,f,r,i,g,d=>by
  obtain⟨x,e,rfl,j,s⟩:=i;obtain⟨y,f,rfl,hy1,hy2⟩:=g;have key:∀ {c:Bool},k.ok x=true->k.ok y=true->BH x y=some c->(CR ks ps n).map (fun r=>c&&r)=some r->fit (k::ks) (x::e)=true/\fit (k::ks) (y::f)=true/\Az (x::e) (y::f)=some r:=by
   intro c G z L u;rw[Zd]at u;obtain⟨M,A,rfl⟩:=u;obtain⟨g1,g2,g3⟩:=IF s hy2 A;refine⟨by simp[fit,G,g1],by simp[fit,z,g2],?_⟩;have O:e.length=f.length:=by rw[<-I0 g1, <-I0 g2]
   cases c with
   |true=>simp_all [Az]
   |false=>simp_all [Az]
  unfold CR at d;split at d
  case h_1=>grind
  case h_2=>
   rename_i t E I a D w b K o m l;cases m;cases l;cases P:(t==I&&t==w)with
   |false=>grind
   |true=>
    obtain rfl:=Bl j;obtain rfl:=Bl hy1;grind [FK.ok,BH]
  case h_3=>
   rename_i o m l;cases o;cases m;cases l;obtain rfl:=Ci j;obtain rfl:=Ci hy1;exact key rfl rfl (by rfl) d
  case h_4=>
   rename_i o m l;cases o;cases m;cases l;split at d
   case h_2=>cases d
   rename_i a b J v;obtain rfl:=C1 J j;obtain rfl:=C1 v hy1;exact key rfl rfl rfl d
  grind
theorem Mq(r:SR B h0 F ρ st.nx st.ob h){op:BinOp}{t e:TypeId}(q:C.T.und t=some (.slice e)){p:PV}{x:V}(d:PR F ρ st.nx p x){ng:Bool}{v:PV}(a:(I2 st ng p).To v st'):
  (∀(_:x=.nili),False)/\∃b,Am C.T t x .nils=some b/\PR F ρ st.nx v (.bool<|b !=ng)/\EA C.T op t x .nils=(match op with| .eql=>(Am C.T t x .nils).map fun b=>.bool b| .neq=>(Am C.T t x .nils).map fun b=>.bool !b|_=>none)/\st'=st:=by
 have f:∀ {x:V},x=.nils\/x=.esl\/x=.es0\/(∃b off len cap o,x=.sl b off len cap o)->EA C.T op t x .nils=(match op with| .eql=>(Am C.T t x .nils).map fun b=>.bool b| .neq=>(Am C.T t x .nils).map fun b=>.bool !b|_=>none):=by
  rintro x (rfl|rfl|rfl|⟨b,off,len,cap,o,rfl⟩)<;>cases op<;>rfl
 have no:∀ {x:V},x=.esl\/x=.es0\/(∃b off len cap o,x=.sl b off len cap o)->Am C.T t x .nils=some false:=by
  rintro x (rfl|rfl|⟨b,off,len,cap,o,rfl⟩)<;>simp[Am,q]
 have yes:Am C.T t .nils .nils=some true:=by simp[Am,q]
 unfold I2 at a;split at a
 case h_1=>
  simp only[AL]at a;obtain⟨rfl,rfl⟩:=a;simp only[PR]at d;subst d;exact⟨(by simp),true,yes,by simp[PR],f<|.inl rfl,rfl⟩
 case h_2=>
  rename_i id sz off len cap;cases j:Ds (st.obj id)with
  |false=>rw[j]at a;simp at a
  |true=>
   rw[j]at a;simp only[wb,AL]at a;obtain⟨rfl,rfl⟩:=a;obtain⟨o,ho⟩:=Dt j;obtain⟨b,n,_,h1,_⟩:=r.at ho;simp only[PR]at d;have:x=.esl\/x=.es0\/(∃b off len cap o,x=.sl b off len cap o):=by
    grind
   exact⟨ae,false,no this,by simp[PR],f<|.inr this,rfl⟩
 case h_3=>
  rename_i s l;simp only[PR,DC]at d;obtain⟨u,i,d⟩:=d;obtain rfl:x=u:=ae
  have g:(decide (0<(l:List s.T).length)=true/\v=.bl ng/\st'=st)\/(v=.ub/\st'=st):=by
   generalize decide (0<(l:List s.T).length)=c at a;cases a with
   |tt a=>simp only[AL]at a;grind
   |ff a=>grind [AL]
  rcases g with⟨w,rfl,rfl⟩|⟨rfl,rfl⟩
  ·rcases d with⟨rfl,_⟩|⟨b,off,cap,o,k,rfl,_⟩
   ·grind
   ·exact⟨(by simp),false,ae,by simp[PR],ae,rfl⟩
  ·rcases d with⟨rfl,rfl|rfl|rfl⟩|⟨b,off,cap,o,k,rfl,_⟩
   ·exact⟨(by simp),true,yes,by simp[PR],f<|.inl rfl,rfl⟩
   ·exact⟨(by simp),false,no<|.inl rfl,by simp[PR],ae,rfl⟩
   ·exact⟨(by simp),false,ae,by simp[PR],ae,rfl⟩
   ·exact⟨(by simp),false,ae,by simp[PR],ae,rfl⟩
 case h_4=>
  rename_i s l;simp only[AL]at a;obtain⟨rfl,rfl⟩:=a;simp only[PR,DC]at d;obtain⟨u,i,d⟩:=d;obtain rfl:x=u:=ae
  rcases d with⟨rfl,rfl⟩|⟨h0,b,off,cap,o,k,rfl,_⟩
  ·exact⟨(by simp),true,yes,by cases ng<;>simp[PR,DC],f<|.inl rfl,rfl⟩
  ·have m:0<(l:List s.T).length:=ae;exact⟨(by simp),false,ae,by grind [PR,DC],ae,rfl⟩
 case h_5=>simp at a
theorem LG{o:Option Obj}(h:Ds o=true):∃x,o=some x:=by
 cases o with
 |none=>cases h
 |some x=>simp
theorem Iq(A:SR B h0 F ρ st.nx st.ob h){t e:TypeId}{p q:PV}{x y:V}(k:C.T.und t=some (.pointer e))(g:PR F ρ st.nx p x)(f:PR F ρ st.nx q y){r:Bool}(c:ptrEq C.T e st p q=some r):
  Am C.T t x y=some r/\x≠ .nili/\∀op,EA C.T op t x y=(match op with| .eql=>(Am C.T t x y).map .bool| .neq=>(Am C.T t x y).map fun b=>.bool !b|_=>none):=by
 have live:∀ {id off:Nat} {v:V},PR F ρ st.nx (.ptr id off) v->Ds (st.obj id)=true->∃b n,ρ id=some (b,n)/\v=.ptr b off:=by
  intro id off v D d;obtain⟨o,w⟩:=LG d;obtain⟨b,n,_,h1,_⟩:=A.at w;grind [PR]
 unfold ptrEq at c;split at c
 case h_5=>cases c
 case h_1=>
  cases c;subst g f;exact⟨by unfold Am;rw[k],(by simp),fun op=>by cases op<;>rfl⟩
 case h_2=>
  rename_i id off;cases d:Ds (st.obj id)with
  |false=>grind
  |true=>
   rw[d]at c;cases c;obtain⟨b,n,_,rfl⟩:=live g d;subst f;exact⟨by unfold Am;rw[k],(by simp),fun op=>by cases op<;>rfl⟩
 case h_3=>
  rename_i id off;cases d:Ds (st.obj id)with
  |false=>grind
  |true=>
   rw[d]at c;cases c;obtain⟨b,n,_,rfl⟩:=live f d;subst g;exact⟨by unfold Am;rw[k],(by simp),fun op=>by cases op<;>rfl⟩
 case h_4=>
  rename_i a i b j;cases d:(Zc a b&&Ds (st.obj a))with
  |false=>grind
  |true=>
   rw[d]at c;rw[Za]at d;have l:=Zb d.1;subst l;split at c
   case h_2=>cases c
   rename_i u m;cases s:Zx 0 u.size with
   |false=>grind
   |true=>
    rw[s]at c;cases c;rw[Nat.blt_eq]at s;obtain⟨b,n,z,rfl⟩:=live g d.2;obtain⟨b',n',g2,rfl⟩:=live f d.2;rw[z]at g2;cases g2;refine⟨?_,(by simp),fun op=>by cases op<;>rfl⟩;unfold Am;rw[k];simp only[wg,m];rw[wa a8];congr 1;rw[Al,Bool.eq_iff_iff];simp
theorem TA(f:SR B h0 F ρ st.nx st.ob h){op:BinOp}{t:TypeId}{z A:Operand}{p q:PV}{x y:V}(i:PR F ρ st.nx p x)(g:PR F ρ st.nx q y){v:PV}(c:(Ta C.T op t p q st).To v st'):
  OK B h0 F ρ st h [] (Av h<|Ew C.T op t z A x y) v st':=by
 have u:∀ {x y:V},(∀(e:x=.nili),False)->Ew C.T op t z A x y=EA C.T op t x y:=by
  simp_all [Ew,QU]
 unfold Ta at c;split at c
 case h_1=>
  rename_i k a I b;obtain rfl:=Bl i;obtain rfl:=Bl g;rw[u<|by simp];cases j:RC op with
  |true=>
   rw[j]at c;have:=Uy f c;unfold EA;grind [RC]
  |false=>
   rw[j]at c;cases m:(k==I)with
   |false=>simp_all
   |true=>
    rw[m]at c;have:=Tz f c;have m:=beq_iff_eq.1 m;subst m;unfold EA;cases op<;>simp only[RC]at j<;>first|(cases j;done)|(simp only[wg];exact this)
 case h_2=>
  obtain rfl:=Ci i;obtain rfl:=Ci g;grind [Ul,EA]
 case h_3=>
  rename_i ps D;obtain⟨n,rfl,i⟩:=i;obtain⟨ys,rfl,g⟩:=g;split at c
  case h_2=>simp at c
  rename_i ks K;have eq:∀ {r:Bool},CR ks ps D=some r->Am C.T t (.agg n) (.agg ys)=some r:=by
   intro r d;obtain⟨M,L,O⟩:=IF i g d;simp_all [G2,Am]
  split at c
  case h_1=>
   rename_i r d;obtain⟨rfl,rfl⟩:=c;exact OK.pure f (by show Av h ((Am C.T t (.agg n)<|.agg ys).map _)=_;rw[eq d];rfl)<|Br _
  case h_2=>
   rename_i r d;obtain⟨rfl,rfl⟩:=c;exact OK.pure f (by show Av h ((Am C.T t (.agg n)<|.agg ys).map _)=_;rw[eq d];rfl) (Br _)
  simp_all
 case h_4=>
  split at c
  case h_4=>simp at c
  case h_3=>
   split at c
   case h_3=>simp at c
   case h_1=>
    simp only[AL]at c;grind [Iq,OK.pure,Av,Ew,PR,EA]
   case h_2=>
    simp only[AL]at c;grind [Iq,OK.pure,Av,Ew,PR,EA]
  case h_2=>
   rename_i e _ _ l;unfold OQ at c;split at c
   case h_3=>simp at c
   case h_1=>
    have j:=Mq (op:=.eql) f l i c;obtain⟨w,b,o,G,s,e⟩:=j;subst e;subst g;rw[u w,s];exact OK.pure f (v':=.bool b) (by simp only[o];rfl) (by simp_all)
   case h_2=>
    have j:=Mq (op:=.neq) f l i c;obtain⟨w,b,o,G,s,e⟩:=j;subst e;subst g;rw[u w,s];exact OK.pure f (v':=.bool<|!b) (by simp only[o];rfl) (by simp_all)
  rename_i a b J E l;obtain rfl:=C1 J i;obtain rfl:=C1 E g;have eq:Am C.T t (.bool a) (.bool b)=some (a==b):=by unfold Am;rw[l]
  split at c
  case h_1=>
   obtain⟨rfl,rfl⟩:=c;exact OK.pure f (by show Av h ((Am C.T t (.bool a)<|.bool b).map _)=_;rw[eq];rfl)<|Br _
  case h_2=>
   obtain⟨rfl,rfl⟩:=c;exact OK.pure f (by show Av h ((Am C.T t (.bool a)<|.bool b).map _)=_;rw[eq];rfl) (Br _)
  simp_all
theorem UF(d:SR B h0 F ρ st.nx st.ob h){op:UnOp}{p:PV}{x:V}(c:PR F ρ st.nx p x){v:PV}(a:(UN op p st).To v st'):OK B h0 F ρ st h [] (Av h<|Uf op x) v st':=by
 unfold UN at a;split at a<;>simp only[FB,AL]at a
 ·obtain⟨rfl,rfl⟩:=a;obtain rfl:=Bl c;exact OK.pure d rfl (Bj _ _)
 ·obtain⟨rfl,rfl⟩:=a;obtain rfl:=Hm c;exact OK.pure d rfl (Pc _)
 ·obtain⟨rfl,rfl⟩:=a;obtain⟨b,rfl⟩:=c;exact OK.pure d (v':=.bool<|!b) rfl (by simp[PR])
 ·obtain⟨rfl,rfl⟩:=a;obtain rfl:=EZ c;exact OK.pure d rfl (Br _)
theorem Td(c:SR B h0 F ρ st.nx st.ob h){s d:TypeId}{p:PV}{x:V}(b:PR F ρ st.nx p x){v:PV}(a:(OD C.T s d p st).To v st'):OK B h0 F ρ st h [] (Av h<|Cn C.T h s d x) v st':=by
 unfold OD at a;split at a<;>simp only[FB,AL]at a
 ·obtain⟨rfl,rfl⟩:=a;obtain rfl:=Bl b;simp_all [OK.pure,Cn,Av,Bj]
 ·obtain rfl:=Ci b;simp_all [OK.pure,Cn,Av]
theorem S6(e:SR B h0 F ρ st.nx st.ob h){c a b:PV}{x y z:V}(g:PR F ρ st.nx c x)(i:PR F ρ st.nx a y)(f:PR F ρ st.nx b z){v:PV}(d:(PE c a b st).To v st'):
  ∃t,x=.bool t/\OK B h0 F ρ st h [] (Av h<|some<|if t then y else z) v st':=by
 unfold PE at d;split at d
 case h_3=>simp at d
 case h_1=>
  rename_i t;obtain⟨rfl,rfl⟩:=d;refine⟨t,Hm g,OK.pure e rfl ?_⟩;grind
 case h_2=>
  rename_i t;refine⟨t,EZ g,?_⟩;split at d
  case h_1=>
   obtain⟨rfl,rfl⟩:=d;obtain rfl:=Hm f;refine OK.pure e rfl ?_;grind [Br]
  case h_2=>
   obtain⟨rfl,rfl⟩:=d;obtain rfl:=Hm i;refine OK.pure e rfl ?_;grind [Br]
  case h_3=>
   cases d with
   |tt h=>obtain⟨rfl,rfl⟩:=h;exact OK.pure e rfl i
   |ff h=>obtain⟨rfl,rfl⟩:=h;exact OK.pure e rfl f
theorem Ro(n:SR B h0 F ρ st.nx st.ob h){t:TypeId}{p:PV}{x:V}(i:PR F ρ st.nx p x){f:Nat}{v:PV}(a:(LY C.T t p f st).To v st'):OK B h0 F ρ st h [] (Av h<|Ez C.T t x f) v st':=by
 unfold LY at a;split at a
 case h_2=>simp at a
 split at a
 case h_2=>simp at a
 rename_i c d;split at a
 case h_2=>simp at a
 simp only[IM]at a;obtain⟨b,rfl⟩:=a;obtain⟨cs,rfl,hps⟩:=i;rw[FN]at b;have j:=hps.drop c.offset;rcases HC j b with⟨k,_,m,g⟩|⟨k,u,l,e,g⟩
 ·simp_all [OK.pure,Ez,Fb,Av]
 ·have:cs[c.offset]?=some u:=by
   have:=we (·[0]?) e;grind
  simp_all [OK.pure,Ez,Fb,Av]
theorem QO(k:SR B h0 F ρ st.nx st.ob h){t:TypeId}{p:PV}{x:V}(l:PR F ρ st.nx p x){f:Nat}{v:PV}(a:(Mk C.T t p f st).To v st'):
  OK B h0 F ρ st h [] (Av h<|EG C.T t x f) v st':=by
 have live:∀ {id},Ds (st.obj id)=true->∃b n,ρ id=some (b,n):=by
  intro id m;obtain⟨o,u⟩:=Dt m;obtain⟨b,n,_,h1,_⟩:=k.at u;grind
 unfold Mk at a;split at a
 case h_2=>simp at a
 split at a
 case h_2=>simp at a
 rename_i s r;split at a
 case h_2=>simp at a
 rename_i i m;cases q:Zc i.size 0 with
 |true=>simp_all
 |false=>
  have w:i.size≠0:=by intro e;simp_all
  rw[q]at a;have c:∀b off,EG C.T t (.ptr b off) f=some (.ptr b<|off+s.offset):=by
   simp_all [EG]
  split at a
  ·rename_i id off;cases g:Ds (st.obj id)with
   |false=>simp_all
   |true=>
   rw[g]at a;obtain⟨rfl,rfl⟩:=a;have d:=l;obtain⟨b,n,h1⟩:=live g;obtain rfl:=d.2 b n h1;refine OK.pure k (by rw[c];rfl) ?_;grind [PR]
  ·rename_i id sz j off;cases g:Ds (st.obj id)with
   |false=>simp_all
   |true=>
   rw[g]at a;obtain⟨rfl,rfl⟩:=a;have d:=l;obtain⟨b,n,h1⟩:=live g;obtain rfl:=d.2 b n h1;refine OK.pure k (by rw[c];rfl) ?_;grind [PR]
  ·obtain⟨rfl,rfl⟩:=a;obtain⟨b,o,cs,rfl,h1,h2⟩:=l;refine OK.pure k (by rw[c];rfl) ?_;grind [PR]
  simp_all
theorem SR.live(c:SR B h0 F ρ st.nx st.ob h){id:Nat}(a:Ds (st.obj id)=true):∃b n,ρ id=some (b,n):=by
 obtain⟨o,d⟩:=Dt a;obtain⟨b,n,_,h1,_⟩:=c.at d;grind
theorem BG{i:Int}(h:0<=i):∃n:Nat,i=ZQ n/\i.toNat=n:=ae
theorem Bq{a b:Nat}(h:a<b):Zx a b=true:=Zs h
theorem Oo(r:SR B h0 F ρ st.nx st.ob h){t:TypeId}{p q:PV}{x y:V}(z:PR F ρ st.nx p x)(K:PR F ρ st.nx q y){v:PV}(a:(Jh C.T t p q st).To v st'):
  OK B h0 F ρ st h [] (Av h<|B7 C.T t x y) v st':=by
 unfold Jh at a;split at a
 case h_3=>simp at a
 case h_2=>
  rename_i M e k i X;obtain rfl:=Bl K;split at a
  case h_2=>simp at a
  rename_i f J;split at a
  case h_4=>simp at a
  case h_1=>
   rename_i id off;simp only[PR]at z;split at a
   case h_3=>simp_all
   case h_1=>
    rename_i Q W s l I;cases w:(Zc off 0&&Zc f.size s.sz)with
    |false=>simp_all
    |true=>
     rw[w]at a;rw[Za]at w;have E:=Zb w.1;have O:=Zb w.2;subst E;simp only[wb,AK,Za,w5]at a;obtain⟨⟨c,d⟩,rfl,rfl⟩:=a;obtain⟨n,rfl,hn⟩:=BG c;obtain⟨b,m,_,A,_⟩:=r.at I;refine OK.pure r (v':=.ptr b<|0+n*f.size) ?_ ?_
     ·simp_all [Av,B7,Bq]
     simp_all [PR]
   case h_2=>
    rename_i o _ I;simp only[AK,Za,w5]at a;obtain⟨⟨c,d⟩,rfl,rfl⟩:=a;obtain⟨n,rfl,hn⟩:=BG c;obtain⟨b,m,_,A,_⟩:=r.at I;refine OK.pure r (v':=.ptr b<|off+n*f.size) ?_ ?_
    ·simp_all [Av,B7,Bq]
    grind [PR]
  case h_2=>
   rename_i id sz j off;cases G:Ds (st.obj id)with
   |false=>simp_all
   |true=>
    rw[G]at a;simp only[wb,AK,Za,w5]at a;obtain⟨⟨c,d⟩,rfl,rfl⟩:=a;obtain⟨n,rfl,hn⟩:=BG c;obtain⟨b,m,A⟩:=r.live G;simp only[PR]at z;refine OK.pure r (v':=.ptr b<|j*sz+off+n*f.size) ?_ ?_
    ·simp_all [Av,B7,Bq]
    grind [PR]
  case h_3=>
   rename_i s y off;simp only[AK,Za,w5]at a;obtain⟨⟨c,d⟩,rfl,rfl⟩:=a;obtain⟨n,rfl,hn⟩:=BG c;obtain⟨b,o,cs,rfl,A,L,P⟩:=z;refine OK.pure r (v':=.ptr b<|o+off+n*f.size) ?_ ?_
   ·simp_all [Av,B7,Bq]
   grind [PR]
 case h_1=>
 obtain rfl:=Bl K;split at a
 case h_2=>simp at a
 rename_i f J;split at a
 case h_3=>simp at a
 case h_1=>
  rename_i s l;cases g:Zc f.size s.sz with
  |false=>simp_all
  |true=>
   rw[g]at a;have g:=Zb g;simp only[wb,AK,Za,w5]at a;obtain⟨⟨c,d⟩,rfl,rfl⟩:=a;obtain⟨n,rfl,hn⟩:=BG c;have D:n<l.length:=ae
   obtain⟨u,R,z⟩:=z;rcases z with⟨rfl,_⟩|⟨b,off,cap,o,S,rfl,A,L,P,_,U⟩
   ·grind
   ·refine OK.pure r (v':=.ptr b<|off+n*f.size) ?_ ?_
    ·simp_all [Av,B7,Bq]
    ·refine⟨b,off+n*s.sz,S,by grind,L,?_,?_⟩
     ·have:(n+1)*s.sz<=l.length*s.sz:=Ze _ D;grind
     grind
 case h_2=>
  rename_i id sz off len cap;cases g:(Zc f.size sz&&Ds (st.obj id))with
  |false=>simp_all
  |true=>
   rw[g]at a;simp only[Za]at g;obtain⟨g,G⟩:=g;have g:=Zb g;simp only[wb,AK,Za,w5]at a;obtain⟨⟨c,d⟩,rfl,rfl⟩:=a;obtain⟨n,rfl,hn⟩:=BG c;have D:n<len:=ae
   obtain⟨b,m,A⟩:=r.live G;rcases z.2 b m A with⟨_,_,o,_,rfl⟩|⟨Y,_⟩
   ·refine OK.pure r (v':=.ptr b<|off*sz+n*f.size) ?_ ?_
    ·simp_all [Av,B7,Bq]
    grind [PR]
   ·omega
theorem QZ(I:SR B h0 F ρ st.nx st.ob h){t:TypeId}{p q:PV}{x y:V}(m:PR F ρ st.nx p x)(l:PR F ρ st.nx q y){v:PV}(a:(LR C.T t p q st).To v st'):
  OK B h0 F ρ st h [] (Av h<|DY C.T t x y) v st':=by
 unfold LR at a;split at a
 case h_3=>simp at a
 case h_2=>
  rename_i j e ps k i D;obtain rfl:=Bl l;split at a
  case h_2=>simp at a
  rename_i d f G A;simp only[LJ,Za,w5]at a;obtain⟨⟨b,g⟩,c,rfl⟩:=a;obtain⟨n,rfl,hn⟩:=BG b;obtain⟨cs,rfl,hps⟩:=m;rw[FN,hn]at c;have z:=hps.drop<|n*f.size;have r:DY C.T t (.agg cs) (.int k<|ZQ n)=Fb C.T e cs (n*f.size):=by simp_all [DY,Bq]
  rcases HC z c with⟨w,_,_,o⟩|⟨w,u,E,s,o⟩
  ·simp_all [OK.pure,Fb,Av]
  ·have:cs[n*f.size]?=some u:=by
    have:=we (·[0]?) s;grind
   simp_all [OK.pure,Fb,Av]
 case h_1=>
 obtain rfl:=Ci m;obtain rfl:=Bl l;simp only[AK,Za,w5]at a;obtain⟨⟨b,g⟩,rfl,rfl⟩:=a;obtain⟨n,rfl,hn⟩:=BG b;simp_all [OK.pure,Av,DY,Bj]
theorem NY(e:SR B h0 F ρ st.nx st.ob h){p:PV}{x:V}(c:PR F ρ st.nx p x){i:Nat}{v:PV}(a:(Hd p i st).To v st'):OK B h0 F ρ st h [] (Av h<|CV x i) v st':=by
 unfold Hd at a;split at a
 case h_2=>simp at a
 split at a
 case h_2=>simp at a
 rename_i q d;simp only[AL]at a;obtain⟨cs,rfl,b⟩:=c;obtain⟨u,h1,h2⟩:=b.get d;grind [OK.pure,CV,Av]
def K0(F:Fz)(ρ:BB)(N:Nat):Option PV->Option V->Prop
 |none,x=>x=none
 |some p,x=>∃v,x=some v/\PR F ρ N p v
theorem Bv{o:Option PV}{x:Option V}{d:Nat}{c:Bool}{n:Nat}(b:K0 F ρ N o x)(a:pb o d=some (c,n))(g:c=true){y:Nat}(f:n<=y):D7 x y d=some n:=by
 unfold pb at a;split at a
 ·cases a;subst b;rfl
 ·obtain⟨v,rfl,e⟩:=b;obtain rfl:=Bl e;grind [Zs,D7]
 grind
theorem K0.isNone{o:Option PV}{x:Option V}(a:K0 F ρ N o x):(o=none↔x=none):=by
 cases o with
 |none=>grind [K0]
 |some p=>simp only[K0]at a;grind
theorem FA{T:AF}{t e:TypeId}{c:TI}{b off len cap o m a l:Nat}{f d mx:Option V}(n:T.und t=some (.slice e))(g:T.inf e=some c)(j:D7 mx cap cap=some m)(k:D7 d m len=some a)
  (p:D7 f a 0=some l) (i:d=none->mx=none):
  Bu T t (.sl b off len cap o) f d mx=bif Zc m l then(bif Zc (Fh mx o) 0 then some (.sl b off (a-l) (m-l) 0)else some .esl)
   else bif Zc (Fh mx o) 0||Zc (Fh mx o) c.size then some (.sl b (off+l*c.size) (a-l) (m-l)<|Fh mx o)else none:=by
 simp_all [Bu]
theorem OX(w:SR B h0 F ρ st.nx st.ob h){t:TypeId}{p:PV}{x:V}{lo hi mx:Option PV}{a b c:Option V}(K:PR F ρ st.nx p x)(E:K0 F ρ st.nx lo a)(j:K0 F ρ st.nx hi b)(k:K0 F ρ st.nx mx c)
  {v:PV} (d:(JH C.T t p lo hi mx st).To v st'):OK B h0 F ρ st h [] (Av h<|Bu C.T t x a b c) v st':=by
 unfold JH at d;split at d
 case h_3=>simp at d
 case h_1=>
  rename_i hu;split at d
  case h_2=>simp at d
  rename_i s;obtain rfl:=Ci K;split at d
  case h_2=>simp at d
  rename_i c1 l c2 n f g;simp only[AK,Za,w5]at d;obtain⟨⟨⟨⟨L,G⟩,J⟩,y⟩,rfl,rfl⟩:=d;simp only[K0]at k;subst k;have Q:=Bv E f L J;have A:=Bv j g G y;simp_all [OK.pure,Bu,Av,Lj]
 case h_2=>
  rename_i e hu;split at d
  case h_2=>simp at d
  rename_i O R;split at d
  case h_4=>simp at d
  case h_1=>
   rename_i s U;cases D:Zc O.size s.sz with
   |false=>simp_all
   |true=>
    rw[D]at d;have D:=Zb D;simp only[wb]at d;split at d
    case h_2=>simp at d
    rename_i c1 l c2 n f g;simp only[AK,Za,w5]at d;obtain⟨⟨⟨⟨L,G⟩,J⟩,y⟩,rfl,rfl⟩:=d;simp only[K0]at k;subst k;have Q:=Bv E f L J;simp only[PR,DC]at K;obtain⟨u,hu1,K⟩:=K;obtain rfl:x=u:=ae
    rcases K with⟨rfl,rfl|rfl|rfl⟩|⟨X,off,cap,o,bs,rfl,h1,h2,h3,h5,h4⟩
    ·have A:=Bv j g G y;simp only[ZK]at A y;refine OK.pure w (v':=.nils) (by simp_all [Bu,D7,Pw,Av]) ?_;simp[PR,DC]
    ·have A:=Bv j g G y;simp only[ZK]at A y;refine OK.pure w (v':=.esl) (by simp_all [Bu,D7,Pw,Av,Hj]) ?_;simp[PR,DC]
    ·have A:=Bv j g G y;simp only[ZK]at A y;refine OK.pure w (v':=.es0) (by simp_all [Bu,D7,Pw,Av]) ?_;simp[PR,DC]
    ·have A:D7 b cap U.length=some n:=(by grind [Bv]);have r:=FA (b:=X) (off:=off) (len:=U.length) (cap:=cap) (o:=o) (mx:=none) hu R rfl A Q (fun _=>rfl);have M:((U.drop l).take<|Nat.sub n l).length=n-l:=by
      grind
     by_cases hcl:cap=l
     ·have hhl:n=l:=a8
      have Y:(U.drop l).take (Nat.sub n l)=[]:=by
       grind
      rw[Y];by_cases I:o=0
      ·refine OK.pure w (v':=.sl X off (n-l) (cap-l) 0) ?_ ?_
       ·have:Fh none o=0:=I;rw[r,this,hcl,ZI];rfl
       ·simp only[PR,DC];exact⟨_,rfl,.inr ⟨X,off,cap-l,0,bs,by grind,by simp,h2,by grind,.inl rfl,(by simp)⟩⟩
      ·refine OK.pure w (v':=.esl) ?_ ?_
       ·have h1:Zc (Fh none o) 0=false:=by rw[Al];simp[Fh,I]
        rw[r,h1,hcl,ZI];rfl
       ·simp[PR,DC]
     ·refine OK.pure w (v':=.sl X (off+l*O.size) (n-l) (cap-l) o) ?_ ?_
      ·have f:Zc cap l=false:=by rw[Al];grind
       have I:(Zc (Fh none o) 0||Zc (Fh none o) O.size)=true:=by
        rcases h5 with rfl|rfl
        ·rfl
        ·rw[D];show(Zc s.sz 0||Zc s.sz s.sz)=true;simp
       rw[r,f,I];rfl
      ·simp only[PR,DC];refine⟨_,rfl,.inr ⟨X,off+l*O.size,cap-l,o,bs,by rw[M],by omega,h2,?_,h5,fun i hi=>?_⟩⟩
       ·rw[M,D];have:(l+(n-l))*s.sz<=U.length*s.sz:=Ze _ a8;grind
       grind
  case h_2=>
   rename_i id sz off len cap;cases D:(Zc O.size sz&&Ds (st.obj id))with
   |false=>rw[D]at d;simp at d
   |true=>
    rw[D]at d;simp only[Za]at D;obtain⟨D,hl⟩:=D;have D:=Zb D;simp only[wb]at d;have hno:¬(hi=none/\mx≠none):=by
     rintro⟨rfl,hm⟩;cases mx with
     |none=>grind
     |some _=>simp at d
    split at d
    case h_1=>grind
    split at d
    case h_2=>simp at d
    rename_i c1 l c2 n c3 m f g P;simp only[AK,Za,w5]at d;obtain⟨⟨⟨⟨⟨⟨⟨L,G⟩,J⟩,y⟩,k5⟩,k6⟩,k7⟩,rfl,rfl⟩:=d;have Q:=Bv E f L y;have e3:=Bv k P J k6;have A:=Bv j g G k5;have W:b=none->c=none:=by
     intro hbn;cases hcc:c with
     |none=>rfl
     |some z=>
      exfalso;apply hno;exact⟨j.isNone.2 hbn,fun e=>by have:=k.isNone.1 e;grind⟩
    obtain⟨S,n0,h1⟩:=w.live hl;simp only[PR]at K;rcases K.2 S n0 h1 with⟨g1,g2,o,g3,rfl⟩|⟨rfl,rfl,g2,g3⟩
    ·have r:=FA (b:=S) (off:=off*sz) (len:=len) (cap:=cap.getD len) (o:=o) hu R e3 A Q W;have hoz:Fh c o=0\/Fh c o=sz:=by
      unfold Fh;grind
     by_cases hml:m=l
     ·have hhl:n-l=0:=a8
      by_cases I:Fh c o=0
      ·refine OK.pure w (v':=.sl S (off*sz) (n-l) (m-l) 0) ?_ ?_
       ·rw[r,I,hml,ZI];rfl
       ·unfold PR;grind
      ·refine OK.pure w (v':=.esl) ?_ ?_
       ·have hb0:Zc (Fh c o) 0=false:=by rw[Al];simp[I]
        rw[r,hb0,hml,ZI];rfl
       ·unfold PR;grind
     ·refine OK.pure w (v':=.sl S (off*sz+l*O.size) (n-l) (m-l)<|Fh c o) ?_ ?_
      ·have f:Zc m l=false:=by rw[Al];grind
       have I:(Zc (Fh c o) 0||Zc (Fh c o) O.size)=true:=by
        simp_all
       rw[r,f,I];rfl
      grind [PR,Nat.add_mul]
    ·simp only[Option.getD_some]at k6 k7 e3;obtain rfl:m=0:=a8
     obtain rfl:n=0:=a8
     obtain rfl:l=0:=a8
     have hc:c=none:=by
      cases mx with
      |none=>exact k
      |some _=>simp[has]at k7
     subst hc;rcases g3 with rfl|⟨Z,rfl,g4⟩
     ·refine OK.pure w (v':=.esl) (by simp_all [Bu,Pw,Av,Hj]) ?_;simp_all [PR]
     ·refine OK.pure w (v':=.sl S Z 0 0 0) ?_ ?_
      ·rw[FA (mx:=none) hu R rfl A Q (fun _=>rfl)];rfl
      simp_all [PR]
  case h_3=>
   split at d
   case h_3=>simp at d
   case h_2=>
    rename_i c1 l c2 n q f g;split at d
    case h_2=>simp at d
    rename_i p' c3 m P;simp only[AK,Za,w5]at d;obtain⟨⟨⟨⟨⟨⟨L,G⟩,k5⟩,J⟩,y⟩,k6⟩,rfl,rfl⟩:=d;have Q:=Bv E f L J;have A:=Bv j g G a8;have e3:=Bv k P k5 k6;simp only[PR]at K;cases b with
    |none=>simp[K0]at j
    |some b=>exact OK.pure w (v':=.nils) (by simp_all [Bu,Pw,Av]) (by simp[PR])
   rename_i c1 l c2 n f g;simp only[AK,Za,w5]at d;obtain⟨⟨⟨⟨L,G⟩,J⟩,y⟩,rfl,rfl⟩:=d;simp only[K0]at k;have Q:=Bv E f L J;have A:=Bv j g G y;simp only[PR]at K;exact OK.pure w (v':=.nils) (by simp_all [Bu,D7,Pw,Av]) (by simp[PR])
theorem Rb(d:SR B h0 F ρ st.nx st.ob h){t:TypeId}{p q:PV}{x y:V}(b:PR F ρ st.nx p x)(a:PR F ρ st.nx q y){v:PV}(c:(Ql C.T t p q st).To v st'):
  OK B h0 F ρ st h [] (Av h<|B7 C.T t x y) v st':=Oo d b.lz a c
theorem QE(l:SR B h0 F ρ st.nx st.ob h){t:TypeId}{p:PV}{x:V}{g i mx:Option PV}{a b c:Option V}(j:PR F ρ st.nx p x)(f:K0 F ρ st.nx g a)(e:K0 F ρ st.nx i b)(d:K0 F ρ st.nx mx c)
  {v:PV} (k:(Pr C.T t p g i mx st).To v st'):OK B h0 F ρ st h [] (Av h<|Bu C.T t x a b c) v st':=OX l j.lz f e d k
theorem MR.len{ks vs:Sh}{l:List (ks.T×vs.T)}{es:List (V×V×Nat)}(h:MR F ks vs l es):l.length=es.length:=by
 induction h with
 |nil=>rfl
 |cons _ _ _ a=>simp[a]
theorem SW(e:SR B h0 F ρ st.nx st.ob h){ts:Array TypeId}{ps:List PV}{i:List V}(f:Ay F ρ st.nx ps i){v:PV}(c:(Kx C.T ts ps st).To v st'):OK B h0 F ρ st h [] (Av h<|Cp C.T h ts i) v st':=by
 unfold Kx at c;split at c
 case h_2=>simp at c
 rename_i t p a;obtain⟨x,k,rfl,f,rfl⟩:=f;split at c
 case h_6=>simp at c
 case h_1=>
  rename_i s d;obtain⟨rfl,rfl⟩:=c;obtain rfl:=Ci f;exact OK.pure e (by simp only[Cp,a,d,Av];rfl)<|Bj _ _
 case h_2=>
  rename_i s l d;obtain⟨rfl,rfl⟩:=c;obtain⟨u,hu1,f⟩:=f;obtain rfl:x=u:=ae
  rcases f with⟨rfl,rfl|rfl|rfl⟩|⟨b,off,cap,o,m,rfl,_⟩
  ·exact OK.pure e (by simp only[Cp,a,d,Av];rfl)<|Bj _ _
  ·exact OK.pure e (by simp only[Cp,a,d,Av];rfl)<|Bj _ _
  ·exact OK.pure e (by simp only[Cp,a,d,Av];rfl)<|Bj _ _
  ·exact OK.pure e (by simp only[Cp,a,d,Av];rfl)<|Bj _ _
 case h_3=>
  rename_i id sz off len cap d;cases g:Ds (st.obj id)with
  |false=>simp_all
  |true=>
   rw[g]at c;obtain⟨rfl,rfl⟩:=c;obtain⟨b,n,h1⟩:=e.live g;rcases f.2 b n h1 with⟨_,_,o,_,rfl⟩|⟨rfl,_,_,rfl|⟨_,rfl,_⟩⟩
   ·exact OK.pure e (by simp only[Cp,a,d,Av];rfl)<|Bj _ _
   ·exact OK.pure e (by simp only[Cp,a,d,Av];rfl)<|Bj _ _
   ·exact OK.pure e (by simp only[Cp,a,d,Av];rfl)<|Bj _ _
 case h_4=>
  rename_i d;obtain⟨rfl,rfl⟩:=c;subst f;exact OK.pure e (by simp only[Cp,a,d,Av];rfl)<|Bj _ _
 case h_5=>
  split at c
  case h_2=>simp at c
  rename_i ks vs l j;obtain⟨rfl,rfl⟩:=c;obtain⟨b,n,y,h1,h2,⟨es,clk,rfl,h3⟩,_⟩:=e.at j;simp only[PR]at f;have g:l.length=es.length:=h3.len;refine OK.pure e (v':=i64 es.length) (by simp_all [Cp,Av]) ?_;rw[<-g];rfl
theorem Ud(d:SR B h0 F ρ st.nx st.ob h){ts:Array TypeId}{ps:List PV}{a:List V}(b:Ay F ρ st.nx ps a){v:PV}(c:(QR C.T ts ps st).To v st'):OK B h0 F ρ st h [] (Av h<|Cp C.T h ts a) v st':=SW d b.lz c
theorem TV(o:SR B h0 F ρ st.nx st.ob h){f:Int->Int->Int}{g:V->V->Option V}(n:∀k x y,g (.int k x) (.int k y)=some (.int k<|f x y)){ps:List PV}{a:List V}(c:Ay F ρ st.nx ps a){v:PV}
  (b:(Gx f ps st).To v st'):OK B h0 F ρ st h [] (Av h<|Cz g a) v st':=by
 have key:∀(ps:List PV) (a:List V) (k:IntKind) (x z:Int),Ay F ρ st.nx ps a->TX f k x ps=some z->dfold g (.int k x) a=some (.int k z):=by
  intro ps;induction ps with
  |nil=>grind [TX,Ay,dfold]
  |cons p ps q=>
   intro a k x z c i;obtain⟨u,l,rfl,d,j⟩:=c;unfold TX at i;split at i
   case h_1=>grind
   case h_2=>
    rename_i e;cases e;rename_i m y;cases r:(k==m)with
    |false=>grind
    |true=>
     obtain rfl:=Bl d;grind [dfold]
   grind
 unfold Gx at b;split at b
 case h_2=>simp at b
 split at b
 case h_2=>simp at b
 simp only[AL]at b;obtain⟨u,l,rfl,d,j⟩:=c;obtain rfl:=Bl d;grind [OK.pure,Cz,Av,Bj]
theorem OK.new(e:SR B h0 F ρ st.nx st.ob h){o:Obj}{x:O}{n:Nat}(c:o.frozen=false)(d:K9 F (An ρ st.nx<|some (h.nx,n)) (st.nx+1) n o x){v:PV}{v':V}
  (a:PR F (An ρ st.nx<|some (h.nx,n)) (st.nx+1) v v'):OK B h0 F ρ st h [] (B9<|some (v',h.push x)) v (st.push o):=by
 refine⟨v',h.push x,F,_,.inl rfl,a,e.push c d,Le.new _,rfl,rfl,Nat.le_succ _,fun b f=>.inl ?_⟩;rw[H.AT,w9 a8]
theorem E9{n:Nat}:PR F (An ρ N<|some (h.nx,n)) (N+1) (.ptr N 0) (.ptr h.nx 0):=by
 simp_all [PR,An]
theorem Sg{F:Fz}:∀ {s:Sh} {v:V},Tq s v=true->DC F s s.C2 [v]
 | .bool,.bool b,h=>by
  grind [Tq,DC,Sh.C2]
 | .int k,.int a n,h=>by
  simp_all [Tq,DC,Sh.C2]
theorem Rz{T:AF}{t:TypeId}{s:Sh}{n:Nat}(h:Su T t=some (s,n)):∃i,T.inf t=some i/\n=i.zero.length/\(∀v∈i.zero,Tq s v=true)/\s.sz=1:=by
 unfold Su at h;split at h
 case h_2=>cases h
 rename_i i e d;split at h
 case h_2=>cases h
 rename_i c a;cases b:(Zt 32 (Det.B1 i.zero)&&Det.E0 (Tq c) i.zero)with
 |false=>grind
 |true=>
  rw[b]at h;cases h;rw[Za,Cc]at b;refine⟨i,d,A9 ..,ae,?_⟩;unfold US at a;split at a<;>first|(cases a;rfl)|cases a
theorem Rr(f:SR B h0 F ρ st.nx st.ob h){t:TypeId}{v:PV}(c:(Ji t C.T st).To v st'):OK B h0 F ρ st h [] (B9<|CF C.T h t) v st':=by
 unfold Ji OZ at c;split at c
 case h_1=>
  rename_i s n g;obtain⟨rfl,rfl⟩:=c;obtain⟨i,e,rfl,hall,hs⟩:=Rz g;have:CF C.T h t=some (.ptr h.nx 0,h.push<|.cells i.zero t (0,0)):=by simp[CF,e,DK]
  rw[this];refine OK.new f (o:=.arr false t s<|Zm i.zero.length s.C2) (n:=i.zero.length) rfl ⟨_,_,rfl,⟨by grind,fun j k=>?_⟩,Zh _,(by simp)⟩ E9;have d:j<i.zero.length:=ae
  have:=hall i.zero[j] (by simp);rw[List.getElem_replicate,hs,ZN,ZH d];exact Sg this
 split at c
 case h_2=>simp_all
 rename_i cs a;rw[Option.bind_eq_some_iff]at a;obtain⟨i,e,a⟩:=a;cases b:E0 V.ok i.zero with
 |false=>grind
 |true=>
 rw[b]at a;cases a;rw[Cc]at b;obtain⟨rfl,rfl⟩:=c;have:CF C.T h t=some (.ptr h.nx 0,h.push<|.cells i.zero t (0,0)):=by simp[CF,e,DK]
 rw[this];cases RQ C.T t with
 |true=>exact OK.new f (o:=.tbox t<|i.zero.map Mj) (n:=0) rfl ⟨_,_,rfl,BE _,Zh _,ae⟩ E9
 |false=>exact OK.new f (o:=.box<|i.zero.map Mj) (n:=0) rfl ⟨_,_,_,rfl,BE _,Zh _,ae⟩ E9
theorem Ty(b:SR B h0 F ρ st.nx st.ob h){t:TypeId}{p:PV}{x:V}(d:PR F ρ st.nx p x){cs:List PV}(a:Ti st p=some cs)(e:cs.all (EJ st)=true):OK B h0 F ρ st h [] (B9<|some<|NJ h t x) (.ptr st.nx 0) (st.push<|.box cs):=
 OK.new b (o:=.box cs) (n:=0) rfl ⟨_,_,_,rfl,(Gu b d a).mono<|Le.new _,Zh _,fun u c=>V.Fi<|List.all_eq_true.1 (by grind [Ex,Gu]) u c⟩ E9
theorem D0(k:SR B h0 F ρ st.nx st.ob h){place:Nat->Option (Nat×Nat)}:∀ {l:List (Nat×PV)} {l':List (Nat×V)},SI F ρ st.nx l l'->∀ {cs:List PV} {b:List V},Ay F ρ st.nx cs b->∀ {out:List PV},IS st place cs l=some out->
  ∃e,DG place b l'=some e/\Ay F ρ st.nx out e:=by
 intro l l' n;induction n with
 |nil=>intro cs b c out a;cases a;exact⟨b,rfl,c⟩
 |@cons i p v l l' j _ o=>
  intro cs b c out a;unfold IS at a;unfold DG;split at a
  case h_1=>cases a
  rename_i off size g;split at a
  case h_2=>cases a
  rename_i vs d;cases m:(Zc (Det.B1 vs) size&&Zt (ZE off size) (Det.B1 cs))with
  |false=>grind
  |true=>
   have f:=Gu k j d;rw[A9,A9,f.len,c.len]at m;have:=f.AR off c;grind [D6]
theorem QS(b:SR B h0 F ρ st.nx st.ob h){t:TypeId}{l:List (Nat×PV)}{l':List (Nat×V)}(f:SI F ρ st.nx l l'){v:PV}(d:(ov st<|Lp C.T st t l).To v st'):OK B h0 F ρ st h [] (Av h<|EB C.T t l') v st':=by
 simp only[IM]at d;obtain⟨a,rfl⟩:=d;unfold Lp at a;split at a
 case h_3=>cases a
 case h_1=>
  rename_i i fs j g;split at a
  case h_2=>cases a
  rw[Zd]at a;obtain⟨out,c,rfl⟩:=a;obtain⟨ys,g1,g2⟩:=D0 b f (BE i.zero) c;exact OK.pure b (v':=.agg ys) (by grind [EB,Av]) (by simp_all [PR])
 case h_2=>
  rename_i i k e j g;split at a
  case h_2=>cases a
  rw[Zd]at a;obtain⟨out,c,rfl⟩:=a;obtain⟨ys,g1,g2⟩:=D0 b f (BE i.zero) c;exact OK.pure b (v':=.agg ys) (by grind [EB,Av]) (by simp_all [PR])
theorem EE(z:List V):∀n,Ay F ρ N (GL (z.map Mj) n)<|(Zm n z).flatten
 |0=>by rfl
 |n+1=>by
  exact(BE z).append<|EE z n
theorem C8(z:List V):∀n,Ca z (n*z.length)=(Zm n z).flatten:=by
 intro n;apply ZC;intro i;unfold Ca;by_cases b:z.length=0
 ·simp_all
 ·induction n generalizing i with
  |zero=>simp
  |succ n a=>
   rw[List.replicate_succ,List.flatten_cons];by_cases c:i<z.length
   ·grind [Nat.mod_eq_of_lt]
   ·rw[Zv a8, <-a (i-z.length)];grind [Nat.mod_eq_sub_mod]
theorem Hp{sz n:Nat}{o:Nat}(a:o=0\/o=sz):PR F (An ρ N<|some (h.nx,n)) (N+1) (.sl N sz 0 n none) (.sl h.nx 0 n n o):=by
 simp_all [PR,An]
theorem Ft{place:Nat->Option (Nat×Nat)}:∀ {l:List (Nat×V)} {a b:List V},DG place a l=some b->b.length=a.length
 |[],a,b,h=>by cases h;rfl
 |(i,v)::l,a,b,h=>by
  unfold DG at h;split at h
  ·cases h
  ·rename_i off size _;cases c:(Zc v.cells.length size&&Zt (off+size) a.length)with
   |false=>grind
   |true=>
    rw[c]at h;rw[Ft h,DD]
end
section
variable {B:Nat}{h0:H0}{F:Fz}{ρ:BB}{N:Nat}{C:Ctx}{st st':Ae}{fr:Fr}{h h':H}
theorem Bk.nil{s:Sh}:Bk F s [] []:=⟨by simp,(by simp)⟩
theorem Bk.cons{s:Sh}{x:s.T}{l:List s.T}{a b:List V}(c:DC F s x a)(d:Bk F s l b):Bk F s (x::l) (a++b):=by
 refine⟨by rw[Zo,c.len,d.1,List.length_cons,Zy];omega,fun i f=>?_⟩;cases i with
 |zero=>
  simp only[Nat.zero_mul,List.drop_zero,ZJ];rw[<-c.len,List.take_left];exact c
 |succ i=>
  have e:(a++b).drop ((i+1)*s.sz)=b.drop (i*s.sz):=by
   rw[Zy,Nat.add_comm,Cj, <-c.len,List.drop_left]
  rw[e];exact d.2 i ae
theorem Bk.Qo{s:Sh}{x:s.T}{l:List s.T}{cs:List V}(h:Bk F s (x::l) cs):∃a b,cs=a++b/\DC F s x a/\Bk F s l b:=by
 have h0:=h.2 0 (by simp);simp only[Nat.zero_mul,List.drop_zero,ZJ]at h0;refine⟨cs.take s.sz,cs.drop s.sz,(by simp),h0,?_,fun i c=>?_⟩
 ·grind [Zy,Bk]
 ·have:=h.2 (i+1) ae;grind [Cj,Zy]
theorem Bk.append{s:Sh}:∀ {l m:List s.T} {a b:List V},Bk F s l a->Bk F s m b->Bk F s (l++m) (a++b)
 |[],m,a,b,h,h'=>by
  have:a=[]:=List.length_eq_zero_iff.1 (by rw[h.1];simp);grind
 |x::l,m,a,b,h,h'=>by
  obtain⟨c,d,rfl,f,e⟩:=h.Qo;rw[List.append_assoc,List.cons_append];exact Bk.cons f<|e.append h'
theorem Bk.replicate{s:Sh}{z:s.T}{c:List V}(a:DC F s z c):∀n,Bk F s (Zm n z)<|(Zm n c).flatten
 |0=>Bk.nil
 |n+1=>by
  exact Bk.cons a<|Bk.replicate a n
theorem Bk.Ka{s:Sh}:∀ {l:List s.T} {a:List V},Bk F s l a->a.all V.one=true
 |[],a,h=>by
  grind [Bk]
 |x::l,a,h=>by
  obtain⟨c,d,rfl,b,e⟩:=h.Qo;rw[List.all_append,e.Ka,Bool.and_true];exact List.all_eq_true.2 b.Ka
theorem Bk.part{s:Sh}{l:List s.T}{cs:List V}(h:Bk F s l cs){off len:Nat}(d:off+len<=l.length):Bk F s ((l.drop off).take len) ((cs.drop<|off*s.sz).take<|len*s.sz):=by
 have b:(off+len)*s.sz<=l.length*s.sz:=Ze _ d;have e:=h.1;refine⟨by grind,fun i f=>?_⟩;have a:i<len:=ae
 have c:(i+1)*s.sz<=len*s.sz:=Ze _ a;grind [Zw,ZO,Nat.add_mul,Bk]
theorem S1(L:SR B h0 F ρ st.nx st.ob h){t:TypeId}{p q:PV}{x y:V}(J:PR F ρ st.nx p x)(j:PR F ρ st.nx q y){v:PV}(a:(PY C.T t p q st).To v st'):OK B h0 F ρ st h [] (B9<|HF C.T h t x y) v st':=by
 unfold PY at a;split at a
 case h_2=>simp at a
 rename_i e k l m c u;obtain rfl:=Bl J;obtain rfl:=Bl j;split at a
 case h_2=>simp at a
 rename_i i s I P;cases f:(Zx 0 i.zero.length&&Zc i.zero.length i.size&&Zc i.size s.sz)with
 |false=>simp_all
 |true=>
  rw[f]at a;simp only[Za]at f;obtain⟨⟨w,g⟩,Q⟩:=f;simp only[wb]at a;split at a
  case h_2=>simp at a
  rename_i z E;simp only[AK,Za,w5]at a;obtain⟨⟨⟨⟨K,G⟩,D⟩,O⟩,rfl,rfl⟩:=a;have d:l=c:=G;subst d;obtain⟨n,rfl,hn⟩:=BG K;have M:=Zb g;have r:HF C.T h t (.int k<|ZQ n) (.int m<|ZQ n)=some (.sl h.nx 0 n n 0,h.push<|.cells (Ca i.zero<|n*i.size) e (0,0)):=by
   have a1:Zt n n=true:=(by simp);have a2:Zx n 9223372036854775808=true:=(by grind [Bq]);have a3:Zt (i.bytes*n) 281474976710656=true:=Zs D;simp only[HF,u,I,a1,a2,a3,w,g,Bool.and_self,wb,DK]
  rw[r];have A:=A2 (BE (F:=F) (ρ:=ρ) (N:=st.nx) i.zero) E;have b:Bk F s (Zm n z) (Ca i.zero<|n*i.size):=by
   grind [C8,Bk.replicate]
  exact OK.new L (o:=.arr false e s<|Zm n z) (n:=n) rfl ⟨_,_,rfl,b,Zh _,by simp⟩ (Hp<|.inl rfl)
theorem LZ(J:SR B h0 F ρ st.nx st.ob h){s:Sh}{p:PV}{x:V}(k:PR F ρ st.nx p x){c:Bool}{l:List s.T}(a:Dg st s p=some (c,l))(E:c=true):
  HG x=some l.length/\(s.sz=1\/HP x=true)/\∃cs,src h s.sz x l.length=some cs/\Bk F s l cs:=by
 unfold Dg at a;split at a
 case h_1=>
  cases a;subst k;exact⟨rfl,.inr rfl,[],rfl,Bk.nil⟩
 case h_2=>
  rename_i d l';rw[Zd]at a;obtain⟨r,A,m⟩:=a;obtain⟨e,he⟩:=AU A;have w:d=s:=ae
  subst w;have:r=l':=ae
  subst this;cases m;obtain⟨u,X,k⟩:=k;obtain rfl:x=u:=ae
  rcases k with⟨rfl,rfl|rfl|rfl⟩|⟨b,off,cap,o,K,rfl,G,D,g,Y,M⟩
  ·exact⟨rfl,.inr rfl,[],rfl,Bk.nil⟩
  ·exact⟨rfl,.inr rfl,[],rfl,Bk.nil⟩
  ·exact⟨rfl,.inr rfl,[],rfl,Bk.nil⟩
  ·obtain⟨S,fz,L⟩:=J.frz b K D;suffices hD:Bk F d l ((K.drop off).take<|l.length*d.sz)from⟨rfl,.inr rfl,_,rd_some L g hD.ok,hD⟩
   refine⟨?_,fun i Q=>?_⟩
   ·grind
   ·have R:(i+1)*d.sz<=l.length*d.sz:=Ze _ Q;grind [Zw,ZO]
 case h_3=>
  rename_i id sz off len cap;split at a
  case h_2=>cases a
  rename_i U S d l' O;cases f:Zc sz d.sz with
  |false=>grind
  |true=>
   rw[f]at a;have f:=Zb f;simp only[wb,Zd]at a;obtain⟨r,A,m⟩:=a;obtain⟨e,he⟩:=AU A;have w:d=s:=ae
   subst w;have:r=l':=ae
   subst this;cases m;simp only[w5]at E;obtain⟨b,n,y,G,D,⟨cs,fz,rfl,g,M,Y⟩,_⟩:=J.at O;have v:((r.drop off).take len).length=len:=ae
   have z:(off+len)*d.sz<=r.length*d.sz:=Ze _ E;rw[Nat.add_mul]at z;rw[v];rcases k.2 b n G with⟨_,_,o,_,rfl⟩|⟨rfl,_,P,rfl|⟨I,rfl,q⟩⟩
   ·refine⟨rfl,.inr rfl,_,rd_some D ?_ ?_,?_⟩
    ·rw[f,g.1];exact z
    ·rw[f];exact(g.part E).ok
    ·rw[f];exact g.part E
   ·refine⟨rfl,.inr rfl,[],rfl,?_⟩;simpa using Bk.nil
   ·refine⟨rfl,.inr rfl,_,rd_some D ?_ ?_,?_⟩
    ·rw[f]at q;rw[g.1];omega
    ·simp
    ·simp;exact Bk.nil
 case h_5=>cases a
 case h_4=>
  rename_i t;rw[Zd]at a;obtain⟨r,A,m⟩:=a;obtain⟨e,he⟩:=AU A;have w:s=.int .u8:=ae
  subst w;have:r=List.map (fun b:UInt8=>(b.toNat:Int)) t:=ae
  subst this;cases m;obtain rfl:=Ci k;refine⟨by simp[HG],.inl rfl,_,rfl,?_⟩;refine⟨by simp[Sh.sz],fun j Z=>?_⟩;have W:j<t.length:=ae
  have e1:((t.map fun b=>V.int .u8 (b.toNat:Int)).drop<|j*1).take 1=[V.int .u8 ((t[j]).toNat:Int)]:=by
   simp_all [ZH]
  grind [DC,Sh.sz]
theorem Np(e:SR B h0 F ρ st.nx st.ob h){s:Sh}{p:PV}{x:V}(d:PR F ρ st.nx p x){c:Bool}{l:List s.T}(a:G0 st s p=some (c,l))(b:c=true):
  HG x=some l.length/\(s.sz=1\/HP x=true)/\∃cs,src h s.sz x l.length=some cs/\Bk F s l cs:=LZ e d.lz a b
theorem SR.congr(a:SR B h0 F ρ N st.ob h)(f:∀c,h'.get c=h.get c)(e:h'.nx=h.nx):SR B h0 F ρ N st.ob h':=
 ⟨fun id o i=>by obtain⟨b,n,x,k,p,m⟩:=a.obj id o i;grind,a.inj,fun b cs d=>by obtain⟨t,fz,k⟩:=a.frz b cs d;grind,a.own,a.dead,
  fun b d g=>(f b).trans<|a.old b d g,fun b o d=>by rw[e];exact a.lt b o ae,by rw[e];exact a.le,a.fo,a.gl,fun c j=>by obtain⟨r,l,q⟩:=a.pn c j;grind⟩
end
end Go.Pe
