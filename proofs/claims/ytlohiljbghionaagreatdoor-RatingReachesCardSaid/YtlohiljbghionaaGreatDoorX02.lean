import Derived.Test.YtlohiljbghionaaGreatDoorX01
import Derived.IntWalk
import Derived.Laws.IdiomStrings
import Derived.Lib.UnsafeStr
import Derived.Lib.Builder
import Derived.RangeFuncRecord
import Derived.LoopNIn
import Derived.OrdersIn
import Derived.RangeFuncLeaves
/- A part of a proof; no law is stated here. -/
noncomputable section
open Go.Result renaming andThen_ok -> zc
open Go.Sem renaming run_bind -> zd, run_pure -> zf, run -> yd
open Option.some renaming injEq -> ze
open Option renaming map_eq_some_iff -> zg, map_some -> yw
open Nat renaming beq -> zh, blt -> zl, ble -> zt, mul_le_mul_right -> zz, ble_eq -> yb, le_of_not_lt -> yf, le_refl -> yi, blt_eq -> yp, add_mul -> qj, zero_add -> qo
open Go.Builtin renaming zeroCells -> zi, firstCells -> zk, append_ -> z6, nextslicecap -> ya, growBy -> ym, lenOf -> yr
open Array renaming getElem?_setIfInBounds_ne -> zj, toList_inj -> zm, getElem?_toList -> zn, getD_eq_getD_getElem? -> zr, getElem?_eq_none -> z7, size_append -> yy
open Prod.mk renaming injEq -> zo
open List renaming getElem?_take_of_lt -> zp, getElem?_eq_some_iff -> zx, mem_singleton -> zy, getElem?_map -> yc, getElem?_append_left -> yg, length_append -> yh, getElem?_cons_zero -> yj, getElem?_cons_succ -> yk, getElem?_toArray -> yn, mem_append_right -> yo, size_toArray -> yz, length_eq_zero_iff -> qd, all_cons -> qm, mem_cons -> qn
open Bool renaming and_eq_true -> zq, false_eq_true -> z8, or_eq_true -> qh
open Go.Det.Ext renaming refl -> zu, push -> qe, drew -> qi, put -> ql
open Go.Instr renaming sameBits -> zw, findAsking -> yq, findNow -> yt, range -> y7, sameNow -> y8, findKey -> y9, next -> qf, lookup -> qg, checkKey -> qk
open Go.Deferred renaming ofValue -> ye
open Go.Oper renaming semAt_eq -> yu
open Go.Question renaming forced -> yv
open Go.Fence renaming wide -> yx
open Go.Region renaming wanted -> qc
namespace Go.Det
section
variable {T:B6}{P:Program}{p:Pl}{h:H}{w:World}
def P8(T:B6)(h:H)(t:TypeId)(len cap:V):Option (V×H):=
 match T.und t,len,cap with
 |some (.slice e),.int _<|.ofNat l,.int _ (.ofNat c)=>
  match T.inf e with
  |some i=>
   bif zt l c&&zl c 9223372036854775808&&zt (i.bytes*c) 281474976710656&&zl 0 i.zero.length&&zh i.zero.length i.size then
    some (.sl h.nx 0 l c 0,IC h e<|Ff i.zero<|c*i.size)
   else none
  |none=>none
 |_,_,_=>none
theorem wrap_small(c:Nat)(h:c<9223372036854775808):IntKind.i64.wrap (c:Int)=c:=IntWalk.i64_in _ ae
theorem oY(m:T.Ok P)(hr:R p h w){t:TypeId}{len cap:V}{d g:Value}(u:Ac p len d)(y:Ac p cap g){v:V}{h':H}(f:P8 T h t len cap=some (v,h')):
  ∃v' p' w',(Instr.makeSlice t d g).run P w=.ok v' w'/\Ac p' v v'/\Ext p h w p' h' w':=by
 unfold P8 at f;split at f
 case h_2=>cases f
 rename_i e k l E c D;split at f
 case h_2=>cases f
 rename_i i o;cases b:(zt l c&&zl c 9223372036854775808&&zt (i.bytes*c) 281474976710656&&zl 0 i.zero.length&&zh i.zero.length i.size)with
 |false=>simp[b]at f
 |true=>
  simp only[b,we,ze,zo]at f;obtain⟨rfl,rfl⟩:=f;simp only[zq,yb,yp,Bp,w5]at b;obtain⟨⟨⟨⟨c1,c2⟩,c3⟩,c4⟩,c5⟩:=b;simp only[Ac]at u y;subst u y;obtain⟨z,hz,hzr⟩:=EM m o;obtain⟨j,hj,hjb,_⟩:=Qa m o;obtain⟨n,he,hpn,hn⟩:=Oc hr e<|Jz (hzr p) c4<|c*i.size;refine⟨.slice (some ⟨w.heap.size,0,none⟩) l c,_,_,?_,?_,he⟩
  ·unfold Instr.makeSlice asInt asIntOf;simp only[zd,zf,Ay m D,zc,hj,Int.ofNat_eq_natCast,wrap_small c c2,wrap_small l ae,hjb];have s:(i.bytes:Int)*(c:Int)=((i.bytes*c:Nat):Int):=(Int.natCast_mul _ _).symm;rw[s];generalize i.bytes*c=q at c3 s ⊢;have A:¬((decide ((c:Int)<0)||decide ((q:Int)>2^48))||decide ((l:Int)<0)||decide ((l:Int)>(c:Int)))=true:=by
    simp;omega
   rw[wc A];simp only[zd,zc,run_askRoom,Bw m o,Int.toNat_natCast];by_cases h0:c*i.size=0
   ·rw[wd h0];have B:(Array.map (fun x=>(#[]:Array Value)[x % (#[]:Array Value).size]!)<|Array.range<|c*i.size)=Array.map (fun r=>z.cells[r % z.cells.size]!) (Array.range<|c*i.size):=by simp[h0]
    simp only[zd,zf,zc,Cv];rw[B]
   ·rw[wc h0];simp only[zd,hz,zf,zc,Cv]
  ·simp only[Ac];exact⟨_,n,c,hpn,rfl,c1,yi _,fun _=>rfl,by simp⟩
def src(h:H)(size:Nat)(x:V)(n:Nat):Option (List V):=
 match x with
 | .nils=>some []
 | .esl=>bif zh n 0 then some []else none
 | .es0=>bif zh n 0 then some []else none
 | .sl b off _ _ _=>rd h b off<|n*size
 | .str s=>some<|(s.take n).map fun c=>.int .u8 c.toNat
 |_=>none
def Pg:V->Option Nat
 | .nils=>some 0
 | .esl=>some 0
 | .es0=>some 0
 | .sl _ _ len _ _=>some len
 | .str s=>some s.length
 |_=>none
theorem O3{x:V}{x':Value}(b:Ac p x x'){n:Nat}(c:Pg x=some n):(yr x').run P w=.ok n w:=by
 unfold Pg at c;split at c
 case h_1=>simp only[Ac]at b;subst b;cases c;rfl
 case h_2=>simp only[Ac]at b;obtain⟨_,_,rfl⟩:=b;cases c;rfl
 case h_3=>simp only[Ac]at b;obtain⟨_,rfl⟩:=b;cases c;rfl
 case h_4=>simp only[Ac]at b;obtain⟨_,_,_,_,rfl,_⟩:=b;cases c;rfl
 case h_5=>simp only[Ac]at b;subst b;cases c;simp[yr,BE]
 case h_6=>cases c
theorem LV(hr:R p h w){size n:Nat}{x:V}{x':Value}(f:Ac p x x'){cs:List V}(b:src h size x n=some cs):
  ∃vs:List Value,(zk size n x').run P w=.ok vs.toArray w/\At p cs vs:=by
 unfold src at b;split at b
 case h_6=>cases b
 case h_1=>simp only[Ac]at f;subst f;cases b;exact⟨[],rfl,by simp⟩
 case h_2=>
  simp only[Ac]at f;obtain⟨a,c,rfl⟩:=f;rw[Bp]at b;by_cases e:n=0
  ·subst e;simp only[decide_true,we,ze]at b;subst b;exact⟨[],by simp[zk,loadCells,loadCellsFrom],by simp⟩
  ·simp[e]at b
 case h_3=>
  simp only[Ac]at f;obtain⟨a,rfl⟩:=f;rw[Bp]at b;by_cases e:n=0
  ·subst e;simp only[decide_true,we,ze]at b;subst b;exact⟨[],by simp[zk,loadCells,loadCellsFrom],by simp⟩
  ·simp[e]at b
 case h_4=>
  simp only[Ac]at f;obtain⟨r,m,c,hp,rfl,_⟩:=f;obtain⟨r',m',vs,g,k,h3,_⟩:=run_loadCells (P:=P) hr b;rw[hp]at g;cases g;exact⟨vs,k,h3⟩
 case h_5=>
  rename_i s;simp only[Ac]at f;subst f;cases b;refine⟨(s.take n).map fun c=>.int .u8 c.toNat,?_,?_⟩
  ·simp only[zk,zf];congr 1;apply Array.ext';simp[bytesOf,List.extract]
  ·apply At.mk (by simp);intro i d v g k;simp only[yc]at g k;cases l:(s.take n)[i]? with
   |none=>simp[l]at g
   |some q=>simp[l]at g k;subst g k;simp[Ac]
theorem Rx(b:Nat):∀(r c:Nat),c<b->2*ym b r c<=3*b+2000
 |0,c,h=>by simp[ym];omega
 |r+1,c,h=>by
  unfold ym;rw[wc ae];by_cases d:c+(c+768)/4<b
  ·exact Rx b r _ d
  ·cases r with
   |zero=>simp[ym];omega
   |succ r=>unfold ym;rw[wd ae];omega
theorem Ws(b c:Nat)(h:c<b):2*ya b c<=3*b+2000:=by
 unfold ya;split
 ·omega
 ·split
  ·omega
  ·exact Rx b 4 c h
def isInt:TypeDesc->Bool
 | .int _=>true
 |_=>false
def P1:V->Bool
 | .str _=>false
 |_=>true
def GH(T:B6)(h:H)(ts:Array TypeId)(args:List V):Option (V×H):=
 match ts[0]?,ts[1]?,args with
 |some t,some tx,[s,x]=>
  match T.und t,T.und tx,Pg x with
  |some (.slice e),some dx,some n=>
   match T.inf e,isInt dx with
   |some i,false=>
    bif zl 0 i.bytes&&zl 0 i.size&&zh i.zero.length i.size&&(zh i.size 1||P1 x)then
     match src h i.size x n with
     |some new=>
      match s with
      | .nils=>
       bif zh n 0 then some (.nils,h)
       else bif zt ((3*n+2000)*i.bytes) 562949953421312 then some (.sl h.nx 0 n n i.size,IC h e new)else none
      | .es0=>
       bif zh n 0 then some (.es0,h)
       else bif zt ((3*n+2000)*i.bytes) 562949953421312 then some (.sl h.nx 0 n n i.size,IC h e new)else none
      | .esl=>bif zh n 0 then some (.esl,h)else none
      | .sl b off len cap o=>
       bif zt (len+n) cap then(wr h b (off+len*i.size) new).map fun h'=>(.sl b off (len+n) cap o,h')
       else bif zt ((3*(len+n)+2000)*i.bytes) 562949953421312 then
        match src h i.size s len with
        |some old=>
         bif zh o 0 then some (.sl h.nx 0 (len+n) (len+n) i.size,IC h e<|old++new)
         else
          match h.get b with
          |some (.cells _ te fz)=>
           bif zh off 0&&zh o i.size&&zh te e&&zt fz.2 fz.1&&new.all V.one then some (.sl h.nx 0 (len+n) (len+n) i.size,(h.kill b).push<|.cells (old++new) e (0,0))
           else none
          |_=>none
        |none=>none
       else none
      |_=>none
     |none=>none
    else none
   |_,_=>none
  |_,_,_=>none
 |_,_,_=>none
theorem RX{old new:List V}{vo vn:List Value}(c:At p old vo)(d:At p new vn)(b:Array Value):
  At p (old++new) ((vo.toArray++vn.toArray++b).toList.take (old++new).length):=by
 have l1:=c.length;have f:=d.length;have:((vo.toArray++vn.toArray++b).toList.take (old++new).length)=vo++vn:=by
  simp only[Array.toList_append,yh,l1,f];rw[List.take_append_of_le_length<|by simp];rw[List.take_of_length_le<|by simp]
 rw[this];exact c.append d
section
variable {ts:Array TypeId}{t t0 tx e:TypeId}{dx:TypeDesc}{i:TI}{n:Nat}{x' z:Value}{j:TypeInfo}
theorem OD(m:T.Ok P)(f:ts[0]?=some t0)(k:ts[1]?=some tx)(r:T.und t0=some (.slice e))(l:T.und tx=some dx)(o:isInt dx=false)
  (s:T.inf e=some i) (q:∀w,(yr x').run P w=.ok n w) (base:Option Addr) (d c:Nat) (g:d+n<=c):
  (z6 ts t #[.slice base d c,x']).run P w=((zk i.size n x').run P w).andThen fun new w'=>((match base with|some a=>storeCells (a.add<|d*i.size) new.toList|none=>pure ():Sem Unit).run P w').andThen fun _ w'=>.ok (.slice base (d+n) c) w':=by
 unfold z6;cases dx<;>first|(cases o;done)|skip
 all_goals
  simp only[f,k,yn,yj,yk,zd,Ay m r,Ay m l,Bw m s,zc,zf,z8,vg,q,g,wk,Bool.not_false];cases base with
  |none=>rfl
  |some b=>simp only[zd,zf]
theorem RD(g:T.Ok P)(k:ts[0]?=some t0)(m:ts[1]?=some tx)(G:T.und t0=some (.slice e))(o:T.und tx=some dx)(q:isInt dx=false)
  (x:T.inf e=some i) (v:0<i.bytes) (J:∀w,(zeroValue e).run P w=.ok z w) (A:∀w,(yr x').run P w=.ok n w) (base:Option Addr) (b c:Nat) (s:c<b+n)
  (f:(3*(b+n)+2000)*i.bytes<=562949953421312):
  ∃l,b+n<=l/\(z6 ts t #[.slice base b c,x']).run P w=((zk i.size b<|.slice base b c).run P { w with drawn:=w.drawn+1 }).andThen fun old w'=>
   ((zk i.size n x').run P w').andThen fun new w'=>
    .ok (.slice (some ⟨w'.heap.size,0,none⟩) (b+n) l) { w' with heap:=w'.heap.push (.cells (old++new++zi z.cells (l-(b+n))) e) }:=by
 obtain⟨j,D,u,I⟩:=Qa g x;have r:=Ws (b+n) c s;have d:2*ya (b+n) c*i.bytes<=562949953421312:=Nat.le_trans (zz _ r) f;rw[Nat.mul_assoc]at d;have F:ya (b+n) c*i.bytes<=281474976710656:=ae
 refine⟨(Question.appendCap (b+n) c e).cut<|w.tape w.drawn<|.appendCap (b+n) c e,by simp[Question.cut],?_⟩;unfold z6;have y:¬(b+n<=c):=ae
 have E:¬(ya (b+n) c*i.bytes>2^48):=ae
 have B:¬(i.bytes=0):=ae
 cases dx<;>first|(cases q;done)|skip
 all_goals
  simp only[k,m,yn,yj,yk,zd,Ay g G,Ay g o,Bw g x,zc,zf,z8,vg,A,Bool.not_false,wk,
   y,D,u,B,or_self,and_false,E,run_choose,yv,run_askRoom,J,Cv]
end
theorem ID(z:Array Value)(n:Nat):(zi z n).size=n*z.size:=by simp[zi]
theorem OZ{size n:Nat}{x:V}{cs:List V}(c:Pg x=some n)(d:size=1\/∀s,x≠ .str s)(b:src h size x n=some cs):cs.length=n*size:=by
 unfold src at b;split at b
 case h_6=>cases b
 case h_1=>cases b;cases c;simp
 case h_2=>
  cases c;cases b;simp
 case h_3=>
  cases c;cases b;simp
 case h_4=>
  rw[YI]at b;unfold rd0 at b;split at b
  case h_2=>cases b
  split at b
  case isFalse=>cases b
  cases b;simp;omega
 case h_5=>
  rename_i s;cases b;cases c;rcases d with rfl|d
  ·simp
  ·exact wh rfl (d s)
theorem Wx(hT:T.Ok P)(hr:R p h w){ts:Array TypeId}{t:TypeId}{args:List V}{args':Array Value}(ha:At p args args'.toList){v:V}{h':H}(f:GH T h ts args=some (v,h')):
  ∃v' p' w',(z6 ts t args').run P w=.ok v' w'/\Ac p' v v'/\Ext p h w p' h' w':=by
 unfold GH at f;split at f
 case h_2=>cases f
 rename_i t0 tx s x S O;obtain⟨s',x',J,hs,hx⟩:=ha.two;have ha0:args'[0]?=some s':=by rw[<-zn,J];rfl
 have ha1:args'[1]?=some x':=by rw[<-zn,J];rfl
 split at f
 case h_2=>cases f
 rename_i e dx n hu Z N;split at f
 case h_2=>cases f
 rename_i i hi hdx;cases B:(zl 0 i.bytes&&zl 0 i.size&&zh i.zero.length i.size&&(zh i.size 1||P1 x))with
 |false=>simp[B]at f
 |true=>
  simp only[B,we]at f;simp only[zq,yp,Bp,w5,qh]at B;obtain⟨⟨⟨c1,c2⟩,c3⟩,c4⟩:=B;have c5:i.size=1\/∀s,x≠ .str s:=c4.imp id (fun h s e=>by subst e;cases h);split at f
  case h_2=>cases f
  rename_i new L;have Q:=OZ N c5 L;obtain⟨vn,hvn,E⟩:=LV (P:=P) hr hx L;obtain⟨j,hj,hjb,hjs⟩:=Qa hT hi;obtain⟨z,hz,hzr⟩:=EM hT hi;have hzl:=(hzr p).length;simp at hzl;have hne:args'= #[s',x']:=by apply Array.ext';simpa using J
  subst hne;have y:∀w,(yr x').run P w=.ok n w:=fun w=>O3 hx N
  have I:∀(base:Option Addr) (c:Nat),n=0->(z6 ts t #[.slice base 0 c,x']).run P w=.ok (.slice base 0 c) w:=by
   intro base c h0;rw[OD hT S O hu Z hdx hi y base 0 c ae,hvn];have hv0:vn=[]:=by
    have h1:=E.length;rw[Q,h0,Nat.zero_mul]at h1;exact qd.1 h1.symm
   subst hv0;cases base<;>simp[h0,storeCells]
  have some0:∀(base:Option Addr),¬n=0->(3*n+2000)*i.bytes<=562949953421312->∃v' p' w',(z6 ts t #[.slice base 0 0,x']).run P w=.ok v' w'/\Ac p' (.sl h.nx 0 n n i.size) v'/\Ext p h w p' (IC h e new) w':=by
   intro base h0 F;obtain⟨D,hnc,K⟩:=RD (w:=w) (t:=t) hT S O hu Z hdx hi c1 hz y base 0 0 ae (by simpa using F);simp only[qo]at K hnc;have l:=qi hr<|w.drawn+1;obtain⟨vn',hvn',hvnr'⟩:=LV (P:=P) l.rel hx L;have W:=qe (n:=D*i.size) l.rel (o:=.cells new e (0,0)) (x:=.cells (#[]++vn'.toArray++zi z.cells (D-n)) e) ?_
   ·refine⟨.slice (some ⟨w.heap.size,0,none⟩) n D,_,_,?_,?_,l.trans W⟩
    ·rw[K];have hf:∀w,(zk i.size 0<|Value.slice base 0 0).run P w=.ok #[] w:=by
      intro w;cases base<;>simp[zk,loadCells,loadCellsFrom]
     simp only[hf,zc,hvn']
    ·simp only[Ac];refine⟨w.heap.size,D*i.size,D,by rw[<-hr.len];simp,rfl,yi _,by omega,fun h=>by omega,fun _=>by omega⟩
   ·have hl:=hvnr'.length;have hsz:(#[]++vn'.toArray++zi z.cells (D-n)).size=D*i.size:=by
     have:vn'.length=n*i.size:=ae
     simp only[yy,ID,yz,yz,this, <-hzl,c3,Nat.sub_mul];have:n*i.size<=D*i.size:=zz _ ae;simp;omega
    refine⟨_,(0,0),rfl,hsz,?_,?_,fun i _ h1 h2=>⟨h1,h2⟩⟩
    ·rw[Q];exact zz _ ae
    ·have:=RX (p:=p) (old:=[]) (vo:=[]) (by simp) hvnr'<|zi z.cells<|D-n;simpa using this.toC
  split at f
  case h_5=>cases f
  case h_1=>
   simp only[Ac]at hs;subst hs;rw[Bp]at f;by_cases h0:n=0
   ·simp only[h0,decide_true,we,ze,zo]at f;obtain⟨rfl,rfl⟩:=f;exact⟨.slice none 0 0,p,w,I none 0 h0,by simp[Ac],zu hr⟩
   ·simp only[h0,decide_false,wg]at f;cases F:zt ((3*n+2000)*i.bytes) 562949953421312 with
    |false=>simp[F]at f
    |true=>
     simp only[F,we,ze,zo]at f;obtain⟨rfl,rfl⟩:=f;rw[yb]at F;exact some0 none h0 F
  case h_2=>
   simp only[Ac]at hs;obtain⟨a0,rfl⟩:=hs;rw[Bp]at f;by_cases h0:n=0
   ·simp only[h0,decide_true,we,ze,zo]at f;obtain⟨rfl,rfl⟩:=f;exact⟨_,p,w,I (some a0) 0 h0,by simp[Ac],zu hr⟩
   ·simp only[h0,decide_false,wg]at f;cases F:zt ((3*n+2000)*i.bytes) 562949953421312 with
    |false=>simp[F]at f
    |true=>
     simp only[F,we,ze,zo]at f;obtain⟨rfl,rfl⟩:=f;rw[yb]at F;exact some0 (some a0) h0 F
  case h_3=>
   simp only[Ac]at hs;obtain⟨a0,c0,rfl⟩:=hs;rw[Bp]at f;by_cases h0:n=0
   ·simp only[h0,decide_true,we,ze,zo]at f;obtain⟨rfl,rfl⟩:=f;exact⟨_,p,w,I (some a0) c0 h0,by simp[Ac],zu hr⟩
   ·simp[h0]at f
  case h_4=>
   rename_i b off len cap o;simp only[Ac]at hs;obtain⟨r,m,c,hp,rfl,hlen,hcap,ho1,ho2⟩:=hs;cases M:zt (len+n) cap with
   |true=>
    simp only[M,we,zg,zo]at f;obtain⟨h1,hw,rfl,rfl⟩:=f;rw[yb]at M;obtain⟨r',m',w',g1,g2,g3⟩:=Ti (P:=P) hr E hw;rw[hp]at g1;cases g1;refine⟨.slice (some ⟨r,off,none⟩) (len+n) c,p,w',?_,?_,g3⟩
    ·rw[OD hT S O hu Z hdx hi y _ len c ae,hvn];simp only[zc,Addr.H2,g2]
    ·simp only[Ac];exact⟨r,m,c,hp,rfl,M,hcap,ho1,ho2⟩
   |false=>
    simp only[M,wg]at f;have hle':¬(len+n<=cap):=by rw[<-yb,M];simp
    cases F:zt ((3*(len+n)+2000)*i.bytes) 562949953421312 with
    |false=>simp[F]at f
    |true=>
     simp only[F,we]at f;rw[yb]at F;split at f
     case h_2=>cases f
     rename_i old g;have hol:=OZ (x:=.sl b off len cap o) (n:=len) rfl (.inr<|fun s e=>by cases e) g;have hsrel:∀q:Pl,(∃q',q=p++q')->Ac q (.sl b off len cap o) (.slice (some ⟨r,off,none⟩) len c):=by
      rintro q ⟨q',rfl⟩;exact Ac.mono q' (by simp only[Ac];exact⟨r,m,c,hp,rfl,hlen,hcap,ho1,ho2⟩)
     have fresh:∀(_:c<len+n) (h2:H),R p h2 { w with drawn:=w.drawn+1 }->h2.nx=h.nx->
       ∃v' p' w',(z6 ts t #[.slice (some ⟨r,off,none⟩) len c,x']).run P w=.ok v' w'/\Ac p' (.sl h.nx 0 (len+n) (len+n) i.size) v'/\
        Ext p h2 { w with drawn:=w.drawn+1 } p' (h2.push<|.cells (old++new) e (0,0)) w':=by
      intro hlt h2 hr2 hnx;obtain⟨D,hnc,K⟩:=RD (w:=w) (t:=t) hT S O hu Z hdx hi c1 hz y (some ⟨r,off,none⟩) len c hlt F;have l:=qi hr<|w.drawn+1;obtain⟨vn',hvn',hvnr'⟩:=LV (P:=P) l.rel hx L;obtain⟨vo',hvo',hvor'⟩:=LV (P:=P) (x:=.sl b off len cap o) l.rel (hsrel p ⟨[],by simp⟩) g;have hl:=hvnr'.length;have hl2:=hvor'.length;have hsz:(vo'.toArray++vn'.toArray++zi z.cells (D-(len+n))).size=D*i.size:=by
       have e1:vn'.length=n*i.size:=ae
       have e2:vo'.length=len*i.size:=ae
       simp only[yy,ID,yz,e1,e2, <-hzl,c3,Nat.sub_mul,qj];have:(len+n)*i.size<=D*i.size:=zz _ ae;rw[qj]at this;omega
      have W:=qe (n:=D*i.size) hr2 (o:=.cells (old++new) e (0,0)) (x:=.cells (vo'.toArray++vn'.toArray++zi z.cells (D-(len+n))) e)
       ⟨_,(0,0),rfl,hsz,by rw[yh,hol,Q, <-qj];exact zz _ ae,(RX hvor' hvnr' _).toC,fun i _ h1 h2=>⟨h1,h2⟩⟩
      refine⟨.slice (some ⟨w.heap.size,0,none⟩) (len+n) D,_,_,?_,?_,W⟩
      ·rw[K,hvo'];simp only[zc,hvn']
      ·simp only[Ac];refine⟨w.heap.size,D*i.size,D,?_,rfl,yi _,by omega,fun h=>by omega,fun _=>by omega⟩;rw[<-hnx, <-hr2.len];simp
     rw[Bp]at f;by_cases h0:o=0
     ·simp only[h0,decide_true,we,ze,zo]at f;obtain⟨rfl,rfl⟩:=f;have:=ho1 h0;have l:=qi hr<|w.drawn+1;obtain⟨v',p',w',k1,k2,k3⟩:=fresh ae h l.rel rfl;exact⟨v',p',w',k1,k2,l.trans k3⟩
     ·simp only[h0,decide_false,wg]at f;split at f
      case h_2=>cases f
      rename_i cs te fz hbk;cases hc2:(zh off 0&&zh o i.size&&zh te e&&zt fz.2 fz.1&&new.all V.one)with
      |false=>simp[hc2]at f
      |true=>
       simp only[hc2,we,ze,zo]at f;obtain⟨rfl,rfl⟩:=f;simp only[zq,yb,Bp,w5,List.all_eq_true]at hc2;obtain⟨⟨⟨⟨rfl,rfl⟩,rfl⟩,d4⟩,d5⟩:=hc2;by_cases X:len+n<=c
       ·
        obtain⟨r',m',cc,fz',g1,g2,g3,g4,g5,g6,g7⟩:=cell_of hr hbk;rw[hp]at g1;cases g1;have hm:=ho2 h0;have hl:=E.length;have hone:∀v∈vn,v.oneCell'=true:=by
         intro v hv;obtain⟨k,hk⟩:=List.mem_iff_getElem?.1 hv;have hk':=(zx.1 hk).1;obtain⟨u,G,U⟩:=E.get (i:=k) (d:=new[k]'ae) (by simp);rw[hk]at G;cases G;exact U.one<|d5 _<|List.getElem_mem _
        have hbnd:len*i.size+n*i.size<=c*i.size:=by rw[<-qj];exact zz _ X
        obtain⟨cc',k1,k2,k3⟩:=Gb (P:=P) vn w cc (len*i.size) 0 g2 ae hone (by
         rintro k _ hk ⟨q1,q2⟩;have:=g7 (len*i.size+k) ae q1 q2;omega)
        have hrd:old=cs.take (len*i.size)/\len*i.size<=cs.length:=by
         unfold src at g;simp only[YI]at g;unfold rd0 at g;simp only[hbk,qo,List.drop_zero]at g;split at g
         ·rename_i hc0;cases g;exact⟨rfl,hc0.1⟩
         ·cases g
        refine⟨.slice (some ⟨r,0,none⟩) (len+n) c,p++[(r,m)],{ w with heap:=w.heap.setIfInBounds r (.cells cc' te fz') },?_,?_,Ext.move hr (o':=.cells (old++new) te (0,0)) hbk hp ⟨cc',fz',rfl,by omega,?_,?_,?_⟩ rfl rfl rfl rfl (fun _ _ _ e1 hlk=>by cases e1;obtain⟨l1,_,l3⟩:=hlk;omega)⟩
        ·rw[OD hT S O hu Z hdx hi y _ len c X,hvn];simp only[zc,Addr.H2,qo,k1]
        ·simp only[Ac];exact⟨r,m,c,by rw[<-hr.len];simp,rfl,yi _,X,fun h=>by omega,fun _=>hm⟩
        ·rw[yh,hol,Q];omega
        ·refine⟨?_,?_⟩
         ·simp;omega
         ·intro k d v Y A hokk;have hkl:k<(old++new).length:=(zx.1 Y).1;rw[zp hkl,k3]at A;rw[yh,hol,Q]at hkl;simp only[Nat.add_zero,yc]at A;rw[List.getElem?_range ae]at A;simp only[yw,ze]at A;by_cases hk:k<len*i.size
          ·rw[yg ae,hrd.1,zp hk]at Y;rw[wc ae]at A;obtain⟨u,G,U⟩:=g5.get Y hokk;rw[zp ae]at G;simp only[List.getD,G,Option.getD_some]at A;exact A▸U
          ·rw[List.getElem?_append_right ae,hol]at Y;rw[wd ae]at A;obtain⟨u,G,U⟩:=E.get Y;simp only[List.getD,G,Option.getD_some]at A;exact A▸U
        ·intro k hk q1 q2;have:=g7 k hk q1 q2;omega
       ·have hk:=Ext.kill hr b;have l:=qi hk.rel<|w.drawn+1;obtain⟨v',p',w',k1,k2,k3⟩:=fresh ae (h.kill b) l.rel rfl;exact⟨v',p',w',k1,k2,(hk.trans l).trans k3⟩
def nE(T:B6)(h:H)(ts:Array TypeId)(args:List V):Option (V×H):=
 match ts[0]?,args with
 |some t,[d,x]=>
  match T.und t,Pg d,Pg x with
  |some (.slice e),some c,some n=>
   match T.inf e with
   |some i=>
    match src h i.size x (Nat.min n c)with
    |some new=>
     match d with
     | .nils=>some (i64<|Nat.min n c,h)
     | .sl b off _ _ _=>(wr h b off new).map fun h'=>(i64<|Nat.min n c,h')
     |_=>none
    |none=>none
   |none=>none
  |_,_,_=>none
 |_,_=>none
theorem jS(D:T.Ok P)(hr:R p h w){ts:Array TypeId}{t:TypeId}{args:List V}{args':Array Value}(G:At p args args'.toList){v:V}{h':H}(f:nE T h ts args=some (v,h')):
  ∃v' p' w',(Builtin.copy_ ts t args').run P w=.ok v' w'/\Ac p' v v'/\Ext p h w p' h' w':=by
 unfold nE at f;split at f
 case h_2=>cases f
 rename_i t0 d x A;obtain⟨J,x',l,k,y⟩:=G.two;have B:args'= #[J,x']:=by apply Array.ext';simpa using l
 subst B;split at f
 case h_2=>cases f
 rename_i e K n I g E;split at f
 case h_2=>cases f
 rename_i i F;split at f
 case h_2=>cases f
 rename_i new u;obtain⟨vn,q,s⟩:=LV (P:=P) hr y u;unfold Builtin.copy_;simp only[A,yn,yj,yk,zd,Ay D I,zc];split at f
 case h_3=>cases f
 case h_1=>
  simp only[Ac]at k;subst k;simp only[Pg,ze]at g;subst g;cases f;simp only[zd,O3 y E,Bw D F,zc,q];refine⟨_,p,w,zf ..,?_,zu hr⟩;simp[i64,Ac,goInt]
 case h_2=>
  rename_i b off len cap o;simp only[Pg,ze]at g;subst g;simp only[Ac]at k;obtain⟨r,m,c,hp,rfl,_⟩:=k;rw[zg]at f;obtain⟨h1,hw,he⟩:=f;cases he;obtain⟨r',m',w',g1,g2,g3⟩:=Ti (P:=P) hr s hw;rw[hp]at g1;cases g1;simp only[zd,O3 y E,Bw D F,zc,q,g2];refine⟨_,p,w',zf ..,?_,g3⟩;simp[i64,Ac,goInt]
def Se(T:B6)(h:H)(t:TypeId)(x:V):Option (V×H):=
 match T.und t,x with
 |some .string,.str s=>some (.ptr h.nx 0,h.push<|.siter s 0)
 |_,_=>none
theorem aI(f:T.Ok P)(hr:R p h w){t:TypeId}{x:V}{x':Value}(c:Ac p x x'){v:V}{h':H}(b:Se T h t x=some (v,h')):
  ∃v' p' w',(y7 t x').run P w=.ok v' w'/\Ac p' v v'/\Ext p h w p' h' w':=by
 unfold Se at b;split at b
 case h_2=>cases b
 rename_i s d;cases b;simp only[Ac]at c;subst c;have g:=qe (n:=0) hr (o:=.siter s 0) (x:=.stringIter (bytesOf s) 0) rfl;refine⟨.pointer<|some ⟨w.heap.size,0,none⟩,_,_,?_,?_,g⟩
 ·unfold y7;simp only[zd,Ay f d,zc,zf,run_newObj]
 ·simp only[Ac];exact⟨w.heap.size,0,by rw[<-hr.len];simp,rfl⟩
def M6(h:H)(d:V)(c:Bool):Option (V×H):=
 match d,c with
 | .ptr b 0,true=>
  match h.get b with
  |some (.siter s pos)=>
   bif zl pos s.length then
    some (.tup [.bool true,i64 pos,.int .i32 (Utf8.decode (bytesOf s) pos).1],h.put b<|.siter s<|pos+(Utf8.decode (bytesOf s) pos).2)
   else some (.tup [.bool false],h)
  |_=>none
 |_,_=>none
theorem gZ(hr:R p h w){u:V}{g:Value}{c:Bool}{t:TypeId}(o:Ac p u g){v:V}{h':H}(d:M6 h u c=some (v,h')):
  ∃v' p' w',(qf g c t).run P w=.ok v' w'/\Ac p' v v'/\Ext p h w p' h' w':=by
 unfold M6 at d;split at d
 case h_2=>cases d
 rename_i b;simp only[Ac]at o;obtain⟨r,n,hp,rfl⟩:=o;split at d
 case h_2=>cases d
 rename_i s pos m;obtain⟨y,n',x,k,q,l⟩:=hr.obj _ _ m;rw[hp]at k;cases k;simp only[G8]at l;subst l;rw[Ht]at d;unfold qf;simp only[zd,getObj,yd,q,zc,BE];by_cases f:pos<s.length
 ·simp only[f,decide_true,we,ze,zo]at d;obtain⟨rfl,rfl⟩:=d;simp only[f,wk,zd,setObj,yd,q,zc];refine⟨_,p,_,zf ..,?_,ql hr m hp (o':=.siter s<|pos+(Utf8.decode (bytesOf s) pos).2) rfl rfl rfl rfl rfl⟩;simp[Ac,i64,goInt]
 ·simp only[f,decide_false,wg,ze,zo]at d;obtain⟨rfl,rfl⟩:=d;simp only[f,vg];exact⟨_,p,w,zf ..,by simp[Ac],zu hr⟩
def IA(h:H)(r:Option V):Option (V×H):=
 match r with
 |none=>some (.map h.nx,h.push<|.map [] 0)
 |some _=>none
theorem Vv(hr:R p h w){t:TypeId}{r:Option V}{c:Option Value}(d:Gc p r c){v:V}{h':H}(b:IA h r=some (v,h')):
  ∃v' p' w',(Instr.makeMap t c).run P w=.ok v' w'/\Ac p' v v'/\Ext p h w p' h' w':=by
 unfold IA at b;split at b
 case h_2=>cases b
 cases b;simp only[Gc]at d;subst d;have f:=qe (n:=0) hr (o:=.map [] 0) (x:=.map #[] 0) ⟨#[],rfl,.nil⟩;refine⟨.map<|some w.heap.size,_,_,?_,?_,f⟩
 ·unfold Instr.makeMap;simp
 ·simp only[Ac];exact⟨w.heap.size,0,by rw[<-hr.len];simp,rfl⟩
def fL(T:B6)(d:TypeId)(a b:V):Option Bool:=
 match T.und d,a,b with
 |some (.int _),.int k x,.int c y=>if k=c then some (x==y)else none
 |some .string,.str x,.str y=>some<|x==y
 |some .bool,.bool x,.bool y=>some<|x==y
 |_,_,_=>none
def K5(T:B6)(b:TypeId)(k:V):List (V×V×Nat)->Nat->Option (Option<|Nat×V)
 |[],_=>some none
 |(a,v,_)::es,i=>
  match fL T b k a with
  |some true=>some<|some (i,v)
  |some false=>K5 T b k es<|i+1
  |none=>none
def plainKey:V->Bool
 | .int .. | .str _| .bool _=>true
 |_=>false
theorem bytes_beq(x y:ByteArray):(x==y)=(x.data==y.data):=rfl
theorem ZI{o:TypeId}{a b:V}{m b':Value}(k:Ac p a m)(g:Ac p b b'){r:Bool}(f:fL T o a b=some r){d:TypeDesc}(l:T.und o=some d):
  y8 d m b'=some r/\(r=true->m=b'):=by
 unfold fL at f;split at f
 case h_1=>
  rename_i c;rw[l]at c;cases c;simp only[Ac]at k g;subst k g;split at f
  ·rename_i e;subst e;cases f;exact⟨by simp[y8],fun h=>by simp at h;subst h;rfl⟩
  ·cases f
 case h_2=>
  rename_i c;rw[l]at c;cases c;simp only[Ac]at k g;subst k g;cases f;refine⟨?_,fun h=>by simp at h;subst h;rfl⟩;simp only[y8];congr 1;rw[bytes_beq,Bool.eq_iff_iff];simp[bytesOf]
 case h_3=>
  rename_i c;rw[l]at c;cases c;simp only[Ac]at k g;subst k g;cases f;exact⟨rfl,fun h=>by simp at h;subst h;rfl⟩
 case h_4=>cases f
theorem jM{s:TypeId}{k:V}{o:Value}(x:Ac p k o){d:TypeDesc}(u:T.und s=some d):
  ∀ {es:List (V×V×Nat)} {l:List MapEntry},DQ p es l->∀ {i:Nat} {r:Option (Nat×V)},K5 T s k es i=some r->
  ∃f,yt d o l i=some f/\(match r with|none=>f=none|some (j,v)=>∃v',f=some (j,v')/\Ac p v v'/\i<=j/\∃e,l[j-i]?=some e/\e.key=o):=by
 intro es l E;induction E with
 |nil=>intro i r c;simp only[K5,ze]at c;subst c;exact⟨none,rfl,rfl⟩
 |@cons a v b es e l q B F _ A=>
  intro i r c;unfold K5 at c;split at c
  case h_1=>
   rename_i g;cases c;obtain⟨m,D⟩:=ZI x q g u;exact⟨some (i,e.val),by simp[yt,m],e.val,rfl,B,yi _,e,by simp,(D rfl).symm⟩
  case h_2=>
   rename_i g;obtain⟨m,_⟩:=ZI x q g u;obtain⟨f,k1,k2⟩:=A c;refine⟨f,by simp[yt,m,k1],?_⟩;cases r with
   |none=>exact k2
   |some y=>
    obtain⟨j,v⟩:=y;obtain⟨v',m1,m2,m3,e',m4,m5⟩:=k2;refine⟨v',m1,m2,by omega,e',?_,m5⟩;have:j-i=(j-(i+1))+1:=ae
    rw[this];simpa using m4
  case h_3=>cases c
theorem run_checkKey{k:V}{c:Value}(g:Ac p k c)(hp:plainKey k=true)(o:T.Ok P){f:TypeId}{d:TypeDesc}(l:T.und f=some d)(m:D8 d=false)(r:∀q,d≠ .interface q)(b:Bool):
  (qk b 10000 f c).run P w=.ok () w:=by
 unfold qk;rw[zd,Ay o l];simp only[zc];cases k<;>simp only[plainKey]at hp<;>simp only[Ac]at g
 case bool|int|str=>
  subst g;cases d<;>first|rfl|(cases m;done)|exact wh rfl (r _)
 all_goals cases hp
def eZ:TypeDesc->Bool
 | .int _| .string| .bool=>true
 |_=>false
theorem cP{d:TypeDesc}(h:eZ d=true):D8 d=false/\∀b,d≠ .interface b:=by
 cases d<;>first|(cases h;done)|exact⟨rfl,fun b e=>by cases e⟩
theorem Q4{k:V}{c:Value}(b:Ac p k c)(hp:plainKey k=true):zw 10000 c c=true:=by
 cases k<;>simp only[plainKey]at hp<;>simp only[Ac]at b
 case bool=>subst b;simp[zw]
 case int=>subst b;simp[zw]
 case str=>subst b;simp[zw,bytes_beq]
 all_goals cases hp
theorem VT{a b:V}{f b':Value}(d:Ac p a f)(c:Ac p b b')(h:DN a b=some true):f=b':=by
 unfold DN at h;split at h
 case h_1=>simp only[Ac]at d c;subst d c;simp at h;subst h;rfl
 case h_2=>
  split at h
  ·rename_i e;subst e;simp only[Ac]at d c;subst d c;simp at h;subst h;rfl
  ·cases h
 case h_3=>simp only[Ac]at d c;subst d c;simp at h;subst h;rfl
 case h_4=>cases h
theorem K8:∀ {xs f:List V} {x y:List Value},At p xs x->At p f y->BY xs f=some true->x=y
 |[],[],x,y,c,d,_=>by simp at c d;subst c d;rfl
 |[],_::_,_,_,_,_,h=>by simp[BY]at h
 |_::_,[],_,_,_,_,h=>by simp[BY]at h
 |a::l,b::o,x,y,c,d,h=>by
  simp only[At]at c d;obtain⟨u,q,rfl,g,k⟩:=c;obtain⟨v,vs,rfl,h3,h4⟩:=d;unfold BY at h;split at h
  case h_1=>
   rename_i m;rw[VT g h3 m,K8 k h4 h]
  case h_2=>split at h<;>cases h
  case h_3=>cases h
theorem Vn:∀ {ks:List FK} {xs:List V} {x:List Value},fit ks xs=true->At p xs x->(x.zip x).all (fun(a,b)=>zw 9999 a b)=true
 |[],[],x,_,f=>by simp at f;subst f;rfl
 |[],_::_,_,h,_=>by simp[fit]at h
 |_::_,[],_,h,_=>by simp[fit]at h
 |k::ks,v::vs,x,h,f=>by
  simp only[At]at f;obtain⟨u,m,rfl,c,l⟩:=f;unfold fit at h;cases d:k.ok v with
  |false=>simp[d]at h
  |true=>
   simp only[d,we]at h;have g:=Vn h l;simp only[List.zip_cons_cons,qm,g,Bool.and_true];unfold FK.ok at d;split at d
   case h_1=>simp only[Ac]at c;subst c;simp[zw]
   case h_2=>simp only[Ac]at c;subst c;simp[zw,bytes_beq]
   case h_3=>simp only[Ac]at c;subst c;simp[zw]
   case h_4=>cases d
def Ps(ks:List FK)(k:List V):List (V×V×Nat)->Nat->Option (Option<|Nat×V)
 |[],_=>some none
 |(a,v,_)::es,i=>
  match a with
  | .agg b=>match M5 (some ks) k b with
   |some true=>some<|some (i,v)
   |some false=>Ps ks k es<|i+1
   |none=>none
  |_=>none
def I0(T:B6)(b:TypeId)(d:TypeDesc)(k:V):Bool:=
 match k with
 | .agg xs=>match T.flat b with
  |some ks=>fit ks xs
  |none=>false
 |k=>plainKey k&&eZ d
def Kg(T:B6)(b:TypeId)(k:V)(es:List (V×V×Nat)):Option (Option<|Nat×V):=
 match k with
 | .agg xs=>match T.flat b with
  |some ks=>Ps ks xs es 0
  |none=>none
 |k=>K5 T b k es 0
theorem PF(E:T.Ok P){g:TypeId}{ks:List FK}(B:T.flat g=some ks){xs:List V}{x:Array Value}(m:At p xs x.toList):
  ∀ {es:List (V×V×Nat)} {l:List MapEntry},DQ p es l->∀ {i:Nat} {r:Option (Nat×V)},Ps ks xs es i=some r->
  ∃f,(yq g (.agg x) l i).run P w=.ok f w/\(match r with|none=>f=none|some (j,v)=>∃v',f=some (j,v')/\Ac p v v'/\i<=j/\∃e,l[j-i]?=some e/\e.key=.agg x):=by
 intro es l J;induction J with
 |nil=>intro i r c;simp only[Ps,ze]at c;subst c;exact⟨none,rfl,rfl⟩
 |@cons a v b es e l d I K _ G=>
  intro i r c;unfold Ps at c;split at c
  case h_2=>cases c
  rename_i D;simp only[Ac]at d;obtain⟨y,u,d⟩:=d;split at c
  case h_3=>cases c
  case h_1=>
   rename_i A;cases c;obtain⟨l',s,o,q,k⟩:=HQ A;cases s;refine⟨some (i,e.val),?_,e.val,rfl,I,yi _,e,by simp,?_⟩
   ·simp only[yq,zd,u,E.flat g ks B p xs D x y true w o q m d k,zc,wk,zf]
   ·rw[u];have:=K8 m d k;congr 1;exact(zm.1 this).symm
  case h_2=>
   rename_i A;obtain⟨l',s,o,q,k⟩:=HQ A;cases s;obtain⟨f,k1,k2⟩:=G c;refine⟨f,?_,?_⟩
   ·simp only[yq,zd,u,E.flat g ks B p xs D x y false w o q m d k,zc,z8,vg];exact k1
   ·cases r with
    |none=>exact k2
    |some F=>
     obtain⟨j,v⟩:=F;obtain⟨v',m1,m2,m3,e',m4,m5⟩:=k2;refine⟨v',m1,m2,by omega,e',?_,m5⟩;have:j-i=(j-(i+1))+1:=ae
     rw[this];simpa using m4
theorem JD(m:T.Ok P){f:TypeId}{d:TypeDesc}(s:T.und f=some d){k:V}{l:Value}(g:Ac p k l)(c:I0 T f d k=true)(b:Bool):
  (qk b 10000 f l).run P w=.ok () w:=by
 unfold I0 at c;split at c
 case h_1=>
  rename_i xs;split at c
  case h_2=>cases c
  rename_i ks o;simp only[Ac]at g;obtain⟨x,rfl,q⟩:=g;exact m.key f ks o p xs x b w c q
 case h_2=>
  simp only[zq]at c;obtain⟨u,r⟩:=cP c.2;exact run_checkKey g c.1 m s u r b
theorem Xn{g:TypeId}{d:TypeDesc}{k:V}{c:Value}(f:Ac p k c)(b:I0 T g d k=true):zw 10000 c c=true:=by
 unfold I0 at b;split at b
 case h_1=>
  rename_i xs;split at b
  case h_2=>cases b
  rename_i ks m;simp only[Ac]at f;obtain⟨x,rfl,l⟩:=f;have:=Vn b l;simp only[zw,beq_self_eq_true,Bool.true_and];exact this
 case h_2=>
  simp only[zq]at b;exact Q4 f b.1
def entries(h:H)(m:V):Option (List<|V×V×Nat):=
 match m with
 | .nilm=>some []
 | .map b=>match h.get b with
  |some (.map es _)=>some es
  |_=>none
 |_=>none
def Fa(T:B6)(h:H)(t:TypeId)(m k:V)(ok:Bool):Option V:=
 match T.und t with
 |some (.map b e)=>
  match T.und b,entries h m with
  |some d,some es=>
   bif I0 T b d k then
    match Kg T b k es with
    |some (some (_,v))=>some<|bif ok then .tup [v,.bool true]else v
    |some none=>match T.inf e with
     |some i=>some<|bif ok then .tup [i.zv,.bool false]else i.zv
     |none=>none
    |none=>none
   else none
  |_,_=>none
 |_=>none
theorem Mn(hr:R p h w){m:V}{g:Value}(f:Ac p m g){es:List (V×V×Nat)}(c:entries h m=some es):
  (g=.map none/\es=[])\/∃r l d b n,m=.map b/\g=.map (some r)/\p[b]?=some (r,n)/\h.get b=some (.map es d)/\w.heap[r]?=some (.map l d)/\DQ p es l.toList:=by
 unfold entries at c;split at c
 case h_1=>simp only[Ac]at f;subst f;cases c;exact .inl ⟨rfl,rfl⟩
 case h_2=>
  simp only[Ac]at f;obtain⟨r,n,hp,rfl⟩:=f;split at c
  case h_2=>cases c
  rename_i x d q;cases c;obtain⟨y,n',o,k,u,l,s,v⟩:=hr.obj _ _ q;rw[hp]at k;cases k;subst s;exact .inr ⟨r,l,d,_,_,rfl,rfl,hp,q,u,v⟩
 case h_3=>cases c
theorem run_findKey(u:T.Ok P){b:TypeId}{k:V}{y:Value}(A:Ac p k y){d:TypeDesc}(s:T.und b=some d){es:List (V×V×Nat)}{l:List MapEntry}(D:DQ p es l)
  {r:Option (Nat×V)} (f:Kg T b k es=some r):
  ∃c,(y9 b y l).run P w=.ok c w/\(match r with|none=>c=none|some (j,v)=>∃v',c=some (j,v')/\Ac p v v'/\∃e,l[j]?=some e/\e.key=y):=by
 by_cases g:∃xs,k=.agg xs
 ·obtain⟨xs,rfl⟩:=g;simp only[Kg]at f;cases q:T.flat b with
  |none=>simp[q]at f
  |some ks=>
   simp only[q]at f;simp only[Ac]at A;obtain⟨x,rfl,E⟩:=A;obtain⟨fs,hfs⟩:=u.kind b ks q;rw[s]at hfs;cases hfs;obtain⟨c,o,m⟩:=PF (P:=P) (w:=w) u q E D f;refine⟨c,?_,?_⟩
   ·unfold y9;simp only[zd,Ay u s,zc];cases l with
    |nil=>simp only[yt];simpa [yq]using o
    |cons e l=>simp only[yt,y8];exact o
   ·cases r with
    |none=>exact m
    |some B=>
     obtain⟨j,v⟩:=B;obtain⟨v',m1,m2,m3,e',m4,m5⟩:=m;exact⟨v',m1,m2,e',by simpa using m4,m5⟩
 ·have F:Kg T b k es=K5 T b k es 0:=by cases k<;>first|rfl|exact wh ⟨_,rfl⟩ g
  rw[F]at f;obtain⟨c,o,m⟩:=jM A s D f;refine⟨c,?_,?_⟩
  ·unfold y9;simp only[zd,Ay u s,zc,o,zf]
  ·cases r with
   |none=>exact m
   |some B=>
    obtain⟨j,v⟩:=B;obtain⟨v',m1,m2,m3,e',m4,m5⟩:=m;exact⟨v',m1,m2,e',by simpa using m4,m5⟩
theorem WA(g:T.Ok P)(hr:R p h w){t:TypeId}{m k:V}{D s:Value}{ok:Bool}(N:Ac p m D)(u:Ac p k s){v:V}(c:Fa T h t m k ok=some v):
  ∃v',(qg t D s ok).run P w=.ok v' w/\Ac p v v':=by
 unfold Fa at c;split at c
 case h_2=>cases c
 rename_i E e G;split at c
 case h_2=>cases c
 rename_i d es f A;cases x:I0 T E d k with
 |false=>simp[x]at c
 |true=>
  simp only[x,we]at c;obtain⟨l,o,q⟩:∃l:List MapEntry,DQ p es l/\(qg t D s ok).run P w=((y9 E s l).run P w).andThen fun r w'=>
    match r with
    |some (_,v)=>.ok (if ok then .tuple #[v,.bool true]else v) w'
    |none=>((zeroValue e).run P w').andThen fun z w'=>.ok (if ok then .tuple #[z,.bool false]else z) w':=by
   rcases Mn hr N A with⟨rfl,rfl⟩|⟨r,l,Q,b,n,rfl,rfl,hp,O,J,M⟩
   ·refine⟨[],.nil,?_⟩;unfold qg;simp only[zd,Ay g G,zc,zf,JD g f u x];congr 1;funext r w'
    cases r<;>simp
   ·refine⟨l.toList,M,?_⟩;unfold qg;simp only[zd,Ay g G,zc,zf,JD g f u x,getObj,yd,J];congr 1;funext r w'
    cases r<;>simp
  rw[q];split at c
  case h_3=>cases c
  case h_1=>
   rename_i j v0 y;cases c;obtain⟨L,B,v',rfl,F,_⟩:=run_findKey (P:=P) (w:=w) g u f o y;simp only[B,zc];cases ok
   ·exact⟨v',by simp,by simpa using F⟩
   ·exact⟨.tuple #[v',.bool true],by simp,by simp only[we,Ac];exact⟨_,rfl,by simp[F,Ac]⟩⟩
  case h_2=>
   rename_i y;split at c
   case h_2=>cases c
   rename_i i K;cases c;obtain⟨L,B,I⟩:=run_findKey (P:=P) (w:=w) g u f o y;simp only at I;subst I;obtain⟨z,hz,hzr⟩:=Abq g K;simp only[B,zc,hz];cases ok
   ·exact⟨z,by simp,by simpa using hzr p⟩
   ·exact⟨.tuple #[z,.bool false],by simp,by simp only[we,Ac];exact⟨_,rfl,by simp[hzr p,Ac]⟩⟩
def WB(es:List (V×V×Nat))(i:Nat)(k v:V):List (V×V×Nat):=es.modify i fun e=>(k,v,e.2.2)
theorem DQ.modify{es:List (V×V×Nat)}{l:List MapEntry}(r:DQ p es l){k v:V}{d v':Value}(m:Ac p k d)(g:Ac p v v')(i:Nat):
  DQ p (WB es i k v) (l.modify i fun e=>{ e with key:=d,val:=v' }):=by
 unfold WB;induction r generalizing i with
 |nil=>simp;exact .nil
 |@cons a x b es e l f o c q s=>
  cases i with
  |zero=>simp;exact .cons m g c q
  |succ i=>simp;exact .cons f o c<|s i
theorem DQ.snoc{es:List (V×V×Nat)}{l:List MapEntry}(g:DQ p es l){k v:V}{e:MapEntry}(m:Ac p k e.key)(d:Ac p v e.val):DQ p (es++[(k,v,e.born)]) (l++[e]):=by
 induction g with
 |nil=>exact .cons m d rfl .nil
 |cons b o c _ f=>exact .cons b o c f
def HO(T:B6)(h:H)(t:TypeId)(m k v:V):Option H:=
 match T.und t,m with
 |some (.map f _),.map b=>
  match T.und f,h.get b with
  |some d,some (.map es c)=>
   bif I0 T f d k then
    match Kg T f k es with
    |some (some (i,_))=>some<|h.put b<|.map (WB es i k v) c
    |some none=>some<|h.put b<|.map (es++[(k,v,c)])<|c+1
    |none=>none
   else none
  |_,_=>none
 |_,_=>none
theorem XU(A:T.Ok P)(hr:R p h w){t:TypeId}{m k v:V}{I s v':Value}(J:Ac p m I)(g:Ac p k s)(G:Ac p v v'){h':H}(c:HO T h t m k v=some h'):
  ∃w',(Instr.mapUpdate t I s v').run P w=.ok () w'/\Ext p h w p h' w':=by
 unfold HO at c;split at c
 case h_2=>cases c
 rename_i L e b N;split at c
 case h_2=>cases c
 rename_i d es x f u;cases B:I0 T L d k with
 |false=>simp[B]at c
 |true=>
  simp only[B,we]at c;rcases Mn (es:=es) hr J (by simp only[entries,u])with⟨rfl,_⟩|⟨r,l,U,b',n,O,rfl,hp,q,D,y⟩
  ·simp[Ac]at J
  ·cases O;rw[u]at q;cases q;unfold Instr.mapUpdate;simp only[zd,Ay A N,zc,JD A f g B,getObj,yd,D];split at c
   case h_3=>cases c
   case h_1=>
    rename_i j v0 E;cases c;obtain⟨Q,F,v1,rfl,X,S,M,W⟩:=run_findKey (P:=P) (w:=w) A g f y E;simp only[F,zc];have o:(l[j]?.map (·.key)).getD s=s:=by
     have:l[j]?=some S:=by simpa using M
     simp[this,W]
    rw[o];unfold Instr.keyThatStays;simp only[Xn g B,wk,zd,zf,zc,setObj,yd,D];refine⟨_,rfl,ql hr u hp (o':=.map (WB es j k v) x) ⟨_,rfl,?_⟩ rfl rfl rfl rfl⟩;have:=y.modify g G j;simpa using this
   case h_2=>
    rename_i E;cases c;obtain⟨Q,F,K⟩:=run_findKey (P:=P) (w:=w) A g f y E;simp only at K;subst K;simp only[F,zc,setObj,yd,D];refine⟨_,rfl,ql hr u hp (o':=.map (es++[(k,v,x)])<|x+1) ⟨_,rfl,?_⟩ rfl rfl rfl rfl⟩;have:=y.snoc (e:={ key:=s,val:=v',born:=x }) g G;simpa using this
def H6(T:B6)(h:H)(t:TypeId)(x:V):Option (V×H):=
 match T.und t,x with
 |some (.map _ _),.nilm=>some (.ptr h.nx 0,h.push<|.miter none 0 [] 0)
 |some (.map _ _),.map b=>match h.get b with
  |some (.map _ c)=>some (.ptr h.nx 0,h.push<|.miter (some b) c [] c)
  |_=>none
 |_,_=>Se T h t x
theorem W9(m:T.Ok P)(hr:R p h w){t:TypeId}{x:V}{x':Value}(d:Ac p x x'){v:V}{h':H}(c:H6 T h t x=some (v,h')):
  ∃v' p' w',(y7 t x').run P w=.ok v' w'/\Ac p' v v'/\Ext p h w p' h' w':=by
 unfold H6 at c;split at c
 case h_1=>
  rename_i g;cases c;simp only[Ac]at d;subst d;have k:=qe (n:=0) hr (o:=.miter none 0 [] 0) (x:=.mapIter none 0 #[] 0) rfl;refine⟨.pointer<|some ⟨w.heap.size,0,none⟩,_,_,?_,?_,k⟩
  ·unfold y7;simp only[zd,Ay m g,zc,zf,run_newObj]
  ·simp only[Ac];exact⟨w.heap.size,0,by rw[<-hr.len];simp,rfl⟩
 case h_2=>
  rename_i b g;split at c
  case h_2=>cases c
  rename_i es f q;cases c;simp only[Ac]at d;obtain⟨r,n,hp,rfl⟩:=d;obtain⟨r',n',o,h1,h2,l,h3,h4⟩:=hr.obj _ _ q;rw[hp]at h1;cases h1;subst h3;have s:(p++[(w.heap.size,0)])[b]?=some (r,n):=by rw[yg (zx.1 hp).1];exact hp
  have k:=qe (n:=0) hr (o:=.miter (some b) f [] f) (x:=.mapIter (some r) f #[] f) ⟨r,n,hp,rfl⟩;refine⟨.pointer<|some ⟨w.heap.size,0,none⟩,_,_,?_,?_,k⟩
  ·unfold y7;simp only[zd,Ay m g,zc,zf,getObj,yd,h2,run_newObj]
  ·simp only[Ac];exact⟨w.heap.size,0,by rw[<-hr.len];simp,rfl⟩
 case h_3=>exact aI m hr d c
def TE(h:H)(f:V)(c:Bool):Option (List<|V×H):=
 match f,c with
 | .ptr b 0,false=>
  match h.get b with
  |some (.miter none _ _ _)=>some [(.tup [.bool false],h)]
  |some (.miter (some m) since seen last)=>
   match h.get m with
   |some (.map es d)=>
    bif es.all (fun e=>zl e.2.2 since)&&zt since last then
     match es.filter (fun e=> !seen.contains e.2.2)with
     |[]=>some [(.tup [.bool false],h)]
     |left=>some (left.map fun e=>(.tup [.bool true,e.1,e.2.1],h.put b<|.miter (some m) since (seen++[e.2.2]) d))
    else none
   |_=>none
  |_=>none
 |_,_=>none
theorem DQ.get{es:List (V×V×Nat)}{l:List MapEntry}(g:DQ p es l):∀ {i:Nat} {e:MapEntry},l[i]?=some e->∃k v,es[i]?=some (k,v,e.born)/\Ac p k e.key/\Ac p v e.val:=by
 induction g with
 |nil=>intro i e h;simp at h
 |@cons k v b es o l c f d _ m=>
  intro i e h;cases i with
  |zero=>simp at h;subst h;exact⟨k,v,by simp[d],c,f⟩
  |succ i=>simp at h;simpa using m h
theorem DQ.filter{es:List (V×V×Nat)}{l:List MapEntry}(m:DQ p es l)(q:Nat->Bool):DQ p (es.filter fun e=>q e.2.2) (l.filter fun e=>q e.born):=by
 induction m with
 |nil=>exact .nil
 |@cons k v b es o l f g c _ d=>
  simp only[List.filter_cons,c];cases q b with
  |false=>exact d
  |true=>exact .cons f g c d
theorem DQ.all{es:List (V×V×Nat)}{l:List MapEntry}(f:DQ p es l)(q:Nat->Bool):(es.all fun e=>q e.2.2)=l.all fun e=>q e.born:=by
 induction f with
 |nil=>rfl
 |@cons k v b es o l g m c _ d=>simp only[qm,c,d]
theorem DQ.find{es:List (V×V×Nat)}{l:List MapEntry}(u:DQ p es l)(q:Nat->Bool){e:V×V×Nat}(c:es.find? (fun e=>q e.2.2)=some e):∃d,l.find? (fun e=>q e.born)=some d/\Ac p e.1 d.key/\Ac p e.2.1 d.val:=by
 induction u with
 |nil=>simp at c
 |@cons k v b es r l g o m _ s=>
  simp only[List.find?_cons,m]at c ⊢;cases f:q b with
  |false=>simp only[f]at c ⊢;exact s c
  |true=>simp only[f]at c ⊢;cases c;exact⟨r,rfl,g,o⟩
theorem kM(n:Nat)(c:0<n):∃i d,(choose<|.mapNext n).run P w=.ok i { w with drawn:=d }/\i<n:=by
 rw[run_choose];by_cases b:n<=1
 ·refine⟨0,w.drawn,?_,c⟩;simp[yv,b]
 ·refine⟨w.tape w.drawn (.mapNext n) % n,w.drawn+1,?_,Nat.mod_lt _ c⟩;simp[yv,b,Question.cut]
theorem cC(hr:R p h w){it:V}{D:Value}{o:Bool}{t:TypeId}(Y:Ac p it D){l:List (V×H)}(f:TE h it o=some l):
  ∃v h' v' p' w',(v,h')∈l/\(qf D o t).run P w=.ok v' w'/\Ac p' v v'/\Ext p h w p' h' w':=by
 unfold TE at f;split at f
 case h_2=>cases f
 rename_i b;simp only[Ac]at Y;obtain⟨r,n,hp,rfl⟩:=Y;split at f
 case h_3=>cases f
 case h_1=>
  rename_i since seen last J;cases f;obtain⟨r',n',x,A,M,G⟩:=hr.obj _ _ J;rw[hp]at A;cases A;simp only[G8]at G;subst G;refine⟨_,_,.tuple #[.bool false],p,w,zy.2 rfl,?_,by simp[Ac],zu hr⟩;unfold qf;simp only[zd,getObj,yd,M,zc];rfl
 case h_2=>
  rename_i m since seen last J;split at f
  case h_2=>cases f
  rename_i es X hm;cases K:(es.all (fun e=>zl e.2.2 since)&&zt since last)with
  |false=>simp[K]at f
  |true=>
   simp only[K,we]at f;simp only[zq,yb]at K;obtain⟨c1,c2⟩:=K;obtain⟨r',n',x,A,M,G⟩:=hr.obj _ _ J;rw[hp]at A;cases A;simp only[G8]at G;obtain⟨rm,nm,hpm,rfl⟩:=G;obtain⟨r2,n2,x2,k1,k2,l2,k3,k4⟩:=hr.obj _ _ hm;rw[hpm]at k1;cases k1;subst k3;rw[k4.all fun b=>zl b since]at c1;have s:∀e∈l2.toList,e.born<since:=by
    intro e y;have:=List.all_eq_true.1 c1 e y;simpa using this
   have W:(!seen.toArray.isEmpty&& !l2.isEmpty&&l2.all (·.born>=last))=false:=by
    cases N:l2.toList with
    |nil=>
     have:l2= #[]:=zm.1 N;simp[this]
    |cons Q rest=>
     have U:Q∈l2.toList:=by rw[N];simp
     have h0:=s Q U;have:l2.all (·.born>=last)=false:=by
      rw[<-Array.all_toList,N,qm];have:(decide (Q.born>=last))=false:=by simp;omega
      rw[this];rfl
     rw[this];simp
   have g:(l2.filter fun e=> !seen.toArray.contains e.born).toList=l2.toList.filter fun e=> !seen.contains e.born:=by
    simp
   have c:=k4.filter fun b=> !seen.contains b
   have e1:((l2.filter fun e=> !seen.toArray.contains e.born).filter (·.born<since))=l2.filter fun e=> !seen.toArray.contains e.born:=by
    apply zm.1;rw[Array.toList_filter,List.filter_eq_self];intro e y;rw[g]at y;simpa using s e ((List.mem_filter.1 y).1)
   have e2:((l2.filter fun e=> !seen.toArray.contains e.born).filter (·.born>=since))= #[]:=by
    apply zm.1;rw[Array.toList_filter];simp only[List.filter_eq_nil_iff];intro e y;rw[g]at y;have:=s e<|(List.mem_filter.1 y).1;simp;omega
   unfold qf;simp only[zd,getObj,yd,M,zc,k2];rw[wc<|by rw[W];simp];simp only[e1,e2,Array.append_empty];generalize hL:(l2.filter fun e=> !seen.toArray.contains e.born)=L at*;rw[<-g]at c;have u:=c.length;split at f
   case h_1=>
    rename_i F;cases f;have S:L= #[]:=by
     apply zm.1;apply qd.1;rw[<-u,F];rfl
    subst S;refine⟨_,_,.tuple #[.bool false],p,w,zy.2 rfl,?_,by simp[Ac],zu hr⟩;simp[zd,yv]
   case h_2=>
    rename_i left O;cases f;have q:0<L.size:=by
     have:L.toList.length=L.size:=by simp
     rw[<-this, <-u];cases hq:es.filter (fun e=> !seen.contains e.2.2)with
     |nil=>exact wh hq O
     |cons _ _=>simp
    have B:L.isEmpty=false:=by simp[Array.isEmpty];intro h0;rw[h0]at q;simp at q
    simp only[B,z8,vg,Array.empty_append,Array.size_map];obtain⟨i,d,g1,Z⟩:=kM (P:=P) (w:=w) L.size q;simp only[zd,g1,zc];have hi:L[i]?=some L[i]:=by simp[Z]
    obtain⟨k,v,q1,q2,q3⟩:=c.get (i:=i) (e:=L[i]) (by simp[Z]);simp only[Array.getElem?_map,hi,yw,zd];have I:=qi hr d;have E:=ql I.rel J hp (o':=.miter (some m) since (seen++[L[i].born]) X) (x':=.mapIter (some rm) since (seen.toArray.push L[i].born) X) ⟨rm,nm,hpm,by simp⟩
     (w':={ { w with drawn:=d }with heap:=w.heap.setIfInBounds r (.mapIter (some rm) since (seen.toArray.push L[i].born) X) }) rfl rfl rfl rfl
    refine⟨.tup [.bool true,k,v],_,.tuple #[.bool true,L[i].key,L[i].val],p,_,List.mem_map.2 ⟨(k,v,L[i].born),List.mem_of_getElem? q1,rfl⟩,?_,?_,I.trans E⟩
    ·simp[setObj,yd,M]
    ·simp only[Ac];exact⟨_,rfl,by simp[Ac,q2,q3]⟩
def T0(h:H)(d:V):Option V:=
 match d with
 | .ptr b 0=>
  match h.get b with
  |some (.miter (some m) _ seen last)=>
   match h.get m with
   |some (.map es c)=>
    bif zh c last then
     match seen.getLast? with
     |some s=>match es.find? (fun e=>zh e.2.2 s)with
      |some e=>some<|.tup [e.1,e.2.1]
      |none=>none
     |none=>none
    else none
   |_=>none
  |_=>none
 |_=>none
theorem aE(hr:R p h w){y:V}{k:Value}(u:Ac p y k){v:V}(c:T0 h y=some v):∃v',(Instr.entry k).run P w=.ok v' w/\Ac p v v':=by
 unfold T0 at c;split at c
 case h_2=>cases c
 rename_i b;simp only[Ac]at u;obtain⟨r,n,hp,rfl⟩:=u;split at c
 case h_2=>cases c
 rename_i m since seen last B;split at c
 case h_2=>cases c
 rename_i es A F;rw[Bp]at c;by_cases g:A=last
 ·simp only[g,decide_true,we]at c;split at c
  case h_2=>cases c
  rename_i s q;split at c
  case h_2=>cases c
  rename_i e D;cases c;obtain⟨G,n',x,l,E,o⟩:=hr.obj _ _ B;rw[hp]at l;cases l;simp only[G8]at o;obtain⟨rm,nm,hpm,rfl⟩:=o;obtain⟨r2,n2,x2,k1,k2,l2,k3,k4⟩:=hr.obj _ _ F;rw[hpm]at k1;cases k1;subst k3;obtain⟨e',q1,q2,q3⟩:=k4.find (fun b=>zh b s) D;refine⟨.tuple #[e'.key,e'.val],?_,by simp only[Ac];exact⟨_,rfl,by simp[q2,q3]⟩⟩;unfold Instr.entry;have f:seen.toArray.back?=some s:=by rw[Array.back?_eq_getElem?];simp[List.getLast?_eq_getElem?]at q ⊢;exact q
  have d:l2.find? (fun e=>e.born==s)=some e':=by
   rw[<-Array.find?_toList, <-q1];congr 1;funext e
   rw[Bp];rw[Bool.eq_iff_iff];simp
  simp only[zd,getObj,yd,E,zc,k2,f,g,bne_self_eq_false,z8,vg,d,zf]
 ·simp[g]at c
theorem DQ.erase{es:List (V×V×Nat)}{l:List MapEntry}(m:DQ p es l)(i:Nat):DQ p (es.eraseIdx i) (l.eraseIdx i):=by
 induction m generalizing i with
 |nil=>simp;exact .nil
 |@cons k v b es q l c f d g o=>
  cases i with
  |zero=>simpa using g
  |succ i=>simp;exact .cons c f d<|o i
def LU(T:B6)(h:H)(ts:Array TypeId)(args:List V):Option (V×H):=
 match ts[0]?,args with
 |some g,[.map b,k]=>
  match T.und g with
  |some (.map c _)=>
   match T.und c,h.get b with
   |some d,some (.map es f)=>
    bif I0 T c d k then
     match Kg T c k es with
     |some (some (i,_))=>some (.tup [],h.put b<|.map (es.eraseIdx i) f)
     |some none=>some (.tup [],h.put b<|.map es f)
     |none=>none
    else none
   |_,_=>none
  |_=>none
 |_,_=>none
theorem WJ(u:T.Ok P)(hr:R p h w){ts:Array TypeId}{t:TypeId}{args:List V}{args':Array Value}(K:At p args args'.toList){v:V}{h':H}(c:LU T h ts args=some (v,h')):
  ∃v' p' w',(Builtin.delete_ ts t args').run P w=.ok v' w'/\Ac p' v v'/\Ext p h w p' h' w':=by
 unfold LU at c;split at c
 case h_2=>cases c
 rename_i Y b k N;obtain⟨O,M,f,G,D⟩:=K.two;have E:args'[0]?=some O:=by rw[<-zn,f];rfl
 have A:args'[1]?=some M:=by rw[<-zn,f];rfl
 split at c
 case h_2=>cases c
 rename_i J e L;split at c
 case h_2=>cases c
 rename_i d es q g o;cases F:I0 T J d k with
 |false=>simp[F]at c
 |true=>
  simp only[F,we]at c;rcases Mn (es:=es) hr G (by simp only[entries,o])with⟨rfl,_⟩|⟨r,l,U,b',n,Q,rfl,hp,m,x,s⟩
  ·simp[Ac]at G
  ·cases Q;rw[o]at m;cases m;unfold Builtin.delete_;simp only[N,E,A,zd,Ay u L,zc,getObj,yd,x,JD u g D F];split at c
   case h_3=>cases c
   case h_1=>
    rename_i j v0 y;cases c;obtain⟨S,B,v1,rfl,X,Z,W,k5⟩:=run_findKey (P:=P) (w:=w) u D g s y;refine⟨.tuple #[],p,{ w with heap:=w.heap.setIfInBounds r (.map (l.eraseIdxIfInBounds j) q) },?_,by simp[Ac],ql hr o hp (o':=.map (es.eraseIdx j) q) ⟨_,rfl,?_⟩ rfl rfl rfl rfl⟩
    ·simp only[B,zc];simp[setObj,yd,x]
    ·have:=s.erase j;simpa using this
   case h_2=>
    rename_i y;cases c;obtain⟨S,B,I⟩:=run_findKey (P:=P) (w:=w) u D g s y;simp only at I;subst I;refine⟨.tuple #[],p,{ w with heap:=w.heap.setIfInBounds r (.map l q) },?_,by simp[Ac],ql hr o hp (o':=.map es q) ⟨_,rfl,s⟩ rfl rfl rfl rfl⟩;simp only[B,zc];simp[setObj,yd,x]
def FY(T:B6)(h:H)(ts:Array TypeId)(args:List V):Option (V×H):=
 match ts[0]?,args with
 |some t,[x]=>
  match T.und t,x with
  |some (.map _ _),.nilm=>some (.tup [],h)
  |some (.map _ _),.map b=>match h.get b with
   |some (.map _ c)=>some (.tup [],h.put b<|.map [] c)
   |_=>none
  |some (.slice _),.nils=>some (.tup [],h)
  |some (.slice _),.esl=>some (.tup [],h)
  |some (.slice _),.es0=>some (.tup [],h)
  |some (.slice e),.sl b off len _ _=>
   bif zh len 0 then some (.tup [],h)
   else match T.inf e with
    |some i=>bif zl 0 i.zero.length then
      (wr h b off<|Ff i.zero<|len*i.zero.length).map fun h'=>(.tup [],h')
     else none
    |none=>none
  |_,_=>none
 |_,_=>none
theorem dQ(q:T.Ok P)(hr:R p h w){ts:Array TypeId}{t:TypeId}{args:List V}{args':Array Value}(J:At p args args'.toList){v:V}{h':H}(d:FY T h ts args=some (v,h')):
  ∃v' p' w',(Builtin.clear_ ts t args').run P w=.ok v' w'/\Ac p' v v'/\Ext p h w p' h' w':=by
 unfold FY at d;split at d
 case h_2=>cases d
 rename_i t0 x L;obtain⟨x',s,f⟩:=J.one;have B:args'[0]?=some x':=by rw[<-zn,s];rfl
 unfold Builtin.clear_;simp only[L,B];split at d
 case h_7=>cases d
 case h_1=>
  rename_i g;cases d;simp only[Ac]at f;subst f;exact⟨.tuple #[],p,w,by simp[Ay q g],by simp[Ac],zu hr⟩
 case h_2=>
  rename_i b g;split at d
  case h_2=>cases d
  rename_i es G F;cases d;simp only[Ac]at f;obtain⟨r,n,hp,rfl⟩:=f;obtain⟨r',n',o,y,h2,l,h3,h4⟩:=hr.obj _ _ F;rw[hp]at y;cases y;subst h3;refine⟨.tuple #[],p,{ w with heap:=w.heap.setIfInBounds r (.map #[] G) },?_,by simp[Ac],ql hr F hp (o':=.map [] G) ⟨_,rfl,.nil⟩ rfl rfl rfl rfl⟩;simp[zd,Ay q g,getObj,setObj,yd,h2]
 case h_3=>
  rename_i e g;cases d;simp only[Ac]at f;subst f;exact⟨.tuple #[],p,w,by simp[Ay q g],by simp[Ac],zu hr⟩
 case h_4=>
  rename_i e g;cases d;simp only[Ac]at f;obtain⟨_,_,rfl⟩:=f;exact⟨.tuple #[],p,w,by simp[Ay q g],by simp[Ac],zu hr⟩
 case h_5=>
  rename_i e g;cases d;simp only[Ac]at f;obtain⟨_,rfl⟩:=f;exact⟨.tuple #[],p,w,by simp[Ay q g],by simp[Ac],zu hr⟩
 case h_6=>
  rename_i e b off len cap o g;simp only[Ac]at f;obtain⟨r,n,c,hp,rfl,_⟩:=f;rw[Bp]at d;by_cases h0:len=0
  ·simp only[h0,decide_true,we,ze,zo]at d;obtain⟨rfl,rfl⟩:=d;subst h0;exact⟨.tuple #[],p,w,by simp[Ay q g],by simp[Ac],zu hr⟩
  ·simp only[h0,decide_false,wg]at d;split at d
   case h_2=>cases d
   rename_i i K;cases A:zl 0 i.zero.length with
   |false=>simp[A]at d
   |true=>
    simp only[A,we,zg]at d;obtain⟨y,I,M⟩:=d;cases M;obtain⟨z,hzz,hzr⟩:=EM q K;have D:=(hzr p).length;have u:=Jz (hzr p) (by simpa using A)<|len*i.zero.length;obtain⟨r',m,w',g1,g2,g3⟩:=Ti (P:=P) hr u I;rw[hp]at g1;cases g1;refine⟨.tuple #[],p,w',?_,by simp[Ac],g3⟩;have:zi z.cells len=(Array.range<|len*i.zero.length).map (fun i=>z.cells[i % z.cells.size]!):=by
     unfold zi;rw[D];simp
    obtain⟨E,rfl⟩:∃k,len=k+1:=⟨len-1,by omega⟩;simp only[zd,Ay q g,zc,hzz,this,g2,zf]
def Aav(T:B6)(ts:Array TypeId)(args:List V):Option V:=
 match ts[0]?,args with
 |some t,[x]=>
  match T.und t,x with
  |some (.slice _),.sl _ _ _ cap 0=>some<|i64 cap
  |some (.slice _),.nils=>some<|i64 0
  |_,_=>none
 |_,_=>none
theorem pZ(m:T.Ok P){ts:Array TypeId}{t:TypeId}{args:List V}{args':Array Value}(s:At p args args'.toList){v:V}(d:Aav T ts args=some v):
  ∃v',(Builtin.cap_ ts t args').run P w=.ok v' w/\Ac p v v':=by
 unfold Aav at d;split at d
 case h_2=>cases d
 rename_i t0 x q;obtain⟨x',f,g⟩:=s.one;have k:args'[0]?=some x':=by rw[<-zn,f];rfl
 unfold Builtin.cap_;simp only[q,k];split at d
 case h_3=>cases d
 case h_1=>
  rename_i e b off len cap l;cases d;simp only[Ac]at g;obtain⟨r,n,c,hp,rfl,u,y,o,A⟩:=g;have:=o trivial;subst this;exact⟨_,by simp[zd,Ay m l];rfl,by simp[Ac,i64,goInt]⟩
 case h_2=>
  rename_i e l;cases d;simp only[Ac]at g;subst g;exact⟨_,by simp[zd,Ay m l];rfl,by simp[Ac,i64,goInt]⟩
def SD(T:B6)(h:H)(src dst:TypeId)(x:V):Option (V×H):=
 match T.und src,T.und dst,x with
 |some .string,some<|.slice e,.str s=>
  match T.und e with
  |some (.int .u8)=>some (.sl h.nx 0 s.length s.length 1,h.push<|.cells (s.map fun b=>.int .u8<|.ofNat b.toNat) e (0,0))
  |_=>none
 |_,_,_=>none
theorem bM(r:T.Ok P)(hr:R p h w){src dst:TypeId}{x:V}{x':Value}(A:Ac p x x'){v:V}{h':H}(f:SD T h src dst x=some (v,h')):
  ∃v' p' w',(convert src dst x').run P w=.ok v' w'/\Ac p' v v'/\Ext p h w p' h' w':=by
 unfold SD at f;split at f
 case h_2=>cases f
 rename_i e s B E;split at f
 case h_2=>cases f
 rename_i D;cases f;simp only[Ac]at A;subst A;have g:=run_bytes_of_string (P:=P) w src dst e (bytesOf s) (r.und _ _ B) (r.und _ _ E)<|r.und _ _ D;generalize I:grownCap w (bytesOf s).size 0 e=c at g;have m:s.length<=c:=by
  rw[<-I,BE];unfold grownCap;simp[Question.cut]
 have k:(bytesRow (bytesOf s) c).size=c:=by
  have:(bytesRow (bytesOf s) c).size=(bytesOf s).size+(c-(bytesOf s).size):=by
   unfold bytesRow;rw[yy,Array.size_map,Array.size_replicate];rfl
  rw[this,BE];omega
 have q:=qi hr<|w.drawn+1;have G:=qe (n:=c) q.rel (o:=.cells (s.map fun b=>.int .u8<|.ofNat b.toNat) e (0,0)) (x:=.cells (bytesRow (bytesOf s) c) e ((bytesRow (bytesOf s) c).size,(bytesRow (bytesOf s) c).size+1)) (by
  refine⟨_,_,rfl,k,by simpa using m,?_,fun i u F J=>by simp only[k]at F;omega⟩;refine At.toC<|At.mk ?_ ?_
  ·have:=k;simp at this ⊢;omega
  ·intro i d v f l;simp only[List.length_map]at l;simp only[yc,zg]at f;obtain⟨b,y,rfl⟩:=f;have u:=(zx.1 y).1;rw[zp u]at l;simp only[bytesRow,Array.toList_append,Array.toList_map,bytesOf]at l;rw[yg<|by simpa using u]at l;simp only[yc,y,yw,ze]at l;subst l;simp[Ac])
 refine⟨_,_,_,g,?_,q.trans G⟩;simp only[Ac];refine⟨w.heap.size,c,c,by rw[<-hr.len];simp,by rw[BE],yi _,m,fun h=>(by cases h),fun _=>ae⟩
def BF(T:B6)(h:H)(s d:TypeId)(x:V):Option V:=
 match T.und s,T.und d,x with
 |some (.pointer _),some .unsafePointer,.nilp=>some .nilp
 |some .unsafePointer,some<|.pointer _,.nilp=>some .nilp
 |some (.pointer t),some .unsafePointer,.ptr b off=>
  match T.inf t,h.get b with
  |some i,some (.cells cs _ _)=>bif zl 0 i.size&&zl off cs.length then some (.ptr b off)else none
  |_,_=>none
 |some .unsafePointer,some<|.pointer u,.ptr b off=>
  match T.inf u,h.get b with
  |some i,some (.cells cs e _)=>bif zl 0 i.size&&zt i.size cs.length&&zh e u&&zh off 0 then some (.ptr b 0)else none
  |_,_=>none
 |_,_,_=>none
theorem Us(hr:R p h w){b:Nat}{cs:List V}{t:TypeId}{fz:Nat×Nat}(f:h.get b=some (.cells cs t fz)):
  ∃r n,p[b]?=some (r,n)/\w.shape? r=some (t,n)/\cs.length<=n:=by
 obtain⟨r,n,x,d,g,c,fz',rfl,k,l,_⟩:=hr.obj b _ f;exact⟨r,n,d,by simp[World.shape?,g,k],l⟩
theorem cA{u:TypeId}(c:P.cellsOf u≠0)(k:Nat)(d:1<=k):liesAt P P.depth u k 0 u 1=true:=by
 have b:P.depth=(2*(P.types.size+Made.depth)+1)+1:=rfl;rw[b];simp only[liesAt,qh];left;rw[b];simp[rowAt,c,d,sameLayout]
theorem qN(f:T.Ok P)(hr:R p h w){s d:TypeId}{x:V}{x':Value}(g:Ac p x x'){v:V}(c:BF T h s d x=some v):
  ∃v',(convert s d x').run P w=.ok v' w/\Ac p v v':=by
 unfold BF at c;split at c
 case h_5=>cases c
 case h_1=>
  rename_i l m;simp only[Ac]at g;subst g;cases c;refine⟨.pointer none,?_,by simp[Ac]⟩;simp[convert,Ay f l,Ay f m,Conv.unsafePointer]
 case h_2=>
  rename_i l m;simp only[Ac]at g;subst g;cases c;refine⟨.pointer none,?_,by simp[Ac]⟩;simp[convert,Ay f l,Ay f m,Conv.unsafePointer]
 case h_3=>
  rename_i t b off l m;split at c
  case h_2=>cases c
  rename_i i cs e fz A q;cases k:(zl 0 i.size&&zl off cs.length)with
  |false=>rw[k]at c;cases c
  |true=>
   rw[k]at c;cases c;simp only[zq,yp]at k;obtain⟨j,z,o,B,_⟩:=f.inf t i A;obtain⟨r,n,k1,k2,k3⟩:=Us hr q;simp only[Ac]at g;obtain⟨r',n',q1,rfl⟩:=g;rw[k1]at q1;cases q1;refine⟨_,Lib.run_to_unsafe w ⟨r,off,none⟩ (f.und _ _ l) (f.und _ _ m) o ae k2 (by show off<n;omega),?_⟩;simp only[Ac];exact⟨r,n,k1,rfl⟩
 case h_4=>
  rename_i u b off l m;split at c
  case h_2=>cases c
  rename_i i cs e fz A q;cases k:(zl 0 i.size&&zt i.size cs.length&&zh e u&&zh off 0)with
  |false=>rw[k]at c;cases c
  |true=>
   rw[k]at c;cases c;simp only[zq,yp,yb,Bp,w5]at k;obtain⟨⟨⟨E,F⟩,rfl⟩,rfl⟩:=k;obtain⟨j,z,o,B,_⟩:=f.inf e i A;obtain⟨r,n,k1,k2,k3⟩:=Us hr q;simp only[Ac]at g;obtain⟨r',n',q1,rfl⟩:=g;rw[k1]at q1;cases q1;have y:P.cellsOf e=i.size:=by simp[Program.cellsOf,o,B]
   have D:1<=n/P.cellsOf e:=by rw[y];exact Nat.div_pos ae E
   refine⟨_,Lib.run_from_unsafe w ⟨r,0,none⟩ (f.und _ _ l) (f.und _ _ m) o k2 (cA ae _ D),?_⟩;simp only[Ac];exact⟨r,n,k1,rfl⟩
def OF(args:List V):Option V:=
 match args with
 |[.nils]=>some .nilp
 |[.sl b off _ cap _]=>bif zl 0 cap then some (.ptr b off)else none
 |_=>none
theorem cN{ts:Array TypeId}{t:TypeId}{args:List V}{args':Array Value}(l:At p args args'.toList){v:V}(d:OF args=some v):
  ∃v',(Builtin.unsafeSliceData_ ts t args').run P w=.ok v' w/\Ac p v v':=by
 unfold OF at d;split at d
 case h_3=>cases d
 case h_1=>
  cases d;obtain⟨x,g,f⟩:=l.one;have:args'= #[x]:=zm.1 g;subst this;simp only[Ac]at f;subst f;exact⟨_,Lib.run_unsafeSliceData_nil w ts t 0 0,by simp[Ac]⟩
 case h_2=>
  rename_i b off len cap o;cases k:zl 0 cap with
  |false=>rw[k]at d;cases d
  |true=>
   rw[k]at d;cases d;rw[yp]at k;obtain⟨x,g,f⟩:=l.one;have:args'= #[x]:=zm.1 g;subst this;simp only[Ac]at f;obtain⟨r,n,c,g1,rfl,g2,g3,_⟩:=f;exact⟨_,Lib.run_unsafeSliceData_row w ts t _ len c ae,by simp only[Ac];exact⟨r,n,g1,rfl⟩⟩
def SJ:V->Option UInt8
 | .int .u8 (.ofNat n)=>bif zl n 256 then some (UInt8.ofNat n)else none
 |_=>none
def GR:List V->Option Z
 |[]=>some []
 |v::vs=>
  match SJ v,GR vs with
  |some b,some c=>some (b::c)
  |_,_=>none
theorem fO{c:V}{b:UInt8}(h:SJ c=some b):c=.int .u8 (b.toNat:Int):=by
 unfold SJ at h;split at h
 case h_2=>cases h
 rename_i n;cases d:zl n 256 with
 |false=>rw[d]at h;cases h
 |true=>
  rw[d]at h;cases h;rw[yp]at d;have:(UInt8.ofNat n).toNat=n:=by simp;omega
  rw[this];rfl
theorem Md:∀ {cs:List V} {l:Z},GR cs=some l->cs=l.map fun b=>V.int .u8 (b.toNat:Int)
 |[],l,d=>by cases d;rfl
 |c::cs,l,d=>by
  unfold GR at d;split at d
  case h_2=>cases d
  rename_i b tl g f;cases d;rw[fO g,Md f];rfl
def Ry(T:B6)(h:H)(ts:List TypeId)(args:List V):Option (V×H):=
 match ts,args with
 |[d,_],[.ptr b 0,.int .i64<|.ofNat n]=>
  match T.und d,h.get b with
  |some (.pointer e),some (.cells cs c fz)=>
   match T.inf e,GR (cs.take n)with
   |some i,some l=>bif zh i.size 1&&zh e c&&zl 0 n&&zt n cs.length&&zt n 9223372036854775807&&zt fz.2 fz.1 then some (.str l,h.kill b)else none
   |_,_=>none
  |_,_=>none
 |_,_=>none
theorem Ext.gone{w':World}(hr:R p h w){b r n:Nat}{o:O}{x':Obj}(q:h.get b=some o)(hp:p[b]?=some (r,n))
  (l:w'.heap=w.heap.setIfInBounds r x') (D:w'.os=w.os) (M:w'.output=w.output) (I:w'.tape=w.tape) (L:∀cs t fz,o=.cells cs t fz->¬Lk n fz):Ext p h w p (h.kill b) w':=by
 refine⟨⟨[],by simp⟩,⟨hr.len,fun c k g=>?_,(hr.kill b).inj⟩,by simp[l],fun s K E=>?_,fun s G=>?_,D,M,I,fun s K F=>?_⟩
 ·rw[H.Ch]at g;by_cases e:c=b
  ·rw[wd e]at g;cases g
  ·rw[wc e]at g;obtain⟨s,m,y,f,A,J⟩:=hr.obj c k g;refine⟨s,m,y,f,?_,J⟩;have d:r≠s:=fun x=>e<|hr.inj c b k o s m n g q f<|x▸hp
   rw[l,zj d];exact A
 ·have d:r≠s:=fun e=>E<|e▸⟨b,o,n,q,hp⟩
  rw[l,zj d]
 ·obtain⟨c,k,m,f,A⟩:=G;rw[H.Ch]at f;split at f
  ·cases f
  ·exact .inl ⟨c,k,m,f,A⟩
 ·obtain⟨c,m,cs,t,fz,u,v,B⟩:=F;by_cases e:c=b
  ·subst e;rw[hp]at v;cases v;rw[q]at u;cases u;exact wh B<|L cs t fz rfl
  ·have d:r≠s:=fun x=>e<|hr.inj c b _ o s m n u q v<|x▸hp
   refine⟨by rw[l,zj d],.inl ⟨c,m,cs,t,fz,by rw[H.Ch,wc e];exact u,v,B⟩⟩
theorem Vz{w:World}{r n:Nat}{c:Array Value}{e:TypeId}{fz:Nat×Nat}(b:w.heap[r]?=some (.cells c e fz))(h0:n≠0):
  ∃fz',(w.freeze ⟨r,0,none⟩ n).heap=w.heap.setIfInBounds r (.cells c e fz'):=by
 refine⟨if fz.1==fz.2 then(0,0+n)else(min fz.1 0,max fz.2<|0+n),?_⟩;unfold World.freeze;rw[wc h0];dsimp only
 rw[QD b]
theorem lC(L:T.Ok P)(hr:R p h w){ts:Array TypeId}{t:TypeId}{args:List V}{args':Array Value}(N:At p args args'.toList){v:V}{h':H}(d:Ry T h ts.toList args=some (v,h')):
  ∃v' w',(Builtin.unsafeString_ ts t args').run P w=.ok v' w'/\Ac p v v'/\Ext p h w p h' w':=by
 unfold Ry at d;split at d
 case h_2=>cases d
 rename_i I J b n o;have o:ts= #[I,J]:=zm.1 o;subst o;split at d
 case h_2=>cases d
 rename_i e cs O fz M F;split at d
 case h_2=>cases d
 rename_i i l S Q;cases A:(zh i.size 1&&zh e O&&zl 0 n&&zt n cs.length&&zt n 9223372036854775807&&zt fz.2 fz.1)with
 |false=>rw[A]at d;cases d
 |true=>
  rw[A]at d;cases d;simp only[zq,yp,yb,Bp,w5]at A;obtain⟨⟨⟨⟨⟨Z,rfl⟩,c3⟩,c4⟩,c5⟩,c6⟩:=A;obtain⟨x,y,hargs,g1,g2⟩:=N.two;have:args'= #[x,y]:=zm.1 hargs;subst this;simp only[Ac]at g1 g2;obtain⟨r,m,g1,rfl⟩:=g1;subst g2;obtain⟨r',m',ob,k1,k2,c,fz',rfl,k4,k5,k6,k7⟩:=hr.obj b _ F;rw[g1]at k1;cases k1;obtain⟨j,z,j1,j2,_⟩:=L.inf e i S;have B:P.cellsOf e=1:=by simp[Program.cellsOf,j1,j2,Z]
  have u:=Md Q;have f:l.length=n:=by
   have:=wi List.length u;rw[List.length_take,List.length_map]at this;omega
  have E:w.shape? r=some (e,m):=by simp[World.shape?,k2,k4]
  have g:∀j x,l[j]?=some x->w.cell? ((⟨r,0,none⟩:Addr).add j)=some (.int .u8 x.toNat):=by
   intro j x G;have hj:=(zx.1 G).1;have U:cs[j]?=some (.int .u8 (x.toNat:Int)):=by
    have:=wi (·[j]?) u;simp only[yc,G,yw]at this;rw[zp ae]at this;exact this
   obtain⟨v,K,q⟩:=k6.get U rfl;simp only[Ac]at q;subst q;rw[zp ae]at K;rw[Addr.H2];simp only[World.cell?,k2];simpa using K
  have s:=Lib.run_unsafeString_row w I J t e (L.und _ _ M) B r m E l (by intro h;subst h;simp at f;omega) ae ae g;obtain⟨X,D⟩:=Vz (n:=l.length) k2 ae;refine⟨.string<|bytesOf l,w.freeze ⟨r,0,none⟩ l.length,?_,by simp[Ac],?_⟩
  ·rw[<-f];exact s
  ·have k:(w.freeze ⟨r,0,none⟩ l.length).os=w.os/\(w.freeze ⟨r,0,none⟩ l.length).output=w.output/\(w.freeze ⟨r,0,none⟩ l.length).tape=w.tape:=by
    unfold World.freeze;split<;>exact⟨rfl,rfl,rfl⟩
   exact Ext.gone hr F g1 D k.1 k.2.1 k.2.2 (by
    intro cs' t' fz' Y W;cases Y;obtain⟨q1,q2,q3⟩:=W;omega)
end
mutual
def cv:Value->Option V
 | .bool b=>some<|.bool b
 | .int k n=>some<|.int k n
 | .string s=>some<|.str s.data.toList
 | .pointer none=>some .nilp
 | .slice none 0 0=>some .nils
 | .map none=>some .nilm
 | .nilFunc=>some .nilf
 | .nilIface=>some .nili
 | .func f ⟨[]⟩ ⟨[]⟩=>some<|.fn f [] []
 | .agg ⟨cs⟩=>(yW cs).map .agg
 | .tuple ⟨cs⟩=>(yW cs).map .tup
 |_=>none
def yW:List Value->Option (List V)
 |[]=>some []
 |v::vs=>match cv v,yW vs with
  |some x,some xs=>some (x::xs)
  |_,_=>none
end
mutual
theorem Xi(p:Pl):∀ {v:Value} {x:V},cv v=some x->Ac p x v
 | .bool b,x,h=>by simp[cv]at h;subst h;simp[Ac]
 | .int k n,x,h=>by simp[cv]at h;subst h;simp[Ac]
 | .string s,x,h=>by simp[cv]at h;subst h;simp[Ac,bytesOf]
 | .pointer none,x,h=>by simp[cv]at h;subst h;simp[Ac]
 | .pointer (some a),x,h=>by simp[cv]at h
 | .slice none 0 0,x,h=>by simp[cv]at h;subst h;simp[Ac]
 | .slice none 0 (_+1),x,h=>by simp[cv]at h
 | .slice none (_+1) _,x,h=>by simp[cv]at h
 | .slice (some a) _ _,x,h=>by simp[cv]at h
 | .map none,x,h=>by simp[cv]at h;subst h;simp[Ac]
 | .map (some a),x,h=>by simp[cv]at h
 | .nilFunc,x,h=>by simp[cv]at h;subst h;simp[Ac]
 | .nilIface,x,h=>by simp[cv]at h;subst h;simp[Ac]
 | .func f ⟨[]⟩ ⟨[]⟩,x,h=>by simp[cv]at h;subst h;simp[Ac]
 | .func f ⟨_::_⟩ _,x,h=>by simp[cv]at h
 | .func f ⟨[]⟩ ⟨_::_⟩,x,h=>by simp[cv]at h
 | .agg ⟨cs⟩,x,h=>by
  simp only[cv,zg]at h;obtain⟨xs,c,rfl⟩:=h;simp only[Ac];exact⟨_,rfl,Ub p c⟩
 | .tuple ⟨cs⟩,x,h=>by
  simp only[cv,zg]at h;obtain⟨xs,c,rfl⟩:=h;simp only[Ac];exact⟨_,rfl,Ub p c⟩
 | .float _ _,x,h=>by simp[cv]at h
 | .complex _ _ _,x,h=>by simp[cv]at h
 | .chan _,x,h=>by simp[cv]at h
 | .iface _ _,x,h=>by simp[cv]at h
theorem Ub(p:Pl):∀ {vs:List Value} {xs:List V},yW vs=some xs->At p xs vs
 |[],xs,h=>by simp[yW]at h;subst h;simp
 |v::vs,xs,h=>by
  unfold yW at h;split at h
  case h_2=>cases h
  rename_i x c b d;cases h;exact(Bh ..).2 ⟨Xi p b,Ub p d⟩
end
structure Fn where
 ntmps:Nat
 results:Array ResultVar
 body:Code
 cert:Bool
structure Ctx where
 T:B6
 ng:Nat
 fn:FuncId->Option Fn
 prim:FuncId->Option (List V->H->Option (V×H))
 spec:FuncId->Option (List V->H->Option (V×H))
 mg:Bool
def Gl(_:Ctx)(p:Pl):Prop:=Gp p
theorem Gl.ext{C:Ctx}{p p':Pl}{h h':H}{w w':World}(b:Gl C p)(e:Ext p h w p' h' w'):Gl C p':=by
 obtain⟨q,rfl⟩:=e.pre;exact Gp.app b q
def ev(_:Ctx)(fr:Fr):Operand->Option V
 | .tmp t=>some<|fr.get t
 | .const v=>cv v
 | .global g=>bif gin g Gr then some (.ptr g 0)else none
 | .func f=>some<|.fn (.func f) [] []
theorem A8{C:Ctx}{p:Pl}{fr:Fr}{a:Act}(k:Gl C p)(d:CM p fr a){x:Operand}{v:V}(b:ev C fr x=some v):Ac p v (a.eval x):=by
 cases x with
 |tmp t=>simp only[ev,ze]at b;subst b;exact d.2 t
 |const v=>exact Xi p b
 |global g=>
  simp only[ev]at b;cases c:gin g Gr with
  |true=>
   rw[c]at b;simp only[we,ze]at b;subst b;obtain⟨o,l⟩:=YE c;simp only[Ac,Act.eval];exact⟨g,_,k _ l,rfl⟩
  |false=>rw[c]at b;cases b
 |func f=>simp only[ev,ze]at b;subst b;simp[Ac,Act.eval]
def R1(C:Ctx)(fr:Fr):List Operand->Option (List V)
 |[]=>some []
 |x::xs=>match ev C fr x,R1 C fr xs with
  |some v,some vs=>some (v::vs)
  |_,_=>none
theorem Jq{C:Ctx}{p:Pl}{fr:Fr}{a:Act}(c:Gl C p)(b:CM p fr a):∀ {xs:List Operand} {vs:List V},R1 C fr xs=some vs->At p vs (xs.map a.eval)
 |[],vs,h=>by simp[R1]at h;subst h;simp
 |x::xs,vs,h=>by
  unfold R1 at h;split at h
  case h_2=>cases h
  rename_i v f d g;cases h;exact(Bh ..).2 ⟨A8 c b d,Jq c b g⟩
def Wm(C:Ctx)(fr:Fr):Option Operand->Option (Option V)
 |none=>some none
 |some x=>(ev C fr x).map some
theorem NV{C:Ctx}{p:Pl}{fr:Fr}{a:Act}(f:Gl C p)(d:CM p fr a){x:Option Operand}{v:Option V}(b:Wm C fr x=some v):Gc p v (x.map a.eval):=by
 cases x with
 |none=>simp[Wm]at b;subst b;rfl
 |some x=>
  simp only[Wm,zg]at b;obtain⟨u,c,rfl⟩:=b;exact⟨_,rfl,A8 f d c⟩
def W8(C:Ctx)(fr:Fr):List (Nat×Operand)->Option (List<|Nat×V)
 |[]=>some []
 |(i,x)::xs=>match ev C fr x,W8 C fr xs with
  |some v,some vs=>some ((i,v)::vs)
  |_,_=>none
theorem N3{C:Ctx}{p:Pl}{fr:Fr}{a:Act}(c:Gl C p)(b:CM p fr a):∀ {xs:List (Nat×Operand)} {vs:List (Nat×V)},W8 C fr xs=some vs->U7 p vs (xs.map fun(i,x)=>(i,a.eval x))
 |[],vs,h=>by simp[W8]at h;subst h;exact .nil
 |(i,x)::xs,vs,h=>by
  unfold W8 at h;split at h
  case h_2=>cases h
  rename_i v f d g;cases h;exact .cons (A8 c b d)<|N3 c b g
inductive OR where
 |val (v:V) (h:H)
 |skip (h:H)
 |enter (f:FuncId) (args:List V)
 |round (b:Nat) (l:LS) (fr:Fr)
 |alts (l:List (V×H))
def Fr.bC(f:Fr)(t:Nat)(v:V):Fr:=bif zl t f.n then⟨f.n,f.m.set t<|some v⟩else f
def GL:List Tmp->List V->Fr->Fr
 |t::ts,v::vs,f=>GL ts vs<|f.bC t v
 |_,_,f=>f
theorem Fq.bC{p:Pl}{f:Fr}{tmps:Array Value}(d:Fq p f tmps){v:V}{v':Value}(g:Ac p v v')(t:Nat):Fq p (f.bC t v) (tmps.setIfInBounds t v'):=by
 unfold Fr.bC;simp only[Ht];by_cases b:t<f.n
 ·simp only[b,decide_true,we];refine⟨by simp[d.1],fun s=>?_⟩;have c:t<tmps.size:=d.1▸b;by_cases e:s=t
  ·subst e;simp[Fr.get,c,g]
  ·have:=d.2 s;simp only[Fr.get,PM.Dm,wc e]at this ⊢;rw[zr,zj<|fun x=>e x.symm, <-zr];exact this
 ·simp only[b,decide_false,wg];have:tmps.setIfInBounds t v'=tmps:=by
   have:tmps.size<=t:=by have:=d.1;omega
   simp[Array.setIfInBounds,Nat.not_lt.2 this]
  rw[this];exact d
theorem Fq.GL{p:Pl}:∀ {ts:List Tmp} {vs:List V} {b:List Value},At p vs b->∀ {f:Fr} {tmps:Array Value},Fq p f tmps->Fq p (GL ts vs f) ((ts.zip b).foldl (fun tmps (t,a)=>tmps.setIfInBounds t a) tmps)
 |[],vs,b,_,f,tmps,d=>by simpa [Det.GL]using d
 |t::ts,[],b,c,f,tmps,d=>by simp at c;subst c;simpa [Det.GL]using d
 |t::ts,v::vs,b,c,f,tmps,d=>by
  simp only[At]at c;obtain⟨u,l,rfl,g,k⟩:=c;simp only[Det.GL,List.zip_cons_cons,List.foldl_cons];exact Fq.GL k<|d.bC g t
def Bx(h:H):Option V->Option OR
 |some v=>some<|.val v h
 |none=>none
def FA:Option (V×H)->Option OR
 |some (v,h)=>some<|.val v h
 |none=>none
def iR:Option H->Option OR
 |some h=>some<|.skip h
 |none=>none
def EC(C:Ctx)(h:H)(b:Builtin)(ts:Array TypeId)(args:List V):Option OR:=
 match b with
 | .len=>Bx h<|Gj C.T h ts args
 | .append=>FA<|GH C.T h ts args
 | .copy=>FA<|nE C.T h ts args
 | .max=>Bx h<|GJ fF args
 | .min=>Bx h<|GJ oW args
 | .cap=>Bx h<|Aav C.T ts args
 | .delete=>FA<|LU C.T h ts args
 | .clear=>FA<|FY C.T h ts args
 | .unsafeSliceData=>Bx h<|OF args
 | .unsafeString=>FA<|Ry C.T h ts.toList args
 |_=>none
def LL(C:Ctx)(h:H)(f:V)(args:List V):Option OR:=
 match f with
 | .fn (.func g) first captured=>
  match C.prim g with
  |some q=>FA<|q (first++args++captured) h
  |none=>match C.fn g with
   |some _=>some<|.enter g<|first++args++captured
   |none=>none
 | .yld b=>match h.get b with
  |some (.loop l)=>bif zh args.length l.ps.size then some (.round b l<|GL l.ps.toList args l.fr)else none
  |_=>none
 |_=>none
def Oj(C:Ctx)(h:H)(x:V)(name:String)(args:List V):Option OR:=
 match x with
 | .iface t v=>match C.T.mth t name with
  |some g=>LL C h (.fn (.func g) [] []) (v::args)
  |none=>none
 |_=>none
def ZY:Operand->Bool
 | .const _=>true
 |_=>false
def sS(T:B6)(op:BinOp)(t:TypeId)(x y:Operand)(v u:V):Option V:=
 match op,v,u,T.und t with
 | .eql,.nili,.nili,some (.interface _)=>bif ZY x||ZY y then some (.bool true)else none
 | .neq,.nili,.nili,some (.interface _)=>bif ZY x||ZY y then some (.bool false)else none
 |_,_,_,_=>none
def Nh(T:B6)(op:BinOp)(t:TypeId)(x y:Operand)(v u:V):Option V:=
 match sS T op t x y v u with
 |some r=>some r
 |none=>Mr T op t v u
def G1(C:Ctx)(fr:Fr)(h:H)(o:Oper):Option OR:=
 let ρ:=ev C fr
 match o.op with
 | .move x| .assign x=>Bx h<|ρ x
 | .pick c a b=>match ρ c with
  |some (.bool t)=>Bx h<|if t then ρ a else ρ b
  |_=>none
 | .alloc t=>FA<|G2 C.T h t
 | .box t x=>FA<|(ρ x).map fun v=>aS h t v
 | .build t q=>match W8 C fr q.toList with
  |some ps=>Bx h<|Ke C.T t ps
  |none=>none
 | .buildSlice t n q=>match W8 C fr q.toList with
  |some ps=>FA<|E9 C.T h t n ps
  |none=>none
 | .load t x=>match ρ x with
  |some v=>Bx h<|Ft C.T h t v
  |none=>none
 | .store t x y=>match ρ x,ρ y with
  |some v,some u=>iR<|HP C.T h t v u
  |_,_=>none
 | .nilCheck x=>match ρ x with
  |some (.ptr b i)=>Bx h<|some<|.ptr b i
  |some (.iface t v)=>Bx h<|some<|.iface t v
  |_=>none
 | .binOp op t x y _=>match ρ x,ρ y with
  |some v,some u=>Bx h<|Nh C.T op t x y v u
  |_,_=>none
 | .unOp op _ x=>match ρ x with
  |some v=>Bx h<|dun op v
  |none=>none
 | .convert s d x=>match ρ x with
  |some v=>Bx h<|F9 C.T h s d v
  |none=>none
 | .makeInterface t x=>match ρ x,C.T.und t with
  |some v,some d=>match d with
   | .interface _=>none
   |_=>Bx h<|some<|.iface t v
  |_,_=>none
 | .makeFunc f first captured=>match R1 C fr first.toList,R1 C fr captured.toList with
  |some a,some b=>Bx h<|some<|.fn f a b
  |_,_=>none
 | .makeMap _ r=>match Wm C fr r with
  |some v=>FA<|IA h v
  |none=>none
 | .makeSlice t l c=>match ρ l,ρ c with
  |some v,some u=>FA<|P8 C.T h t v u
  |_,_=>none
 | .slice t x lo B mx=>match ρ x,Wm C fr lo,Wm C fr B,Wm C fr mx with
  |some v,some l,some r,some m=>Bx h<|DJ C.T t v l r m
  |_,_,_,_=>none
 | .fieldAddr t x f=>match ρ x with
  |some v=>Bx h<|Kx C.T t v f
  |none=>none
 | .field t x f=>match ρ x with
  |some v=>Bx h<|Ks C.T t v f
  |none=>none
 | .indexAddr t x i=>match ρ x,ρ i with
  |some v,some u=>Bx h<|Dk C.T t v u
  |_,_=>none
 | .index t x i=>match ρ x,ρ i with
  |some v,some u=>Bx h<|H7 C.T t v u
  |_,_=>none
 | .lookup t x i ok=>match ρ x,ρ i with
  |some v,some u=>Bx h<|Fa C.T h t v u ok
  |_,_=>none
 | .mapUpdate t m k x| .insert t m k x=>match ρ m,ρ k,ρ x with
  |some a,some b,some c=>iR<|HO C.T h t a b c
  |_,_,_=>none
 | .range t x=>match ρ x with
  |some v=>FA<|H6 C.T h t v
  |none=>none
 | .next x A=>match ρ x with
  |some v=>bif A then FA (M6 h v A)else(TE h v A).map .alts
  |none=>none
 | .entry x=>match ρ x with
  |some v=>Bx h<|T0 h v
  |none=>none
 | .extract x i=>match ρ x with
  |some v=>Bx h<|He v i
  |none=>none
 | .call c=>match c.callee,R1 C fr c.args.toList with
  | .builtin b,some args=>EC C h b c.argTypes args
  | .value f,some args=>match ρ f with
   |some g=>LL C h g args
   |none=>none
  | .invoke x D,some args=>match ρ x with
   |some v=>Oj C h v D args
   |none=>none
  |_,_=>none
 |_=>none
abbrev Gs:=Ctx->Fr->H->Option OR
def AaX(a0:Operand):Gs:=fun C fr h=>Bx h<|ev C fr a0
def nT(a0:Operand):Gs:=fun C fr h=>Bx h<|ev C fr a0
def Abr(a0:Operand)(a1:Operand)(a2:Operand):Gs:=fun C fr h=>match ev C fr a0 with|some (.bool t)=>Bx h (if t then ev C fr a1 else ev C fr a2)|_=>none
def rD(a0:TypeId):Gs:=fun C _fr h=>FA<|G2 C.T h a0
def Acg(a0:TypeId)(a1:Operand):Gs:=fun C fr h=>FA<|(ev C fr a1).map fun v=>aS h a0 v
def sR(a0:TypeId)(a1:Array (Nat×Operand)):Gs:=fun C fr h=>match W8 C fr a1.toList with|some ps=>Bx h (Ke C.T a0 ps)|none=>none
def Sj(a0:TypeId)(a1:Nat)(a2:Array (Nat×Operand)):Gs:=fun C fr h=>match W8 C fr a2.toList with|some ps=>FA (E9 C.T h a0 a1 ps)|none=>none
def mI(a0:TypeId)(a1:Operand)(a2:Operand)(a3:Operand):Gs:=fun C fr h=>match ev C fr a1,ev C fr a2,ev C fr a3 with|some a,some b,some c=>iR (HO C.T h a0 a b c)|_,_,_=>none
def AaW(a0:TypeId)(a1:Operand):Gs:=fun C fr h=>match ev C fr a1 with|some v=>Bx h (Ft C.T h a0 v)|none=>none
def wY(a0:TypeId)(a1:Operand)(a2:Operand):Gs:=fun C fr h=>match ev C fr a1,ev C fr a2 with|some v,some u=>iR (HP C.T h a0 v u)|_,_=>none
def wL(_a0:Nat):Gs:=fun _ _ _=>none
def sA(_a0:Nat):Gs:=fun _ _ _=>none
def WV(a0:Operand):Gs:=fun C fr h=>match ev C fr a0 with|some (.ptr b i)=>Bx h (some<|.ptr b i)|some (.iface t v)=>Bx h (some<|.iface t v)|_=>none
def qV(a0:BinOp)(a1:TypeId)(a2:Operand)(a3:Operand)(_a4:TypeId):Gs:=fun C fr h=>match ev C fr a2,ev C fr a3 with|some v,some u=>Bx h (Nh C.T a0 a1 a2 a3 v u)|_,_=>none
def Aaq(a0:UnOp)(_a1:TypeId)(a2:Operand):Gs:=fun C fr h=>match ev C fr a2 with|some v=>Bx h (dun a0 v)|none=>none
def aY(a0:TypeId)(a1:TypeId)(a2:Operand):Gs:=fun C fr h=>match ev C fr a2 with|some v=>Bx h (F9 C.T h a0 a1 v)|none=>none
def Ip(_a0:TypeId)(_a1:Operand):Gs:=fun _ _ _=>none
def NC(a0:TypeId)(a1:Operand):Gs:=fun C fr h=>match ev C fr a1,C.T.und a0 with|some v,some d=>(match d with| .interface _=>none|_=>Bx h<|some<|.iface a0 v)|_,_=>none
def Ya(a0:Go.Fn)(a1:Array Operand)(a2:Array Operand):Gs:=fun C fr h=>match R1 C fr a1.toList,R1 C fr a2.toList with|some a,some b=>Bx h (some<|.fn a0 a b)|_,_=>none
def bX(_a0:TypeId)(a1:Option Operand):Gs:=fun C fr h=>match Wm C fr a1 with|some v=>FA (IA h v)|none=>none
def Xk(_a0:TypeId)(_a1:Operand):Gs:=fun _ _ _=>none
def Wc(a0:TypeId)(a1:Operand)(a2:Operand):Gs:=fun C fr h=>match ev C fr a1,ev C fr a2 with|some v,some u=>FA (P8 C.T h a0 v u)|_,_=>none
def xA(a0:TypeId)(a1:Operand)(a2:Option Operand)(a3:Option Operand)(a4:Option Operand):Gs:=fun C fr h=>match ev C fr a1,Wm C fr a2,Wm C fr a3,Wm C fr a4 with|some v,some l,some r,some m=>Bx h (DJ C.T a0 v l r m)|_,_,_,_=>none
def VY(a0:TypeId)(a1:Operand)(a2:Nat):Gs:=fun C fr h=>match ev C fr a1 with|some v=>Bx h (Kx C.T a0 v a2)|none=>none
def vY(a0:TypeId)(a1:Operand)(a2:Nat):Gs:=fun C fr h=>match ev C fr a1 with|some v=>Bx h (Ks C.T a0 v a2)|none=>none
def Vg(a0:TypeId)(a1:Operand)(a2:Operand):Gs:=fun C fr h=>match ev C fr a1,ev C fr a2 with|some v,some u=>Bx h (Dk C.T a0 v u)|_,_=>none
def tO(a0:TypeId)(a1:Operand)(a2:Operand):Gs:=fun C fr h=>match ev C fr a1,ev C fr a2 with|some v,some u=>Bx h (H7 C.T a0 v u)|_,_=>none
def fQ(a0:TypeId)(a1:Operand)(a2:Operand)(a3:Bool):Gs:=fun C fr h=>match ev C fr a1,ev C fr a2 with|some v,some u=>Bx h (Fa C.T h a0 v u a3)|_,_=>none
def VB(a0:TypeId)(a1:Operand)(a2:Operand)(a3:Operand):Gs:=fun C fr h=>match ev C fr a1,ev C fr a2,ev C fr a3 with|some a,some b,some c=>iR (HO C.T h a0 a b c)|_,_,_=>none
def WS(_a0:TypeId)(_a1:Operand)(_a2:Operand):Gs:=fun _ _ _=>none
def S3(_a0:TypeId)(_a1:Operand)(_a2:Operand)(_a3:Operand):Gs:=fun _ _ _=>none
def tS(a0:TypeId)(a1:Operand):Gs:=fun C fr h=>match ev C fr a1 with|some v=>FA (H6 C.T h a0 v)|none=>none
def Abm(a0:Operand)(a1:Bool):Gs:=fun C fr h=>match ev C fr a0 with|some v=>bif a1 then FA (M6 h v a1)else(TE h v a1).map .alts|none=>none
def uP(a0:Operand):Gs:=fun C fr h=>match ev C fr a0 with|some v=>Bx h (T0 h v)|none=>none
def TK(_a0:Operand)(_a1:TypeId)(_a2:TypeId)(_a3:Bool):Gs:=fun _ _ _=>none
def bY(a0:Operand)(a1:Nat):Gs:=fun C fr h=>match ev C fr a0 with|some v=>Bx h (He v a1)|none=>none
def Abn(a0:Call):Gs:=fun C fr h=>match a0.callee,R1 C fr a0.args.toList with| .builtin b,some args=>EC C h b a0.argTypes args| .value f,some args=>(match ev C fr f with|some g=>LL C h g args|none=>none)| .invoke x c,some args=>(match ev C fr x with|some v=>Oj C h v c args|none=>none)|_,_=>none
def Ad7(_a0:Call):Gs:=fun _ _ _=>none
def rZ(_a0:Call):Gs:=fun _ _ _=>none
def tZ(_a0:Operand):Gs:=fun _ _ _=>none
def Aak(_a0:Operand)(_a1:Operand):Gs:=fun _ _ _=>none
def Abv(_a0:TypeId)(_a1:Operand)(_a2:Bool):Gs:=fun _ _ _=>none
def iZ(_a0:Array SelectCase)(_a1:Bool):Gs:=fun _ _ _=>none
def opF(o:Op):Gs:=@Op.casesOn (fun _=>Gs) o AaX nT Abr rD Acg sR Sj mI AaW wY wL sA WV qV Aaq aY Ip NC Ya bX Xk Wc xA VY vY Vg tO fQ VB WS S3 tS Abm uP TK bY Abn Ad7 rZ tZ Aak Abv iZ
def GI(C:Ctx)(fr:Fr)(h:H)(o:Oper):Option OR:=opF o.op C fr h
theorem Dc(C:Ctx)(fr:Fr)(h:H)(o:Oper):GI C fr h o=G1 C fr h o:=by
 unfold GI G1;cases o.op<;>rfl
def IW(C:Ctx)(fr:Fr)(h:H)(o:Oper):Option OR:=
 match GI C fr h o with
 |some r=>some r
 |none=>match o.op with
  | .convert s d x=>match ev C fr x with
   |some v=>match BF C.T h s d v with
    |some u=>some<|.val u h
    |none=>FA<|SD C.T h s d v
   |none=>none
  |_=>none
structure Ctx.Ok(C:Ctx)(P:Program):Prop where
 T:C.T.Ok P
 fn : ∀ f i, C.fn f = some i -> ∃ fn, P.funcs[f]? = some fn /\ fn.name ≠ "runtime.NumGoroutine" /\ fn.body = some i.body /\ fn.ntmps = i.ntmps /\ fn.results = i.results
 prim:∀f q,C.prim f=some q->∀(p:Pl) (h:H) (w:World) (args:List V) (args':Array Value) v h',R p h w->Gl C p->At p args args'.toList->q args h=some (v,h')->
  ∃v' p' w',(callFunc f args').run P w=.ok (.value v') w'/\Ac p' v v'/\Ext p h w p' h' w'
 spec:∀f q,C.spec f=some q->∀(p:Pl) (h:H) (w:World) (args:List V) (args':Array Value) v h',R p h w->Gl C p->At p args args'.toList->q args h=some (v,h')->
  Calls P f args' w fun e w'=>∃v' p',e=.returned v'/\Ac p' v v'/\Ext p h w p' h' w'
def Sm(p:Pl)(h:H)(w:World):OR->Result Next->Prop
 | .val v h',r=>∃v' p' w',r=.ok (.value v') w'/\Ac p' v v'/\Ext p h w p' h' w'
 | .skip h',r=>∃p' w',r=.ok .skip w'/\Ext p h w p' h' w'
 | .enter f args,r=>∃args',r=.ok (.enter f args') w/\At p args args'.toList
 | .round b l fr,r=>∃k n f tmps,p[b]?=some (k,n)/\h.get b=some (.loop l)/\r=.ok (.round k f tmps l.asg l.body) w/\Fq p fr tmps
 | .alts l,r=>∃v h' v' p' w',(v,h')∈l/\r=.ok (.value v') w'/\Ac p' v v'/\Ext p h w p' h' w'
section
variable {C:Ctx}{P:Program}{p:Pl}{h:H}{w:World}{fr:Fr}{a:Act}
theorem B3{s:Sem Value}{v:Option V}{r:OR}(hr:R p h w)(b:Bx h v=some r)(d:∀x,v=some x->∃v',s.run P w=.ok v' w/\Ac p x v'):Sm p h w r ((do pure (.value<|<-s):Sem Next).run P w):=by
 cases v with
 |none=>simp[Bx]at b
 |some x=>
  simp only[Bx,ze]at b;subst b;obtain⟨v',c,f⟩:=d x rfl;exact⟨v',p,w,by simp[c],f,zu hr⟩
theorem DE{s:Sem Value}{v:Option (V×H)}{r:OR}(b:FA v=some r)(c:∀x h',v=some (x,h')->∃v' p' w',s.run P w=.ok v' w'/\Ac p' x v'/\Ext p h w p' h' w'):Sm p h w r ((do pure (.value<|<-s):Sem Next).run P w):=by
 match v,b,c with
 |some (x,h'),b,c=>
  simp only[FA,ze]at b;subst b;obtain⟨v',p',w',d,g,f⟩:=c x h' rfl;exact⟨v',p',w',by simp[d],g,f⟩
 |none,b,_=>simp[FA]at b
theorem Yw{s:Sem Unit}{v:Option H}{r:OR}(b:iR v=some r)(d:∀h',v=some h'->∃w',s.run P w=.ok () w'/\Ext p h w p h' w'):Sm p h w r ((do s;pure .skip:Sem Next).run P w):=by
 cases v with
 |none=>simp[iR]at b
 |some h'=>
  simp only[iR,ze]at b;subst b;obtain⟨w',c,f⟩:=d h' rfl;exact⟨p,w',by simp[c],f⟩
theorem Mx(L:C.Ok P)(hr:R p h w)(S:Gl C p){f:V}{J:Value}{args:List V}{args':Array Value}(D:Ac p f J)(F:At p args args'.toList){r:OR}(c:LL C h f args=some r):
  Sm p h w r ((do let d<-ye J args';invoke d.target d.args:Sem Next).run P w):=by
 unfold LL at c;split at c
 case h_3=>cases c
 case h_2=>
  rename_i b;split at c
  case h_2=>cases c
  rename_i l I;rw[Bp]at c;by_cases E:args.length=l.ps.size
  ·simp only[E,decide_true,we,ze]at c;subst c;simp only[Ac]at D;obtain⟨k,n,hp,rfl⟩:=D;obtain⟨k',n',o,u,B,f0,tmps,r,m,A,N,rfl⟩:=hr.obj _ _ I;rw[hp]at u;cases u;have K:=F.length;simp only[ye,zd,zf,zc,invoke];simp at K;have e:((l.ps.zip args').foldl (fun tmps (t,a)=>tmps.setIfInBounds t a) tmps)=(l.ps.toList.zip args'.toList).foldl (fun tmps (t,a)=>tmps.setIfInBounds t a) tmps:=by
    rw[<-Array.toList_zip,Array.foldl_toList]
   have G:=Fq.GL (ts:=l.ps.toList) F A;rw[<-e]at G;refine⟨k,n,f0,_,hp,I,?_,G⟩;simp only[Array.empty_append];exact run_yield B (by rw[<-K,E])
  ·simp[E]at c
 rename_i g first captured
 simp only[Ac]at D;obtain⟨x,y,rfl,M,U⟩:=D;have s:At p (first++args++captured) (x++args'++y).toList:=by
  simpa using(M.append F).append U
 simp only[ye,zd,zf,zc,invoke];split at c
 case h_1=>
  rename_i q O;match hqr:q (first++args++captured) h,c with
  |some (v,h'),c=>
   simp only[FA,ze]at c;subst c;obtain⟨v',p',w',u,B,A⟩:=L.prim g q O p h w _ _ v h' hr S s hqr;exact⟨v',p',w',u,B,A⟩
  |none,c=>simp[FA]at c
 case h_2=>
  split at c
  case h_2=>cases c
  rename_i i Q;cases c;obtain⟨fn,u,B,A,N,G⟩:=L.fn g i Q;refine⟨_,?_,s⟩;unfold callFunc;simp[u,B,A]
theorem UP(u:C.Ok P)(hr:R p h w)(A:Gl C p){x:V}{x':Value}{name:String}{args:List V}{args':Array Value}(s:Ac p x x')(B:At p args args'.toList){r:OR}(c:Oj C h x name args=some r):
  Sm p h w r ((invoke (.fn (.method name) #[])<|#[x']++args').run P w):=by
 unfold Oj at c;split at c
 case h_2=>cases c
 rename_i t v;split at c
 case h_2=>cases c
 rename_i g E;simp only[Ac]at s;obtain⟨y,rfl,F⟩:=s;obtain⟨j,m,d,h1,h2,h3,h4,h5,h6⟩:=u.T.mth t name g E;have key:(invoke (.fn (.method name) #[])<|#[.iface t y]++args').run P w=((do let d<-ye (.func (.func g) #[] #[]) (#[y]++args');invoke d.target d.args:Sem Next).run P w):=by
  have l:(underlying t).run P w=.ok d w:=by unfold underlying;simp[h5]
  have o:(typeInfo t).run P w=.ok j w:=by unfold typeInfo;simp[h1]
  have b:∀k,(method (k+1) t y name).run P w=.ok (g,y) w:=by
   intro k;unfold method;simp only[zd,o,zc,h2,h3,follow,zf,h4];unfold receiverAt;simp only[zd,l,zc,Place.get];cases d<;>first|(exact wh rfl (h6 _))|simp
  have q:=b<|P.types.size+99;have e:P.types.size+Made.depth=P.types.size+99+1:=rfl;have h0:(#[Value.iface t y]++args')[0]?=some (.iface t y):=by
   rw[<-zn];simp
  have D:(#[Value.iface t y]++args').extract 1 (#[Value.iface t y]++args').size=args':=by
   rw[<-zm];simp
  simp only[invoke,ye,h0,D];simp[callMethod,e,q]
 rw[key];exact Mx u hr A (f:=.fn (.func g) [] []) (by simp[Ac]) (by simp;exact⟨F,B⟩) c
theorem Vu(g:C.Ok P)(hr:R p h w){b:Builtin}{ts:Array TypeId}{t:TypeId}{cs:Array Bool}{args:List V}{args':Array Value}(f:At p args args'.toList){r:OR}(d:EC C h b ts args=some r):
  Sm p h w r ((builtin b ts t cs args').run P w):=by
 unfold EC at d;split at d
 case h_1=>exact B3 hr d fun x c=>qF g.T hr f c
 case h_2=>exact DE d fun x h' c=>Wx g.T hr f c
 case h_3=>exact DE d fun x h' c=>jS g.T hr f c
 case h_4=>exact B3 hr d fun x c=>sG f c
 case h_5=>exact B3 hr d fun x c=>tV f c
 case h_6=>exact B3 hr d fun x c=>pZ g.T f c
 case h_7=>exact DE d fun x h' c=>WJ g.T hr f c
 case h_8=>exact DE d fun x h' c=>dQ g.T hr f c
 case h_9=>exact B3 hr d fun x c=>cN f c
 case h_10=>
  refine DE d fun x h' c=>?_
  obtain⟨v',w',k,m,l⟩:=lC (t:=t) g.T hr f c;exact⟨v',p,w',k,m,l⟩
 case h_11=>cases d
theorem nY{T:B6}(A:T.Ok P){op:BinOp}{t:TypeId}{x y:Operand}{v u:V}{v' s:Value}(g:Ac p v v')(l:Ac p u s){z:V}(m:Nh T op t x y v u=some z):
  ∃E,(do eqGuard op t x y v' s;binOp op t v' s:Sem Value).run P w=.ok E w/\Ac p z E:=by
 unfold Nh at m;split at m
 case h_2=>
  simp only[zd,aQ A g l m,zc];exact sM A g l m
 case h_1=>
  rename_i r hr;cases m;have B:∀ {b:Bool},(bif ZY x||ZY y then some (V.bool b)else none)=some z->z=.bool b/\((∃c,x=.const c)\/∃c,y=.const c):=by
   intro b k;cases f:(ZY x||ZY y)with
   |false=>simp[f]at k
   |true=>
    simp only[f,we,ze]at k;refine⟨k.symm,?_⟩;simp only[qh]at f;rcases f with f|f
    ·left;cases x<;>first|exact⟨_,rfl⟩|cases f
    ·right;cases y<;>first|exact⟨_,rfl⟩|cases f
  have D:∀op,(op=.eql\/op=.neq)->((∃c,x=.const c)\/∃c,y=.const c)->(eqGuard op t x y .nilIface .nilIface).run P w=.ok () w:=by
   intro op F f;rcases F with rfl|rfl<;>unfold eqGuard<;>rcases f with⟨c,rfl⟩|⟨c,rfl⟩<;>simp
  have o:∀ {q},T.und t=some (.interface q)->(Op.equal t .nilIface .nilIface).run P w=.ok true w:=by
   intro q d;unfold Op.equal Op.maxDepth Op.equalIn;rw[zd,Ay A d];rfl
  unfold sS at hr;split at hr
  case h_1=>
   rename_i q d;obtain⟨rfl,f⟩:=B hr;have k:=(N0 (t:=t) (y':=.nilIface) g rfl).1;simp only[Ac]at g l;subst g l;refine⟨.bool true,?_,by simp[Ac]⟩;rw[zd,D .eql (.inl rfl) f,zc,k,zd,o d];rfl
  case h_2=>
   rename_i q d;obtain⟨rfl,f⟩:=B hr;have k:=(N0 (t:=t) (y':=.nilIface) g rfl).2;simp only[Ac]at g l;subst g l;refine⟨.bool false,?_,by simp[Ac]⟩;rw[zd,D .neq (.inr rfl) f,zc,k,zd,o d];rfl
  case h_3=>cases hr
theorem mS(G:C.Ok P)(hr:R p h w)(B:Gl C p)(D:CM p fr a){o:Oper}{r:OR}(q:GI C fr h o=some r):Sm p h w r ((execOp a.eval o).run P w):=by
 rw[Dc]at q;unfold G1 at q;unfold execOp;cases ho:o.op<;>simp only[ho]at q ⊢<;>try (cases q;done)
 case move x|assign x=>
  cases A:ev C fr x with
  |none=>simp[A,Bx]at q
  |some v=>simp[A,Bx]at q;subst q;exact⟨_,p,w,rfl,A8 B D A,zu hr⟩
 case pick c x y=>
  split at q
  case h_2=>cases q
  rename_i t hc;have Q:=A8 B D hc;simp only[Ac]at Q;simp only[zd,Q,asBool,zf,zc];cases t
  ·cases A:ev C fr y with
   |none=>simp[A,Bx]at q
   |some v=>simp[A,Bx]at q;subst q;exact⟨_,p,w,by simp,A8 B D A,zu hr⟩
  ·cases A:ev C fr x with
   |none=>simp[A,Bx]at q
   |some v=>simp[A,Bx]at q;subst q;exact⟨_,p,w,by simp,A8 B D A,zu hr⟩
 case alloc t=>exact DE q fun x h' A=>bQ G.T hr A
 case box t x=>
  refine DE q fun v h' A=>?_
  rw[zg]at A;obtain⟨u,J,N⟩:=A;have:=vQ (P:=P) (t:=t) hr<|A8 B D J;rw[N]at this;exact this
 case build t L=>
  split at q
  case h_2=>cases q
  rename_i ps O;refine B3 hr q fun x A=>dF G.T ?_ A
  have:=N3 B D O;simpa using this
 case buildSlice t n L=>
  split at q
  case h_2=>cases q
  rename_i ps O;refine DE q fun x h' A=>Xy G.T hr ?_ A
  have:=N3 B D O;simpa using this
 case load t x=>
  split at q
  case h_2=>cases q
  rename_i v E;exact B3 hr q fun x A=>U8 G.T hr (A8 B D E) A
 case store t x y=>
  split at q
  case h_2=>cases q
  rename_i v u E J;exact Yw q fun h' A=>dU G.T hr (A8 B D E) (A8 B D J) A
 case nilCheck x=>
  split at q
  case h_3=>cases q
  case h_1=>
   rename_i b i E;have A:=A8 B D E;have K:=A;simp only[Ac]at K;obtain⟨r',n,hp,N⟩:=K;simp only[Bx,ze]at q;subst q;rw[N];exact⟨_,p,w,rfl,N▸A,zu hr⟩
  case h_2=>
   rename_i t v E;have A:=A8 B D E;have K:=A;simp only[Ac]at K;obtain⟨y,N,_⟩:=K;simp only[Bx,ze]at q;subst q;rw[N];exact⟨_,p,w,rfl,N▸A,zu hr⟩
 case binOp op t x y t2=>
  split at q
  case h_2=>cases q
  rename_i v u E J;refine B3 hr q fun z M=>?_
  exact nY G.T (A8 B D E) (A8 B D J) M
 case unOp op t x=>
  split at q
  case h_2=>cases q
  rename_i v E;exact B3 hr q fun x A=>Aah (A8 B D E) A
 case convert s d x=>
  split at q
  case h_2=>cases q
  rename_i v E;exact B3 hr q fun x A=>kN G.T hr (A8 B D E) A
 case makeInterface t x=>
  split at q
  case h_2=>cases q
  rename_i v d E U;split at q
  case h_1=>cases q
  case h_2=>
   rename_i V;refine B3 hr q fun z M=>?_
   cases M;refine⟨.iface t<|a.eval x,?_,by simp only[Ac];exact⟨_,rfl,A8 B D E⟩⟩;unfold Instr.makeInterface;simp only[zd,Ay G.T U,zc];cases d<;>first|rfl|exact wh rfl (V _)
 case makeFunc f first captured=>
  split at q
  case h_2=>cases q
  rename_i x y A Z;refine B3 hr q fun z M=>?_
  cases M;exact⟨_,rfl,by simp only[Ac];exact⟨_,_,rfl,by simpa using Jq B D A,by simpa using Jq B D Z⟩⟩
 case makeMap t x=>
  split at q
  case h_2=>cases q
  rename_i v E;exact DE q fun x h' A=>Vv hr (NV B D E) A
 case makeSlice t l c=>
  split at q
  case h_2=>cases q
  rename_i v u E J;exact DE q fun x h' A=>oY G.T hr (A8 B D E) (A8 B D J) A
 case slice t x lo hi mx=>
  split at q
  case h_2=>cases q
  rename_i v l r' m E S X Y;exact B3 hr q fun x A=>cG G.T (A8 B D E) (NV B D S) (NV B D X) (NV B D Y) A
 case fieldAddr t x f=>
  split at q
  case h_2=>cases q
  rename_i v E;exact B3 hr q fun x A=>bJ G.T (A8 B D E) A
 case field t x f=>
  split at q
  case h_2=>cases q
  rename_i v E;exact B3 hr q fun x A=>aJ G.T (A8 B D E) A
 case indexAddr t x i=>
  split at q
  case h_2=>cases q
  rename_i v u E J;exact B3 hr q fun x A=>Z3 G.T (A8 B D E) (A8 B D J) A
 case index t x i=>
  split at q
  case h_2=>cases q
  rename_i v u E J;exact B3 hr q fun x A=>dT G.T (A8 B D E) (A8 B D J) A
 case lookup t x i ok=>
  split at q
  case h_2=>cases q
  rename_i v u E J;exact B3 hr q fun x A=>WA G.T hr (A8 B D E) (A8 B D J) A
 case mapUpdate t m k x|insert t m k x=>
  split at q
  case h_2=>cases q
  rename_i v u z E J M;exact Yw q fun h' A=>XU G.T hr (A8 B D E) (A8 B D J) (A8 B D M) A
 case range t x=>
  split at q
  case h_2=>cases q
  rename_i v E;exact DE q fun x h' A=>W9 G.T hr (A8 B D E) A
 case next x b=>
  split at q
  case h_2=>cases q
  rename_i v E;cases b with
  |true=>simp only[we]at q;exact DE q fun x h' A=>gZ hr (A8 B D E) A
  |false=>
   simp only[wg,zg]at q;obtain⟨l,S,rfl⟩:=q;obtain⟨v,h',v',p',w',g1,g2,g3,g4⟩:=cC (P:=P) (t:=o.type) hr (A8 B D E) S;exact⟨v,h',v',p',w',g1,by simp only[zd,g2,zc,zf],g3,g4⟩
 case entry x=>
  split at q
  case h_2=>cases q
  rename_i v E;exact B3 hr q fun x A=>aE hr (A8 B D E) A
 case extract x i=>
  split at q
  case h_2=>cases q
  rename_i v E;exact B3 hr q fun x A=>UF (A8 B D E) A
 case call c=>
  split at q
  case h_4=>cases q
  case h_1=>
   rename_i b args I F;have:=Jq B D F;unfold resolve;simp only[I,zd,zf,zc,invoke];exact Vu G hr (by simpa using this) q
  case h_2=>
   rename_i f args I F;split at q
   case h_2=>cases q
   rename_i g W;have:=Jq B D F;unfold resolve;simp only[I];exact Mx G hr B (A8 B D W) (by simpa using this) q
  case h_3=>
   rename_i x nm args I F;split at q
   case h_2=>cases q
   rename_i v E;have:=Jq B D F;unfold resolve;simp only[I,zd,zf,zc];exact UP G hr B (A8 B D E) (by simpa using this) q
theorem Lu(l:C.Ok P)(hr:R p h w)(f:Gl C p)(c:CM p fr a){o:Oper}{r:OR}(b:IW C fr h o=some r):Sm p h w r ((execOp a.eval o).run P w):=by
 unfold IW at b;split at b
 case h_1=>
  rename_i A g;cases b;exact mS l hr f c g
 case h_2=>
  split at b
  case h_2=>cases b
  rename_i s d x q;split at b
  case h_2=>cases b
  rename_i v m;unfold execOp;simp only[q];split at b
  case h_1=>
   rename_i u y;exact B3 (v:=some u) hr b fun x k=>by cases k;exact qN l.T hr (A8 f c m) y
  exact DE b fun x h' k=>bM l.T hr (A8 f c m) k
end
def Bd(fr:Fr)(ops:Array Oper)(o:Oper):Bool:=
 match o.guard with
 |none=>true
 |some (j,c)=>
  match (ops[j]?).bind (·.dst)with
  |some t=>bif zl t fr.n then(match fr.get t with| .bool b=>b==c|_=>false)else false
  |none=>false
inductive Cl where
 |fn (f:FuncId) (args:List V)
 |rnd (b:Nat) (l:LS) (fr:Fr)
abbrev DH:=Cl->H->Option (List<|V×H)
def bl{α d:Type}:List α->(α->Option (List d))->Option (List d)
 |[],_=>some []
 |a::c,f=>match f a with
  |none=>none
  |some x=>match c with
   |[]=>some x
   |b::g=>match bl (b::g) f with
    |some y=>some<|x++y
    |none=>none
theorem I9{α o:Type}{f:α->Option (List o)}:∀ {l:List α} {r:List o},bl l f=some r->∀a∈l,∃x,f a=some x/\∀b∈x,b∈r
 |[],r,_,a,g=>by cases g
 |[c],r,h,a,g=>by
  unfold bl at h;split at h
  ·cases h
  rename_i x m;cases h;cases zy.1 g;exact⟨_,m,fun b k=>k⟩
 |c::d::u,r,h,a,g=>by
  unfold bl at h;split at h
  ·cases h
  rename_i x m;simp only at h;split at h
  case h_2=>cases h
  rename_i y v;cases h;rcases qn.1 g with rfl|g
  ·exact⟨_,m,fun b k=>List.mem_append_left _ k⟩
  ·obtain⟨z,q,s⟩:=I9 v a g;exact⟨z,q,fun b k=>yo _<|s b k⟩
def HR(fr:Fr)(d:Option Nat):List (V×H)->Option (List<|Fr×H)
 |[]=>some []
 |(v,h)::l=>match fr.put d v with
  |some f=>match HR fr d l with
   |some r=>some ((f,h)::r)
   |none=>none
  |none=>none
theorem OA{fr:Fr}{d:Option Nat}:∀ {l:List (V×H)} {r:List (Fr×H)},HR fr d l=some r->∀v h,(v,h)∈l->∃f,fr.put d v=some f/\(f,h)∈r
 |[],r,_,v,h,hm=>by cases hm
 |(u,k)::l,r,b,v,h,hm=>by
  unfold HR at b;split at b
  case h_2=>cases b
  rename_i f m;split at b
  case h_2=>cases b
  rename_i q hr;cases b;rcases qn.1 hm with e|hm
  ·cases e;exact⟨f,m,by simp⟩
  ·obtain⟨g,c,o⟩:=OA hr v h hm;exact⟨g,c,List.mem_cons_of_mem _ o⟩
def step1(C:Ctx)(call:DH)(ops:Array Oper)(o:Oper)(fr:Fr)(h:H):Option (List<|Fr×H):=
 bif Bd fr ops o then
  match IW C fr h o with
  |some (.val v h')=>match fr.put o.dst v with
   |some fr'=>some [(fr',h')]
   |none=>none
  |some (.skip h')=>match fr.put o.dst (.tup [])with
   |some fr'=>some [(fr',h')]
   |none=>none
  |some (.enter f args)=>match call (.fn f args) h with
   |some l=>HR fr o.dst l
   |none=>none
  |some (.round b ls f)=>match call (.rnd b ls f) h with
   |some l=>HR fr o.dst l
   |none=>none
  |some (.alts l)=>HR fr o.dst l
  |none=>none
 else match fr.put o.dst (.tup [])with
  |some fr'=>some [(fr',h)]
  |none=>none
def SN(C:Ctx)(call:DH)(ops:Array Oper):List Oper->Fr->H->Option (List<|Fr×H)
 |[],fr,h=>some [(fr,h)]
 |o::b,fr,h=>match step1 C call ops o fr h with
  |some l=>bl l fun x=>SN C call ops b x.1 x.2
  |none=>none
def FW(ro:Option Nat):Fence:={ yx with round:=ro }
theorem XR{ro:Option Nat}{n:Nat}{P:Program}{f:FuncId}{args:Array Value}{w:World}{R:Ending->World->Prop}:CallsIn (FW ro) n P f args w R↔Calls P f args w R:=by
 have:CallsIn (FW ro) n P f args w R↔CallsIn yx n P f args w R:=Iff.rfl;exact this.trans callsIn_wide
theorem AaL{ro:Option Nat}{n:Nat}{P:Program}{k:Nat}{f:FuncId}{tmps:Array Value}{asg body:Code}{w:World}{R:Ending->World->Prop}(h:RoundIn yx 0 P k f tmps asg body w R):RoundIn (FW ro) n P k f tmps asg body w R:=
 ⟨trivial,fun c cs _=>h.2 c cs<|room_wide _⟩
inductive DX where
 |normal
 |exit (id:Nat)
 |ret
def DX.SZ:DX->Exit
 | .normal=>.normal
 | .exit id=>.exit id
 | .ret=>.ret
section
variable {C:Ctx}{P:Program}{p:Pl}{h:H}{w:World}{fr:Fr}{a:Act}
theorem CM.put(g:CM p fr a){d:Option Nat}{v:V}{v':Value}(k:Ac p v v'){fr':Fr}(c:fr.put d v=some fr'):CM p fr' (a.put d v'):=by
 unfold Fr.put at c;cases d with
 |none=>cases c;exact g
 |some t=>
  simp only[Ht]at c;by_cases b:t<fr.n
  ·simp only[b,decide_true,we,ze]at c;subst c;refine⟨by simp[Act.put,g.1],fun s=>?_⟩;have f:t<a.tmps.size:=g.1▸b;by_cases e:s=t
   ·subst e;simp[Fr.get,Act.put,f,k]
   ·have:=g.2 s;simp only[Fr.get,PM.Dm,wc e,Act.put]at this ⊢;rw[zr,zj<|fun x=>e x.symm, <-zr];exact this
  ·simp[b]at c
theorem CM.mono(b:CM p fr a){p':Pl}(hp:∃q,p'=p++q):CM p' fr a:=by
 obtain⟨q,rfl⟩:=hp;exact⟨b.1,fun t=>(b.2 t).mono q⟩
theorem CM.ext(b:CM p fr a){p':Pl}{h':H}{w':World}(e:Ext p h w p' h' w'):CM p' fr a:=b.mono e.pre
theorem uN{p:Pl}{v:V}{b:Bool}(d:Ac p v (.bool b)):v=.bool b:=by
 cases v<;>simp only[Ac]at d<;>first|(cases d;rfl)|(simp at d;done)|(obtain⟨_,_,_,_,c,_⟩:=d;cases c;done)|(obtain⟨_,_,_,c⟩:=d;cases c;done)|(obtain⟨_,_,c,_⟩:=d;cases c;done)|(obtain⟨_,_,c⟩:=d;cases c;done)|(obtain⟨_,c,_⟩:=d;cases c;done)
theorem Rm(l:CM p fr a)(ops:Array Oper)(o:Oper):qc o (yielded ops a.tmps)=Bd fr ops o:=by
 unfold qc Bd;cases r:o.guard with
 |none=>rfl
 |some q=>
  obtain⟨j,d⟩:=q;simp only;unfold yielded;cases s:(ops[j]?).bind (·.dst)with
  |none=>simp
  |some t=>
   simp only[Option.bind_some,Ht];by_cases c:t<fr.n
   ·have g:t<a.tmps.size:=l.1▸c;have f:=l.2 t;simp only[c,decide_true,we];have e:a.tmps[t]?=some (a.tmps.getD t undef):=by simp[g]
    rw[e];cases k:a.tmps.getD t undef with
    |bool b=>
     rw[k]at f;have:=uN f;rw[this];cases b<;>cases d<;>rfl
    |_=>
     rw[k]at f;cases m:fr.get t with
     |bool b=>rw[m]at f;simp[Ac]at f
     |_=>cases d<;>rfl
   ·have:a.tmps[t]?=none:=z7<|yf<|l.1▸c;simp[this,c]
def G0(p:Pl)(h:H)(w:World)(l:List (V×H))(e:Ending)(w':World):Prop:=
 ∃v h' v' p',(v,h')∈l/\e=.returned v'/\Ac p' v v'/\Ext p h w p' h' w'
structure DH.Ok(C:Ctx)(P:Program)(call:DH):Prop where
 fn:∀f args h l,call (.fn f args) h=some l->∀(p:Pl) (w:World) (args':Array Value),R p h w->Gl C p->At p args args'.toList->Calls P f args' w (G0 p h w l)
 rnd:∀b ls fr h l,call (.rnd b ls fr) h=some l->∀(p:Pl) (w:World) (k n:Nat) (f:FuncId) (tmps:Array Value),R p h w->Gl C p->h.get b=some (.loop ls)->p[b]?=some (k,n)->Fq p fr tmps->
  RoundIn yx 0 P k f tmps ls.asg ls.body w (G0 p h w l)
theorem Hm{o:Oper}{r:OR}(b:GI C fr h o=some r):∀c,o.op≠ .defer c:=by
 intro c e;rw[Dc]at b;unfold G1 at b;simp[e]at b
theorem F5{o:Oper}{r:OR}(b:IW C fr h o=some r):∀c,o.op≠ .defer c:=by
 intro c e;unfold IW at b;split at b
 case h_1=>rename_i hr;exact Hm hr c e
 case h_2=>rw[e]at b;cases b
theorem SK{p':Pl}{l:List (V×H)}{r:List (Fr×H)}{d:Option Nat}(hp:HR fr d l=some r)(o:CM p fr a){K:Act->World->Prop}
  (k:∀x∈r,∀p' b w',CM p' x.1 b->Ext p h w p' x.2 w'->b.defers=a.defers->K b w') {v:V} {h':H} {v':Value} {w':World} (s:(v,h')∈l) (m:Ac p' v v') (c:Ext p h w p' h' w'):K (a.put d v') w':=by
 obtain⟨f,g,q⟩:=OA hp v h' s;exact k _ q p' _ w' ((o.ext c).put m g) c (by cases d<;>rfl)
theorem aV(F:C.Ok P){call:DH}(r:call.Ok C P)(hr:R p h w)(A:Gl C p)(q:CM p fr a){ops:Array Oper}{i:Nat}{o:Oper}(S:ops[i]?=some o){l:List (Fr×H)}
  (d:step1 C call ops o fr h=some l) {ro:Option Nat} {n:Nat} {Q:Exit->Act->World->Prop} {K:Act->World->Prop}
  (D:∀x∈l,∀p' I w',CM p' x.1 I->Ext p h w p' x.2 w'->I.defers=a.defers->K I w'):wpOpIn (FW ro) n P ops Q i K a w:=by
 have y:∀v,(a.put o.dst v).defers=a.defers:=by intro v;cases o.dst<;>rfl
 unfold step1 at d;unfold wpOpIn;simp only[S];rw[Rm q];cases N:Bd fr ops o with
 |false=>
  simp only[N,wg]at d;simp only[z8,vg];refine⟨fun _ _=>trivial,?_⟩;split at d
  case h_2=>cases d
  rename_i E hp;cases d;exact D _ (zy.2 rfl) p _ w (q.put (by simp[Ac,undef]) hp) (zu hr)<|y _
 |true=>
  simp only[N,we]at d;simp only[wk];refine⟨fun _ _=>trivial,?_⟩;split at d
  case h_6=>cases d
  case h_1=>
   rename_i v O c;split at d
   case h_2=>cases d
   rename_i E hp;cases d;obtain⟨v',p',w',s,B,u⟩:=Lu F hr A q c;rw[yu _ _ _<|F5 c,s,Oper.uponIn_value];exact D _ (zy.2 rfl) p' _ w' ((q.ext u).put B hp) u<|y _
  case h_2=>
   rename_i O c;split at d
   case h_2=>cases d
   rename_i E hp;cases d;obtain⟨p',w',s,u⟩:=Lu F hr A q c;rw[yu _ _ _<|F5 c,s,Oper.uponIn_skip];exact D _ (zy.2 rfl) p' _ w' ((q.ext u).put (by simp[Ac,undef]) hp) u<|y _
  case h_3=>
   rename_i f args c;split at d
   case h_2=>cases d
   rename_i l1 M;obtain⟨args',s,B⟩:=Lu F hr A q c;rw[yu _ _ _<|F5 c,s,Oper.uponIn_enter];refine⟨fun h=>(by simp[FW,yx]at h),XR.2<|(r.fn f args h l1 M p w args' hr A B).mono ?_⟩;rintro e w' ⟨v,h',v',p',G,rfl,J,L⟩;exact SK d q D G J L
  case h_4=>
   rename_i b ls f c;split at d
   case h_2=>cases d
   rename_i l1 M;obtain⟨k,m,g,tmps,s,B,u,U⟩:=Lu F hr A q c;rw[yu _ _ _<|F5 c,u,Oper.uponIn_round];refine⟨fun h=>(by simp[FW,yx]at h),(AaL<|r.rnd b ls f h l1 M p w k m g tmps hr A B s U).mono ?_⟩;rintro e w' ⟨v,h',v',p',G,rfl,J,L⟩;exact SK d q D G J L
  case h_5=>
   rename_i l1 c;obtain⟨v,h',v',p',w',G,s,B,u⟩:=Lu F hr A q c;rw[yu _ _ _<|F5 c,s,Oper.uponIn_value];exact SK d q D G B u
theorem V3(D:C.Ok P){call:DH}(b:call.Ok C P){ops:Array Oper}{ro:Option Nat}{n:Nat}{Q:Exit->Act->World->Prop}:
  ∀(l:List Oper) (k:Nat),(∀j,l[j]?=ops[k+j]?)->∀ {p:Pl} {h:H} {w:World} {fr:Fr} {a:Act},R p h w->Gl C p->CM p fr a->∀ {L:List (Fr×H)},SN C call ops l fr h=some L->
  (∀x∈L,∀p' s w',CM p' x.1 s->Ext p h w p' x.2 w'->s.defers=a.defers->Q .normal s w')->wpOpsIn (FW ro) n P ops Q (List.range' k l.length) a w
 |[],k,_,p,h,w,fr,a,hr,A,q,L,d,u=>by
  cases d;exact u _ (zy.2 rfl) p a w q (zu hr) rfl
 |o::l,k,B,p,h,w,fr,a,hr,A,q,L,d,u=>by
  unfold SN at d;split at d
  case h_2=>cases d
  rename_i l1 G;rw[List.length_cons,List.range'_succ,wpOpsIn_cons];refine aV D b hr A q (by simpa using(B 0).symm) G (K:=wpOpsIn (FW ro) n P ops Q<|List.range' (k+1) l.length) fun x E O a1 S v c g=>?_
  obtain⟨L1,F,J⟩:=I9 d x E;exact V3 D b l (k+1) (fun j=>by have:=B<|j+1;simpa [Nat.add_assoc,Nat.add_comm 1 j]using this) c.rel (A.ext c) v F
   fun y N M a2 I r m f=>u y (J y N) M a2 I r (c.trans m)<|f.trans g
theorem Xw(k:C.Ok P){call:DH}(b:call.Ok C P){ops:Array Oper}{ro:Option Nat}{n:Nat}{Q:Exit->Act->World->Prop}(hr:R p h w)(f:Gl C p)(d:CM p fr a){L:List (Fr×H)}
  (g:SN C call ops ops.toList fr h=some L) {id:Nat}
  (l:∀x∈L,∀p' c w',CM p' x.1 c->Ext p h w p' x.2 w'->c.defers=a.defers->Q .normal c w'):(Code.region id ops false).wpIn (FW ro) n P Q a w:=by
 refine wpIn_region ?_;have:=V3 (Q:=Q) (ro:=ro) (n:=n) k b ops.toList 0 (fun j=>by simp) hr f d g l;rw[List.range_eq_range'];simpa using this
end
theorem JC{C:Ctx}{fr fr':Fr}:∀ {xs:List Operand},(∀x∈xs,ev C fr x=ev C fr' x)->R1 C fr xs=R1 C fr' xs
 |[],_=>rfl
 |x::xs,h=>by
  unfold R1;rw[h x (by simp),JC<|fun y b=>h y<|by simp[b]]
theorem Jl{C:Ctx}{fr fr':Fr}:∀ {xs:List (Nat×Operand)},(∀x∈xs,ev C fr x.2=ev C fr' x.2)->W8 C fr xs=W8 C fr' xs
 |[],_=>rfl
 |(i,x)::xs,h=>by
  unfold W8;rw[h (i,x) (by simp),Jl<|fun y b=>h y<|by simp[b]]
theorem Jg{C:Ctx}{fr fr':Fr}{x:Option Operand}(h:∀y,x=some y->ev C fr y=ev C fr' y):Wm C fr x=Wm C fr' x:=by
 cases x with
 |none=>rfl
 |some y=>simp[Wm,h y rfl]
theorem Z1{C:Ctx}{fr fr':Fr}{h:H}{o:Oper}(d:∀x∈o.op.operands,ev C fr x=ev C fr' x):GI C fr h o=GI C fr' h o:=by
 obtain⟨dst,op,q,pos,after,guard⟩:=o;cases op<;>simp only[Op.operands]at d<;>simp only[Dc,G1]
 case build t ps=>rw[Jl fun x g=>d x.2<|by simp;exact⟨x.1,by simpa using g⟩]
 case buildSlice t n ps=>rw[Jl fun x g=>d x.2<|by simp;exact⟨x.1,by simpa using g⟩]
 case makeFunc f first captured=>rw[JC (xs:=first.toList) fun x g=>d x (by simp at g ⊢;exact .inl g),JC (xs:=captured.toList) fun x g=>d x<|by simp at g ⊢;exact .inr g]
 case makeMap t r=>rw[Jg fun y k=>d y<|by simp[k]]
 case slice t x lo s mx=>
  rw[d x (by simp),Jg (x:=lo) fun y k=>d y (by simp[k]),Jg (x:=s) fun y k=>d y (by simp[k]),Jg (x:=mx) fun y k=>d y<|by simp[k]]
 case call c=>
  obtain⟨callee,args,ts⟩:=c;rw[JC (xs:=args.toList) (fr:=fr) (fr':=fr') fun x g=>d x<|by simp at g;simp[Call.operands,g]];cases callee with
  |value f=>
   have l:=d f (by simp[Call.operands]);cases R1 C fr' args.toList with
   |none=>rfl
   |some m=>simp only[l]
  |invoke f u=>
   have l:=d f (by simp[Call.operands]);cases R1 C fr' args.toList with
   |none=>rfl
   |some m=>simp only[l]
  |builtin b=>cases R1 C fr' args.toList<;>rfl
 all_goals (first|rfl|(simp_all;done))
def reads(ops:Array Oper)(o:Oper):List Tmp:=o.looksAt ops
theorem uI{C:Ctx}{fr fr':Fr}{x:Operand}(h:∀t,x=.tmp t->fr.get t=fr'.get t):ev C fr x=ev C fr' x:=by
 cases x with
 |tmp t=>simp only[ev,h t rfl]
 |_=>rfl
theorem mem_reads{ops:Array Oper}{o:Oper}{t:Tmp}(h:Operand.tmp t∈o.op.operands):t∈reads ops o:=
 List.mem_append_left _ (List.mem_filterMap.2 ⟨.tmp t,by simpa using h,rfl⟩)
theorem SL{fr fr':Fr}{ops:Array Oper}{o:Oper}(c:fr.n=fr'.n)(h:∀t∈reads ops o,fr.get t=fr'.get t):Bd fr ops o=Bd fr' ops o:=by
 unfold Bd;cases f:o.guard with
 |none=>rfl
 |some g=>
  obtain⟨j,b⟩:=g;simp only;cases d:(ops[j]?).bind (·.dst)with
  |none=>rfl
  |some t=>
   simp only[c];rw[h t<|yo _<|by simp[f,d]]
def QA(l:List Tmp)(fr:Fr):Fr:=⟨fr.n,l.foldr (fun t m=>m.set t<|some<|fr.get t) .leaf⟩
def Ix(l:List Tmp)(a:Act):Act:={ a with tmps:=Array.ofFn (n:=a.tmps.size) fun t=>if l.contains t.1 then a.tmps.getD t undef else undef }
theorem MQ(l:List Tmp)(fr:Fr)(t:Tmp):(QA l fr).get t=if t∈l then fr.get t else .tup []:=by
 unfold QA Fr.get;induction l with
 |nil=>simp
 |cons x l b=>
  simp only[List.foldr_cons,PM.Dm,qn];by_cases e:t=x
  ·subst e;simp
  ·simp only[e,vg,false_or];exact b
theorem MH(l:List Tmp)(a:Act)(t:Tmp):(Ix l a).tmps.getD t undef=if t∈l then a.tmps.getD t undef else undef:=by
 unfold Ix;by_cases h:t<a.tmps.size
 ·simp[h]
 ·simp only[zr];rw[z7 (by simpa using yf h),z7<|yf h];simp
section
variable {C:Ctx}{P:Program}{p:Pl}{h:H}{w:World}{fr:Fr}{a:Act}
structure FOn(p:Pl)(fr:Fr)(a:Act)(l:List Tmp):Prop where
 n:fr.n=a.tmps.size
 get:∀t∈l,Ac p (fr.get t) (a.tmps.getD t undef)
theorem FOn.OM{l:List Tmp}(c:FOn p fr a l):CM p (QA l fr) (Ix l a):=by
 refine⟨by simp[QA,Ix,c.n],fun t=>?_⟩;rw[MQ,MH];by_cases b:t∈l
 ·simp only[b,wk];exact c.get t b
 ·simp only[b,vg];simp[Ac,undef]
theorem Jm{ops:Array Oper}{o:Oper}{x:Operand}(b:x∈o.op.operands):(Ix (reads ops o) a).eval x=a.eval x:=by
 cases x with
 |tmp t=>
  have:=MH (reads ops o) a t;rw[wd<|mem_reads b]at this;exact this
 |_=>rfl
theorem T3{ops:Array Oper}{o:Oper}{x:Operand}(c:x∈o.op.operands):ev C (QA (reads ops o) fr) x=ev C fr x:=by
 refine uI fun t b=>?_
 subst b;rw[MQ,wd<|mem_reads c]
theorem Jn(m:C.Ok P)(hr:R p h w)(k:Gl C p){ops:Array Oper}{o:Oper}(g:FOn p fr a (reads ops o))(f:∀cs b,o.op≠ .select cs b){r:OR}(l:GI C fr h o=some r):
  Sm p h w r ((execOp a.eval o).run P w):=by
 have d:=mS m hr k g.OM (o:=o) (r:=r) (by rw[Z1 (fr':=fr) fun x c=>T3 c];exact l);rwa [execOp_congr o f fun x c=>Jm c]at d
theorem Re{ops:Array Oper}{o:Oper}(k:FOn p fr a (reads ops o)):qc o (yielded ops a.tmps)=Bd fr ops o:=by
 have d:=Rm k.OM ops o;rw[SL (fr:=QA (reads ops o) fr) (fr':=fr) (ops:=ops) (o:=o) rfl fun t c=>by rw[MQ,wd c]]at d;rw[<-d];unfold qc;cases l:o.guard with
 |none=>rfl
 |some r=>
  obtain⟨j,f⟩:=r;simp only;congr 1;unfold yielded;cases g:(ops[j]?).bind (·.dst)with
  |none=>rfl
  |some t=>
   simp only[Option.bind_some];have c:t∈reads ops o:=yo _ (by simp[l,g]);have:=MH (reads ops o) a t;rw[wd c]at this;by_cases b:t<a.tmps.size
   ·have q:a.tmps[t]?=some (a.tmps.getD t undef):=by simp[b]
    have m:(Ix (reads ops o) a).tmps[t]?=some ((Ix (reads ops o) a).tmps.getD t undef):=by simp[Ix,b]
    rw[q,m,this]
   ·rw[z7<|yf b,z7<|by simpa [Ix]using yf b]
end
def EG(o:Oper):Bool:=
 match o.op with
 | .move _| .assign _| .pick .. | .build .. | .load .. | .nilCheck _| .binOp .. | .unOp .. | .convert .. | .makeInterface .. | .makeFunc .. | .slice .. | .fieldAddr .. | .field .. | .indexAddr .. | .index .. | .lookup .. | .extract .. =>true
 | .call { callee:=.builtin .len,.. }| .call { callee:=.builtin .max,.. }| .call { callee:=.builtin .min,.. }| .call { callee:=.builtin .unsafeSliceData,.. }=>true
 |_=>false
def PN(o:Oper):Bool:=
 match o.op with
 | .load .. | .convert .. | .lookup .. =>true
 | .call { callee:=.builtin .len,.. }=>true
 |_=>false
def CA(o:Oper):Bool:=
 match o.op with
 | .alloc _| .box .. | .buildSlice .. =>true
 |_=>false
theorem GQ{h:H}{v:Option V}{r:OR}(b:Bx h v=some r):∃x,v=some x/\r=.val x h:=by
 cases v with
 |none=>cases b
 |some x=>cases b;exact⟨x,rfl,rfl⟩
theorem rd_val{C:Ctx}{fr:Fr}{h:H}{o:Oper}(g:EG o=true){r:OR}(d:GI C fr h o=some r):∃v,r=.val v h:=by
 obtain⟨dst,op,k,pos,after,guard⟩:=o;cases op<;>simp only[EG]at g<;>simp only[Dc,G1]at d<;>try (cases g;done)
 case call c=>
  obtain⟨callee,args,ts⟩:=c;cases callee with
  |builtin b=>
   cases l:R1 C fr args.toList with
   |none=>simp[l]at d
   |some m=>
    simp only[l]at d;cases b<;>first|(cases g;done)|(simp only[EC]at d;obtain⟨x,_,rfl⟩:=GQ d;exact⟨x,rfl⟩)
  |value f=>cases g
  |invoke=>cases g
 all_goals
  repeat' split at d
  all_goals first
   |(cases d;done)
   |(obtain⟨x,_,rfl⟩:=GQ d;exact⟨x,rfl⟩)
theorem oD{C:Ctx}{fr:Fr}{h:H}{o:Oper}(g:EG o=true)(k:PN o=false){v:V}(d:GI C fr h o=some (.val v h))(h':H):GI C fr h' o=some (.val v h'):=by
 have key:∀ {x:Option V},Bx h x=some (.val v h)->Bx h' x=some (.val v h'):=by
  intro x q;obtain⟨y,rfl,e⟩:=GQ q;cases e;rfl
 obtain⟨dst,op,l,pos,after,guard⟩:=o;cases op<;>simp only[EG]at g<;>simp only[PN]at k<;>simp only[Dc,G1]at d ⊢<;>try (first|(cases g;done)|(cases k;done))
 case call c=>
  obtain⟨callee,args,ts⟩:=c;cases callee with
  |builtin b=>
   cases m:R1 C fr args.toList with
   |none=>simp[m]at d
   |some r=>
    simp only[m]at d ⊢;cases b<;>first|(cases g;done)|(cases k;done)|(simp only[EC]at d ⊢;exact key d)
  |value f=>cases g
  |invoke=>cases g
 all_goals
  repeat' split at d
  all_goals first
   |(cases d;done)
   |exact key d
   |(simp only[*];exact key d)
end Go.Det
