import Derived.Test.YtlohiljbghionaaGreatDoorX01
import Derived.IntWalk
import Derived.Laws.IdiomStrings
import Derived.Lib.UnsafeStr
import Derived.Lib.Builder
import Derived.RangeFuncRecord
import Derived.LoopNIn
import Derived.OrdersIn
import Derived.RangeFuncLeaves
/- A part of a proof; no law is stated here. -/
noncomputable section
open Go.Result renaming andThen_ok -> zc
open Go.Sem renaming run_bind -> zd, run_pure -> zf, run -> yd
open Option.some renaming injEq -> ze
open Option renaming map_eq_some_iff -> zg, map_some -> yw
open Nat renaming beq -> zh, blt -> zl, ble -> zt, mul_le_mul_right -> zz, ble_eq -> yb, le_of_not_lt -> yf, le_refl -> yi, blt_eq -> yp, add_mul -> qj, zero_add -> qo
open Go.Builtin renaming zeroCells -> zi, firstCells -> zk, append_ -> z6, nextslicecap -> ya, growBy -> ym, lenOf -> yr
open Array renaming getElem?_setIfInBounds_ne -> zj, toList_inj -> zm, getElem?_toList -> zn, getD_eq_getD_getElem? -> zr, getElem?_eq_none -> z7, size_append -> yy
open Prod.mk renaming injEq -> zo
open List renaming getElem?_take_of_lt -> zp, getElem?_eq_some_iff -> zx, mem_singleton -> zy, getElem?_map -> yc, getElem?_append_left -> yg, length_append -> yh, getElem?_cons_zero -> yj, getElem?_cons_succ -> yk, getElem?_toArray -> yn, mem_append_right -> yo, size_toArray -> yz, length_eq_zero_iff -> qd, all_cons -> qm, mem_cons -> qn
open Bool renaming and_eq_true -> zq, false_eq_true -> z8, or_eq_true -> qh
open Go.Det.Ext renaming refl -> zu, push -> qe, drew -> qi, put -> ql
open Go.Instr renaming sameBits -> zw, findAsking -> yq, findNow -> yt, range -> y7, sameNow -> y8, findKey -> y9, next -> qf, lookup -> qg, checkKey -> qk
open Go.Deferred renaming ofValue -> ye
open Go.Oper renaming semAt_eq -> yu
open Go.Question renaming forced -> yv
open Go.Fence renaming wide -> yx
open Go.Region renaming wanted -> qc
namespace Go.Det
section
variable {T:Ce}{P:Program}{p:Pl}{h:H}{w:World}
def P8(T:Ce)(h:H)(t:TypeId)(len cap:V):Option (V×H):=
 match T.und t,len,cap with
 |some (.slice e),.int _<|.ofNat l,.int _ (.ofNat c)=>
  match T.inf e with
  |some i=>
   bif zt l c&&zl c 9223372036854775808&&zt (i.bytes*c) 281474976710656&&zl 0 i.zero.length&&zh i.zero.length i.size then
    some (.sl h.nx 0 l c 0,Jn h e<|Fy i.zero<|c*i.size)
   else none
  |none=>none
 |_,_,_=>none
theorem wrap_small(c:Nat)(h:c<9223372036854775808):IntKind.i64.wrap (c:Int)=c:=IntWalk.i64_in _ ae
theorem pU(m:T.Ok P)(hr:R p h w){t:TypeId}{len cap:V}{g d:Value}(u:Ac p len g)(s:Ac p cap d){v:V}{h':H}(f:P8 T h t len cap=some (v,h')):
  ∃v' p' w',(Instr.makeSlice t g d).run P w=.ok v' w'/\Ac p' v v'/\Ext p h w p' h' w':=by
 unfold P8 at f;split at f
 case h_2=>cases f
 rename_i e k l E c B;split at f
 case h_2=>cases f
 rename_i i r;cases b:(zt l c&&zl c 9223372036854775808&&zt (i.bytes*c) 281474976710656&&zl 0 i.zero.length&&zh i.zero.length i.size)with
 |false=>simp[b]at f
 |true=>
  simp only[b,we,ze,zo]at f;obtain⟨rfl,rfl⟩:=f;simp only[zq,yb,yp,Bw,w5]at b;obtain⟨⟨⟨⟨c1,c2⟩,c3⟩,c4⟩,c5⟩:=b;simp only[Ac]at u s;subst u s;obtain⟨z,hz,hzr⟩:=EH m r;obtain⟨j,hj,hjb,_⟩:=Px m r;obtain⟨n,he,hpn,hn⟩:=OE hr e<|J5 (hzr p) c4<|c*i.size;refine⟨.slice (some ⟨w.heap.size,0,none⟩) l c,_,_,?_,?_,he⟩
  ·unfold Instr.makeSlice asInt asIntOf;simp only[zd,zf,AA m B,zc,hj,Int.ofNat_eq_natCast,wrap_small c c2,wrap_small l ae,hjb];have y:(i.bytes:Int)*(c:Int)=((i.bytes*c:Nat):Int):=(Int.natCast_mul _ _).symm;rw[y];generalize i.bytes*c=q at c3 y ⊢;have D:¬((decide ((c:Int)<0)||decide ((q:Int)>2^48))||decide ((l:Int)<0)||decide ((l:Int)>(c:Int)))=true:=by
    simp;omega
   rw[wc D];simp only[zd,zc,run_askRoom,BE m r,Int.toNat_natCast];by_cases h0:c*i.size=0
   ·rw[wd h0];have A:(Array.map (fun x=>(#[]:Array Value)[x % (#[]:Array Value).size]!)<|Array.range<|c*i.size)=Array.map (fun o=>z.cells[o % z.cells.size]!) (Array.range<|c*i.size):=by simp[h0]
    simp only[zd,zf,zc,CD];rw[A]
   ·rw[wc h0];simp only[zd,hz,zf,zc,CD]
  ·simp only[Ac];exact⟨_,n,c,hpn,rfl,c1,yi _,fun _=>rfl,by simp⟩
def src(h:H)(size:Nat)(x:V)(n:Nat):Option (List V):=
 match x with
 | .nils=>some []
 | .esl=>bif zh n 0 then some []else none
 | .es0=>bif zh n 0 then some []else none
 | .sl b off _ _ _=>rd h b off<|n*size
 | .str s=>some<|(s.take n).map fun c=>.int .u8 c.toNat
 |_=>none
def QC:V->Option Nat
 | .nils=>some 0
 | .esl=>some 0
 | .es0=>some 0
 | .sl _ _ len _ _=>some len
 | .str s=>some s.length
 |_=>none
theorem P4{x:V}{x':Value}(b:Ac p x x'){n:Nat}(c:QC x=some n):(yr x').run P w=.ok n w:=by
 unfold QC at c;split at c
 case h_1=>simp only[Ac]at b;subst b;cases c;rfl
 case h_2=>simp only[Ac]at b;obtain⟨_,_,rfl⟩:=b;cases c;rfl
 case h_3=>simp only[Ac]at b;obtain⟨_,rfl⟩:=b;cases c;rfl
 case h_4=>simp only[Ac]at b;obtain⟨_,_,_,_,rfl,_⟩:=b;cases c;rfl
 case h_5=>simp only[Ac]at b;subst b;cases c;simp[yr,BP]
 case h_6=>cases c
theorem Lr(hr:R p h w){size n:Nat}{x:V}{x':Value}(f:Ac p x x'){cs:List V}(b:src h size x n=some cs):
  ∃vs:List Value,(zk size n x').run P w=.ok vs.toArray w/\Ax p cs vs:=by
 unfold src at b;split at b
 case h_6=>cases b
 case h_1=>simp only[Ac]at f;subst f;cases b;exact⟨[],rfl,by simp⟩
 case h_2=>
  simp only[Ac]at f;obtain⟨a,c,rfl⟩:=f;rw[Bw]at b;by_cases e:n=0
  ·subst e;simp only[decide_true,we,ze]at b;subst b;exact⟨[],by simp[zk,loadCells,loadCellsFrom],by simp⟩
  ·simp[e]at b
 case h_3=>
  simp only[Ac]at f;obtain⟨a,rfl⟩:=f;rw[Bw]at b;by_cases e:n=0
  ·subst e;simp only[decide_true,we,ze]at b;subst b;exact⟨[],by simp[zk,loadCells,loadCellsFrom],by simp⟩
  ·simp[e]at b
 case h_4=>
  simp only[Ac]at f;obtain⟨r,m,c,hp,rfl,_⟩:=f;obtain⟨r',m',vs,g,k,h3,_⟩:=run_loadCells (P:=P) hr b;rw[hp]at g;cases g;exact⟨vs,k,h3⟩
 case h_5=>
  rename_i s;simp only[Ac]at f;subst f;cases b;refine⟨(s.take n).map fun c=>.int .u8 c.toNat,?_,?_⟩
  ·simp only[zk,zf];congr 1;apply Array.ext';simp[bytesOf,List.extract]
  ·apply Ax.mk (by simp);intro i d v g k;simp only[yc]at g k;cases l:(s.take n)[i]? with
   |none=>simp[l]at g
   |some q=>simp[l]at g k;subst g k;simp[Ac]
theorem RP(b:Nat):∀(r c:Nat),c<b->2*ym b r c<=3*b+2000
 |0,c,h=>by simp[ym];omega
 |r+1,c,h=>by
  unfold ym;rw[wc ae];by_cases d:c+(c+768)/4<b
  ·exact RP b r _ d
  ·cases r with
   |zero=>simp[ym];omega
   |succ r=>unfold ym;rw[wd ae];omega
theorem WZ(b c:Nat)(h:c<b):2*ya b c<=3*b+2000:=by
 unfold ya;split
 ·omega
 ·split
  ·omega
  ·exact RP b 4 c h
def isInt:TypeDesc->Bool
 | .int _=>true
 |_=>false
def PH:V->Bool
 | .str _=>false
 |_=>true
def GS(T:Ce)(h:H)(ts:Array TypeId)(args:List V):Option (V×H):=
 match ts[0]?,ts[1]?,args with
 |some t,some tx,[s,x]=>
  match T.und t,T.und tx,QC x with
  |some (.slice e),some dx,some n=>
   match T.inf e,isInt dx with
   |some i,false=>
    bif zl 0 i.bytes&&zl 0 i.size&&zh i.zero.length i.size&&(zh i.size 1||PH x)then
     match src h i.size x n with
     |some new=>
      match s with
      | .nils=>
       bif zh n 0 then some (.nils,h)
       else bif zt ((3*n+2000)*i.bytes) 562949953421312 then some (.sl h.nx 0 n n i.size,Jn h e new)else none
      | .es0=>
       bif zh n 0 then some (.es0,h)
       else bif zt ((3*n+2000)*i.bytes) 562949953421312 then some (.sl h.nx 0 n n i.size,Jn h e new)else none
      | .esl=>bif zh n 0 then some (.esl,h)else none
      | .sl b off len cap o=>
       bif zt (len+n) cap then(wr h b (off+len*i.size) new).map fun h'=>(.sl b off (len+n) cap o,h')
       else bif zt ((3*(len+n)+2000)*i.bytes) 562949953421312 then
        match src h i.size s len with
        |some old=>
         bif zh o 0 then some (.sl h.nx 0 (len+n) (len+n) i.size,Jn h e<|old++new)
         else
          match h.get b with
          |some (.cells _ te fz)=>
           bif zh off 0&&zh o i.size&&zh te e&&zt fz.2 fz.1&&new.all V.one then some (.sl h.nx 0 (len+n) (len+n) i.size,(h.kill b).push<|.cells (old++new) e (0,0))
           else none
          |_=>none
        |none=>none
       else none
      |_=>none
     |none=>none
    else none
   |_,_=>none
  |_,_,_=>none
 |_,_,_=>none
theorem RW{old new:List V}{vo vn:List Value}(d:Ax p old vo)(c:Ax p new vn)(b:Array Value):
  Ax p (old++new) ((vo.toArray++vn.toArray++b).toList.take (old++new).length):=by
 have l1:=d.length;have f:=c.length;have:((vo.toArray++vn.toArray++b).toList.take (old++new).length)=vo++vn:=by
  simp only[Array.toList_append,yh,l1,f];rw[List.take_append_of_le_length<|by simp];rw[List.take_of_length_le<|by simp]
 rw[this];exact d.append c
section
variable {ts:Array TypeId}{t t0 tx e:TypeId}{dx:TypeDesc}{i:TI}{n:Nat}{x' z:Value}{j:TypeInfo}
theorem Rl(f:T.Ok P)(g:ts[0]?=some t0)(m:ts[1]?=some tx)(r:T.und t0=some (.slice e))(o:T.und tx=some dx)(k:isInt dx=false)
  (s:T.inf e=some i) (q:∀w,(yr x').run P w=.ok n w) (base:Option Addr) (d c:Nat) (l:d+n<=c):
  (z6 ts t #[.slice base d c,x']).run P w=((zk i.size n x').run P w).andThen fun new w'=>((match base with|some a=>storeCells (a.add<|d*i.size) new.toList|none=>pure ():Sem Unit).run P w').andThen fun _ w'=>.ok (.slice base (d+n) c) w':=by
 unfold z6;cases dx<;>first|(cases k;done)|skip
 all_goals
  simp only[g,m,yn,yj,yk,zd,AA f r,AA f o,BE f s,zc,zf,z8,vg,q,l,wk,Bool.not_false];cases base with
  |none=>rfl
  |some b=>simp only[zd,zf]
theorem Sc(g:T.Ok P)(l:ts[0]?=some t0)(s:ts[1]?=some tx)(E:T.und t0=some (.slice e))(u:T.und tx=some dx)(o:isInt dx=false)
  (v:T.inf e=some i) (x:0<i.bytes) (F:∀w,(zeroValue e).run P w=.ok z w) (B:∀w,(yr x').run P w=.ok n w) (base:Option Addr) (b c:Nat) (q:c<b+n)
  (d:(3*(b+n)+2000)*i.bytes<=562949953421312):
  ∃m,b+n<=m/\(z6 ts t #[.slice base b c,x']).run P w=((zk i.size b<|.slice base b c).run P { w with drawn:=w.drawn+1 }).andThen fun old w'=>
   ((zk i.size n x').run P w').andThen fun new w'=>
    .ok (.slice (some ⟨w'.heap.size,0,none⟩) (b+n) m) { w' with heap:=w'.heap.push (.cells (old++new++zi z.cells (m-(b+n))) e) }:=by
 obtain⟨j,J,r,D⟩:=Px g v;have k:=WZ (b+n) c q;have f:2*ya (b+n) c*i.bytes<=562949953421312:=Nat.le_trans (zz _ k) d;rw[Nat.mul_assoc]at f;have G:ya (b+n) c*i.bytes<=281474976710656:=ae
 refine⟨(Question.appendCap (b+n) c e).cut<|w.tape w.drawn<|.appendCap (b+n) c e,by simp[Question.cut],?_⟩;unfold z6;have y:¬(b+n<=c):=ae
 have A:¬(ya (b+n) c*i.bytes>2^48):=ae
 have I:¬(i.bytes=0):=ae
 cases dx<;>first|(cases o;done)|skip
 all_goals
  simp only[l,s,yn,yj,yk,zd,AA g E,AA g u,BE g v,zc,zf,z8,vg,B,Bool.not_false,wk,
   y,J,r,I,or_self,and_false,A,run_choose,yv,run_askRoom,F,CD]
end
theorem Jh(z:Array Value)(n:Nat):(zi z n).size=n*z.size:=by simp[zi]
theorem P3{size n:Nat}{x:V}{cs:List V}(c:QC x=some n)(d:size=1\/∀s,x≠ .str s)(b:src h size x n=some cs):cs.length=n*size:=by
 unfold src at b;split at b
 case h_6=>cases b
 case h_1=>cases b;cases c;simp
 case h_2=>
  cases c;cases b;simp
 case h_3=>
  cases c;cases b;simp
 case h_4=>
  rw[Zz]at b;unfold rd0 at b;split at b
  case h_2=>cases b
  split at b
  case isFalse=>cases b
  cases b;simp;omega
 case h_5=>
  rename_i s;cases b;cases c;rcases d with rfl|d
  ·simp
  ·exact wh rfl (d s)
theorem X5(hT:T.Ok P)(hr:R p h w){ts:Array TypeId}{t:TypeId}{args:List V}{args':Array Value}(ha:Ax p args args'.toList){v:V}{h':H}(f:GS T h ts args=some (v,h')):
  ∃v' p' w',(z6 ts t args').run P w=.ok v' w'/\Ac p' v v'/\Ext p h w p' h' w':=by
 unfold GS at f;split at f
 case h_2=>cases f
 rename_i t0 tx s x Z htx;obtain⟨s',x',G,hs,hx⟩:=ha.two;have ha0:args'[0]?=some s':=by rw[<-zn,G];rfl
 have ha1:args'[1]?=some x':=by rw[<-zn,G];rfl
 split at f
 case h_2=>cases f
 rename_i e dx n hu W M;split at f
 case h_2=>cases f
 rename_i i hi S;cases B:(zl 0 i.bytes&&zl 0 i.size&&zh i.zero.length i.size&&(zh i.size 1||PH x))with
 |false=>simp[B]at f
 |true=>
  simp only[B,we]at f;simp only[zq,yp,Bw,w5,qh]at B;obtain⟨⟨⟨c1,c2⟩,c3⟩,c4⟩:=B;have c5:i.size=1\/∀s,x≠ .str s:=c4.imp id (fun h s e=>by subst e;cases h);split at f
  case h_2=>cases f
  rename_i new K;have X:=P3 M c5 K;obtain⟨vn,hvn,E⟩:=Lr (P:=P) hr hx K;obtain⟨j,hj,hjb,hjs⟩:=Px hT hi;obtain⟨z,hz,hzr⟩:=EH hT hi;have hzl:=(hzr p).length;simp at hzl;have hne:args'= #[s',x']:=by apply Array.ext';simpa using G
  subst hne;have y:∀w,(yr x').run P w=.ok n w:=fun w=>P4 hx M
  have J:∀(base:Option Addr) (c:Nat),n=0->(z6 ts t #[.slice base 0 c,x']).run P w=.ok (.slice base 0 c) w:=by
   intro base c h0;rw[Rl hT Z htx hu W S hi y base 0 c ae,hvn];have hv0:vn=[]:=by
    have h1:=E.length;rw[X,h0,Nat.zero_mul]at h1;exact qd.1 h1.symm
   subst hv0;cases base<;>simp[h0,storeCells]
  have U:∀(base:Option Addr),¬n=0->(3*n+2000)*i.bytes<=562949953421312->∃v' p' w',(z6 ts t #[.slice base 0 0,x']).run P w=.ok v' w'/\Ac p' (.sl h.nx 0 n n i.size) v'/\Ext p h w p' (Jn h e new) w':=by
   intro base h0 F;obtain⟨D,hnc,L⟩:=Sc (w:=w) (t:=t) hT Z htx hu W S hi c1 hz y base 0 0 ae (by simpa using F);simp only[qo]at L hnc;have l:=qi hr<|w.drawn+1;obtain⟨vn',hvn',hvnr'⟩:=Lr (P:=P) l.rel hx K;have O:=qe (n:=D*i.size) l.rel (o:=.cells new e (0,0)) (x:=.cells (#[]++vn'.toArray++zi z.cells (D-n)) e) ?_
   ·refine⟨.slice (some ⟨w.heap.size,0,none⟩) n D,_,_,?_,?_,l.trans O⟩
    ·rw[L];have hf:∀w,(zk i.size 0<|Value.slice base 0 0).run P w=.ok #[] w:=by
      intro w;cases base<;>simp[zk,loadCells,loadCellsFrom]
     simp only[hf,zc,hvn']
    ·simp only[Ac];refine⟨w.heap.size,D*i.size,D,by rw[<-hr.len];simp,rfl,yi _,by omega,fun h=>by omega,fun _=>by omega⟩
   ·have hl:=hvnr'.length;have hsz:(#[]++vn'.toArray++zi z.cells (D-n)).size=D*i.size:=by
     have:vn'.length=n*i.size:=ae
     simp only[yy,Jh,yz,yz,this, <-hzl,c3,Nat.sub_mul];have:n*i.size<=D*i.size:=zz _ ae;simp;omega
    refine⟨_,(0,0),rfl,hsz,?_,?_,fun i _ h1 h2=>⟨h1,h2⟩⟩
    ·rw[X];exact zz _ ae
    ·have:=RW (p:=p) (old:=[]) (vo:=[]) (by simp) hvnr'<|zi z.cells<|D-n;simpa using this.toC
  split at f
  case h_5=>cases f
  case h_1=>
   simp only[Ac]at hs;subst hs;rw[Bw]at f;by_cases h0:n=0
   ·simp only[h0,decide_true,we,ze,zo]at f;obtain⟨rfl,rfl⟩:=f;exact⟨.slice none 0 0,p,w,J none 0 h0,by simp[Ac],zu hr⟩
   ·simp only[h0,decide_false,wg]at f;cases F:zt ((3*n+2000)*i.bytes) 562949953421312 with
    |false=>simp[F]at f
    |true=>
     simp only[F,we,ze,zo]at f;obtain⟨rfl,rfl⟩:=f;rw[yb]at F;exact U none h0 F
  case h_2=>
   simp only[Ac]at hs;obtain⟨a0,rfl⟩:=hs;rw[Bw]at f;by_cases h0:n=0
   ·simp only[h0,decide_true,we,ze,zo]at f;obtain⟨rfl,rfl⟩:=f;exact⟨_,p,w,J (some a0) 0 h0,by simp[Ac],zu hr⟩
   ·simp only[h0,decide_false,wg]at f;cases F:zt ((3*n+2000)*i.bytes) 562949953421312 with
    |false=>simp[F]at f
    |true=>
     simp only[F,we,ze,zo]at f;obtain⟨rfl,rfl⟩:=f;rw[yb]at F;exact U (some a0) h0 F
  case h_3=>
   simp only[Ac]at hs;obtain⟨a0,c0,rfl⟩:=hs;rw[Bw]at f;by_cases h0:n=0
   ·simp only[h0,decide_true,we,ze,zo]at f;obtain⟨rfl,rfl⟩:=f;exact⟨_,p,w,J (some a0) c0 h0,by simp[Ac],zu hr⟩
   ·simp[h0]at f
  case h_4=>
   rename_i b off len cap o;simp only[Ac]at hs;obtain⟨r,m,c,hp,rfl,hlen,hcap,ho1,ho2⟩:=hs;cases Q:zt (len+n) cap with
   |true=>
    simp only[Q,we,zg,zo]at f;obtain⟨h1,hw,rfl,rfl⟩:=f;rw[yb]at Q;obtain⟨r',m',w',g1,g2,g3⟩:=Ub (P:=P) hr E hw;rw[hp]at g1;cases g1;refine⟨.slice (some ⟨r,off,none⟩) (len+n) c,p,w',?_,?_,g3⟩
    ·rw[Rl hT Z htx hu W S hi y _ len c ae,hvn];simp only[zc,Addr.H2,g2]
    ·simp only[Ac];exact⟨r,m,c,hp,rfl,Q,hcap,ho1,ho2⟩
   |false=>
    simp only[Q,wg]at f;have hle':¬(len+n<=cap):=by rw[<-yb,Q];simp
    cases F:zt ((3*(len+n)+2000)*i.bytes) 562949953421312 with
    |false=>simp[F]at f
    |true=>
     simp only[F,we]at f;rw[yb]at F;split at f
     case h_2=>cases f
     rename_i old g;have hol:=P3 (x:=.sl b off len cap o) (n:=len) rfl (.inr<|fun s e=>by cases e) g;have hsrel:∀q:Pl,(∃q',q=p++q')->Ac q (.sl b off len cap o) (.slice (some ⟨r,off,none⟩) len c):=by
      rintro q ⟨q',rfl⟩;exact Ac.mono q' (by simp only[Ac];exact⟨r,m,c,hp,rfl,hlen,hcap,ho1,ho2⟩)
     have fresh:∀(_:c<len+n) (h2:H),R p h2 { w with drawn:=w.drawn+1 }->h2.nx=h.nx->
       ∃v' p' w',(z6 ts t #[.slice (some ⟨r,off,none⟩) len c,x']).run P w=.ok v' w'/\Ac p' (.sl h.nx 0 (len+n) (len+n) i.size) v'/\
        Ext p h2 { w with drawn:=w.drawn+1 } p' (h2.push<|.cells (old++new) e (0,0)) w':=by
      intro hlt h2 hr2 hnx;obtain⟨D,hnc,L⟩:=Sc (w:=w) (t:=t) hT Z htx hu W S hi c1 hz y (some ⟨r,off,none⟩) len c hlt F;have l:=qi hr<|w.drawn+1;obtain⟨vn',hvn',hvnr'⟩:=Lr (P:=P) l.rel hx K;obtain⟨vo',hvo',hvor'⟩:=Lr (P:=P) (x:=.sl b off len cap o) l.rel (hsrel p ⟨[],by simp⟩) g;have hl:=hvnr'.length;have hl2:=hvor'.length;have hsz:(vo'.toArray++vn'.toArray++zi z.cells (D-(len+n))).size=D*i.size:=by
       have e1:vn'.length=n*i.size:=ae
       have e2:vo'.length=len*i.size:=ae
       simp only[yy,Jh,yz,e1,e2, <-hzl,c3,Nat.sub_mul,qj];have:(len+n)*i.size<=D*i.size:=zz _ ae;rw[qj]at this;omega
      have O:=qe (n:=D*i.size) hr2 (o:=.cells (old++new) e (0,0)) (x:=.cells (vo'.toArray++vn'.toArray++zi z.cells (D-(len+n))) e)
       ⟨_,(0,0),rfl,hsz,by rw[yh,hol,X, <-qj];exact zz _ ae,(RW hvor' hvnr' _).toC,fun i _ h1 h2=>⟨h1,h2⟩⟩
      refine⟨.slice (some ⟨w.heap.size,0,none⟩) (len+n) D,_,_,?_,?_,O⟩
      ·rw[L,hvo'];simp only[zc,hvn']
      ·simp only[Ac];refine⟨w.heap.size,D*i.size,D,?_,rfl,yi _,by omega,fun h=>by omega,fun _=>by omega⟩;rw[<-hnx, <-hr2.len];simp
     rw[Bw]at f;by_cases h0:o=0
     ·simp only[h0,decide_true,we,ze,zo]at f;obtain⟨rfl,rfl⟩:=f;have:=ho1 h0;have l:=qi hr<|w.drawn+1;obtain⟨v',p',w',k1,k2,k3⟩:=fresh ae h l.rel rfl;exact⟨v',p',w',k1,k2,l.trans k3⟩
     ·simp only[h0,decide_false,wg]at f;split at f
      case h_2=>cases f
      rename_i cs te fz hbk;cases hc2:(zh off 0&&zh o i.size&&zh te e&&zt fz.2 fz.1&&new.all V.one)with
      |false=>simp[hc2]at f
      |true=>
       simp only[hc2,we,ze,zo]at f;obtain⟨rfl,rfl⟩:=f;simp only[zq,yb,Bw,w5,List.all_eq_true]at hc2;obtain⟨⟨⟨⟨rfl,rfl⟩,rfl⟩,d4⟩,d5⟩:=hc2;by_cases Y:len+n<=c
       ·
        obtain⟨r',m',cc,fz',g1,g2,g3,g4,g5,g6,g7⟩:=cell_of hr hbk;rw[hp]at g1;cases g1;have hm:=ho2 h0;have hl:=E.length;have hone:∀v∈vn,v.oneCell'=true:=by
         intro v hv;obtain⟨k,hk⟩:=List.mem_iff_getElem?.1 hv;have hk':=(zx.1 hk).1;obtain⟨u,I,N⟩:=E.get (i:=k) (d:=new[k]'ae) (by simp);rw[hk]at I;cases I;exact N.one<|d5 _<|List.getElem_mem _
        have hbnd:len*i.size+n*i.size<=c*i.size:=by rw[<-qj];exact zz _ Y
        obtain⟨cc',k1,k2,k3⟩:=Gs (P:=P) vn w cc (len*i.size) 0 g2 ae hone (by
         rintro k _ hk ⟨q1,q2⟩;have:=g7 (len*i.size+k) ae q1 q2;omega)
        have hrd:old=cs.take (len*i.size)/\len*i.size<=cs.length:=by
         unfold src at g;simp only[Zz]at g;unfold rd0 at g;simp only[hbk,qo,List.drop_zero]at g;split at g
         ·rename_i hc0;cases g;exact⟨rfl,hc0.1⟩
         ·cases g
        refine⟨.slice (some ⟨r,0,none⟩) (len+n) c,p++[(r,m)],{ w with heap:=w.heap.setIfInBounds r (.cells cc' te fz') },?_,?_,Ext.move hr (o':=.cells (old++new) te (0,0)) hbk hp ⟨cc',fz',rfl,by omega,?_,?_,?_⟩ rfl rfl rfl rfl (fun _ _ _ e1 hlk=>by cases e1;obtain⟨l1,_,l3⟩:=hlk;omega)⟩
        ·rw[Rl hT Z htx hu W S hi y _ len c Y,hvn];simp only[zc,Addr.H2,qo,k1]
        ·simp only[Ac];exact⟨r,m,c,by rw[<-hr.len];simp,rfl,yi _,Y,fun h=>by omega,fun _=>hm⟩
        ·rw[yh,hol,X];omega
        ·refine⟨?_,?_⟩
         ·simp;omega
         ·intro k d v hdk A hokk;have hkl:k<(old++new).length:=(zx.1 hdk).1;rw[zp hkl,k3]at A;rw[yh,hol,X]at hkl;simp only[Nat.add_zero,yc]at A;rw[List.getElem?_range ae]at A;simp only[yw,ze]at A;by_cases hk:k<len*i.size
          ·rw[yg ae,hrd.1,zp hk]at hdk;rw[wc ae]at A;obtain⟨u,I,N⟩:=g5.get hdk hokk;rw[zp ae]at I;simp only[List.getD,I,Option.getD_some]at A;exact A▸N
          ·rw[List.getElem?_append_right ae,hol]at hdk;rw[wd ae]at A;obtain⟨u,I,N⟩:=E.get hdk;simp only[List.getD,I,Option.getD_some]at A;exact A▸N
        ·intro k hk q1 q2;have:=g7 k hk q1 q2;omega
       ·have hk:=Ext.kill hr b;have l:=qi hk.rel<|w.drawn+1;obtain⟨v',p',w',k1,k2,k3⟩:=fresh ae (h.kill b) l.rel rfl;exact⟨v',p',w',k1,k2,(hk.trans l).trans k3⟩
def jA(T:Ce)(h:H)(ts:Array TypeId)(args:List V):Option (V×H):=
 match ts[0]?,args with
 |some t,[d,x]=>
  match T.und t,QC d,QC x with
  |some (.slice e),some c,some n=>
   match T.inf e with
   |some i=>
    match src h i.size x (Nat.min n c)with
    |some new=>
     match d with
     | .nils=>some (i64<|Nat.min n c,h)
     | .sl b off _ _ _=>(wr h b off new).map fun h'=>(i64<|Nat.min n c,h')
     |_=>none
    |none=>none
   |none=>none
  |_,_,_=>none
 |_,_=>none
theorem lU(A:T.Ok P)(hr:R p h w){ts:Array TypeId}{t:TypeId}{args:List V}{args':Array Value}(G:Ax p args args'.toList){v:V}{h':H}(f:jA T h ts args=some (v,h')):
  ∃v' p' w',(Builtin.copy_ ts t args').run P w=.ok v' w'/\Ac p' v v'/\Ext p h w p' h' w':=by
 unfold jA at f;split at f
 case h_2=>cases f
 rename_i t0 d x B;obtain⟨I,x',l,g,y⟩:=G.two;have D:args'= #[I,x']:=by apply Array.ext';simpa using l
 subst D;split at f
 case h_2=>cases f
 rename_i e K n J k E;split at f
 case h_2=>cases f
 rename_i i F;split at f
 case h_2=>cases f
 rename_i new q;obtain⟨vn,u,s⟩:=Lr (P:=P) hr y q;unfold Builtin.copy_;simp only[B,yn,yj,yk,zd,AA A J,zc];split at f
 case h_3=>cases f
 case h_1=>
  simp only[Ac]at g;subst g;simp only[QC,ze]at k;subst k;cases f;simp only[zd,P4 y E,BE A F,zc,u];refine⟨_,p,w,zf ..,?_,zu hr⟩;simp[i64,Ac,goInt]
 case h_2=>
  rename_i b off len cap o;simp only[QC,ze]at k;subst k;simp only[Ac]at g;obtain⟨r,m,c,hp,rfl,_⟩:=g;rw[zg]at f;obtain⟨h1,hw,he⟩:=f;cases he;obtain⟨r',m',w',g1,g2,g3⟩:=Ub (P:=P) hr s hw;rw[hp]at g1;cases g1;simp only[zd,P4 y E,BE A F,zc,u,g2];refine⟨_,p,w',zf ..,?_,g3⟩;simp[i64,Ac,goInt]
def TU(T:Ce)(h:H)(t:TypeId)(x:V):Option (V×H):=
 match T.und t,x with
 |some .string,.str s=>some (.ptr h.nx 0,h.push<|.siter s 0)
 |_,_=>none
theorem bF(f:T.Ok P)(hr:R p h w){t:TypeId}{x:V}{x':Value}(c:Ac p x x'){v:V}{h':H}(b:TU T h t x=some (v,h')):
  ∃v' p' w',(y7 t x').run P w=.ok v' w'/\Ac p' v v'/\Ext p h w p' h' w':=by
 unfold TU at b;split at b
 case h_2=>cases b
 rename_i s d;cases b;simp only[Ac]at c;subst c;have g:=qe (n:=0) hr (o:=.siter s 0) (x:=.stringIter (bytesOf s) 0) rfl;refine⟨.pointer<|some ⟨w.heap.size,0,none⟩,_,_,?_,?_,g⟩
 ·unfold y7;simp only[zd,AA f d,zc,zf,run_newObj]
 ·simp only[Ac];exact⟨w.heap.size,0,by rw[<-hr.len];simp,rfl⟩
def NN(h:H)(d:V)(c:Bool):Option (V×H):=
 match d,c with
 | .ptr b 0,true=>
  match h.get b with
  |some (.siter s pos)=>
   bif zl pos s.length then
    some (.tup [.bool true,i64 pos,.int .i32 (Utf8.decode (bytesOf s) pos).1],h.put b<|.siter s<|pos+(Utf8.decode (bytesOf s) pos).2)
   else some (.tup [.bool false],h)
  |_=>none
 |_,_=>none
theorem kV(hr:R p h w){o:V}{g:Value}{c:Bool}{t:TypeId}(m:Ac p o g){v:V}{h':H}(d:NN h o c=some (v,h')):
  ∃v' p' w',(qf g c t).run P w=.ok v' w'/\Ac p' v v'/\Ext p h w p' h' w':=by
 unfold NN at d;split at d
 case h_2=>cases d
 rename_i b;simp only[Ac]at m;obtain⟨r,n,hp,rfl⟩:=m;split at d
 case h_2=>cases d
 rename_i s pos u;obtain⟨y,n',x,l,k,q⟩:=hr.obj _ _ u;rw[hp]at l;cases l;simp only[Hl]at q;subst q;rw[HH]at d;unfold qf;simp only[zd,getObj,yd,k,zc,BP];by_cases f:pos<s.length
 ·simp only[f,decide_true,we,ze,zo]at d;obtain⟨rfl,rfl⟩:=d;simp only[f,wk,zd,setObj,yd,k,zc];refine⟨_,p,_,zf ..,?_,ql hr u hp (o':=.siter s<|pos+(Utf8.decode (bytesOf s) pos).2) rfl rfl rfl rfl rfl⟩;simp[Ac,i64,goInt]
 ·simp only[f,decide_false,wg,ze,zo]at d;obtain⟨rfl,rfl⟩:=d;simp only[f,vg];exact⟨_,p,w,zf ..,by simp[Ac],zu hr⟩
def IV(h:H)(r:Option V):Option (V×H):=
 match r with
 |none=>some (.map h.nx,h.push<|.map [] 0)
 |some _=>none
theorem Wy(hr:R p h w){t:TypeId}{r:Option V}{c:Option Value}(d:Ge p r c){v:V}{h':H}(b:IV h r=some (v,h')):
  ∃v' p' w',(Instr.makeMap t c).run P w=.ok v' w'/\Ac p' v v'/\Ext p h w p' h' w':=by
 unfold IV at b;split at b
 case h_2=>cases b
 cases b;simp only[Ge]at d;subst d;have f:=qe (n:=0) hr (o:=.map [] 0) (x:=.map #[] 0) ⟨#[],rfl,.nil⟩;refine⟨.map<|some w.heap.size,_,_,?_,?_,f⟩
 ·unfold Instr.makeMap;simp
 ·simp only[Ac];exact⟨w.heap.size,0,by rw[<-hr.len];simp,rfl⟩
def kN(T:Ce)(d:TypeId)(a b:V):Option Bool:=
 match T.und d,a,b with
 |some (.int _),.int k x,.int c y=>if k=c then some (x==y)else none
 |some .string,.str x,.str y=>some<|x==y
 |some .bool,.bool x,.bool y=>some<|x==y
 |_,_,_=>none
def Mk(T:Ce)(b:TypeId)(k:V):List (V×V×Nat)->Nat->Option (Option<|Nat×V)
 |[],_=>some none
 |(a,v,_)::es,i=>
  match kN T b k a with
  |some true=>some<|some (i,v)
  |some false=>Mk T b k es<|i+1
  |none=>none
def plainKey:V->Bool
 | .int .. | .str _| .bool _=>true
 |_=>false
theorem bytes_beq(x y:ByteArray):(x==y)=(x.data==y.data):=rfl
theorem Zc{o:TypeId}{a b:V}{m b':Value}(k:Ac p a m)(g:Ac p b b'){r:Bool}(f:kN T o a b=some r){d:TypeDesc}(l:T.und o=some d):
  y8 d m b'=some r/\(r=true->m=b'):=by
 unfold kN at f;split at f
 case h_1=>
  rename_i c;rw[l]at c;cases c;simp only[Ac]at k g;subst k g;split at f
  ·rename_i e;subst e;cases f;exact⟨by simp[y8],fun h=>by simp at h;subst h;rfl⟩
  ·cases f
 case h_2=>
  rename_i c;rw[l]at c;cases c;simp only[Ac]at k g;subst k g;cases f;refine⟨?_,fun h=>by simp at h;subst h;rfl⟩;simp only[y8];congr 1;rw[bytes_beq,Bool.eq_iff_iff];simp[bytesOf]
 case h_3=>
  rename_i c;rw[l]at c;cases c;simp only[Ac]at k g;subst k g;cases f;exact⟨rfl,fun h=>by simp at h;subst h;rfl⟩
 case h_4=>cases f
theorem nV{q:TypeId}{k:V}{g:Value}(s:Ac p k g){d:TypeDesc}(x:T.und q=some d):
  ∀ {es:List (V×V×Nat)} {l:List MapEntry},DW p es l->∀ {i:Nat} {r:Option (Nat×V)},Mk T q k es i=some r->
  ∃f,yt d g l i=some f/\(match r with|none=>f=none|some (j,v)=>∃v',f=some (j,v')/\Ac p v v'/\i<=j/\∃e,l[j-i]?=some e/\e.key=g):=by
 intro es l A;induction A with
 |nil=>intro i r c;simp only[Mk,ze]at c;subst c;exact⟨none,rfl,rfl⟩
 |@cons a v b es e l u y F _ E=>
  intro i r c;unfold Mk at c;split at c
  case h_1=>
   rename_i o;cases c;obtain⟨m,B⟩:=Zc s u o x;exact⟨some (i,e.val),by simp[yt,m],e.val,rfl,y,yi _,e,by simp,(B rfl).symm⟩
  case h_2=>
   rename_i o;obtain⟨m,_⟩:=Zc s u o x;obtain⟨f,k1,k2⟩:=E c;refine⟨f,by simp[yt,m,k1],?_⟩;cases r with
   |none=>exact k2
   |some D=>
    obtain⟨j,v⟩:=D;obtain⟨v',m1,m2,m3,e',m4,m5⟩:=k2;refine⟨v',m1,m2,by omega,e',?_,m5⟩;have:j-i=(j-(i+1))+1:=ae
    rw[this];simpa using m4
  case h_3=>cases c
theorem run_checkKey{k:V}{c:Value}(g:Ac p k c)(hp:plainKey k=true)(m:T.Ok P){f:TypeId}{d:TypeDesc}(l:T.und f=some d)(r:Ek d=false)(o:∀q,d≠ .interface q)(b:Bool):
  (qk b 10000 f c).run P w=.ok () w:=by
 unfold qk;rw[zd,AA m l];simp only[zc];cases k<;>simp only[plainKey]at hp<;>simp only[Ac]at g
 case bool|int|str=>
  subst g;cases d<;>first|rfl|(cases r;done)|exact wh rfl (o _)
 all_goals cases hp
def oU:TypeDesc->Bool
 | .int _| .string| .bool=>true
 |_=>false
theorem dT{d:TypeDesc}(h:oU d=true):Ek d=false/\∀b,d≠ .interface b:=by
 cases d<;>first|(cases h;done)|exact⟨rfl,fun b e=>by cases e⟩
theorem RA{k:V}{c:Value}(b:Ac p k c)(hp:plainKey k=true):zw 10000 c c=true:=by
 cases k<;>simp only[plainKey]at hp<;>simp only[Ac]at b
 case bool=>subst b;simp[zw]
 case int=>subst b;simp[zw]
 case str=>subst b;simp[zw,bytes_beq]
 all_goals cases hp
theorem Wz{a b:V}{f b':Value}(c:Ac p a f)(d:Ac p b b')(h:DT a b=some true):f=b':=by
 unfold DT at h;split at h
 case h_1=>simp only[Ac]at c d;subst c d;simp at h;subst h;rfl
 case h_2=>
  split at h
  ·rename_i e;subst e;simp only[Ac]at c d;subst c d;simp at h;subst h;rfl
  ·cases h
 case h_3=>simp only[Ac]at c d;subst c d;simp at h;subst h;rfl
 case h_4=>cases h
theorem Lp:∀ {xs f:List V} {x y:List Value},Ax p xs x->Ax p f y->B6 xs f=some true->x=y
 |[],[],x,y,d,c,_=>by simp at d c;subst d c;rfl
 |[],_::_,_,_,_,_,h=>by simp[B6]at h
 |_::_,[],_,_,_,_,h=>by simp[B6]at h
 |a::g,b::o,x,y,d,c,h=>by
  simp only[Ax]at d c;obtain⟨u,q,rfl,l,k⟩:=d;obtain⟨v,vs,rfl,h3,h4⟩:=c;unfold B6 at h;split at h
  case h_1=>
   rename_i m;rw[Wz l h3 m,Lp k h4 h]
  case h_2=>split at h<;>cases h
  case h_3=>cases h
theorem VQ:∀ {ks:List FK} {xs:List V} {x:List Value},fit ks xs=true->Ax p xs x->(x.zip x).all (fun(a,b)=>zw 9999 a b)=true
 |[],[],x,_,d=>by simp at d;subst d;rfl
 |[],_::_,_,h,_=>by simp[fit]at h
 |_::_,[],_,h,_=>by simp[fit]at h
 |k::ks,v::vs,x,h,d=>by
  simp only[Ax]at d;obtain⟨u,m,rfl,c,g⟩:=d;unfold fit at h;cases f:k.ok v with
  |false=>simp[f]at h
  |true=>
   simp only[f,we]at h;have l:=VQ h g;simp only[List.zip_cons_cons,qm,l,Bool.and_true];unfold FK.ok at f;split at f
   case h_1=>simp only[Ac]at c;subst c;simp[zw]
   case h_2=>simp only[Ac]at c;subst c;simp[zw,bytes_beq]
   case h_3=>simp only[Ac]at c;subst c;simp[zw]
   case h_4=>cases f
def Qb(ks:List FK)(k:List V):List (V×V×Nat)->Nat->Option (Option<|Nat×V)
 |[],_=>some none
 |(a,v,_)::es,i=>
  match a with
  | .agg b=>match NT (some ks) k b with
   |some true=>some<|some (i,v)
   |some false=>Qb ks k es<|i+1
   |none=>none
  |_=>none
def Jb(T:Ce)(b:TypeId)(d:TypeDesc)(k:V):Bool:=
 match k with
 | .agg xs=>match T.flat b with
  |some ks=>fit ks xs
  |none=>false
 |k=>plainKey k&&oU d
def K4(T:Ce)(b:TypeId)(k:V)(es:List (V×V×Nat)):Option (Option<|Nat×V):=
 match k with
 | .agg xs=>match T.flat b with
  |some ks=>Qb ks xs es 0
  |none=>none
 |k=>Mk T b k es 0
theorem Ph(D:T.Ok P){g:TypeId}{ks:List FK}(E:T.flat g=some ks){xs:List V}{x:Array Value}(o:Ax p xs x.toList):
  ∀ {es:List (V×V×Nat)} {l:List MapEntry},DW p es l->∀ {i:Nat} {r:Option (Nat×V)},Qb ks xs es i=some r->
  ∃f,(yq g (.agg x) l i).run P w=.ok f w/\(match r with|none=>f=none|some (j,v)=>∃v',f=some (j,v')/\Ac p v v'/\i<=j/\∃e,l[j-i]?=some e/\e.key=.agg x):=by
 intro es l G;induction G with
 |nil=>intro i r c;simp only[Qb,ze]at c;subst c;exact⟨none,rfl,rfl⟩
 |@cons a v b es e l d F K _ J=>
  intro i r c;unfold Qb at c;split at c
  case h_2=>cases c
  rename_i B;simp only[Ac]at d;obtain⟨y,u,d⟩:=d;split at c
  case h_3=>cases c
  case h_1=>
   rename_i A;cases c;obtain⟨l',q,s,m,k⟩:=H4 A;cases q;refine⟨some (i,e.val),?_,e.val,rfl,F,yi _,e,by simp,?_⟩
   ·simp only[yq,zd,u,D.flat g ks E p xs B x y true w s m o d k,zc,wk,zf]
   ·rw[u];have:=Lp o d k;congr 1;exact(zm.1 this).symm
  case h_2=>
   rename_i A;obtain⟨l',q,s,m,k⟩:=H4 A;cases q;obtain⟨f,k1,k2⟩:=J c;refine⟨f,?_,?_⟩
   ·simp only[yq,zd,u,D.flat g ks E p xs B x y false w s m o d k,zc,z8,vg];exact k1
   ·cases r with
    |none=>exact k2
    |some I=>
     obtain⟨j,v⟩:=I;obtain⟨v',m1,m2,m3,e',m4,m5⟩:=k2;refine⟨v',m1,m2,by omega,e',?_,m5⟩;have:j-i=(j-(i+1))+1:=ae
     rw[this];simpa using m4
theorem JI(m:T.Ok P){f:TypeId}{d:TypeDesc}(u:T.und f=some d){k:V}{l:Value}(g:Ac p k l)(c:Jb T f d k=true)(b:Bool):
  (qk b 10000 f l).run P w=.ok () w:=by
 unfold Jb at c;split at c
 case h_1=>
  rename_i xs;split at c
  case h_2=>cases c
  rename_i ks s;simp only[Ac]at g;obtain⟨x,rfl,r⟩:=g;exact m.key f ks s p xs x b w c r
 case h_2=>
  simp only[zq]at c;obtain⟨o,q⟩:=dT c.2;exact run_checkKey g c.1 m u o q b
theorem Yr{l:TypeId}{d:TypeDesc}{k:V}{c:Value}(f:Ac p k c)(b:Jb T l d k=true):zw 10000 c c=true:=by
 unfold Jb at b;split at b
 case h_1=>
  rename_i xs;split at b
  case h_2=>cases b
  rename_i ks m;simp only[Ac]at f;obtain⟨x,rfl,g⟩:=f;have:=VQ b g;simp only[zw,beq_self_eq_true,Bool.true_and];exact this
 case h_2=>
  simp only[zq]at b;exact RA f b.1
def entries(h:H)(m:V):Option (List<|V×V×Nat):=
 match m with
 | .nilm=>some []
 | .map b=>match h.get b with
  |some (.map es _)=>some es
  |_=>none
 |_=>none
def Fb(T:Ce)(h:H)(t:TypeId)(m k:V)(ok:Bool):Option V:=
 match T.und t with
 |some (.map b e)=>
  match T.und b,entries h m with
  |some d,some es=>
   bif Jb T b d k then
    match K4 T b k es with
    |some (some (_,v))=>some<|bif ok then .tup [v,.bool true]else v
    |some none=>match T.inf e with
     |some i=>some<|bif ok then .tup [i.zv,.bool false]else i.zv
     |none=>none
    |none=>none
   else none
  |_,_=>none
 |_=>none
theorem Np(hr:R p h w){m:V}{g:Value}(d:Ac p m g){es:List (V×V×Nat)}(c:entries h m=some es):
  (g=.map none/\es=[])\/∃r l f b n,m=.map b/\g=.map (some r)/\p[b]?=some (r,n)/\h.get b=some (.map es f)/\w.heap[r]?=some (.map l f)/\DW p es l.toList:=by
 unfold entries at c;split at c
 case h_1=>simp only[Ac]at d;subst d;cases c;exact .inl ⟨rfl,rfl⟩
 case h_2=>
  simp only[Ac]at d;obtain⟨r,n,hp,rfl⟩:=d;split at c
  case h_2=>cases c
  rename_i s f q;cases c;obtain⟨y,n',o,k,u,l,x,v⟩:=hr.obj _ _ q;rw[hp]at k;cases k;subst x;exact .inr ⟨r,l,f,_,_,rfl,rfl,hp,q,u,v⟩
 case h_3=>cases c
theorem run_findKey(o:T.Ok P){c:TypeId}{k:V}{y:Value}(B:Ac p k y){d:TypeDesc}(u:T.und c=some d){es:List (V×V×Nat)}{l:List MapEntry}(D:DW p es l)
  {r:Option (Nat×V)} (f:K4 T c k es=some r):
  ∃b,(y9 c y l).run P w=.ok b w/\(match r with|none=>b=none|some (j,v)=>∃v',b=some (j,v')/\Ac p v v'/\∃e,l[j]?=some e/\e.key=y):=by
 by_cases m:∃xs,k=.agg xs
 ·obtain⟨xs,rfl⟩:=m;simp only[K4]at f;cases s:T.flat c with
  |none=>simp[s]at f
  |some ks=>
   simp only[s]at f;simp only[Ac]at B;obtain⟨x,rfl,F⟩:=B;obtain⟨fs,hfs⟩:=o.kind c ks s;rw[u]at hfs;cases hfs;obtain⟨b,q,g⟩:=Ph (P:=P) (w:=w) o s F D f;refine⟨b,?_,?_⟩
   ·unfold y9;simp only[zd,AA o u,zc];cases l with
    |nil=>simp only[yt];simpa [yq]using q
    |cons e l=>simp only[yt,y8];exact q
   ·cases r with
    |none=>exact g
    |some A=>
     obtain⟨j,v⟩:=A;obtain⟨v',m1,m2,m3,e',m4,m5⟩:=g;exact⟨v',m1,m2,e',by simpa using m4,m5⟩
 ·have E:K4 T c k es=Mk T c k es 0:=by cases k<;>first|rfl|exact wh ⟨_,rfl⟩ m
  rw[E]at f;obtain⟨b,q,g⟩:=nV B u D f;refine⟨b,?_,?_⟩
  ·unfold y9;simp only[zd,AA o u,zc,q,zf]
  ·cases r with
   |none=>exact g
   |some A=>
    obtain⟨j,v⟩:=A;obtain⟨v',m1,m2,m3,e',m4,m5⟩:=g;exact⟨v',m1,m2,e',by simpa using m4,m5⟩
theorem XR(g:T.Ok P)(hr:R p h w){t:TypeId}{m k:V}{B s:Value}{ok:Bool}(L:Ac p m B)(u:Ac p k s){v:V}(c:Fb T h t m k ok=some v):
  ∃v',(qg t B s ok).run P w=.ok v' w/\Ac p v v':=by
 unfold Fb at c;split at c
 case h_2=>cases c
 rename_i E e I;split at c
 case h_2=>cases c
 rename_i d es f D;cases x:Jb T E d k with
 |false=>simp[x]at c
 |true=>
  simp only[x,we]at c;obtain⟨l,q,o⟩:∃l:List MapEntry,DW p es l/\(qg t B s ok).run P w=((y9 E s l).run P w).andThen fun r w'=>
    match r with
    |some (_,v)=>.ok (if ok then .tuple #[v,.bool true]else v) w'
    |none=>((zeroValue e).run P w').andThen fun z w'=>.ok (if ok then .tuple #[z,.bool false]else z) w':=by
   rcases Np hr L D with⟨rfl,rfl⟩|⟨r,l,Q,b,n,rfl,rfl,hp,O,M,J⟩
   ·refine⟨[],.nil,?_⟩;unfold qg;simp only[zd,AA g I,zc,zf,JI g f u x];congr 1;funext r w'
    cases r<;>simp
   ·refine⟨l.toList,J,?_⟩;unfold qg;simp only[zd,AA g I,zc,zf,JI g f u x,getObj,yd,M];congr 1;funext r w'
    cases r<;>simp
  rw[o];split at c
  case h_3=>cases c
  case h_1=>
   rename_i j v0 A;cases c;obtain⟨K,y,v',rfl,G,_⟩:=run_findKey (P:=P) (w:=w) g u f q A;simp only[y,zc];cases ok
   ·exact⟨v',by simp,by simpa using G⟩
   ·exact⟨.tuple #[v',.bool true],by simp,by simp only[we,Ac];exact⟨_,rfl,by simp[G,Ac]⟩⟩
  case h_2=>
   rename_i A;split at c
   case h_2=>cases c
   rename_i i N;cases c;obtain⟨K,y,F⟩:=run_findKey (P:=P) (w:=w) g u f q A;simp only at F;subst F;obtain⟨z,hz,hzr⟩:=AbR g N;simp only[y,zc,hz];cases ok
   ·exact⟨z,by simp,by simpa using hzr p⟩
   ·exact⟨.tuple #[z,.bool false],by simp,by simp only[we,Ac];exact⟨_,rfl,by simp[hzr p,Ac]⟩⟩
def Yk(es:List (V×V×Nat))(i:Nat)(k v:V):List (V×V×Nat):=es.modify i fun e=>(k,v,e.2.2)
theorem DW.modify{es:List (V×V×Nat)}{l:List MapEntry}(m:DW p es l){k v:V}{c v':Value}(s:Ac p k c)(q:Ac p v v')(i:Nat):
  DW p (Yk es i k v) (l.modify i fun e=>{ e with key:=c,val:=v' }):=by
 unfold Yk;induction m generalizing i with
 |nil=>simp;exact .nil
 |@cons a x b es e l g f d o r=>
  cases i with
  |zero=>simp;exact .cons s q d o
  |succ i=>simp;exact .cons g f d<|r i
theorem DW.snoc{es:List (V×V×Nat)}{l:List MapEntry}(d:DW p es l){k v:V}{e:MapEntry}(m:Ac p k e.key)(o:Ac p v e.val):DW p (es++[(k,v,e.born)]) (l++[e]):=by
 induction d with
 |nil=>exact .cons m o rfl .nil
 |cons c b f _ g=>exact .cons c b f g
def HZ(T:Ce)(h:H)(t:TypeId)(m k v:V):Option H:=
 match T.und t,m with
 |some (.map f _),.map b=>
  match T.und f,h.get b with
  |some d,some (.map es c)=>
   bif Jb T f d k then
    match K4 T f k es with
    |some (some (i,_))=>some<|h.put b<|.map (Yk es i k v) c
    |some none=>some<|h.put b<|.map (es++[(k,v,c)])<|c+1
    |none=>none
   else none
  |_,_=>none
 |_,_=>none
theorem Yd(y:T.Ok P)(hr:R p h w){t:TypeId}{m k v:V}{K o v':Value}(J:Ac p m K)(g:Ac p k o)(I:Ac p v v'){h':H}(c:HZ T h t m k v=some h'):
  ∃w',(Instr.mapUpdate t K o v').run P w=.ok () w'/\Ext p h w p h' w':=by
 unfold HZ at c;split at c
 case h_2=>cases c
 rename_i M e b W;split at c
 case h_2=>cases c
 rename_i d es A f x;cases B:Jb T M d k with
 |false=>simp[B]at c
 |true=>
  simp only[B,we]at c;rcases Np (es:=es) hr J (by simp only[entries,x])with⟨rfl,_⟩|⟨r,l,S,b',n,O,rfl,hp,s,E,u⟩
  ·simp[Ac]at J
  ·cases O;rw[x]at s;cases s;unfold Instr.mapUpdate;simp only[zd,AA y W,zc,JI y f g B,getObj,yd,E];split at c
   case h_3=>cases c
   case h_1=>
    rename_i j v0 F;cases c;obtain⟨L,D,v1,rfl,X,U,Q,N⟩:=run_findKey (P:=P) (w:=w) y g f u F;simp only[D,zc];have q:(l[j]?.map (·.key)).getD o=o:=by
     have:l[j]?=some U:=by simpa using Q
     simp[this,N]
    rw[q];unfold Instr.keyThatStays;simp only[Yr g B,wk,zd,zf,zc,setObj,yd,E];refine⟨_,rfl,ql hr x hp (o':=.map (Yk es j k v) A) ⟨_,rfl,?_⟩ rfl rfl rfl rfl⟩;have:=u.modify g I j;simpa using this
   case h_2=>
    rename_i F;cases c;obtain⟨L,D,G⟩:=run_findKey (P:=P) (w:=w) y g f u F;simp only at G;subst G;simp only[D,zc,setObj,yd,E];refine⟨_,rfl,ql hr x hp (o':=.map (es++[(k,v,A)])<|A+1) ⟨_,rfl,?_⟩ rfl rfl rfl rfl⟩;have:=u.snoc (e:={ key:=o,val:=v',born:=A }) g I;simpa using this
def Ic(T:Ce)(h:H)(t:TypeId)(x:V):Option (V×H):=
 match T.und t,x with
 |some (.map _ _),.nilm=>some (.ptr h.nx 0,h.push<|.miter none 0 [] 0)
 |some (.map _ _),.map b=>match h.get b with
  |some (.map _ c)=>some (.ptr h.nx 0,h.push<|.miter (some b) c [] c)
  |_=>none
 |_,_=>TU T h t x
theorem XA(g:T.Ok P)(hr:R p h w){t:TypeId}{x:V}{x':Value}(d:Ac p x x'){v:V}{h':H}(c:Ic T h t x=some (v,h')):
  ∃v' p' w',(y7 t x').run P w=.ok v' w'/\Ac p' v v'/\Ext p h w p' h' w':=by
 unfold Ic at c;split at c
 case h_1=>
  rename_i m;cases c;simp only[Ac]at d;subst d;have k:=qe (n:=0) hr (o:=.miter none 0 [] 0) (x:=.mapIter none 0 #[] 0) rfl;refine⟨.pointer<|some ⟨w.heap.size,0,none⟩,_,_,?_,?_,k⟩
  ·unfold y7;simp only[zd,AA g m,zc,zf,run_newObj]
  ·simp only[Ac];exact⟨w.heap.size,0,by rw[<-hr.len];simp,rfl⟩
 case h_2=>
  rename_i b m;split at c
  case h_2=>cases c
  rename_i es f s;cases c;simp only[Ac]at d;obtain⟨r,n,hp,rfl⟩:=d;obtain⟨r',n',o,h1,h2,l,h3,h4⟩:=hr.obj _ _ s;rw[hp]at h1;cases h1;subst h3;have q:(p++[(w.heap.size,0)])[b]?=some (r,n):=by rw[yg (zx.1 hp).1];exact hp
  have k:=qe (n:=0) hr (o:=.miter (some b) f [] f) (x:=.mapIter (some r) f #[] f) ⟨r,n,hp,rfl⟩;refine⟨.pointer<|some ⟨w.heap.size,0,none⟩,_,_,?_,?_,k⟩
  ·unfold y7;simp only[zd,AA g m,zc,zf,getObj,yd,h2,run_newObj]
  ·simp only[Ac];exact⟨w.heap.size,0,by rw[<-hr.len];simp,rfl⟩
 case h_3=>exact bF g hr d c
def SW(h:H)(f:V)(c:Bool):Option (List<|V×H):=
 match f,c with
 | .ptr b 0,false=>
  match h.get b with
  |some (.miter none _ _ _)=>some [(.tup [.bool false],h)]
  |some (.miter (some m) since seen last)=>
   match h.get m with
   |some (.map es d)=>
    bif es.all (fun e=>zl e.2.2 since)&&zt since last then
     match es.filter (fun e=> !seen.contains e.2.2)with
     |[]=>some [(.tup [.bool false],h)]
     |left=>some (left.map fun e=>(.tup [.bool true,e.1,e.2.1],h.put b<|.miter (some m) since (seen++[e.2.2]) d))
    else none
   |_=>none
  |_=>none
 |_,_=>none
theorem DW.get{es:List (V×V×Nat)}{l:List MapEntry}(f:DW p es l):∀ {i:Nat} {e:MapEntry},l[i]?=some e->∃k v,es[i]?=some (k,v,e.born)/\Ac p k e.key/\Ac p v e.val:=by
 induction f with
 |nil=>intro i e h;simp at h
 |@cons k v b es o l d c g _ m=>
  intro i e h;cases i with
  |zero=>simp at h;subst h;exact⟨k,v,by simp[g],d,c⟩
  |succ i=>simp at h;simpa using m h
theorem DW.filter{es:List (V×V×Nat)}{l:List MapEntry}(m:DW p es l)(q:Nat->Bool):DW p (es.filter fun e=>q e.2.2) (l.filter fun e=>q e.born):=by
 induction m with
 |nil=>exact .nil
 |@cons k v b es o l g f c _ d=>
  simp only[List.filter_cons,c];cases q b with
  |false=>exact d
  |true=>exact .cons g f c d
theorem DW.all{es:List (V×V×Nat)}{l:List MapEntry}(c:DW p es l)(q:Nat->Bool):(es.all fun e=>q e.2.2)=l.all fun e=>q e.born:=by
 induction c with
 |nil=>rfl
 |@cons k v b es o l m g d _ f=>simp only[qm,d,f]
theorem DW.find{es:List (V×V×Nat)}{l:List MapEntry}(o:DW p es l)(q:Nat->Bool){e:V×V×Nat}(c:es.find? (fun e=>q e.2.2)=some e):∃d,l.find? (fun e=>q e.born)=some d/\Ac p e.1 d.key/\Ac p e.2.1 d.val:=by
 induction o with
 |nil=>simp at c
 |@cons k v b es r l m g s _ u=>
  simp only[List.find?_cons,s]at c ⊢;cases f:q b with
  |false=>simp only[f]at c ⊢;exact u c
  |true=>simp only[f]at c ⊢;cases c;exact⟨r,rfl,m,g⟩
theorem qD(n:Nat)(c:0<n):∃i d,(choose<|.mapNext n).run P w=.ok i { w with drawn:=d }/\i<n:=by
 rw[run_choose];by_cases b:n<=1
 ·refine⟨0,w.drawn,?_,c⟩;simp[yv,b]
 ·refine⟨w.tape w.drawn (.mapNext n) % n,w.drawn+1,?_,Nat.mod_lt _ c⟩;simp[yv,b,Question.cut]
theorem eK(hr:R p h w){it:V}{F:Value}{g:Bool}{t:TypeId}(Z:Ac p it F){l:List (V×H)}(f:SW h it g=some l):
  ∃v h' v' p' w',(v,h')∈l/\(qf F g t).run P w=.ok v' w'/\Ac p' v v'/\Ext p h w p' h' w':=by
 unfold SW at f;split at f
 case h_2=>cases f
 rename_i b;simp only[Ac]at Z;obtain⟨r,n,hp,rfl⟩:=Z;split at f
 case h_3=>cases f
 case h_1=>
  rename_i since seen last K;cases f;obtain⟨r',n',x,E,J,G⟩:=hr.obj _ _ K;rw[hp]at E;cases E;simp only[Hl]at G;subst G;refine⟨_,_,.tuple #[.bool false],p,w,zy.2 rfl,?_,by simp[Ac],zu hr⟩;unfold qf;simp only[zd,getObj,yd,J,zc];rfl
 case h_2=>
  rename_i m since seen last K;split at f
  case h_2=>cases f
  rename_i es Q hm;cases M:(es.all (fun e=>zl e.2.2 since)&&zt since last)with
  |false=>simp[M]at f
  |true=>
   simp only[M,we]at f;simp only[zq,yb]at M;obtain⟨c1,c2⟩:=M;obtain⟨r',n',x,E,J,G⟩:=hr.obj _ _ K;rw[hp]at E;cases E;simp only[Hl]at G;obtain⟨rm,nm,hpm,rfl⟩:=G;obtain⟨r2,n2,x2,k1,k2,l2,k3,k4⟩:=hr.obj _ _ hm;rw[hpm]at k1;cases k1;subst k3;rw[k4.all fun b=>zl b since]at c1;have q:∀e∈l2.toList,e.born<since:=by
    intro e y;have:=List.all_eq_true.1 c1 e y;simpa using this
   have U:(!seen.toArray.isEmpty&& !l2.isEmpty&&l2.all (·.born>=last))=false:=by
    cases N:l2.toList with
    |nil=>
     have:l2= #[]:=zm.1 N;simp[this]
    |cons S rest=>
     have W:S∈l2.toList:=by rw[N];simp
     have h0:=q S W;have:l2.all (·.born>=last)=false:=by
      rw[<-Array.all_toList,N,qm];have:(decide (S.born>=last))=false:=by simp;omega
      rw[this];rfl
     rw[this];simp
   have s:(l2.filter fun e=> !seen.toArray.contains e.born).toList=l2.toList.filter fun e=> !seen.contains e.born:=by
    simp
   have c:=k4.filter fun b=> !seen.contains b
   have e1:((l2.filter fun e=> !seen.toArray.contains e.born).filter (·.born<since))=l2.filter fun e=> !seen.toArray.contains e.born:=by
    apply zm.1;rw[Array.toList_filter,List.filter_eq_self];intro e y;rw[s]at y;simpa using q e ((List.mem_filter.1 y).1)
   have e2:((l2.filter fun e=> !seen.toArray.contains e.born).filter (·.born>=since))= #[]:=by
    apply zm.1;rw[Array.toList_filter];simp only[List.filter_eq_nil_iff];intro e y;rw[s]at y;have:=q e<|(List.mem_filter.1 y).1;simp;omega
   unfold qf;simp only[zd,getObj,yd,J,zc,k2];rw[wc<|by rw[U];simp];simp only[e1,e2,Array.append_empty];generalize hL:(l2.filter fun e=> !seen.toArray.contains e.born)=L at*;rw[<-s]at c;have u:=c.length;split at f
   case h_1=>
    rename_i D;cases f;have X:L= #[]:=by
     apply zm.1;apply qd.1;rw[<-u,D];rfl
    subst X;refine⟨_,_,.tuple #[.bool false],p,w,zy.2 rfl,?_,by simp[Ac],zu hr⟩;simp[zd,yv]
   case h_2=>
    rename_i left O;cases f;have o:0<L.size:=by
     have:L.toList.length=L.size:=by simp
     rw[<-this, <-u];cases hq:es.filter (fun e=> !seen.contains e.2.2)with
     |nil=>exact wh hq O
     |cons _ _=>simp
    have A:L.isEmpty=false:=by simp[Array.isEmpty];intro h0;rw[h0]at o;simp at o
    simp only[A,z8,vg,Array.empty_append,Array.size_map];obtain⟨i,d,g1,Y⟩:=qD (P:=P) (w:=w) L.size o;simp only[zd,g1,zc];have hi:L[i]?=some L[i]:=by simp[Y]
    obtain⟨k,v,q1,q2,q3⟩:=c.get (i:=i) (e:=L[i]) (by simp[Y]);simp only[Array.getElem?_map,hi,yw,zd];have B:=qi hr d;have I:=ql B.rel K hp (o':=.miter (some m) since (seen++[L[i].born]) Q) (x':=.mapIter (some rm) since (seen.toArray.push L[i].born) Q) ⟨rm,nm,hpm,by simp⟩
     (w':={ { w with drawn:=d }with heap:=w.heap.setIfInBounds r (.mapIter (some rm) since (seen.toArray.push L[i].born) Q) }) rfl rfl rfl rfl
    refine⟨.tup [.bool true,k,v],_,.tuple #[.bool true,L[i].key,L[i].val],p,_,List.mem_map.2 ⟨(k,v,L[i].born),List.mem_of_getElem? q1,rfl⟩,?_,?_,B.trans I⟩
    ·simp[setObj,yd,J]
    ·simp only[Ac];exact⟨_,rfl,by simp[Ac,q2,q3]⟩
def Tm(h:H)(d:V):Option V:=
 match d with
 | .ptr b 0=>
  match h.get b with
  |some (.miter (some m) _ seen last)=>
   match h.get m with
   |some (.map es c)=>
    bif zh c last then
     match seen.getLast? with
     |some s=>match es.find? (fun e=>zh e.2.2 s)with
      |some e=>some<|.tup [e.1,e.2.1]
      |none=>none
     |none=>none
    else none
   |_=>none
  |_=>none
 |_=>none
theorem eJ(hr:R p h w){q:V}{k:Value}(o:Ac p q k){v:V}(c:Tm h q=some v):∃v',(Instr.entry k).run P w=.ok v' w/\Ac p v v':=by
 unfold Tm at c;split at c
 case h_2=>cases c
 rename_i b;simp only[Ac]at o;obtain⟨r,n,hp,rfl⟩:=o;split at c
 case h_2=>cases c
 rename_i m since seen last F;split at c
 case h_2=>cases c
 rename_i es D A;rw[Bw]at c;by_cases g:D=last
 ·simp only[g,decide_true,we]at c;split at c
  case h_2=>cases c
  rename_i s u;split at c
  case h_2=>cases c
  rename_i e E;cases c;obtain⟨G,n',x,l,B,y⟩:=hr.obj _ _ F;rw[hp]at l;cases l;simp only[Hl]at y;obtain⟨rm,nm,hpm,rfl⟩:=y;obtain⟨r2,n2,x2,k1,k2,l2,k3,k4⟩:=hr.obj _ _ A;rw[hpm]at k1;cases k1;subst k3;obtain⟨e',q1,q2,q3⟩:=k4.find (fun b=>zh b s) E;refine⟨.tuple #[e'.key,e'.val],?_,by simp only[Ac];exact⟨_,rfl,by simp[q2,q3]⟩⟩;unfold Instr.entry;have d:seen.toArray.back?=some s:=by rw[Array.back?_eq_getElem?];simp[List.getLast?_eq_getElem?]at u ⊢;exact u
  have f:l2.find? (fun e=>e.born==s)=some e':=by
   rw[<-Array.find?_toList, <-q1];congr 1;funext e
   rw[Bw];rw[Bool.eq_iff_iff];simp
  simp only[zd,getObj,yd,B,zc,k2,d,g,bne_self_eq_false,z8,vg,f,zf]
 ·simp[g]at c
theorem DW.erase{es:List (V×V×Nat)}{l:List MapEntry}(f:DW p es l)(i:Nat):DW p (es.eraseIdx i) (l.eraseIdx i):=by
 induction f generalizing i with
 |nil=>simp;exact .nil
 |@cons k v b es q l d c m g o=>
  cases i with
  |zero=>simpa using g
  |succ i=>simp;exact .cons d c m<|o i
def LL(T:Ce)(h:H)(ts:Array TypeId)(args:List V):Option (V×H):=
 match ts[0]?,args with
 |some g,[.map b,k]=>
  match T.und g with
  |some (.map c _)=>
   match T.und c,h.get b with
   |some d,some (.map es f)=>
    bif Jb T c d k then
     match K4 T c k es with
     |some (some (i,_))=>some (.tup [],h.put b<|.map (es.eraseIdx i) f)
     |some none=>some (.tup [],h.put b<|.map es f)
     |none=>none
    else none
   |_,_=>none
  |_=>none
 |_,_=>none
theorem XB(s:T.Ok P)(hr:R p h w){ts:Array TypeId}{t:TypeId}{args:List V}{args':Array Value}(N:Ax p args args'.toList){v:V}{h':H}(c:LL T h ts args=some (v,h')):
  ∃v' p' w',(Builtin.delete_ ts t args').run P w=.ok v' w'/\Ac p' v v'/\Ext p h w p' h' w':=by
 unfold LL at c;split at c
 case h_2=>cases c
 rename_i mt b k Q;obtain⟨U,J,f,I,y⟩:=N.two;have D:args'[0]?=some U:=by rw[<-zn,f];rfl
 have B:args'[1]?=some J:=by rw[<-zn,f];rfl
 split at c
 case h_2=>cases c
 rename_i L e S;split at c
 case h_2=>cases c
 rename_i d es u g q;cases F:Jb T L d k with
 |false=>simp[F]at c
 |true=>
  simp only[F,we]at c;rcases Np (es:=es) hr I (by simp only[entries,q])with⟨rfl,_⟩|⟨r,l,O,b',n,M,rfl,hp,m,A,o⟩
  ·simp[Ac]at I
  ·cases M;rw[q]at m;cases m;unfold Builtin.delete_;simp only[Q,D,B,zd,AA s S,zc,getObj,yd,A,JI s g y F];split at c
   case h_3=>cases c
   case h_1=>
    rename_i j v0 E;cases c;obtain⟨K,x,v1,rfl,Z,Y,X,W⟩:=run_findKey (P:=P) (w:=w) s y g o E;refine⟨.tuple #[],p,{ w with heap:=w.heap.setIfInBounds r (.map (l.eraseIdxIfInBounds j) u) },?_,by simp[Ac],ql hr q hp (o':=.map (es.eraseIdx j) u) ⟨_,rfl,?_⟩ rfl rfl rfl rfl⟩
    ·simp only[x,zc];simp[setObj,yd,A]
    ·have:=o.erase j;simpa using this
   case h_2=>
    rename_i E;cases c;obtain⟨K,x,G⟩:=run_findKey (P:=P) (w:=w) s y g o E;simp only at G;subst G;refine⟨.tuple #[],p,{ w with heap:=w.heap.setIfInBounds r (.map l u) },?_,by simp[Ac],ql hr q hp (o':=.map es u) ⟨_,rfl,o⟩ rfl rfl rfl rfl⟩;simp only[x,zc];simp[setObj,yd,A]
def Gf(T:Ce)(h:H)(ts:Array TypeId)(args:List V):Option (V×H):=
 match ts[0]?,args with
 |some t,[x]=>
  match T.und t,x with
  |some (.map _ _),.nilm=>some (.tup [],h)
  |some (.map _ _),.map b=>match h.get b with
   |some (.map _ c)=>some (.tup [],h.put b<|.map [] c)
   |_=>none
  |some (.slice _),.nils=>some (.tup [],h)
  |some (.slice _),.esl=>some (.tup [],h)
  |some (.slice _),.es0=>some (.tup [],h)
  |some (.slice e),.sl b off len _ _=>
   bif zh len 0 then some (.tup [],h)
   else match T.inf e with
    |some i=>bif zl 0 i.zero.length then
      (wr h b off<|Fy i.zero<|len*i.zero.length).map fun h'=>(.tup [],h')
     else none
    |none=>none
  |_,_=>none
 |_,_=>none
theorem eE(q:T.Ok P)(hr:R p h w){ts:Array TypeId}{t:TypeId}{args:List V}{args':Array Value}(J:Ax p args args'.toList){v:V}{h':H}(d:Gf T h ts args=some (v,h')):
  ∃v' p' w',(Builtin.clear_ ts t args').run P w=.ok v' w'/\Ac p' v v'/\Ext p h w p' h' w':=by
 unfold Gf at d;split at d
 case h_2=>cases d
 rename_i t0 x K;obtain⟨x',s,f⟩:=J.one;have B:args'[0]?=some x':=by rw[<-zn,s];rfl
 unfold Builtin.clear_;simp only[K,B];split at d
 case h_7=>cases d
 case h_1=>
  rename_i g;cases d;simp only[Ac]at f;subst f;exact⟨.tuple #[],p,w,by simp[AA q g],by simp[Ac],zu hr⟩
 case h_2=>
  rename_i b g;split at d
  case h_2=>cases d
  rename_i es G F;cases d;simp only[Ac]at f;obtain⟨r,n,hp,rfl⟩:=f;obtain⟨r',n',o,A,h2,l,h3,h4⟩:=hr.obj _ _ F;rw[hp]at A;cases A;subst h3;refine⟨.tuple #[],p,{ w with heap:=w.heap.setIfInBounds r (.map #[] G) },?_,by simp[Ac],ql hr F hp (o':=.map [] G) ⟨_,rfl,.nil⟩ rfl rfl rfl rfl⟩;simp[zd,AA q g,getObj,setObj,yd,h2]
 case h_3=>
  rename_i e g;cases d;simp only[Ac]at f;subst f;exact⟨.tuple #[],p,w,by simp[AA q g],by simp[Ac],zu hr⟩
 case h_4=>
  rename_i e g;cases d;simp only[Ac]at f;obtain⟨_,_,rfl⟩:=f;exact⟨.tuple #[],p,w,by simp[AA q g],by simp[Ac],zu hr⟩
 case h_5=>
  rename_i e g;cases d;simp only[Ac]at f;obtain⟨_,rfl⟩:=f;exact⟨.tuple #[],p,w,by simp[AA q g],by simp[Ac],zu hr⟩
 case h_6=>
  rename_i e b off len cap o g;simp only[Ac]at f;obtain⟨r,n,c,hp,rfl,_⟩:=f;rw[Bw]at d;by_cases h0:len=0
  ·simp only[h0,decide_true,we,ze,zo]at d;obtain⟨rfl,rfl⟩:=d;subst h0;exact⟨.tuple #[],p,w,by simp[AA q g],by simp[Ac],zu hr⟩
  ·simp only[h0,decide_false,wg]at d;split at d
   case h_2=>cases d
   rename_i i M;cases D:zl 0 i.zero.length with
   |false=>simp[D]at d
   |true=>
    simp only[D,we,zg]at d;obtain⟨A,L,I⟩:=d;cases I;obtain⟨z,hzz,hzr⟩:=EH q M;have y:=(hzr p).length;have u:=J5 (hzr p) (by simpa using D)<|len*i.zero.length;obtain⟨r',m,w',g1,g2,g3⟩:=Ub (P:=P) hr u L;rw[hp]at g1;cases g1;refine⟨.tuple #[],p,w',?_,by simp[Ac],g3⟩;have:zi z.cells len=(Array.range<|len*i.zero.length).map (fun i=>z.cells[i % z.cells.size]!):=by
     unfold zi;rw[y];simp
    obtain⟨E,rfl⟩:∃k,len=k+1:=⟨len-1,by omega⟩;simp only[zd,AA q g,zc,hzz,this,g2,zf]
def AaE(T:Ce)(ts:Array TypeId)(args:List V):Option V:=
 match ts[0]?,args with
 |some t,[x]=>
  match T.und t,x with
  |some (.slice _),.sl _ _ _ cap 0=>some<|i64 cap
  |some (.slice _),.nils=>some<|i64 0
  |_,_=>none
 |_,_=>none
theorem sO(m:T.Ok P){ts:Array TypeId}{t:TypeId}{args:List V}{args':Array Value}(s:Ax p args args'.toList){v:V}(d:AaE T ts args=some v):
  ∃v',(Builtin.cap_ ts t args').run P w=.ok v' w/\Ac p v v':=by
 unfold AaE at d;split at d
 case h_2=>cases d
 rename_i t0 x o;obtain⟨x',f,g⟩:=s.one;have k:args'[0]?=some x':=by rw[<-zn,f];rfl
 unfold Builtin.cap_;simp only[o,k];split at d
 case h_3=>cases d
 case h_1=>
  rename_i e b off len cap l;cases d;simp only[Ac]at g;obtain⟨r,n,c,hp,rfl,y,u,q,A⟩:=g;have:=q trivial;subst this;exact⟨_,by simp[zd,AA m l];rfl,by simp[Ac,i64,goInt]⟩
 case h_2=>
  rename_i e l;cases d;simp only[Ac]at g;subst g;exact⟨_,by simp[zd,AA m l];rfl,by simp[Ac,i64,goInt]⟩
def Tv(T:Ce)(h:H)(src dst:TypeId)(x:V):Option (V×H):=
 match T.und src,T.und dst,x with
 |some .string,some<|.slice e,.str s=>
  match T.und e with
  |some (.int .u8)=>some (.sl h.nx 0 s.length s.length 1,h.push<|.cells (s.map fun b=>.int .u8<|.ofNat b.toNat) e (0,0))
  |_=>none
 |_,_,_=>none
theorem cX(r:T.Ok P)(hr:R p h w){src dst:TypeId}{x:V}{x':Value}(y:Ac p x x'){v:V}{h':H}(f:Tv T h src dst x=some (v,h')):
  ∃v' p' w',(convert src dst x').run P w=.ok v' w'/\Ac p' v v'/\Ext p h w p' h' w':=by
 unfold Tv at f;split at f
 case h_2=>cases f
 rename_i e s D B;split at f
 case h_2=>cases f
 rename_i I;cases f;simp only[Ac]at y;subst y;have g:=run_bytes_of_string (P:=P) w src dst e (bytesOf s) (r.und _ _ D) (r.und _ _ B)<|r.und _ _ I;generalize G:grownCap w (bytesOf s).size 0 e=c at g;have m:s.length<=c:=by
  rw[<-G,BP];unfold grownCap;simp[Question.cut]
 have k:(bytesRow (bytesOf s) c).size=c:=by
  have:(bytesRow (bytesOf s) c).size=(bytesOf s).size+(c-(bytesOf s).size):=by
   unfold bytesRow;rw[yy,Array.size_map,Array.size_replicate];rfl
  rw[this,BP];omega
 have q:=qi hr<|w.drawn+1;have E:=qe (n:=c) q.rel (o:=.cells (s.map fun b=>.int .u8<|.ofNat b.toNat) e (0,0)) (x:=.cells (bytesRow (bytesOf s) c) e ((bytesRow (bytesOf s) c).size,(bytesRow (bytesOf s) c).size+1)) (by
  refine⟨_,_,rfl,k,by simpa using m,?_,fun i u F J=>by simp only[k]at F;omega⟩;refine Ax.toC<|Ax.mk ?_ ?_
  ·have:=k;simp at this ⊢;omega
  ·intro i d v f l;simp only[List.length_map]at l;simp only[yc,zg]at f;obtain⟨b,A,rfl⟩:=f;have u:=(zx.1 A).1;rw[zp u]at l;simp only[bytesRow,Array.toList_append,Array.toList_map,bytesOf]at l;rw[yg<|by simpa using u]at l;simp only[yc,A,yw,ze]at l;subst l;simp[Ac])
 refine⟨_,_,_,g,?_,q.trans E⟩;simp only[Ac];refine⟨w.heap.size,c,c,by rw[<-hr.len];simp,by rw[BP],yi _,m,fun h=>(by cases h),fun _=>ae⟩
def Bc(T:Ce)(h:H)(s d:TypeId)(x:V):Option V:=
 match T.und s,T.und d,x with
 |some (.pointer _),some .unsafePointer,.nilp=>some .nilp
 |some .unsafePointer,some<|.pointer _,.nilp=>some .nilp
 |some (.pointer t),some .unsafePointer,.ptr b off=>
  match T.inf t,h.get b with
  |some i,some (.cells cs _ _)=>bif zl 0 i.size&&zl off cs.length then some (.ptr b off)else none
  |_,_=>none
 |some .unsafePointer,some<|.pointer u,.ptr b off=>
  match T.inf u,h.get b with
  |some i,some (.cells cs e _)=>bif zl 0 i.size&&zt i.size cs.length&&zh e u&&zh off 0 then some (.ptr b 0)else none
  |_,_=>none
 |_,_,_=>none
theorem Vl(hr:R p h w){b:Nat}{cs:List V}{t:TypeId}{fz:Nat×Nat}(l:h.get b=some (.cells cs t fz)):
  ∃r n,p[b]?=some (r,n)/\w.shape? r=some (t,n)/\cs.length<=n:=by
 obtain⟨r,n,x,f,d,c,fz',rfl,g,k,_⟩:=hr.obj b _ l;exact⟨r,n,f,by simp[World.shape?,d,g],k⟩
theorem dC{u:TypeId}(d:P.cellsOf u≠0)(k:Nat)(c:1<=k):liesAt P P.depth u k 0 u 1=true:=by
 have b:P.depth=(2*(P.types.size+Made.depth)+1)+1:=rfl;rw[b];simp only[liesAt,qh];left;rw[b];simp[rowAt,d,c,sameLayout]
theorem rH(f:T.Ok P)(hr:R p h w){s d:TypeId}{x:V}{x':Value}(g:Ac p x x'){v:V}(c:Bc T h s d x=some v):
  ∃v',(convert s d x').run P w=.ok v' w/\Ac p v v':=by
 unfold Bc at c;split at c
 case h_5=>cases c
 case h_1=>
  rename_i m l;simp only[Ac]at g;subst g;cases c;refine⟨.pointer none,?_,by simp[Ac]⟩;simp[convert,AA f m,AA f l,Conv.unsafePointer]
 case h_2=>
  rename_i m l;simp only[Ac]at g;subst g;cases c;refine⟨.pointer none,?_,by simp[Ac]⟩;simp[convert,AA f m,AA f l,Conv.unsafePointer]
 case h_3=>
  rename_i t b off m l;split at c
  case h_2=>cases c
  rename_i i cs e fz A q;cases k:(zl 0 i.size&&zl off cs.length)with
  |false=>rw[k]at c;cases c
  |true=>
   rw[k]at c;cases c;simp only[zq,yp]at k;obtain⟨j,z,o,B,_⟩:=f.inf t i A;obtain⟨r,n,k1,k2,k3⟩:=Vl hr q;simp only[Ac]at g;obtain⟨r',n',q1,rfl⟩:=g;rw[k1]at q1;cases q1;refine⟨_,Lib.run_to_unsafe w ⟨r,off,none⟩ (f.und _ _ m) (f.und _ _ l) o ae k2 (by show off<n;omega),?_⟩;simp only[Ac];exact⟨r,n,k1,rfl⟩
 case h_4=>
  rename_i u b off m l;split at c
  case h_2=>cases c
  rename_i i cs e fz A q;cases k:(zl 0 i.size&&zt i.size cs.length&&zh e u&&zh off 0)with
  |false=>rw[k]at c;cases c
  |true=>
   rw[k]at c;cases c;simp only[zq,yp,yb,Bw,w5]at k;obtain⟨⟨⟨D,F⟩,rfl⟩,rfl⟩:=k;obtain⟨j,z,o,B,_⟩:=f.inf e i A;obtain⟨r,n,k1,k2,k3⟩:=Vl hr q;simp only[Ac]at g;obtain⟨r',n',q1,rfl⟩:=g;rw[k1]at q1;cases q1;have y:P.cellsOf e=i.size:=by simp[Program.cellsOf,o,B]
   have E:1<=n/P.cellsOf e:=by rw[y];exact Nat.div_pos ae D
   refine⟨_,Lib.run_from_unsafe w ⟨r,0,none⟩ (f.und _ _ m) (f.und _ _ l) o k2 (dC ae _ E),?_⟩;simp only[Ac];exact⟨r,n,k1,rfl⟩
def O4(args:List V):Option V:=
 match args with
 |[.nils]=>some .nilp
 |[.sl b off _ cap _]=>bif zl 0 cap then some (.ptr b off)else none
 |_=>none
theorem bW{ts:Array TypeId}{t:TypeId}{args:List V}{args':Array Value}(l:Ax p args args'.toList){v:V}(d:O4 args=some v):
  ∃v',(Builtin.unsafeSliceData_ ts t args').run P w=.ok v' w/\Ac p v v':=by
 unfold O4 at d;split at d
 case h_3=>cases d
 case h_1=>
  cases d;obtain⟨x,k,f⟩:=l.one;have:args'= #[x]:=zm.1 k;subst this;simp only[Ac]at f;subst f;exact⟨_,Lib.run_unsafeSliceData_nil w ts t 0 0,by simp[Ac]⟩
 case h_2=>
  rename_i b off len cap o;cases g:zl 0 cap with
  |false=>rw[g]at d;cases d
  |true=>
   rw[g]at d;cases d;rw[yp]at g;obtain⟨x,k,f⟩:=l.one;have:args'= #[x]:=zm.1 k;subst this;simp only[Ac]at f;obtain⟨r,n,c,g1,rfl,g2,g3,_⟩:=f;exact⟨_,Lib.run_unsafeSliceData_row w ts t _ len c ae,by simp only[Ac];exact⟨r,n,g1,rfl⟩⟩
def Ti:V->Option UInt8
 | .int .u8 (.ofNat n)=>bif zl n 256 then some (UInt8.ofNat n)else none
 |_=>none
def GL:List V->Option Z
 |[]=>some []
 |v::vs=>
  match Ti v,GL vs with
  |some b,some c=>some (b::c)
  |_,_=>none
theorem pK{c:V}{b:UInt8}(h:Ti c=some b):c=.int .u8 (b.toNat:Int):=by
 unfold Ti at h;split at h
 case h_2=>cases h
 rename_i n;cases d:zl n 256 with
 |false=>rw[d]at h;cases h
 |true=>
  rw[d]at h;cases h;rw[yp]at d;have:(UInt8.ofNat n).toNat=n:=by simp;omega
  rw[this];rfl
theorem LW:∀ {cs:List V} {l:Z},GL cs=some l->cs=l.map fun b=>V.int .u8 (b.toNat:Int)
 |[],l,d=>by cases d;rfl
 |c::cs,l,d=>by
  unfold GL at d;split at d
  case h_2=>cases d
  rename_i b tl g f;cases d;rw[pK g,LW f];rfl
def R4(T:Ce)(h:H)(ts:List TypeId)(args:List V):Option (V×H):=
 match ts,args with
 |[pt,_],[.ptr b 0,.int .i64<|.ofNat n]=>
  match T.und pt,h.get b with
  |some (.pointer e),some (.cells cs c fz)=>
   match T.inf e,GL (cs.take n)with
   |some i,some l=>bif zh i.size 1&&zh e c&&zl 0 n&&zt n cs.length&&zt n 9223372036854775807&&zt fz.2 fz.1 then some (.str l,h.kill b)else none
   |_,_=>none
  |_,_=>none
 |_,_=>none
theorem Ext.gone{w':World}(hr:R p h w){b r n:Nat}{o:O}{x':Obj}(u:h.get b=some o)(hp:p[b]?=some (r,n))
  (v:w'.heap=w.heap.setIfInBounds r x') (I:w'.os=w.os) (D:w'.output=w.output) (M:w'.tape=w.tape) (G:∀cs t fz,o=.cells cs t fz->¬Lk n fz):Ext p h w p (h.kill b) w':=by
 refine⟨⟨[],by simp⟩,⟨hr.len,fun c q g=>?_,(hr.kill b).inj⟩,by simp[v],fun s E J=>?_,fun s K=>?_,I,D,M,fun s E F=>?_⟩
 ·rw[H.Cr]at g;by_cases e:c=b
  ·rw[wd e]at g;cases g
  ·rw[wc e]at g;obtain⟨s,m,y,f,x,L⟩:=hr.obj c q g;refine⟨s,m,y,f,?_,L⟩;have d:r≠s:=fun A=>e<|hr.inj c b q o s m n g u f<|A▸hp
   rw[v,zj d];exact x
 ·have d:r≠s:=fun e=>J<|e▸⟨b,o,n,u,hp⟩
  rw[v,zj d]
 ·obtain⟨c,q,m,f,x⟩:=K;rw[H.Cr]at f;split at f
  ·cases f
  ·exact .inl ⟨c,q,m,f,x⟩
 ·obtain⟨c,m,cs,t,fz,k,l,B⟩:=F;by_cases e:c=b
  ·subst e;rw[hp]at l;cases l;rw[u]at k;cases k;exact wh B<|G cs t fz rfl
  ·have d:r≠s:=fun A=>e<|hr.inj c b _ o s m n k u l<|A▸hp
   refine⟨by rw[v,zj d],.inl ⟨c,m,cs,t,fz,by rw[H.Cr,wc e];exact k,l,B⟩⟩
theorem V7{w:World}{r n:Nat}{c:Array Value}{e:TypeId}{fz:Nat×Nat}(b:w.heap[r]?=some (.cells c e fz))(h0:n≠0):
  ∃fz',(w.freeze ⟨r,0,none⟩ n).heap=w.heap.setIfInBounds r (.cells c e fz'):=by
 refine⟨if fz.1==fz.2 then(0,0+n)else(min fz.1 0,max fz.2<|0+n),?_⟩;unfold World.freeze;rw[wc h0];dsimp only
 rw[PF b]
theorem mY(K:T.Ok P)(hr:R p h w){ts:Array TypeId}{t:TypeId}{args:List V}{args':Array Value}(Q:Ax p args args'.toList){v:V}{h':H}(d:R4 T h ts.toList args=some (v,h')):
  ∃v' w',(Builtin.unsafeString_ ts t args').run P w=.ok v' w'/\Ac p v v'/\Ext p h w p h' w':=by
 unfold R4 at d;split at d
 case h_2=>cases d
 rename_i pt I b n o;have o:ts= #[pt,I]:=zm.1 o;subst o;split at d
 case h_2=>cases d
 rename_i e cs N fz U J;split at d
 case h_2=>cases d
 rename_i i l X O;cases A:(zh i.size 1&&zh e N&&zl 0 n&&zt n cs.length&&zt n 9223372036854775807&&zt fz.2 fz.1)with
 |false=>rw[A]at d;cases d
 |true=>
  rw[A]at d;cases d;simp only[zq,yp,yb,Bw,w5]at A;obtain⟨⟨⟨⟨⟨M,rfl⟩,c3⟩,c4⟩,c5⟩,c6⟩:=A;obtain⟨x,y,hargs,g1,g2⟩:=Q.two;have:args'= #[x,y]:=zm.1 hargs;subst this;simp only[Ac]at g1 g2;obtain⟨r,m,g1,rfl⟩:=g1;subst g2;obtain⟨r',m',ob,k1,k2,c,fz',rfl,k4,k5,k6,k7⟩:=hr.obj b _ J;rw[g1]at k1;cases k1;obtain⟨j,z,j1,j2,_⟩:=K.inf e i X;have E:P.cellsOf e=1:=by simp[Program.cellsOf,j1,j2,M]
  have u:=LW O;have f:l.length=n:=by
   have:=wi List.length u;rw[List.length_take,List.length_map]at this;omega
  have D:w.shape? r=some (e,m):=by simp[World.shape?,k2,k4]
  have g:∀j x,l[j]?=some x->w.cell? ((⟨r,0,none⟩:Addr).add j)=some (.int .u8 x.toNat):=by
   intro j x F;have hj:=(zx.1 F).1;have Y:cs[j]?=some (.int .u8 (x.toNat:Int)):=by
    have:=wi (·[j]?) u;simp only[yc,F,yw]at this;rw[zp ae]at this;exact this
   obtain⟨v,G,s⟩:=k6.get Y rfl;simp only[Ac]at s;subst s;rw[zp ae]at G;rw[Addr.H2];simp only[World.cell?,k2];simpa using G
  have q:=Lib.run_unsafeString_row w pt I t e (K.und _ _ U) E r m D l (by intro h;subst h;simp at f;omega) ae ae g;obtain⟨L,B⟩:=V7 (n:=l.length) k2 ae;refine⟨.string<|bytesOf l,w.freeze ⟨r,0,none⟩ l.length,?_,by simp[Ac],?_⟩
  ·rw[<-f];exact q
  ·have k:(w.freeze ⟨r,0,none⟩ l.length).os=w.os/\(w.freeze ⟨r,0,none⟩ l.length).output=w.output/\(w.freeze ⟨r,0,none⟩ l.length).tape=w.tape:=by
    unfold World.freeze;split<;>exact⟨rfl,rfl,rfl⟩
   exact Ext.gone hr J g1 B k.1 k.2.1 k.2.2 (by
    intro cs' Z fz' W S;cases W;obtain⟨q1,q2,q3⟩:=S;omega)
end
mutual
def cv:Value->Option V
 | .bool b=>some<|.bool b
 | .int k n=>some<|.int k n
 | .string s=>some<|.str s.data.toList
 | .pointer none=>some .nilp
 | .slice none 0 0=>some .nils
 | .map none=>some .nilm
 | .nilFunc=>some .nilf
 | .nilIface=>some .nili
 | .func f ⟨[]⟩ ⟨[]⟩=>some<|.fn f [] []
 | .agg ⟨cs⟩=>(yW cs).map .agg
 | .tuple ⟨cs⟩=>(yW cs).map .tup
 |_=>none
def yW:List Value->Option (List V)
 |[]=>some []
 |v::vs=>match cv v,yW vs with
  |some x,some xs=>some (x::xs)
  |_,_=>none
end
mutual
theorem Ye(p:Pl):∀ {v:Value} {x:V},cv v=some x->Ac p x v
 | .bool b,x,h=>by simp[cv]at h;subst h;simp[Ac]
 | .int k n,x,h=>by simp[cv]at h;subst h;simp[Ac]
 | .string s,x,h=>by simp[cv]at h;subst h;simp[Ac,bytesOf]
 | .pointer none,x,h=>by simp[cv]at h;subst h;simp[Ac]
 | .pointer (some a),x,h=>by simp[cv]at h
 | .slice none 0 0,x,h=>by simp[cv]at h;subst h;simp[Ac]
 | .slice none 0 (_+1),x,h=>by simp[cv]at h
 | .slice none (_+1) _,x,h=>by simp[cv]at h
 | .slice (some a) _ _,x,h=>by simp[cv]at h
 | .map none,x,h=>by simp[cv]at h;subst h;simp[Ac]
 | .map (some a),x,h=>by simp[cv]at h
 | .nilFunc,x,h=>by simp[cv]at h;subst h;simp[Ac]
 | .nilIface,x,h=>by simp[cv]at h;subst h;simp[Ac]
 | .func f ⟨[]⟩ ⟨[]⟩,x,h=>by simp[cv]at h;subst h;simp[Ac]
 | .func f ⟨_::_⟩ _,x,h=>by simp[cv]at h
 | .func f ⟨[]⟩ ⟨_::_⟩,x,h=>by simp[cv]at h
 | .agg ⟨cs⟩,x,h=>by
  simp only[cv,zg]at h;obtain⟨xs,c,rfl⟩:=h;simp only[Ac];exact⟨_,rfl,Tq p c⟩
 | .tuple ⟨cs⟩,x,h=>by
  simp only[cv,zg]at h;obtain⟨xs,c,rfl⟩:=h;simp only[Ac];exact⟨_,rfl,Tq p c⟩
 | .float _ _,x,h=>by simp[cv]at h
 | .complex _ _ _,x,h=>by simp[cv]at h
 | .chan _,x,h=>by simp[cv]at h
 | .iface _ _,x,h=>by simp[cv]at h
theorem Tq(p:Pl):∀ {vs:List Value} {xs:List V},yW vs=some xs->Ax p xs vs
 |[],xs,h=>by simp[yW]at h;subst h;simp
 |v::vs,xs,h=>by
  unfold yW at h;split at h
  case h_2=>cases h
  rename_i x b d c;cases h;exact(Bk ..).2 ⟨Ye p d,Tq p c⟩
end
structure Fn where
 ntmps:Nat
 results:Array ResultVar
 body:Code
 cert:Bool
structure Ctx where
 T:Ce
 ng:Nat
 fn:FuncId->Option Fn
 prim:FuncId->Option (List V->H->Option (V×H))
 spec:FuncId->Option (List V->H->Option (V×H))
 mg:Bool
def Gl(_:Ctx)(p:Pl):Prop:=Gp p
theorem Gl.ext{C:Ctx}{p p':Pl}{h h':H}{w w':World}(b:Gl C p)(e:Ext p h w p' h' w'):Gl C p':=by
 obtain⟨q,rfl⟩:=e.pre;exact Gp.app b q
def ev(_:Ctx)(fr:Fr):Operand->Option V
 | .tmp t=>some<|fr.get t
 | .const v=>cv v
 | .global g=>bif gin g GB then some (.ptr g 0)else none
 | .func f=>some<|.fn (.func f) [] []
theorem Ba{C:Ctx}{p:Pl}{fr:Fr}{a:Act}(d:Gl C p)(k:CR p fr a){x:Operand}{v:V}(b:ev C fr x=some v):Ac p v (a.eval x):=by
 cases x with
 |tmp t=>simp only[ev,ze]at b;subst b;exact k.2 t
 |const v=>exact Ye p b
 |global g=>
  simp only[ev]at b;cases c:gin g GB with
  |true=>
   rw[c]at b;simp only[we,ze]at b;subst b;obtain⟨o,l⟩:=YJ c;simp only[Ac,Act.eval];exact⟨g,_,d _ l,rfl⟩
  |false=>rw[c]at b;cases b
 |func f=>simp only[ev,ze]at b;subst b;simp[Ac,Act.eval]
def R8(C:Ctx)(fr:Fr):List Operand->Option (List V)
 |[]=>some []
 |x::xs=>match ev C fr x,R8 C fr xs with
  |some v,some vs=>some (v::vs)
  |_,_=>none
theorem JP{C:Ctx}{p:Pl}{fr:Fr}{a:Act}(b:Gl C p)(c:CR p fr a):∀ {xs:List Operand} {vs:List V},R8 C fr xs=some vs->Ax p vs (xs.map a.eval)
 |[],vs,h=>by simp[R8]at h;subst h;simp
 |x::xs,vs,h=>by
  unfold R8 at h;split at h
  case h_2=>cases h
  rename_i v g f d;cases h;exact(Bk ..).2 ⟨Ba b c f,JP b c d⟩
def WS(C:Ctx)(fr:Fr):Option Operand->Option (Option V)
 |none=>some none
 |some x=>(ev C fr x).map some
theorem Ox{C:Ctx}{p:Pl}{fr:Fr}{a:Act}(c:Gl C p)(f:CR p fr a){x:Option Operand}{v:Option V}(b:WS C fr x=some v):Ge p v (x.map a.eval):=by
 cases x with
 |none=>simp[WS]at b;subst b;rfl
 |some x=>
  simp only[WS,zg]at b;obtain⟨u,d,rfl⟩:=b;exact⟨_,rfl,Ba c f d⟩
def XE(C:Ctx)(fr:Fr):List (Nat×Operand)->Option (List<|Nat×V)
 |[]=>some []
 |(i,x)::xs=>match ev C fr x,XE C fr xs with
  |some v,some vs=>some ((i,v)::vs)
  |_,_=>none
theorem OV{C:Ctx}{p:Pl}{fr:Fr}{a:Act}(b:Gl C p)(c:CR p fr a):∀ {xs:List (Nat×Operand)} {vs:List (Nat×V)},XE C fr xs=some vs->V5 p vs (xs.map fun(i,x)=>(i,a.eval x))
 |[],vs,h=>by simp[XE]at h;subst h;exact .nil
 |(i,x)::xs,vs,h=>by
  unfold XE at h;split at h
  case h_2=>cases h
  rename_i v g f d;cases h;exact .cons (Ba b c f)<|OV b c d
inductive OR where
 |val (v:V) (h:H)
 |skip (h:H)
 |enter (f:FuncId) (args:List V)
 |round (b:Nat) (l:LS) (fr:Fr)
 |alts (l:List (V×H))
def Fr.cM(f:Fr)(t:Nat)(v:V):Fr:=bif zl t f.n then⟨f.n,f.m.set t<|some v⟩else f
def GM:List Tmp->List V->Fr->Fr
 |t::ts,v::vs,f=>GM ts vs<|f.cM t v
 |_,_,f=>f
theorem FE.cM{p:Pl}{f:Fr}{tmps:Array Value}(d:FE p f tmps){v:V}{v':Value}(g:Ac p v v')(t:Nat):FE p (f.cM t v) (tmps.setIfInBounds t v'):=by
 unfold Fr.cM;simp only[HH];by_cases b:t<f.n
 ·simp only[b,decide_true,we];refine⟨by simp[d.1],fun s=>?_⟩;have c:t<tmps.size:=d.1▸b;by_cases e:s=t
  ·subst e;simp[Fr.get,c,g]
  ·have:=d.2 s;simp only[Fr.get,PM.Dq,wc e]at this ⊢;rw[zr,zj<|fun x=>e x.symm, <-zr];exact this
 ·simp only[b,decide_false,wg];have:tmps.setIfInBounds t v'=tmps:=by
   have:tmps.size<=t:=by have:=d.1;omega
   simp[Array.setIfInBounds,Nat.not_lt.2 this]
  rw[this];exact d
theorem FE.GM{p:Pl}:∀ {ts:List Tmp} {vs:List V} {b:List Value},Ax p vs b->∀ {f:Fr} {tmps:Array Value},FE p f tmps->FE p (GM ts vs f) ((ts.zip b).foldl (fun tmps (t,a)=>tmps.setIfInBounds t a) tmps)
 |[],vs,b,_,f,tmps,d=>by simpa [Det.GM]using d
 |t::ts,[],b,c,f,tmps,d=>by simp at c;subst c;simpa [Det.GM]using d
 |t::ts,v::vs,b,c,f,tmps,d=>by
  simp only[Ax]at c;obtain⟨u,l,rfl,k,g⟩:=c;simp only[Det.GM,List.zip_cons_cons,List.foldl_cons];exact FE.GM g<|d.cM k t
def BG(h:H):Option V->Option OR
 |some v=>some<|.val v h
 |none=>none
def FI:Option (V×H)->Option OR
 |some (v,h)=>some<|.val v h
 |none=>none
def gE:Option H->Option OR
 |some h=>some<|.skip h
 |none=>none
def EK(C:Ctx)(h:H)(b:Builtin)(ts:Array TypeId)(args:List V):Option OR:=
 match b with
 | .len=>BG h<|Gn C.T h ts args
 | .append=>FI<|GS C.T h ts args
 | .copy=>FI<|jA C.T h ts args
 | .max=>BG h<|GK lO args
 | .min=>BG h<|GK fV args
 | .cap=>BG h<|AaE C.T ts args
 | .delete=>FI<|LL C.T h ts args
 | .clear=>FI<|Gf C.T h ts args
 | .unsafeSliceData=>BG h<|O4 args
 | .unsafeString=>FI<|R4 C.T h ts.toList args
 |_=>none
def Mg(C:Ctx)(h:H)(f:V)(args:List V):Option OR:=
 match f with
 | .fn (.func g) first captured=>
  match C.prim g with
  |some q=>FI<|q (first++args++captured) h
  |none=>match C.fn g with
   |some _=>some<|.enter g<|first++args++captured
   |none=>none
 | .yld b=>match h.get b with
  |some (.loop l)=>bif zh args.length l.ps.size then some (.round b l<|GM l.ps.toList args l.fr)else none
  |_=>none
 |_=>none
def OM(C:Ctx)(h:H)(x:V)(name:String)(args:List V):Option OR:=
 match x with
 | .iface t v=>match C.T.mth t name with
  |some g=>Mg C h (.fn (.func g) [] []) (v::args)
  |none=>none
 |_=>none
def Z4:Operand->Bool
 | .const _=>true
 |_=>false
def rJ(T:Ce)(op:BinOp)(t:TypeId)(x y:Operand)(v u:V):Option V:=
 match op,v,u,T.und t with
 | .eql,.nili,.nili,some (.interface _)=>bif Z4 x||Z4 y then some (.bool true)else none
 | .neq,.nili,.nili,some (.interface _)=>bif Z4 x||Z4 y then some (.bool false)else none
 |_,_,_,_=>none
def NB(T:Ce)(op:BinOp)(t:TypeId)(x y:Operand)(v u:V):Option V:=
 match rJ T op t x y v u with
 |some r=>some r
 |none=>MI T op t v u
def He(C:Ctx)(fr:Fr)(h:H)(o:Oper):Option OR:=
 let ρ:=ev C fr
 match o.op with
 | .move x| .assign x=>BG h<|ρ x
 | .pick c a b=>match ρ c with
  |some (.bool t)=>BG h<|if t then ρ a else ρ b
  |_=>none
 | .alloc t=>FI<|Ha C.T h t
 | .box t x=>FI<|(ρ x).map fun v=>bY h t v
 | .build t q=>match XE C fr q.toList with
  |some ps=>BG h<|KT C.T t ps
  |none=>none
 | .buildSlice t n q=>match XE C fr q.toList with
  |some ps=>FI<|Fe C.T h t n ps
  |none=>none
 | .load t x=>match ρ x with
  |some v=>BG h<|Fl C.T h t v
  |none=>none
 | .store t x y=>match ρ x,ρ y with
  |some v,some u=>gE<|H8 C.T h t v u
  |_,_=>none
 | .nilCheck x=>match ρ x with
  |some (.ptr b i)=>BG h<|some<|.ptr b i
  |some (.iface t v)=>BG h<|some<|.iface t v
  |_=>none
 | .binOp op t x y _=>match ρ x,ρ y with
  |some v,some u=>BG h<|NB C.T op t x y v u
  |_,_=>none
 | .unOp op _ x=>match ρ x with
  |some v=>BG h<|dun op v
  |none=>none
 | .convert s d x=>match ρ x with
  |some v=>BG h<|Gy C.T h s d v
  |none=>none
 | .makeInterface t x=>match ρ x,C.T.und t with
  |some v,some d=>match d with
   | .interface _=>none
   |_=>BG h<|some<|.iface t v
  |_,_=>none
 | .makeFunc f first captured=>match R8 C fr first.toList,R8 C fr captured.toList with
  |some a,some b=>BG h<|some<|.fn f a b
  |_,_=>none
 | .makeMap _ r=>match WS C fr r with
  |some v=>FI<|IV h v
  |none=>none
 | .makeSlice t l c=>match ρ l,ρ c with
  |some v,some u=>FI<|P8 C.T h t v u
  |_,_=>none
 | .slice t x lo B mx=>match ρ x,WS C fr lo,WS C fr B,WS C fr mx with
  |some v,some l,some r,some m=>BG h<|DP C.T t v l r m
  |_,_,_,_=>none
 | .fieldAddr t x f=>match ρ x with
  |some v=>BG h<|Kx C.T t v f
  |none=>none
 | .field t x f=>match ρ x with
  |some v=>BG h<|K3 C.T t v f
  |none=>none
 | .indexAddr t x i=>match ρ x,ρ i with
  |some v,some u=>BG h<|Dn C.T t v u
  |_,_=>none
 | .index t x i=>match ρ x,ρ i with
  |some v,some u=>BG h<|Ia C.T t v u
  |_,_=>none
 | .lookup t x i ok=>match ρ x,ρ i with
  |some v,some u=>BG h<|Fb C.T h t v u ok
  |_,_=>none
 | .mapUpdate t m k x| .insert t m k x=>match ρ m,ρ k,ρ x with
  |some a,some b,some c=>gE<|HZ C.T h t a b c
  |_,_,_=>none
 | .range t x=>match ρ x with
  |some v=>FI<|Ic C.T h t v
  |none=>none
 | .next x A=>match ρ x with
  |some v=>bif A then FI (NN h v A)else(SW h v A).map .alts
  |none=>none
 | .entry x=>match ρ x with
  |some v=>BG h<|Tm h v
  |none=>none
 | .extract x i=>match ρ x with
  |some v=>BG h<|HF v i
  |none=>none
 | .call c=>match c.callee,R8 C fr c.args.toList with
  | .builtin b,some args=>EK C h b c.argTypes args
  | .value f,some args=>match ρ f with
   |some g=>Mg C h g args
   |none=>none
  | .invoke x D,some args=>match ρ x with
   |some v=>OM C h v D args
   |none=>none
  |_,_=>none
 |_=>none
abbrev GD:=Ctx->Fr->H->Option OR
def Abe(a0:Operand):GD:=fun C fr h=>BG h<|ev C fr a0
def mG(a0:Operand):GD:=fun C fr h=>BG h<|ev C fr a0
def AaO(a0:Operand)(a1:Operand)(a2:Operand):GD:=fun C fr h=>match ev C fr a0 with|some (.bool t)=>BG h (if t then ev C fr a1 else ev C fr a2)|_=>none
def uI(a0:TypeId):GD:=fun C _fr h=>FI<|Ha C.T h a0
def Ad3(a0:TypeId)(a1:Operand):GD:=fun C fr h=>FI<|(ev C fr a1).map fun v=>bY h a0 v
def wA(a0:TypeId)(a1:Array (Nat×Operand)):GD:=fun C fr h=>match XE C fr a1.toList with|some ps=>BG h (KT C.T a0 ps)|none=>none
def Tf(a0:TypeId)(a1:Nat)(a2:Array (Nat×Operand)):GD:=fun C fr h=>match XE C fr a2.toList with|some ps=>FI (Fe C.T h a0 a1 ps)|none=>none
def jR(a0:TypeId)(a1:Operand)(a2:Operand)(a3:Operand):GD:=fun C fr h=>match ev C fr a1,ev C fr a2,ev C fr a3 with|some a,some b,some c=>gE (HZ C.T h a0 a b c)|_,_,_=>none
def Ab9(a0:TypeId)(a1:Operand):GD:=fun C fr h=>match ev C fr a1 with|some v=>BG h (Fl C.T h a0 v)|none=>none
def vG(a0:TypeId)(a1:Operand)(a2:Operand):GD:=fun C fr h=>match ev C fr a1,ev C fr a2 with|some v,some u=>gE (H8 C.T h a0 v u)|_,_=>none
def sR(_a0:Nat):GD:=fun _ _ _=>none
def xC(_a0:Nat):GD:=fun _ _ _=>none
def XM(a0:Operand):GD:=fun C fr h=>match ev C fr a0 with|some (.ptr b i)=>BG h (some<|.ptr b i)|some (.iface t v)=>BG h (some<|.iface t v)|_=>none
def yI(a0:BinOp)(a1:TypeId)(a2:Operand)(a3:Operand)(_a4:TypeId):GD:=fun C fr h=>match ev C fr a2,ev C fr a3 with|some v,some u=>BG h (NB C.T a0 a1 a2 a3 v u)|_,_=>none
def Aco(a0:UnOp)(_a1:TypeId)(a2:Operand):GD:=fun C fr h=>match ev C fr a2 with|some v=>BG h (dun a0 v)|none=>none
def eQ(a0:TypeId)(a1:TypeId)(a2:Operand):GD:=fun C fr h=>match ev C fr a2 with|some v=>BG h (Gy C.T h a0 a1 v)|none=>none
def IE(_a0:TypeId)(_a1:Operand):GD:=fun _ _ _=>none
def N9(a0:TypeId)(a1:Operand):GD:=fun C fr h=>match ev C fr a1,C.T.und a0 with|some v,some d=>(match d with| .interface _=>none|_=>BG h<|some<|.iface a0 v)|_,_=>none
def Xe(a0:Go.Fn)(a1:Array Operand)(a2:Array Operand):GD:=fun C fr h=>match R8 C fr a1.toList,R8 C fr a2.toList with|some a,some b=>BG h (some<|.fn a0 a b)|_,_=>none
def cL(_a0:TypeId)(a1:Option Operand):GD:=fun C fr h=>match WS C fr a1 with|some v=>FI (IV h v)|none=>none
def W3(_a0:TypeId)(_a1:Operand):GD:=fun _ _ _=>none
def VK(a0:TypeId)(a1:Operand)(a2:Operand):GD:=fun C fr h=>match ev C fr a1,ev C fr a2 with|some v,some u=>FI (P8 C.T h a0 v u)|_,_=>none
def uP(a0:TypeId)(a1:Operand)(a2:Option Operand)(a3:Option Operand)(a4:Option Operand):GD:=fun C fr h=>match ev C fr a1,WS C fr a2,WS C fr a3,WS C fr a4 with|some v,some l,some r,some m=>BG h (DP C.T a0 v l r m)|_,_,_,_=>none
def US(a0:TypeId)(a1:Operand)(a2:Nat):GD:=fun C fr h=>match ev C fr a1 with|some v=>BG h (Kx C.T a0 v a2)|none=>none
def rU(a0:TypeId)(a1:Operand)(a2:Nat):GD:=fun C fr h=>match ev C fr a1 with|some v=>BG h (K3 C.T a0 v a2)|none=>none
def WQ(a0:TypeId)(a1:Operand)(a2:Operand):GD:=fun C fr h=>match ev C fr a1,ev C fr a2 with|some v,some u=>BG h (Dn C.T a0 v u)|_,_=>none
def sU(a0:TypeId)(a1:Operand)(a2:Operand):GD:=fun C fr h=>match ev C fr a1,ev C fr a2 with|some v,some u=>BG h (Ia C.T a0 v u)|_,_=>none
def kJ(a0:TypeId)(a1:Operand)(a2:Operand)(a3:Bool):GD:=fun C fr h=>match ev C fr a1,ev C fr a2 with|some v,some u=>BG h (Fb C.T h a0 v u a3)|_,_=>none
def We(a0:TypeId)(a1:Operand)(a2:Operand)(a3:Operand):GD:=fun C fr h=>match ev C fr a1,ev C fr a2,ev C fr a3 with|some a,some b,some c=>gE (HZ C.T h a0 a b c)|_,_,_=>none
def Xh(_a0:TypeId)(_a1:Operand)(_a2:Operand):GD:=fun _ _ _=>none
def TF(_a0:TypeId)(_a1:Operand)(_a2:Operand)(_a3:Operand):GD:=fun _ _ _=>none
def yB(a0:TypeId)(a1:Operand):GD:=fun C fr h=>match ev C fr a1 with|some v=>FI (Ic C.T h a0 v)|none=>none
def AbH(a0:Operand)(a1:Bool):GD:=fun C fr h=>match ev C fr a0 with|some v=>bif a1 then FI (NN h v a1)else(SW h v a1).map .alts|none=>none
def wR(a0:Operand):GD:=fun C fr h=>match ev C fr a0 with|some v=>BG h (Tm h v)|none=>none
def Ua(_a0:Operand)(_a1:TypeId)(_a2:TypeId)(_a3:Bool):GD:=fun _ _ _=>none
def eF(a0:Operand)(a1:Nat):GD:=fun C fr h=>match ev C fr a0 with|some v=>BG h (HF v a1)|none=>none
def Abl(a0:Call):GD:=fun C fr h=>match a0.callee,R8 C fr a0.args.toList with| .builtin b,some args=>EK C h b a0.argTypes args| .value f,some args=>(match ev C fr f with|some g=>Mg C h g args|none=>none)| .invoke x c,some args=>(match ev C fr x with|some v=>OM C h v c args|none=>none)|_,_=>none
def AeR(_a0:Call):GD:=fun _ _ _=>none
def uJ(_a0:Call):GD:=fun _ _ _=>none
def wJ(_a0:Operand):GD:=fun _ _ _=>none
def AbO(_a0:Operand)(_a1:Operand):GD:=fun _ _ _=>none
def Abu(_a0:TypeId)(_a1:Operand)(_a2:Bool):GD:=fun _ _ _=>none
def gP(_a0:Array SelectCase)(_a1:Bool):GD:=fun _ _ _=>none
def opF(o:Op):GD:=@Op.casesOn (fun _=>GD) o Abe mG AaO uI Ad3 wA Tf jR Ab9 vG sR xC XM yI Aco eQ IE N9 Xe cL W3 VK uP US rU WQ sU kJ We Xh TF yB AbH wR Ua eF Abl AeR uJ wJ AbO Abu gP
def GN(C:Ctx)(fr:Fr)(h:H)(o:Oper):Option OR:=opF o.op C fr h
theorem Dc(C:Ctx)(fr:Fr)(h:H)(o:Oper):GN C fr h o=He C fr h o:=by
 unfold GN He;cases o.op<;>rfl
def Jm(C:Ctx)(fr:Fr)(h:H)(o:Oper):Option OR:=
 match GN C fr h o with
 |some r=>some r
 |none=>match o.op with
  | .convert s d x=>match ev C fr x with
   |some v=>match Bc C.T h s d v with
    |some u=>some<|.val u h
    |none=>FI<|Tv C.T h s d v
   |none=>none
  |_=>none
structure Ctx.Ok(C:Ctx)(P:Program):Prop where
 T:C.T.Ok P
 fn : ∀ f i, C.fn f = some i -> ∃ fn, P.funcs[f]? = some fn /\ fn.name ≠ "runtime.NumGoroutine" /\ fn.body = some i.body /\ fn.ntmps = i.ntmps /\ fn.results = i.results
 prim:∀f q,C.prim f=some q->∀(p:Pl) (h:H) (w:World) (args:List V) (args':Array Value) v h',R p h w->Gl C p->Ax p args args'.toList->q args h=some (v,h')->
  ∃v' p' w',(callFunc f args').run P w=.ok (.value v') w'/\Ac p' v v'/\Ext p h w p' h' w'
 spec:∀f q,C.spec f=some q->∀(p:Pl) (h:H) (w:World) (args:List V) (args':Array Value) v h',R p h w->Gl C p->Ax p args args'.toList->q args h=some (v,h')->
  Calls P f args' w fun e w'=>∃v' p',e=.returned v'/\Ac p' v v'/\Ext p h w p' h' w'
def UI(p:Pl)(h:H)(w:World):OR->Result Next->Prop
 | .val v h',r=>∃v' p' w',r=.ok (.value v') w'/\Ac p' v v'/\Ext p h w p' h' w'
 | .skip h',r=>∃p' w',r=.ok .skip w'/\Ext p h w p' h' w'
 | .enter f args,r=>∃args',r=.ok (.enter f args') w/\Ax p args args'.toList
 | .round b l fr,r=>∃k n f tmps,p[b]?=some (k,n)/\h.get b=some (.loop l)/\r=.ok (.round k f tmps l.asg l.body) w/\FE p fr tmps
 | .alts l,r=>∃v h' v' p' w',(v,h')∈l/\r=.ok (.value v') w'/\Ac p' v v'/\Ext p h w p' h' w'
section
variable {C:Ctx}{P:Program}{p:Pl}{h:H}{w:World}{fr:Fr}{a:Act}
theorem B8{s:Sem Value}{v:Option V}{r:OR}(hr:R p h w)(b:BG h v=some r)(f:∀x,v=some x->∃v',s.run P w=.ok v' w/\Ac p x v'):UI p h w r ((do pure (.value<|<-s):Sem Next).run P w):=by
 cases v with
 |none=>simp[BG]at b
 |some x=>
  simp only[BG,ze]at b;subst b;obtain⟨v',d,c⟩:=f x rfl;exact⟨v',p,w,by simp[d],c,zu hr⟩
theorem DL{s:Sem Value}{v:Option (V×H)}{r:OR}(b:FI v=some r)(c:∀x h',v=some (x,h')->∃v' p' w',s.run P w=.ok v' w'/\Ac p' x v'/\Ext p h w p' h' w'):UI p h w r ((do pure (.value<|<-s):Sem Next).run P w):=by
 match v,b,c with
 |some (x,h'),b,c=>
  simp only[FI,ze]at b;subst b;obtain⟨v',p',w',f,d,g⟩:=c x h' rfl;exact⟨v',p',w',by simp[f],d,g⟩
 |none,b,_=>simp[FI]at b
theorem YS{s:Sem Unit}{v:Option H}{r:OR}(b:gE v=some r)(f:∀h',v=some h'->∃w',s.run P w=.ok () w'/\Ext p h w p h' w'):UI p h w r ((do s;pure .skip:Sem Next).run P w):=by
 cases v with
 |none=>simp[gE]at b
 |some h'=>
  simp only[gE,ze]at b;subst b;obtain⟨w',d,c⟩:=f h' rfl;exact⟨p,w',by simp[d],c⟩
theorem MK(I:C.Ok P)(hr:R p h w)(M:Gl C p){f:V}{K:Value}{args:List V}{args':Array Value}(D:Ac p f K)(E:Ax p args args'.toList){r:OR}(c:Mg C h f args=some r):
  UI p h w r ((do let d<-ye K args';invoke d.target d.args:Sem Next).run P w):=by
 unfold Mg at c;split at c
 case h_3=>cases c
 case h_2=>
  rename_i b;split at c
  case h_2=>cases c
  rename_i l L;rw[Bw]at c;by_cases F:args.length=l.ps.size
  ·simp only[F,decide_true,we,ze]at c;subst c;simp only[Ac]at D;obtain⟨k,n,hp,rfl⟩:=D;obtain⟨k',n',o,u,A,f0,tmps,r,m,B,S,rfl⟩:=hr.obj _ _ L;rw[hp]at u;cases u;have J:=E.length;simp only[ye,zd,zf,zc,invoke];simp at J;have e:((l.ps.zip args').foldl (fun tmps (t,a)=>tmps.setIfInBounds t a) tmps)=(l.ps.toList.zip args'.toList).foldl (fun tmps (t,a)=>tmps.setIfInBounds t a) tmps:=by
    rw[<-Array.toList_zip,Array.foldl_toList]
   have G:=FE.GM (ts:=l.ps.toList) E B;rw[<-e]at G;refine⟨k,n,f0,_,hp,L,?_,G⟩;simp only[Array.empty_append];exact run_yield A (by rw[<-J,F])
  ·simp[F]at c
 rename_i g first captured
 simp only[Ac]at D;obtain⟨x,y,rfl,N,Q⟩:=D;have s:Ax p (first++args++captured) (x++args'++y).toList:=by
  simpa using(N.append E).append Q
 simp only[ye,zd,zf,zc,invoke];split at c
 case h_1=>
  rename_i q O;match hqr:q (first++args++captured) h,c with
  |some (v,h'),c=>
   simp only[FI,ze]at c;subst c;obtain⟨v',p',w',u,A,B⟩:=I.prim g q O p h w _ _ v h' hr M s hqr;exact⟨v',p',w',u,A,B⟩
  |none,c=>simp[FI]at c
 case h_2=>
  split at c
  case h_2=>cases c
  rename_i i U;cases c;obtain⟨fn,u,A,B,S,G⟩:=I.fn g i U;refine⟨_,?_,s⟩;unfold callFunc;simp[u,A,B]
theorem Vh(u:C.Ok P)(hr:R p h w)(B:Gl C p){x:V}{x':Value}{name:String}{args:List V}{args':Array Value}(s:Ac p x x')(F:Ax p args args'.toList){r:OR}(c:OM C h x name args=some r):
  UI p h w r ((invoke (.fn (.method name) #[])<|#[x']++args').run P w):=by
 unfold OM at c;split at c
 case h_2=>cases c
 rename_i t v;split at c
 case h_2=>cases c
 rename_i g A;simp only[Ac]at s;obtain⟨y,rfl,D⟩:=s;obtain⟨j,m,d,h1,h2,h3,h4,h5,h6⟩:=u.T.mth t name g A;have key:(invoke (.fn (.method name) #[])<|#[.iface t y]++args').run P w=((do let d<-ye (.func (.func g) #[] #[]) (#[y]++args');invoke d.target d.args:Sem Next).run P w):=by
  have l:(underlying t).run P w=.ok d w:=by unfold underlying;simp[h5]
  have q:(typeInfo t).run P w=.ok j w:=by unfold typeInfo;simp[h1]
  have b:∀k,(method (k+1) t y name).run P w=.ok (g,y) w:=by
   intro k;unfold method;simp only[zd,q,zc,h2,h3,follow,zf,h4];unfold receiverAt;simp only[zd,l,zc,Place.get];cases d<;>first|(exact wh rfl (h6 _))|simp
  have o:=b<|P.types.size+99;have e:P.types.size+Made.depth=P.types.size+99+1:=rfl;have h0:(#[Value.iface t y]++args')[0]?=some (.iface t y):=by
   rw[<-zn];simp
  have E:(#[Value.iface t y]++args').extract 1 (#[Value.iface t y]++args').size=args':=by
   rw[<-zm];simp
  simp only[invoke,ye,h0,E];simp[callMethod,e,o]
 rw[key];exact MK u hr B (f:=.fn (.func g) [] []) (by simp[Ac]) (by simp;exact⟨D,F⟩) c
theorem Vm(g:C.Ok P)(hr:R p h w){b:Builtin}{ts:Array TypeId}{t:TypeId}{cs:Array Bool}{args:List V}{args':Array Value}(f:Ax p args args'.toList){r:OR}(d:EK C h b ts args=some r):
  UI p h w r ((builtin b ts t cs args').run P w):=by
 unfold EK at d;split at d
 case h_1=>exact B8 hr d fun x c=>rF g.T hr f c
 case h_2=>exact DL d fun x h' c=>X5 g.T hr f c
 case h_3=>exact DL d fun x h' c=>lU g.T hr f c
 case h_4=>exact B8 hr d fun x c=>wY f c
 case h_5=>exact B8 hr d fun x c=>yA f c
 case h_6=>exact B8 hr d fun x c=>sO g.T f c
 case h_7=>exact DL d fun x h' c=>XB g.T hr f c
 case h_8=>exact DL d fun x h' c=>eE g.T hr f c
 case h_9=>exact B8 hr d fun x c=>bW f c
 case h_10=>
  refine DL d fun x h' c=>?_
  obtain⟨v',w',k,l,m⟩:=mY (t:=t) g.T hr f c;exact⟨v',p,w',k,l,m⟩
 case h_11=>cases d
theorem jC{T:Ce}(s:T.Ok P){op:BinOp}{t:TypeId}{x y:Operand}{v u:V}{v' A:Value}(g:Ac p v v')(l:Ac p u A){z:V}(m:NB T op t x y v u=some z):
  ∃E,(do eqGuard op t x y v' A;binOp op t v' A:Sem Value).run P w=.ok E w/\Ac p z E:=by
 unfold NB at m;split at m
 case h_2=>
  simp only[zd,cW s g l m,zc];exact uX s g l m
 case h_1=>
  rename_i r hr;cases m;have D:∀ {b:Bool},(bif Z4 x||Z4 y then some (V.bool b)else none)=some z->z=.bool b/\((∃c,x=.const c)\/∃c,y=.const c):=by
   intro b k;cases f:(Z4 x||Z4 y)with
   |false=>simp[f]at k
   |true=>
    simp only[f,we,ze]at k;refine⟨k.symm,?_⟩;simp only[qh]at f;rcases f with f|f
    ·left;cases x<;>first|exact⟨_,rfl⟩|cases f
    ·right;cases y<;>first|exact⟨_,rfl⟩|cases f
  have B:∀op,(op=.eql\/op=.neq)->((∃c,x=.const c)\/∃c,y=.const c)->(eqGuard op t x y .nilIface .nilIface).run P w=.ok () w:=by
   intro op F f;rcases F with rfl|rfl<;>unfold eqGuard<;>rcases f with⟨c,rfl⟩|⟨c,rfl⟩<;>simp
  have o:∀ {q},T.und t=some (.interface q)->(Op.equal t .nilIface .nilIface).run P w=.ok true w:=by
   intro q d;unfold Op.equal Op.maxDepth Op.equalIn;rw[zd,AA s d];rfl
  unfold rJ at hr;split at hr
  case h_1=>
   rename_i q d;obtain⟨rfl,f⟩:=D hr;have k:=(Oh (t:=t) (y':=.nilIface) g rfl).1;simp only[Ac]at g l;subst g l;refine⟨.bool true,?_,by simp[Ac]⟩;rw[zd,B .eql (.inl rfl) f,zc,k,zd,o d];rfl
  case h_2=>
   rename_i q d;obtain⟨rfl,f⟩:=D hr;have k:=(Oh (t:=t) (y':=.nilIface) g rfl).2;simp only[Ac]at g l;subst g l;refine⟨.bool false,?_,by simp[Ac]⟩;rw[zd,B .neq (.inr rfl) f,zc,k,zd,o d];rfl
  case h_3=>cases hr
theorem pX(G:C.Ok P)(hr:R p h w)(B:Gl C p)(D:CR p fr a){o:Oper}{r:OR}(q:GN C fr h o=some r):UI p h w r ((execOp a.eval o).run P w):=by
 rw[Dc]at q;unfold He at q;unfold execOp;cases ho:o.op<;>simp only[ho]at q ⊢<;>try (cases q;done)
 case move x|assign x=>
  cases A:ev C fr x with
  |none=>simp[A,BG]at q
  |some v=>simp[A,BG]at q;subst q;exact⟨_,p,w,rfl,Ba B D A,zu hr⟩
 case pick c x y=>
  split at q
  case h_2=>cases q
  rename_i t hc;have Q:=Ba B D hc;simp only[Ac]at Q;simp only[zd,Q,asBool,zf,zc];cases t
  ·cases A:ev C fr y with
   |none=>simp[A,BG]at q
   |some v=>simp[A,BG]at q;subst q;exact⟨_,p,w,by simp,Ba B D A,zu hr⟩
  ·cases A:ev C fr x with
   |none=>simp[A,BG]at q
   |some v=>simp[A,BG]at q;subst q;exact⟨_,p,w,by simp,Ba B D A,zu hr⟩
 case alloc t=>exact DL q fun x h' A=>cP G.T hr A
 case box t x=>
  refine DL q fun v h' A=>?_
  rw[zg]at A;obtain⟨u,J,L⟩:=A;have:=xR (P:=P) (t:=t) hr<|Ba B D J;rw[L]at this;exact this
 case build t O=>
  split at q
  case h_2=>cases q
  rename_i ps M;refine B8 hr q fun x A=>bD G.T ?_ A
  have:=OV B D M;simpa using this
 case buildSlice t n O=>
  split at q
  case h_2=>cases q
  rename_i ps M;refine DL q fun x h' A=>X3 G.T hr ?_ A
  have:=OV B D M;simpa using this
 case load t x=>
  split at q
  case h_2=>cases q
  rename_i v E;exact B8 hr q fun x A=>Wd G.T hr (Ba B D E) A
 case store t x y=>
  split at q
  case h_2=>cases q
  rename_i v u E J;exact YS q fun h' A=>cH G.T hr (Ba B D E) (Ba B D J) A
 case nilCheck x=>
  split at q
  case h_3=>cases q
  case h_1=>
   rename_i b i E;have A:=Ba B D E;have K:=A;simp only[Ac]at K;obtain⟨Y,n,hp,L⟩:=K;simp only[BG,ze]at q;subst q;rw[L];exact⟨_,p,w,rfl,L▸A,zu hr⟩
  case h_2=>
   rename_i t v E;have A:=Ba B D E;have K:=A;simp only[Ac]at K;obtain⟨y,L,_⟩:=K;simp only[BG,ze]at q;subst q;rw[L];exact⟨_,p,w,rfl,L▸A,zu hr⟩
 case binOp op t x y t2=>
  split at q
  case h_2=>cases q
  rename_i v u E J;refine B8 hr q fun z N=>?_
  exact jC G.T (Ba B D E) (Ba B D J) N
 case unOp op t x=>
  split at q
  case h_2=>cases q
  rename_i v E;exact B8 hr q fun x A=>AbF (Ba B D E) A
 case convert s d x=>
  split at q
  case h_2=>cases q
  rename_i v E;exact B8 hr q fun x A=>iX G.T hr (Ba B D E) A
 case makeInterface t x=>
  split at q
  case h_2=>cases q
  rename_i v d E W;split at q
  case h_1=>cases q
  case h_2=>
   rename_i V;refine B8 hr q fun z N=>?_
   cases N;refine⟨.iface t<|a.eval x,?_,by simp only[Ac];exact⟨_,rfl,Ba B D E⟩⟩;unfold Instr.makeInterface;simp only[zd,AA G.T W,zc];cases d<;>first|rfl|exact wh rfl (V _)
 case makeFunc f first captured=>
  split at q
  case h_2=>cases q
  rename_i x y A Z;refine B8 hr q fun z N=>?_
  cases N;exact⟨_,rfl,by simp only[Ac];exact⟨_,_,rfl,by simpa using JP B D A,by simpa using JP B D Z⟩⟩
 case makeMap t x=>
  split at q
  case h_2=>cases q
  rename_i v E;exact DL q fun x h' A=>Wy hr (Ox B D E) A
 case makeSlice t l c=>
  split at q
  case h_2=>cases q
  rename_i v u E J;exact DL q fun x h' A=>pU G.T hr (Ba B D E) (Ba B D J) A
 case slice t x lo hi mx=>
  split at q
  case h_2=>cases q
  rename_i v l Y m E S U hm;exact B8 hr q fun x A=>bX G.T (Ba B D E) (Ox B D S) (Ox B D U) (Ox B D hm) A
 case fieldAddr t x f=>
  split at q
  case h_2=>cases q
  rename_i v E;exact B8 hr q fun x A=>dH G.T (Ba B D E) A
 case field t x f=>
  split at q
  case h_2=>cases q
  rename_i v E;exact B8 hr q fun x A=>dR G.T (Ba B D E) A
 case indexAddr t x i=>
  split at q
  case h_2=>cases q
  rename_i v u E J;exact B8 hr q fun x A=>eV G.T (Ba B D E) (Ba B D J) A
 case index t x i=>
  split at q
  case h_2=>cases q
  rename_i v u E J;exact B8 hr q fun x A=>dZ G.T (Ba B D E) (Ba B D J) A
 case lookup t x i ok=>
  split at q
  case h_2=>cases q
  rename_i v u E J;exact B8 hr q fun x A=>XR G.T hr (Ba B D E) (Ba B D J) A
 case mapUpdate t m k x|insert t m k x=>
  split at q
  case h_2=>cases q
  rename_i v u z E J N;exact YS q fun h' A=>Yd G.T hr (Ba B D E) (Ba B D J) (Ba B D N) A
 case range t x=>
  split at q
  case h_2=>cases q
  rename_i v E;exact DL q fun x h' A=>XA G.T hr (Ba B D E) A
 case next x b=>
  split at q
  case h_2=>cases q
  rename_i v E;cases b with
  |true=>simp only[we]at q;exact DL q fun x h' A=>kV hr (Ba B D E) A
  |false=>
   simp only[wg,zg]at q;obtain⟨l,S,rfl⟩:=q;obtain⟨v,h',v',p',w',g1,g2,g3,g4⟩:=eK (P:=P) (t:=o.type) hr (Ba B D E) S;exact⟨v,h',v',p',w',g1,by simp only[zd,g2,zc,zf],g3,g4⟩
 case entry x=>
  split at q
  case h_2=>cases q
  rename_i v E;exact B8 hr q fun x A=>eJ hr (Ba B D E) A
 case extract x i=>
  split at q
  case h_2=>cases q
  rename_i v E;exact B8 hr q fun x A=>Wm (Ba B D E) A
 case call c=>
  split at q
  case h_4=>cases q
  case h_1=>
   rename_i b args I F;have:=JP B D F;unfold resolve;simp only[I,zd,zf,zc,invoke];exact Vm G hr (by simpa using this) q
  case h_2=>
   rename_i f args I F;split at q
   case h_2=>cases q
   rename_i g X;have:=JP B D F;unfold resolve;simp only[I];exact MK G hr B (Ba B D X) (by simpa using this) q
  case h_3=>
   rename_i x nm args I F;split at q
   case h_2=>cases q
   rename_i v E;have:=JP B D F;unfold resolve;simp only[I,zd,zf,zc];exact Vh G hr B (Ba B D E) (by simpa using this) q
theorem Ly(l:C.Ok P)(hr:R p h w)(f:Gl C p)(k:CR p fr a){o:Oper}{r:OR}(b:Jm C fr h o=some r):UI p h w r ((execOp a.eval o).run P w):=by
 unfold Jm at b;split at b
 case h_1=>
  rename_i A c;cases b;exact pX l hr f k c
 case h_2=>
  split at b
  case h_2=>cases b
  rename_i s d x y;split at b
  case h_2=>cases b
  rename_i v m;unfold execOp;simp only[y];split at b
  case h_1=>
   rename_i u q;exact B8 (v:=some u) hr b fun x g=>by cases g;exact rH l.T hr (Ba f k m) q
  exact DL b fun x h' g=>cX l.T hr (Ba f k m) g
end
def Bg(fr:Fr)(ops:Array Oper)(o:Oper):Bool:=
 match o.guard with
 |none=>true
 |some (j,c)=>
  match (ops[j]?).bind (·.dst)with
  |some t=>bif zl t fr.n then(match fr.get t with| .bool b=>b==c|_=>false)else false
  |none=>false
inductive Cl where
 |fn (f:FuncId) (args:List V)
 |rnd (b:Nat) (l:LS) (fr:Fr)
abbrev DO:=Cl->H->Option (List<|V×H)
def bl{α d:Type}:List α->(α->Option (List d))->Option (List d)
 |[],_=>some []
 |a::c,f=>match f a with
  |none=>none
  |some x=>match c with
   |[]=>some x
   |b::g=>match bl (b::g) f with
    |some y=>some<|x++y
    |none=>none
theorem IN{α o:Type}{f:α->Option (List o)}:∀ {l:List α} {r:List o},bl l f=some r->∀a∈l,∃x,f a=some x/\∀b∈x,b∈r
 |[],r,_,a,g=>by cases g
 |[c],r,h,a,g=>by
  unfold bl at h;split at h
  ·cases h
  rename_i x m;cases h;cases zy.1 g;exact⟨_,m,fun b k=>k⟩
 |c::d::q,r,h,a,g=>by
  unfold bl at h;split at h
  ·cases h
  rename_i x m;simp only at h;split at h
  case h_2=>cases h
  rename_i y v;cases h;rcases qn.1 g with rfl|g
  ·exact⟨_,m,fun b k=>List.mem_append_left _ k⟩
  ·obtain⟨z,u,s⟩:=IN v a g;exact⟨z,u,fun b k=>yo _<|s b k⟩
def Il(fr:Fr)(d:Option Nat):List (V×H)->Option (List<|Fr×H)
 |[]=>some []
 |(v,h)::l=>match fr.put d v with
  |some f=>match Il fr d l with
   |some r=>some ((f,h)::r)
   |none=>none
  |none=>none
theorem O5{fr:Fr}{d:Option Nat}:∀ {l:List (V×H)} {r:List (Fr×H)},Il fr d l=some r->∀v h,(v,h)∈l->∃f,fr.put d v=some f/\(f,h)∈r
 |[],r,_,v,h,hm=>by cases hm
 |(u,k)::l,r,b,v,h,hm=>by
  unfold Il at b;split at b
  case h_2=>cases b
  rename_i f o;split at b
  case h_2=>cases b
  rename_i q hr;cases b;rcases qn.1 hm with e|hm
  ·cases e;exact⟨f,o,by simp⟩
  ·obtain⟨g,m,c⟩:=O5 hr v h hm;exact⟨g,m,List.mem_cons_of_mem _ c⟩
def step1(C:Ctx)(call:DO)(ops:Array Oper)(o:Oper)(fr:Fr)(h:H):Option (List<|Fr×H):=
 bif Bg fr ops o then
  match Jm C fr h o with
  |some (.val v h')=>match fr.put o.dst v with
   |some fr'=>some [(fr',h')]
   |none=>none
  |some (.skip h')=>match fr.put o.dst (.tup [])with
   |some fr'=>some [(fr',h')]
   |none=>none
  |some (.enter f args)=>match call (.fn f args) h with
   |some l=>Il fr o.dst l
   |none=>none
  |some (.round b ls f)=>match call (.rnd b ls f) h with
   |some l=>Il fr o.dst l
   |none=>none
  |some (.alts l)=>Il fr o.dst l
  |none=>none
 else match fr.put o.dst (.tup [])with
  |some fr'=>some [(fr',h)]
  |none=>none
def Ug(C:Ctx)(call:DO)(ops:Array Oper):List Oper->Fr->H->Option (List<|Fr×H)
 |[],fr,h=>some [(fr,h)]
 |o::b,fr,h=>match step1 C call ops o fr h with
  |some l=>bl l fun x=>Ug C call ops b x.1 x.2
  |none=>none
def FW(ro:Option Nat):Fence:={ yx with round:=ro }
theorem X0{ro:Option Nat}{n:Nat}{P:Program}{f:FuncId}{args:Array Value}{w:World}{R:Ending->World->Prop}:CallsIn (FW ro) n P f args w R↔Calls P f args w R:=by
 have:CallsIn (FW ro) n P f args w R↔CallsIn yx n P f args w R:=Iff.rfl;exact this.trans callsIn_wide
theorem Ace{ro:Option Nat}{n:Nat}{P:Program}{k:Nat}{f:FuncId}{tmps:Array Value}{asg body:Code}{w:World}{R:Ending->World->Prop}(h:RoundIn yx 0 P k f tmps asg body w R):RoundIn (FW ro) n P k f tmps asg body w R:=
 ⟨trivial,fun c cs _=>h.2 c cs<|room_wide _⟩
inductive DX where
 |normal
 |exit (id:Nat)
 |ret
def DX.Uj:DX->Exit
 | .normal=>.normal
 | .exit id=>.exit id
 | .ret=>.ret
section
variable {C:Ctx}{P:Program}{p:Pl}{h:H}{w:World}{fr:Fr}{a:Act}
theorem CR.put(g:CR p fr a){d:Option Nat}{v:V}{v':Value}(k:Ac p v v'){fr':Fr}(c:fr.put d v=some fr'):CR p fr' (a.put d v'):=by
 unfold Fr.put at c;cases d with
 |none=>cases c;exact g
 |some t=>
  simp only[HH]at c;by_cases b:t<fr.n
  ·simp only[b,decide_true,we,ze]at c;subst c;refine⟨by simp[Act.put,g.1],fun s=>?_⟩;have f:t<a.tmps.size:=g.1▸b;by_cases e:s=t
   ·subst e;simp[Fr.get,Act.put,f,k]
   ·have:=g.2 s;simp only[Fr.get,PM.Dq,wc e,Act.put]at this ⊢;rw[zr,zj<|fun x=>e x.symm, <-zr];exact this
  ·simp[b]at c
theorem CR.mono(b:CR p fr a){p':Pl}(hp:∃q,p'=p++q):CR p' fr a:=by
 obtain⟨q,rfl⟩:=hp;exact⟨b.1,fun t=>(b.2 t).mono q⟩
theorem CR.ext(b:CR p fr a){p':Pl}{h':H}{w':World}(e:Ext p h w p' h' w'):CR p' fr a:=b.mono e.pre
theorem tD{p:Pl}{v:V}{b:Bool}(d:Ac p v (.bool b)):v=.bool b:=by
 cases v<;>simp only[Ac]at d<;>first|(cases d;rfl)|(simp at d;done)|(obtain⟨_,_,_,_,c,_⟩:=d;cases c;done)|(obtain⟨_,_,_,c⟩:=d;cases c;done)|(obtain⟨_,_,c,_⟩:=d;cases c;done)|(obtain⟨_,_,c⟩:=d;cases c;done)|(obtain⟨_,c,_⟩:=d;cases c;done)
theorem RV(l:CR p fr a)(ops:Array Oper)(o:Oper):qc o (yielded ops a.tmps)=Bg fr ops o:=by
 unfold qc Bg;cases r:o.guard with
 |none=>rfl
 |some q=>
  obtain⟨j,d⟩:=q;simp only;unfold yielded;cases s:(ops[j]?).bind (·.dst)with
  |none=>simp
  |some t=>
   simp only[Option.bind_some,HH];by_cases c:t<fr.n
   ·have k:t<a.tmps.size:=l.1▸c;have g:=l.2 t;simp only[c,decide_true,we];have e:a.tmps[t]?=some (a.tmps.getD t undef):=by simp[k]
    rw[e];cases f:a.tmps.getD t undef with
    |bool b=>
     rw[f]at g;have:=tD g;rw[this];cases b<;>cases d<;>rfl
    |_=>
     rw[f]at g;cases m:fr.get t with
     |bool b=>rw[m]at g;simp[Ac]at g
     |_=>cases d<;>rfl
   ·have:a.tmps[t]?=none:=z7<|yf<|l.1▸c;simp[this,c]
def G8(p:Pl)(h:H)(w:World)(l:List (V×H))(e:Ending)(w':World):Prop:=
 ∃v h' v' p',(v,h')∈l/\e=.returned v'/\Ac p' v v'/\Ext p h w p' h' w'
structure DO.Ok(C:Ctx)(P:Program)(call:DO):Prop where
 fn:∀f args h l,call (.fn f args) h=some l->∀(p:Pl) (w:World) (args':Array Value),R p h w->Gl C p->Ax p args args'.toList->Calls P f args' w (G8 p h w l)
 rnd:∀b ls fr h l,call (.rnd b ls fr) h=some l->∀(p:Pl) (w:World) (k n:Nat) (f:FuncId) (tmps:Array Value),R p h w->Gl C p->h.get b=some (.loop ls)->p[b]?=some (k,n)->FE p fr tmps->
  RoundIn yx 0 P k f tmps ls.asg ls.body w (G8 p h w l)
theorem Hm{o:Oper}{r:OR}(b:GN C fr h o=some r):∀c,o.op≠ .defer c:=by
 intro c e;rw[Dc]at b;unfold He at b;simp[e]at b
theorem Gd{o:Oper}{r:OR}(b:Jm C fr h o=some r):∀c,o.op≠ .defer c:=by
 intro c e;unfold Jm at b;split at b
 case h_1=>rename_i hr;exact Hm hr c e
 case h_2=>rw[e]at b;cases b
theorem UD{p':Pl}{l:List (V×H)}{r:List (Fr×H)}{d:Option Nat}(hp:Il fr d l=some r)(q:CR p fr a){K:Act->World->Prop}
  (s:∀x∈r,∀p' b w',CR p' x.1 b->Ext p h w p' x.2 w'->b.defers=a.defers->K b w') {v:V} {h':H} {v':Value} {w':World} (g:(v,h')∈l) (o:Ac p' v v') (c:Ext p h w p' h' w'):K (a.put d v') w':=by
 obtain⟨f,m,k⟩:=O5 hp v h' g;exact s _ k p' _ w' ((q.ext c).put o m) c (by cases d<;>rfl)
theorem bP(E:C.Ok P){call:DO}(r:call.Ok C P)(hr:R p h w)(y:Gl C p)(q:CR p fr a){ops:Array Oper}{i:Nat}{o:Oper}(S:ops[i]?=some o){l:List (Fr×H)}
  (d:step1 C call ops o fr h=some l) {ro:Option Nat} {n:Nat} {Q:Exit->Act->World->Prop} {K:Act->World->Prop}
  (D:∀x∈l,∀p' L w',CR p' x.1 L->Ext p h w p' x.2 w'->L.defers=a.defers->K L w'):wpOpIn (FW ro) n P ops Q i K a w:=by
 have B:∀v,(a.put o.dst v).defers=a.defers:=by intro v;cases o.dst<;>rfl
 unfold step1 at d;unfold wpOpIn;simp only[S];rw[RV q];cases N:Bg fr ops o with
 |false=>
  simp only[N,wg]at d;simp only[z8,vg];refine⟨fun _ _=>trivial,?_⟩;split at d
  case h_2=>cases d
  rename_i G hp;cases d;exact D _ (zy.2 rfl) p _ w (q.put (by simp[Ac,undef]) hp) (zu hr)<|B _
 |true=>
  simp only[N,we]at d;simp only[wk];refine⟨fun _ _=>trivial,?_⟩;split at d
  case h_6=>cases d
  case h_1=>
   rename_i v U c;split at d
   case h_2=>cases d
   rename_i G hp;cases d;obtain⟨v',p',w',s,A,u⟩:=Ly E hr y q c;rw[yu _ _ _<|Gd c,s,Oper.uponIn_value];exact D _ (zy.2 rfl) p' _ w' ((q.ext u).put A hp) u<|B _
  case h_2=>
   rename_i U c;split at d
   case h_2=>cases d
   rename_i G hp;cases d;obtain⟨p',w',s,u⟩:=Ly E hr y q c;rw[yu _ _ _<|Gd c,s,Oper.uponIn_skip];exact D _ (zy.2 rfl) p' _ w' ((q.ext u).put (by simp[Ac,undef]) hp) u<|B _
  case h_3=>
   rename_i f args c;split at d
   case h_2=>cases d
   rename_i l1 M;obtain⟨args',s,A⟩:=Ly E hr y q c;rw[yu _ _ _<|Gd c,s,Oper.uponIn_enter];refine⟨fun h=>(by simp[FW,yx]at h),X0.2<|(r.fn f args h l1 M p w args' hr y A).mono ?_⟩;rintro e w' ⟨v,h',v',p',F,rfl,I,J⟩;exact UD d q D F I J
  case h_4=>
   rename_i b ls f c;split at d
   case h_2=>cases d
   rename_i l1 M;obtain⟨k,m,g,tmps,s,A,u,O⟩:=Ly E hr y q c;rw[yu _ _ _<|Gd c,u,Oper.uponIn_round];refine⟨fun h=>(by simp[FW,yx]at h),(Ace<|r.rnd b ls f h l1 M p w k m g tmps hr y A s O).mono ?_⟩;rintro e w' ⟨v,h',v',p',F,rfl,I,J⟩;exact UD d q D F I J
  case h_5=>
   rename_i l1 c;obtain⟨v,h',v',p',w',F,s,A,u⟩:=Ly E hr y q c;rw[yu _ _ _<|Gd c,s,Oper.uponIn_value];exact UD d q D F A u
theorem Vn(B:C.Ok P){call:DO}(b:call.Ok C P){ops:Array Oper}{ro:Option Nat}{n:Nat}{Q:Exit->Act->World->Prop}:
  ∀(l:List Oper) (k:Nat),(∀j,l[j]?=ops[k+j]?)->∀ {p:Pl} {h:H} {w:World} {fr:Fr} {a:Act},R p h w->Gl C p->CR p fr a->∀ {L:List (Fr×H)},Ug C call ops l fr h=some L->
  (∀x∈L,∀p' u w',CR p' x.1 u->Ext p h w p' x.2 w'->u.defers=a.defers->Q .normal u w')->wpOpsIn (FW ro) n P ops Q (List.range' k l.length) a w
 |[],k,_,p,h,w,fr,a,hr,m,v,L,d,r=>by
  cases d;exact r _ (zy.2 rfl) p a w v (zu hr) rfl
 |o::l,k,D,p,h,w,fr,a,hr,m,v,L,d,r=>by
  unfold Ug at d;split at d
  case h_2=>cases d
  rename_i l1 G;rw[List.length_cons,List.range'_succ,wpOpsIn_cons];refine bP B b hr m v (by simpa using(D 0).symm) G (K:=wpOpsIn (FW ro) n P ops Q<|List.range' (k+1) l.length) fun x F O a1 S q c f=>?_
  obtain⟨L1,J,E⟩:=IN d x F;exact Vn B b l (k+1) (fun j=>by have:=D<|j+1;simpa [Nat.add_assoc,Nat.add_comm 1 j]using this) c.rel (m.ext c) q J
   fun y M N a2 I A s g=>r y (E y M) N a2 I A (c.trans s)<|g.trans f
theorem X8(k:C.Ok P){call:DO}(b:call.Ok C P){ops:Array Oper}{ro:Option Nat}{n:Nat}{Q:Exit->Act->World->Prop}(hr:R p h w)(d:Gl C p)(g:CR p fr a){L:List (Fr×H)}
  (f:Ug C call ops ops.toList fr h=some L) {id:Nat}
  (l:∀x∈L,∀p' c w',CR p' x.1 c->Ext p h w p' x.2 w'->c.defers=a.defers->Q .normal c w'):(Code.region id ops false).wpIn (FW ro) n P Q a w:=by
 refine wpIn_region ?_;have:=Vn (Q:=Q) (ro:=ro) (n:=n) k b ops.toList 0 (fun j=>by simp) hr d g f l;rw[List.range_eq_range'];simpa using this
end
theorem JV{C:Ctx}{fr fr':Fr}:∀ {xs:List Operand},(∀x∈xs,ev C fr x=ev C fr' x)->R8 C fr xs=R8 C fr' xs
 |[],_=>rfl
 |x::xs,h=>by
  unfold R8;rw[h x (by simp),JV<|fun y b=>h y<|by simp[b]]
theorem JM{C:Ctx}{fr fr':Fr}:∀ {xs:List (Nat×Operand)},(∀x∈xs,ev C fr x.2=ev C fr' x.2)->XE C fr xs=XE C fr' xs
 |[],_=>rfl
 |(i,x)::xs,h=>by
  unfold XE;rw[h (i,x) (by simp),JM<|fun y b=>h y<|by simp[b]]
theorem J2{C:Ctx}{fr fr':Fr}{x:Option Operand}(h:∀y,x=some y->ev C fr y=ev C fr' y):WS C fr x=WS C fr' x:=by
 cases x with
 |none=>rfl
 |some y=>simp[WS,h y rfl]
theorem aV{C:Ctx}{fr fr':Fr}{h:H}{o:Oper}(d:∀x∈o.op.operands,ev C fr x=ev C fr' x):GN C fr h o=GN C fr' h o:=by
 obtain⟨dst,op,q,pos,after,guard⟩:=o;cases op<;>simp only[Op.operands]at d<;>simp only[Dc,He]
 case build t ps=>rw[JM fun x g=>d x.2<|by simp;exact⟨x.1,by simpa using g⟩]
 case buildSlice t n ps=>rw[JM fun x g=>d x.2<|by simp;exact⟨x.1,by simpa using g⟩]
 case makeFunc f first captured=>rw[JV (xs:=first.toList) fun x g=>d x (by simp at g ⊢;exact .inl g),JV (xs:=captured.toList) fun x g=>d x<|by simp at g ⊢;exact .inr g]
 case makeMap t r=>rw[J2 fun y k=>d y<|by simp[k]]
 case slice t x lo s mx=>
  rw[d x (by simp),J2 (x:=lo) fun y k=>d y (by simp[k]),J2 (x:=s) fun y k=>d y (by simp[k]),J2 (x:=mx) fun y k=>d y<|by simp[k]]
 case call c=>
  obtain⟨callee,args,ts⟩:=c;rw[JV (xs:=args.toList) (fr:=fr) (fr':=fr') fun x g=>d x<|by simp at g;simp[Call.operands,g]];cases callee with
  |value f=>
   have m:=d f (by simp[Call.operands]);cases R8 C fr' args.toList with
   |none=>rfl
   |some l=>simp only[m]
  |invoke f u=>
   have m:=d f (by simp[Call.operands]);cases R8 C fr' args.toList with
   |none=>rfl
   |some l=>simp only[m]
  |builtin b=>cases R8 C fr' args.toList<;>rfl
 all_goals (first|rfl|(simp_all;done))
def reads(ops:Array Oper)(o:Oper):List Tmp:=o.looksAt ops
theorem wP{C:Ctx}{fr fr':Fr}{x:Operand}(h:∀t,x=.tmp t->fr.get t=fr'.get t):ev C fr x=ev C fr' x:=by
 cases x with
 |tmp t=>simp only[ev,h t rfl]
 |_=>rfl
theorem mem_reads{ops:Array Oper}{o:Oper}{t:Tmp}(h:Operand.tmp t∈o.op.operands):t∈reads ops o:=
 List.mem_append_left _ (List.mem_filterMap.2 ⟨.tmp t,by simpa using h,rfl⟩)
theorem UE{fr fr':Fr}{ops:Array Oper}{o:Oper}(g:fr.n=fr'.n)(h:∀t∈reads ops o,fr.get t=fr'.get t):Bg fr ops o=Bg fr' ops o:=by
 unfold Bg;cases d:o.guard with
 |none=>rfl
 |some f=>
  obtain⟨j,b⟩:=f;simp only;cases c:(ops[j]?).bind (·.dst)with
  |none=>rfl
  |some t=>
   simp only[g];rw[h t<|yo _<|by simp[d,c]]
def Q2(l:List Tmp)(fr:Fr):Fr:=⟨fr.n,l.foldr (fun t m=>m.set t<|some<|fr.get t) .leaf⟩
def IQ(l:List Tmp)(a:Act):Act:={ a with tmps:=Array.ofFn (n:=a.tmps.size) fun t=>if l.contains t.1 then a.tmps.getD t undef else undef }
theorem Nf(l:List Tmp)(fr:Fr)(t:Tmp):(Q2 l fr).get t=if t∈l then fr.get t else .tup []:=by
 unfold Q2 Fr.get;induction l with
 |nil=>simp
 |cons x l b=>
  simp only[List.foldr_cons,PM.Dq,qn];by_cases e:t=x
  ·subst e;simp
  ·simp only[e,vg,false_or];exact b
theorem Nn(l:List Tmp)(a:Act)(t:Tmp):(IQ l a).tmps.getD t undef=if t∈l then a.tmps.getD t undef else undef:=by
 unfold IQ;by_cases h:t<a.tmps.size
 ·simp[h]
 ·simp only[zr];rw[z7 (by simpa using yf h),z7<|yf h];simp
section
variable {C:Ctx}{P:Program}{p:Pl}{h:H}{w:World}{fr:Fr}{a:Act}
structure FOn(p:Pl)(fr:Fr)(a:Act)(l:List Tmp):Prop where
 n:fr.n=a.tmps.size
 get:∀t∈l,Ac p (fr.get t) (a.tmps.getD t undef)
theorem FOn.Qf{l:List Tmp}(c:FOn p fr a l):CR p (Q2 l fr) (IQ l a):=by
 refine⟨by simp[Q2,IQ,c.n],fun t=>?_⟩;rw[Nf,Nn];by_cases b:t∈l
 ·simp only[b,wk];exact c.get t b
 ·simp only[b,vg];simp[Ac,undef]
theorem JA{ops:Array Oper}{o:Oper}{x:Operand}(b:x∈o.op.operands):(IQ (reads ops o) a).eval x=a.eval x:=by
 cases x with
 |tmp t=>
  have:=Nn (reads ops o) a t;rw[wd<|mem_reads b]at this;exact this
 |_=>rfl
theorem Tn{ops:Array Oper}{o:Oper}{x:Operand}(c:x∈o.op.operands):ev C (Q2 (reads ops o) fr) x=ev C fr x:=by
 refine wP fun t b=>?_
 subst b;rw[Nf,wd<|mem_reads c]
theorem JN(d:C.Ok P)(hr:R p h w)(f:Gl C p){ops:Array Oper}{o:Oper}(m:FOn p fr a (reads ops o))(l:∀cs b,o.op≠ .select cs b){r:OR}(k:GN C fr h o=some r):
  UI p h w r ((execOp a.eval o).run P w):=by
 have g:=pX d hr f m.Qf (o:=o) (r:=r) (by rw[aV (fr':=fr) fun x c=>Tn c];exact k);rwa [execOp_congr o l fun x c=>JA c]at g
theorem RO{ops:Array Oper}{o:Oper}(q:FOn p fr a (reads ops o)):qc o (yielded ops a.tmps)=Bg fr ops o:=by
 have f:=RV q.Qf ops o;rw[UE (fr:=Q2 (reads ops o) fr) (fr':=fr) (ops:=ops) (o:=o) rfl fun t c=>by rw[Nf,wd c]]at f;rw[<-f];unfold qc;cases g:o.guard with
 |none=>rfl
 |some k=>
  obtain⟨j,d⟩:=k;simp only;congr 1;unfold yielded;cases r:(ops[j]?).bind (·.dst)with
  |none=>rfl
  |some t=>
   simp only[Option.bind_some];have c:t∈reads ops o:=yo _ (by simp[g,r]);have:=Nn (reads ops o) a t;rw[wd c]at this;by_cases b:t<a.tmps.size
   ·have m:a.tmps[t]?=some (a.tmps.getD t undef):=by simp[b]
    have l:(IQ (reads ops o) a).tmps[t]?=some ((IQ (reads ops o) a).tmps.getD t undef):=by simp[IQ,b]
    rw[m,l,this]
   ·rw[z7<|yf b,z7<|by simpa [IQ]using yf b]
end
def EE(o:Oper):Bool:=
 match o.op with
 | .move _| .assign _| .pick .. | .build .. | .load .. | .nilCheck _| .binOp .. | .unOp .. | .convert .. | .makeInterface .. | .makeFunc .. | .slice .. | .fieldAddr .. | .field .. | .indexAddr .. | .index .. | .lookup .. | .extract .. =>true
 | .call { callee:=.builtin .len,.. }| .call { callee:=.builtin .max,.. }| .call { callee:=.builtin .min,.. }| .call { callee:=.builtin .unsafeSliceData,.. }=>true
 |_=>false
def Ps(o:Oper):Bool:=
 match o.op with
 | .load .. | .convert .. | .lookup .. =>true
 | .call { callee:=.builtin .len,.. }=>true
 |_=>false
def CH(o:Oper):Bool:=
 match o.op with
 | .alloc _| .box .. | .buildSlice .. =>true
 |_=>false
theorem GU{h:H}{v:Option V}{r:OR}(b:BG h v=some r):∃x,v=some x/\r=.val x h:=by
 cases v with
 |none=>cases b
 |some x=>cases b;exact⟨x,rfl,rfl⟩
theorem rd_val{C:Ctx}{fr:Fr}{h:H}{o:Oper}(g:EE o=true){r:OR}(d:GN C fr h o=some r):∃v,r=.val v h:=by
 obtain⟨dst,op,l,pos,after,guard⟩:=o;cases op<;>simp only[EE]at g<;>simp only[Dc,He]at d<;>try (cases g;done)
 case call c=>
  obtain⟨callee,args,ts⟩:=c;cases callee with
  |builtin b=>
   cases k:R8 C fr args.toList with
   |none=>simp[k]at d
   |some m=>
    simp only[k]at d;cases b<;>first|(cases g;done)|(simp only[EK]at d;obtain⟨x,_,rfl⟩:=GU d;exact⟨x,rfl⟩)
  |value f=>cases g
  |invoke=>cases g
 all_goals
  repeat' split at d
  all_goals first
   |(cases d;done)
   |(obtain⟨x,_,rfl⟩:=GU d;exact⟨x,rfl⟩)
theorem gC{C:Ctx}{fr:Fr}{h:H}{o:Oper}(g:EE o=true)(k:Ps o=false){v:V}(d:GN C fr h o=some (.val v h))(h':H):GN C fr h' o=some (.val v h'):=by
 have key:∀ {x:Option V},BG h x=some (.val v h)->BG h' x=some (.val v h'):=by
  intro x r;obtain⟨y,rfl,e⟩:=GU r;cases e;rfl
 obtain⟨dst,op,m,pos,after,guard⟩:=o;cases op<;>simp only[EE]at g<;>simp only[Ps]at k<;>simp only[Dc,He]at d ⊢<;>try (first|(cases g;done)|(cases k;done))
 case call c=>
  obtain⟨callee,args,ts⟩:=c;cases callee with
  |builtin b=>
   cases l:R8 C fr args.toList with
   |none=>simp[l]at d
   |some q=>
    simp only[l]at d ⊢;cases b<;>first|(cases g;done)|(cases k;done)|(simp only[EK]at d ⊢;exact key d)
  |value f=>cases g
  |invoke=>cases g
 all_goals
  repeat' split at d
  all_goals first
   |(cases d;done)
   |exact key d
   |(simp only[*];exact key d)
end Go.Det
