import Derived.Test.YtlohiljbghionaaGreatDoorX01
import Derived.IntWalk
import Derived.Laws.IdiomStrings
import Derived.Lib.UnsafeStr
import Derived.Lib.Builder
import Derived.RangeFuncRecord
import Derived.LoopNIn
import Derived.OrdersIn
import Derived.RangeFuncLeaves
/- A part of a proof (no law is stated here). Made by program out of texts by AI agents. -/
noncomputable section
open Go.Result renaming andThen_ok -> zc
open Go.Sem renaming run_bind -> zd, run_pure -> zf, run -> yd
open Option.some renaming injEq -> ze
open Option renaming map_eq_some_iff -> zg, map_some -> yw
open Nat renaming beq -> zh, blt -> zl, ble -> zt, mul_le_mul_right -> zz, ble_eq -> yb, le_of_not_lt -> yf, le_refl -> yi, blt_eq -> yp, add_mul -> qj, zero_add -> qo
open Go.Builtin renaming zeroCells -> zi, firstCells -> zk, append_ -> z6, nextslicecap -> ya, growBy -> ym, lenOf -> yr
open Array renaming getElem?_setIfInBounds_ne -> zj, toList_inj -> zm, getElem?_toList -> zn, getD_eq_getD_getElem? -> zr, getElem?_eq_none -> z7, size_append -> yy
open Prod.mk renaming injEq -> zo
open List renaming getElem?_take_of_lt -> zp, getElem?_eq_some_iff -> zx, mem_singleton -> zy, getElem?_map -> yc, getElem?_append_left -> yg, length_append -> yh, getElem?_cons_zero -> yj, getElem?_cons_succ -> yk, getElem?_toArray -> yn, mem_append_right -> yo, size_toArray -> yz, length_eq_zero_iff -> qd, all_cons -> qm, mem_cons -> qn
open Bool renaming and_eq_true -> zq, false_eq_true -> z8, or_eq_true -> qh
open Go.Det.Ext renaming refl -> zu, push -> qe, drew -> qi, put -> ql
open Go.Instr renaming sameBits -> zw, findAsking -> yq, findNow -> yt, range -> y7, sameNow -> y8, findKey -> y9, next -> qf, lookup -> qg, checkKey -> qk
open Go.Deferred renaming ofValue -> ye
open Go.Oper renaming semAt_eq -> yu
open Go.Question renaming forced -> yv
open Go.Fence renaming wide -> yx
open Go.Region renaming wanted -> qc
namespace Go.Det
section
variable {T:Cc}{P:Program}{p:Pl}{h:H}{w:World}
def Q1(T:Cc)(h:H)(t:TypeId)(len cap:V):Option (V×H):=
 match T.und t,len,cap with
 |some (.slice e),.int _<|.ofNat l,.int _ (.ofNat c)=>
  match T.inf e with
  |some i=>
   bif zt l c&&zl c 9223372036854775808&&zt (i.bytes*c) 281474976710656&&zl 0 i.zero.length&&zh i.zero.length i.size then
    some (.sl h.nx 0 l c 0,IU h e<|Fp i.zero<|c*i.size)
   else none
  |none=>none
 |_,_,_=>none
theorem wrap_small(c:Nat)(h:c<9223372036854775808):IntKind.i64.wrap (c:Int)=c:=IntWalk.i64_in _ (by omega)
theorem mT(m:T.Ok P)(hr:R p h w){t:TypeId}{len cap:V}{d f:Value}(u:Ac p len d)(s:Ac p cap f){v:V}{h':H}(g:Q1 T h t len cap=some (v,h')):
  ∃v' p' w',(Instr.makeSlice t d f).run P w=.ok v' w'/\Ac p' v v'/\Ext p h w p' h' w':=by
 unfold Q1 at g;split at g
 case h_2=>cases g
 rename_i e k l E c D;split at g
 case h_2=>cases g
 rename_i i r;cases b:(zt l c&&zl c 9223372036854775808&&zt (i.bytes*c) 281474976710656&&zl 0 i.zero.length&&zh i.zero.length i.size)with
 |false=>simp[b]at g
 |true=>
  simp only[b,we,ze,zo]at g;obtain⟨rfl,rfl⟩:=g;simp only[zq,yb,yp,Bt,w5]at b;obtain⟨⟨⟨⟨c1,c2⟩,c3⟩,c4⟩,c5⟩:=b;simp only[Ac]at u s;subst u s;obtain⟨z,hz,hzr⟩:=EO m r;obtain⟨j,hj,hjb,_⟩:=OJ m r;obtain⟨n,he,hpn,hn⟩:=Og hr e<|JT (hzr p) c4<|c*i.size;refine⟨.slice (some ⟨w.heap.size,0,none⟩) l c,_,_,?_,?_,he⟩
  ·unfold Instr.makeSlice asInt asIntOf;simp only[zd,zf,Az m D,zc,hj,Int.ofNat_eq_natCast,wrap_small c c2,wrap_small l (by omega),hjb];have y:(i.bytes:Int)*(c:Int)=((i.bytes*c:Nat):Int):=(Int.natCast_mul _ _).symm;rw[y];generalize i.bytes*c=q at c3 y ⊢;have B:¬((decide ((c:Int)<0)||decide ((q:Int)>2^48))||decide ((l:Int)<0)||decide ((l:Int)>(c:Int)))=true:=by
    simp;omega
   rw[wc B];simp only[zd,zc,run_askRoom,BD m r,Int.toNat_natCast];by_cases h0:c*i.size=0
   ·rw[wd h0];have A:(Array.map (fun x=>(#[]:Array Value)[x % (#[]:Array Value).size]!)<|Array.range<|c*i.size)=Array.map (fun o=>z.cells[o % z.cells.size]!) (Array.range<|c*i.size):=by simp[h0]
    simp only[zd,zf,zc,Cy];rw[A]
   ·rw[wc h0];simp only[zd,hz,zf,zc,Cy]
  ·simp only[Ac];exact⟨_,n,c,hpn,rfl,c1,yi _,fun _=>rfl,by simp⟩
def src(h:H)(size:Nat)(x:V)(n:Nat):Option (List V):=
 match x with
 | .nils=>some []
 | .esl=>bif zh n 0 then some []else none
 | .es0=>bif zh n 0 then some []else none
 | .sl b off _ _ _=>rd h b off<|n*size
 | .str s=>some<|(s.take n).map fun c=>.int .u8 c.toNat
 |_=>none
def P3:V->Option Nat
 | .nils=>some 0
 | .esl=>some 0
 | .es0=>some 0
 | .sl _ _ len _ _=>some len
 | .str s=>some s.length
 |_=>none
theorem OY{x:V}{x':Value}(b:Ac p x x'){n:Nat}(c:P3 x=some n):(yr x').run P w=.ok n w:=by
 unfold P3 at c;split at c
 case h_1=>simp only[Ac]at b;subst b;cases c;rfl
 case h_2=>simp only[Ac]at b;obtain⟨_,_,rfl⟩:=b;cases c;rfl
 case h_3=>simp only[Ac]at b;obtain⟨_,rfl⟩:=b;cases c;rfl
 case h_4=>simp only[Ac]at b;obtain⟨_,_,_,_,rfl,_⟩:=b;cases c;rfl
 case h_5=>simp only[Ac]at b;subst b;cases c;simp[yr,BK]
 case h_6=>cases c
theorem Lb(hr:R p h w){size n:Nat}{x:V}{x':Value}(f:Ac p x x'){cs:List V}(b:src h size x n=some cs):
  ∃vs:List Value,(zk size n x').run P w=.ok vs.toArray w/\Av p cs vs:=by
 unfold src at b;split at b
 case h_6=>cases b
 case h_1=>simp only[Ac]at f;subst f;cases b;exact⟨[],rfl,by simp⟩
 case h_2=>
  simp only[Ac]at f;obtain⟨a,c,rfl⟩:=f;rw[Bt]at b;by_cases e:n=0
  ·subst e;simp only[decide_true,we,ze]at b;subst b;exact⟨[],by simp[zk,loadCells,loadCellsFrom],by simp⟩
  ·simp[e]at b
 case h_3=>
  simp only[Ac]at f;obtain⟨a,rfl⟩:=f;rw[Bt]at b;by_cases e:n=0
  ·subst e;simp only[decide_true,we,ze]at b;subst b;exact⟨[],by simp[zk,loadCells,loadCellsFrom],by simp⟩
  ·simp[e]at b
 case h_4=>
  simp only[Ac]at f;obtain⟨r,m,c,hp,rfl,_⟩:=f;obtain⟨r',m',vs,g,k,h3,_⟩:=run_loadCells (P:=P) hr b;rw[hp]at g;cases g;exact⟨vs,k,h3⟩
 case h_5=>
  rename_i s;simp only[Ac]at f;subst f;cases b;refine⟨(s.take n).map fun c=>.int .u8 c.toNat,?_,?_⟩
  ·simp only[zk,zf];congr 1;apply Array.ext';simp[bytesOf,List.extract]
  ·apply Av.mk (by simp);intro i d v g k;simp only[yc]at g k;cases l:(s.take n)[i]? with
   |none=>simp[l]at g
   |some q=>simp[l]at g k;subst g k;simp[Ac]
theorem Sm(b:Nat):∀(r c:Nat),c<b->2*ym b r c<=3*b+2000
 |0,c,h=>by simp[ym];omega
 |r+1,c,h=>by
  unfold ym;rw[wc<|by omega];by_cases d:c+(c+768)/4<b
  ·exact Sm b r _ d
  ·cases r with
   |zero=>simp[ym];omega
   |succ r=>unfold ym;rw[wd<|by omega];omega
theorem Yh(b c:Nat)(h:c<b):2*ya b c<=3*b+2000:=by
 unfold ya;split
 ·omega
 ·split
  ·omega
  ·exact Sm b 4 c h
def isInt:TypeDesc->Bool
 | .int _=>true
 |_=>false
def Qk:V->Bool
 | .str _=>false
 |_=>true
def GQ(T:Cc)(h:H)(ts:Array TypeId)(args:List V):Option (V×H):=
 match ts[0]?,ts[1]?,args with
 |some t,some tx,[s,x]=>
  match T.und t,T.und tx,P3 x with
  |some (.slice e),some dx,some n=>
   match T.inf e,isInt dx with
   |some i,false=>
    bif zl 0 i.bytes&&zl 0 i.size&&zh i.zero.length i.size&&(zh i.size 1||Qk x)then
     match src h i.size x n with
     |some new=>
      match s with
      | .nils=>
       bif zh n 0 then some (.nils,h)
       else bif zt ((3*n+2000)*i.bytes) 562949953421312 then some (.sl h.nx 0 n n i.size,IU h e new)else none
      | .es0=>
       bif zh n 0 then some (.es0,h)
       else bif zt ((3*n+2000)*i.bytes) 562949953421312 then some (.sl h.nx 0 n n i.size,IU h e new)else none
      | .esl=>bif zh n 0 then some (.esl,h)else none
      | .sl b off len cap o=>
       bif zt (len+n) cap then(wr h b (off+len*i.size) new).map fun h'=>(.sl b off (len+n) cap o,h')
       else bif zt ((3*(len+n)+2000)*i.bytes) 562949953421312 then
        match src h i.size s len with
        |some old=>
         bif zh o 0 then some (.sl h.nx 0 (len+n) (len+n) i.size,IU h e<|old++new)
         else
          match h.get b with
          |some (.cells _ te fz)=>
           bif zh off 0&&zh o i.size&&zh te e&&zt fz.2 fz.1&&new.all V.one then some (.sl h.nx 0 (len+n) (len+n) i.size,(h.kill b).push<|.cells (old++new) e (0,0))
           else none
          |_=>none
        |none=>none
       else none
      |_=>none
     |none=>none
    else none
   |_,_=>none
  |_,_,_=>none
 |_,_,_=>none
theorem RD{old new:List V}{vo vn:List Value}(d:Av p old vo)(c:Av p new vn)(b:Array Value):
  Av p (old++new) ((vo.toArray++vn.toArray++b).toList.take (old++new).length):=by
 have l1:=d.length;have f:=c.length;have:((vo.toArray++vn.toArray++b).toList.take (old++new).length)=vo++vn:=by
  simp only[Array.toList_append,yh,l1,f];rw[List.take_append_of_le_length<|by simp];rw[List.take_of_length_le<|by simp]
 rw[this];exact d.append c
section
variable {ts:Array TypeId}{t t0 tx e:TypeId}{dx:TypeDesc}{i:TI}{n:Nat}{x' z:Value}{j:TypeInfo}
theorem Py(m:T.Ok P)(o:ts[0]?=some t0)(k:ts[1]?=some tx)(r:T.und t0=some (.slice e))(l:T.und tx=some dx)(f:isInt dx=false)
  (s:T.inf e=some i) (q:∀w,(yr x').run P w=.ok n w) (base:Option Addr) (d c:Nat) (g:d+n<=c):
  (z6 ts t #[.slice base d c,x']).run P w=((zk i.size n x').run P w).andThen fun new w'=>((match base with|some a=>storeCells (a.add<|d*i.size) new.toList|none=>pure ():Sem Unit).run P w').andThen fun _ w'=>.ok (.slice base (d+n) c) w':=by
 unfold z6;cases dx<;>first|(cases f;done)|skip
 all_goals
  simp only[o,k,yn,yj,yk,zd,Az m r,Az m l,BD m s,zc,zf,z8,vg,q,g,wk,Bool.not_false];cases base with
  |none=>rfl
  |some b=>simp only[zd,zf]
theorem Rq(g:T.Ok P)(u:ts[0]?=some t0)(o:ts[1]?=some tx)(I:T.und t0=some (.slice e))(r:T.und tx=some dx)(k:isInt dx=false)
  (x:T.inf e=some i) (v:0<i.bytes) (B:∀w,(zeroValue e).run P w=.ok z w) (F:∀w,(yr x').run P w=.ok n w) (base:Option Addr) (b c:Nat) (s:c<b+n)
  (f:(3*(b+n)+2000)*i.bytes<=562949953421312):
  ∃l,b+n<=l/\(z6 ts t #[.slice base b c,x']).run P w=((zk i.size b<|.slice base b c).run P { w with drawn:=w.drawn+1 }).andThen fun old w'=>
   ((zk i.size n x').run P w').andThen fun new w'=>
    .ok (.slice (some ⟨w'.heap.size,0,none⟩) (b+n) l) { w' with heap:=w'.heap.push (.cells (old++new++zi z.cells (l-(b+n))) e) }:=by
 obtain⟨j,E,q,y⟩:=OJ g x;have m:=Yh (b+n) c s;have d:2*ya (b+n) c*i.bytes<=562949953421312:=Nat.le_trans (zz _ m) f;rw[Nat.mul_assoc]at d;have D:ya (b+n) c*i.bytes<=281474976710656:=by omega
 refine⟨(Question.appendCap (b+n) c e).cut<|w.tape w.drawn<|.appendCap (b+n) c e,by simp[Question.cut],?_⟩;unfold z6;have G:¬(b+n<=c):=by omega
 have A:¬(ya (b+n) c*i.bytes>2^48):=by omega
 have J:¬(i.bytes=0):=by omega
 cases dx<;>first|(cases k;done)|skip
 all_goals
  simp only[u,o,yn,yj,yk,zd,Az g I,Az g r,BD g x,zc,zf,z8,vg,F,Bool.not_false,wk,
   G,E,q,J,or_self,and_false,A,run_choose,yv,run_askRoom,B,Cy]
end
theorem Jf(z:Array Value)(n:Nat):(zi z n).size=n*z.size:=by simp[zi]
theorem Qf{size n:Nat}{x:V}{cs:List V}(c:P3 x=some n)(d:size=1\/∀s,x≠ .str s)(b:src h size x n=some cs):cs.length=n*size:=by
 unfold src at b;split at b
 case h_6=>cases b
 case h_1=>cases b;cases c;simp
 case h_2=>
  cases c;cases b;simp
 case h_3=>
  cases c;cases b;simp
 case h_4=>
  rw[aF]at b;unfold rd0 at b;split at b
  case h_2=>cases b
  split at b
  case isFalse=>cases b
  cases b;simp;omega
 case h_5=>
  rename_i s;cases b;cases c;rcases d with rfl|d
  ·simp
  ·exact wh rfl (d s)
theorem XG(hT:T.Ok P)(hr:R p h w){ts:Array TypeId}{t:TypeId}{args:List V}{args':Array Value}(ha:Av p args args'.toList){v:V}{h':H}(f:GQ T h ts args=some (v,h')):
  ∃v' p' w',(z6 ts t args').run P w=.ok v' w'/\Ac p' v v'/\Ext p h w p' h' w':=by
 unfold GQ at f;split at f
 case h_2=>cases f
 rename_i t0 tx s x ht0 Q;obtain⟨s',x',G,hs,hx⟩:=ha.two;have ha0:args'[0]?=some s':=by rw[<-zn,G];rfl
 have ha1:args'[1]?=some x':=by rw[<-zn,G];rfl
 split at f
 case h_2=>cases f
 rename_i e dx n hu S U;split at f
 case h_2=>cases f
 rename_i i hi Y;cases B:(zl 0 i.bytes&&zl 0 i.size&&zh i.zero.length i.size&&(zh i.size 1||Qk x))with
 |false=>simp[B]at f
 |true=>
  simp only[B,we]at f;simp only[zq,yp,Bt,w5,qh]at B;obtain⟨⟨⟨c1,c2⟩,c3⟩,c4⟩:=B;have c5:i.size=1\/∀s,x≠ .str s:=c4.imp id (fun h s e=>by subst e;cases h);split at f
  case h_2=>cases f
  rename_i new K;have N:=Qf U c5 K;obtain⟨vn,hvn,E⟩:=Lb (P:=P) hr hx K;obtain⟨j,hj,hjb,hjs⟩:=OJ hT hi;obtain⟨z,hz,hzr⟩:=EO hT hi;have hzl:=(hzr p).length;simp at hzl;have hne:args'= #[s',x']:=by apply Array.ext';simpa using G
  subst hne;have y:∀w,(yr x').run P w=.ok n w:=fun w=>OY hx U
  have J:∀(base:Option Addr) (c:Nat),n=0->(z6 ts t #[.slice base 0 c,x']).run P w=.ok (.slice base 0 c) w:=by
   intro base c h0;rw[Py hT ht0 Q hu S Y hi y base 0 c (by omega),hvn];have hv0:vn=[]:=by
    have h1:=E.length;rw[N,h0,Nat.zero_mul]at h1;exact qd.1 h1.symm
   subst hv0;cases base<;>simp[h0,storeCells]
  have W:∀(base:Option Addr),¬n=0->(3*n+2000)*i.bytes<=562949953421312->∃v' p' w',(z6 ts t #[.slice base 0 0,x']).run P w=.ok v' w'/\Ac p' (.sl h.nx 0 n n i.size) v'/\Ext p h w p' (IU h e new) w':=by
   intro base h0 F;obtain⟨D,hnc,L⟩:=Rq (w:=w) (t:=t) hT ht0 Q hu S Y hi c1 hz y base 0 0 (by omega) (by simpa using F);simp only[qo]at L hnc;have l:=qi hr<|w.drawn+1;obtain⟨vn',hvn',hvnr'⟩:=Lb (P:=P) l.rel hx K;have M:=qe (n:=D*i.size) l.rel (o:=.cells new e (0,0)) (x:=.cells (#[]++vn'.toArray++zi z.cells (D-n)) e) ?_
   ·refine⟨.slice (some ⟨w.heap.size,0,none⟩) n D,_,_,?_,?_,l.trans M⟩
    ·rw[L];have hf:∀w,(zk i.size 0<|Value.slice base 0 0).run P w=.ok #[] w:=by
      intro w;cases base<;>simp[zk,loadCells,loadCellsFrom]
     simp only[hf,zc,hvn']
    ·simp only[Ac];refine⟨w.heap.size,D*i.size,D,by rw[<-hr.len];simp,rfl,yi _,by omega,fun h=>by omega,fun _=>by omega⟩
   ·have hl:=hvnr'.length;have hsz:(#[]++vn'.toArray++zi z.cells (D-n)).size=D*i.size:=by
     have:vn'.length=n*i.size:=by omega
     simp only[yy,Jf,yz,yz,this, <-hzl,c3,Nat.sub_mul];have:n*i.size<=D*i.size:=zz _ (by omega);simp;omega
    refine⟨_,(0,0),rfl,hsz,?_,?_,fun i _ h1 h2=>⟨h1,h2⟩⟩
    ·rw[N];exact zz _ (by omega)
    ·have:=RD (p:=p) (old:=[]) (vo:=[]) (by simp) hvnr'<|zi z.cells<|D-n;simpa using this.toC
  split at f
  case h_5=>cases f
  case h_1=>
   simp only[Ac]at hs;subst hs;rw[Bt]at f;by_cases h0:n=0
   ·simp only[h0,decide_true,we,ze,zo]at f;obtain⟨rfl,rfl⟩:=f;exact⟨.slice none 0 0,p,w,J none 0 h0,by simp[Ac],zu hr⟩
   ·simp only[h0,decide_false,wg]at f;cases F:zt ((3*n+2000)*i.bytes) 562949953421312 with
    |false=>simp[F]at f
    |true=>
     simp only[F,we,ze,zo]at f;obtain⟨rfl,rfl⟩:=f;rw[yb]at F;exact W none h0 F
  case h_2=>
   simp only[Ac]at hs;obtain⟨a0,rfl⟩:=hs;rw[Bt]at f;by_cases h0:n=0
   ·simp only[h0,decide_true,we,ze,zo]at f;obtain⟨rfl,rfl⟩:=f;exact⟨_,p,w,J (some a0) 0 h0,by simp[Ac],zu hr⟩
   ·simp only[h0,decide_false,wg]at f;cases F:zt ((3*n+2000)*i.bytes) 562949953421312 with
    |false=>simp[F]at f
    |true=>
     simp only[F,we,ze,zo]at f;obtain⟨rfl,rfl⟩:=f;rw[yb]at F;exact W (some a0) h0 F
  case h_3=>
   simp only[Ac]at hs;obtain⟨a0,c0,rfl⟩:=hs;rw[Bt]at f;by_cases h0:n=0
   ·simp only[h0,decide_true,we,ze,zo]at f;obtain⟨rfl,rfl⟩:=f;exact⟨_,p,w,J (some a0) c0 h0,by simp[Ac],zu hr⟩
   ·simp[h0]at f
  case h_4=>
   rename_i b off len cap o;simp only[Ac]at hs;obtain⟨r,m,c,hp,rfl,hlen,hcap,ho1,ho2⟩:=hs;cases Z:zt (len+n) cap with
   |true=>
    simp only[Z,we,zg,zo]at f;obtain⟨h1,hw,rfl,rfl⟩:=f;rw[yb]at Z;obtain⟨r',m',w',g1,g2,g3⟩:=Ub (P:=P) hr E hw;rw[hp]at g1;cases g1;refine⟨.slice (some ⟨r,off,none⟩) (len+n) c,p,w',?_,?_,g3⟩
    ·rw[Py hT ht0 Q hu S Y hi y _ len c (by omega),hvn];simp only[zc,Addr.Ig,g2]
    ·simp only[Ac];exact⟨r,m,c,hp,rfl,Z,hcap,ho1,ho2⟩
   |false=>
    simp only[Z,wg]at f;have hle':¬(len+n<=cap):=by rw[<-yb,Z];simp
    cases F:zt ((3*(len+n)+2000)*i.bytes) 562949953421312 with
    |false=>simp[F]at f
    |true=>
     simp only[F,we]at f;rw[yb]at F;split at f
     case h_2=>cases f
     rename_i old g;have hol:=Qf (x:=.sl b off len cap o) (n:=len) rfl (.inr<|fun s e=>by cases e) g;have hsrel:∀q:Pl,(∃q',q=p++q')->Ac q (.sl b off len cap o) (.slice (some ⟨r,off,none⟩) len c):=by
      rintro q ⟨q',rfl⟩;exact Ac.mono q' (by simp only[Ac];exact⟨r,m,c,hp,rfl,hlen,hcap,ho1,ho2⟩)
     have fresh:∀(_:c<len+n) (h2:H),R p h2 { w with drawn:=w.drawn+1 }->h2.nx=h.nx->
       ∃v' p' w',(z6 ts t #[.slice (some ⟨r,off,none⟩) len c,x']).run P w=.ok v' w'/\Ac p' (.sl h.nx 0 (len+n) (len+n) i.size) v'/\
        Ext p h2 { w with drawn:=w.drawn+1 } p' (h2.push<|.cells (old++new) e (0,0)) w':=by
      intro hlt h2 hr2 hnx;obtain⟨D,hnc,L⟩:=Rq (w:=w) (t:=t) hT ht0 Q hu S Y hi c1 hz y (some ⟨r,off,none⟩) len c hlt F;have l:=qi hr<|w.drawn+1;obtain⟨vn',hvn',hvnr'⟩:=Lb (P:=P) l.rel hx K;obtain⟨vo',hvo',hvor'⟩:=Lb (P:=P) (x:=.sl b off len cap o) l.rel (hsrel p ⟨[],by simp⟩) g;have hl:=hvnr'.length;have hl2:=hvor'.length;have hsz:(vo'.toArray++vn'.toArray++zi z.cells (D-(len+n))).size=D*i.size:=by
       have e1:vn'.length=n*i.size:=by omega
       have e2:vo'.length=len*i.size:=by omega
       simp only[yy,Jf,yz,e1,e2, <-hzl,c3,Nat.sub_mul,qj];have:(len+n)*i.size<=D*i.size:=zz _ (by omega);rw[qj]at this;omega
      have M:=qe (n:=D*i.size) hr2 (o:=.cells (old++new) e (0,0)) (x:=.cells (vo'.toArray++vn'.toArray++zi z.cells (D-(len+n))) e)
       ⟨_,(0,0),rfl,hsz,by rw[yh,hol,N, <-qj];exact zz _ (by omega),(RD hvor' hvnr' _).toC,fun i _ h1 h2=>⟨h1,h2⟩⟩
      refine⟨.slice (some ⟨w.heap.size,0,none⟩) (len+n) D,_,_,?_,?_,M⟩
      ·rw[L,hvo'];simp only[zc,hvn']
      ·simp only[Ac];refine⟨w.heap.size,D*i.size,D,?_,rfl,yi _,by omega,fun h=>by omega,fun _=>by omega⟩;rw[<-hnx, <-hr2.len];simp
     rw[Bt]at f;by_cases h0:o=0
     ·simp only[h0,decide_true,we,ze,zo]at f;obtain⟨rfl,rfl⟩:=f;have:=ho1 h0;have l:=qi hr<|w.drawn+1;obtain⟨v',p',w',k1,k2,k3⟩:=fresh (by omega) h l.rel rfl;exact⟨v',p',w',k1,k2,l.trans k3⟩
     ·simp only[h0,decide_false,wg]at f;split at f
      case h_2=>cases f
      rename_i cs te fz hbk;cases hc2:(zh off 0&&zh o i.size&&zh te e&&zt fz.2 fz.1&&new.all V.one)with
      |false=>simp[hc2]at f
      |true=>
       simp only[hc2,we,ze,zo]at f;obtain⟨rfl,rfl⟩:=f;simp only[zq,yb,Bt,w5,List.all_eq_true]at hc2;obtain⟨⟨⟨⟨rfl,rfl⟩,rfl⟩,d4⟩,d5⟩:=hc2;by_cases hfit:len+n<=c
       ·
        obtain⟨r',m',cc,fz',g1,g2,g3,g4,g5,g6,g7⟩:=cell_of hr hbk;rw[hp]at g1;cases g1;have hm:=ho2 h0;have hl:=E.length;have hone:∀v∈vn,v.oneCell'=true:=by
         intro v hv;obtain⟨k,hk⟩:=List.mem_iff_getElem?.1 hv;have hk':=(zx.1 hk).1;obtain⟨u,I,X⟩:=E.get (i:=k) (d:=new[k]'(by omega)) (by simp);rw[hk]at I;cases I;exact X.one<|d5 _<|List.getElem_mem _
        have hbnd:len*i.size+n*i.size<=c*i.size:=by rw[<-qj];exact zz _ hfit
        obtain⟨cc',k1,k2,k3⟩:=Gd (P:=P) vn w cc (len*i.size) 0 g2 (by omega) hone (by
         rintro k _ hk ⟨q1,q2⟩;have:=g7 (len*i.size+k) (by omega) q1 q2;omega)
        have hrd:old=cs.take (len*i.size)/\len*i.size<=cs.length:=by
         unfold src at g;simp only[aF]at g;unfold rd0 at g;simp only[hbk,qo,List.drop_zero]at g;split at g
         ·rename_i hc0;cases g;exact⟨rfl,hc0.1⟩
         ·cases g
        refine⟨.slice (some ⟨r,0,none⟩) (len+n) c,p++[(r,m)],{ w with heap:=w.heap.setIfInBounds r (.cells cc' te fz') },?_,?_,Ext.move hr (o':=.cells (old++new) te (0,0)) hbk hp ⟨cc',fz',rfl,by omega,?_,?_,?_⟩ rfl rfl rfl rfl (fun _ _ _ e1 hlk=>by cases e1;obtain⟨l1,_,l3⟩:=hlk;omega)⟩
        ·rw[Py hT ht0 Q hu S Y hi y _ len c hfit,hvn];simp only[zc,Addr.Ig,qo,k1]
        ·simp only[Ac];exact⟨r,m,c,by rw[<-hr.len];simp,rfl,yi _,hfit,fun h=>by omega,fun _=>hm⟩
        ·rw[yh,hol,N];omega
        ·refine⟨?_,?_⟩
         ·simp;omega
         ·intro k d v O A hokk;have hkl:k<(old++new).length:=(zx.1 O).1;rw[zp hkl,k3]at A;rw[yh,hol,N]at hkl;simp only[Nat.add_zero,yc]at A;rw[List.getElem?_range<|by omega]at A;simp only[yw,ze]at A;by_cases hk:k<len*i.size
          ·rw[yg (by omega),hrd.1,zp hk]at O;rw[wc<|by omega]at A;obtain⟨u,I,X⟩:=g5.get O hokk;rw[zp<|by omega]at I;simp only[List.getD,I,Option.getD_some]at A;exact A▸X
          ·rw[List.getElem?_append_right (by omega),hol]at O;rw[wd<|by omega]at A;obtain⟨u,I,X⟩:=E.get O;simp only[List.getD,I,Option.getD_some]at A;exact A▸X
        ·intro k hk q1 q2;have:=g7 k hk q1 q2;omega
       ·have hk:=Ext.kill hr b;have l:=qi hk.rel<|w.drawn+1;obtain⟨v',p',w',k1,k2,k3⟩:=fresh (by omega) (h.kill b) l.rel rfl;exact⟨v',p',w',k1,k2,(hk.trans l).trans k3⟩
def oX(T:Cc)(h:H)(ts:Array TypeId)(args:List V):Option (V×H):=
 match ts[0]?,args with
 |some t,[d,x]=>
  match T.und t,P3 d,P3 x with
  |some (.slice e),some c,some n=>
   match T.inf e with
   |some i=>
    match src h i.size x (Nat.min n c)with
    |some new=>
     match d with
     | .nils=>some (i64<|Nat.min n c,h)
     | .sl b off _ _ _=>(wr h b off new).map fun h'=>(i64<|Nat.min n c,h')
     |_=>none
    |none=>none
   |none=>none
  |_,_,_=>none
 |_,_=>none
theorem jL(A:T.Ok P)(hr:R p h w){ts:Array TypeId}{t:TypeId}{args:List V}{args':Array Value}(G:Av p args args'.toList){v:V}{h':H}(f:oX T h ts args=some (v,h')):
  ∃v' p' w',(Builtin.copy_ ts t args').run P w=.ok v' w'/\Ac p' v v'/\Ext p h w p' h' w':=by
 unfold oX at f;split at f
 case h_2=>cases f
 rename_i t0 d x D;obtain⟨J,x',l,g,B⟩:=G.two;have y:args'= #[J,x']:=by apply Array.ext';simpa using l
 subst y;split at f
 case h_2=>cases f
 rename_i e K n I k E;split at f
 case h_2=>cases f
 rename_i i F;split at f
 case h_2=>cases f
 rename_i new s;obtain⟨vn,q,u⟩:=Lb (P:=P) hr B s;unfold Builtin.copy_;simp only[D,yn,yj,yk,zd,Az A I,zc];split at f
 case h_3=>cases f
 case h_1=>
  simp only[Ac]at g;subst g;simp only[P3,ze]at k;subst k;cases f;simp only[zd,OY B E,BD A F,zc,q];refine⟨_,p,w,zf ..,?_,zu hr⟩;simp[i64,Ac,goInt]
 case h_2=>
  rename_i b off len cap o;simp only[P3,ze]at k;subst k;simp only[Ac]at g;obtain⟨r,m,c,hp,rfl,_⟩:=g;rw[zg]at f;obtain⟨h1,hw,he⟩:=f;cases he;obtain⟨r',m',w',g1,g2,g3⟩:=Ub (P:=P) hr u hw;rw[hp]at g1;cases g1;simp only[zd,OY B E,BD A F,zc,q,g2];refine⟨_,p,w',zf ..,?_,g3⟩;simp[i64,Ac,goInt]
def Ta(T:Cc)(h:H)(t:TypeId)(x:V):Option (V×H):=
 match T.und t,x with
 |some .string,.str s=>some (.ptr h.nx 0,h.push<|.siter s 0)
 |_,_=>none
theorem dV(g:T.Ok P)(hr:R p h w){t:TypeId}{x:V}{x':Value}(c:Ac p x x'){v:V}{h':H}(b:Ta T h t x=some (v,h')):
  ∃v' p' w',(y7 t x').run P w=.ok v' w'/\Ac p' v v'/\Ext p h w p' h' w':=by
 unfold Ta at b;split at b
 case h_2=>cases b
 rename_i s f;cases b;simp only[Ac]at c;subst c;have d:=qe (n:=0) hr (o:=.siter s 0) (x:=.stringIter (bytesOf s) 0) rfl;refine⟨.pointer<|some ⟨w.heap.size,0,none⟩,_,_,?_,?_,d⟩
 ·unfold y7;simp only[zd,Az g f,zc,zf,run_newObj]
 ·simp only[Ac];exact⟨w.heap.size,0,by rw[<-hr.len];simp,rfl⟩
def ND(h:H)(d:V)(c:Bool):Option (V×H):=
 match d,c with
 | .ptr b 0,true=>
  match h.get b with
  |some (.siter s pos)=>
   bif zl pos s.length then
    some (.tup [.bool true,i64 pos,.int .i32 (Utf8.decode (bytesOf s) pos).1],h.put b<|.siter s<|pos+(Utf8.decode (bytesOf s) pos).2)
   else some (.tup [.bool false],h)
  |_=>none
 |_,_=>none
theorem lU(hr:R p h w){k:V}{g:Value}{c:Bool}{t:TypeId}(q:Ac p k g){v:V}{h':H}(d:ND h k c=some (v,h')):
  ∃v' p' w',(qf g c t).run P w=.ok v' w'/\Ac p' v v'/\Ext p h w p' h' w':=by
 unfold ND at d;split at d
 case h_2=>cases d
 rename_i b;simp only[Ac]at q;obtain⟨r,n,hp,rfl⟩:=q;split at d
 case h_2=>cases d
 rename_i s pos m;obtain⟨y,n',x,o,l,u⟩:=hr.obj _ _ m;rw[hp]at o;cases o;simp only[Hw]at u;subst u;rw[Hx]at d;unfold qf;simp only[zd,getObj,yd,l,zc,BK];by_cases f:pos<s.length
 ·simp only[f,decide_true,we,ze,zo]at d;obtain⟨rfl,rfl⟩:=d;simp only[f,wk,zd,setObj,yd,l,zc];refine⟨_,p,_,zf ..,?_,ql hr m hp (o':=.siter s<|pos+(Utf8.decode (bytesOf s) pos).2) rfl rfl rfl rfl rfl⟩;simp[Ac,i64,goInt]
 ·simp only[f,decide_false,wg,ze,zo]at d;obtain⟨rfl,rfl⟩:=d;simp only[f,vg];exact⟨_,p,w,zf ..,by simp[Ac],zu hr⟩
def IL(h:H)(r:Option V):Option (V×H):=
 match r with
 |none=>some (.map h.nx,h.push<|.map [] 0)
 |some _=>none
theorem U5(hr:R p h w){t:TypeId}{r:Option V}{d:Option Value}(c:Gv p r d){v:V}{h':H}(b:IL h r=some (v,h')):
  ∃v' p' w',(Instr.makeMap t d).run P w=.ok v' w'/\Ac p' v v'/\Ext p h w p' h' w':=by
 unfold IL at b;split at b
 case h_2=>cases b
 cases b;simp only[Gv]at c;subst c;have f:=qe (n:=0) hr (o:=.map [] 0) (x:=.map #[] 0) ⟨#[],rfl,.nil⟩;refine⟨.map<|some w.heap.size,_,_,?_,?_,f⟩
 ·unfold Instr.makeMap;simp
 ·simp only[Ac];exact⟨w.heap.size,0,by rw[<-hr.len];simp,rfl⟩
def iU(T:Cc)(d:TypeId)(a b:V):Option Bool:=
 match T.und d,a,b with
 |some (.int _),.int k x,.int c y=>if k=c then some (x==y)else none
 |some .string,.str x,.str y=>some<|x==y
 |some .bool,.bool x,.bool y=>some<|x==y
 |_,_,_=>none
def Md(T:Cc)(b:TypeId)(k:V):List (V×V×Nat)->Nat->Option (Option<|Nat×V)
 |[],_=>some none
 |(a,v,_)::es,i=>
  match iU T b k a with
  |some true=>some<|some (i,v)
  |some false=>Md T b k es<|i+1
  |none=>none
def plainKey:V->Bool
 | .int .. | .str _| .bool _=>true
 |_=>false
theorem bytes_beq(x y:ByteArray):(x==y)=(x.data==y.data):=rfl
theorem ZW{o:TypeId}{a b:V}{l b':Value}(k:Ac p a l)(g:Ac p b b'){r:Bool}(f:iU T o a b=some r){d:TypeDesc}(m:T.und o=some d):
  y8 d l b'=some r/\(r=true->l=b'):=by
 unfold iU at f;split at f
 case h_1=>
  rename_i c;rw[m]at c;cases c;simp only[Ac]at k g;subst k g;split at f
  ·rename_i e;subst e;cases f;exact⟨by simp[y8],fun h=>by simp at h;subst h;rfl⟩
  ·cases f
 case h_2=>
  rename_i c;rw[m]at c;cases c;simp only[Ac]at k g;subst k g;cases f;refine⟨?_,fun h=>by simp at h;subst h;rfl⟩;simp only[y8];congr 1;rw[bytes_beq,Bool.eq_iff_iff];simp[bytesOf]
 case h_3=>
  rename_i c;rw[m]at c;cases c;simp only[Ac]at k g;subst k g;cases f;exact⟨rfl,fun h=>by simp at h;subst h;rfl⟩
 case h_4=>cases f
theorem nN{s:TypeId}{k:V}{m:Value}(x:Ac p k m){d:TypeDesc}(u:T.und s=some d):
  ∀ {es:List (V×V×Nat)} {l:List MapEntry},DQ p es l->∀ {i:Nat} {r:Option (Nat×V)},Md T s k es i=some r->
  ∃f,yt d m l i=some f/\(match r with|none=>f=none|some (j,v)=>∃v',f=some (j,v')/\Ac p v v'/\i<=j/\∃e,l[j-i]?=some e/\e.key=m):=by
 intro es l A;induction A with
 |nil=>intro i r c;simp only[Md,ze]at c;subst c;exact⟨none,rfl,rfl⟩
 |@cons a v b es e l q y F _ B=>
  intro i r c;unfold Md at c;split at c
  case h_1=>
   rename_i o;cases c;obtain⟨g,E⟩:=ZW x q o u;exact⟨some (i,e.val),by simp[yt,g],e.val,rfl,y,yi _,e,by simp,(E rfl).symm⟩
  case h_2=>
   rename_i o;obtain⟨g,_⟩:=ZW x q o u;obtain⟨f,k1,k2⟩:=B c;refine⟨f,by simp[yt,g,k1],?_⟩;cases r with
   |none=>exact k2
   |some D=>
    obtain⟨j,v⟩:=D;obtain⟨v',m1,m2,m3,e',m4,m5⟩:=k2;refine⟨v',m1,m2,by omega,e',?_,m5⟩;have:j-i=(j-(i+1))+1:=by omega
    rw[this];simpa using m4
  case h_3=>cases c
theorem run_checkKey{k:V}{c:Value}(f:Ac p k c)(hp:plainKey k=true)(o:T.Ok P){g:TypeId}{d:TypeDesc}(m:T.und g=some d)(r:Eb d=false)(q:∀l,d≠ .interface l)(b:Bool):
  (qk b 10000 g c).run P w=.ok () w:=by
 unfold qk;rw[zd,Az o m];simp only[zc];cases k<;>simp only[plainKey]at hp<;>simp only[Ac]at f
 case bool|int|str=>
  subst f;cases d<;>first|rfl|(cases r;done)|exact wh rfl (q _)
 all_goals cases hp
def oF:TypeDesc->Bool
 | .int _| .string| .bool=>true
 |_=>false
theorem dC{d:TypeDesc}(h:oF d=true):Eb d=false/\∀b,d≠ .interface b:=by
 cases d<;>first|(cases h;done)|exact⟨rfl,fun b e=>by cases e⟩
theorem Rf{k:V}{c:Value}(b:Ac p k c)(hp:plainKey k=true):zw 10000 c c=true:=by
 cases k<;>simp only[plainKey]at hp<;>simp only[Ac]at b
 case bool=>subst b;simp[zw]
 case int=>subst b;simp[zw]
 case str=>subst b;simp[zw,bytes_beq]
 all_goals cases hp
theorem US{a b:V}{f b':Value}(d:Ac p a f)(c:Ac p b b')(h:D2 a b=some true):f=b':=by
 unfold D2 at h;split at h
 case h_1=>simp only[Ac]at d c;subst d c;simp at h;subst h;rfl
 case h_2=>
  split at h
  ·rename_i e;subst e;simp only[Ac]at d c;subst d c;simp at h;subst h;rfl
  ·cases h
 case h_3=>simp only[Ac]at d c;subst d c;simp at h;subst h;rfl
 case h_4=>cases h
theorem Ms:∀ {xs f:List V} {x y:List Value},Av p xs x->Av p f y->B6 xs f=some true->x=y
 |[],[],x,y,c,d,_=>by simp at c d;subst c d;rfl
 |[],_::_,_,_,_,_,h=>by simp[B6]at h
 |_::_,[],_,_,_,_,h=>by simp[B6]at h
 |a::l,b::o,x,y,c,d,h=>by
  simp only[Av]at c d;obtain⟨u,q,rfl,m,k⟩:=c;obtain⟨v,vs,rfl,h3,h4⟩:=d;unfold B6 at h;split at h
  case h_1=>
   rename_i g;rw[US m h3 g,Ms k h4 h]
  case h_2=>split at h<;>cases h
  case h_3=>cases h
theorem U1:∀ {ks:List FK} {xs:List V} {x:List Value},fit ks xs=true->Av p xs x->(x.zip x).all (fun(a,b)=>zw 9999 a b)=true
 |[],[],x,_,d=>by simp at d;subst d;rfl
 |[],_::_,_,h,_=>by simp[fit]at h
 |_::_,[],_,h,_=>by simp[fit]at h
 |k::ks,v::vs,x,h,d=>by
  simp only[Av]at d;obtain⟨u,m,rfl,c,g⟩:=d;unfold fit at h;cases f:k.ok v with
  |false=>simp[f]at h
  |true=>
   simp only[f,we]at h;have l:=U1 h g;simp only[List.zip_cons_cons,qm,l,Bool.and_true];unfold FK.ok at f;split at f
   case h_1=>simp only[Ac]at c;subst c;simp[zw]
   case h_2=>simp only[Ac]at c;subst c;simp[zw,bytes_beq]
   case h_3=>simp only[Ac]at c;subst c;simp[zw]
   case h_4=>cases f
def PW(ks:List FK)(k:List V):List (V×V×Nat)->Nat->Option (Option<|Nat×V)
 |[],_=>some none
 |(a,v,_)::es,i=>
  match a with
  | .agg b=>match Ns (some ks) k b with
   |some true=>some<|some (i,v)
   |some false=>PW ks k es<|i+1
   |none=>none
  |_=>none
def IE(T:Cc)(b:TypeId)(d:TypeDesc)(k:V):Bool:=
 match k with
 | .agg xs=>match T.flat b with
  |some ks=>fit ks xs
  |none=>false
 |k=>plainKey k&&oF d
def Ku(T:Cc)(b:TypeId)(k:V)(es:List (V×V×Nat)):Option (Option<|Nat×V):=
 match k with
 | .agg xs=>match T.flat b with
  |some ks=>PW ks xs es 0
  |none=>none
 |k=>Md T b k es 0
theorem OW(B:T.Ok P){k:TypeId}{ks:List FK}(E:T.flat k=some ks){xs:List V}{x:Array Value}(s:Av p xs x.toList):
  ∀ {es:List (V×V×Nat)} {l:List MapEntry},DQ p es l->∀ {i:Nat} {r:Option (Nat×V)},PW ks xs es i=some r->
  ∃f,(yq k (.agg x) l i).run P w=.ok f w/\(match r with|none=>f=none|some (j,v)=>∃v',f=some (j,v')/\Ac p v v'/\i<=j/\∃e,l[j-i]?=some e/\e.key=.agg x):=by
 intro es l G;induction G with
 |nil=>intro i r c;simp only[PW,ze]at c;subst c;exact⟨none,rfl,rfl⟩
 |@cons a v b es e l d F K _ I=>
  intro i r c;unfold PW at c;split at c
  case h_2=>cases c
  rename_i D;simp only[Ac]at d;obtain⟨y,A,d⟩:=d;split at c
  case h_3=>cases c
  case h_1=>
   rename_i m;cases c;obtain⟨l',o,u,q,g⟩:=HY m;cases o;refine⟨some (i,e.val),?_,e.val,rfl,F,yi _,e,by simp,?_⟩
   ·simp only[yq,zd,A,B.flat k ks E p xs D x y true w u q s d g,zc,wk,zf]
   ·rw[A];have:=Ms s d g;congr 1;exact(zm.1 this).symm
  case h_2=>
   rename_i m;obtain⟨l',o,u,q,g⟩:=HY m;cases o;obtain⟨f,k1,k2⟩:=I c;refine⟨f,?_,?_⟩
   ·simp only[yq,zd,A,B.flat k ks E p xs D x y false w u q s d g,zc,z8,vg];exact k1
   ·cases r with
    |none=>exact k2
    |some J=>
     obtain⟨j,v⟩:=J;obtain⟨v',m1,m2,m3,e',m4,m5⟩:=k2;refine⟨v',m1,m2,by omega,e',?_,m5⟩;have:j-i=(j-(i+1))+1:=by omega
     rw[this];simpa using m4
theorem JW(l:T.Ok P){f:TypeId}{d:TypeDesc}(s:T.und f=some d){k:V}{m:Value}(g:Ac p k m)(c:IE T f d k=true)(b:Bool):
  (qk b 10000 f m).run P w=.ok () w:=by
 unfold IE at c;split at c
 case h_1=>
  rename_i xs;split at c
  case h_2=>cases c
  rename_i ks o;simp only[Ac]at g;obtain⟨x,rfl,r⟩:=g;exact l.key f ks o p xs x b w c r
 case h_2=>
  simp only[zq]at c;obtain⟨u,q⟩:=dC c.2;exact run_checkKey g c.1 l s u q b
theorem Xs{l:TypeId}{d:TypeDesc}{k:V}{c:Value}(f:Ac p k c)(b:IE T l d k=true):zw 10000 c c=true:=by
 unfold IE at b;split at b
 case h_1=>
  rename_i xs;split at b
  case h_2=>cases b
  rename_i ks m;simp only[Ac]at f;obtain⟨x,rfl,g⟩:=f;have:=U1 b g;simp only[zw,beq_self_eq_true,Bool.true_and];exact this
 case h_2=>
  simp only[zq]at b;exact Rf f b.1
def entries(h:H)(m:V):Option (List<|V×V×Nat):=
 match m with
 | .nilm=>some []
 | .map b=>match h.get b with
  |some (.map es _)=>some es
  |_=>none
 |_=>none
def Fj(T:Cc)(h:H)(t:TypeId)(m k:V)(ok:Bool):Option V:=
 match T.und t with
 |some (.map b e)=>
  match T.und b,entries h m with
  |some d,some es=>
   bif IE T b d k then
    match Ku T b k es with
    |some (some (_,v))=>some<|bif ok then .tup [v,.bool true]else v
    |some none=>match T.inf e with
     |some i=>some<|bif ok then .tup [i.zv,.bool false]else i.zv
     |none=>none
    |none=>none
   else none
  |_,_=>none
 |_=>none
theorem ML(hr:R p h w){m:V}{g:Value}(d:Ac p m g){es:List (V×V×Nat)}(c:entries h m=some es):
  (g=.map none/\es=[])\/∃r l f b n,m=.map b/\g=.map (some r)/\p[b]?=some (r,n)/\h.get b=some (.map es f)/\w.heap[r]?=some (.map l f)/\DQ p es l.toList:=by
 unfold entries at c;split at c
 case h_1=>simp only[Ac]at d;subst d;cases c;exact .inl ⟨rfl,rfl⟩
 case h_2=>
  simp only[Ac]at d;obtain⟨r,n,hp,rfl⟩:=d;split at c
  case h_2=>cases c
  rename_i v f k;cases c;obtain⟨y,n',o,q,s,l,x,u⟩:=hr.obj _ _ k;rw[hp]at q;cases q;subst x;exact .inr ⟨r,l,f,_,_,rfl,rfl,hp,k,s,u⟩
 case h_3=>cases c
theorem run_findKey(u:T.Ok P){c:TypeId}{k:V}{A:Value}(B:Ac p k A){d:TypeDesc}(s:T.und c=some d){es:List (V×V×Nat)}{l:List MapEntry}(D:DQ p es l)
  {r:Option (Nat×V)} (f:Ku T c k es=some r):
  ∃b,(y9 c A l).run P w=.ok b w/\(match r with|none=>b=none|some (j,v)=>∃v',b=some (j,v')/\Ac p v v'/\∃e,l[j]?=some e/\e.key=A):=by
 by_cases m:∃xs,k=.agg xs
 ·obtain⟨xs,rfl⟩:=m;simp only[Ku]at f;cases o:T.flat c with
  |none=>simp[o]at f
  |some ks=>
   simp only[o]at f;simp only[Ac]at B;obtain⟨x,rfl,F⟩:=B;obtain⟨fs,hfs⟩:=u.kind c ks o;rw[s]at hfs;cases hfs;obtain⟨b,q,g⟩:=OW (P:=P) (w:=w) u o F D f;refine⟨b,?_,?_⟩
   ·unfold y9;simp only[zd,Az u s,zc];cases l with
    |nil=>simp only[yt];simpa [yq]using q
    |cons e l=>simp only[yt,y8];exact q
   ·cases r with
    |none=>exact g
    |some y=>
     obtain⟨j,v⟩:=y;obtain⟨v',m1,m2,m3,e',m4,m5⟩:=g;exact⟨v',m1,m2,e',by simpa using m4,m5⟩
 ·have E:Ku T c k es=Md T c k es 0:=by cases k<;>first|rfl|exact wh ⟨_,rfl⟩ m
  rw[E]at f;obtain⟨b,q,g⟩:=nN B s D f;refine⟨b,?_,?_⟩
  ·unfold y9;simp only[zd,Az u s,zc,q,zf]
  ·cases r with
   |none=>exact g
   |some y=>
    obtain⟨j,v⟩:=y;obtain⟨v',m1,m2,m3,e',m4,m5⟩:=g;exact⟨v',m1,m2,e',by simpa using m4,m5⟩
theorem Yk(g:T.Ok P)(hr:R p h w){t:TypeId}{m k:V}{y u:Value}{ok:Bool}(M:Ac p m y)(x:Ac p k u){v:V}(c:Fj T h t m k ok=some v):
  ∃v',(qg t y u ok).run P w=.ok v' w/\Ac p v v':=by
 unfold Fj at c;split at c
 case h_2=>cases c
 rename_i E e G;split at c
 case h_2=>cases c
 rename_i d es f B;cases s:IE T E d k with
 |false=>simp[s]at c
 |true=>
  simp only[s,we]at c;obtain⟨l,o,q⟩:∃l:List MapEntry,DQ p es l/\(qg t y u ok).run P w=((y9 E u l).run P w).andThen fun r w'=>
    match r with
    |some (_,v)=>.ok (if ok then .tuple #[v,.bool true]else v) w'
    |none=>((zeroValue e).run P w').andThen fun z w'=>.ok (if ok then .tuple #[z,.bool false]else z) w':=by
   rcases ML hr M B with⟨rfl,rfl⟩|⟨r,l,O,b,n,rfl,rfl,hp,Q,N,J⟩
   ·refine⟨[],.nil,?_⟩;unfold qg;simp only[zd,Az g G,zc,zf,JW g f x s];congr 1;funext r w'
    cases r<;>simp
   ·refine⟨l.toList,J,?_⟩;unfold qg;simp only[zd,Az g G,zc,zf,JW g f x s,getObj,yd,N];congr 1;funext r w'
    cases r<;>simp
  rw[q];split at c
  case h_3=>cases c
  case h_1=>
   rename_i j v0 D;cases c;obtain⟨L,A,v',rfl,F,_⟩:=run_findKey (P:=P) (w:=w) g x f o D;simp only[A,zc];cases ok
   ·exact⟨v',by simp,by simpa using F⟩
   ·exact⟨.tuple #[v',.bool true],by simp,by simp only[we,Ac];exact⟨_,rfl,by simp[F,Ac]⟩⟩
  case h_2=>
   rename_i D;split at c
   case h_2=>cases c
   rename_i i K;cases c;obtain⟨L,A,I⟩:=run_findKey (P:=P) (w:=w) g x f o D;simp only at I;subst I;obtain⟨z,hz,hzr⟩:=Aa7 g K;simp only[A,zc,hz];cases ok
   ·exact⟨z,by simp,by simpa using hzr p⟩
   ·exact⟨.tuple #[z,.bool false],by simp,by simp only[we,Ac];exact⟨_,rfl,by simp[hzr p,Ac]⟩⟩
def XS(es:List (V×V×Nat))(i:Nat)(k v:V):List (V×V×Nat):=es.modify i fun e=>(k,v,e.2.2)
theorem DQ.modify{es:List (V×V×Nat)}{l:List MapEntry}(o:DQ p es l){k v:V}{c v':Value}(r:Ac p k c)(f:Ac p v v')(i:Nat):
  DQ p (XS es i k v) (l.modify i fun e=>{ e with key:=c,val:=v' }):=by
 unfold XS;induction o generalizing i with
 |nil=>simp;exact .nil
 |@cons a x b es e l q g d m s=>
  cases i with
  |zero=>simp;exact .cons r f d m
  |succ i=>simp;exact .cons q g d<|s i
theorem DQ.snoc{es:List (V×V×Nat)}{l:List MapEntry}(c:DQ p es l){k v:V}{e:MapEntry}(g:Ac p k e.key)(b:Ac p v e.val):DQ p (es++[(k,v,e.born)]) (l++[e]):=by
 induction c with
 |nil=>exact .cons g b rfl .nil
 |cons d f o _ m=>exact .cons d f o m
def HH(T:Cc)(h:H)(t:TypeId)(m k v:V):Option H:=
 match T.und t,m with
 |some (.map c _),.map b=>
  match T.und c,h.get b with
  |some d,some (.map es f)=>
   bif IE T c d k then
    match Ku T c k es with
    |some (some (i,_))=>some<|h.put b<|.map (XS es i k v) f
    |some none=>some<|h.put b<|.map (es++[(k,v,f)])<|f+1
    |none=>none
   else none
  |_,_=>none
 |_,_=>none
theorem Xf(y:T.Ok P)(hr:R p h w){t:TypeId}{m k v:V}{G s v':Value}(K:Ac p m G)(g:Ac p k s)(I:Ac p v v'){h':H}(c:HH T h t m k v=some h'):
  ∃w',(Instr.mapUpdate t G s v').run P w=.ok () w'/\Ext p h w p h' w':=by
 unfold HH at c;split at c
 case h_2=>cases c
 rename_i O e b U;split at c
 case h_2=>cases c
 rename_i d es A f B;cases u:IE T O d k with
 |false=>simp[u]at c
 |true=>
  simp only[u,we]at c;rcases ML (es:=es) hr K (by simp only[entries,B])with⟨rfl,_⟩|⟨r,l,S,b',n,L,rfl,hp,q,F,x⟩
  ·simp[Ac]at K
  ·cases L;rw[B]at q;cases q;unfold Instr.mapUpdate;simp only[zd,Az y U,zc,JW y f g u,getObj,yd,F];split at c
   case h_3=>cases c
   case h_1=>
    rename_i j v0 E;cases c;obtain⟨W,D,v1,rfl,X,N,M,Q⟩:=run_findKey (P:=P) (w:=w) y g f x E;simp only[D,zc];have o:(l[j]?.map (·.key)).getD s=s:=by
     have:l[j]?=some N:=by simpa using M
     simp[this,Q]
    rw[o];unfold Instr.keyThatStays;simp only[Xs g u,wk,zd,zf,zc,setObj,yd,F];refine⟨_,rfl,ql hr B hp (o':=.map (XS es j k v) A) ⟨_,rfl,?_⟩ rfl rfl rfl rfl⟩;have:=x.modify g I j;simpa using this
   case h_2=>
    rename_i E;cases c;obtain⟨W,D,J⟩:=run_findKey (P:=P) (w:=w) y g f x E;simp only at J;subst J;simp only[D,zc,setObj,yd,F];refine⟨_,rfl,ql hr B hp (o':=.map (es++[(k,v,A)])<|A+1) ⟨_,rfl,?_⟩ rfl rfl rfl rfl⟩;have:=x.snoc (e:={ key:=s,val:=v',born:=A }) g I;simpa using this
def Ie(T:Cc)(h:H)(t:TypeId)(x:V):Option (V×H):=
 match T.und t,x with
 |some (.map _ _),.nilm=>some (.ptr h.nx 0,h.push<|.miter none 0 [] 0)
 |some (.map _ _),.map b=>match h.get b with
  |some (.map _ c)=>some (.ptr h.nx 0,h.push<|.miter (some b) c [] c)
  |_=>none
 |_,_=>Ta T h t x
theorem Yi(m:T.Ok P)(hr:R p h w){t:TypeId}{x:V}{x':Value}(d:Ac p x x'){v:V}{h':H}(c:Ie T h t x=some (v,h')):
  ∃v' p' w',(y7 t x').run P w=.ok v' w'/\Ac p' v v'/\Ext p h w p' h' w':=by
 unfold Ie at c;split at c
 case h_1=>
  rename_i k;cases c;simp only[Ac]at d;subst d;have g:=qe (n:=0) hr (o:=.miter none 0 [] 0) (x:=.mapIter none 0 #[] 0) rfl;refine⟨.pointer<|some ⟨w.heap.size,0,none⟩,_,_,?_,?_,g⟩
  ·unfold y7;simp only[zd,Az m k,zc,zf,run_newObj]
  ·simp only[Ac];exact⟨w.heap.size,0,by rw[<-hr.len];simp,rfl⟩
 case h_2=>
  rename_i b k;split at c
  case h_2=>cases c
  rename_i es f q;cases c;simp only[Ac]at d;obtain⟨r,n,hp,rfl⟩:=d;obtain⟨r',n',o,h1,h2,l,h3,h4⟩:=hr.obj _ _ q;rw[hp]at h1;cases h1;subst h3;have s:(p++[(w.heap.size,0)])[b]?=some (r,n):=by rw[yg (zx.1 hp).1];exact hp
  have g:=qe (n:=0) hr (o:=.miter (some b) f [] f) (x:=.mapIter (some r) f #[] f) ⟨r,n,hp,rfl⟩;refine⟨.pointer<|some ⟨w.heap.size,0,none⟩,_,_,?_,?_,g⟩
  ·unfold y7;simp only[zd,Az m k,zc,zf,getObj,yd,h2,run_newObj]
  ·simp only[Ac];exact⟨w.heap.size,0,by rw[<-hr.len];simp,rfl⟩
 case h_3=>exact dV m hr d c
def Te(h:H)(d:V)(c:Bool):Option (List<|V×H):=
 match d,c with
 | .ptr b 0,false=>
  match h.get b with
  |some (.miter none _ _ _)=>some [(.tup [.bool false],h)]
  |some (.miter (some m) since seen last)=>
   match h.get m with
   |some (.map es f)=>
    bif es.all (fun e=>zl e.2.2 since)&&zt since last then
     match es.filter (fun e=> !seen.contains e.2.2)with
     |[]=>some [(.tup [.bool false],h)]
     |left=>some (left.map fun e=>(.tup [.bool true,e.1,e.2.1],h.put b<|.miter (some m) since (seen++[e.2.2]) f))
    else none
   |_=>none
  |_=>none
 |_,_=>none
theorem DQ.get{es:List (V×V×Nat)}{l:List MapEntry}(d:DQ p es l):∀ {i:Nat} {e:MapEntry},l[i]?=some e->∃k v,es[i]?=some (k,v,e.born)/\Ac p k e.key/\Ac p v e.val:=by
 induction d with
 |nil=>intro i e h;simp at h
 |@cons k v b es o l f c m _ g=>
  intro i e h;cases i with
  |zero=>simp at h;subst h;exact⟨k,v,by simp[m],f,c⟩
  |succ i=>simp at h;simpa using g h
theorem DQ.filter{es:List (V×V×Nat)}{l:List MapEntry}(g:DQ p es l)(q:Nat->Bool):DQ p (es.filter fun e=>q e.2.2) (l.filter fun e=>q e.born):=by
 induction g with
 |nil=>exact .nil
 |@cons k v b es o l m f d _ c=>
  simp only[List.filter_cons,d];cases q b with
  |false=>exact c
  |true=>exact .cons m f d c
theorem DQ.all{es:List (V×V×Nat)}{l:List MapEntry}(c:DQ p es l)(q:Nat->Bool):(es.all fun e=>q e.2.2)=l.all fun e=>q e.born:=by
 induction c with
 |nil=>rfl
 |@cons k v b es m l o g f _ d=>simp only[qm,f,d]
theorem DQ.find{es:List (V×V×Nat)}{l:List MapEntry}(o:DQ p es l)(q:Nat->Bool){e:V×V×Nat}(c:es.find? (fun e=>q e.2.2)=some e):∃d,l.find? (fun e=>q e.born)=some d/\Ac p e.1 d.key/\Ac p e.2.1 d.val:=by
 induction o with
 |nil=>simp at c
 |@cons k v b es m l r g u _ s=>
  simp only[List.find?_cons,u]at c ⊢;cases f:q b with
  |false=>simp only[f]at c ⊢;exact s c
  |true=>simp only[f]at c ⊢;cases c;exact⟨m,rfl,r,g⟩
theorem gN(n:Nat)(b:0<n):∃i d,(choose<|.mapNext n).run P w=.ok i { w with drawn:=d }/\i<n:=by
 rw[run_choose];by_cases c:n<=1
 ·refine⟨0,w.drawn,?_,b⟩;simp[yv,c]
 ·refine⟨w.tape w.drawn (.mapNext n) % n,w.drawn+1,?_,Nat.mod_lt _ b⟩;simp[yv,c,Question.cut]
theorem cV(hr:R p h w){Y:V}{I:Value}{s:Bool}{t:TypeId}(hx:Ac p Y I){l:List (V×H)}(f:Te h Y s=some l):
  ∃v h' v' p' w',(v,h')∈l/\(qf I s t).run P w=.ok v' w'/\Ac p' v v'/\Ext p h w p' h' w':=by
 unfold Te at f;split at f
 case h_2=>cases f
 rename_i b;simp only[Ac]at hx;obtain⟨r,n,hp,rfl⟩:=hx;split at f
 case h_3=>cases f
 case h_1=>
  rename_i since seen last K;cases f;obtain⟨r',n',x,A,J,F⟩:=hr.obj _ _ K;rw[hp]at A;cases A;simp only[Hw]at F;subst F;refine⟨_,_,.tuple #[.bool false],p,w,zy.2 rfl,?_,by simp[Ac],zu hr⟩;unfold qf;simp only[zd,getObj,yd,J,zc];rfl
 case h_2=>
  rename_i m since seen last K;split at f
  case h_2=>cases f
  rename_i es Q hm;cases M:(es.all (fun e=>zl e.2.2 since)&&zt since last)with
  |false=>simp[M]at f
  |true=>
   simp only[M,we]at f;simp only[zq,yb]at M;obtain⟨c1,c2⟩:=M;obtain⟨r',n',x,A,J,F⟩:=hr.obj _ _ K;rw[hp]at A;cases A;simp only[Hw]at F;obtain⟨rm,nm,hpm,rfl⟩:=F;obtain⟨r2,n2,x2,k1,k2,l2,k3,k4⟩:=hr.obj _ _ hm;rw[hpm]at k1;cases k1;subst k3;rw[k4.all fun b=>zl b since]at c1;have g:∀e∈l2.toList,e.born<since:=by
    intro e y;have:=List.all_eq_true.1 c1 e y;simpa using this
   have W:(!seen.toArray.isEmpty&& !l2.isEmpty&&l2.all (·.born>=last))=false:=by
    cases U:l2.toList with
    |nil=>
     have:l2= #[]:=zm.1 U;simp[this]
    |cons X Z=>
     have O:X∈l2.toList:=by rw[U];simp
     have h0:=g X O;have:l2.all (·.born>=last)=false:=by
      rw[<-Array.all_toList,U,qm];have:(decide (X.born>=last))=false:=by simp;omega
      rw[this];rfl
     rw[this];simp
   have q:(l2.filter fun e=> !seen.toArray.contains e.born).toList=l2.toList.filter fun e=> !seen.contains e.born:=by
    simp
   have c:=k4.filter fun b=> !seen.contains b
   have e1:((l2.filter fun e=> !seen.toArray.contains e.born).filter (·.born<since))=l2.filter fun e=> !seen.toArray.contains e.born:=by
    apply zm.1;rw[Array.toList_filter,List.filter_eq_self];intro e y;rw[q]at y;simpa using g e ((List.mem_filter.1 y).1)
   have e2:((l2.filter fun e=> !seen.toArray.contains e.born).filter (·.born>=since))= #[]:=by
    apply zm.1;rw[Array.toList_filter];simp only[List.filter_eq_nil_iff];intro e y;rw[q]at y;have:=g e<|(List.mem_filter.1 y).1;simp;omega
   unfold qf;simp only[zd,getObj,yd,J,zc,k2];rw[wc<|by rw[W];simp];simp only[e1,e2,Array.append_empty];generalize hL:(l2.filter fun e=> !seen.toArray.contains e.born)=L at*;rw[<-q]at c;have u:=c.length;split at f
   case h_1=>
    rename_i G;cases f;have S:L= #[]:=by
     apply zm.1;apply qd.1;rw[<-u,G];rfl
    subst S;refine⟨_,_,.tuple #[.bool false],p,w,zy.2 rfl,?_,by simp[Ac],zu hr⟩;simp[zd,yv]
   case h_2=>
    rename_i left N;cases f;have o:0<L.size:=by
     have:L.toList.length=L.size:=by simp
     rw[<-this, <-u];cases hq:es.filter (fun e=> !seen.contains e.2.2)with
     |nil=>exact wh hq N
     |cons _ _=>simp
    have B:L.isEmpty=false:=by simp[Array.isEmpty];intro h0;rw[h0]at o;simp at o
    simp only[B,z8,vg,Array.empty_append,Array.size_map];obtain⟨i,d,g1,g2⟩:=gN (P:=P) (w:=w) L.size o;simp only[zd,g1,zc];have hi:L[i]?=some L[i]:=by simp[g2]
    obtain⟨k,v,q1,q2,q3⟩:=c.get (i:=i) (e:=L[i]) (by simp[g2]);simp only[Array.getElem?_map,hi,yw,zd];have E:=qi hr d;have D:=ql E.rel K hp (o':=.miter (some m) since (seen++[L[i].born]) Q) (x':=.mapIter (some rm) since (seen.toArray.push L[i].born) Q) ⟨rm,nm,hpm,by simp⟩
     (w':={ { w with drawn:=d }with heap:=w.heap.setIfInBounds r (.mapIter (some rm) since (seen.toArray.push L[i].born) Q) }) rfl rfl rfl rfl
    refine⟨.tup [.bool true,k,v],_,.tuple #[.bool true,L[i].key,L[i].val],p,_,List.mem_map.2 ⟨(k,v,L[i].born),List.mem_of_getElem? q1,rfl⟩,?_,?_,E.trans D⟩
    ·simp[setObj,yd,J]
    ·simp only[Ac];exact⟨_,rfl,by simp[Ac,q2,q3]⟩
def Ui(h:H)(c:V):Option V:=
 match c with
 | .ptr b 0=>
  match h.get b with
  |some (.miter (some m) _ seen last)=>
   match h.get m with
   |some (.map es d)=>
    bif zh d last then
     match seen.getLast? with
     |some s=>match es.find? (fun e=>zh e.2.2 s)with
      |some e=>some<|.tup [e.1,e.2.1]
      |none=>none
     |none=>none
    else none
   |_=>none
  |_=>none
 |_=>none
theorem aZ(hr:R p h w){l:V}{k:Value}(u:Ac p l k){v:V}(c:Ui h l=some v):∃v',(Instr.entry k).run P w=.ok v' w/\Ac p v v':=by
 unfold Ui at c;split at c
 case h_2=>cases c
 rename_i b;simp only[Ac]at u;obtain⟨r,n,hp,rfl⟩:=u;split at c
 case h_2=>cases c
 rename_i m since seen last D;split at c
 case h_2=>cases c
 rename_i es B F;rw[Bt]at c;by_cases f:B=last
 ·simp only[f,decide_true,we]at c;split at c
  case h_2=>cases c
  rename_i s o;split at c
  case h_2=>cases c
  rename_i e E;cases c;obtain⟨G,n',x,q,A,y⟩:=hr.obj _ _ D;rw[hp]at q;cases q;simp only[Hw]at y;obtain⟨rm,nm,hpm,rfl⟩:=y;obtain⟨r2,n2,x2,k1,k2,l2,k3,k4⟩:=hr.obj _ _ F;rw[hpm]at k1;cases k1;subst k3;obtain⟨e',q1,q2,q3⟩:=k4.find (fun b=>zh b s) E;refine⟨.tuple #[e'.key,e'.val],?_,by simp only[Ac];exact⟨_,rfl,by simp[q2,q3]⟩⟩;unfold Instr.entry;have g:seen.toArray.back?=some s:=by rw[Array.back?_eq_getElem?];simp[List.getLast?_eq_getElem?]at o ⊢;exact o
  have d:l2.find? (fun e=>e.born==s)=some e':=by
   rw[<-Array.find?_toList, <-q1];congr 1;funext e
   rw[Bt];rw[Bool.eq_iff_iff];simp
  simp only[zd,getObj,yd,A,zc,k2,g,f,bne_self_eq_false,z8,vg,d,zf]
 ·simp[f]at c
theorem DQ.erase{es:List (V×V×Nat)}{l:List MapEntry}(f:DQ p es l)(i:Nat):DQ p (es.eraseIdx i) (l.eraseIdx i):=by
 induction f generalizing i with
 |nil=>simp;exact .nil
 |@cons k v b es q l g c o d m=>
  cases i with
  |zero=>simpa using d
  |succ i=>simp;exact .cons g c o<|m i
def LD(T:Cc)(h:H)(ts:Array TypeId)(args:List V):Option (V×H):=
 match ts[0]?,args with
 |some g,[.map b,k]=>
  match T.und g with
  |some (.map c _)=>
   match T.und c,h.get b with
   |some d,some (.map es f)=>
    bif IE T c d k then
     match Ku T c k es with
     |some (some (i,_))=>some (.tup [],h.put b<|.map (es.eraseIdx i) f)
     |some none=>some (.tup [],h.put b<|.map es f)
     |none=>none
    else none
   |_,_=>none
  |_=>none
 |_,_=>none
theorem XI(q:T.Ok P)(hr:R p h w){ts:Array TypeId}{t:TypeId}{args:List V}{args':Array Value}(O:Av p args args'.toList){v:V}{h':H}(c:LD T h ts args=some (v,h')):
  ∃v' p' w',(Builtin.delete_ ts t args').run P w=.ok v' w'/\Ac p' v v'/\Ext p h w p' h' w':=by
 unfold LD at c;split at c
 case h_2=>cases c
 rename_i Y b k M;obtain⟨K,U,f,I,E⟩:=O.two;have y:args'[0]?=some K:=by rw[<-zn,f];rfl
 have B:args'[1]?=some U:=by rw[<-zn,f];rfl
 split at c
 case h_2=>cases c
 rename_i L e Q;split at c
 case h_2=>cases c
 rename_i d es s g u;cases x:IE T L d k with
 |false=>simp[x]at c
 |true=>
  simp only[x,we]at c;rcases ML (es:=es) hr I (by simp only[entries,u])with⟨rfl,_⟩|⟨r,l,N,b',n,J,rfl,hp,m,F,o⟩
  ·simp[Ac]at I
  ·cases J;rw[u]at m;cases m;unfold Builtin.delete_;simp only[M,y,B,zd,Az q Q,zc,getObj,yd,F,JW q g E x];split at c
   case h_3=>cases c
   case h_1=>
    rename_i j v0 D;cases c;obtain⟨S,A,v1,rfl,k3,X,W,Z⟩:=run_findKey (P:=P) (w:=w) q E g o D;refine⟨.tuple #[],p,{ w with heap:=w.heap.setIfInBounds r (.map (l.eraseIdxIfInBounds j) s) },?_,by simp[Ac],ql hr u hp (o':=.map (es.eraseIdx j) s) ⟨_,rfl,?_⟩ rfl rfl rfl rfl⟩
    ·simp only[A,zc];simp[setObj,yd,F]
    ·have:=o.erase j;simpa using this
   case h_2=>
    rename_i D;cases c;obtain⟨S,A,G⟩:=run_findKey (P:=P) (w:=w) q E g o D;simp only at G;subst G;refine⟨.tuple #[],p,{ w with heap:=w.heap.setIfInBounds r (.map l s) },?_,by simp[Ac],ql hr u hp (o':=.map es s) ⟨_,rfl,o⟩ rfl rfl rfl rfl⟩;simp only[A,zc];simp[setObj,yd,F]
def Gx(T:Cc)(h:H)(ts:Array TypeId)(args:List V):Option (V×H):=
 match ts[0]?,args with
 |some t,[x]=>
  match T.und t,x with
  |some (.map _ _),.nilm=>some (.tup [],h)
  |some (.map _ _),.map b=>match h.get b with
   |some (.map _ c)=>some (.tup [],h.put b<|.map [] c)
   |_=>none
  |some (.slice _),.nils=>some (.tup [],h)
  |some (.slice _),.esl=>some (.tup [],h)
  |some (.slice _),.es0=>some (.tup [],h)
  |some (.slice e),.sl b off len _ _=>
   bif zh len 0 then some (.tup [],h)
   else match T.inf e with
    |some i=>bif zl 0 i.zero.length then
      (wr h b off<|Fp i.zero<|len*i.zero.length).map fun h'=>(.tup [],h')
     else none
    |none=>none
  |_,_=>none
 |_,_=>none
theorem dX(q:T.Ok P)(hr:R p h w){ts:Array TypeId}{t:TypeId}{args:List V}{args':Array Value}(L:Av p args args'.toList){v:V}{h':H}(d:Gx T h ts args=some (v,h')):
  ∃v' p' w',(Builtin.clear_ ts t args').run P w=.ok v' w'/\Ac p' v v'/\Ext p h w p' h' w':=by
 unfold Gx at d;split at d
 case h_2=>cases d
 rename_i t0 x K;obtain⟨x',s,f⟩:=L.one;have y:args'[0]?=some x':=by rw[<-zn,s];rfl
 unfold Builtin.clear_;simp only[K,y];split at d
 case h_7=>cases d
 case h_1=>
  rename_i g;cases d;simp only[Ac]at f;subst f;exact⟨.tuple #[],p,w,by simp[Az q g],by simp[Ac],zu hr⟩
 case h_2=>
  rename_i b g;split at d
  case h_2=>cases d
  rename_i es F G;cases d;simp only[Ac]at f;obtain⟨r,n,hp,rfl⟩:=f;obtain⟨r',n',o,D,h2,l,h3,h4⟩:=hr.obj _ _ G;rw[hp]at D;cases D;subst h3;refine⟨.tuple #[],p,{ w with heap:=w.heap.setIfInBounds r (.map #[] F) },?_,by simp[Ac],ql hr G hp (o':=.map [] F) ⟨_,rfl,.nil⟩ rfl rfl rfl rfl⟩;simp[zd,Az q g,getObj,setObj,yd,h2]
 case h_3=>
  rename_i e g;cases d;simp only[Ac]at f;subst f;exact⟨.tuple #[],p,w,by simp[Az q g],by simp[Ac],zu hr⟩
 case h_4=>
  rename_i e g;cases d;simp only[Ac]at f;obtain⟨_,_,rfl⟩:=f;exact⟨.tuple #[],p,w,by simp[Az q g],by simp[Ac],zu hr⟩
 case h_5=>
  rename_i e g;cases d;simp only[Ac]at f;obtain⟨_,rfl⟩:=f;exact⟨.tuple #[],p,w,by simp[Az q g],by simp[Ac],zu hr⟩
 case h_6=>
  rename_i e b off len cap o g;simp only[Ac]at f;obtain⟨r,n,c,hp,rfl,_⟩:=f;rw[Bt]at d;by_cases h0:len=0
  ·simp only[h0,decide_true,we,ze,zo]at d;obtain⟨rfl,rfl⟩:=d;subst h0;exact⟨.tuple #[],p,w,by simp[Az q g],by simp[Ac],zu hr⟩
  ·simp only[h0,decide_false,wg]at d;split at d
   case h_2=>cases d
   rename_i i J;cases B:zl 0 i.zero.length with
   |false=>simp[B]at d
   |true=>
    simp only[B,we,zg]at d;obtain⟨D,M,I⟩:=d;cases I;obtain⟨z,hzz,hzr⟩:=EO q J;have A:=(hzr p).length;have u:=JT (hzr p) (by simpa using B)<|len*i.zero.length;obtain⟨r',m,w',g1,g2,g3⟩:=Ub (P:=P) hr u M;rw[hp]at g1;cases g1;refine⟨.tuple #[],p,w',?_,by simp[Ac],g3⟩;have:zi z.cells len=(Array.range<|len*i.zero.length).map (fun i=>z.cells[i % z.cells.size]!):=by
     unfold zi;rw[A];simp
    obtain⟨E,rfl⟩:∃k,len=k+1:=⟨len-1,by omega⟩;simp only[zd,Az q g,zc,hzz,this,g2,zf]
def Ab7(T:Cc)(ts:Array TypeId)(args:List V):Option V:=
 match ts[0]?,args with
 |some t,[x]=>
  match T.und t,x with
  |some (.slice _),.sl _ _ _ cap 0=>some<|i64 cap
  |some (.slice _),.nils=>some<|i64 0
  |_,_=>none
 |_,_=>none
theorem xD(m:T.Ok P){ts:Array TypeId}{t:TypeId}{args:List V}{args':Array Value}(q:Av p args args'.toList){v:V}(f:Ab7 T ts args=some v):
  ∃v',(Builtin.cap_ ts t args').run P w=.ok v' w/\Ac p v v':=by
 unfold Ab7 at f;split at f
 case h_2=>cases f
 rename_i t0 x o;obtain⟨x',d,g⟩:=q.one;have k:args'[0]?=some x':=by rw[<-zn,d];rfl
 unfold Builtin.cap_;simp only[o,k];split at f
 case h_3=>cases f
 case h_1=>
  rename_i e b off len cap l;cases f;simp only[Ac]at g;obtain⟨r,n,c,hp,rfl,A,u,s,y⟩:=g;have:=s trivial;subst this;exact⟨_,by simp[zd,Az m l];rfl,by simp[Ac,i64,goInt]⟩
 case h_2=>
  rename_i e l;cases f;simp only[Ac]at g;subst g;exact⟨_,by simp[zd,Az m l];rfl,by simp[Ac,i64,goInt]⟩
def Ux(T:Cc)(h:H)(src dst:TypeId)(x:V):Option (V×H):=
 match T.und src,T.und dst,x with
 |some .string,some<|.slice e,.str s=>
  match T.und e with
  |some (.int .u8)=>some (.sl h.nx 0 s.length s.length 1,h.push<|.cells (s.map fun b=>.int .u8<|.ofNat b.toNat) e (0,0))
  |_=>none
 |_,_,_=>none
theorem cP(r:T.Ok P)(hr:R p h w){src dst:TypeId}{x:V}{x':Value}(A:Ac p x x'){v:V}{h':H}(f:Ux T h src dst x=some (v,h')):
  ∃v' p' w',(convert src dst x').run P w=.ok v' w'/\Ac p' v v'/\Ext p h w p' h' w':=by
 unfold Ux at f;split at f
 case h_2=>cases f
 rename_i e s G D;split at f
 case h_2=>cases f
 rename_i I;cases f;simp only[Ac]at A;subst A;have g:=run_bytes_of_string (P:=P) w src dst e (bytesOf s) (r.und _ _ G) (r.und _ _ D)<|r.und _ _ I;generalize B:grownCap w (bytesOf s).size 0 e=c at g;have q:s.length<=c:=by
  rw[<-B,BK];unfold grownCap;simp[Question.cut]
 have k:(bytesRow (bytesOf s) c).size=c:=by
  have:(bytesRow (bytesOf s) c).size=(bytesOf s).size+(c-(bytesOf s).size):=by
   unfold bytesRow;rw[yy,Array.size_map,Array.size_replicate];rfl
  rw[this,BK];omega
 have m:=qi hr<|w.drawn+1;have F:=qe (n:=c) m.rel (o:=.cells (s.map fun b=>.int .u8<|.ofNat b.toNat) e (0,0)) (x:=.cells (bytesRow (bytesOf s) c) e ((bytesRow (bytesOf s) c).size,(bytesRow (bytesOf s) c).size+1)) (by
  refine⟨_,_,rfl,k,by simpa using q,?_,fun i u E J=>by simp only[k]at E;omega⟩;refine Av.toC<|Av.mk ?_ ?_
  ·have:=k;simp at this ⊢;omega
  ·intro i d v f l;simp only[List.length_map]at l;simp only[yc,zg]at f;obtain⟨b,y,rfl⟩:=f;have u:=(zx.1 y).1;rw[zp u]at l;simp only[bytesRow,Array.toList_append,Array.toList_map,bytesOf]at l;rw[yg<|by simpa using u]at l;simp only[yc,y,yw,ze]at l;subst l;simp[Ac])
 refine⟨_,_,_,g,?_,m.trans F⟩;simp only[Ac];refine⟨w.heap.size,c,c,by rw[<-hr.len];simp,by rw[BK],yi _,q,fun h=>(by cases h),fun _=>(by omega)⟩
def Bx(T:Cc)(h:H)(s d:TypeId)(x:V):Option V:=
 match T.und s,T.und d,x with
 |some (.pointer _),some .unsafePointer,.nilp=>some .nilp
 |some .unsafePointer,some<|.pointer _,.nilp=>some .nilp
 |some (.pointer t),some .unsafePointer,.ptr b off=>
  match T.inf t,h.get b with
  |some i,some (.cells cs _ _)=>bif zl 0 i.size&&zl off cs.length then some (.ptr b off)else none
  |_,_=>none
 |some .unsafePointer,some<|.pointer u,.ptr b off=>
  match T.inf u,h.get b with
  |some i,some (.cells cs e _)=>bif zl 0 i.size&&zt i.size cs.length&&zh e u&&zh off 0 then some (.ptr b 0)else none
  |_,_=>none
 |_,_,_=>none
theorem UZ(hr:R p h w){b:Nat}{cs:List V}{t:TypeId}{fz:Nat×Nat}(g:h.get b=some (.cells cs t fz)):
  ∃r n,p[b]?=some (r,n)/\w.shape? r=some (t,n)/\cs.length<=n:=by
 obtain⟨r,n,x,l,d,c,fz',rfl,f,k,_⟩:=hr.obj b _ g;exact⟨r,n,l,by simp[World.shape?,d,f],k⟩
theorem bF{u:TypeId}(d:P.cellsOf u≠0)(k:Nat)(c:1<=k):liesAt P P.depth u k 0 u 1=true:=by
 have b:P.depth=(2*(P.types.size+Made.depth)+1)+1:=rfl;rw[b];simp only[liesAt,qh];left;rw[b];simp[rowAt,d,c,sameLayout]
theorem wB(f:T.Ok P)(hr:R p h w){s d:TypeId}{x:V}{x':Value}(k:Ac p x x'){v:V}(c:Bx T h s d x=some v):
  ∃v',(convert s d x').run P w=.ok v' w/\Ac p v v':=by
 unfold Bx at c;split at c
 case h_5=>cases c
 case h_1=>
  rename_i m l;simp only[Ac]at k;subst k;cases c;refine⟨.pointer none,?_,by simp[Ac]⟩;simp[convert,Az f m,Az f l,Conv.unsafePointer]
 case h_2=>
  rename_i m l;simp only[Ac]at k;subst k;cases c;refine⟨.pointer none,?_,by simp[Ac]⟩;simp[convert,Az f m,Az f l,Conv.unsafePointer]
 case h_3=>
  rename_i t b off m l;split at c
  case h_2=>cases c
  rename_i i cs e fz y A;cases g:(zl 0 i.size&&zl off cs.length)with
  |false=>rw[g]at c;cases c
  |true=>
   rw[g]at c;cases c;simp only[zq,yp]at g;obtain⟨j,z,o,B,_⟩:=f.inf t i y;obtain⟨r,n,k1,k2,k3⟩:=UZ hr A;simp only[Ac]at k;obtain⟨r',n',q1,rfl⟩:=k;rw[k1]at q1;cases q1;refine⟨_,Lib.run_to_unsafe w ⟨r,off,none⟩ (f.und _ _ m) (f.und _ _ l) o (by omega) k2 (by show off<n;omega),?_⟩;simp only[Ac];exact⟨r,n,k1,rfl⟩
 case h_4=>
  rename_i u b off m l;split at c
  case h_2=>cases c
  rename_i i cs e fz y A;cases g:(zl 0 i.size&&zt i.size cs.length&&zh e u&&zh off 0)with
  |false=>rw[g]at c;cases c
  |true=>
   rw[g]at c;cases c;simp only[zq,yp,yb,Bt,w5]at g;obtain⟨⟨⟨E,F⟩,rfl⟩,rfl⟩:=g;obtain⟨j,z,o,B,_⟩:=f.inf e i y;obtain⟨r,n,k1,k2,k3⟩:=UZ hr A;simp only[Ac]at k;obtain⟨r',n',q1,rfl⟩:=k;rw[k1]at q1;cases q1;have q:P.cellsOf e=i.size:=by simp[Program.cellsOf,o,B]
   have D:1<=n/P.cellsOf e:=by rw[q];exact Nat.div_pos (by omega) E
   refine⟨_,Lib.run_from_unsafe w ⟨r,0,none⟩ (f.und _ _ m) (f.und _ _ l) o k2 (bF (by omega) _ D),?_⟩;simp only[Ac];exact⟨r,n,k1,rfl⟩
def Qc(args:List V):Option V:=
 match args with
 |[.nils]=>some .nilp
 |[.sl b off _ cap _]=>bif zl 0 cap then some (.ptr b off)else none
 |_=>none
theorem aX{ts:Array TypeId}{t:TypeId}{args:List V}{args':Array Value}(l:Av p args args'.toList){v:V}(d:Qc args=some v):
  ∃v',(Builtin.unsafeSliceData_ ts t args').run P w=.ok v' w/\Ac p v v':=by
 unfold Qc at d;split at d
 case h_3=>cases d
 case h_1=>
  cases d;obtain⟨x,k,f⟩:=l.one;have:args'= #[x]:=zm.1 k;subst this;simp only[Ac]at f;subst f;exact⟨_,Lib.run_unsafeSliceData_nil w ts t 0 0,by simp[Ac]⟩
 case h_2=>
  rename_i b off len cap o;cases g:zl 0 cap with
  |false=>rw[g]at d;cases d
  |true=>
   rw[g]at d;cases d;rw[yp]at g;obtain⟨x,k,f⟩:=l.one;have:args'= #[x]:=zm.1 k;subst this;simp only[Ac]at f;obtain⟨r,n,c,g1,rfl,g2,g3,_⟩:=f;exact⟨_,Lib.run_unsafeSliceData_row w ts t _ len c (by omega),by simp only[Ac];exact⟨r,n,g1,rfl⟩⟩
def Tt:V->Option UInt8
 | .int .u8 (.ofNat n)=>bif zl n 256 then some (UInt8.ofNat n)else none
 |_=>none
def GM:List V->Option Z
 |[]=>some []
 |v::vs=>
  match Tt v,GM vs with
  |some b,some c=>some (b::c)
  |_,_=>none
theorem oQ{c:V}{b:UInt8}(h:Tt c=some b):c=.int .u8 (b.toNat:Int):=by
 unfold Tt at h;split at h
 case h_2=>cases h
 rename_i n;cases d:zl n 256 with
 |false=>rw[d]at h;cases h
 |true=>
  rw[d]at h;cases h;rw[yp]at d;have:(UInt8.ofNat n).toNat=n:=by simp;omega
  rw[this];rfl
theorem Mj:∀ {cs:List V} {l:Z},GM cs=some l->cs=l.map fun b=>V.int .u8 (b.toNat:Int)
 |[],l,d=>by cases d;rfl
 |c::cs,l,d=>by
  unfold GM at d;split at d
  case h_2=>cases d
  rename_i b tl g f;cases d;rw[oQ g,Mj f];rfl
def RY(T:Cc)(h:H)(ts:List TypeId)(args:List V):Option (V×H):=
 match ts,args with
 |[c,_],[.ptr b 0,.int .i64<|.ofNat n]=>
  match T.und c,h.get b with
  |some (.pointer e),some (.cells cs d fz)=>
   match T.inf e,GM (cs.take n)with
   |some i,some l=>bif zh i.size 1&&zh e d&&zl 0 n&&zt n cs.length&&zt n 9223372036854775807&&zt fz.2 fz.1 then some (.str l,h.kill b)else none
   |_,_=>none
  |_,_=>none
 |_,_=>none
theorem Ext.gone{w':World}(hr:R p h w){b r n:Nat}{o:O}{x':Obj}(q:h.get b=some o)(hp:p[b]?=some (r,n))
  (u:w'.heap=w.heap.setIfInBounds r x') (G:w'.os=w.os) (E:w'.output=w.output) (K:w'.tape=w.tape) (M:∀cs t fz,o=.cells cs t fz->¬Lk n fz):Ext p h w p (h.kill b) w':=by
 refine⟨⟨[],by simp⟩,⟨hr.len,fun c k g=>?_,(hr.kill b).inj⟩,by simp[u],fun s L F=>?_,fun s J=>?_,G,E,K,fun s L D=>?_⟩
 ·rw[H.Ck]at g;by_cases e:c=b
  ·rw[wd e]at g;cases g
  ·rw[wc e]at g;obtain⟨s,m,y,f,x,I⟩:=hr.obj c k g;refine⟨s,m,y,f,?_,I⟩;have d:r≠s:=fun A=>e<|hr.inj c b k o s m n g q f<|A▸hp
   rw[u,zj d];exact x
 ·have d:r≠s:=fun e=>F<|e▸⟨b,o,n,q,hp⟩
  rw[u,zj d]
 ·obtain⟨c,k,m,f,x⟩:=J;rw[H.Ck]at f;split at f
  ·cases f
  ·exact .inl ⟨c,k,m,f,x⟩
 ·obtain⟨c,m,cs,t,fz,l,v,B⟩:=D;by_cases e:c=b
  ·subst e;rw[hp]at v;cases v;rw[q]at l;cases l;exact wh B<|M cs t fz rfl
  ·have d:r≠s:=fun A=>e<|hr.inj c b _ o s m n l q v<|A▸hp
   refine⟨by rw[u,zj d],.inl ⟨c,m,cs,t,fz,by rw[H.Ck,wc e];exact l,v,B⟩⟩
theorem Vo{w:World}{r n:Nat}{c:Array Value}{e:TypeId}{fz:Nat×Nat}(b:w.heap[r]?=some (.cells c e fz))(h0:n≠0):
  ∃fz',(w.freeze ⟨r,0,none⟩ n).heap=w.heap.setIfInBounds r (.cells c e fz'):=by
 refine⟨if fz.1==fz.2 then(0,0+n)else(min fz.1 0,max fz.2<|0+n),?_⟩;unfold World.freeze;rw[wc h0];dsimp only
 rw[QD b]
theorem nT(G:T.Ok P)(hr:R p h w){ts:Array TypeId}{t:TypeId}{args:List V}{args':Array Value}(U:Av p args args'.toList){v:V}{h':H}(d:RY T h ts.toList args=some (v,h')):
  ∃v' w',(Builtin.unsafeString_ ts t args').run P w=.ok v' w'/\Ac p v v'/\Ext p h w p h' w':=by
 unfold RY at d;split at d
 case h_2=>cases d
 rename_i F J b n o;have o:ts= #[F,J]:=zm.1 o;subst o;split at d
 case h_2=>cases d
 rename_i e cs Z fz N K;split at d
 case h_2=>cases d
 rename_i i l O M;cases A:(zh i.size 1&&zh e Z&&zl 0 n&&zt n cs.length&&zt n 9223372036854775807&&zt fz.2 fz.1)with
 |false=>rw[A]at d;cases d
 |true=>
  rw[A]at d;cases d;simp only[zq,yp,yb,Bt,w5]at A;obtain⟨⟨⟨⟨⟨X,rfl⟩,c3⟩,c4⟩,c5⟩,c6⟩:=A;obtain⟨x,y,hargs,g1,g2⟩:=U.two;have:args'= #[x,y]:=zm.1 hargs;subst this;simp only[Ac]at g1 g2;obtain⟨r,m,g1,rfl⟩:=g1;subst g2;obtain⟨r',m',ob,k1,k2,c,fz',rfl,k4,k5,k6,k7⟩:=hr.obj b _ K;rw[g1]at k1;cases k1;obtain⟨j,z,j1,j2,_⟩:=G.inf e i O;have D:P.cellsOf e=1:=by simp[Program.cellsOf,j1,j2,X]
  have u:=Mj M;have f:l.length=n:=by
   have:=wi List.length u;rw[List.length_take,List.length_map]at this;omega
  have E:w.shape? r=some (e,m):=by simp[World.shape?,k2,k4]
  have k:∀j x,l[j]?=some x->w.cell? ((⟨r,0,none⟩:Addr).add j)=some (.int .u8 x.toNat):=by
   intro j x L;have hj:=(zx.1 L).1;have Q:cs[j]?=some (.int .u8 (x.toNat:Int)):=by
    have:=wi (·[j]?) u;simp only[yc,L,yw]at this;rw[zp<|by omega]at this;exact this
   obtain⟨v,I,q⟩:=k6.get Q rfl;simp only[Ac]at q;subst q;rw[zp<|by omega]at I;rw[Addr.Ig];simp only[World.cell?,k2];simpa using I
  have s:=Lib.run_unsafeString_row w F J t e (G.und _ _ N) D r m E l (by intro h;subst h;simp at f;omega) (by omega) (by omega) k;obtain⟨Y,B⟩:=Vo (n:=l.length) k2 (by omega);refine⟨.string<|bytesOf l,w.freeze ⟨r,0,none⟩ l.length,?_,by simp[Ac],?_⟩
  ·rw[<-f];exact s
  ·have g:(w.freeze ⟨r,0,none⟩ l.length).os=w.os/\(w.freeze ⟨r,0,none⟩ l.length).output=w.output/\(w.freeze ⟨r,0,none⟩ l.length).tape=w.tape:=by
    unfold World.freeze;split<;>exact⟨rfl,rfl,rfl⟩
   exact Ext.gone hr K g1 B g.1 g.2.1 g.2.2 (by
    intro cs' t' fz' S W;cases S;obtain⟨q1,q2,q3⟩:=W;omega)
end
mutual
def cv:Value->Option V
 | .bool b=>some<|.bool b
 | .int k n=>some<|.int k n
 | .string s=>some<|.str s.data.toList
 | .pointer none=>some .nilp
 | .slice none 0 0=>some .nils
 | .map none=>some .nilm
 | .nilFunc=>some .nilf
 | .nilIface=>some .nili
 | .func f ⟨[]⟩ ⟨[]⟩=>some<|.fn f [] []
 | .agg ⟨cs⟩=>(zQ cs).map .agg
 | .tuple ⟨cs⟩=>(zQ cs).map .tup
 |_=>none
def zQ:List Value->Option (List V)
 |[]=>some []
 |v::vs=>match cv v,zQ vs with
  |some x,some xs=>some (x::xs)
  |_,_=>none
end
mutual
theorem W3(p:Pl):∀ {v:Value} {x:V},cv v=some x->Ac p x v
 | .bool b,x,h=>by simp[cv]at h;subst h;simp[Ac]
 | .int k n,x,h=>by simp[cv]at h;subst h;simp[Ac]
 | .string s,x,h=>by simp[cv]at h;subst h;simp[Ac,bytesOf]
 | .pointer none,x,h=>by simp[cv]at h;subst h;simp[Ac]
 | .pointer (some a),x,h=>by simp[cv]at h
 | .slice none 0 0,x,h=>by simp[cv]at h;subst h;simp[Ac]
 | .slice none 0 (_+1),x,h=>by simp[cv]at h
 | .slice none (_+1) _,x,h=>by simp[cv]at h
 | .slice (some a) _ _,x,h=>by simp[cv]at h
 | .map none,x,h=>by simp[cv]at h;subst h;simp[Ac]
 | .map (some a),x,h=>by simp[cv]at h
 | .nilFunc,x,h=>by simp[cv]at h;subst h;simp[Ac]
 | .nilIface,x,h=>by simp[cv]at h;subst h;simp[Ac]
 | .func f ⟨[]⟩ ⟨[]⟩,x,h=>by simp[cv]at h;subst h;simp[Ac]
 | .func f ⟨_::_⟩ _,x,h=>by simp[cv]at h
 | .func f ⟨[]⟩ ⟨_::_⟩,x,h=>by simp[cv]at h
 | .agg ⟨cs⟩,x,h=>by
  simp only[cv,zg]at h;obtain⟨xs,c,rfl⟩:=h;simp only[Ac];exact⟨_,rfl,Uw p c⟩
 | .tuple ⟨cs⟩,x,h=>by
  simp only[cv,zg]at h;obtain⟨xs,c,rfl⟩:=h;simp only[Ac];exact⟨_,rfl,Uw p c⟩
 | .float _ _,x,h=>by simp[cv]at h
 | .complex _ _ _,x,h=>by simp[cv]at h
 | .chan _,x,h=>by simp[cv]at h
 | .iface _ _,x,h=>by simp[cv]at h
theorem Uw(p:Pl):∀ {vs:List Value} {xs:List V},zQ vs=some xs->Av p xs vs
 |[],xs,h=>by simp[zQ]at h;subst h;simp
 |v::vs,xs,h=>by
  unfold zQ at h;split at h
  case h_2=>cases h
  rename_i x d b c;cases h;exact(Bi ..).2 ⟨W3 p b,Uw p c⟩
end
structure Fn where
 ntmps:Nat
 results:Array ResultVar
 body:Code
 cert:Bool
structure Ctx where
 T:Cc
 ng:Nat
 fn:FuncId->Option Fn
 prim:FuncId->Option (List V->H->Option (V×H))
 spec:FuncId->Option (List V->H->Option (V×H))
 mg:Bool
def Gl(_:Ctx)(p:Pl):Prop:=Gp p
theorem Gl.ext{C:Ctx}{p p':Pl}{h h':H}{w w':World}(b:Gl C p)(e:Ext p h w p' h' w'):Gl C p':=by
 obtain⟨q,rfl⟩:=e.pre;exact Gp.app b q
def ev(_:Ctx)(fr:Fr):Operand->Option V
 | .tmp t=>some<|fr.get t
 | .const v=>cv v
 | .global g=>bif gin g GC then some (.ptr g 0)else none
 | .func f=>some<|.fn (.func f) [] []
theorem A9{C:Ctx}{p:Pl}{fr:Fr}{a:Act}(k:Gl C p)(l:CO p fr a){x:Operand}{v:V}(b:ev C fr x=some v):Ac p v (a.eval x):=by
 cases x with
 |tmp t=>simp only[ev,ze]at b;subst b;exact l.2 t
 |const v=>exact W3 p b
 |global g=>
  simp only[ev]at b;cases c:gin g GC with
  |true=>
   rw[c]at b;simp only[we,ze]at b;subst b;obtain⟨o,d⟩:=YN c;simp only[Ac,Act.eval];exact⟨g,_,k _ d,rfl⟩
  |false=>rw[c]at b;cases b
 |func f=>simp only[ev,ze]at b;subst b;simp[Ac,Act.eval]
def RH(C:Ctx)(fr:Fr):List Operand->Option (List V)
 |[]=>some []
 |x::xs=>match ev C fr x,RH C fr xs with
  |some v,some vs=>some (v::vs)
  |_,_=>none
theorem JQ{C:Ctx}{p:Pl}{fr:Fr}{a:Act}(c:Gl C p)(b:CO p fr a):∀ {xs:List Operand} {vs:List V},RH C fr xs=some vs->Av p vs (xs.map a.eval)
 |[],vs,h=>by simp[RH]at h;subst h;simp
 |x::xs,vs,h=>by
  unfold RH at h;split at h
  case h_2=>cases h
  rename_i v d f g;cases h;exact(Bi ..).2 ⟨A9 c b f,JQ c b g⟩
def WI(C:Ctx)(fr:Fr):Option Operand->Option (Option V)
 |none=>some none
 |some x=>(ev C fr x).map some
theorem Oc{C:Ctx}{p:Pl}{fr:Fr}{a:Act}(f:Gl C p)(c:CO p fr a){x:Option Operand}{v:Option V}(b:WI C fr x=some v):Gv p v (x.map a.eval):=by
 cases x with
 |none=>simp[WI]at b;subst b;rfl
 |some x=>
  simp only[WI,zg]at b;obtain⟨u,d,rfl⟩:=b;exact⟨_,rfl,A9 f c d⟩
def Ye(C:Ctx)(fr:Fr):List (Nat×Operand)->Option (List<|Nat×V)
 |[]=>some []
 |(i,x)::xs=>match ev C fr x,Ye C fr xs with
  |some v,some vs=>some ((i,v)::vs)
  |_,_=>none
theorem OC{C:Ctx}{p:Pl}{fr:Fr}{a:Act}(b:Gl C p)(c:CO p fr a):∀ {xs:List (Nat×Operand)} {vs:List (Nat×V)},Ye C fr xs=some vs->U9 p vs (xs.map fun(i,x)=>(i,a.eval x))
 |[],vs,h=>by simp[Ye]at h;subst h;exact .nil
 |(i,x)::xs,vs,h=>by
  unfold Ye at h;split at h
  case h_2=>cases h
  rename_i v f g d;cases h;exact .cons (A9 b c g)<|OC b c d
inductive OR where
 |val (v:V) (h:H)
 |skip (h:H)
 |enter (f:FuncId) (args:List V)
 |round (b:Nat) (l:LS) (fr:Fr)
 |alts (l:List (V×H))
def Fr.bR(f:Fr)(t:Nat)(v:V):Fr:=bif zl t f.n then⟨f.n,f.m.set t<|some v⟩else f
def GJ:List Tmp->List V->Fr->Fr
 |t::ts,v::vs,f=>GJ ts vs<|f.bR t v
 |_,_,f=>f
theorem FE.bR{p:Pl}{f:Fr}{tmps:Array Value}(c:FE p f tmps){v:V}{v':Value}(g:Ac p v v')(t:Nat):FE p (f.bR t v) (tmps.setIfInBounds t v'):=by
 unfold Fr.bR;simp only[Hx];by_cases b:t<f.n
 ·simp only[b,decide_true,we];refine⟨by simp[c.1],fun s=>?_⟩;have d:t<tmps.size:=c.1▸b;by_cases e:s=t
  ·subst e;simp[Fr.get,d,g]
  ·have:=c.2 s;simp only[Fr.get,PM.Dn,wc e]at this ⊢;rw[zr,zj<|fun x=>e x.symm, <-zr];exact this
 ·simp only[b,decide_false,wg];have:tmps.setIfInBounds t v'=tmps:=by
   have:tmps.size<=t:=by have:=c.1;omega
   simp[Array.setIfInBounds,Nat.not_lt.2 this]
  rw[this];exact c
theorem FE.GJ{p:Pl}:∀ {ts:List Tmp} {vs:List V} {b:List Value},Av p vs b->∀ {f:Fr} {tmps:Array Value},FE p f tmps->FE p (GJ ts vs f) ((ts.zip b).foldl (fun tmps (t,a)=>tmps.setIfInBounds t a) tmps)
 |[],vs,b,_,f,tmps,d=>by simpa [Det.GJ]using d
 |t::ts,[],b,c,f,tmps,d=>by simp at c;subst c;simpa [Det.GJ]using d
 |t::ts,v::vs,b,c,f,tmps,d=>by
  simp only[Av]at c;obtain⟨u,l,rfl,k,g⟩:=c;simp only[Det.GJ,List.zip_cons_cons,List.foldl_cons];exact FE.GJ g<|d.bR k t
def BE(h:H):Option V->Option OR
 |some v=>some<|.val v h
 |none=>none
def FG:Option (V×H)->Option OR
 |some (v,h)=>some<|.val v h
 |none=>none
def hZ:Option H->Option OR
 |some h=>some<|.skip h
 |none=>none
def EA(C:Ctx)(h:H)(b:Builtin)(ts:Array TypeId)(args:List V):Option OR:=
 match b with
 | .len=>BE h<|Gr C.T h ts args
 | .append=>FG<|GQ C.T h ts args
 | .copy=>FG<|oX C.T h ts args
 | .max=>BE h<|GH pA args
 | .min=>BE h<|GH iC args
 | .cap=>BE h<|Ab7 C.T ts args
 | .delete=>FG<|LD C.T h ts args
 | .clear=>FG<|Gx C.T h ts args
 | .unsafeSliceData=>BE h<|Qc args
 | .unsafeString=>FG<|RY C.T h ts.toList args
 |_=>none
def K9(C:Ctx)(h:H)(f:V)(args:List V):Option OR:=
 match f with
 | .fn (.func g) first captured=>
  match C.prim g with
  |some q=>FG<|q (first++args++captured) h
  |none=>match C.fn g with
   |some _=>some<|.enter g<|first++args++captured
   |none=>none
 | .yld b=>match h.get b with
  |some (.loop l)=>bif zh args.length l.ps.size then some (.round b l<|GJ l.ps.toList args l.fr)else none
  |_=>none
 |_=>none
def Oe(C:Ctx)(h:H)(x:V)(name:String)(args:List V):Option OR:=
 match x with
 | .iface t v=>match C.T.mth t name with
  |some g=>K9 C h (.fn (.func g) [] []) (v::args)
  |none=>none
 |_=>none
def aA:Operand->Bool
 | .const _=>true
 |_=>false
def vT(T:Cc)(op:BinOp)(t:TypeId)(x y:Operand)(v u:V):Option V:=
 match op,v,u,T.und t with
 | .eql,.nili,.nili,some (.interface _)=>bif aA x||aA y then some (.bool true)else none
 | .neq,.nili,.nili,some (.interface _)=>bif aA x||aA y then some (.bool false)else none
 |_,_,_,_=>none
def Nx(T:Cc)(op:BinOp)(t:TypeId)(x y:Operand)(v u:V):Option V:=
 match vT T op t x y v u with
 |some r=>some r
 |none=>MD T op t v u
def G7(C:Ctx)(fr:Fr)(h:H)(o:Oper):Option OR:=
 let ρ:=ev C fr
 match o.op with
 | .move x| .assign x=>BE h<|ρ x
 | .pick c a b=>match ρ c with
  |some (.bool t)=>BE h<|if t then ρ a else ρ b
  |_=>none
 | .alloc t=>FG<|G8 C.T h t
 | .box t x=>FG<|(ρ x).map fun v=>dY h t v
 | .build t q=>match Ye C fr q.toList with
  |some ps=>BE h<|KS C.T t ps
  |none=>none
 | .buildSlice t n q=>match Ye C fr q.toList with
  |some ps=>FG<|Fg C.T h t n ps
  |none=>none
 | .load t x=>match ρ x with
  |some v=>BE h<|Fv C.T h t v
  |none=>none
 | .store t x y=>match ρ x,ρ y with
  |some v,some u=>hZ<|HN C.T h t v u
  |_,_=>none
 | .nilCheck x=>match ρ x with
  |some (.ptr b i)=>BE h<|some<|.ptr b i
  |some (.iface t v)=>BE h<|some<|.iface t v
  |_=>none
 | .binOp op t x y _=>match ρ x,ρ y with
  |some v,some u=>BE h<|Nx C.T op t x y v u
  |_,_=>none
 | .unOp op _ x=>match ρ x with
  |some v=>BE h<|dun op v
  |none=>none
 | .convert s d x=>match ρ x with
  |some v=>BE h<|Gm C.T h s d v
  |none=>none
 | .makeInterface t x=>match ρ x,C.T.und t with
  |some v,some d=>match d with
   | .interface _=>none
   |_=>BE h<|some<|.iface t v
  |_,_=>none
 | .makeFunc f first captured=>match RH C fr first.toList,RH C fr captured.toList with
  |some a,some b=>BE h<|some<|.fn f a b
  |_,_=>none
 | .makeMap _ r=>match WI C fr r with
  |some v=>FG<|IL h v
  |none=>none
 | .makeSlice t l c=>match ρ l,ρ c with
  |some v,some u=>FG<|Q1 C.T h t v u
  |_,_=>none
 | .slice t x lo D mx=>match ρ x,WI C fr lo,WI C fr D,WI C fr mx with
  |some v,some l,some r,some m=>BE h<|DO C.T t v l r m
  |_,_,_,_=>none
 | .fieldAddr t x f=>match ρ x with
  |some v=>BE h<|Kz C.T t v f
  |none=>none
 | .field t x f=>match ρ x with
  |some v=>BE h<|KI C.T t v f
  |none=>none
 | .indexAddr t x i=>match ρ x,ρ i with
  |some v,some u=>BE h<|Dj C.T t v u
  |_,_=>none
 | .index t x i=>match ρ x,ρ i with
  |some v,some u=>BE h<|HW C.T t v u
  |_,_=>none
 | .lookup t x i ok=>match ρ x,ρ i with
  |some v,some u=>BE h<|Fj C.T h t v u ok
  |_,_=>none
 | .mapUpdate t m k x| .insert t m k x=>match ρ m,ρ k,ρ x with
  |some a,some b,some c=>hZ<|HH C.T h t a b c
  |_,_,_=>none
 | .range t x=>match ρ x with
  |some v=>FG<|Ie C.T h t v
  |none=>none
 | .next x A=>match ρ x with
  |some v=>bif A then FG (ND h v A)else(Te h v A).map .alts
  |none=>none
 | .entry x=>match ρ x with
  |some v=>BE h<|Ui h v
  |none=>none
 | .extract x i=>match ρ x with
  |some v=>BE h<|Ho v i
  |none=>none
 | .call c=>match c.callee,RH C fr c.args.toList with
  | .builtin b,some args=>EA C h b c.argTypes args
  | .value f,some args=>match ρ f with
   |some g=>K9 C h g args
   |none=>none
  | .invoke x B,some args=>match ρ x with
   |some v=>Oe C h v B args
   |none=>none
  |_,_=>none
 |_=>none
abbrev GB:=Ctx->Fr->H->Option OR
def AaS(a0:Operand):GB:=fun C fr h=>BE h<|ev C fr a0
def gA(a0:Operand):GB:=fun C fr h=>BE h<|ev C fr a0
def AaO(a0:Operand)(a1:Operand)(a2:Operand):GB:=fun C fr h=>match ev C fr a0 with|some (.bool t)=>BE h (if t then ev C fr a1 else ev C fr a2)|_=>none
def rS(a0:TypeId):GB:=fun C _fr h=>FG<|G8 C.T h a0
def Ac1(a0:TypeId)(a1:Operand):GB:=fun C fr h=>FG<|(ev C fr a1).map fun v=>dY h a0 v
def vM(a0:TypeId)(a1:Array (Nat×Operand)):GB:=fun C fr h=>match Ye C fr a1.toList with|some ps=>BE h (KS C.T a0 ps)|none=>none
def TP(a0:TypeId)(a1:Nat)(a2:Array (Nat×Operand)):GB:=fun C fr h=>match Ye C fr a2.toList with|some ps=>FG (Fg C.T h a0 a1 ps)|none=>none
def mD(a0:TypeId)(a1:Operand)(a2:Operand)(a3:Operand):GB:=fun C fr h=>match ev C fr a1,ev C fr a2,ev C fr a3 with|some a,some b,some c=>hZ (HH C.T h a0 a b c)|_,_,_=>none
def Aay(a0:TypeId)(a1:Operand):GB:=fun C fr h=>match ev C fr a1 with|some v=>BE h (Fv C.T h a0 v)|none=>none
def rK(a0:TypeId)(a1:Operand)(a2:Operand):GB:=fun C fr h=>match ev C fr a1,ev C fr a2 with|some v,some u=>hZ (HN C.T h a0 v u)|_,_=>none
def wW(_a0:Nat):GB:=fun _ _ _=>none
def yB(_a0:Nat):GB:=fun _ _ _=>none
def Xk(a0:Operand):GB:=fun C fr h=>match ev C fr a0 with|some (.ptr b i)=>BE h (some<|.ptr b i)|some (.iface t v)=>BE h (some<|.iface t v)|_=>none
def tV(a0:BinOp)(a1:TypeId)(a2:Operand)(a3:Operand)(_a4:TypeId):GB:=fun C fr h=>match ev C fr a2,ev C fr a3 with|some v,some u=>BE h (Nx C.T a0 a1 a2 a3 v u)|_,_=>none
def Aax(a0:UnOp)(_a1:TypeId)(a2:Operand):GB:=fun C fr h=>match ev C fr a2 with|some v=>BE h (dun a0 v)|none=>none
def aY(a0:TypeId)(a1:TypeId)(a2:Operand):GB:=fun C fr h=>match ev C fr a2 with|some v=>BE h (Gm C.T h a0 a1 v)|none=>none
def Iy(_a0:TypeId)(_a1:Operand):GB:=fun _ _ _=>none
def NV(a0:TypeId)(a1:Operand):GB:=fun C fr h=>match ev C fr a1,C.T.und a0 with|some v,some d=>(match d with| .interface _=>none|_=>BE h<|some<|.iface a0 v)|_,_=>none
def Xj(a0:Go.Fn)(a1:Array Operand)(a2:Array Operand):GB:=fun C fr h=>match RH C fr a1.toList,RH C fr a2.toList with|some a,some b=>BE h (some<|.fn a0 a b)|_,_=>none
def eQ(_a0:TypeId)(a1:Option Operand):GB:=fun C fr h=>match WI C fr a1 with|some v=>FG (IL h v)|none=>none
def Xc(_a0:TypeId)(_a1:Operand):GB:=fun _ _ _=>none
def WB(a0:TypeId)(a1:Operand)(a2:Operand):GB:=fun C fr h=>match ev C fr a1,ev C fr a2 with|some v,some u=>FG (Q1 C.T h a0 v u)|_,_=>none
def wG(a0:TypeId)(a1:Operand)(a2:Option Operand)(a3:Option Operand)(a4:Option Operand):GB:=fun C fr h=>match ev C fr a1,WI C fr a2,WI C fr a3,WI C fr a4 with|some v,some l,some r,some m=>BE h (DO C.T a0 v l r m)|_,_,_,_=>none
def U2(a0:TypeId)(a1:Operand)(a2:Nat):GB:=fun C fr h=>match ev C fr a1 with|some v=>BE h (Kz C.T a0 v a2)|none=>none
def vN(a0:TypeId)(a1:Operand)(a2:Nat):GB:=fun C fr h=>match ev C fr a1 with|some v=>BE h (KI C.T a0 v a2)|none=>none
def VM(a0:TypeId)(a1:Operand)(a2:Operand):GB:=fun C fr h=>match ev C fr a1,ev C fr a2 with|some v,some u=>BE h (Dj C.T a0 v u)|_,_=>none
def qY(a0:TypeId)(a1:Operand)(a2:Operand):GB:=fun C fr h=>match ev C fr a1,ev C fr a2 with|some v,some u=>BE h (HW C.T a0 v u)|_,_=>none
def iJ(a0:TypeId)(a1:Operand)(a2:Operand)(a3:Bool):GB:=fun C fr h=>match ev C fr a1,ev C fr a2 with|some v,some u=>BE h (Fj C.T h a0 v u a3)|_,_=>none
def Wj(a0:TypeId)(a1:Operand)(a2:Operand)(a3:Operand):GB:=fun C fr h=>match ev C fr a1,ev C fr a2,ev C fr a3 with|some a,some b,some c=>hZ (HH C.T h a0 a b c)|_,_,_=>none
def XN(_a0:TypeId)(_a1:Operand)(_a2:Operand):GB:=fun _ _ _=>none
def S8(_a0:TypeId)(_a1:Operand)(_a2:Operand)(_a3:Operand):GB:=fun _ _ _=>none
def rZ(a0:TypeId)(a1:Operand):GB:=fun C fr h=>match ev C fr a1 with|some v=>FG (Ie C.T h a0 v)|none=>none
def Abd(a0:Operand)(a1:Bool):GB:=fun C fr h=>match ev C fr a0 with|some v=>bif a1 then FG (ND h v a1)else(Te h v a1).map .alts|none=>none
def wM(a0:Operand):GB:=fun C fr h=>match ev C fr a0 with|some v=>BE h (Ui h v)|none=>none
def TJ(_a0:Operand)(_a1:TypeId)(_a2:TypeId)(_a3:Bool):GB:=fun _ _ _=>none
def cH(a0:Operand)(a1:Nat):GB:=fun C fr h=>match ev C fr a0 with|some v=>BE h (Ho v a1)|none=>none
def Aa0(a0:Call):GB:=fun C fr h=>match a0.callee,RH C fr a0.args.toList with| .builtin b,some args=>EA C h b a0.argTypes args| .value f,some args=>(match ev C fr f with|some g=>K9 C h g args|none=>none)| .invoke x c,some args=>(match ev C fr x with|some v=>Oe C h v c args|none=>none)|_,_=>none
def Afa(_a0:Call):GB:=fun _ _ _=>none
def sG(_a0:Call):GB:=fun _ _ _=>none
def xS(_a0:Operand):GB:=fun _ _ _=>none
def Abh(_a0:Operand)(_a1:Operand):GB:=fun _ _ _=>none
def Ab8(_a0:TypeId)(_a1:Operand)(_a2:Bool):GB:=fun _ _ _=>none
def jK(_a0:Array SelectCase)(_a1:Bool):GB:=fun _ _ _=>none
def opF(o:Op):GB:=@Op.casesOn (fun _=>GB) o AaS gA AaO rS Ac1 vM TP mD Aay rK wW yB Xk tV Aax aY Iy NV Xj eQ Xc WB wG U2 vN VM qY iJ Wj XN S8 rZ Abd wM TJ cH Aa0 Afa sG xS Abh Ab8 jK
def GL(C:Ctx)(fr:Fr)(h:H)(o:Oper):Option OR:=opF o.op C fr h
theorem Db(C:Ctx)(fr:Fr)(h:H)(o:Oper):GL C fr h o=G7 C fr h o:=by
 unfold GL G7;cases o.op<;>rfl
def I8(C:Ctx)(fr:Fr)(h:H)(o:Oper):Option OR:=
 match GL C fr h o with
 |some r=>some r
 |none=>match o.op with
  | .convert s d x=>match ev C fr x with
   |some v=>match Bx C.T h s d v with
    |some u=>some<|.val u h
    |none=>FG<|Ux C.T h s d v
   |none=>none
  |_=>none
structure Ctx.Ok(C:Ctx)(P:Program):Prop where
 T:C.T.Ok P
 fn : ∀ f i, C.fn f = some i -> ∃ fn, P.funcs[f]? = some fn /\ fn.name ≠ "runtime.NumGoroutine" /\ fn.body = some i.body /\ fn.ntmps = i.ntmps /\ fn.results = i.results
 prim:∀f q,C.prim f=some q->∀(p:Pl) (h:H) (w:World) (args:List V) (args':Array Value) v h',R p h w->Gl C p->Av p args args'.toList->q args h=some (v,h')->
  ∃v' p' w',(callFunc f args').run P w=.ok (.value v') w'/\Ac p' v v'/\Ext p h w p' h' w'
 spec:∀f q,C.spec f=some q->∀(p:Pl) (h:H) (w:World) (args:List V) (args':Array Value) v h',R p h w->Gl C p->Av p args args'.toList->q args h=some (v,h')->
  Calls P f args' w fun e w'=>∃v' p',e=.returned v'/\Ac p' v v'/\Ext p h w p' h' w'
def S4(p:Pl)(h:H)(w:World):OR->Result Next->Prop
 | .val v h',r=>∃v' p' w',r=.ok (.value v') w'/\Ac p' v v'/\Ext p h w p' h' w'
 | .skip h',r=>∃p' w',r=.ok .skip w'/\Ext p h w p' h' w'
 | .enter f args,r=>∃args',r=.ok (.enter f args') w/\Av p args args'.toList
 | .round b l fr,r=>∃k n f tmps,p[b]?=some (k,n)/\h.get b=some (.loop l)/\r=.ok (.round k f tmps l.asg l.body) w/\FE p fr tmps
 | .alts l,r=>∃v h' v' p' w',(v,h')∈l/\r=.ok (.value v') w'/\Ac p' v v'/\Ext p h w p' h' w'
section
variable {C:Ctx}{P:Program}{p:Pl}{h:H}{w:World}{fr:Fr}{a:Act}
theorem Cb{s:Sem Value}{v:Option V}{r:OR}(hr:R p h w)(b:BE h v=some r)(f:∀x,v=some x->∃v',s.run P w=.ok v' w/\Ac p x v'):S4 p h w r ((do pure (.value<|<-s):Sem Next).run P w):=by
 cases v with
 |none=>simp[BE]at b
 |some x=>
  simp only[BE,ze]at b;subst b;obtain⟨v',c,d⟩:=f x rfl;exact⟨v',p,w,by simp[c],d,zu hr⟩
theorem DI{s:Sem Value}{v:Option (V×H)}{r:OR}(b:FG v=some r)(c:∀x h',v=some (x,h')->∃v' p' w',s.run P w=.ok v' w'/\Ac p' x v'/\Ext p h w p' h' w'):S4 p h w r ((do pure (.value<|<-s):Sem Next).run P w):=by
 match v,b,c with
 |some (x,h'),b,c=>
  simp only[FG,ze]at b;subst b;obtain⟨v',p',w',d,f,g⟩:=c x h' rfl;exact⟨v',p',w',by simp[d],f,g⟩
 |none,b,_=>simp[FG]at b
theorem ZP{s:Sem Unit}{v:Option H}{r:OR}(b:hZ v=some r)(f:∀h',v=some h'->∃w',s.run P w=.ok () w'/\Ext p h w p h' w'):S4 p h w r ((do s;pure .skip:Sem Next).run P w):=by
 cases v with
 |none=>simp[hZ]at b
 |some h'=>
  simp only[hZ,ze]at b;subst b;obtain⟨w',c,d⟩:=f h' rfl;exact⟨p,w',by simp[c],d⟩
theorem Nb(L:C.Ok P)(hr:R p h w)(O:Gl C p){f:V}{J:Value}{args:List V}{args':Array Value}(D:Ac p f J)(G:Av p args args'.toList){r:OR}(c:K9 C h f args=some r):
  S4 p h w r ((do let d<-ye J args';invoke d.target d.args:Sem Next).run P w):=by
 unfold K9 at c;split at c
 case h_3=>cases c
 case h_2=>
  rename_i b;split at c
  case h_2=>cases c
  rename_i l K;rw[Bt]at c;by_cases F:args.length=l.ps.size
  ·simp only[F,decide_true,we,ze]at c;subst c;simp only[Ac]at D;obtain⟨k,n,hp,rfl⟩:=D;obtain⟨k',n',o,u,A,f0,tmps,r,m,B,N,rfl⟩:=hr.obj _ _ K;rw[hp]at u;cases u;have I:=G.length;simp only[ye,zd,zf,zc,invoke];simp at I;have e:((l.ps.zip args').foldl (fun tmps (t,a)=>tmps.setIfInBounds t a) tmps)=(l.ps.toList.zip args'.toList).foldl (fun tmps (t,a)=>tmps.setIfInBounds t a) tmps:=by
    rw[<-Array.toList_zip,Array.foldl_toList]
   have E:=FE.GJ (ts:=l.ps.toList) G B;rw[<-e]at E;refine⟨k,n,f0,_,hp,K,?_,E⟩;simp only[Array.empty_append];exact run_yield A (by rw[<-I,F])
  ·simp[F]at c
 rename_i g first captured
 simp only[Ac]at D;obtain⟨x,y,rfl,Q,S⟩:=D;have s:Av p (first++args++captured) (x++args'++y).toList:=by
  simpa using(Q.append G).append S
 simp only[ye,zd,zf,zc,invoke];split at c
 case h_1=>
  rename_i q U;match hqr:q (first++args++captured) h,c with
  |some (v,h'),c=>
   simp only[FG,ze]at c;subst c;obtain⟨v',p',w',u,A,B⟩:=L.prim g q U p h w _ _ v h' hr O s hqr;exact⟨v',p',w',u,A,B⟩
  |none,c=>simp[FG]at c
 case h_2=>
  split at c
  case h_2=>cases c
  rename_i i M;cases c;obtain⟨fn,u,A,B,N,E⟩:=L.fn g i M;refine⟨_,?_,s⟩;unfold callFunc;simp[u,A,B]
theorem Vj(s:C.Ok P)(hr:R p h w)(A:Gl C p){x:V}{x':Value}{name:String}{args:List V}{args':Array Value}(u:Ac p x x')(B:Av p args args'.toList){r:OR}(c:Oe C h x name args=some r):
  S4 p h w r ((invoke (.fn (.method name) #[])<|#[x']++args').run P w):=by
 unfold Oe at c;split at c
 case h_2=>cases c
 rename_i t v;split at c
 case h_2=>cases c
 rename_i g F;simp only[Ac]at u;obtain⟨y,rfl,D⟩:=u;obtain⟨j,m,d,h1,h2,h3,h4,h5,h6⟩:=s.T.mth t name g F;have key:(invoke (.fn (.method name) #[])<|#[.iface t y]++args').run P w=((do let d<-ye (.func (.func g) #[] #[]) (#[y]++args');invoke d.target d.args:Sem Next).run P w):=by
  have l:(underlying t).run P w=.ok d w:=by unfold underlying;simp[h5]
  have q:(typeInfo t).run P w=.ok j w:=by unfold typeInfo;simp[h1]
  have b:∀k,(method (k+1) t y name).run P w=.ok (g,y) w:=by
   intro k;unfold method;simp only[zd,q,zc,h2,h3,follow,zf,h4];unfold receiverAt;simp only[zd,l,zc,Place.get];cases d<;>first|(exact wh rfl (h6 _))|simp
  have o:=b<|P.types.size+99;have e:P.types.size+Made.depth=P.types.size+99+1:=rfl;have h0:(#[Value.iface t y]++args')[0]?=some (.iface t y):=by
   rw[<-zn];simp
  have E:(#[Value.iface t y]++args').extract 1 (#[Value.iface t y]++args').size=args':=by
   rw[<-zm];simp
  simp only[invoke,ye,h0,E];simp[callMethod,e,o]
 rw[key];exact Nb s hr A (f:=.fn (.func g) [] []) (by simp[Ac]) (by simp;exact⟨D,B⟩) c
theorem UR(g:C.Ok P)(hr:R p h w){b:Builtin}{ts:Array TypeId}{t:TypeId}{cs:Array Bool}{args:List V}{args':Array Value}(f:Av p args args'.toList){r:OR}(d:EA C h b ts args=some r):
  S4 p h w r ((builtin b ts t cs args').run P w):=by
 unfold EA at d;split at d
 case h_1=>exact Cb hr d fun x c=>vJ g.T hr f c
 case h_2=>exact DI d fun x h' c=>XG g.T hr f c
 case h_3=>exact DI d fun x h' c=>jL g.T hr f c
 case h_4=>exact Cb hr d fun x c=>rX f c
 case h_5=>exact Cb hr d fun x c=>tP f c
 case h_6=>exact Cb hr d fun x c=>xD g.T f c
 case h_7=>exact DI d fun x h' c=>XI g.T hr f c
 case h_8=>exact DI d fun x h' c=>dX g.T hr f c
 case h_9=>exact Cb hr d fun x c=>aX f c
 case h_10=>
  refine DI d fun x h' c=>?_
  obtain⟨v',w',k,m,l⟩:=nT (t:=t) g.T hr f c;exact⟨v',p,w',k,m,l⟩
 case h_11=>cases d
theorem nG{T:Cc}(s:T.Ok P){op:BinOp}{t:TypeId}{x y:Operand}{v u:V}{v' A:Value}(g:Ac p v v')(l:Ac p u A){z:V}(o:Nx T op t x y v u=some z):
  ∃E,(do eqGuard op t x y v' A;binOp op t v' A:Sem Value).run P w=.ok E w/\Ac p z E:=by
 unfold Nx at o;split at o
 case h_2=>
  simp only[zd,aV s g l o,zc];exact tL s g l o
 case h_1=>
  rename_i r hr;cases o;have D:∀ {b:Bool},(bif aA x||aA y then some (V.bool b)else none)=some z->z=.bool b/\((∃c,x=.const c)\/∃c,y=.const c):=by
   intro b k;cases f:(aA x||aA y)with
   |false=>simp[f]at k
   |true=>
    simp only[f,we,ze]at k;refine⟨k.symm,?_⟩;simp only[qh]at f;rcases f with f|f
    ·left;cases x<;>first|exact⟨_,rfl⟩|cases f
    ·right;cases y<;>first|exact⟨_,rfl⟩|cases f
  have B:∀op,(op=.eql\/op=.neq)->((∃c,x=.const c)\/∃c,y=.const c)->(eqGuard op t x y .nilIface .nilIface).run P w=.ok () w:=by
   intro op F f;rcases F with rfl|rfl<;>unfold eqGuard<;>rcases f with⟨c,rfl⟩|⟨c,rfl⟩<;>simp
  have m:∀ {q},T.und t=some (.interface q)->(Op.equal t .nilIface .nilIface).run P w=.ok true w:=by
   intro q d;unfold Op.equal Op.maxDepth Op.equalIn;rw[zd,Az s d];rfl
  unfold vT at hr;split at hr
  case h_1=>
   rename_i q d;obtain⟨rfl,f⟩:=D hr;have k:=(OD (t:=t) (y':=.nilIface) g rfl).1;simp only[Ac]at g l;subst g l;refine⟨.bool true,?_,by simp[Ac]⟩;rw[zd,B .eql (.inl rfl) f,zc,k,zd,m d];rfl
  case h_2=>
   rename_i q d;obtain⟨rfl,f⟩:=D hr;have k:=(OD (t:=t) (y':=.nilIface) g rfl).2;simp only[Ac]at g l;subst g l;refine⟨.bool false,?_,by simp[Ac]⟩;rw[zd,B .neq (.inr rfl) f,zc,k,zd,m d];rfl
  case h_3=>cases hr
theorem gF(G:C.Ok P)(hr:R p h w)(B:Gl C p)(D:CO p fr a){o:Oper}{r:OR}(q:GL C fr h o=some r):S4 p h w r ((execOp a.eval o).run P w):=by
 rw[Db]at q;unfold G7 at q;unfold execOp;cases Y:o.op<;>simp only[Y]at q ⊢<;>try (cases q;done)
 case move x|assign x=>
  cases A:ev C fr x with
  |none=>simp[A,BE]at q
  |some v=>simp[A,BE]at q;subst q;exact⟨_,p,w,rfl,A9 B D A,zu hr⟩
 case pick c x y=>
  split at q
  case h_2=>cases q
  rename_i t hc;have Q:=A9 B D hc;simp only[Ac]at Q;simp only[zd,Q,asBool,zf,zc];cases t
  ·cases A:ev C fr y with
   |none=>simp[A,BE]at q
   |some v=>simp[A,BE]at q;subst q;exact⟨_,p,w,by simp,A9 B D A,zu hr⟩
  ·cases A:ev C fr x with
   |none=>simp[A,BE]at q
   |some v=>simp[A,BE]at q;subst q;exact⟨_,p,w,by simp,A9 B D A,zu hr⟩
 case alloc t=>exact DI q fun x h' A=>eA G.T hr A
 case box t x=>
  refine DI q fun v h' A=>?_
  rw[zg]at A;obtain⟨u,J,O⟩:=A;have:=wQ (P:=P) (t:=t) hr<|A9 B D J;rw[O]at this;exact this
 case build t N=>
  split at q
  case h_2=>cases q
  rename_i ps M;refine Cb hr q fun x A=>aR G.T ?_ A
  have:=OC B D M;simpa using this
 case buildSlice t n N=>
  split at q
  case h_2=>cases q
  rename_i ps M;refine DI q fun x h' A=>Xz G.T hr ?_ A
  have:=OC B D M;simpa using this
 case load t x=>
  split at q
  case h_2=>cases q
  rename_i v E;exact Cb hr q fun x A=>UT G.T hr (A9 B D E) A
 case store t x y=>
  split at q
  case h_2=>cases q
  rename_i v u E J;exact ZP q fun h' A=>cO G.T hr (A9 B D E) (A9 B D J) A
 case nilCheck x=>
  split at q
  case h_3=>cases q
  case h_1=>
   rename_i b i E;have A:=A9 B D E;have K:=A;simp only[Ac]at K;obtain⟨Z,n,hp,O⟩:=K;simp only[BE,ze]at q;subst q;rw[O];exact⟨_,p,w,rfl,O▸A,zu hr⟩
  case h_2=>
   rename_i t v E;have A:=A9 B D E;have K:=A;simp only[Ac]at K;obtain⟨y,O,_⟩:=K;simp only[BE,ze]at q;subst q;rw[O];exact⟨_,p,w,rfl,O▸A,zu hr⟩
 case binOp op t x y t2=>
  split at q
  case h_2=>cases q
  rename_i v u E J;refine Cb hr q fun z L=>?_
  exact nG G.T (A9 B D E) (A9 B D J) L
 case unOp op t x=>
  split at q
  case h_2=>cases q
  rename_i v E;exact Cb hr q fun x A=>Ab5 (A9 B D E) A
 case convert s d x=>
  split at q
  case h_2=>cases q
  rename_i v E;exact Cb hr q fun x A=>iE G.T hr (A9 B D E) A
 case makeInterface t x=>
  split at q
  case h_2=>cases q
  rename_i v d E X;split at q
  case h_1=>cases q
  case h_2=>
   rename_i S;refine Cb hr q fun z L=>?_
   cases L;refine⟨.iface t<|a.eval x,?_,by simp only[Ac];exact⟨_,rfl,A9 B D E⟩⟩;unfold Instr.makeInterface;simp only[zd,Az G.T X,zc];cases d<;>first|rfl|exact wh rfl (S _)
 case makeFunc f first captured=>
  split at q
  case h_2=>cases q
  rename_i x y A hy;refine Cb hr q fun z L=>?_
  cases L;exact⟨_,rfl,by simp only[Ac];exact⟨_,_,rfl,by simpa using JQ B D A,by simpa using JQ B D hy⟩⟩
 case makeMap t x=>
  split at q
  case h_2=>cases q
  rename_i v E;exact DI q fun x h' A=>U5 hr (Oc B D E) A
 case makeSlice t l c=>
  split at q
  case h_2=>cases q
  rename_i v u E J;exact DI q fun x h' A=>mT G.T hr (A9 B D E) (A9 B D J) A
 case slice t x lo hi mx=>
  split at q
  case h_2=>cases q
  rename_i v l Z m E W U hm;exact Cb hr q fun x A=>bQ G.T (A9 B D E) (Oc B D W) (Oc B D U) (Oc B D hm) A
 case fieldAddr t x f=>
  split at q
  case h_2=>cases q
  rename_i v E;exact Cb hr q fun x A=>eK G.T (A9 B D E) A
 case field t x f=>
  split at q
  case h_2=>cases q
  rename_i v E;exact Cb hr q fun x A=>dH G.T (A9 B D E) A
 case indexAddr t x i=>
  split at q
  case h_2=>cases q
  rename_i v u E J;exact Cb hr q fun x A=>bO G.T (A9 B D E) (A9 B D J) A
 case index t x i=>
  split at q
  case h_2=>cases q
  rename_i v u E J;exact Cb hr q fun x A=>cW G.T (A9 B D E) (A9 B D J) A
 case lookup t x i ok=>
  split at q
  case h_2=>cases q
  rename_i v u E J;exact Cb hr q fun x A=>Yk G.T hr (A9 B D E) (A9 B D J) A
 case mapUpdate t m k x|insert t m k x=>
  split at q
  case h_2=>cases q
  rename_i v u z E J L;exact ZP q fun h' A=>Xf G.T hr (A9 B D E) (A9 B D J) (A9 B D L) A
 case range t x=>
  split at q
  case h_2=>cases q
  rename_i v E;exact DI q fun x h' A=>Yi G.T hr (A9 B D E) A
 case next x b=>
  split at q
  case h_2=>cases q
  rename_i v E;cases b with
  |true=>simp only[we]at q;exact DI q fun x h' A=>lU hr (A9 B D E) A
  |false=>
   simp only[wg,zg]at q;obtain⟨l,W,rfl⟩:=q;obtain⟨v,h',v',p',w',g1,g2,g3,g4⟩:=cV (P:=P) (t:=o.type) hr (A9 B D E) W;exact⟨v,h',v',p',w',g1,by simp only[zd,g2,zc,zf],g3,g4⟩
 case entry x=>
  split at q
  case h_2=>cases q
  rename_i v E;exact Cb hr q fun x A=>aZ hr (A9 B D E) A
 case extract x i=>
  split at q
  case h_2=>cases q
  rename_i v E;exact Cb hr q fun x A=>UI (A9 B D E) A
 case call c=>
  split at q
  case h_4=>cases q
  case h_1=>
   rename_i b args I F;have:=JQ B D F;unfold resolve;simp only[I,zd,zf,zc,invoke];exact UR G hr (by simpa using this) q
  case h_2=>
   rename_i f args I F;split at q
   case h_2=>cases q
   rename_i g V;have:=JQ B D F;unfold resolve;simp only[I];exact Nb G hr B (A9 B D V) (by simpa using this) q
  case h_3=>
   rename_i x nm args I F;split at q
   case h_2=>cases q
   rename_i v E;have:=JQ B D F;unfold resolve;simp only[I,zd,zf,zc];exact Vj G hr B (A9 B D E) (by simpa using this) q
theorem K8(f:C.Ok P)(hr:R p h w)(c:Gl C p)(g:CO p fr a){o:Oper}{r:OR}(b:I8 C fr h o=some r):S4 p h w r ((execOp a.eval o).run P w):=by
 unfold I8 at b;split at b
 case h_1=>
  rename_i A l;cases b;exact gF f hr c g l
 case h_2=>
  split at b
  case h_2=>cases b
  rename_i s d x q;split at b
  case h_2=>cases b
  rename_i v m;unfold execOp;simp only[q];split at b
  case h_1=>
   rename_i u y;exact Cb (v:=some u) hr b fun x k=>by cases k;exact wB f.T hr (A9 c g m) y
  exact DI b fun x h' k=>cP f.T hr (A9 c g m) k
end
def Be(fr:Fr)(ops:Array Oper)(o:Oper):Bool:=
 match o.guard with
 |none=>true
 |some (j,c)=>
  match (ops[j]?).bind (·.dst)with
  |some t=>bif zl t fr.n then(match fr.get t with| .bool b=>b==c|_=>false)else false
  |none=>false
inductive Cl where
 |fn (f:FuncId) (args:List V)
 |rnd (b:Nat) (l:LS) (fr:Fr)
abbrev DM:=Cl->H->Option (List<|V×H)
def bl{α d:Type}:List α->(α->Option (List d))->Option (List d)
 |[],_=>some []
 |a::c,f=>match f a with
  |none=>none
  |some x=>match c with
   |[]=>some x
   |b::g=>match bl (b::g) f with
    |some y=>some<|x++y
    |none=>none
theorem Jr{α o:Type}{f:α->Option (List o)}:∀ {l:List α} {r:List o},bl l f=some r->∀a∈l,∃x,f a=some x/\∀b∈x,b∈r
 |[],r,_,a,g=>by cases g
 |[c],r,h,a,g=>by
  unfold bl at h;split at h
  ·cases h
  rename_i x m;cases h;cases zy.1 g;exact⟨_,m,fun b k=>k⟩
 |c::d::s,r,h,a,g=>by
  unfold bl at h;split at h
  ·cases h
  rename_i x m;simp only at h;split at h
  case h_2=>cases h
  rename_i y v;cases h;rcases qn.1 g with rfl|g
  ·exact⟨_,m,fun b k=>List.mem_append_left _ k⟩
  ·obtain⟨z,u,q⟩:=Jr v a g;exact⟨z,u,fun b k=>yo _<|q b k⟩
def HI(fr:Fr)(d:Option Nat):List (V×H)->Option (List<|Fr×H)
 |[]=>some []
 |(v,h)::l=>match fr.put d v with
  |some f=>match HI fr d l with
   |some r=>some ((f,h)::r)
   |none=>none
  |none=>none
theorem Pc{fr:Fr}{d:Option Nat}:∀ {l:List (V×H)} {r:List (Fr×H)},HI fr d l=some r->∀v h,(v,h)∈l->∃f,fr.put d v=some f/\(f,h)∈r
 |[],r,_,v,h,hm=>by cases hm
 |(u,k)::l,r,b,v,h,hm=>by
  unfold HI at b;split at b
  case h_2=>cases b
  rename_i f m;split at b
  case h_2=>cases b
  rename_i q hr;cases b;rcases qn.1 hm with e|hm
  ·cases e;exact⟨f,m,by simp⟩
  ·obtain⟨g,o,c⟩:=Pc hr v h hm;exact⟨g,o,List.mem_cons_of_mem _ c⟩
def step1(C:Ctx)(call:DM)(ops:Array Oper)(o:Oper)(fr:Fr)(h:H):Option (List<|Fr×H):=
 bif Be fr ops o then
  match I8 C fr h o with
  |some (.val v h')=>match fr.put o.dst v with
   |some fr'=>some [(fr',h')]
   |none=>none
  |some (.skip h')=>match fr.put o.dst (.tup [])with
   |some fr'=>some [(fr',h')]
   |none=>none
  |some (.enter f args)=>match call (.fn f args) h with
   |some l=>HI fr o.dst l
   |none=>none
  |some (.round b ls f)=>match call (.rnd b ls f) h with
   |some l=>HI fr o.dst l
   |none=>none
  |some (.alts l)=>HI fr o.dst l
  |none=>none
 else match fr.put o.dst (.tup [])with
  |some fr'=>some [(fr',h)]
  |none=>none
def SZ(C:Ctx)(call:DM)(ops:Array Oper):List Oper->Fr->H->Option (List<|Fr×H)
 |[],fr,h=>some [(fr,h)]
 |o::b,fr,h=>match step1 C call ops o fr h with
  |some l=>bl l fun x=>SZ C call ops b x.1 x.2
  |none=>none
def FW(ro:Option Nat):Fence:={ yx with round:=ro }
theorem XM{ro:Option Nat}{n:Nat}{P:Program}{f:FuncId}{args:Array Value}{w:World}{R:Ending->World->Prop}:CallsIn (FW ro) n P f args w R↔Calls P f args w R:=by
 have:CallsIn (FW ro) n P f args w R↔CallsIn yx n P f args w R:=Iff.rfl;exact this.trans callsIn_wide
theorem AaU{ro:Option Nat}{n:Nat}{P:Program}{k:Nat}{f:FuncId}{tmps:Array Value}{asg body:Code}{w:World}{R:Ending->World->Prop}(h:RoundIn yx 0 P k f tmps asg body w R):RoundIn (FW ro) n P k f tmps asg body w R:=
 ⟨trivial,fun c cs _=>h.2 c cs<|room_wide _⟩
inductive DX where
 |normal
 |exit (id:Nat)
 |ret
def DX.Sr:DX->Exit
 | .normal=>.normal
 | .exit id=>.exit id
 | .ret=>.ret
section
variable {C:Ctx}{P:Program}{p:Pl}{h:H}{w:World}{fr:Fr}{a:Act}
theorem CO.put(g:CO p fr a){d:Option Nat}{v:V}{v':Value}(k:Ac p v v'){fr':Fr}(c:fr.put d v=some fr'):CO p fr' (a.put d v'):=by
 unfold Fr.put at c;cases d with
 |none=>cases c;exact g
 |some t=>
  simp only[Hx]at c;by_cases b:t<fr.n
  ·simp only[b,decide_true,we,ze]at c;subst c;refine⟨by simp[Act.put,g.1],fun s=>?_⟩;have f:t<a.tmps.size:=g.1▸b;by_cases e:s=t
   ·subst e;simp[Fr.get,Act.put,f,k]
   ·have:=g.2 s;simp only[Fr.get,PM.Dn,wc e,Act.put]at this ⊢;rw[zr,zj<|fun x=>e x.symm, <-zr];exact this
  ·simp[b]at c
theorem CO.mono(b:CO p fr a){p':Pl}(hp:∃q,p'=p++q):CO p' fr a:=by
 obtain⟨q,rfl⟩:=hp;exact⟨b.1,fun t=>(b.2 t).mono q⟩
theorem CO.ext(b:CO p fr a){p':Pl}{h':H}{w':World}(e:Ext p h w p' h' w'):CO p' fr a:=b.mono e.pre
theorem xG{p:Pl}{v:V}{b:Bool}(d:Ac p v (.bool b)):v=.bool b:=by
 cases v<;>simp only[Ac]at d<;>first|(cases d;rfl)|(simp at d;done)|(obtain⟨_,_,_,_,c,_⟩:=d;cases c;done)|(obtain⟨_,_,_,c⟩:=d;cases c;done)|(obtain⟨_,_,c,_⟩:=d;cases c;done)|(obtain⟨_,_,c⟩:=d;cases c;done)|(obtain⟨_,c,_⟩:=d;cases c;done)
theorem Rm(m:CO p fr a)(ops:Array Oper)(o:Oper):qc o (yielded ops a.tmps)=Be fr ops o:=by
 unfold qc Be;cases q:o.guard with
 |none=>rfl
 |some r=>
  obtain⟨j,d⟩:=r;simp only;unfold yielded;cases s:(ops[j]?).bind (·.dst)with
  |none=>simp
  |some t=>
   simp only[Option.bind_some,Hx];by_cases c:t<fr.n
   ·have g:t<a.tmps.size:=m.1▸c;have f:=m.2 t;simp only[c,decide_true,we];have e:a.tmps[t]?=some (a.tmps.getD t undef):=by simp[g]
    rw[e];cases k:a.tmps.getD t undef with
    |bool b=>
     rw[k]at f;have:=xG f;rw[this];cases b<;>cases d<;>rfl
    |_=>
     rw[k]at f;cases l:fr.get t with
     |bool b=>rw[l]at f;simp[Ac]at f
     |_=>cases d<;>rfl
   ·have:a.tmps[t]?=none:=z7<|yf<|m.1▸c;simp[this,c]
def G5(p:Pl)(h:H)(w:World)(l:List (V×H))(e:Ending)(w':World):Prop:=
 ∃v h' v' p',(v,h')∈l/\e=.returned v'/\Ac p' v v'/\Ext p h w p' h' w'
structure DM.Ok(C:Ctx)(P:Program)(call:DM):Prop where
 fn:∀f args h l,call (.fn f args) h=some l->∀(p:Pl) (w:World) (args':Array Value),R p h w->Gl C p->Av p args args'.toList->Calls P f args' w (G5 p h w l)
 rnd:∀b ls fr h l,call (.rnd b ls fr) h=some l->∀(p:Pl) (w:World) (k n:Nat) (f:FuncId) (tmps:Array Value),R p h w->Gl C p->h.get b=some (.loop ls)->p[b]?=some (k,n)->FE p fr tmps->
  RoundIn yx 0 P k f tmps ls.asg ls.body w (G5 p h w l)
theorem HC{o:Oper}{r:OR}(b:GL C fr h o=some r):∀c,o.op≠ .defer c:=by
 intro c e;rw[Db]at b;unfold G7 at b;simp[e]at b
theorem Gk{o:Oper}{r:OR}(b:I8 C fr h o=some r):∀c,o.op≠ .defer c:=by
 intro c e;unfold I8 at b;split at b
 case h_1=>rename_i hr;exact HC hr c e
 case h_2=>rw[e]at b;cases b
theorem Us{p':Pl}{l:List (V×H)}{r:List (Fr×H)}{d:Option Nat}(hp:HI fr d l=some r)(m:CO p fr a){K:Act->World->Prop}
  (o:∀x∈r,∀p' b w',CO p' x.1 b->Ext p h w p' x.2 w'->b.defers=a.defers->K b w') {v:V} {h':H} {v':Value} {w':World} (s:(v,h')∈l) (g:Ac p' v v') (c:Ext p h w p' h' w'):K (a.put d v') w':=by
 obtain⟨f,q,k⟩:=Pc hp v h' s;exact o _ k p' _ w' ((m.ext c).put g q) c (by cases d<;>rfl)
theorem eF(E:C.Ok P){call:DM}(r:call.Ok C P)(hr:R p h w)(A:Gl C p)(q:CO p fr a){ops:Array Oper}{i:Nat}{o:Oper}(U:ops[i]?=some o){l:List (Fr×H)}
  (d:step1 C call ops o fr h=some l) {ro:Option Nat} {n:Nat} {Q:Exit->Act->World->Prop} {K:Act->World->Prop}
  (D:∀x∈l,∀p' J w',CO p' x.1 J->Ext p h w p' x.2 w'->J.defers=a.defers->K J w'):wpOpIn (FW ro) n P ops Q i K a w:=by
 have y:∀v,(a.put o.dst v).defers=a.defers:=by intro v;cases o.dst<;>rfl
 unfold step1 at d;unfold wpOpIn;simp only[U];rw[Rm q];cases N:Be fr ops o with
 |false=>
  simp only[N,wg]at d;simp only[z8,vg];refine⟨fun _ _=>trivial,?_⟩;split at d
  case h_2=>cases d
  rename_i F hp;cases d;exact D _ (zy.2 rfl) p _ w (q.put (by simp[Ac,undef]) hp) (zu hr)<|y _
 |true=>
  simp only[N,we]at d;simp only[wk];refine⟨fun _ _=>trivial,?_⟩;split at d
  case h_6=>cases d
  case h_1=>
   rename_i v S c;split at d
   case h_2=>cases d
   rename_i F hp;cases d;obtain⟨v',p',w',u,B,s⟩:=K8 E hr A q c;rw[yu _ _ _<|Gk c,u,Oper.uponIn_value];exact D _ (zy.2 rfl) p' _ w' ((q.ext s).put B hp) s<|y _
  case h_2=>
   rename_i S c;split at d
   case h_2=>cases d
   rename_i F hp;cases d;obtain⟨p',w',u,s⟩:=K8 E hr A q c;rw[yu _ _ _<|Gk c,u,Oper.uponIn_skip];exact D _ (zy.2 rfl) p' _ w' ((q.ext s).put (by simp[Ac,undef]) hp) s<|y _
  case h_3=>
   rename_i f args c;split at d
   case h_2=>cases d
   rename_i l1 I;obtain⟨args',u,B⟩:=K8 E hr A q c;rw[yu _ _ _<|Gk c,u,Oper.uponIn_enter];refine⟨fun h=>(by simp[FW,yx]at h),XM.2<|(r.fn f args h l1 I p w args' hr A B).mono ?_⟩;rintro e w' ⟨v,h',v',p',G,rfl,L,M⟩;exact Us d q D G L M
  case h_4=>
   rename_i b ls f c;split at d
   case h_2=>cases d
   rename_i l1 I;obtain⟨k,m,g,tmps,u,B,s,O⟩:=K8 E hr A q c;rw[yu _ _ _<|Gk c,s,Oper.uponIn_round];refine⟨fun h=>(by simp[FW,yx]at h),(AaU<|r.rnd b ls f h l1 I p w k m g tmps hr A B u O).mono ?_⟩;rintro e w' ⟨v,h',v',p',G,rfl,L,M⟩;exact Us d q D G L M
  case h_5=>
   rename_i l1 c;obtain⟨v,h',v',p',w',G,u,B,s⟩:=K8 E hr A q c;rw[yu _ _ _<|Gk c,u,Oper.uponIn_value];exact Us d q D G B s
theorem UJ(D:C.Ok P){call:DM}(b:call.Ok C P){ops:Array Oper}{ro:Option Nat}{n:Nat}{Q:Exit->Act->World->Prop}:
  ∀(l:List Oper) (k:Nat),(∀j,l[j]?=ops[k+j]?)->∀ {p:Pl} {h:H} {w:World} {fr:Fr} {a:Act},R p h w->Gl C p->CO p fr a->∀ {L:List (Fr×H)},SZ C call ops l fr h=some L->
  (∀x∈L,∀p' m w',CO p' x.1 m->Ext p h w p' x.2 w'->m.defers=a.defers->Q .normal m w')->wpOpsIn (FW ro) n P ops Q (List.range' k l.length) a w
 |[],k,_,p,h,w,fr,a,hr,v,A,L,d,r=>by
  cases d;exact r _ (zy.2 rfl) p a w A (zu hr) rfl
 |o::l,k,B,p,h,w,fr,a,hr,v,A,L,d,r=>by
  unfold SZ at d;split at d
  case h_2=>cases d
  rename_i l1 F;rw[List.length_cons,List.range'_succ,wpOpsIn_cons];refine eF D b hr v A (by simpa using(B 0).symm) F (K:=wpOpsIn (FW ro) n P ops Q<|List.range' (k+1) l.length) fun x I O a1 S q c g=>?_
  obtain⟨L1,J,G⟩:=Jr d x I;exact UJ D b l (k+1) (fun j=>by have:=B<|j+1;simpa [Nat.add_assoc,Nat.add_comm 1 j]using this) c.rel (v.ext c) q J
   fun y M N a2 E u s f=>r y (G y M) N a2 E u (c.trans s)<|f.trans g
theorem WU(g:C.Ok P){call:DM}(b:call.Ok C P){ops:Array Oper}{ro:Option Nat}{n:Nat}{Q:Exit->Act->World->Prop}(hr:R p h w)(f:Gl C p)(k:CO p fr a){L:List (Fr×H)}
  (l:SZ C call ops ops.toList fr h=some L) {id:Nat}
  (d:∀x∈L,∀p' c w',CO p' x.1 c->Ext p h w p' x.2 w'->c.defers=a.defers->Q .normal c w'):(Code.region id ops false).wpIn (FW ro) n P Q a w:=by
 refine wpIn_region ?_;have:=UJ (Q:=Q) (ro:=ro) (n:=n) g b ops.toList 0 (fun j=>by simp) hr f k l d;rw[List.range_eq_range'];simpa using this
end
theorem JE{C:Ctx}{fr fr':Fr}:∀ {xs:List Operand},(∀x∈xs,ev C fr x=ev C fr' x)->RH C fr xs=RH C fr' xs
 |[],_=>rfl
 |x::xs,h=>by
  unfold RH;rw[h x (by simp),JE<|fun y b=>h y<|by simp[b]]
theorem Jw{C:Ctx}{fr fr':Fr}:∀ {xs:List (Nat×Operand)},(∀x∈xs,ev C fr x.2=ev C fr' x.2)->Ye C fr xs=Ye C fr' xs
 |[],_=>rfl
 |(i,x)::xs,h=>by
  unfold Ye;rw[h (i,x) (by simp),Jw<|fun y b=>h y<|by simp[b]]
theorem Jx{C:Ctx}{fr fr':Fr}{x:Option Operand}(h:∀y,x=some y->ev C fr y=ev C fr' y):WI C fr x=WI C fr' x:=by
 cases x with
 |none=>rfl
 |some y=>simp[WI,h y rfl]
theorem bY{C:Ctx}{fr fr':Fr}{h:H}{o:Oper}(d:∀x∈o.op.operands,ev C fr x=ev C fr' x):GL C fr h o=GL C fr' h o:=by
 obtain⟨dst,op,q,pos,after,guard⟩:=o;cases op<;>simp only[Op.operands]at d<;>simp only[Db,G7]
 case build t ps=>rw[Jw fun x g=>d x.2<|by simp;exact⟨x.1,by simpa using g⟩]
 case buildSlice t n ps=>rw[Jw fun x g=>d x.2<|by simp;exact⟨x.1,by simpa using g⟩]
 case makeFunc f first captured=>rw[JE (xs:=first.toList) fun x g=>d x (by simp at g ⊢;exact .inl g),JE (xs:=captured.toList) fun x g=>d x<|by simp at g ⊢;exact .inr g]
 case makeMap t r=>rw[Jx fun y k=>d y<|by simp[k]]
 case slice t x lo s mx=>
  rw[d x (by simp),Jx (x:=lo) fun y k=>d y (by simp[k]),Jx (x:=s) fun y k=>d y (by simp[k]),Jx (x:=mx) fun y k=>d y<|by simp[k]]
 case call c=>
  obtain⟨callee,args,ts⟩:=c;rw[JE (xs:=args.toList) (fr:=fr) (fr':=fr') fun x g=>d x<|by simp at g;simp[Call.operands,g]];cases callee with
  |value f=>
   have m:=d f (by simp[Call.operands]);cases RH C fr' args.toList with
   |none=>rfl
   |some l=>simp only[m]
  |invoke f u=>
   have m:=d f (by simp[Call.operands]);cases RH C fr' args.toList with
   |none=>rfl
   |some l=>simp only[m]
  |builtin b=>cases RH C fr' args.toList<;>rfl
 all_goals (first|rfl|(simp_all;done))
def reads(ops:Array Oper)(o:Oper):List Tmp:=o.looksAt ops
theorem xB{C:Ctx}{fr fr':Fr}{x:Operand}(h:∀t,x=.tmp t->fr.get t=fr'.get t):ev C fr x=ev C fr' x:=by
 cases x with
 |tmp t=>simp only[ev,h t rfl]
 |_=>rfl
theorem mem_reads{ops:Array Oper}{o:Oper}{t:Tmp}(h:Operand.tmp t∈o.op.operands):t∈reads ops o:=
 List.mem_append_left _ (List.mem_filterMap.2 ⟨.tmp t,by simpa using h,rfl⟩)
theorem Sq{fr fr':Fr}{ops:Array Oper}{o:Oper}(d:fr.n=fr'.n)(h:∀t∈reads ops o,fr.get t=fr'.get t):Be fr ops o=Be fr' ops o:=by
 unfold Be;cases g:o.guard with
 |none=>rfl
 |some f=>
  obtain⟨j,b⟩:=f;simp only;cases c:(ops[j]?).bind (·.dst)with
  |none=>rfl
  |some t=>
   simp only[d];rw[h t<|yo _<|by simp[g,c]]
def OX(l:List Tmp)(fr:Fr):Fr:=⟨fr.n,l.foldr (fun t m=>m.set t<|some<|fr.get t) .leaf⟩
def IT(l:List Tmp)(a:Act):Act:={ a with tmps:=Array.ofFn (n:=a.tmps.size) fun t=>if l.contains t.1 then a.tmps.getD t undef else undef }
theorem Ng(l:List Tmp)(fr:Fr)(t:Tmp):(OX l fr).get t=if t∈l then fr.get t else .tup []:=by
 unfold OX Fr.get;induction l with
 |nil=>simp
 |cons x l b=>
  simp only[List.foldr_cons,PM.Dn,qn];by_cases e:t=x
  ·subst e;simp
  ·simp only[e,vg,false_or];exact b
theorem Mu(l:List Tmp)(a:Act)(t:Tmp):(IT l a).tmps.getD t undef=if t∈l then a.tmps.getD t undef else undef:=by
 unfold IT;by_cases h:t<a.tmps.size
 ·simp[h]
 ·simp only[zr];rw[z7 (by simpa using yf h),z7<|yf h];simp
section
variable {C:Ctx}{P:Program}{p:Pl}{h:H}{w:World}{fr:Fr}{a:Act}
structure FOn(p:Pl)(fr:Fr)(a:Act)(l:List Tmp):Prop where
 n:fr.n=a.tmps.size
 get:∀t∈l,Ac p (fr.get t) (a.tmps.getD t undef)
theorem FOn.Qq{l:List Tmp}(c:FOn p fr a l):CO p (OX l fr) (IT l a):=by
 refine⟨by simp[OX,IT,c.n],fun t=>?_⟩;rw[Ng,Mu];by_cases b:t∈l
 ·simp only[b,wk];exact c.get t b
 ·simp only[b,vg];simp[Ac,undef]
theorem J0{ops:Array Oper}{o:Oper}{x:Operand}(b:x∈o.op.operands):(IT (reads ops o) a).eval x=a.eval x:=by
 cases x with
 |tmp t=>
  have:=Mu (reads ops o) a t;rw[wd<|mem_reads b]at this;exact this
 |_=>rfl
theorem Th{ops:Array Oper}{o:Oper}{x:Operand}(b:x∈o.op.operands):ev C (OX (reads ops o) fr) x=ev C fr x:=by
 refine xB fun t c=>?_
 subst c;rw[Ng,wd<|mem_reads b]
theorem JZ(d:C.Ok P)(hr:R p h w)(m:Gl C p){ops:Array Oper}{o:Oper}(f:FOn p fr a (reads ops o))(l:∀cs b,o.op≠ .select cs b){r:OR}(g:GL C fr h o=some r):
  S4 p h w r ((execOp a.eval o).run P w):=by
 have k:=gF d hr m f.Qq (o:=o) (r:=r) (by rw[bY (fr':=fr) fun x c=>Th c];exact g);rwa [execOp_congr o l fun x c=>J0 c]at k
theorem RG{ops:Array Oper}{o:Oper}(q:FOn p fr a (reads ops o)):qc o (yielded ops a.tmps)=Be fr ops o:=by
 have d:=Rm q.Qq ops o;rw[Sq (fr:=OX (reads ops o) fr) (fr':=fr) (ops:=ops) (o:=o) rfl fun t c=>by rw[Ng,wd c]]at d;rw[<-d];unfold qc;cases l:o.guard with
 |none=>rfl
 |some r=>
  obtain⟨j,f⟩:=r;simp only;congr 1;unfold yielded;cases m:(ops[j]?).bind (·.dst)with
  |none=>rfl
  |some t=>
   simp only[Option.bind_some];have c:t∈reads ops o:=yo _ (by simp[l,m]);have:=Mu (reads ops o) a t;rw[wd c]at this;by_cases b:t<a.tmps.size
   ·have g:a.tmps[t]?=some (a.tmps.getD t undef):=by simp[b]
    have k:(IT (reads ops o) a).tmps[t]?=some ((IT (reads ops o) a).tmps.getD t undef):=by simp[IT,b]
    rw[g,k,this]
   ·rw[z7<|yf b,z7<|by simpa [IT]using yf b]
end
def EB(o:Oper):Bool:=
 match o.op with
 | .move _| .assign _| .pick .. | .build .. | .load .. | .nilCheck _| .binOp .. | .unOp .. | .convert .. | .makeInterface .. | .makeFunc .. | .slice .. | .fieldAddr .. | .field .. | .indexAddr .. | .index .. | .lookup .. | .extract .. =>true
 | .call { callee:=.builtin .len,.. }| .call { callee:=.builtin .max,.. }| .call { callee:=.builtin .min,.. }| .call { callee:=.builtin .unsafeSliceData,.. }=>true
 |_=>false
def QX(o:Oper):Bool:=
 match o.op with
 | .load .. | .convert .. | .lookup .. =>true
 | .call { callee:=.builtin .len,.. }=>true
 |_=>false
def CB(o:Oper):Bool:=
 match o.op with
 | .alloc _| .box .. | .buildSlice .. =>true
 |_=>false
theorem GI{h:H}{v:Option V}{r:OR}(b:BE h v=some r):∃x,v=some x/\r=.val x h:=by
 cases v with
 |none=>cases b
 |some x=>cases b;exact⟨x,rfl,rfl⟩
theorem rd_val{C:Ctx}{fr:Fr}{h:H}{o:Oper}(g:EB o=true){r:OR}(d:GL C fr h o=some r):∃v,r=.val v h:=by
 obtain⟨dst,op,k,pos,after,guard⟩:=o;cases op<;>simp only[EB]at g<;>simp only[Db,G7]at d<;>try (cases g;done)
 case call c=>
  obtain⟨callee,args,ts⟩:=c;cases callee with
  |builtin b=>
   cases l:RH C fr args.toList with
   |none=>simp[l]at d
   |some m=>
    simp only[l]at d;cases b<;>first|(cases g;done)|(simp only[EA]at d;obtain⟨x,_,rfl⟩:=GI d;exact⟨x,rfl⟩)
  |value f=>cases g
  |invoke=>cases g
 all_goals
  repeat' split at d
  all_goals first
   |(cases d;done)
   |(obtain⟨x,_,rfl⟩:=GI d;exact⟨x,rfl⟩)
theorem nY{C:Ctx}{fr:Fr}{h:H}{o:Oper}(g:EB o=true)(k:QX o=false){v:V}(d:GL C fr h o=some (.val v h))(h':H):GL C fr h' o=some (.val v h'):=by
 have key:∀ {x:Option V},BE h x=some (.val v h)->BE h' x=some (.val v h'):=by
  intro x q;obtain⟨y,rfl,e⟩:=GI q;cases e;rfl
 obtain⟨dst,op,l,pos,after,guard⟩:=o;cases op<;>simp only[EB]at g<;>simp only[QX]at k<;>simp only[Db,G7]at d ⊢<;>try (first|(cases g;done)|(cases k;done))
 case call c=>
  obtain⟨callee,args,ts⟩:=c;cases callee with
  |builtin b=>
   cases m:RH C fr args.toList with
   |none=>simp[m]at d
   |some r=>
    simp only[m]at d ⊢;cases b<;>first|(cases g;done)|(cases k;done)|(simp only[EA]at d ⊢;exact key d)
  |value f=>cases g
  |invoke=>cases g
 all_goals
  repeat' split at d
  all_goals first
   |(cases d;done)
   |exact key d
   |(simp only[*];exact key d)
end Go.Det
