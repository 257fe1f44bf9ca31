import Derived.Test.YtlohiljbghionaaGreatDoorX01
import Derived.IntWalk
import Derived.Laws.IdiomStrings
import Derived.Lib.UnsafeStr
import Derived.Lib.Builder
import Derived.RangeFuncRecord
import Derived.LoopNIn
import Derived.OrdersIn
import Derived.RangeFuncLeaves
/- A part of a proof (no law is stated here). Made by program out of texts by AI agents. -/
noncomputable section
open Go.Result renaming andThen_ok -> zc
open Go.Sem renaming run_bind -> zd, run_pure -> zf, run -> zQ
open Option.some renaming injEq -> ze
open Option renaming map_eq_some_iff -> zg, map_some -> ye
open Nat renaming beq -> zh, blt -> zl, ble -> zt, mul_le_mul_right -> zz, ble_eq -> zO, le_of_not_lt -> zS, le_refl -> zV, blt_eq -> z7, add_mul -> yu, zero_add -> yz
open Go.Builtin renaming zeroCells -> zi, firstCells -> zk, append_ -> zK, nextslicecap -> zN, growBy -> zY, lenOf -> ya
open Array renaming getElem?_setIfInBounds_ne -> zj, toList_inj -> zm, getElem?_toList -> zn, getD_eq_getD_getElem? -> zr, getElem?_eq_none -> zL, size_append -> yg
open Prod.mk renaming injEq -> zo
open List renaming getElem?_take_of_lt -> zp, getElem?_eq_some_iff -> zx, mem_singleton -> zy, getElem?_map -> zP, getElem?_append_left -> zT, length_append -> zU, getElem?_cons_zero -> zW, getElem?_cons_succ -> zX, getElem?_toArray -> zZ, mem_append_right -> z6, size_toArray -> yh, length_eq_zero_iff -> yn, all_cons -> yx, mem_cons -> yy
open Bool renaming and_eq_true -> zq, false_eq_true -> zM, or_eq_true -> yr
open Go.Det.Ext renaming refl -> zu, push -> yo, drew -> yt, put -> yw
open Go.Instr renaming sameBits -> zw, findAsking -> z8, findNow -> yb, range -> yi, sameNow -> yj, findKey -> yk, next -> yp, lookup -> yq, checkKey -> yv
open Go.Deferred renaming ofValue -> zR
open Go.Oper renaming semAt_eq -> yc
open Go.Question renaming forced -> yd
open Go.Fence renaming wide -> yf
open Go.Region renaming wanted -> ym
namespace Go.Det
section
variable {T:BR}{P:Program}{p:Pl}{h:H}{w:World}
def MO(T:BR)(h:H)(t:TypeId)(len cap:V):Option (V×H):=
 match T.und t,len,cap with
 |some (.slice e),.int _<|.ofNat l,.int _ (.ofNat c)=>
  match T.inf e with
  |some i=>
   bif zt l c&&zl c 9223372036854775808&&zt (i.bytes*c) 281474976710656&&zl 0 i.zero.length&&zh i.zero.length i.size then
    some (.sl h.nx 0 l c 0,H9 h e<|Es i.zero<|c*i.size)
   else none
  |none=>none
 |_,_,_=>none
theorem wrap_small(c:Nat)(h:c<9223372036854775808):IntKind.i64.wrap (c:Int)=c:=IntWalk.i64_in _ (by omega)
theorem YU(m:T.Ok P)(B:R p h w){t:TypeId}{len cap:V}{f g:Value}(u:Ab p len f)(s:Ab p cap g){v:V}{h':H}(d:MO T h t len cap=some (v,h')):
  ∃v' p' w',(Instr.makeSlice t f g).run P w=.ok v' w'/\Ab p' v v'/\Ext p h w p' h' w':=by
 unfold MO at d;split at d
 case h_2=>cases d
 rename_i e k l F c D;split at d
 case h_2=>cases d
 rename_i i r;cases b:(zt l c&&zl c 9223372036854775808&&zt (i.bytes*c) 281474976710656&&zl 0 i.zero.length&&zh i.zero.length i.size)with
 |false=>simp[b]at d
 |true=>
  simp only[b,we,ze,zo]at d;obtain⟨rfl,rfl⟩:=d;simp only[zq,zO,z7,Bf,w5]at b;obtain⟨⟨⟨⟨c1,c2⟩,c3⟩,c4⟩,c5⟩:=b;simp only[Ab]at u s;subst u s;obtain⟨z,hz,hzr⟩:=DO m r;obtain⟨j,hj,hjb,_⟩:=ND m r;obtain⟨n,he,hpn,hn⟩:=MK B e<|IE (hzr p) c4<|c*i.size;refine⟨.slice (some ⟨w.heap.size,0,none⟩) l c,_,_,?_,?_,he⟩
  ·unfold Instr.makeSlice asInt asIntOf;simp only[zd,zf,Aw m D,zc,hj,Int.ofNat_eq_natCast,wrap_small c c2,wrap_small l (by omega),hjb];have y:(i.bytes:Int)*(c:Int)=((i.bytes*c:Nat):Int):=(Int.natCast_mul _ _).symm;rw[y];generalize i.bytes*c=q at c3 y ⊢;have A:¬((decide ((c:Int)<0)||decide ((q:Int)>2^48))||decide ((l:Int)<0)||decide ((l:Int)>(c:Int)))=true:=by
    simp;omega
   rw[wc A];simp only[zd,zc,run_askRoom,Bo m r,Int.toNat_natCast];by_cases h0:c*i.size=0
   ·rw[wd h0];have E:(Array.map (fun x=>(#[]:Array Value)[x % (#[]:Array Value).size]!)<|Array.range<|c*i.size)=Array.map (fun o=>z.cells[o % z.cells.size]!) (Array.range<|c*i.size):=by simp[h0]
    simp only[zd,zf,zc,B6];rw[E]
   ·rw[wc h0];simp only[zd,hz,zf,zc,B6]
  ·simp only[Ab];exact⟨_,n,c,hpn,rfl,c1,zV _,fun _=>rfl,by simp⟩
def src(h:H)(size:Nat)(x:V)(n:Nat):Option (List V):=
 match x with
 | .nils=>some []
 | .esl=>bif zh n 0 then some []else none
 | .es0=>bif zh n 0 then some []else none
 | .sl b off _ _ _=>rd h b off<|n*size
 | .str s=>some<|(s.take n).map fun c=>.int .u8 c.toNat
 |_=>none
def Nt:V->Option Nat
 | .nils=>some 0
 | .esl=>some 0
 | .es0=>some 0
 | .sl _ _ len _ _=>some len
 | .str s=>some s.length
 |_=>none
theorem M6{x:V}{x':Value}(b:Ab p x x'){n:Nat}(c:Nt x=some n):(ya x').run P w=.ok n w:=by
 unfold Nt at c;split at c
 case h_1=>simp only[Ab]at b;subst b;cases c;rfl
 case h_2=>simp only[Ab]at b;obtain⟨_,_,rfl⟩:=b;cases c;rfl
 case h_3=>simp only[Ab]at b;obtain⟨_,rfl⟩:=b;cases c;rfl
 case h_4=>simp only[Ab]at b;obtain⟨_,_,_,_,rfl,_⟩:=b;cases c;rfl
 case h_5=>simp only[Ab]at b;subst b;cases c;simp[ya,Bv]
 case h_6=>cases c
theorem J3(u:R p h w){size n:Nat}{x:V}{x':Value}(f:Ab p x x'){cs:List V}(b:src h size x n=some cs):
  ∃vs:List Value,(zk size n x').run P w=.ok vs.toArray w/\Aq p cs vs:=by
 unfold src at b;split at b
 case h_6=>cases b
 case h_1=>simp only[Ab]at f;subst f;cases b;exact⟨[],rfl,by simp⟩
 case h_2=>
  simp only[Ab]at f;obtain⟨a,c,rfl⟩:=f;rw[Bf]at b;by_cases e:n=0
  ·subst e;simp only[decide_true,we,ze]at b;subst b;exact⟨[],by simp[zk,loadCells,loadCellsFrom],by simp⟩
  ·simp[e]at b
 case h_3=>
  simp only[Ab]at f;obtain⟨a,rfl⟩:=f;rw[Bf]at b;by_cases e:n=0
  ·subst e;simp only[decide_true,we,ze]at b;subst b;exact⟨[],by simp[zk,loadCells,loadCellsFrom],by simp⟩
  ·simp[e]at b
 case h_4=>
  simp only[Ab]at f;obtain⟨r,m,c,o,rfl,_⟩:=f;obtain⟨r',m',vs,g,k,h3,_⟩:=run_loadCells (P:=P) u b;rw[o]at g;cases g;exact⟨vs,k,h3⟩
 case h_5=>
  rename_i s;simp only[Ab]at f;subst f;cases b;refine⟨(s.take n).map fun c=>.int .u8 c.toNat,?_,?_⟩
  ·simp only[zk,zf];congr 1;apply Array.ext';simp[bytesOf,List.extract]
  ·apply Aq.mk (by simp);intro i d v g k;simp only[zP]at g k;cases l:(s.take n)[i]? with
   |none=>simp[l]at g
   |some q=>simp[l]at g k;subst g k;simp[Ab]
theorem PQ(b:Nat):∀(r c:Nat),c<b->2*zY b r c<=3*b+2000
 |0,c,h=>by simp[zY];omega
 |r+1,c,h=>by
  unfold zY;rw[wc<|by omega];by_cases d:c+(c+768)/4<b
  ·exact PQ b r _ d
  ·cases r with
   |zero=>simp[zY];omega
   |succ r=>unfold zY;rw[wd<|by omega];omega
theorem TT(b c:Nat)(h:c<b):2*zN b c<=3*b+2000:=by
 unfold zN;split
 ·omega
 ·split
  ·omega
  ·exact PQ b 4 c h
def isInt:TypeDesc->Bool
 | .int _=>true
 |_=>false
def NM:V->Bool
 | .str _=>false
 |_=>true
def FD(T:BR)(h:H)(ts:Array TypeId)(args:List V):Option (V×H):=
 match ts[0]?,ts[1]?,args with
 |some t,some tx,[s,x]=>
  match T.und t,T.und tx,Nt x with
  |some (.slice e),some dx,some n=>
   match T.inf e,isInt dx with
   |some i,false=>
    bif zl 0 i.bytes&&zl 0 i.size&&zh i.zero.length i.size&&(zh i.size 1||NM x)then
     match src h i.size x n with
     |some new=>
      match s with
      | .nils=>
       bif zh n 0 then some (.nils,h)
       else bif zt ((3*n+2000)*i.bytes) 562949953421312 then some (.sl h.nx 0 n n i.size,H9 h e new)else none
      | .es0=>
       bif zh n 0 then some (.es0,h)
       else bif zt ((3*n+2000)*i.bytes) 562949953421312 then some (.sl h.nx 0 n n i.size,H9 h e new)else none
      | .esl=>bif zh n 0 then some (.esl,h)else none
      | .sl b off len cap o=>
       bif zt (len+n) cap then(wr h b (off+len*i.size) new).map fun h'=>(.sl b off (len+n) cap o,h')
       else bif zt ((3*(len+n)+2000)*i.bytes) 562949953421312 then
        match src h i.size s len with
        |some old=>
         bif zh o 0 then some (.sl h.nx 0 (len+n) (len+n) i.size,H9 h e<|old++new)
         else
          match h.get b with
          |some (.cells _ c fz)=>
           bif zh off 0&&zh o i.size&&zh c e&&zt fz.2 fz.1&&new.all V.one then some (.sl h.nx 0 (len+n) (len+n) i.size,(h.kill b).push<|.cells (old++new) e (0,0))
           else none
          |_=>none
        |none=>none
       else none
      |_=>none
     |none=>none
    else none
   |_,_=>none
  |_,_,_=>none
 |_,_,_=>none
theorem P4{old new:List V}{vo vn:List Value}(c:Aq p old vo)(d:Aq p new vn)(b:Array Value):
  Aq p (old++new) ((vo.toArray++vn.toArray++b).toList.take (old++new).length):=by
 have g:=c.length;have f:=d.length;have:((vo.toArray++vn.toArray++b).toList.take (old++new).length)=vo++vn:=by
  simp only[Array.toList_append,zU,g,f];rw[List.take_append_of_le_length<|by simp];rw[List.take_of_length_le<|by simp]
 rw[this];exact c.append d
section
variable {ts:Array TypeId}{t t0 tx e:TypeId}{dx:TypeDesc}{i:TI}{n:Nat}{x' z:Value}{j:TypeInfo}
theorem Na(f:T.Ok P)(g:ts[0]?=some t0)(l:ts[1]?=some tx)(r:T.und t0=some (.slice e))(k:T.und tx=some dx)(m:isInt dx=false)
  (s:T.inf e=some i) (q:∀w,(ya x').run P w=.ok n w) (base:Option Addr) (d c:Nat) (o:d+n<=c):
  (zK ts t #[.slice base d c,x']).run P w=((zk i.size n x').run P w).andThen fun new w'=>((match base with|some a=>storeCells (a.add<|d*i.size) new.toList|none=>pure ():Sem Unit).run P w').andThen fun _ w'=>.ok (.slice base (d+n) c) w':=by
 unfold zK;cases dx<;>first|(cases m;done)|skip
 all_goals
  simp only[g,l,zZ,zW,zX,zd,Aw f r,Aw f k,Bo f s,zc,zf,zM,vf,q,o,wk,Bool.not_false];cases base with
  |none=>rfl
  |some b=>simp only[zd,zf]
theorem PS(g:T.Ok P)(l:ts[0]?=some t0)(o:ts[1]?=some tx)(I:T.und t0=some (.slice e))(m:T.und tx=some dx)(q:isInt dx=false)
  (x:T.inf e=some i) (v:0<i.bytes) (E:∀w,(zeroValue e).run P w=.ok z w) (F:∀w,(ya x').run P w=.ok n w) (base:Option Addr) (b c:Nat) (k:c<b+n)
  (d:(3*(b+n)+2000)*i.bytes<=562949953421312):
  ∃u,b+n<=u/\(zK ts t #[.slice base b c,x']).run P w=((zk i.size b<|.slice base b c).run P { w with drawn:=w.drawn+1 }).andThen fun old w'=>
   ((zk i.size n x').run P w').andThen fun new w'=>
    .ok (.slice (some ⟨w'.heap.size,0,none⟩) (b+n) u) { w' with heap:=w'.heap.push (.cells (old++new++zi z.cells (u-(b+n))) e) }:=by
 obtain⟨j,B,s,A⟩:=ND g x;have r:=TT (b+n) c k;have f:2*zN (b+n) c*i.bytes<=562949953421312:=Nat.le_trans (zz _ r) d;rw[Nat.mul_assoc]at f;have G:zN (b+n) c*i.bytes<=281474976710656:=by omega
 refine⟨(Question.appendCap (b+n) c e).cut<|w.tape w.drawn<|.appendCap (b+n) c e,by simp[Question.cut],?_⟩;unfold zK;have y:¬(b+n<=c):=by omega
 have D:¬(zN (b+n) c*i.bytes>2^48):=by omega
 have J:¬(i.bytes=0):=by omega
 cases dx<;>first|(cases q;done)|skip
 all_goals
  simp only[l,o,zZ,zW,zX,zd,Aw g I,Aw g m,Bo g x,zc,zf,zM,vf,F,Bool.not_false,wk,
   y,B,s,J,or_self,and_false,D,run_choose,yd,run_askRoom,E,B6]
end
theorem Hy(z:Array Value)(n:Nat):(zi z n).size=n*z.size:=by simp[zi]
theorem Oh{size n:Nat}{x:V}{cs:List V}(c:Nt x=some n)(d:size=1\/∀s,x≠ .str s)(b:src h size x n=some cs):cs.length=n*size:=by
 unfold src at b;split at b
 case h_6=>cases b
 case h_1=>cases b;cases c;simp
 case h_2=>
  cases c;cases b;simp
 case h_3=>
  cases c;cases b;simp
 case h_4=>
  rw[Vp]at b;unfold rI at b;split at b
  case h_2=>cases b
  split at b
  case isFalse=>cases b
  cases b;simp;omega
 case h_5=>
  rename_i s;cases b;cases c;rcases d with rfl|d
  ·simp
  ·exact wh rfl (d s)
theorem Uf(hT:T.Ok P)(M:R p h w){ts:Array TypeId}{t:TypeId}{args:List V}{args':Array Value}(ha:Aq p args args'.toList){v:V}{h':H}(f:FD T h ts args=some (v,h')):
  ∃v' p' w',(zK ts t args').run P w=.ok v' w'/\Ab p' v v'/\Ext p h w p' h' w':=by
 unfold FD at f;split at f
 case h_2=>cases f
 rename_i t0 tx s x N S;obtain⟨s',x',J,hs,hx⟩:=ha.two;have ha0:args'[0]?=some s':=by rw[<-zn,J];rfl
 have ha1:args'[1]?=some x':=by rw[<-zn,J];rfl
 split at f
 case h_2=>cases f
 rename_i e dx n hu O Z;split at f
 case h_2=>cases f
 rename_i i hi Q;cases B:(zl 0 i.bytes&&zl 0 i.size&&zh i.zero.length i.size&&(zh i.size 1||NM x))with
 |false=>simp[B]at f
 |true=>
  simp only[B,we]at f;simp only[zq,z7,Bf,w5,yr]at B;obtain⟨⟨⟨c1,c2⟩,c3⟩,c4⟩:=B;have c5:i.size=1\/∀s,x≠ .str s:=c4.imp id (fun h s e=>by subst e;cases h);split at f
  case h_2=>cases f
  rename_i new L;have hnl:=Oh Z c5 L;obtain⟨vn,hvn,E⟩:=J3 (P:=P) M hx L;obtain⟨j,hj,hjb,hjs⟩:=ND hT hi;obtain⟨z,hz,hzr⟩:=DO hT hi;have hzl:=(hzr p).length;simp at hzl;have hne:args'= #[s',x']:=by apply Array.ext';simpa using J
  subst hne;have y:∀w,(ya x').run P w=.ok n w:=fun w=>M6 hx Z
  have G:∀(base:Option Addr) (c:Nat),n=0->(zK ts t #[.slice base 0 c,x']).run P w=.ok (.slice base 0 c) w:=by
   intro base c h0;rw[Na hT N S hu O Q hi y base 0 c (by omega),hvn];have hv0:vn=[]:=by
    have h1:=E.length;rw[hnl,h0,Nat.zero_mul]at h1;exact yn.1 h1.symm
   subst hv0;cases base<;>simp[h0,storeCells]
  have some0:∀(base:Option Addr),¬n=0->(3*n+2000)*i.bytes<=562949953421312->∃v' p' w',(zK ts t #[.slice base 0 0,x']).run P w=.ok v' w'/\Ab p' (.sl h.nx 0 n n i.size) v'/\Ext p h w p' (H9 h e new) w':=by
   intro base h0 F;obtain⟨D,hnc,K⟩:=PS (w:=w) (t:=t) hT N S hu O Q hi c1 hz y base 0 0 (by omega) (by simpa using F);simp only[yz]at K hnc;have l:=yt M<|w.drawn+1;obtain⟨vn',hvn',hvnr'⟩:=J3 (P:=P) l.rel hx L;have X:=yo (n:=D*i.size) l.rel (o:=.cells new e (0,0)) (x:=.cells (#[]++vn'.toArray++zi z.cells (D-n)) e) ?_
   ·refine⟨.slice (some ⟨w.heap.size,0,none⟩) n D,_,_,?_,?_,l.trans X⟩
    ·rw[K];have hf:∀w,(zk i.size 0<|Value.slice base 0 0).run P w=.ok #[] w:=by
      intro w;cases base<;>simp[zk,loadCells,loadCellsFrom]
     simp only[hf,zc,hvn']
    ·simp only[Ab];refine⟨w.heap.size,D*i.size,D,by rw[<-M.len];simp,rfl,zV _,by omega,fun h=>by omega,fun _=>by omega⟩
   ·have hl:=hvnr'.length;have hsz:(#[]++vn'.toArray++zi z.cells (D-n)).size=D*i.size:=by
     have:vn'.length=n*i.size:=by omega
     simp only[yg,Hy,yh,yh,this, <-hzl,c3,Nat.sub_mul];have:n*i.size<=D*i.size:=zz _ (by omega);simp;omega
    refine⟨_,(0,0),rfl,hsz,?_,?_,fun i _ h1 h2=>⟨h1,h2⟩⟩
    ·rw[hnl];exact zz _ (by omega)
    ·have:=P4 (p:=p) (old:=[]) (vo:=[]) (by simp) hvnr'<|zi z.cells<|D-n;simpa using this.uT
  split at f
  case h_5=>cases f
  case h_1=>
   simp only[Ab]at hs;subst hs;rw[Bf]at f;by_cases h0:n=0
   ·simp only[h0,decide_true,we,ze,zo]at f;obtain⟨rfl,rfl⟩:=f;exact⟨.slice none 0 0,p,w,G none 0 h0,by simp[Ab],zu M⟩
   ·simp only[h0,decide_false,wg]at f;cases F:zt ((3*n+2000)*i.bytes) 562949953421312 with
    |false=>simp[F]at f
    |true=>
     simp only[F,we,ze,zo]at f;obtain⟨rfl,rfl⟩:=f;rw[zO]at F;exact some0 none h0 F
  case h_2=>
   simp only[Ab]at hs;obtain⟨a0,rfl⟩:=hs;rw[Bf]at f;by_cases h0:n=0
   ·simp only[h0,decide_true,we,ze,zo]at f;obtain⟨rfl,rfl⟩:=f;exact⟨_,p,w,G (some a0) 0 h0,by simp[Ab],zu M⟩
   ·simp only[h0,decide_false,wg]at f;cases F:zt ((3*n+2000)*i.bytes) 562949953421312 with
    |false=>simp[F]at f
    |true=>
     simp only[F,we,ze,zo]at f;obtain⟨rfl,rfl⟩:=f;rw[zO]at F;exact some0 (some a0) h0 F
  case h_3=>
   simp only[Ab]at hs;obtain⟨a0,c0,rfl⟩:=hs;rw[Bf]at f;by_cases h0:n=0
   ·simp only[h0,decide_true,we,ze,zo]at f;obtain⟨rfl,rfl⟩:=f;exact⟨_,p,w,G (some a0) c0 h0,by simp[Ab],zu M⟩
   ·simp[h0]at f
  case h_4=>
   rename_i b off len cap o;simp only[Ab]at hs;obtain⟨r,m,c,hp,rfl,hlen,hcap,ho1,ho2⟩:=hs;cases Y:zt (len+n) cap with
   |true=>
    simp only[Y,we,zg,zo]at f;obtain⟨h1,hw,rfl,rfl⟩:=f;rw[zO]at Y;obtain⟨r',m',w',g1,g2,g3⟩:=Rb (P:=P) M E hw;rw[hp]at g1;cases g1;refine⟨.slice (some ⟨r,off,none⟩) (len+n) c,p,w',?_,?_,g3⟩
    ·rw[Na hT N S hu O Q hi y _ len c (by omega),hvn];simp only[zc,Addr.G5,g2]
    ·simp only[Ab];exact⟨r,m,c,hp,rfl,Y,hcap,ho1,ho2⟩
   |false=>
    simp only[Y,wg]at f;have hle':¬(len+n<=cap):=by rw[<-zO,Y];simp
    cases F:zt ((3*(len+n)+2000)*i.bytes) 562949953421312 with
    |false=>simp[F]at f
    |true=>
     simp only[F,we]at f;rw[zO]at F;split at f
     case h_2=>cases f
     rename_i old g;have hol:=Oh (x:=.sl b off len cap o) (n:=len) rfl (.inr<|fun s e=>by cases e) g;have hsrel:∀q:Pl,(∃q',q=p++q')->Ab q (.sl b off len cap o) (.slice (some ⟨r,off,none⟩) len c):=by
      rintro q ⟨q',rfl⟩;exact Ab.mono q' (by simp only[Ab];exact⟨r,m,c,hp,rfl,hlen,hcap,ho1,ho2⟩)
     have fresh:∀(_:c<len+n) (h2:H),R p h2 { w with drawn:=w.drawn+1 }->h2.nx=h.nx->
       ∃v' p' w',(zK ts t #[.slice (some ⟨r,off,none⟩) len c,x']).run P w=.ok v' w'/\Ab p' (.sl h.nx 0 (len+n) (len+n) i.size) v'/\
        Ext p h2 { w with drawn:=w.drawn+1 } p' (h2.push<|.cells (old++new) e (0,0)) w':=by
      intro hlt h2 hr2 hnx;obtain⟨D,hnc,K⟩:=PS (w:=w) (t:=t) hT N S hu O Q hi c1 hz y (some ⟨r,off,none⟩) len c hlt F;have l:=yt M<|w.drawn+1;obtain⟨vn',hvn',hvnr'⟩:=J3 (P:=P) l.rel hx L;obtain⟨vo',hvo',hvor'⟩:=J3 (P:=P) (x:=.sl b off len cap o) l.rel (hsrel p ⟨[],by simp⟩) g;have hl:=hvnr'.length;have hl2:=hvor'.length;have hsz:(vo'.toArray++vn'.toArray++zi z.cells (D-(len+n))).size=D*i.size:=by
       have e1:vn'.length=n*i.size:=by omega
       have e2:vo'.length=len*i.size:=by omega
       simp only[yg,Hy,yh,e1,e2, <-hzl,c3,Nat.sub_mul,yu];have:(len+n)*i.size<=D*i.size:=zz _ (by omega);rw[yu]at this;omega
      have X:=yo (n:=D*i.size) hr2 (o:=.cells (old++new) e (0,0)) (x:=.cells (vo'.toArray++vn'.toArray++zi z.cells (D-(len+n))) e)
       ⟨_,(0,0),rfl,hsz,by rw[zU,hol,hnl, <-yu];exact zz _ (by omega),(P4 hvor' hvnr' _).uT,fun i _ h1 h2=>⟨h1,h2⟩⟩
      refine⟨.slice (some ⟨w.heap.size,0,none⟩) (len+n) D,_,_,?_,?_,X⟩
      ·rw[K,hvo'];simp only[zc,hvn']
      ·simp only[Ab];refine⟨w.heap.size,D*i.size,D,?_,rfl,zV _,by omega,fun h=>by omega,fun _=>by omega⟩;rw[<-hnx, <-hr2.len];simp
     rw[Bf]at f;by_cases h0:o=0
     ·simp only[h0,decide_true,we,ze,zo]at f;obtain⟨rfl,rfl⟩:=f;have:=ho1 h0;have l:=yt M<|w.drawn+1;obtain⟨v',p',w',k1,k2,k3⟩:=fresh (by omega) h l.rel rfl;exact⟨v',p',w',k1,k2,l.trans k3⟩
     ·simp only[h0,decide_false,wg]at f;split at f
      case h_2=>cases f
      rename_i cs te fz hbk;cases hc2:(zh off 0&&zh o i.size&&zh te e&&zt fz.2 fz.1&&new.all V.one)with
      |false=>simp[hc2]at f
      |true=>
       simp only[hc2,we,ze,zo]at f;obtain⟨rfl,rfl⟩:=f;simp only[zq,zO,Bf,w5,List.all_eq_true]at hc2;obtain⟨⟨⟨⟨rfl,rfl⟩,rfl⟩,d4⟩,d5⟩:=hc2;by_cases W:len+n<=c
       ·
        obtain⟨r',m',cc,fz',g1,g2,g3,g4,g5,g6,g7⟩:=cell_of M hbk;rw[hp]at g1;cases g1;have hm:=ho2 h0;have hl:=E.length;have hone:∀v∈vn,v.oneCell'=true:=by
         intro v hv;obtain⟨k,hk⟩:=List.mem_iff_getElem?.1 hv;have hk':=(zx.1 hk).1;obtain⟨u,I,U⟩:=E.get (i:=k) (d:=new[k]'(by omega)) (by simp);rw[hk]at I;cases I;exact U.one<|d5 _<|List.getElem_mem _
        have hbnd:len*i.size+n*i.size<=c*i.size:=by rw[<-yu];exact zz _ W
        obtain⟨cc',k1,k2,k3⟩:=Fo (P:=P) vn w cc (len*i.size) 0 g2 (by omega) hone (by
         rintro k _ hk ⟨q1,q2⟩;have:=g7 (len*i.size+k) (by omega) q1 q2;omega)
        have hrd:old=cs.take (len*i.size)/\len*i.size<=cs.length:=by
         unfold src at g;simp only[Vp]at g;unfold rI at g;simp only[hbk,yz,List.drop_zero]at g;split at g
         ·rename_i hc0;cases g;exact⟨rfl,hc0.1⟩
         ·cases g
        refine⟨.slice (some ⟨r,0,none⟩) (len+n) c,p++[(r,m)],{ w with heap:=w.heap.setIfInBounds r (.cells cc' te fz') },?_,?_,Ext.move M (o':=.cells (old++new) te (0,0)) hbk hp ⟨cc',fz',rfl,by omega,?_,?_,?_⟩ rfl rfl rfl rfl (fun _ _ _ e1 hlk=>by cases e1;obtain⟨l1,_,l3⟩:=hlk;omega)⟩
        ·rw[Na hT N S hu O Q hi y _ len c W,hvn];simp only[zc,Addr.G5,yz,k1]
        ·simp only[Ab];exact⟨r,m,c,by rw[<-M.len];simp,rfl,zV _,W,fun h=>by omega,fun _=>hm⟩
        ·rw[zU,hol,hnl];omega
        ·refine⟨?_,?_⟩
         ·simp;omega
         ·intro k d v hdk A hokk;have hkl:k<(old++new).length:=(zx.1 hdk).1;rw[zp hkl,k3]at A;rw[zU,hol,hnl]at hkl;simp only[Nat.add_zero,zP]at A;rw[List.getElem?_range<|by omega]at A;simp only[ye,ze]at A;by_cases hk:k<len*i.size
          ·rw[zT (by omega),hrd.1,zp hk]at hdk;rw[wc<|by omega]at A;obtain⟨u,I,U⟩:=g5.get hdk hokk;rw[zp<|by omega]at I;simp only[List.getD,I,Option.getD_some]at A;exact A▸U
          ·rw[List.getElem?_append_right (by omega),hol]at hdk;rw[wd<|by omega]at A;obtain⟨u,I,U⟩:=E.get hdk;simp only[List.getD,I,Option.getD_some]at A;exact A▸U
        ·intro k hk q1 q2;have:=g7 k hk q1 q2;omega
       ·have hk:=Ext.kill M b;have l:=yt hk.rel<|w.drawn+1;obtain⟨v',p',w',k1,k2,k3⟩:=fresh (by omega) (h.kill b) l.rel rfl;exact⟨v',p',w',k1,k2,(hk.trans l).trans k3⟩
def bW(T:BR)(h:H)(ts:Array TypeId)(args:List V):Option (V×H):=
 match ts[0]?,args with
 |some t,[d,x]=>
  match T.und t,Nt d,Nt x with
  |some (.slice e),some c,some n=>
   match T.inf e with
   |some i=>
    match src h i.size x (Nat.min n c)with
    |some new=>
     match d with
     | .nils=>some (i64<|Nat.min n c,h)
     | .sl b off _ _ _=>(wr h b off new).map fun h'=>(i64<|Nat.min n c,h')
     |_=>none
    |none=>none
   |none=>none
  |_,_,_=>none
 |_,_=>none
theorem Yv(y:T.Ok P)(E:R p h w){ts:Array TypeId}{t:TypeId}{args:List V}{args':Array Value}(I:Aq p args args'.toList){v:V}{h':H}(f:bW T h ts args=some (v,h')):
  ∃v' p' w',(Builtin.copy_ ts t args').run P w=.ok v' w'/\Ab p' v v'/\Ext p h w p' h' w':=by
 unfold bW at f;split at f
 case h_2=>cases f
 rename_i t0 d x A;obtain⟨K,x',l,g,B⟩:=I.two;have D:args'= #[K,x']:=by apply Array.ext';simpa using l
 subst D;split at f
 case h_2=>cases f
 rename_i e M n L k F;split at f
 case h_2=>cases f
 rename_i i G;split at f
 case h_2=>cases f
 rename_i new s;obtain⟨vn,q,u⟩:=J3 (P:=P) E B s;unfold Builtin.copy_;simp only[A,zZ,zW,zX,zd,Aw y L,zc];split at f
 case h_3=>cases f
 case h_1=>
  simp only[Ab]at g;subst g;simp only[Nt,ze]at k;subst k;cases f;simp only[zd,M6 B F,Bo y G,zc,q];refine⟨_,p,w,zf ..,?_,zu E⟩;simp[i64,Ab,goInt]
 case h_2=>
  rename_i b off len cap o;simp only[Nt,ze]at k;subst k;simp only[Ab]at g;obtain⟨r,m,c,J,rfl,_⟩:=g;rw[zg]at f;obtain⟨h1,hw,he⟩:=f;cases he;obtain⟨r',m',w',g1,g2,g3⟩:=Rb (P:=P) E u hw;rw[J]at g1;cases g1;simp only[zd,M6 B F,Bo y G,zc,q,g2];refine⟨_,p,w',zf ..,?_,g3⟩;simp[i64,Ab,goInt]
def Qw(T:BR)(h:H)(t:TypeId)(x:V):Option (V×H):=
 match T.und t,x with
 |some .string,.str s=>some (.ptr h.nx 0,h.push<|.siter s 0)
 |_,_=>none
theorem Xt(f:T.Ok P)(d:R p h w){t:TypeId}{x:V}{x':Value}(c:Ab p x x'){v:V}{h':H}(b:Qw T h t x=some (v,h')):
  ∃v' p' w',(yi t x').run P w=.ok v' w'/\Ab p' v v'/\Ext p h w p' h' w':=by
 unfold Qw at b;split at b
 case h_2=>cases b
 rename_i s g;cases b;simp only[Ab]at c;subst c;have k:=yo (n:=0) d (o:=.siter s 0) (x:=.stringIter (bytesOf s) 0) rfl;refine⟨.pointer<|some ⟨w.heap.size,0,none⟩,_,_,?_,?_,k⟩
 ·unfold yi;simp only[zd,Aw f g,zc,zf,run_newObj]
 ·simp only[Ab];exact⟨w.heap.size,0,by rw[<-d.len];simp,rfl⟩
def LR(h:H)(d:V)(c:Bool):Option (V×H):=
 match d,c with
 | .ptr b 0,true=>
  match h.get b with
  |some (.siter s pos)=>
   bif zl pos s.length then
    some (.tup [.bool true,i64 pos,.int .i32 (Utf8.decode (bytesOf s) pos).1],h.put b<|.siter s<|pos+(Utf8.decode (bytesOf s) pos).2)
   else some (.tup [.bool false],h)
  |_=>none
 |_,_=>none
theorem ZK(k:R p h w){q:V}{g:Value}{c:Bool}{t:TypeId}(l:Ab p q g){v:V}{h':H}(d:LR h q c=some (v,h')):
  ∃v' p' w',(yp g c t).run P w=.ok v' w'/\Ab p' v v'/\Ext p h w p' h' w':=by
 unfold LR at d;split at d
 case h_2=>cases d
 rename_i b;simp only[Ab]at l;obtain⟨r,n,u,rfl⟩:=l;split at d
 case h_2=>cases d
 rename_i s pos y;obtain⟨B,n',x,m,o,A⟩:=k.obj _ _ y;rw[u]at m;cases m;simp only[GD]at A;subst A;rw[Gz]at d;unfold yp;simp only[zd,getObj,zQ,o,zc,Bv];by_cases f:pos<s.length
 ·simp only[f,decide_true,we,ze,zo]at d;obtain⟨rfl,rfl⟩:=d;simp only[f,wk,zd,setObj,zQ,o,zc];refine⟨_,p,_,zf ..,?_,yw k y u (o':=.siter s<|pos+(Utf8.decode (bytesOf s) pos).2) rfl rfl rfl rfl rfl⟩;simp[Ab,i64,goInt]
 ·simp only[f,decide_false,wg,ze,zo]at d;obtain⟨rfl,rfl⟩:=d;simp only[f,vf];exact⟨_,p,w,zf ..,by simp[Ab],zu k⟩
def HS(h:H)(r:Option V):Option (V×H):=
 match r with
 |none=>some (.map h.nx,h.push<|.map [] 0)
 |some _=>none
theorem Ty(d:R p h w){t:TypeId}{r:Option V}{f:Option Value}(c:E9 p r f){v:V}{h':H}(b:HS h r=some (v,h')):
  ∃v' p' w',(Instr.makeMap t f).run P w=.ok v' w'/\Ab p' v v'/\Ext p h w p' h' w':=by
 unfold HS at b;split at b
 case h_2=>cases b
 cases b;simp only[E9]at c;subst c;have g:=yo (n:=0) d (o:=.map [] 0) (x:=.map #[] 0) ⟨#[],rfl,.nil⟩;refine⟨.map<|some w.heap.size,_,_,?_,?_,g⟩
 ·unfold Instr.makeMap;simp
 ·simp only[Ab];exact⟨w.heap.size,0,by rw[<-d.len];simp,rfl⟩
def dD(T:BR)(c:TypeId)(a b:V):Option Bool:=
 match T.und c,a,b with
 |some (.int _),.int k x,.int d y=>if k=d then some (x==y)else none
 |some .string,.str x,.str y=>some<|x==y
 |some .bool,.bool x,.bool y=>some<|x==y
 |_,_,_=>none
def Kj(T:BR)(b:TypeId)(k:V):List (V×V×Nat)->Nat->Option (Option<|Nat×V)
 |[],_=>some none
 |(a,v,_)::es,i=>
  match dD T b k a with
  |some true=>some<|some (i,v)
  |some false=>Kj T b k es<|i+1
  |none=>none
def plainKey:V->Bool
 | .int .. | .str _| .bool _=>true
 |_=>false
theorem bytes_beq(x y:ByteArray):(x==y)=(x.data==y.data):=rfl
theorem WQ{o:TypeId}{a b:V}{m b':Value}(g:Ab p a m)(k:Ab p b b'){r:Bool}(f:dD T o a b=some r){d:TypeDesc}(l:T.und o=some d):
  yj d m b'=some r/\(r=true->m=b'):=by
 unfold dD at f;split at f
 case h_1=>
  rename_i c;rw[l]at c;cases c;simp only[Ab]at g k;subst g k;split at f
  ·rename_i e;subst e;cases f;exact⟨by simp[yj],fun h=>by simp at h;subst h;rfl⟩
  ·cases f
 case h_2=>
  rename_i c;rw[l]at c;cases c;simp only[Ab]at g k;subst g k;cases f;refine⟨?_,fun h=>by simp at h;subst h;rfl⟩;simp only[yj];congr 1;rw[bytes_beq,Bool.eq_iff_iff];simp[bytesOf]
 case h_3=>
  rename_i c;rw[l]at c;cases c;simp only[Ab]at g k;subst g k;cases f;exact⟨rfl,fun h=>by simp at h;subst h;rfl⟩
 case h_4=>cases f
theorem aM{q:TypeId}{k:V}{o:Value}(u:Ab p k o){d:TypeDesc}(x:T.und q=some d):
  ∀ {es:List (V×V×Nat)} {l:List MapEntry},Di p es l->∀ {i:Nat} {r:Option (Nat×V)},Kj T q k es i=some r->
  ∃f,yb d o l i=some f/\(match r with|none=>f=none|some (j,v)=>∃v',f=some (j,v')/\Ab p v v'/\i<=j/\∃e,l[j-i]?=some e/\e.key=o):=by
 intro es l E;induction E with
 |nil=>intro i r c;simp only[Kj,ze]at c;subst c;exact⟨none,rfl,rfl⟩
 |@cons a v b es e l s A F _ D=>
  intro i r c;unfold Kj at c;split at c
  case h_1=>
   rename_i m;cases c;obtain⟨g,B⟩:=WQ u s m x;exact⟨some (i,e.val),by simp[yb,g],e.val,rfl,A,zV _,e,by simp,(B rfl).symm⟩
  case h_2=>
   rename_i m;obtain⟨g,_⟩:=WQ u s m x;obtain⟨f,k1,k2⟩:=D c;refine⟨f,by simp[yb,g,k1],?_⟩;cases r with
   |none=>exact k2
   |some y=>
    obtain⟨j,v⟩:=y;obtain⟨v',m1,m2,m3,e',m4,m5⟩:=k2;refine⟨v',m1,m2,by omega,e',?_,m5⟩;have:j-i=(j-(i+1))+1:=by omega
    rw[this];simpa using m4
  case h_3=>cases c
theorem run_checkKey{k:V}{f:Value}(g:Ab p k f)(l:plainKey k=true)(m:T.Ok P){c:TypeId}{d:TypeDesc}(q:T.und c=some d)(r:DB d=false)(o:∀s,d≠ .interface s)(b:Bool):
  (yv b 10000 c f).run P w=.ok () w:=by
 unfold yv;rw[zd,Aw m q];simp only[zc];cases k<;>simp only[plainKey]at l<;>simp only[Ab]at g
 case bool|int|str=>
  subst g;cases d<;>first|rfl|(cases r;done)|exact wh rfl (o _)
 all_goals cases l
def YR:TypeDesc->Bool
 | .int _| .string| .bool=>true
 |_=>false
theorem XB{d:TypeDesc}(h:YR d=true):DB d=false/\∀b,d≠ .interface b:=by
 cases d<;>first|(cases h;done)|exact⟨rfl,fun b e=>by cases e⟩
theorem Pc{k:V}{c:Value}(b:Ab p k c)(d:plainKey k=true):zw 10000 c c=true:=by
 cases k<;>simp only[plainKey]at d<;>simp only[Ab]at b
 case bool=>subst b;simp[zw]
 case int=>subst b;simp[zw]
 case str=>subst b;simp[zw,bytes_beq]
 all_goals cases d
theorem TA{a b:V}{f b':Value}(c:Ab p a f)(d:Ab p b b')(h:Dj a b=some true):f=b':=by
 unfold Dj at h;split at h
 case h_1=>simp only[Ab]at c d;subst c d;simp at h;subst h;rfl
 case h_2=>
  split at h
  ·rename_i e;subst e;simp only[Ab]at c d;subst c d;simp at h;subst h;rfl
  ·cases h
 case h_3=>simp only[Ab]at c d;subst c d;simp at h;subst h;rfl
 case h_4=>cases h
theorem JY:∀ {xs f:List V} {x y:List Value},Aq p xs x->Aq p f y->BK xs f=some true->x=y
 |[],[],x,y,c,d,_=>by simp at c d;subst c d;rfl
 |[],_::_,_,_,_,_,h=>by simp[BK]at h
 |_::_,[],_,_,_,_,h=>by simp[BK]at h
 |a::m,b::o,x,y,c,d,h=>by
  simp only[Aq]at c d;obtain⟨u,q,rfl,g,k⟩:=c;obtain⟨v,vs,rfl,h3,h4⟩:=d;unfold BK at h;split at h
  case h_1=>
   rename_i l;rw[TA g h3 l,JY k h4 h]
  case h_2=>split at h<;>cases h
  case h_3=>cases h
theorem SV:∀ {ks:List FK} {xs:List V} {x:List Value},fit ks xs=true->Aq p xs x->(x.zip x).all (fun(a,b)=>zw 9999 a b)=true
 |[],[],x,_,d=>by simp at d;subst d;rfl
 |[],_::_,_,h,_=>by simp[fit]at h
 |_::_,[],_,h,_=>by simp[fit]at h
 |k::ks,v::vs,x,h,d=>by
  simp only[Aq]at d;obtain⟨u,m,rfl,c,g⟩:=d;unfold fit at h;cases f:k.ok v with
  |false=>simp[f]at h
  |true=>
   simp only[f,we]at h;have l:=SV h g;simp only[List.zip_cons_cons,yx,l,Bool.and_true];unfold FK.ok at f;split at f
   case h_1=>simp only[Ab]at c;subst c;simp[zw]
   case h_2=>simp only[Ab]at c;subst c;simp[zw,bytes_beq]
   case h_3=>simp only[Ab]at c;subst c;simp[zw]
   case h_4=>cases f
def OA(ks:List FK)(k:List V):List (V×V×Nat)->Nat->Option (Option<|Nat×V)
 |[],_=>some none
 |(a,v,_)::es,i=>
  match a with
  | .agg b=>match LW (some ks) k b with
   |some true=>some<|some (i,v)
   |some false=>OA ks k es<|i+1
   |none=>none
  |_=>none
def HD(T:BR)(b:TypeId)(d:TypeDesc)(k:V):Bool:=
 match k with
 | .agg xs=>match T.flat b with
  |some ks=>fit ks xs
  |none=>false
 |k=>plainKey k&&YR d
def Ju(T:BR)(b:TypeId)(k:V)(es:List (V×V×Nat)):Option (Option<|Nat×V):=
 match k with
 | .agg xs=>match T.flat b with
  |some ks=>OA ks xs es 0
  |none=>none
 |k=>Kj T b k es 0
theorem NI(B:T.Ok P){g:TypeId}{ks:List FK}(D:T.flat g=some ks){xs:List V}{x:Array Value}(m:Aq p xs x.toList):
  ∀ {es:List (V×V×Nat)} {l:List MapEntry},Di p es l->∀ {i:Nat} {r:Option (Nat×V)},OA ks xs es i=some r->
  ∃f,(z8 g (.agg x) l i).run P w=.ok f w/\(match r with|none=>f=none|some (j,v)=>∃v',f=some (j,v')/\Ab p v v'/\i<=j/\∃e,l[j-i]?=some e/\e.key=.agg x):=by
 intro es l J;induction J with
 |nil=>intro i r c;simp only[OA,ze]at c;subst c;exact⟨none,rfl,rfl⟩
 |@cons a v b es e l d G K _ I=>
  intro i r c;unfold OA at c;split at c
  case h_2=>cases c
  rename_i E;simp only[Ab]at d;obtain⟨y,A,d⟩:=d;split at c
  case h_3=>cases c
  case h_1=>
   rename_i u;cases c;obtain⟨l',s,o,q,k⟩:=G8 u;cases s;refine⟨some (i,e.val),?_,e.val,rfl,G,zV _,e,by simp,?_⟩
   ·simp only[z8,zd,A,B.flat g ks D p xs E x y true w o q m d k,zc,wk,zf]
   ·rw[A];have:=JY m d k;congr 1;exact(zm.1 this).symm
  case h_2=>
   rename_i u;obtain⟨l',s,o,q,k⟩:=G8 u;cases s;obtain⟨f,k1,k2⟩:=I c;refine⟨f,?_,?_⟩
   ·simp only[z8,zd,A,B.flat g ks D p xs E x y false w o q m d k,zc,zM,vf];exact k1
   ·cases r with
    |none=>exact k2
    |some F=>
     obtain⟨j,v⟩:=F;obtain⟨v',m1,m2,m3,e',m4,m5⟩:=k2;refine⟨v',m1,m2,by omega,e',?_,m5⟩;have:j-i=(j-(i+1))+1:=by omega
     rw[this];simpa using m4
theorem IN(l:T.Ok P){f:TypeId}{d:TypeDesc}(u:T.und f=some d){k:V}{m:Value}(g:Ab p k m)(c:HD T f d k=true)(b:Bool):
  (yv b 10000 f m).run P w=.ok () w:=by
 unfold HD at c;split at c
 case h_1=>
  rename_i xs;split at c
  case h_2=>cases c
  rename_i ks q;simp only[Ab]at g;obtain⟨x,rfl,o⟩:=g;exact l.key f ks q p xs x b w c o
 case h_2=>
  simp only[zq]at c;obtain⟨r,s⟩:=XB c.2;exact run_checkKey g c.1 l u r s b
theorem UK{g:TypeId}{d:TypeDesc}{k:V}{c:Value}(f:Ab p k c)(b:HD T g d k=true):zw 10000 c c=true:=by
 unfold HD at b;split at b
 case h_1=>
  rename_i xs;split at b
  case h_2=>cases b
  rename_i ks m;simp only[Ab]at f;obtain⟨x,rfl,l⟩:=f;have:=SV b l;simp only[zw,beq_self_eq_true,Bool.true_and];exact this
 case h_2=>
  simp only[zq]at b;exact Pc f b.1
def entries(h:H)(m:V):Option (List<|V×V×Nat):=
 match m with
 | .nilm=>some []
 | .map b=>match h.get b with
  |some (.map es _)=>some es
  |_=>none
 |_=>none
def Ek(T:BR)(h:H)(t:TypeId)(m k:V)(ok:Bool):Option V:=
 match T.und t with
 |some (.map b e)=>
  match T.und b,entries h m with
  |some d,some es=>
   bif HD T b d k then
    match Ju T b k es with
    |some (some (_,v))=>some<|bif ok then .tup [v,.bool true]else v
    |some none=>match T.inf e with
     |some i=>some<|bif ok then .tup [i.zv,.bool false]else i.zv
     |none=>none
    |none=>none
   else none
  |_,_=>none
 |_=>none
theorem Lm(y:R p h w){m:V}{g:Value}(d:Ab p m g){es:List (V×V×Nat)}(c:entries h m=some es):
  (g=.map none/\es=[])\/∃r l f b n,m=.map b/\g=.map (some r)/\p[b]?=some (r,n)/\h.get b=some (.map es f)/\w.heap[r]?=some (.map l f)/\Di p es l.toList:=by
 unfold entries at c;split at c
 case h_1=>simp only[Ab]at d;subst d;cases c;exact .inl ⟨rfl,rfl⟩
 case h_2=>
  simp only[Ab]at d;obtain⟨r,n,q,rfl⟩:=d;split at c
  case h_2=>cases c
  rename_i x f s;cases c;obtain⟨B,n',o,k,v,l,A,u⟩:=y.obj _ _ s;rw[q]at k;cases k;subst A;exact .inr ⟨r,l,f,_,_,rfl,rfl,q,s,v,u⟩
 case h_3=>cases c
theorem run_findKey(o:T.Ok P){c:TypeId}{k:V}{B:Value}(A:Ab p k B){d:TypeDesc}(u:T.und c=some d){es:List (V×V×Nat)}{l:List MapEntry}(D:Di p es l)
  {r:Option (Nat×V)} (f:Ju T c k es=some r):
  ∃b,(yk c B l).run P w=.ok b w/\(match r with|none=>b=none|some (j,v)=>∃v',b=some (j,v')/\Ab p v v'/\∃e,l[j]?=some e/\e.key=B):=by
 by_cases m:∃xs,k=.agg xs
 ·obtain⟨xs,rfl⟩:=m;simp only[Ju]at f;cases s:T.flat c with
  |none=>simp[s]at f
  |some ks=>
   simp only[s]at f;simp only[Ab]at A;obtain⟨x,rfl,E⟩:=A;obtain⟨fs,hfs⟩:=o.kind c ks s;rw[u]at hfs;cases hfs;obtain⟨b,q,g⟩:=NI (P:=P) (w:=w) o s E D f;refine⟨b,?_,?_⟩
   ·unfold yk;simp only[zd,Aw o u,zc];cases l with
    |nil=>simp only[yb];simpa [z8]using q
    |cons e l=>simp only[yb,yj];exact q
   ·cases r with
    |none=>exact g
    |some y=>
     obtain⟨j,v⟩:=y;obtain⟨v',m1,m2,m3,e',m4,m5⟩:=g;exact⟨v',m1,m2,e',by simpa using m4,m5⟩
 ·have F:Ju T c k es=Kj T c k es 0:=by cases k<;>first|rfl|exact wh ⟨_,rfl⟩ m
  rw[F]at f;obtain⟨b,q,g⟩:=aM A u D f;refine⟨b,?_,?_⟩
  ·unfold yk;simp only[zd,Aw o u,zc,q,zf]
  ·cases r with
   |none=>exact g
   |some y=>
    obtain⟨j,v⟩:=y;obtain⟨v',m1,m2,m3,e',m4,m5⟩:=g;exact⟨v',m1,m2,e',by simpa using m4,m5⟩
theorem T8(g:T.Ok P)(N:R p h w){t:TypeId}{m k:V}{A x:Value}{ok:Bool}(L:Ab p m A)(s:Ab p k x){v:V}(c:Ek T h t m k ok=some v):
  ∃v',(yq t A x ok).run P w=.ok v' w/\Ab p v v':=by
 unfold Ek at c;split at c
 case h_2=>cases c
 rename_i E e I;split at c
 case h_2=>cases c
 rename_i d es f B;cases u:HD T E d k with
 |false=>simp[u]at c
 |true=>
  simp only[u,we]at c;obtain⟨l,q,o⟩:∃l:List MapEntry,Di p es l/\(yq t A x ok).run P w=((yk E x l).run P w).andThen fun r w'=>
    match r with
    |some (_,v)=>.ok (if ok then .tuple #[v,.bool true]else v) w'
    |none=>((zeroValue e).run P w').andThen fun z w'=>.ok (if ok then .tuple #[z,.bool false]else z) w':=by
   rcases Lm N L B with⟨rfl,rfl⟩|⟨r,l,Q,b,n,rfl,rfl,S,U,J,M⟩
   ·refine⟨[],.nil,?_⟩;unfold yq;simp only[zd,Aw g I,zc,zf,IN g f s u];congr 1;funext r w'
    cases r<;>simp
   ·refine⟨l.toList,M,?_⟩;unfold yq;simp only[zd,Aw g I,zc,zf,IN g f s u,getObj,zQ,J];congr 1;funext r w'
    cases r<;>simp
  rw[o];split at c
  case h_3=>cases c
  case h_1=>
   rename_i j v0 y;cases c;obtain⟨K,D,v',rfl,F,_⟩:=run_findKey (P:=P) (w:=w) g s f q y;simp only[D,zc];cases ok
   ·exact⟨v',by simp,by simpa using F⟩
   ·exact⟨.tuple #[v',.bool true],by simp,by simp only[we,Ab];exact⟨_,rfl,by simp[F,Ab]⟩⟩
  case h_2=>
   rename_i y;split at c
   case h_2=>cases c
   rename_i i O;cases c;obtain⟨K,D,G⟩:=run_findKey (P:=P) (w:=w) g s f q y;simp only at G;subst G;obtain⟨z,hz,hzr⟩:=nP g O;simp only[D,zc,hz];cases ok
   ·exact⟨z,by simp,by simpa using hzr p⟩
   ·exact⟨.tuple #[z,.bool false],by simp,by simp only[we,Ab];exact⟨_,rfl,by simp[hzr p,Ab]⟩⟩
def U1(es:List (V×V×Nat))(i:Nat)(k v:V):List (V×V×Nat):=es.modify i fun e=>(k,v,e.2.2)
theorem Di.modify{es:List (V×V×Nat)}{l:List MapEntry}(r:Di p es l){k v:V}{d v':Value}(o:Ab p k d)(q:Ab p v v')(i:Nat):
  Di p (U1 es i k v) (l.modify i fun e=>{ e with key:=d,val:=v' }):=by
 unfold U1;induction r generalizing i with
 |nil=>simp;exact .nil
 |@cons a x b es e l f m c g s=>
  cases i with
  |zero=>simp;exact .cons o q c g
  |succ i=>simp;exact .cons f m c<|s i
theorem Di.snoc{es:List (V×V×Nat)}{l:List MapEntry}(o:Di p es l){k v:V}{e:MapEntry}(g:Ab p k e.key)(m:Ab p v e.val):Di p (es++[(k,v,e.born)]) (l++[e]):=by
 induction o with
 |nil=>exact .cons g m rfl .nil
 |cons b f d _ c=>exact .cons b f d c
def G6(T:BR)(h:H)(t:TypeId)(m k v:V):Option H:=
 match T.und t,m with
 |some (.map c _),.map b=>
  match T.und c,h.get b with
  |some d,some (.map es f)=>
   bif HD T c d k then
    match Ju T c k es with
    |some (some (i,_))=>some<|h.put b<|.map (U1 es i k v) f
    |some none=>some<|h.put b<|.map (es++[(k,v,f)])<|f+1
    |none=>none
   else none
  |_,_=>none
 |_,_=>none
theorem TJ(u:T.Ok P)(G:R p h w){t:TypeId}{m k v:V}{J s v':Value}(L:Ab p m J)(g:Ab p k s)(M:Ab p v v'){h':H}(c:G6 T h t m k v=some h'):
  ∃w',(Instr.mapUpdate t J s v').run P w=.ok () w'/\Ext p h w p h' w':=by
 unfold G6 at c;split at c
 case h_2=>cases c
 rename_i N e b W;split at c
 case h_2=>cases c
 rename_i d es x f y;cases B:HD T N d k with
 |false=>simp[B]at c
 |true=>
  simp only[B,we]at c;rcases Lm (es:=es) G L (by simp only[entries,y])with⟨rfl,_⟩|⟨r,l,X,b',n,Q,rfl,I,o,E,A⟩
  ·simp[Ab]at L
  ·cases Q;rw[y]at o;cases o;unfold Instr.mapUpdate;simp only[zd,Aw u W,zc,IN u f g B,getObj,zQ,E];split at c
   case h_3=>cases c
   case h_1=>
    rename_i j v0 D;cases c;obtain⟨S,F,v1,rfl,Z,U,Y,O⟩:=run_findKey (P:=P) (w:=w) u g f A D;simp only[F,zc];have q:(l[j]?.map (·.key)).getD s=s:=by
     have:l[j]?=some U:=by simpa using Y
     simp[this,O]
    rw[q];unfold Instr.keyThatStays;simp only[UK g B,wk,zd,zf,zc,setObj,zQ,E];refine⟨_,rfl,yw G y I (o':=.map (U1 es j k v) x) ⟨_,rfl,?_⟩ rfl rfl rfl rfl⟩;have:=A.modify g M j;simpa using this
   case h_2=>
    rename_i D;cases c;obtain⟨S,F,K⟩:=run_findKey (P:=P) (w:=w) u g f A D;simp only at K;subst K;simp only[F,zc,setObj,zQ,E];refine⟨_,rfl,yw G y I (o':=.map (es++[(k,v,x)])<|x+1) ⟨_,rfl,?_⟩ rfl rfl rfl rfl⟩;have:=A.snoc (e:={ key:=s,val:=v',born:=x }) g M;simpa using this
def G0(T:BR)(h:H)(t:TypeId)(x:V):Option (V×H):=
 match T.und t,x with
 |some (.map _ _),.nilm=>some (.ptr h.nx 0,h.push<|.miter none 0 [] 0)
 |some (.map _ _),.map b=>match h.get b with
  |some (.map _ c)=>some (.ptr h.nx 0,h.push<|.miter (some b) c [] c)
  |_=>none
 |_,_=>Qw T h t x
theorem TU(m:T.Ok P)(d:R p h w){t:TypeId}{x:V}{x':Value}(f:Ab p x x'){v:V}{h':H}(c:G0 T h t x=some (v,h')):
  ∃v' p' w',(yi t x').run P w=.ok v' w'/\Ab p' v v'/\Ext p h w p' h' w':=by
 unfold G0 at c;split at c
 case h_1=>
  rename_i s;cases c;simp only[Ab]at f;subst f;have q:=yo (n:=0) d (o:=.miter none 0 [] 0) (x:=.mapIter none 0 #[] 0) rfl;refine⟨.pointer<|some ⟨w.heap.size,0,none⟩,_,_,?_,?_,q⟩
  ·unfold yi;simp only[zd,Aw m s,zc,zf,run_newObj]
  ·simp only[Ab];exact⟨w.heap.size,0,by rw[<-d.len];simp,rfl⟩
 case h_2=>
  rename_i b s;split at c
  case h_2=>cases c
  rename_i es g u;cases c;simp only[Ab]at f;obtain⟨r,n,k,rfl⟩:=f;obtain⟨r',n',o,h1,h2,l,h3,h4⟩:=d.obj _ _ u;rw[k]at h1;cases h1;subst h3;have y:(p++[(w.heap.size,0)])[b]?=some (r,n):=by rw[zT (zx.1 k).1];exact k
  have q:=yo (n:=0) d (o:=.miter (some b) g [] g) (x:=.mapIter (some r) g #[] g) ⟨r,n,k,rfl⟩;refine⟨.pointer<|some ⟨w.heap.size,0,none⟩,_,_,?_,?_,q⟩
  ·unfold yi;simp only[zd,Aw m s,zc,zf,getObj,zQ,h2,run_newObj]
  ·simp only[Ab];exact⟨w.heap.size,0,by rw[<-d.len];simp,rfl⟩
 case h_3=>exact Xt m d f c
def Qu(h:H)(f:V)(c:Bool):Option (List<|V×H):=
 match f,c with
 | .ptr b 0,false=>
  match h.get b with
  |some (.miter none _ _ _)=>some [(.tup [.bool false],h)]
  |some (.miter (some m) since seen last)=>
   match h.get m with
   |some (.map es d)=>
    bif es.all (fun e=>zl e.2.2 since)&&zt since last then
     match es.filter (fun e=> !seen.contains e.2.2)with
     |[]=>some [(.tup [.bool false],h)]
     |left=>some (left.map fun e=>(.tup [.bool true,e.1,e.2.1],h.put b<|.miter (some m) since (seen++[e.2.2]) d))
    else none
   |_=>none
  |_=>none
 |_,_=>none
theorem Di.get{es:List (V×V×Nat)}{l:List MapEntry}(f:Di p es l):∀ {i:Nat} {e:MapEntry},l[i]?=some e->∃k v,es[i]?=some (k,v,e.born)/\Ab p k e.key/\Ab p v e.val:=by
 induction f with
 |nil=>intro i e h;simp at h
 |@cons k v b es o l c d g _ m=>
  intro i e h;cases i with
  |zero=>simp at h;subst h;exact⟨k,v,by simp[g],c,d⟩
  |succ i=>simp at h;simpa using m h
theorem Di.filter{es:List (V×V×Nat)}{l:List MapEntry}(m:Di p es l)(q:Nat->Bool):Di p (es.filter fun e=>q e.2.2) (l.filter fun e=>q e.born):=by
 induction m with
 |nil=>exact .nil
 |@cons k v b es o l f g c _ d=>
  simp only[List.filter_cons,c];cases q b with
  |false=>exact d
  |true=>exact .cons f g c d
theorem Di.all{es:List (V×V×Nat)}{l:List MapEntry}(c:Di p es l)(q:Nat->Bool):(es.all fun e=>q e.2.2)=l.all fun e=>q e.born:=by
 induction c with
 |nil=>rfl
 |@cons k v b es o l g m d _ f=>simp only[yx,d,f]
theorem Di.find{es:List (V×V×Nat)}{l:List MapEntry}(o:Di p es l)(q:Nat->Bool){e:V×V×Nat}(c:es.find? (fun e=>q e.2.2)=some e):∃d,l.find? (fun e=>q e.born)=some d/\Ab p e.1 d.key/\Ab p e.2.1 d.val:=by
 induction o with
 |nil=>simp at c
 |@cons k v b es r l g m s _ u=>
  simp only[List.find?_cons,s]at c ⊢;cases f:q b with
  |false=>simp only[f]at c ⊢;exact u c
  |true=>simp only[f]at c ⊢;cases c;exact⟨r,rfl,g,m⟩
theorem ZZ(n:Nat)(c:0<n):∃i d,(choose<|.mapNext n).run P w=.ok i { w with drawn:=d }/\i<n:=by
 rw[run_choose];by_cases b:n<=1
 ·refine⟨0,w.drawn,?_,c⟩;simp[yd,b]
 ·refine⟨w.tape w.drawn (.mapNext n) % n,w.drawn+1,?_,Nat.mod_lt _ c⟩;simp[yd,b,Question.cut]
theorem X3(A:R p h w){it:V}{I:Value}{q:Bool}{t:TypeId}(hx:Ab p it I){l:List (V×H)}(f:Qu h it q=some l):
  ∃v h' v' p' w',(v,h')∈l/\(yp I q t).run P w=.ok v' w'/\Ab p' v v'/\Ext p h w p' h' w':=by
 unfold Qu at f;split at f
 case h_2=>cases f
 rename_i b;simp only[Ab]at hx;obtain⟨r,n,Q,rfl⟩:=hx;split at f
 case h_3=>cases f
 case h_1=>
  rename_i since seen last M;cases f;obtain⟨r',n',x,B,K,G⟩:=A.obj _ _ M;rw[Q]at B;cases B;simp only[GD]at G;subst G;refine⟨_,_,.tuple #[.bool false],p,w,zy.2 rfl,?_,by simp[Ab],zu A⟩;unfold yp;simp only[zd,getObj,zQ,K,zc];rfl
 case h_2=>
  rename_i m since seen last M;split at f
  case h_2=>cases f
  rename_i es O hm;cases N:(es.all (fun e=>zl e.2.2 since)&&zt since last)with
  |false=>simp[N]at f
  |true=>
   simp only[N,we]at f;simp only[zq,zO]at N;obtain⟨c1,c2⟩:=N;obtain⟨r',n',x,B,K,G⟩:=A.obj _ _ M;rw[Q]at B;cases B;simp only[GD]at G;obtain⟨rm,nm,hpm,rfl⟩:=G;obtain⟨r2,n2,x2,k1,k2,l2,k3,k4⟩:=A.obj _ _ hm;rw[hpm]at k1;cases k1;subst k3;rw[k4.all fun b=>zl b since]at c1;have s:∀e∈l2.toList,e.born<since:=by
    intro e y;have:=List.all_eq_true.1 c1 e y;simpa using this
   have U:(!seen.toArray.isEmpty&& !l2.isEmpty&&l2.all (·.born>=last))=false:=by
    cases Z:l2.toList with
    |nil=>
     have:l2= #[]:=zm.1 Z;simp[this]
    |cons W rest=>
     have X:W∈l2.toList:=by rw[Z];simp
     have h0:=s W X;have:l2.all (·.born>=last)=false:=by
      rw[<-Array.all_toList,Z,yx];have:(decide (W.born>=last))=false:=by simp;omega
      rw[this];rfl
     rw[this];simp
   have o:(l2.filter fun e=> !seen.toArray.contains e.born).toList=l2.toList.filter fun e=> !seen.contains e.born:=by
    simp
   have c:=k4.filter fun b=> !seen.contains b
   have e1:((l2.filter fun e=> !seen.toArray.contains e.born).filter (·.born<since))=l2.filter fun e=> !seen.toArray.contains e.born:=by
    apply zm.1;rw[Array.toList_filter,List.filter_eq_self];intro e y;rw[o]at y;simpa using s e ((List.mem_filter.1 y).1)
   have e2:((l2.filter fun e=> !seen.toArray.contains e.born).filter (·.born>=since))= #[]:=by
    apply zm.1;rw[Array.toList_filter];simp only[List.filter_eq_nil_iff];intro e y;rw[o]at y;have:=s e<|(List.mem_filter.1 y).1;simp;omega
   unfold yp;simp only[zd,getObj,zQ,K,zc,k2];rw[wc<|by rw[U];simp];simp only[e1,e2,Array.append_empty];generalize hL:(l2.filter fun e=> !seen.toArray.contains e.born)=L at*;rw[<-o]at c;have u:=c.length;split at f
   case h_1=>
    rename_i J;cases f;have S:L= #[]:=by
     apply zm.1;apply yn.1;rw[<-u,J];rfl
    subst S;refine⟨_,_,.tuple #[.bool false],p,w,zy.2 rfl,?_,by simp[Ab],zu A⟩;simp[zd,yd]
   case h_2=>
    rename_i left Y;cases f;have g:0<L.size:=by
     have:L.toList.length=L.size:=by simp
     rw[<-this, <-u];cases hq:es.filter (fun e=> !seen.contains e.2.2)with
     |nil=>exact wh hq Y
     |cons _ _=>simp
    have E:L.isEmpty=false:=by simp[Array.isEmpty];intro h0;rw[h0]at g;simp at g
    simp only[E,zM,vf,Array.empty_append,Array.size_map];obtain⟨i,d,g1,g2⟩:=ZZ (P:=P) (w:=w) L.size g;simp only[zd,g1,zc];have hi:L[i]?=some L[i]:=by simp[g2]
    obtain⟨k,v,q1,q2,q3⟩:=c.get (i:=i) (e:=L[i]) (by simp[g2]);simp only[Array.getElem?_map,hi,ye,zd];have D:=yt A d;have F:=yw D.rel M Q (o':=.miter (some m) since (seen++[L[i].born]) O) (x':=.mapIter (some rm) since (seen.toArray.push L[i].born) O) ⟨rm,nm,hpm,by simp⟩
     (w':={ { w with drawn:=d }with heap:=w.heap.setIfInBounds r (.mapIter (some rm) since (seen.toArray.push L[i].born) O) }) rfl rfl rfl rfl
    refine⟨.tup [.bool true,k,v],_,.tuple #[.bool true,L[i].key,L[i].val],p,_,List.mem_map.2 ⟨(k,v,L[i].born),List.mem_of_getElem? q1,rfl⟩,?_,?_,D.trans F⟩
    ·simp[setObj,zQ,K]
    ·simp only[Ab];exact⟨_,rfl,by simp[Ab,q2,q3]⟩
def RM(h:H)(d:V):Option V:=
 match d with
 | .ptr b 0=>
  match h.get b with
  |some (.miter (some m) _ seen last)=>
   match h.get m with
   |some (.map es c)=>
    bif zh c last then
     match seen.getLast? with
     |some s=>match es.find? (fun e=>zh e.2.2 s)with
      |some e=>some<|.tup [e.1,e.2.1]
      |none=>none
     |none=>none
    else none
   |_=>none
  |_=>none
 |_=>none
theorem XO(u:R p h w){q:V}{k:Value}(l:Ab p q k){v:V}(c:RM h q=some v):∃v',(Instr.entry k).run P w=.ok v' w/\Ab p v v':=by
 unfold RM at c;split at c
 case h_2=>cases c
 rename_i b;simp only[Ab]at l;obtain⟨r,n,G,rfl⟩:=l;split at c
 case h_2=>cases c
 rename_i m since seen last I;split at c
 case h_2=>cases c
 rename_i es E D;rw[Bf]at c;by_cases g:E=last
 ·simp only[g,decide_true,we]at c;split at c
  case h_2=>cases c
  rename_i s y;split at c
  case h_2=>cases c
  rename_i e B;cases c;obtain⟨J,n',x,o,F,A⟩:=u.obj _ _ I;rw[G]at o;cases o;simp only[GD]at A;obtain⟨rm,nm,hpm,rfl⟩:=A;obtain⟨r2,n2,x2,k1,k2,l2,k3,k4⟩:=u.obj _ _ D;rw[hpm]at k1;cases k1;subst k3;obtain⟨e',q1,q2,q3⟩:=k4.find (fun b=>zh b s) B;refine⟨.tuple #[e'.key,e'.val],?_,by simp only[Ab];exact⟨_,rfl,by simp[q2,q3]⟩⟩;unfold Instr.entry;have d:seen.toArray.back?=some s:=by rw[Array.back?_eq_getElem?];simp[List.getLast?_eq_getElem?]at y ⊢;exact y
  have f:l2.find? (fun e=>e.born==s)=some e':=by
   rw[<-Array.find?_toList, <-q1];congr 1;funext e
   rw[Bf];rw[Bool.eq_iff_iff];simp
  simp only[zd,getObj,zQ,F,zc,k2,d,g,bne_self_eq_false,zM,vf,f,zf]
 ·simp[g]at c
theorem Di.erase{es:List (V×V×Nat)}{l:List MapEntry}(g:Di p es l)(i:Nat):Di p (es.eraseIdx i) (l.eraseIdx i):=by
 induction g generalizing i with
 |nil=>simp;exact .nil
 |@cons k v b es q l c f m d o=>
  cases i with
  |zero=>simpa using d
  |succ i=>simp;exact .cons c f m<|o i
def Kb(T:BR)(h:H)(ts:Array TypeId)(args:List V):Option (V×H):=
 match ts[0]?,args with
 |some g,[.map b,k]=>
  match T.und g with
  |some (.map c _)=>
   match T.und c,h.get b with
   |some d,some (.map es f)=>
    bif HD T c d k then
     match Ju T c k es with
     |some (some (i,_))=>some (.tup [],h.put b<|.map (es.eraseIdx i) f)
     |some none=>some (.tup [],h.put b<|.map es f)
     |none=>none
    else none
   |_,_=>none
  |_=>none
 |_,_=>none
theorem TK(o:T.Ok P)(F:R p h w){ts:Array TypeId}{t:TypeId}{args:List V}{args':Array Value}(N:Aq p args args'.toList){v:V}{h':H}(c:Kb T h ts args=some (v,h')):
  ∃v' p' w',(Builtin.delete_ ts t args').run P w=.ok v' w'/\Ab p' v v'/\Ext p h w p' h' w':=by
 unfold Kb at c;split at c
 case h_2=>cases c
 rename_i mt b k L;obtain⟨O,X,f,K,B⟩:=N.two;have G:args'[0]?=some O:=by rw[<-zn,f];rfl
 have D:args'[1]?=some X:=by rw[<-zn,f];rfl
 split at c
 case h_2=>cases c
 rename_i M e U;split at c
 case h_2=>cases c
 rename_i d es q g s;cases E:HD T M d k with
 |false=>simp[E]at c
 |true=>
  simp only[E,we]at c;rcases Lm (es:=es) F K (by simp only[entries,s])with⟨rfl,_⟩|⟨r,l,W,b',n,Q,rfl,I,m,y,u⟩
  ·simp[Ab]at K
  ·cases Q;rw[s]at m;cases m;unfold Builtin.delete_;simp only[L,G,D,zd,Aw o U,zc,getObj,zQ,y,IN o g B E];split at c
   case h_3=>cases c
   case h_1=>
    rename_i j v0 x;cases c;obtain⟨S,A,v1,rfl,Z,en,k4,Y⟩:=run_findKey (P:=P) (w:=w) o B g u x;refine⟨.tuple #[],p,{ w with heap:=w.heap.setIfInBounds r (.map (l.eraseIdxIfInBounds j) q) },?_,by simp[Ab],yw F s I (o':=.map (es.eraseIdx j) q) ⟨_,rfl,?_⟩ rfl rfl rfl rfl⟩
    ·simp only[A,zc];simp[setObj,zQ,y]
    ·have:=u.erase j;simpa using this
   case h_2=>
    rename_i x;cases c;obtain⟨S,A,J⟩:=run_findKey (P:=P) (w:=w) o B g u x;simp only at J;subst J;refine⟨.tuple #[],p,{ w with heap:=w.heap.setIfInBounds r (.map l q) },?_,by simp[Ab],yw F s I (o':=.map es q) ⟨_,rfl,u⟩ rfl rfl rfl rfl⟩;simp only[A,zc];simp[setObj,zQ,y]
def E5(T:BR)(h:H)(ts:Array TypeId)(args:List V):Option (V×H):=
 match ts[0]?,args with
 |some t,[x]=>
  match T.und t,x with
  |some (.map _ _),.nilm=>some (.tup [],h)
  |some (.map _ _),.map b=>match h.get b with
   |some (.map _ c)=>some (.tup [],h.put b<|.map [] c)
   |_=>none
  |some (.slice _),.nils=>some (.tup [],h)
  |some (.slice _),.esl=>some (.tup [],h)
  |some (.slice _),.es0=>some (.tup [],h)
  |some (.slice e),.sl b off len _ _=>
   bif zh len 0 then some (.tup [],h)
   else match T.inf e with
    |some i=>bif zl 0 i.zero.length then
      (wr h b off<|Es i.zero<|len*i.zero.length).map fun h'=>(.tup [],h')
     else none
    |none=>none
  |_,_=>none
 |_,_=>none
theorem Xr(q:T.Ok P)(s:R p h w){ts:Array TypeId}{t:TypeId}{args:List V}{args':Array Value}(L:Aq p args args'.toList){v:V}{h':H}(d:E5 T h ts args=some (v,h')):
  ∃v' p' w',(Builtin.clear_ ts t args').run P w=.ok v' w'/\Ab p' v v'/\Ext p h w p' h' w':=by
 unfold E5 at d;split at d
 case h_2=>cases d
 rename_i t0 x K;obtain⟨x',u,f⟩:=L.one;have E:args'[0]?=some x':=by rw[<-zn,u];rfl
 unfold Builtin.clear_;simp only[K,E];split at d
 case h_7=>cases d
 case h_1=>
  rename_i g;cases d;simp only[Ab]at f;subst f;exact⟨.tuple #[],p,w,by simp[Aw q g],by simp[Ab],zu s⟩
 case h_2=>
  rename_i b g;split at d
  case h_2=>cases d
  rename_i es G I;cases d;simp only[Ab]at f;obtain⟨r,n,A,rfl⟩:=f;obtain⟨r',n',o,B,h2,l,h3,h4⟩:=s.obj _ _ I;rw[A]at B;cases B;subst h3;refine⟨.tuple #[],p,{ w with heap:=w.heap.setIfInBounds r (.map #[] G) },?_,by simp[Ab],yw s I A (o':=.map [] G) ⟨_,rfl,.nil⟩ rfl rfl rfl rfl⟩;simp[zd,Aw q g,getObj,setObj,zQ,h2]
 case h_3=>
  rename_i e g;cases d;simp only[Ab]at f;subst f;exact⟨.tuple #[],p,w,by simp[Aw q g],by simp[Ab],zu s⟩
 case h_4=>
  rename_i e g;cases d;simp only[Ab]at f;obtain⟨_,_,rfl⟩:=f;exact⟨.tuple #[],p,w,by simp[Aw q g],by simp[Ab],zu s⟩
 case h_5=>
  rename_i e g;cases d;simp only[Ab]at f;obtain⟨_,rfl⟩:=f;exact⟨.tuple #[],p,w,by simp[Aw q g],by simp[Ab],zu s⟩
 case h_6=>
  rename_i e b off len cap o g;simp only[Ab]at f;obtain⟨r,n,c,A,rfl,_⟩:=f;rw[Bf]at d;by_cases h0:len=0
  ·simp only[h0,decide_true,we,ze,zo]at d;obtain⟨rfl,rfl⟩:=d;subst h0;exact⟨.tuple #[],p,w,by simp[Aw q g],by simp[Ab],zu s⟩
  ·simp only[h0,decide_false,wg]at d;split at d
   case h_2=>cases d
   rename_i i O;cases D:zl 0 i.zero.length with
   |false=>simp[D]at d
   |true=>
    simp only[D,we,zg]at d;obtain⟨B,M,N⟩:=d;cases N;obtain⟨z,hzz,hzr⟩:=DO q O;have F:=(hzr p).length;have y:=IE (hzr p) (by simpa using D)<|len*i.zero.length;obtain⟨r',m,w',g1,g2,g3⟩:=Rb (P:=P) s y M;rw[A]at g1;cases g1;refine⟨.tuple #[],p,w',?_,by simp[Ab],g3⟩;have:zi z.cells len=(Array.range<|len*i.zero.length).map (fun i=>z.cells[i % z.cells.size]!):=by
     unfold zi;rw[F];simp
    obtain⟨J,rfl⟩:∃k,len=k+1:=⟨len-1,by omega⟩;simp only[zd,Aw q g,zc,hzz,this,g2,zf]
def qW(T:BR)(ts:Array TypeId)(args:List V):Option V:=
 match ts[0]?,args with
 |some t,[x]=>
  match T.und t,x with
  |some (.slice _),.sl _ _ _ cap 0=>some<|i64 cap
  |some (.slice _),.nils=>some<|i64 0
  |_,_=>none
 |_,_=>none
theorem iR(m:T.Ok P){ts:Array TypeId}{t:TypeId}{args:List V}{args':Array Value}(q:Aq p args args'.toList){v:V}(d:qW T ts args=some v):
  ∃v',(Builtin.cap_ ts t args').run P w=.ok v' w/\Ab p v v':=by
 unfold qW at d;split at d
 case h_2=>cases d
 rename_i t0 x o;obtain⟨x',f,g⟩:=q.one;have k:args'[0]?=some x':=by rw[<-zn,f];rfl
 unfold Builtin.cap_;simp only[o,k];split at d
 case h_3=>cases d
 case h_1=>
  rename_i e b off len cap l;cases d;simp only[Ab]at g;obtain⟨r,n,c,B,rfl,u,A,s,y⟩:=g;have:=s trivial;subst this;exact⟨_,by simp[zd,Aw m l];rfl,by simp[Ab,i64,goInt]⟩
 case h_2=>
  rename_i e l;cases d;simp only[Ab]at g;subst g;exact⟨_,by simp[zd,Aw m l];rfl,by simp[Ab,i64,goInt]⟩
def Q8(T:BR)(h:H)(src dst:TypeId)(x:V):Option (V×H):=
 match T.und src,T.und dst,x with
 |some .string,some<|.slice e,.str s=>
  match T.und e with
  |some (.int .u8)=>some (.sl h.nx 0 s.length s.length 1,h.push<|.cells (s.map fun b=>.int .u8<|.ofNat b.toNat) e (0,0))
  |_=>none
 |_,_,_=>none
theorem Yc(r:T.Ok P)(B:R p h w){src dst:TypeId}{x:V}{x':Value}(y:Ab p x x'){v:V}{h':H}(f:Q8 T h src dst x=some (v,h')):
  ∃v' p' w',(convert src dst x').run P w=.ok v' w'/\Ab p' v v'/\Ext p h w p' h' w':=by
 unfold Q8 at f;split at f
 case h_2=>cases f
 rename_i e s D F;split at f
 case h_2=>cases f
 rename_i J;cases f;simp only[Ab]at y;subst y;have g:=run_bytes_of_string (P:=P) w src dst e (bytesOf s) (r.und _ _ D) (r.und _ _ F)<|r.und _ _ J;generalize I:grownCap w (bytesOf s).size 0 e=c at g;have q:s.length<=c:=by
  rw[<-I,Bv];unfold grownCap;simp[Question.cut]
 have k:(bytesRow (bytesOf s) c).size=c:=by
  have:(bytesRow (bytesOf s) c).size=(bytesOf s).size+(c-(bytesOf s).size):=by
   unfold bytesRow;rw[yg,Array.size_map,Array.size_replicate];rfl
  rw[this,Bv];omega
 have m:=yt B<|w.drawn+1;have G:=yo (n:=c) m.rel (o:=.cells (s.map fun b=>.int .u8<|.ofNat b.toNat) e (0,0)) (x:=.cells (bytesRow (bytesOf s) c) e ((bytesRow (bytesOf s) c).size,(bytesRow (bytesOf s) c).size+1)) (by
  refine⟨_,_,rfl,k,by simpa using q,?_,fun i u E K=>by simp only[k]at E;omega⟩;refine Aq.uT<|Aq.mk ?_ ?_
  ·have:=k;simp at this ⊢;omega
  ·intro i d v f l;simp only[List.length_map]at l;simp only[zP,zg]at f;obtain⟨b,A,rfl⟩:=f;have u:=(zx.1 A).1;rw[zp u]at l;simp only[bytesRow,Array.toList_append,Array.toList_map,bytesOf]at l;rw[zT<|by simpa using u]at l;simp only[zP,A,ye,ze]at l;subst l;simp[Ab])
 refine⟨_,_,_,g,?_,m.trans G⟩;simp only[Ab];refine⟨w.heap.size,c,c,by rw[<-B.len];simp,by rw[Bv],zV _,q,fun h=>(by cases h),fun _=>(by omega)⟩
def D7(T:BR)(h:H)(s d:TypeId)(x:V):Option V:=
 match T.und s,T.und d,x with
 |some (.pointer _),some .unsafePointer,.nilp=>some .nilp
 |some .unsafePointer,some<|.pointer _,.nilp=>some .nilp
 |some (.pointer t),some .unsafePointer,.ptr b off=>
  match T.inf t,h.get b with
  |some i,some (.cells cs _ _)=>bif zl 0 i.size&&zl off cs.length then some (.ptr b off)else none
  |_,_=>none
 |some .unsafePointer,some<|.pointer u,.ptr b off=>
  match T.inf u,h.get b with
  |some i,some (.cells cs e _)=>bif zl 0 i.size&&zt i.size cs.length&&zh e u&&zh off 0 then some (.ptr b 0)else none
  |_,_=>none
 |_,_,_=>none
theorem Tu(l:R p h w){b:Nat}{cs:List V}{t:TypeId}{fz:Nat×Nat}(k:h.get b=some (.cells cs t fz)):
  ∃r n,p[b]?=some (r,n)/\w.shape? r=some (t,n)/\cs.length<=n:=by
 obtain⟨r,n,x,d,g,c,fz',rfl,f,m,_⟩:=l.obj b _ k;exact⟨r,n,d,by simp[World.shape?,g,f],m⟩
theorem Xo{u:TypeId}(c:P.cellsOf u≠0)(k:Nat)(d:1<=k):liesAt P P.depth u k 0 u 1=true:=by
 have b:P.depth=(2*(P.types.size+Made.depth)+1)+1:=rfl;rw[b];simp only[liesAt,yr];left;rw[b];simp[rowAt,c,d,sameLayout]
theorem gQ(f:T.Ok P)(D:R p h w){s d:TypeId}{x:V}{x':Value}(g:Ab p x x'){v:V}(c:D7 T h s d x=some v):
  ∃v',(convert s d x').run P w=.ok v' w/\Ab p v v':=by
 unfold D7 at c;split at c
 case h_5=>cases c
 case h_1=>
  rename_i l m;simp only[Ab]at g;subst g;cases c;refine⟨.pointer none,?_,by simp[Ab]⟩;simp[convert,Aw f l,Aw f m,Conv.unsafePointer]
 case h_2=>
  rename_i l m;simp only[Ab]at g;subst g;cases c;refine⟨.pointer none,?_,by simp[Ab]⟩;simp[convert,Aw f l,Aw f m,Conv.unsafePointer]
 case h_3=>
  rename_i t b off l m;split at c
  case h_2=>cases c
  rename_i i cs e fz A y;cases k:(zl 0 i.size&&zl off cs.length)with
  |false=>rw[k]at c;cases c
  |true=>
   rw[k]at c;cases c;simp only[zq,z7]at k;obtain⟨j,z,o,B,_⟩:=f.inf t i A;obtain⟨r,n,k1,k2,k3⟩:=Tu D y;simp only[Ab]at g;obtain⟨r',n',q1,rfl⟩:=g;rw[k1]at q1;cases q1;refine⟨_,Lib.run_to_unsafe w ⟨r,off,none⟩ (f.und _ _ l) (f.und _ _ m) o (by omega) k2 (by show off<n;omega),?_⟩;simp only[Ab];exact⟨r,n,k1,rfl⟩
 case h_4=>
  rename_i u b off l m;split at c
  case h_2=>cases c
  rename_i i cs e fz A y;cases k:(zl 0 i.size&&zt i.size cs.length&&zh e u&&zh off 0)with
  |false=>rw[k]at c;cases c
  |true=>
   rw[k]at c;cases c;simp only[zq,z7,zO,Bf,w5]at k;obtain⟨⟨⟨F,G⟩,rfl⟩,rfl⟩:=k;obtain⟨j,z,o,B,_⟩:=f.inf e i A;obtain⟨r,n,k1,k2,k3⟩:=Tu D y;simp only[Ab]at g;obtain⟨r',n',q1,rfl⟩:=g;rw[k1]at q1;cases q1;have q:P.cellsOf e=i.size:=by simp[Program.cellsOf,o,B]
   have E:1<=n/P.cellsOf e:=by rw[q];exact Nat.div_pos (by omega) F
   refine⟨_,Lib.run_from_unsafe w ⟨r,0,none⟩ (f.und _ _ l) (f.und _ _ m) o k2 (Xo (by omega) _ E),?_⟩;simp only[Ab];exact⟨r,n,k1,rfl⟩
def OJ(args:List V):Option V:=
 match args with
 |[.nils]=>some .nilp
 |[.sl b off _ cap _]=>bif zl 0 cap then some (.ptr b off)else none
 |_=>none
theorem Yi{ts:Array TypeId}{t:TypeId}{args:List V}{args':Array Value}(l:Aq p args args'.toList){v:V}(d:OJ args=some v):
  ∃v',(Builtin.unsafeSliceData_ ts t args').run P w=.ok v' w/\Ab p v v':=by
 unfold OJ at d;split at d
 case h_3=>cases d
 case h_1=>
  cases d;obtain⟨x,k,f⟩:=l.one;have:args'= #[x]:=zm.1 k;subst this;simp only[Ab]at f;subst f;exact⟨_,Lib.run_unsafeSliceData_nil w ts t 0 0,by simp[Ab]⟩
 case h_2=>
  rename_i b off len cap o;cases g:zl 0 cap with
  |false=>rw[g]at d;cases d
  |true=>
   rw[g]at d;cases d;rw[z7]at g;obtain⟨x,k,f⟩:=l.one;have:args'= #[x]:=zm.1 k;subst this;simp only[Ab]at f;obtain⟨r,n,c,g1,rfl,g2,g3,_⟩:=f;exact⟨_,Lib.run_unsafeSliceData_row w ts t _ len c (by omega),by simp only[Ab];exact⟨r,n,g1,rfl⟩⟩
def RB:V->Option UInt8
 | .int .u8 (.ofNat n)=>bif zl n 256 then some (UInt8.ofNat n)else none
 |_=>none
def FL:List V->Option Z
 |[]=>some []
 |v::vs=>
  match RB v,FL vs with
  |some b,some c=>some (b::c)
  |_,_=>none
theorem ZN{c:V}{b:UInt8}(h:RB c=some b):c=.int .u8 (b.toNat:Int):=by
 unfold RB at h;split at h
 case h_2=>cases h
 rename_i n;cases d:zl n 256 with
 |false=>rw[d]at h;cases h
 |true=>
  rw[d]at h;cases h;rw[z7]at d;have:(UInt8.ofNat n).toNat=n:=by simp;omega
  rw[this];rfl
theorem Ky:∀ {cs:List V} {l:Z},FL cs=some l->cs=l.map fun b=>V.int .u8 (b.toNat:Int)
 |[],l,d=>by cases d;rfl
 |c::cs,l,d=>by
  unfold FL at d;split at d
  case h_2=>cases d
  rename_i b tl g f;cases d;rw[ZN g,Ky f];rfl
def PZ(T:BR)(h:H)(ts:List TypeId)(args:List V):Option (V×H):=
 match ts,args with
 |[c,_],[.ptr b 0,.int .i64<|.ofNat n]=>
  match T.und c,h.get b with
  |some (.pointer e),some (.cells cs d fz)=>
   match T.inf e,FL (cs.take n)with
   |some i,some l=>bif zh i.size 1&&zh e d&&zl 0 n&&zt n cs.length&&zt n 9223372036854775807&&zt fz.2 fz.1 then some (.str l,h.kill b)else none
   |_,_=>none
  |_,_=>none
 |_,_=>none
theorem Ext.gone{w':World}(k:R p h w){b r n:Nat}{o:O}{x':Obj}(x:h.get b=some o)(q:p[b]?=some (r,n))
  (l:w'.heap=w.heap.setIfInBounds r x') (F:w'.os=w.os) (G:w'.output=w.output) (M:w'.tape=w.tape) (J:∀cs t fz,o=.cells cs t fz->¬Lk n fz):Ext p h w p (h.kill b) w':=by
 refine⟨⟨[],by simp⟩,⟨k.len,fun c A g=>?_,(k.kill b).inj⟩,by simp[l],fun s I L=>?_,fun s N=>?_,F,G,M,fun s I K=>?_⟩
 ·rw[H.B0]at g;by_cases e:c=b
  ·rw[wd e]at g;cases g
  ·rw[wc e]at g;obtain⟨s,m,y,f,B,Q⟩:=k.obj c A g;refine⟨s,m,y,f,?_,Q⟩;have d:r≠s:=fun D=>e<|k.inj c b A o s m n g x f<|D▸q
   rw[l,zj d];exact B
 ·have d:r≠s:=fun e=>L<|e▸⟨b,o,n,x,q⟩
  rw[l,zj d]
 ·obtain⟨c,A,m,f,B⟩:=N;rw[H.B0]at f;split at f
  ·cases f
  ·exact .inl ⟨c,A,m,f,B⟩
 ·obtain⟨c,m,cs,t,fz,v,u,E⟩:=K;by_cases e:c=b
  ·subst e;rw[q]at u;cases u;rw[x]at v;cases v;exact wh E<|J cs t fz rfl
  ·have d:r≠s:=fun D=>e<|k.inj c b _ o s m n v x u<|D▸q
   refine⟨by rw[l,zj d],.inl ⟨c,m,cs,t,fz,by rw[H.B0,wc e];exact v,u,E⟩⟩
theorem So{w:World}{r n:Nat}{c:Array Value}{e:TypeId}{fz:Nat×Nat}(b:w.heap[r]?=some (.cells c e fz))(h0:n≠0):
  ∃fz',(w.freeze ⟨r,0,none⟩ n).heap=w.heap.setIfInBounds r (.cells c e fz'):=by
 refine⟨if fz.1==fz.2 then(0,0+n)else(min fz.1 0,max fz.2<|0+n),?_⟩;unfold World.freeze;rw[wc h0];dsimp only
 rw[NB b]
theorem YI(G:T.Ok P)(M:R p h w){ts:Array TypeId}{t:TypeId}{args:List V}{args':Array Value}(Q:Aq p args args'.toList){v:V}{h':H}(d:PZ T h ts.toList args=some (v,h')):
  ∃v' w',(Builtin.unsafeString_ ts t args').run P w=.ok v' w'/\Ab p v v'/\Ext p h w p h' w':=by
 unfold PZ at d;split at d
 case h_2=>cases d
 rename_i J I b n k;have k:ts= #[J,I]:=zm.1 k;subst k;split at d
 case h_2=>cases d
 rename_i e cs X fz O L;split at d
 case h_2=>cases d
 rename_i i l Y U;cases A:(zh i.size 1&&zh e X&&zl 0 n&&zt n cs.length&&zt n 9223372036854775807&&zt fz.2 fz.1)with
 |false=>rw[A]at d;cases d
 |true=>
  rw[A]at d;cases d;simp only[zq,z7,zO,Bf,w5]at A;obtain⟨⟨⟨⟨⟨c1,rfl⟩,c3⟩,c4⟩,c5⟩,c6⟩:=A;obtain⟨x,y,hargs,g1,g2⟩:=Q.two;have:args'= #[x,y]:=zm.1 hargs;subst this;simp only[Ab]at g1 g2;obtain⟨r,m,g1,rfl⟩:=g1;subst g2;obtain⟨r',m',ob,k1,k2,c,fz',rfl,k4,k5,k6,k7⟩:=M.obj b _ L;rw[g1]at k1;cases k1;obtain⟨j,z,j1,j2,_⟩:=G.inf e i Y;have D:P.cellsOf e=1:=by simp[Program.cellsOf,j1,j2,c1]
  have u:=Ky U;have f:l.length=n:=by
   have:=wi List.length u;rw[List.length_take,List.length_map]at this;omega
  have E:w.shape? r=some (e,m):=by simp[World.shape?,k2,k4]
  have g:∀j x,l[j]?=some x->w.cell? ((⟨r,0,none⟩:Addr).add j)=some (.int .u8 x.toNat):=by
   intro j x F;have hj:=(zx.1 F).1;have W:cs[j]?=some (.int .u8 (x.toNat:Int)):=by
    have:=wi (·[j]?) u;simp only[zP,F,ye]at this;rw[zp<|by omega]at this;exact this
   obtain⟨v,K,q⟩:=k6.get W rfl;simp only[Ab]at q;subst q;rw[zp<|by omega]at K;rw[Addr.G5];simp only[World.cell?,k2];simpa using K
  have s:=Lib.run_unsafeString_row w J I t e (G.und _ _ O) D r m E l (by intro h;subst h;simp at f;omega) (by omega) (by omega) g;obtain⟨N,B⟩:=So (n:=l.length) k2 (by omega);refine⟨.string<|bytesOf l,w.freeze ⟨r,0,none⟩ l.length,?_,by simp[Ab],?_⟩
  ·rw[<-f];exact s
  ·have o:(w.freeze ⟨r,0,none⟩ l.length).os=w.os/\(w.freeze ⟨r,0,none⟩ l.length).output=w.output/\(w.freeze ⟨r,0,none⟩ l.length).tape=w.tape:=by
    unfold World.freeze;split<;>exact⟨rfl,rfl,rfl⟩
   exact Ext.gone M L g1 B o.1 o.2.1 o.2.2 (by
    intro cs' t' fz' Z S;cases Z;obtain⟨q1,q2,q3⟩:=S;omega)
end
mutual
def cv:Value->Option V
 | .bool b=>some<|.bool b
 | .int k n=>some<|.int k n
 | .string s=>some<|.str s.data.toList
 | .pointer none=>some .nilp
 | .slice none 0 0=>some .nils
 | .map none=>some .nilm
 | .nilFunc=>some .nilf
 | .nilIface=>some .nili
 | .func f ⟨[]⟩ ⟨[]⟩=>some<|.fn f [] []
 | .agg ⟨cs⟩=>(mM cs).map .agg
 | .tuple ⟨cs⟩=>(mM cs).map .tup
 |_=>none
def mM:List Value->Option (List V)
 |[]=>some []
 |v::vs=>match cv v,mM vs with
  |some x,some xs=>some (x::xs)
  |_,_=>none
end
mutual
theorem TN(p:Pl):∀ {v:Value} {x:V},cv v=some x->Ab p x v
 | .bool b,x,h=>by simp[cv]at h;subst h;simp[Ab]
 | .int k n,x,h=>by simp[cv]at h;subst h;simp[Ab]
 | .string s,x,h=>by simp[cv]at h;subst h;simp[Ab,bytesOf]
 | .pointer none,x,h=>by simp[cv]at h;subst h;simp[Ab]
 | .pointer (some a),x,h=>by simp[cv]at h
 | .slice none 0 0,x,h=>by simp[cv]at h;subst h;simp[Ab]
 | .slice none 0 (_+1),x,h=>by simp[cv]at h
 | .slice none (_+1) _,x,h=>by simp[cv]at h
 | .slice (some a) _ _,x,h=>by simp[cv]at h
 | .map none,x,h=>by simp[cv]at h;subst h;simp[Ab]
 | .map (some a),x,h=>by simp[cv]at h
 | .nilFunc,x,h=>by simp[cv]at h;subst h;simp[Ab]
 | .nilIface,x,h=>by simp[cv]at h;subst h;simp[Ab]
 | .func f ⟨[]⟩ ⟨[]⟩,x,h=>by simp[cv]at h;subst h;simp[Ab]
 | .func f ⟨_::_⟩ _,x,h=>by simp[cv]at h
 | .func f ⟨[]⟩ ⟨_::_⟩,x,h=>by simp[cv]at h
 | .agg ⟨cs⟩,x,h=>by
  simp only[cv,zg]at h;obtain⟨xs,c,rfl⟩:=h;simp only[Ab];exact⟨_,rfl,RJ p c⟩
 | .tuple ⟨cs⟩,x,h=>by
  simp only[cv,zg]at h;obtain⟨xs,c,rfl⟩:=h;simp only[Ab];exact⟨_,rfl,RJ p c⟩
 | .float _ _,x,h=>by simp[cv]at h
 | .complex _ _ _,x,h=>by simp[cv]at h
 | .chan _,x,h=>by simp[cv]at h
 | .iface _ _,x,h=>by simp[cv]at h
theorem RJ(p:Pl):∀ {vs:List Value} {xs:List V},mM vs=some xs->Aq p xs vs
 |[],xs,h=>by simp[mM]at h;subst h;simp
 |v::vs,xs,h=>by
  unfold mM at h;split at h
  case h_2=>cases h
  rename_i x b c d;cases h;exact(A5 ..).2 ⟨TN p c,RJ p d⟩
end
structure Fn where
 ntmps:Nat
 results:Array ResultVar
 body:Code
 cert:Bool
structure Ctx where
 T:BR
 ng:Nat
 fn:FuncId->Option Fn
 prim:FuncId->Option (List V->H->Option (V×H))
 spec:FuncId->Option (List V->H->Option (V×H))
 mg:Bool
def Gl(_:Ctx)(p:Pl):Prop:=Gp p
theorem Gl.ext{C:Ctx}{p p':Pl}{h h':H}{w w':World}(b:Gl C p)(e:Ext p h w p' h' w'):Gl C p':=by
 obtain⟨q,rfl⟩:=e.pre;exact Gp.app b q
def ev(_:Ctx)(fr:Fr):Operand->Option V
 | .tmp t=>some<|fr.get t
 | .const v=>cv v
 | .global g=>bif uP g F5 then some (.ptr g 0)else none
 | .func f=>some<|.fn (.func f) [] []
theorem AY{C:Ctx}{p:Pl}{fr:Fr}{a:Act}(d:Gl C p)(k:Cr p fr a){x:Operand}{v:V}(b:ev C fr x=some v):Ab p v (a.eval x):=by
 cases x with
 |tmp t=>simp only[ev,ze]at b;subst b;exact k.2 t
 |const v=>exact TN p b
 |global g=>
  simp only[ev]at b;cases c:uP g F5 with
  |true=>
   rw[c]at b;simp only[we,ze]at b;subst b;obtain⟨o,l⟩:=VD c;simp only[Ab,Act.eval];exact⟨g,_,d _ l,rfl⟩
  |false=>rw[c]at b;cases b
 |func f=>simp only[ev,ze]at b;subst b;simp[Ab,Act.eval]
def PY(C:Ctx)(fr:Fr):List Operand->Option (List V)
 |[]=>some []
 |x::xs=>match ev C fr x,PY C fr xs with
  |some v,some vs=>some (v::vs)
  |_,_=>none
theorem IF{C:Ctx}{p:Pl}{fr:Fr}{a:Act}(b:Gl C p)(c:Cr p fr a):∀ {xs:List Operand} {vs:List V},PY C fr xs=some vs->Aq p vs (xs.map a.eval)
 |[],vs,h=>by simp[PY]at h;subst h;simp
 |x::xs,vs,h=>by
  unfold PY at h;split at h
  case h_2=>cases h
  rename_i v g d f;cases h;exact(A5 ..).2 ⟨AY b c d,IF b c f⟩
def TF(C:Ctx)(fr:Fr):Option Operand->Option (Option V)
 |none=>some none
 |some x=>(ev C fr x).map some
theorem MG{C:Ctx}{p:Pl}{fr:Fr}{a:Act}(c:Gl C p)(f:Cr p fr a){x:Option Operand}{v:Option V}(b:TF C fr x=some v):E9 p v (x.map a.eval):=by
 cases x with
 |none=>simp[TF]at b;subst b;rfl
 |some x=>
  simp only[TF,zg]at b;obtain⟨u,d,rfl⟩:=b;exact⟨_,rfl,AY c f d⟩
def UI(C:Ctx)(fr:Fr):List (Nat×Operand)->Option (List<|Nat×V)
 |[]=>some []
 |(i,x)::xs=>match ev C fr x,UI C fr xs with
  |some v,some vs=>some ((i,v)::vs)
  |_,_=>none
theorem MI{C:Ctx}{p:Pl}{fr:Fr}{a:Act}(b:Gl C p)(c:Cr p fr a):∀ {xs:List (Nat×Operand)} {vs:List (Nat×V)},UI C fr xs=some vs->SL p vs (xs.map fun(i,x)=>(i,a.eval x))
 |[],vs,h=>by simp[UI]at h;subst h;exact .nil
 |(i,x)::xs,vs,h=>by
  unfold UI at h;split at h
  case h_2=>cases h
  rename_i v g d f;cases h;exact .cons (AY b c d)<|MI b c f
inductive OR where
 |val (v:V) (h:H)
 |skip (h:H)
 |enter (f:FuncId) (args:List V)
 |round (b:Nat) (l:LS) (fr:Fr)
 |alts (l:List (V×H))
def Fr.XI(f:Fr)(t:Nat)(v:V):Fr:=bif zl t f.n then⟨f.n,f.m.set t<|some v⟩else f
def FG:List Tmp->List V->Fr->Fr
 |t::ts,v::vs,f=>FG ts vs<|f.XI t v
 |_,_,f=>f
theorem EA.XI{p:Pl}{f:Fr}{tmps:Array Value}(c:EA p f tmps){v:V}{v':Value}(g:Ab p v v')(t:Nat):EA p (f.XI t v) (tmps.setIfInBounds t v'):=by
 unfold Fr.XI;simp only[Gz];by_cases b:t<f.n
 ·simp only[b,decide_true,we];refine⟨by simp[c.1],fun s=>?_⟩;have d:t<tmps.size:=c.1▸b;by_cases e:s=t
  ·subst e;simp[Fr.get,d,g]
  ·have:=c.2 s;simp only[Fr.get,PM.CR,wc e]at this ⊢;rw[zr,zj<|fun x=>e x.symm, <-zr];exact this
 ·simp only[b,decide_false,wg];have:tmps.setIfInBounds t v'=tmps:=by
   have:tmps.size<=t:=by have:=c.1;omega
   simp[Array.setIfInBounds,Nat.not_lt.2 this]
  rw[this];exact c
theorem EA.FG{p:Pl}:∀ {ts:List Tmp} {vs:List V} {b:List Value},Aq p vs b->∀ {f:Fr} {tmps:Array Value},EA p f tmps->EA p (FG ts vs f) ((ts.zip b).foldl (fun tmps (t,a)=>tmps.setIfInBounds t a) tmps)
 |[],vs,b,_,f,tmps,c=>by simpa [Det.FG]using c
 |t::ts,[],b,d,f,tmps,c=>by simp at d;subst d;simpa [Det.FG]using c
 |t::ts,v::vs,b,d,f,tmps,c=>by
  simp only[Aq]at d;obtain⟨u,l,rfl,g,k⟩:=d;simp only[Det.FG,List.zip_cons_cons,List.foldl_cons];exact EA.FG k<|c.XI g t
def Bp(h:H):Option V->Option OR
 |some v=>some<|.val v h
 |none=>none
def EK:Option (V×H)->Option OR
 |some (v,h)=>some<|.val v h
 |none=>none
def dM:Option H->Option OR
 |some h=>some<|.skip h
 |none=>none
def DZ(C:Ctx)(h:H)(b:Builtin)(ts:Array TypeId)(args:List V):Option OR:=
 match b with
 | .len=>Bp h<|Fm C.T h ts args
 | .append=>EK<|FD C.T h ts args
 | .copy=>EK<|bW C.T h ts args
 | .max=>Bp h<|FB YL args
 | .min=>Bp h<|FB Z0 args
 | .cap=>Bp h<|qW C.T ts args
 | .delete=>EK<|Kb C.T h ts args
 | .clear=>EK<|E5 C.T h ts args
 | .unsafeSliceData=>Bp h<|OJ args
 | .unsafeString=>EK<|PZ C.T h ts.toList args
 |_=>none
def Kz(C:Ctx)(h:H)(f:V)(args:List V):Option OR:=
 match f with
 | .fn (.func g) first captured=>
  match C.prim g with
  |some q=>EK<|q (first++args++captured) h
  |none=>match C.fn g with
   |some _=>some<|.enter g<|first++args++captured
   |none=>none
 | .yld b=>match h.get b with
  |some (.loop l)=>bif zh args.length l.ps.size then some (.round b l<|FG l.ps.toList args l.fr)else none
  |_=>none
 |_=>none
def ME(C:Ctx)(h:H)(x:V)(name:String)(args:List V):Option OR:=
 match x with
 | .iface t v=>match C.T.mth t name with
  |some g=>Kz C h (.fn (.func g) [] []) (v::args)
  |none=>none
 |_=>none
def Vo:Operand->Bool
 | .const _=>true
 |_=>false
def hJ(T:BR)(op:BinOp)(t:TypeId)(x y:Operand)(v u:V):Option V:=
 match op,v,u,T.und t with
 | .eql,.nili,.nili,some (.interface _)=>bif Vo x||Vo y then some (.bool true)else none
 | .neq,.nili,.nili,some (.interface _)=>bif Vo x||Vo y then some (.bool false)else none
 |_,_,_,_=>none
def LI(T:BR)(op:BinOp)(t:TypeId)(x y:Operand)(v u:V):Option V:=
 match hJ T op t x y v u with
 |some r=>some r
 |none=>K5 T op t v u
def FY(C:Ctx)(fr:Fr)(h:H)(o:Oper):Option OR:=
 let ρ:=ev C fr
 match o.op with
 | .move x| .assign x=>Bp h<|ρ x
 | .pick c a b=>match ρ c with
  |some (.bool t)=>Bp h<|if t then ρ a else ρ b
  |_=>none
 | .alloc t=>EK<|F4 C.T h t
 | .box t x=>EK<|(ρ x).map fun v=>X1 h t v
 | .build t q=>match UI C fr q.toList with
  |some ps=>Bp h<|Jj C.T t ps
  |none=>none
 | .buildSlice t n q=>match UI C fr q.toList with
  |some ps=>EK<|En C.T h t n ps
  |none=>none
 | .load t x=>match ρ x with
  |some v=>Bp h<|Ex C.T h t v
  |none=>none
 | .store t x y=>match ρ x,ρ y with
  |some v,some u=>dM<|GH C.T h t v u
  |_,_=>none
 | .nilCheck x=>match ρ x with
  |some (.ptr b i)=>Bp h<|some<|.ptr b i
  |some (.iface t v)=>Bp h<|some<|.iface t v
  |_=>none
 | .binOp op t x y _=>match ρ x,ρ y with
  |some v,some u=>Bp h<|LI C.T op t x y v u
  |_,_=>none
 | .unOp op _ x=>match ρ x with
  |some v=>Bp h<|uR op v
  |none=>none
 | .convert s d x=>match ρ x with
  |some v=>Bp h<|Fc C.T h s d v
  |none=>none
 | .makeInterface t x=>match ρ x,C.T.und t with
  |some v,some d=>match d with
   | .interface _=>none
   |_=>Bp h<|some<|.iface t v
  |_,_=>none
 | .makeFunc f first captured=>match PY C fr first.toList,PY C fr captured.toList with
  |some a,some b=>Bp h<|some<|.fn f a b
  |_,_=>none
 | .makeMap _ r=>match TF C fr r with
  |some v=>EK<|HS h v
  |none=>none
 | .makeSlice t l c=>match ρ l,ρ c with
  |some v,some u=>EK<|MO C.T h t v u
  |_,_=>none
 | .slice t x lo D mx=>match ρ x,TF C fr lo,TF C fr D,TF C fr mx with
  |some v,some l,some r,some m=>Bp h<|Dg C.T t v l r m
  |_,_,_,_=>none
 | .fieldAddr t x f=>match ρ x with
  |some v=>Bp h<|Jt C.T t v f
  |none=>none
 | .field t x f=>match ρ x with
  |some v=>Bp h<|Jm C.T t v f
  |none=>none
 | .indexAddr t x i=>match ρ x,ρ i with
  |some v,some u=>Bp h<|CO C.T t v u
  |_,_=>none
 | .index t x i=>match ρ x,ρ i with
  |some v,some u=>Bp h<|GN C.T t v u
  |_,_=>none
 | .lookup t x i ok=>match ρ x,ρ i with
  |some v,some u=>Bp h<|Ek C.T h t v u ok
  |_,_=>none
 | .mapUpdate t m k x| .insert t m k x=>match ρ m,ρ k,ρ x with
  |some a,some b,some c=>dM<|G6 C.T h t a b c
  |_,_,_=>none
 | .range t x=>match ρ x with
  |some v=>EK<|G0 C.T h t v
  |none=>none
 | .next x A=>match ρ x with
  |some v=>bif A then EK (LR h v A)else(Qu h v A).map .alts
  |none=>none
 | .entry x=>match ρ x with
  |some v=>Bp h<|RM h v
  |none=>none
 | .extract x i=>match ρ x with
  |some v=>Bp h<|Gk v i
  |none=>none
 | .call c=>match c.callee,PY C fr c.args.toList with
  | .builtin b,some args=>DZ C h b c.argTypes args
  | .value f,some args=>match ρ f with
   |some g=>Kz C h g args
   |none=>none
  | .invoke x B,some args=>match ρ x with
   |some v=>ME C h v B args
   |none=>none
  |_,_=>none
 |_=>none
abbrev Fq:=Ctx->Fr->H->Option OR
def nT(a0:Operand):Fq:=fun C fr h=>Bp h<|ev C fr a0
def aW(a0:Operand):Fq:=fun C fr h=>Bp h<|ev C fr a0
def qH(a0:Operand)(a1:Operand)(a2:Operand):Fq:=fun C fr h=>match ev C fr a0 with|some (.bool t)=>Bp h (if t then ev C fr a1 else ev C fr a2)|_=>none
def kA(a0:TypeId):Fq:=fun C _fr h=>EK<|F4 C.T h a0
def sA(a0:TypeId)(a1:Operand):Fq:=fun C fr h=>EK<|(ev C fr a1).map fun v=>X1 h a0 v
def iI(a0:TypeId)(a1:Array (Nat×Operand)):Fq:=fun C fr h=>match UI C fr a1.toList with|some ps=>Bp h (Jj C.T a0 ps)|none=>none
def QT(a0:TypeId)(a1:Nat)(a2:Array (Nat×Operand)):Fq:=fun C fr h=>match UI C fr a2.toList with|some ps=>EK (En C.T h a0 a1 ps)|none=>none
def Zk(a0:TypeId)(a1:Operand)(a2:Operand)(a3:Operand):Fq:=fun C fr h=>match ev C fr a1,ev C fr a2,ev C fr a3 with|some a,some b,some c=>dM (G6 C.T h a0 a b c)|_,_,_=>none
def qF(a0:TypeId)(a1:Operand):Fq:=fun C fr h=>match ev C fr a1 with|some v=>Bp h (Ex C.T h a0 v)|none=>none
def fO(a0:TypeId)(a1:Operand)(a2:Operand):Fq:=fun C fr h=>match ev C fr a1,ev C fr a2 with|some v,some u=>dM (GH C.T h a0 v u)|_,_=>none
def fA(_a0:Nat):Fq:=fun _ _ _=>none
def iU(_a0:Nat):Fq:=fun _ _ _=>none
def TQ(a0:Operand):Fq:=fun C fr h=>match ev C fr a0 with|some (.ptr b i)=>Bp h (some<|.ptr b i)|some (.iface t v)=>Bp h (some<|.iface t v)|_=>none
def fX(a0:BinOp)(a1:TypeId)(a2:Operand)(a3:Operand)(_a4:TypeId):Fq:=fun C fr h=>match ev C fr a2,ev C fr a3 with|some v,some u=>Bp h (LI C.T a0 a1 a2 a3 v u)|_,_=>none
def nN(a0:UnOp)(_a1:TypeId)(a2:Operand):Fq:=fun C fr h=>match ev C fr a2 with|some v=>Bp h (uR a0 v)|none=>none
def W9(a0:TypeId)(a1:TypeId)(a2:Operand):Fq:=fun C fr h=>match ev C fr a2 with|some v=>Bp h (Fc C.T h a0 a1 v)|none=>none
def Hr(_a0:TypeId)(_a1:Operand):Fq:=fun _ _ _=>none
def Me(a0:TypeId)(a1:Operand):Fq:=fun C fr h=>match ev C fr a1,C.T.und a0 with|some v,some d=>(match d with| .interface _=>none|_=>Bp h<|some<|.iface a0 v)|_,_=>none
def Uu(a0:Go.Fn)(a1:Array Operand)(a2:Array Operand):Fq:=fun C fr h=>match PY C fr a1.toList,PY C fr a2.toList with|some a,some b=>Bp h (some<|.fn a0 a b)|_,_=>none
def Ye(_a0:TypeId)(a1:Option Operand):Fq:=fun C fr h=>match TF C fr a1 with|some v=>EK (HS h v)|none=>none
def UR(_a0:TypeId)(_a1:Operand):Fq:=fun _ _ _=>none
def SC(a0:TypeId)(a1:Operand)(a2:Operand):Fq:=fun C fr h=>match ev C fr a1,ev C fr a2 with|some v,some u=>EK (MO C.T h a0 v u)|_,_=>none
def lE(a0:TypeId)(a1:Operand)(a2:Option Operand)(a3:Option Operand)(a4:Option Operand):Fq:=fun C fr h=>match ev C fr a1,TF C fr a2,TF C fr a3,TF C fr a4 with|some v,some l,some r,some m=>Bp h (Dg C.T a0 v l r m)|_,_,_,_=>none
def R6(a0:TypeId)(a1:Operand)(a2:Nat):Fq:=fun C fr h=>match ev C fr a1 with|some v=>Bp h (Jt C.T a0 v a2)|none=>none
def eV(a0:TypeId)(a1:Operand)(a2:Nat):Fq:=fun C fr h=>match ev C fr a1 with|some v=>Bp h (Jm C.T a0 v a2)|none=>none
def SD(a0:TypeId)(a1:Operand)(a2:Operand):Fq:=fun C fr h=>match ev C fr a1,ev C fr a2 with|some v,some u=>Bp h (CO C.T a0 v u)|_,_=>none
def eL(a0:TypeId)(a1:Operand)(a2:Operand):Fq:=fun C fr h=>match ev C fr a1,ev C fr a2 with|some v,some u=>Bp h (GN C.T a0 v u)|_,_=>none
def YK(a0:TypeId)(a1:Operand)(a2:Operand)(a3:Bool):Fq:=fun C fr h=>match ev C fr a1,ev C fr a2 with|some v,some u=>Bp h (Ek C.T h a0 v u a3)|_,_=>none
def Si(a0:TypeId)(a1:Operand)(a2:Operand)(a3:Operand):Fq:=fun C fr h=>match ev C fr a1,ev C fr a2,ev C fr a3 with|some a,some b,some c=>dM (G6 C.T h a0 a b c)|_,_,_=>none
def Uk(_a0:TypeId)(_a1:Operand)(_a2:Operand):Fq:=fun _ _ _=>none
def RL(_a0:TypeId)(_a1:Operand)(_a2:Operand)(_a3:Operand):Fq:=fun _ _ _=>none
def jY(a0:TypeId)(a1:Operand):Fq:=fun C fr h=>match ev C fr a1 with|some v=>EK (G0 C.T h a0 v)|none=>none
def pS(a0:Operand)(a1:Bool):Fq:=fun C fr h=>match ev C fr a0 with|some v=>bif a1 then EK (LR h v a1)else(Qu h v a1).map .alts|none=>none
def fT(a0:Operand):Fq:=fun C fr h=>match ev C fr a0 with|some v=>Bp h (RM h v)|none=>none
def Rh(_a0:Operand)(_a1:TypeId)(_a2:TypeId)(_a3:Bool):Fq:=fun _ _ _=>none
def Xa(a0:Operand)(a1:Nat):Fq:=fun C fr h=>match ev C fr a0 with|some v=>Bp h (Gk v a1)|none=>none
def oL(a0:Call):Fq:=fun C fr h=>match a0.callee,PY C fr a0.args.toList with| .builtin b,some args=>DZ C h b a0.argTypes args| .value f,some args=>(match ev C fr f with|some g=>Kz C h g args|none=>none)| .invoke x c,some args=>(match ev C fr x with|some v=>ME C h v c args|none=>none)|_,_=>none
def wX(_a0:Call):Fq:=fun _ _ _=>none
def kD(_a0:Call):Fq:=fun _ _ _=>none
def jE(_a0:Operand):Fq:=fun _ _ _=>none
def nZ(_a0:Operand)(_a1:Operand):Fq:=fun _ _ _=>none
def pU(_a0:TypeId)(_a1:Operand)(_a2:Bool):Fq:=fun _ _ _=>none
def ZT(_a0:Array SelectCase)(_a1:Bool):Fq:=fun _ _ _=>none
def yZ(o:Op):Fq:=@Op.casesOn (fun _=>Fq) o nT aW qH kA sA iI QT Zk qF fO fA iU TQ fX nN W9 Hr Me Uu Ye UR SC lE R6 eV SD eL YK Si Uk RL jY pS fT Rh Xa oL wX kD jE nZ pU ZT
def FH(C:Ctx)(fr:Fr)(h:H)(o:Oper):Option OR:=yZ o.op C fr h
theorem CG(C:Ctx)(fr:Fr)(h:H)(o:Oper):FH C fr h o=FY C fr h o:=by
 unfold FH FY;cases o.op<;>rfl
def H5(C:Ctx)(fr:Fr)(h:H)(o:Oper):Option OR:=
 match FH C fr h o with
 |some r=>some r
 |none=>match o.op with
  | .convert s d x=>match ev C fr x with
   |some v=>match D7 C.T h s d v with
    |some u=>some<|.val u h
    |none=>EK<|Q8 C.T h s d v
   |none=>none
  |_=>none
structure Ctx.Ok(C:Ctx)(P:Program):Prop where
 T:C.T.Ok P
 fn : ∀ f i, C.fn f = some i -> ∃ fn, P.funcs[f]? = some fn /\ fn.name ≠ "runtime.NumGoroutine" /\ fn.body = some i.body /\ fn.ntmps = i.ntmps /\ fn.results = i.results
 prim:∀f q,C.prim f=some q->∀(p:Pl) (h:H) (w:World) (args:List V) (args':Array Value) v h',R p h w->Gl C p->Aq p args args'.toList->q args h=some (v,h')->
  ∃v' p' w',(callFunc f args').run P w=.ok (.value v') w'/\Ab p' v v'/\Ext p h w p' h' w'
 spec:∀f q,C.spec f=some q->∀(p:Pl) (h:H) (w:World) (args:List V) (args':Array Value) v h',R p h w->Gl C p->Aq p args args'.toList->q args h=some (v,h')->
  Calls P f args' w fun e w'=>∃v' p',e=.returned v'/\Ab p' v v'/\Ext p h w p' h' w'
def Q2(p:Pl)(h:H)(w:World):OR->Result Next->Prop
 | .val v h',r=>∃v' p' w',r=.ok (.value v') w'/\Ab p' v v'/\Ext p h w p' h' w'
 | .skip h',r=>∃p' w',r=.ok .skip w'/\Ext p h w p' h' w'
 | .enter f args,r=>∃args',r=.ok (.enter f args') w/\Aq p args args'.toList
 | .round b l fr,r=>∃k n f tmps,p[b]?=some (k,n)/\h.get b=some (.loop l)/\r=.ok (.round k f tmps l.asg l.body) w/\EA p fr tmps
 | .alts l,r=>∃v h' v' p' w',(v,h')∈l/\r=.ok (.value v') w'/\Ab p' v v'/\Ext p h w p' h' w'
section
variable {C:Ctx}{P:Program}{p:Pl}{h:H}{w:World}{fr:Fr}{a:Act}
theorem BQ{s:Sem Value}{v:Option V}{r:OR}(c:R p h w)(b:Bp h v=some r)(f:∀x,v=some x->∃v',s.run P w=.ok v' w/\Ab p x v'):Q2 p h w r ((do pure (.value<|<-s):Sem Next).run P w):=by
 cases v with
 |none=>simp[Bp]at b
 |some x=>
  simp only[Bp,ze]at b;subst b;obtain⟨v',d,g⟩:=f x rfl;exact⟨v',p,w,by simp[d],g,zu c⟩
theorem C6{s:Sem Value}{v:Option (V×H)}{r:OR}(b:EK v=some r)(c:∀x h',v=some (x,h')->∃v' p' w',s.run P w=.ok v' w'/\Ab p' x v'/\Ext p h w p' h' w'):Q2 p h w r ((do pure (.value<|<-s):Sem Next).run P w):=by
 match v,b,c with
 |some (x,h'),b,c=>
  simp only[EK,ze]at b;subst b;obtain⟨v',p',w',d,g,f⟩:=c x h' rfl;exact⟨v',p',w',by simp[d],g,f⟩
 |none,b,_=>simp[EK]at b
theorem VO{s:Sem Unit}{v:Option H}{r:OR}(b:dM v=some r)(d:∀h',v=some h'->∃w',s.run P w=.ok () w'/\Ext p h w p h' w'):Q2 p h w r ((do s;pure .skip:Sem Next).run P w):=by
 cases v with
 |none=>simp[dM]at b
 |some h'=>
  simp only[dM,ze]at b;subst b;obtain⟨w',c,f⟩:=d h' rfl;exact⟨p,w',by simp[c],f⟩
theorem Li(L:C.Ok P)(M:R p h w)(O:Gl C p){f:V}{I:Value}{args:List V}{args':Array Value}(D:Ab p f I)(E:Aq p args args'.toList){r:OR}(c:Kz C h f args=some r):
  Q2 p h w r ((do let d<-zR I args';invoke d.target d.args:Sem Next).run P w):=by
 unfold Kz at c;split at c
 case h_3=>cases c
 case h_2=>
  rename_i b;split at c
  case h_2=>cases c
  rename_i l K;rw[Bf]at c;by_cases F:args.length=l.ps.size
  ·simp only[F,decide_true,we,ze]at c;subst c;simp only[Ab]at D;obtain⟨k,n,J,rfl⟩:=D;obtain⟨k',n',o,u,A,f0,tmps,r,m,B,S,rfl⟩:=M.obj _ _ K;rw[J]at u;cases u;have N:=E.length;simp only[zR,zd,zf,zc,invoke];simp at N;have e:((l.ps.zip args').foldl (fun tmps (t,a)=>tmps.setIfInBounds t a) tmps)=(l.ps.toList.zip args'.toList).foldl (fun tmps (t,a)=>tmps.setIfInBounds t a) tmps:=by
    rw[<-Array.toList_zip,Array.foldl_toList]
   have G:=EA.FG (ts:=l.ps.toList) E B;rw[<-e]at G;refine⟨k,n,f0,_,J,K,?_,G⟩;simp only[Array.empty_append];exact run_yield A (by rw[<-N,F])
  ·simp[F]at c
 rename_i g first captured
 simp only[Ab]at D;obtain⟨x,y,rfl,Q,W⟩:=D;have s:Aq p (first++args++captured) (x++args'++y).toList:=by
  simpa using(Q.append E).append W
 simp only[zR,zd,zf,zc,invoke];split at c
 case h_1=>
  rename_i q U;match hqr:q (first++args++captured) h,c with
  |some (v,h'),c=>
   simp only[EK,ze]at c;subst c;obtain⟨v',p',w',u,A,B⟩:=L.prim g q U p h w _ _ v h' M O s hqr;exact⟨v',p',w',u,A,B⟩
  |none,c=>simp[EK]at c
 case h_2=>
  split at c
  case h_2=>cases c
  rename_i i X;cases c;obtain⟨fn,u,A,B,S,G⟩:=L.fn g i X;refine⟨_,?_,s⟩;unfold callFunc;simp[u,A,B]
theorem TB(u:C.Ok P)(F:R p h w)(A:Gl C p){x:V}{x':Value}{name:String}{args:List V}{args':Array Value}(s:Ab p x x')(D:Aq p args args'.toList){r:OR}(c:ME C h x name args=some r):
  Q2 p h w r ((invoke (.fn (.method name) #[])<|#[x']++args').run P w):=by
 unfold ME at c;split at c
 case h_2=>cases c
 rename_i t v;split at c
 case h_2=>cases c
 rename_i g B;simp only[Ab]at s;obtain⟨y,rfl,G⟩:=s;obtain⟨j,m,d,h1,h2,h3,h4,h5,h6⟩:=u.T.mth t name g B;have key:(invoke (.fn (.method name) #[])<|#[.iface t y]++args').run P w=((do let d<-zR (.func (.func g) #[] #[]) (#[y]++args');invoke d.target d.args:Sem Next).run P w):=by
  have l:(underlying t).run P w=.ok d w:=by unfold underlying;simp[h5]
  have o:(typeInfo t).run P w=.ok j w:=by unfold typeInfo;simp[h1]
  have b:∀k,(method (k+1) t y name).run P w=.ok (g,y) w:=by
   intro k;unfold method;simp only[zd,o,zc,h2,h3,follow,zf,h4];unfold receiverAt;simp only[zd,l,zc,Place.get];cases d<;>first|(exact wh rfl (h6 _))|simp
  have q:=b<|P.types.size+99;have e:P.types.size+Made.depth=P.types.size+99+1:=rfl;have h0:(#[Value.iface t y]++args')[0]?=some (.iface t y):=by
   rw[<-zn];simp
  have E:(#[Value.iface t y]++args').extract 1 (#[Value.iface t y]++args').size=args':=by
   rw[<-zm];simp
  simp only[invoke,zR,h0,E];simp[callMethod,e,q]
 rw[key];exact Li u F A (f:=.fn (.func g) [] []) (by simp[Ab]) (by simp;exact⟨G,D⟩) c
theorem Tj(k:C.Ok P)(f:R p h w){b:Builtin}{ts:Array TypeId}{t:TypeId}{cs:Array Bool}{args:List V}{args':Array Value}(g:Aq p args args'.toList){r:OR}(d:DZ C h b ts args=some r):
  Q2 p h w r ((builtin b ts t cs args').run P w):=by
 unfold DZ at d;split at d
 case h_1=>exact BQ f d fun x c=>jS k.T f g c
 case h_2=>exact C6 d fun x h' c=>Uf k.T f g c
 case h_3=>exact C6 d fun x h' c=>Yv k.T f g c
 case h_4=>exact BQ f d fun x c=>lH g c
 case h_5=>exact BQ f d fun x c=>lO g c
 case h_6=>exact BQ f d fun x c=>iR k.T g c
 case h_7=>exact C6 d fun x h' c=>TK k.T f g c
 case h_8=>exact C6 d fun x h' c=>Xr k.T f g c
 case h_9=>exact BQ f d fun x c=>Yi g c
 case h_10=>
  refine C6 d fun x h' c=>?_
  obtain⟨v',w',o,m,l⟩:=YI (t:=t) k.T f g c;exact⟨v',p,w',o,m,l⟩
 case h_11=>cases d
theorem bE{T:BR}(A:T.Ok P){op:BinOp}{t:TypeId}{x y:Operand}{v u:V}{v' B:Value}(g:Ab p v v')(l:Ab p u B){z:V}(o:LI T op t x y v u=some z):
  ∃F,(do eqGuard op t x y v' B;binOp op t v' B:Sem Value).run P w=.ok F w/\Ab p z F:=by
 unfold LI at o;split at o
 case h_2=>
  simp only[zd,Xx A g l o,zc];exact hO A g l o
 case h_1=>
  rename_i r q;cases o;have E:∀ {b:Bool},(bif Vo x||Vo y then some (V.bool b)else none)=some z->z=.bool b/\((∃c,x=.const c)\/∃c,y=.const c):=by
   intro b k;cases f:(Vo x||Vo y)with
   |false=>simp[f]at k
   |true=>
    simp only[f,we,ze]at k;refine⟨k.symm,?_⟩;simp only[yr]at f;rcases f with f|f
    ·left;cases x<;>first|exact⟨_,rfl⟩|cases f
    ·right;cases y<;>first|exact⟨_,rfl⟩|cases f
  have D:∀op,(op=.eql\/op=.neq)->((∃c,x=.const c)\/∃c,y=.const c)->(eqGuard op t x y .nilIface .nilIface).run P w=.ok () w:=by
   intro op G f;rcases G with rfl|rfl<;>unfold eqGuard<;>rcases f with⟨c,rfl⟩|⟨c,rfl⟩<;>simp
  have m:∀ {s},T.und t=some (.interface s)->(Op.equal t .nilIface .nilIface).run P w=.ok true w:=by
   intro s d;unfold Op.equal Op.maxDepth Op.equalIn;rw[zd,Aw A d];rfl
  unfold hJ at q;split at q
  case h_1=>
   rename_i s d;obtain⟨rfl,f⟩:=E q;have k:=(Mk (t:=t) (y':=.nilIface) g rfl).1;simp only[Ab]at g l;subst g l;refine⟨.bool true,?_,by simp[Ab]⟩;rw[zd,D .eql (.inl rfl) f,zc,k,zd,m d];rfl
  case h_2=>
   rename_i s d;obtain⟨rfl,f⟩:=E q;have k:=(Mk (t:=t) (y':=.nilIface) g rfl).2;simp only[Ab]at g l;subst g l;refine⟨.bool false,?_,by simp[Ab]⟩;rw[zd,D .neq (.inr rfl) f,zc,k,zd,m d];rfl
  case h_3=>cases q
theorem YJ(I:C.Ok P)(F:R p h w)(B:Gl C p)(D:Cr p fr a){o:Oper}{r:OR}(q:FH C fr h o=some r):Q2 p h w r ((execOp a.eval o).run P w):=by
 rw[CG]at q;unfold FY at q;unfold execOp;cases Z:o.op<;>simp only[Z]at q ⊢<;>try (cases q;done)
 case move x|assign x=>
  cases A:ev C fr x with
  |none=>simp[A,Bp]at q
  |some v=>simp[A,Bp]at q;subst q;exact⟨_,p,w,rfl,AY B D A,zu F⟩
 case pick c x y=>
  split at q
  case h_2=>cases q
  rename_i t hc;have S:=AY B D hc;simp only[Ab]at S;simp only[zd,S,asBool,zf,zc];cases t
  ·cases A:ev C fr y with
   |none=>simp[A,Bp]at q
   |some v=>simp[A,Bp]at q;subst q;exact⟨_,p,w,by simp,AY B D A,zu F⟩
  ·cases A:ev C fr x with
   |none=>simp[A,Bp]at q
   |some v=>simp[A,Bp]at q;subst q;exact⟨_,p,w,by simp,AY B D A,zu F⟩
 case alloc t=>exact C6 q fun x h' A=>Xp I.T F A
 case box t x=>
  refine C6 q fun v h' A=>?_
  rw[zg]at A;obtain⟨u,K,Q⟩:=A;have:=jK (P:=P) (t:=t) F<|AY B D K;rw[Q]at this;exact this
 case build t N=>
  split at q
  case h_2=>cases q
  rename_i ps M;refine BQ F q fun x A=>W8 I.T ?_ A
  have:=MI B D M;simpa using this
 case buildSlice t n N=>
  split at q
  case h_2=>cases q
  rename_i ps M;refine C6 q fun x h' A=>UF I.T F ?_ A
  have:=MI B D M;simpa using this
 case load t x=>
  split at q
  case h_2=>cases q
  rename_i v E;exact BQ F q fun x A=>SU I.T F (AY B D E) A
 case store t x y=>
  split at q
  case h_2=>cases q
  rename_i v u E K;exact VO q fun h' A=>XR I.T F (AY B D E) (AY B D K) A
 case nilCheck x=>
  split at q
  case h_3=>cases q
  case h_1=>
   rename_i b i E;have A:=AY B D E;have L:=A;simp only[Ab]at L;obtain⟨r',n,hp,Q⟩:=L;simp only[Bp,ze]at q;subst q;rw[Q];exact⟨_,p,w,rfl,Q▸A,zu F⟩
  case h_2=>
   rename_i t v E;have A:=AY B D E;have L:=A;simp only[Ab]at L;obtain⟨y,Q,_⟩:=L;simp only[Bp,ze]at q;subst q;rw[Q];exact⟨_,p,w,rfl,Q▸A,zu F⟩
 case binOp op t x y t2=>
  split at q
  case h_2=>cases q
  rename_i v u E K;refine BQ F q fun z O=>?_
  exact bE I.T (AY B D E) (AY B D K) O
 case unOp op t x=>
  split at q
  case h_2=>cases q
  rename_i v E;exact BQ F q fun x A=>qA (AY B D E) A
 case convert s d x=>
  split at q
  case h_2=>cases q
  rename_i v E;exact BQ F q fun x A=>ZE I.T F (AY B D E) A
 case makeInterface t x=>
  split at q
  case h_2=>cases q
  rename_i v d E U;split at q
  case h_1=>cases q
  case h_2=>
   rename_i X;refine BQ F q fun z O=>?_
   cases O;refine⟨.iface t<|a.eval x,?_,by simp only[Ab];exact⟨_,rfl,AY B D E⟩⟩;unfold Instr.makeInterface;simp only[zd,Aw I.T U,zc];cases d<;>first|rfl|exact wh rfl (X _)
 case makeFunc f first captured=>
  split at q
  case h_2=>cases q
  rename_i x y A hy;refine BQ F q fun z O=>?_
  cases O;exact⟨_,rfl,by simp only[Ab];exact⟨_,_,rfl,by simpa using IF B D A,by simpa using IF B D hy⟩⟩
 case makeMap t x=>
  split at q
  case h_2=>cases q
  rename_i v E;exact C6 q fun x h' A=>Ty F (MG B D E) A
 case makeSlice t l c=>
  split at q
  case h_2=>cases q
  rename_i v u E K;exact C6 q fun x h' A=>YU I.T F (AY B D E) (AY B D K) A
 case slice t x lo hi mx=>
  split at q
  case h_2=>cases q
  rename_i v l r' m E Y V hm;exact BQ F q fun x A=>X0 I.T (AY B D E) (MG B D Y) (MG B D V) (MG B D hm) A
 case fieldAddr t x f=>
  split at q
  case h_2=>cases q
  rename_i v E;exact BQ F q fun x A=>XP I.T (AY B D E) A
 case field t x f=>
  split at q
  case h_2=>cases q
  rename_i v E;exact BQ F q fun x A=>Xh I.T (AY B D E) A
 case indexAddr t x i=>
  split at q
  case h_2=>cases q
  rename_i v u E K;exact BQ F q fun x A=>Xm I.T (AY B D E) (AY B D K) A
 case index t x i=>
  split at q
  case h_2=>cases q
  rename_i v u E K;exact BQ F q fun x A=>XK I.T (AY B D E) (AY B D K) A
 case lookup t x i ok=>
  split at q
  case h_2=>cases q
  rename_i v u E K;exact BQ F q fun x A=>T8 I.T F (AY B D E) (AY B D K) A
 case mapUpdate t m k x|insert t m k x=>
  split at q
  case h_2=>cases q
  rename_i v u z E K O;exact VO q fun h' A=>TJ I.T F (AY B D E) (AY B D K) (AY B D O) A
 case range t x=>
  split at q
  case h_2=>cases q
  rename_i v E;exact C6 q fun x h' A=>TU I.T F (AY B D E) A
 case next x b=>
  split at q
  case h_2=>cases q
  rename_i v E;cases b with
  |true=>simp only[we]at q;exact C6 q fun x h' A=>ZK F (AY B D E) A
  |false=>
   simp only[wg,zg]at q;obtain⟨l,Y,rfl⟩:=q;obtain⟨v,h',v',p',w',g1,g2,g3,g4⟩:=X3 (P:=P) (t:=o.type) F (AY B D E) Y;exact⟨v,h',v',p',w',g1,by simp only[zd,g2,zc,zf],g3,g4⟩
 case entry x=>
  split at q
  case h_2=>cases q
  rename_i v E;exact BQ F q fun x A=>XO F (AY B D E) A
 case extract x i=>
  split at q
  case h_2=>cases q
  rename_i v E;exact BQ F q fun x A=>Sr (AY B D E) A
 case call c=>
  split at q
  case h_4=>cases q
  case h_1=>
   rename_i b args J G;have:=IF B D G;unfold resolve;simp only[J,zd,zf,zc,invoke];exact Tj I F (by simpa using this) q
  case h_2=>
   rename_i f args J G;split at q
   case h_2=>cases q
   rename_i g W;have:=IF B D G;unfold resolve;simp only[J];exact Li I F B (AY B D W) (by simpa using this) q
  case h_3=>
   rename_i x nm args J G;split at q
   case h_2=>cases q
   rename_i v E;have:=IF B D G;unfold resolve;simp only[J,zd,zf,zc];exact TB I F B (AY B D E) (by simpa using this) q
theorem JG(m:C.Ok P)(c:R p h w)(f:Gl C p)(k:Cr p fr a){o:Oper}{r:OR}(b:H5 C fr h o=some r):Q2 p h w r ((execOp a.eval o).run P w):=by
 unfold H5 at b;split at b
 case h_1=>
  rename_i B l;cases b;exact YJ m c f k l
 case h_2=>
  split at b
  case h_2=>cases b
  rename_i s d x A;split at b
  case h_2=>cases b
  rename_i v q;unfold execOp;simp only[A];split at b
  case h_1=>
   rename_i u y;exact BQ (v:=some u) c b fun x g=>by cases g;exact gQ m.T c (AY f k q) y
  exact C6 b fun x h' g=>Yc m.T c (AY f k q) g
end
def A1(fr:Fr)(ops:Array Oper)(o:Oper):Bool:=
 match o.guard with
 |none=>true
 |some (j,c)=>
  match (ops[j]?).bind (·.dst)with
  |some t=>bif zl t fr.n then(match fr.get t with| .bool b=>b==c|_=>false)else false
  |none=>false
inductive Cl where
 |fn (f:FuncId) (args:List V)
 |rnd (b:Nat) (l:LS) (fr:Fr)
abbrev Dc:=Cl->H->Option (List<|V×H)
def bl{α c:Type}:List α->(α->Option (List c))->Option (List c)
 |[],_=>some []
 |a::d,f=>match f a with
  |none=>none
  |some x=>match d with
   |[]=>some x
   |b::g=>match bl (b::g) f with
    |some y=>some<|x++y
    |none=>none
theorem H2{α o:Type}{f:α->Option (List o)}:∀ {l:List α} {r:List o},bl l f=some r->∀a∈l,∃x,f a=some x/\∀b∈x,b∈r
 |[],r,_,a,g=>by cases g
 |[c],r,h,a,g=>by
  unfold bl at h;split at h
  ·cases h
  rename_i x m;cases h;cases zy.1 g;exact⟨_,m,fun b k=>k⟩
 |c::d::v,r,h,a,g=>by
  unfold bl at h;split at h
  ·cases h
  rename_i x m;simp only at h;split at h
  case h_2=>cases h
  rename_i y u;cases h;rcases yy.1 g with rfl|g
  ·exact⟨_,m,fun b k=>List.mem_append_left _ k⟩
  ·obtain⟨z,q,s⟩:=H2 u a g;exact⟨z,q,fun b k=>z6 _<|s b k⟩
def GQ(fr:Fr)(d:Option Nat):List (V×H)->Option (List<|Fr×H)
 |[]=>some []
 |(v,h)::l=>match fr.put d v with
  |some f=>match GQ fr d l with
   |some r=>some ((f,h)::r)
   |none=>none
  |none=>none
theorem MW{fr:Fr}{d:Option Nat}:∀ {l:List (V×H)} {r:List (Fr×H)},GQ fr d l=some r->∀v h,(v,h)∈l->∃f,fr.put d v=some f/\(f,h)∈r
 |[],r,_,v,h,hm=>by cases hm
 |(u,k)::l,r,b,v,h,hm=>by
  unfold GQ at b;split at b
  case h_2=>cases b
  rename_i f m;split at b
  case h_2=>cases b
  rename_i s q;cases b;rcases yy.1 hm with e|hm
  ·cases e;exact⟨f,m,by simp⟩
  ·obtain⟨g,c,o⟩:=MW q v h hm;exact⟨g,c,List.mem_cons_of_mem _ o⟩
def step1(C:Ctx)(call:Dc)(ops:Array Oper)(o:Oper)(fr:Fr)(h:H):Option (List<|Fr×H):=
 bif A1 fr ops o then
  match H5 C fr h o with
  |some (.val v h')=>match fr.put o.dst v with
   |some fr'=>some [(fr',h')]
   |none=>none
  |some (.skip h')=>match fr.put o.dst (.tup [])with
   |some fr'=>some [(fr',h')]
   |none=>none
  |some (.enter f args)=>match call (.fn f args) h with
   |some l=>GQ fr o.dst l
   |none=>none
  |some (.round b ls f)=>match call (.rnd b ls f) h with
   |some l=>GQ fr o.dst l
   |none=>none
  |some (.alts l)=>GQ fr o.dst l
  |none=>none
 else match fr.put o.dst (.tup [])with
  |some fr'=>some [(fr',h)]
  |none=>none
def Rn(C:Ctx)(call:Dc)(ops:Array Oper):List Oper->Fr->H->Option (List<|Fr×H)
 |[],fr,h=>some [(fr,h)]
 |o::b,fr,h=>match step1 C call ops o fr h with
  |some l=>bl l fun x=>Rn C call ops b x.1 x.2
  |none=>none
def FW(ro:Option Nat):Fence:={ yf with round:=ro }
theorem U4{ro:Option Nat}{n:Nat}{P:Program}{f:FuncId}{args:Array Value}{w:World}{R:Ending->World->Prop}:CallsIn (FW ro) n P f args w R↔Calls P f args w R:=by
 have:CallsIn (FW ro) n P f args w R↔CallsIn yf n P f args w R:=Iff.rfl;exact this.trans callsIn_wide
theorem oD{ro:Option Nat}{n:Nat}{P:Program}{k:Nat}{f:FuncId}{tmps:Array Value}{asg body:Code}{w:World}{R:Ending->World->Prop}(h:RoundIn yf 0 P k f tmps asg body w R):RoundIn (FW ro) n P k f tmps asg body w R:=
 ⟨trivial,fun c cs _=>h.2 c cs<|room_wide _⟩
inductive DX where
 |normal
 |exit (id:Nat)
 |ret
def DX.Qn:DX->Exit
 | .normal=>.normal
 | .exit id=>.exit id
 | .ret=>.ret
section
variable {C:Ctx}{P:Program}{p:Pl}{h:H}{w:World}{fr:Fr}{a:Act}
theorem Cr.put(g:Cr p fr a){d:Option Nat}{v:V}{v':Value}(k:Ab p v v'){fr':Fr}(c:fr.put d v=some fr'):Cr p fr' (a.put d v'):=by
 unfold Fr.put at c;cases d with
 |none=>cases c;exact g
 |some t=>
  simp only[Gz]at c;by_cases b:t<fr.n
  ·simp only[b,decide_true,we,ze]at c;subst c;refine⟨by simp[Act.put,g.1],fun s=>?_⟩;have f:t<a.tmps.size:=g.1▸b;by_cases e:s=t
   ·subst e;simp[Fr.get,Act.put,f,k]
   ·have:=g.2 s;simp only[Fr.get,PM.CR,wc e,Act.put]at this ⊢;rw[zr,zj<|fun x=>e x.symm, <-zr];exact this
  ·simp[b]at c
theorem Cr.mono(b:Cr p fr a){p':Pl}(c:∃q,p'=p++q):Cr p' fr a:=by
 obtain⟨q,rfl⟩:=c;exact⟨b.1,fun t=>(b.2 t).mono q⟩
theorem Cr.ext(b:Cr p fr a){p':Pl}{h':H}{w':World}(e:Ext p h w p' h' w'):Cr p' fr a:=b.mono e.pre
theorem gM{p:Pl}{v:V}{b:Bool}(d:Ab p v (.bool b)):v=.bool b:=by
 cases v<;>simp only[Ab]at d<;>first|(cases d;rfl)|(simp at d;done)|(obtain⟨_,_,_,_,c,_⟩:=d;cases c;done)|(obtain⟨_,_,_,c⟩:=d;cases c;done)|(obtain⟨_,_,c,_⟩:=d;cases c;done)|(obtain⟨_,_,c⟩:=d;cases c;done)|(obtain⟨_,c,_⟩:=d;cases c;done)
theorem Ps(l:Cr p fr a)(ops:Array Oper)(o:Oper):ym o (yielded ops a.tmps)=A1 fr ops o:=by
 unfold ym A1;cases q:o.guard with
 |none=>rfl
 |some r=>
  obtain⟨j,d⟩:=r;simp only;unfold yielded;cases s:(ops[j]?).bind (·.dst)with
  |none=>simp
  |some t=>
   simp only[Option.bind_some,Gz];by_cases c:t<fr.n
   ·have g:t<a.tmps.size:=l.1▸c;have f:=l.2 t;simp only[c,decide_true,we];have e:a.tmps[t]?=some (a.tmps.getD t undef):=by simp[g]
    rw[e];cases k:a.tmps.getD t undef with
    |bool b=>
     rw[k]at f;have:=gM f;rw[this];cases b<;>cases d<;>rfl
    |_=>
     rw[k]at f;cases m:fr.get t with
     |bool b=>rw[m]at f;simp[Ab]at f
     |_=>cases d<;>rfl
   ·have:a.tmps[t]?=none:=zL<|zS<|l.1▸c;simp[this,c]
def F8(p:Pl)(h:H)(w:World)(l:List (V×H))(e:Ending)(w':World):Prop:=
 ∃v h' v' p',(v,h')∈l/\e=.returned v'/\Ab p' v v'/\Ext p h w p' h' w'
structure Dc.Ok(C:Ctx)(P:Program)(call:Dc):Prop where
 fn:∀f args h l,call (.fn f args) h=some l->∀(p:Pl) (w:World) (args':Array Value),R p h w->Gl C p->Aq p args args'.toList->Calls P f args' w (F8 p h w l)
 rnd:∀b ls fr h l,call (.rnd b ls fr) h=some l->∀(p:Pl) (w:World) (k n:Nat) (f:FuncId) (tmps:Array Value),R p h w->Gl C p->h.get b=some (.loop ls)->p[b]?=some (k,n)->EA p fr tmps->
  RoundIn yf 0 P k f tmps ls.asg ls.body w (F8 p h w l)
theorem Gm{o:Oper}{r:OR}(b:FH C fr h o=some r):∀c,o.op≠ .defer c:=by
 intro c e;rw[CG]at b;unfold FY at b;simp[e]at b
theorem E0{o:Oper}{r:OR}(b:H5 C fr h o=some r):∀c,o.op≠ .defer c:=by
 intro c e;unfold H5 at b;split at b
 case h_1=>rename_i d;exact Gm d c e
 case h_2=>rw[e]at b;cases b
theorem Rl{p':Pl}{l:List (V×H)}{r:List (Fr×H)}{d:Option Nat}(s:GQ fr d l=some r)(k:Cr p fr a){K:Act->World->Prop}
  (m:∀x∈r,∀p' b w',Cr p' x.1 b->Ext p h w p' x.2 w'->b.defers=a.defers->K b w') {v:V} {h':H} {v':Value} {w':World} (o:(v,h')∈l) (u:Ab p' v v') (c:Ext p h w p' h' w'):K (a.put d v') w':=by
 obtain⟨f,g,q⟩:=MW s v h' o;exact m _ q p' _ w' ((k.ext c).put u g) c (by cases d<;>rfl)
theorem XF(J:C.Ok P){call:Dc}(r:call.Ok C P)(y:R p h w)(A:Gl C p)(q:Cr p fr a){ops:Array Oper}{i:Nat}{o:Oper}(X:ops[i]?=some o){l:List (Fr×H)}
  (d:step1 C call ops o fr h=some l) {ro:Option Nat} {n:Nat} {Q:Exit->Act->World->Prop} {K:Act->World->Prop}
  (E:∀x∈l,∀p' M w',Cr p' x.1 M->Ext p h w p' x.2 w'->M.defers=a.defers->K M w'):wpOpIn (FW ro) n P ops Q i K a w:=by
 have D:∀v,(a.put o.dst v).defers=a.defers:=by intro v;cases o.dst<;>rfl
 unfold step1 at d;unfold wpOpIn;simp only[X];rw[Ps q];cases U:A1 fr ops o with
 |false=>
  simp only[U,wg]at d;simp only[zM,vf];refine⟨fun _ _=>trivial,?_⟩;split at d
  case h_2=>cases d
  rename_i F G;cases d;exact E _ (zy.2 rfl) p _ w (q.put (by simp[Ab,undef]) G) (zu y)<|D _
 |true=>
  simp only[U,we]at d;simp only[wk];refine⟨fun _ _=>trivial,?_⟩;split at d
  case h_6=>cases d
  case h_1=>
   rename_i v V c;split at d
   case h_2=>cases d
   rename_i F G;cases d;obtain⟨v',p',w',s,B,u⟩:=JG J y A q c;rw[yc _ _ _<|E0 c,s,Oper.uponIn_value];exact E _ (zy.2 rfl) p' _ w' ((q.ext u).put B G) u<|D _
  case h_2=>
   rename_i V c;split at d
   case h_2=>cases d
   rename_i F G;cases d;obtain⟨p',w',s,u⟩:=JG J y A q c;rw[yc _ _ _<|E0 c,s,Oper.uponIn_skip];exact E _ (zy.2 rfl) p' _ w' ((q.ext u).put (by simp[Ab,undef]) G) u<|D _
  case h_3=>
   rename_i f args c;split at d
   case h_2=>cases d
   rename_i L S;obtain⟨args',s,B⟩:=JG J y A q c;rw[yc _ _ _<|E0 c,s,Oper.uponIn_enter];refine⟨fun h=>(by simp[FW,yf]at h),U4.2<|(r.fn f args h L S p w args' y A B).mono ?_⟩;rintro e w' ⟨v,h',v',p',I,rfl,O,N⟩;exact Rl d q E I O N
  case h_4=>
   rename_i b ls f c;split at d
   case h_2=>cases d
   rename_i L S;obtain⟨k,m,g,tmps,s,B,u,W⟩:=JG J y A q c;rw[yc _ _ _<|E0 c,u,Oper.uponIn_round];refine⟨fun h=>(by simp[FW,yf]at h),(oD<|r.rnd b ls f h L S p w k m g tmps y A B s W).mono ?_⟩;rintro e w' ⟨v,h',v',p',I,rfl,O,N⟩;exact Rl d q E I O N
  case h_5=>
   rename_i L c;obtain⟨v,h',v',p',w',I,s,B,u⟩:=JG J y A q c;rw[yc _ _ _<|E0 c,s,Oper.uponIn_value];exact Rl d q E I B u
theorem SA(D:C.Ok P){call:Dc}(b:call.Ok C P){ops:Array Oper}{ro:Option Nat}{n:Nat}{Q:Exit->Act->World->Prop}:
  ∀(l:List Oper) (k:Nat),(∀j,l[j]?=ops[k+j]?)->∀ {p:Pl} {h:H} {w:World} {fr:Fr} {a:Act},R p h w->Gl C p->Cr p fr a->∀ {L:List (Fr×H)},Rn C call ops l fr h=some L->
  (∀x∈L,∀p' v w',Cr p' x.1 v->Ext p h w p' x.2 w'->v.defers=a.defers->Q .normal v w')->wpOpsIn (FW ro) n P ops Q (List.range' k l.length) a w
 |[],k,_,p,h,w,fr,a,A,m,q,L,d,B=>by
  cases d;exact B _ (zy.2 rfl) p a w q (zu A) rfl
 |o::l,k,E,p,h,w,fr,a,A,m,q,L,d,B=>by
  unfold Rn at d;split at d
  case h_2=>cases d
  rename_i V J;rw[List.length_cons,List.range'_succ,wpOpsIn_cons];refine XF D b A m q (by simpa using(E 0).symm) J (K:=wpOpsIn (FW ro) n P ops Q<|List.range' (k+1) l.length) fun x F U a1 S r c f=>?_
  obtain⟨L1,G,I⟩:=H2 d x F;exact SA D b l (k+1) (fun j=>by have:=E<|j+1;simpa [Nat.add_assoc,Nat.add_comm 1 j]using this) c.rel (m.ext c) r G
   fun y O N a2 M s u g=>B y (I y O) N a2 M s (c.trans u)<|g.trans f
theorem Un(k:C.Ok P){call:Dc}(b:call.Ok C P){ops:Array Oper}{ro:Option Nat}{n:Nat}{Q:Exit->Act->World->Prop}(l:R p h w)(d:Gl C p)(f:Cr p fr a){L:List (Fr×H)}
  (g:Rn C call ops ops.toList fr h=some L) {id:Nat}
  (m:∀x∈L,∀p' c w',Cr p' x.1 c->Ext p h w p' x.2 w'->c.defers=a.defers->Q .normal c w'):(Code.region id ops false).wpIn (FW ro) n P Q a w:=by
 refine wpIn_region ?_;have:=SA (Q:=Q) (ro:=ro) (n:=n) k b ops.toList 0 (fun j=>by simp) l d f g m;rw[List.range_eq_range'];simpa using this
end
theorem IB{C:Ctx}{fr fr':Fr}:∀ {xs:List Operand},(∀x∈xs,ev C fr x=ev C fr' x)->PY C fr xs=PY C fr' xs
 |[],_=>rfl
 |x::xs,h=>by
  unfold PY;rw[h x (by simp),IB<|fun y b=>h y<|by simp[b]]
theorem Ip{C:Ctx}{fr fr':Fr}:∀ {xs:List (Nat×Operand)},(∀x∈xs,ev C fr x.2=ev C fr' x.2)->UI C fr xs=UI C fr' xs
 |[],_=>rfl
 |(i,x)::xs,h=>by
  unfold UI;rw[h (i,x) (by simp),Ip<|fun y b=>h y<|by simp[b]]
theorem Ig{C:Ctx}{fr fr':Fr}{x:Option Operand}(h:∀y,x=some y->ev C fr y=ev C fr' y):TF C fr x=TF C fr' x:=by
 cases x with
 |none=>rfl
 |some y=>simp[TF,h y rfl]
theorem Yb{C:Ctx}{fr fr':Fr}{h:H}{o:Oper}(d:∀x∈o.op.operands,ev C fr x=ev C fr' x):FH C fr h o=FH C fr' h o:=by
 obtain⟨dst,op,m,pos,after,guard⟩:=o;cases op<;>simp only[Op.operands]at d<;>simp only[CG,FY]
 case build t ps=>rw[Ip fun x g=>d x.2<|by simp;exact⟨x.1,by simpa using g⟩]
 case buildSlice t n ps=>rw[Ip fun x g=>d x.2<|by simp;exact⟨x.1,by simpa using g⟩]
 case makeFunc f first captured=>rw[IB (xs:=first.toList) fun x g=>d x (by simp at g ⊢;exact .inl g),IB (xs:=captured.toList) fun x g=>d x<|by simp at g ⊢;exact .inr g]
 case makeMap t r=>rw[Ig fun y k=>d y<|by simp[k]]
 case slice t x lo s mx=>
  rw[d x (by simp),Ig (x:=lo) fun y k=>d y (by simp[k]),Ig (x:=s) fun y k=>d y (by simp[k]),Ig (x:=mx) fun y k=>d y<|by simp[k]]
 case call c=>
  obtain⟨callee,args,ts⟩:=c;rw[IB (xs:=args.toList) (fr:=fr) (fr':=fr') fun x g=>d x<|by simp at g;simp[Call.operands,g]];cases callee with
  |value f=>
   have l:=d f (by simp[Call.operands]);cases PY C fr' args.toList with
   |none=>rfl
   |some q=>simp only[l]
  |invoke f u=>
   have l:=d f (by simp[Call.operands]);cases PY C fr' args.toList with
   |none=>rfl
   |some q=>simp only[l]
  |builtin b=>cases PY C fr' args.toList<;>rfl
 all_goals (first|rfl|(simp_all;done))
def reads(ops:Array Oper)(o:Oper):List Tmp:=o.looksAt ops
theorem iM{C:Ctx}{fr fr':Fr}{x:Operand}(h:∀t,x=.tmp t->fr.get t=fr'.get t):ev C fr x=ev C fr' x:=by
 cases x with
 |tmp t=>simp only[ev,h t rfl]
 |_=>rfl
theorem mem_reads{ops:Array Oper}{o:Oper}{t:Tmp}(h:Operand.tmp t∈o.op.operands):t∈reads ops o:=
 List.mem_append_left _ (List.mem_filterMap.2 ⟨.tmp t,by simpa using h,rfl⟩)
theorem RC{fr fr':Fr}{ops:Array Oper}{o:Oper}(d:fr.n=fr'.n)(h:∀t∈reads ops o,fr.get t=fr'.get t):A1 fr ops o=A1 fr' ops o:=by
 unfold A1;cases c:o.guard with
 |none=>rfl
 |some f=>
  obtain⟨j,b⟩:=f;simp only;cases g:(ops[j]?).bind (·.dst)with
  |none=>rfl
  |some t=>
   simp only[d];rw[h t<|z6 _<|by simp[c,g]]
def MT(l:List Tmp)(fr:Fr):Fr:=⟨fr.n,l.foldr (fun t m=>m.set t<|some<|fr.get t) .leaf⟩
def HR(l:List Tmp)(a:Act):Act:={ a with tmps:=Array.ofFn (n:=a.tmps.size) fun t=>if l.contains t.1 then a.tmps.getD t undef else undef }
theorem KO(l:List Tmp)(fr:Fr)(t:Tmp):(MT l fr).get t=if t∈l then fr.get t else .tup []:=by
 unfold MT Fr.get;induction l with
 |nil=>simp
 |cons x l b=>
  simp only[List.foldr_cons,PM.CR,yy];by_cases e:t=x
  ·subst e;simp
  ·simp only[e,vf,false_or];exact b
theorem Lc(l:List Tmp)(a:Act)(t:Tmp):(HR l a).tmps.getD t undef=if t∈l then a.tmps.getD t undef else undef:=by
 unfold HR;by_cases h:t<a.tmps.size
 ·simp[h]
 ·simp only[zr];rw[zL (by simpa using zS h),zL<|zS h];simp
section
variable {C:Ctx}{P:Program}{p:Pl}{h:H}{w:World}{fr:Fr}{a:Act}
structure rS(p:Pl)(fr:Fr)(a:Act)(l:List Tmp):Prop where
 n:fr.n=a.tmps.size
 get:∀t∈l,Ab p (fr.get t) (a.tmps.getD t undef)
theorem rS.Oy{l:List Tmp}(c:rS p fr a l):Cr p (MT l fr) (HR l a):=by
 refine⟨by simp[MT,HR,c.n],fun t=>?_⟩;rw[KO,Lc];by_cases b:t∈l
 ·simp only[b,wk];exact c.get t b
 ·simp only[b,vf];simp[Ab,undef]
theorem IK{ops:Array Oper}{o:Oper}{x:Operand}(b:x∈o.op.operands):(HR (reads ops o) a).eval x=a.eval x:=by
 cases x with
 |tmp t=>
  have:=Lc (reads ops o) a t;rw[wd<|mem_reads b]at this;exact this
 |_=>rfl
theorem RE{ops:Array Oper}{o:Oper}{x:Operand}(c:x∈o.op.operands):ev C (MT (reads ops o) fr) x=ev C fr x:=by
 refine iM fun t b=>?_
 subst b;rw[KO,wd<|mem_reads c]
theorem IS(f:C.Ok P)(g:R p h w)(d:Gl C p){ops:Array Oper}{o:Oper}(k:rS p fr a (reads ops o))(m:∀cs b,o.op≠ .select cs b){r:OR}(q:FH C fr h o=some r):
  Q2 p h w r ((execOp a.eval o).run P w):=by
 have l:=YJ f g d k.Oy (o:=o) (r:=r) (by rw[Yb (fr':=fr) fun x c=>RE c];exact q);rwa [execOp_congr o m fun x c=>IK c]at l
theorem P6{ops:Array Oper}{o:Oper}(l:rS p fr a (reads ops o)):ym o (yielded ops a.tmps)=A1 fr ops o:=by
 have d:=Ps l.Oy ops o;rw[RC (fr:=MT (reads ops o) fr) (fr':=fr) (ops:=ops) (o:=o) rfl fun t c=>by rw[KO,wd c]]at d;rw[<-d];unfold ym;cases k:o.guard with
 |none=>rfl
 |some r=>
  obtain⟨j,f⟩:=r;simp only;congr 1;unfold yielded;cases m:(ops[j]?).bind (·.dst)with
  |none=>rfl
  |some t=>
   simp only[Option.bind_some];have c:t∈reads ops o:=z6 _ (by simp[k,m]);have:=Lc (reads ops o) a t;rw[wd c]at this;by_cases b:t<a.tmps.size
   ·have q:a.tmps[t]?=some (a.tmps.getD t undef):=by simp[b]
    have g:(HR (reads ops o) a).tmps[t]?=some ((HR (reads ops o) a).tmps.getD t undef):=by simp[HR,b]
    rw[q,g,this]
   ·rw[zL<|zS b,zL<|by simpa [HR]using zS b]
end
def DW(o:Oper):Bool:=
 match o.op with
 | .move _| .assign _| .pick .. | .build .. | .load .. | .nilCheck _| .binOp .. | .unOp .. | .convert .. | .makeInterface .. | .makeFunc .. | .slice .. | .fieldAddr .. | .field .. | .indexAddr .. | .index .. | .lookup .. | .extract .. =>true
 | .call { callee:=.builtin .len,.. }| .call { callee:=.builtin .max,.. }| .call { callee:=.builtin .min,.. }| .call { callee:=.builtin .unsafeSliceData,.. }=>true
 |_=>false
def Ol(o:Oper):Bool:=
 match o.op with
 | .load .. | .convert .. | .lookup .. =>true
 | .call { callee:=.builtin .len,.. }=>true
 |_=>false
def Ce(o:Oper):Bool:=
 match o.op with
 | .alloc _| .box .. | .buildSlice .. =>true
 |_=>false
theorem FF{h:H}{v:Option V}{r:OR}(b:Bp h v=some r):∃x,v=some x/\r=.val x h:=by
 cases v with
 |none=>cases b
 |some x=>cases b;exact⟨x,rfl,rfl⟩
theorem rd_val{C:Ctx}{fr:Fr}{h:H}{o:Oper}(g:DW o=true){r:OR}(d:FH C fr h o=some r):∃v,r=.val v h:=by
 obtain⟨dst,op,k,pos,after,guard⟩:=o;cases op<;>simp only[DW]at g<;>simp only[CG,FY]at d<;>try (cases g;done)
 case call c=>
  obtain⟨callee,args,ts⟩:=c;cases callee with
  |builtin b=>
   cases l:PY C fr args.toList with
   |none=>simp[l]at d
   |some m=>
    simp only[l]at d;cases b<;>first|(cases g;done)|(simp only[DZ]at d;obtain⟨x,_,rfl⟩:=FF d;exact⟨x,rfl⟩)
  |value f=>cases g
  |invoke=>cases g
 all_goals
  repeat' split at d
  all_goals first
   |(cases d;done)
   |(obtain⟨x,_,rfl⟩:=FF d;exact⟨x,rfl⟩)
theorem aD{C:Ctx}{fr:Fr}{h:H}{o:Oper}(g:DW o=true)(k:Ol o=false){v:V}(d:FH C fr h o=some (.val v h))(h':H):FH C fr h' o=some (.val v h'):=by
 have key:∀ {x:Option V},Bp h x=some (.val v h)->Bp h' x=some (.val v h'):=by
  intro x q;obtain⟨y,rfl,e⟩:=FF q;cases e;rfl
 obtain⟨dst,op,l,pos,after,guard⟩:=o;cases op<;>simp only[DW]at g<;>simp only[Ol]at k<;>simp only[CG,FY]at d ⊢<;>try (first|(cases g;done)|(cases k;done))
 case call c=>
  obtain⟨callee,args,ts⟩:=c;cases callee with
  |builtin b=>
   cases m:PY C fr args.toList with
   |none=>simp[m]at d
   |some r=>
    simp only[m]at d ⊢;cases b<;>first|(cases g;done)|(cases k;done)|(simp only[DZ]at d ⊢;exact key d)
  |value f=>cases g
  |invoke=>cases g
 all_goals
  repeat' split at d
  all_goals first
   |(cases d;done)
   |exact key d
   |(simp only[*];exact key d)
end Go.Det
