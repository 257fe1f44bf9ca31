import Derived.Test.YtmcnicakonagdaaGreatDoorX01
import Derived.IntWalk
import Derived.Laws.IdiomStrings
import Derived.Lib.UnsafeStr
import Derived.Lib.Builder
import Derived.RangeFuncRecord
import Derived.LoopNIn
import Derived.OrdersIn
import Derived.RangeFuncLeaves
/- A part of a proof (no law is stated here). Made by program out of texts by AI agents. -/
noncomputable section
open Go.Result renaming andThen_ok -> zc
open Go.Sem renaming run_bind -> zd, run_pure -> zf, run -> yc
open Option.some renaming injEq -> ze
open Option renaming map_eq_some_iff -> zg, map_some -> yx
open Nat renaming beq -> zh, blt -> zl, ble -> zt, mul_le_mul_right -> zz, ble_eq -> ya, le_of_not_lt -> yf, le_refl -> yi, blt_eq -> yq, add_mul -> qk, zero_add -> qp
open Go.Builtin renaming zeroCells -> zi, firstCells -> zk, append_ -> z6, nextslicecap -> yd, growBy -> yn, lenOf -> yt
open Array renaming getElem?_setIfInBounds_ne -> zj, toList_inj -> zm, getElem?_toList -> zn, getD_eq_getD_getElem? -> zr, getElem?_eq_none -> z7, size_append -> yz
open Prod.mk renaming injEq -> zo
open List renaming getElem?_take_of_lt -> zp, getElem?_eq_some_iff -> zx, mem_singleton -> zy, getElem?_map -> yb, getElem?_append_left -> yg, length_append -> yh, getElem?_cons_zero -> yj, getElem?_cons_succ -> yk, getElem?_toArray -> yo, mem_append_right -> yp, size_toArray -> y7, length_eq_zero_iff -> qe, all_cons -> qn, mem_cons -> qo
open Bool renaming and_eq_true -> zq, false_eq_true -> z8, or_eq_true -> qi
open Go.Det.Ext renaming refl -> zu, push -> qf, drew -> qj, put -> qm
open Go.Instr renaming sameBits -> zw, findAsking -> yr, findNow -> yu, range -> y8, sameNow -> y9, findKey -> qc, next -> qg, lookup -> qh, checkKey -> ql
open Go.Deferred renaming ofValue -> ye
open Go.Oper renaming semAt_eq -> yv
open Go.Question renaming forced -> yw
open Go.Fence renaming wide -> yy
open Go.Region renaming wanted -> qd
namespace Go.Det
section
variable {T:B3}{P:Program}{p:Pl}{h:H}{w:World}
def Qg(T:B3)(h:H)(t:TypeId)(len cap:V):Option (V×H):=
 match T.und t,len,cap with
 |some (.slice e),.int _ (.ofNat l),.int _ (.ofNat c)=>
  match T.inf e with
  |some i=>
   bif zt l c&&zl c 9223372036854775808&&zt (i.bytes*c) 281474976710656&&zl 0 i.zero.length&&zh i.zero.length i.size then
    some (.sl h.nx 0 l c 0,Ii h e (E2 i.zero (c*i.size)))
   else none
  |none=>none
 |_,_,_=>none
theorem wrap_small(c:Nat)(h:c<9223372036854775808):IntKind.i64.wrap (c:Int)=c:=IntWalk.i64_in _ (by omega)
theorem bM(hT:T.Ok P)(hr:R p h w){t:TypeId}{len cap:V}{len' cap':Value}(hl:Ac p len len')(hc:Ac p cap cap'){v:V}{h':H}(hd:Qg T h t len cap=some (v,h')):
  ∃v' p' w',(Instr.makeSlice t len' cap').run P w=.ok v' w'/\Ac p' v v'/\Ext p h w p' h' w':=by
 unfold Qg at hd;split at hd
 case h_2=>cases hd
 rename_i e k l k2 c hu;split at hd
 case h_2=>cases hd
 rename_i i hi;cases hcond:(zt l c&&zl c 9223372036854775808&&zt (i.bytes*c) 281474976710656&&zl 0 i.zero.length&&zh i.zero.length i.size)with
 |false=>simp[hcond]at hd
 |true=>
  simp only[hcond,we,ze,zo]at hd;obtain⟨rfl,rfl⟩:=hd;simp only[zq,ya,yq,Br,w5]at hcond;obtain⟨⟨⟨⟨c1,c2⟩,c3⟩,c4⟩,c5⟩:=hcond;simp only[Ac]at hl hc;subst hl hc;obtain⟨z,hz,hzr⟩:=Er hT hi;obtain⟨j,hj,hjb,_⟩:=Pq hT hi;obtain⟨n,he,hpn,hn⟩:=NG hr e (Jj (hzr p) c4 (c*i.size));refine⟨.slice (some ⟨w.heap.size,0,none⟩) l c,_,_,?_,?_,he⟩
  ·unfold Instr.makeSlice asInt asIntOf;simp only[zd,zf,Ax hT hu,zc,hj,Int.ofNat_eq_natCast,wrap_small c c2,wrap_small l (by omega),hjb];have e3:(i.bytes:Int)*(c:Int)=((i.bytes*c:Nat):Int):=(Int.natCast_mul _ _).symm;rw[e3];generalize i.bytes*c=q at c3 e3 ⊢;have n2:¬((decide ((c:Int)<0)||decide ((q:Int)>2^48))||decide ((l:Int)<0)||decide ((l:Int)>(c:Int)))=true:=by
    simp;omega
   rw[wc n2];simp only[zd,zc,run_askRoom,By hT hi,Int.toNat_natCast];by_cases h0:c*i.size=0
   ·rw[wd h0];have e1:(Array.map (fun x=>(#[]:Array Value)[x % (#[]:Array Value).size]!) (Array.range (c*i.size)))=Array.map (fun i_1=>z.cells[i_1 % z.cells.size]!) (Array.range (c*i.size)):=by simp[h0]
    simp only[zd,zf,zc,Cq];rw[e1]
   ·rw[wc h0];simp only[zd,hz,zf,zc,Cq]
  ·simp only[Ac];exact⟨_,n,c,hpn,rfl,c1,yi _,fun _=>rfl,by simp⟩
def src(h:H)(size:Nat)(x:V)(n:Nat):Option (List V):=
 match x with
 | .nils=>some []
 | .esl=>bif zh n 0 then some []else none
 | .es0=>bif zh n 0 then some []else none
 | .sl b off _ _ _=>rd h b off (n*size)
 | .str s=>some ((s.take n).map fun c=>.int .u8 c.toNat)
 |_=>none
def Po:V->Option Nat
 | .nils=>some 0
 | .esl=>some 0
 | .es0=>some 0
 | .sl _ _ len _ _=>some len
 | .str s=>some s.length
 |_=>none
theorem O2{x:V}{x':Value}(hx:Ac p x x'){n:Nat}(hd:Po x=some n):(yt x').run P w=.ok n w:=by
 unfold Po at hd;split at hd
 case h_1=>simp only[Ac]at hx;subst hx;cases hd;rfl
 case h_2=>simp only[Ac]at hx;obtain⟨_,_,rfl⟩:=hx;cases hd;rfl
 case h_3=>simp only[Ac]at hx;obtain⟨_,rfl⟩:=hx;cases hd;rfl
 case h_4=>simp only[Ac]at hx;obtain⟨_,_,_,_,rfl,_⟩:=hx;cases hd;rfl
 case h_5=>simp only[Ac]at hx;subst hx;cases hd;simp[yt,BF]
 case h_6=>cases hd
theorem KL(hr:R p h w){size n:Nat}{x:V}{x':Value}(hx:Ac p x x'){cs:List V}(hd:src h size x n=some cs):
  ∃vs:List Value,(zk size n x').run P w=.ok vs.toArray w/\As p cs vs:=by
 unfold src at hd;split at hd
 case h_6=>cases hd
 case h_1=>simp only[Ac]at hx;subst hx;cases hd;exact⟨[],rfl,by simp⟩
 case h_2=>
  simp only[Ac]at hx;obtain⟨a,c,rfl⟩:=hx;rw[Br]at hd;by_cases e:n=0
  ·subst e;simp only[decide_true,we,ze]at hd;subst hd;exact⟨[],by simp[zk,loadCells,loadCellsFrom],by simp⟩
  ·simp[e]at hd
 case h_3=>
  simp only[Ac]at hx;obtain⟨a,rfl⟩:=hx;rw[Br]at hd;by_cases e:n=0
  ·subst e;simp only[decide_true,we,ze]at hd;subst hd;exact⟨[],by simp[zk,loadCells,loadCellsFrom],by simp⟩
  ·simp[e]at hd
 case h_4=>
  simp only[Ac]at hx;obtain⟨r,m,c,hp,rfl,_⟩:=hx;obtain⟨r',m',vs,h1,h2,h3,_⟩:=run_loadCells (P:=P) hr hd;rw[hp]at h1;cases h1;exact⟨vs,h2,h3⟩
 case h_5=>
  rename_i s;simp only[Ac]at hx;subst hx;cases hd;refine⟨(s.take n).map fun c=>.int .u8 c.toNat,?_,?_⟩
  ·simp only[zk,zf];congr 1;apply Array.ext';simp[bytesOf,List.extract]
  ·apply As.mk (by simp);intro i d v h1 h2;simp only[yb]at h1 h2;cases hq:(s.take n)[i]? with
   |none=>simp[hq]at h1
   |some q=>simp[hq]at h1 h2;subst h1 h2;simp[Ac]
theorem Rj(newLen:Nat):∀(r c:Nat),c<newLen->yn newLen r c<=2*newLen+1000
 |0,c,h=>by simp[yn];omega
 |r+1,c,h=>by
  unfold yn;rw[wc (by omega)];by_cases h2:c+(c+768)/4<newLen
  ·exact Rj newLen r _ h2
  ·cases r with
   |zero=>simp[yn];omega
   |succ r=>unfold yn;rw[wd (by omega)];omega
theorem WB(need c:Nat)(h:c<need):yd need c<=2*need+1000:=by
 unfold yd;split
 ·omega
 ·split
  ·omega
  ·exact Rj need 4 c h
def isInt:TypeDesc->Bool
 | .int _=>true
 |_=>false
def OI:V->Bool
 | .str _=>false
 |_=>true
def Gk(T:B3)(h:H)(ts:Array TypeId)(args:List V):Option (V×H):=
 match ts[0]?,ts[1]?,args with
 |some t,some tx,[s,x]=>
  match T.und t,T.und tx,Po x with
  |some (.slice e),some dx,some n=>
   match T.inf e,isInt dx with
   |some i,false=>
    bif zl 0 i.bytes&&zl 0 i.size&&zh i.zero.length i.size&&(zh i.size 1||OI x)then
     match src h i.size x n with
     |some new=>
      match s with
      | .nils=>
       bif zh n 0 then some (.nils,h)
       else bif zt ((2*n+1000)*i.bytes) 281474976710656 then some (.sl h.nx 0 n n i.size,Ii h e new)else none
      | .es0=>
       bif zh n 0 then some (.es0,h)
       else bif zt ((2*n+1000)*i.bytes) 281474976710656 then some (.sl h.nx 0 n n i.size,Ii h e new)else none
      | .esl=>bif zh n 0 then some (.esl,h)else none
      | .sl b off len cap o=>
       bif zt (len+n) cap then(wr h b (off+len*i.size) new).map fun h'=>(.sl b off (len+n) cap o,h')
       else bif zt ((2*(len+n)+1000)*i.bytes) 281474976710656 then
        match src h i.size s len with
        |some old=>
         bif zh o 0 then some (.sl h.nx 0 (len+n) (len+n) i.size,Ii h e (old++new))
         else
          match h.get b with
          |some (.cells _ te fz)=>
           bif zh off 0&&zh o i.size&&zh te e&&zt fz.2 fz.1&&new.all V.one then some (.sl h.nx 0 (len+n) (len+n) i.size,(h.kill b).push (.cells (old++new) e (0,0)))
           else none
          |_=>none
        |none=>none
       else none
      |_=>none
     |none=>none
    else none
   |_,_=>none
  |_,_,_=>none
 |_,_,_=>none
theorem Rk{old new:List V}{vo vn:List Value}(h1:As p old vo)(h2:As p new vn)(rest:Array Value):
  As p (old++new) ((vo.toArray++vn.toArray++rest).toList.take (old++new).length):=by
 have l1:=h1.length;have l2:=h2.length;have:((vo.toArray++vn.toArray++rest).toList.take (old++new).length)=vo++vn:=by
  simp only[Array.toList_append,yh,l1,l2];rw[List.take_append_of_le_length (by simp)];rw[List.take_of_length_le (by simp)]
 rw[this];exact h1.append h2
section
variable {ts:Array TypeId}{t t0 tx e:TypeId}{dx:TypeDesc}{i:TI}{n:Nat}{x' z:Value}{j:TypeInfo}
theorem OY(hT:T.Ok P)(ht0:ts[0]?=some t0)(htx:ts[1]?=some tx)(hu:T.und t0=some (.slice e))(hux:T.und tx=some dx)(hdx:isInt dx=false)
  (hi:T.inf e=some i) (hn:∀w,(yt x').run P w=.ok n w) (base:Option Addr) (len' c:Nat) (hle:len'+n<=c):
  (z6 ts t #[.slice base len' c,x']).run P w=((zk i.size n x').run P w).andThen fun new w'=>((match base with|some a=>storeCells (a.add (len'*i.size)) new.toList|none=>pure ():Sem Unit).run P w').andThen fun _ w'=>.ok (.slice base (len'+n) c) w':=by
 unfold z6;cases dx<;>first|(cases hdx;done)|skip
 all_goals
  simp only[ht0,htx,yo,yj,yk,zd,Ax hT hu,Ax hT hux,By hT hi,zc,zf,z8,ve,hn,hle,wk,Bool.not_false];cases base with
  |none=>rfl
  |some b=>simp only[zd,zf]
theorem QD(hT:T.Ok P)(ht0:ts[0]?=some t0)(htx:ts[1]?=some tx)(hu:T.und t0=some (.slice e))(hux:T.und tx=some dx)(hdx:isInt dx=false)
  (hi:T.inf e=some i) (hpos:0<i.bytes) (hz:∀w,(zeroValue e).run P w=.ok z w) (hn:∀w,(yt x').run P w=.ok n w) (base:Option Addr) (len' c:Nat) (hlt:c<len'+n)
  (hcap:(2*(len'+n)+1000)*i.bytes<=281474976710656):
  ∃nc,len'+n<=nc/\(z6 ts t #[.slice base len' c,x']).run P w=((zk i.size len' (.slice base len' c)).run P { w with drawn:=w.drawn+1 }).andThen fun old w'=>
   ((zk i.size n x').run P w').andThen fun new w'=>
    .ok (.slice (some ⟨w'.heap.size,0,none⟩) (len'+n) nc) { w' with heap:=w'.heap.push (.cells (old++new++zi z.cells (nc-(len'+n))) e) }:=by
 obtain⟨j,hj,hjb,hjs⟩:=Pq hT hi;have hnc:=WB (len'+n) c hlt;have hle:yd (len'+n) c*i.bytes<=281474976710656:=Nat.le_trans (zz _ hnc) hcap;refine⟨(Question.appendCap (len'+n) c e).cut (w.tape w.drawn (.appendCap (len'+n) c e)),by simp[Question.cut],?_⟩;unfold z6;have h1:¬(len'+n<=c):=by omega
 have h2:¬(yd (len'+n) c*i.bytes>2^48):=by omega
 have h3:¬(i.bytes=0):=by omega
 cases dx<;>first|(cases hdx;done)|skip
 all_goals
  simp only[ht0,htx,yo,yj,yk,zd,Ax hT hu,Ax hT hux,By hT hi,zc,zf,z8,ve,hn,Bool.not_false,wk,
   h1,hj,hjb,h3,or_self,and_false,h2,run_choose,yw,run_askRoom,hz,Cq]
end
theorem Iq(z:Array Value)(n:Nat):(zi z n).size=n*z.size:=by simp[zi]
theorem Qd{size n:Nat}{x:V}{cs:List V}(hx:Po x=some n)(h1:size=1\/∀s,x≠ .str s)(hd:src h size x n=some cs):cs.length=n*size:=by
 unfold src at hd;split at hd
 case h_6=>cases hd
 case h_1=>cases hd;cases hx;simp
 case h_2=>
  cases hx;cases hd;simp
 case h_3=>
  cases hx;cases hd;simp
 case h_4=>
  rw[Yn]at hd;unfold yK at hd;split at hd
  case h_2=>cases hd
  split at hd
  case isFalse=>cases hd
  cases hd;simp;omega
 case h_5=>
  rename_i s;cases hd;cases hx;rcases h1 with rfl|h1
  ·simp
  ·exact wh rfl (h1 s)
theorem VX(hT:T.Ok P)(hr:R p h w){ts:Array TypeId}{t:TypeId}{args:List V}{args':Array Value}(ha:As p args args'.toList){v:V}{h':H}(hd:Gk T h ts args=some (v,h')):
  ∃v' p' w',(z6 ts t args').run P w=.ok v' w'/\Ac p' v v'/\Ext p h w p' h' w':=by
 unfold Gk at hd;split at hd
 case h_2=>cases hd
 rename_i t0 tx s x ht0 htx;obtain⟨s',x',hargs,hs,hx⟩:=ha.two;have ha0:args'[0]?=some s':=by rw[<-zn,hargs];rfl
 have ha1:args'[1]?=some x':=by rw[<-zn,hargs];rfl
 split at hd
 case h_2=>cases hd
 rename_i e dx n hu hux hxlen;split at hd
 case h_2=>cases hd
 rename_i i hi hdx;cases hcond:(zl 0 i.bytes&&zl 0 i.size&&zh i.zero.length i.size&&(zh i.size 1||OI x))with
 |false=>simp[hcond]at hd
 |true=>
  simp only[hcond,we]at hd;simp only[zq,yq,Br,w5,qi]at hcond;obtain⟨⟨⟨c1,c2⟩,c3⟩,c4⟩:=hcond;have c5:i.size=1\/∀s,x≠ .str s:=c4.imp id (fun h s e=>by subst e;cases h);split at hd
  case h_2=>cases hd
  rename_i new hnew;have hnl:=Qd hxlen c5 hnew;obtain⟨vn,hvn,hvnr⟩:=KL (P:=P) hr hx hnew;obtain⟨j,hj,hjb,hjs⟩:=Pq hT hi;obtain⟨z,hz,hzr⟩:=Er hT hi;have hzl:=(hzr p).length;simp at hzl;have hne:args'= #[s',x']:=by apply Array.ext';simpa using hargs
  subst hne;have hlenx:∀w,(yt x').run P w=.ok n w:=fun w=>O2 hx hxlen
  have none0:∀(base:Option Addr) (c:Nat),n=0->(z6 ts t #[.slice base 0 c,x']).run P w=.ok (.slice base 0 c) w:=by
   intro base c h0;rw[OY hT ht0 htx hu hux hdx hi hlenx base 0 c (by omega),hvn];have hv0:vn=[]:=by
    have h1:=hvnr.length;rw[hnl,h0,Nat.zero_mul]at h1;exact qe.1 h1.symm
   subst hv0;cases base<;>simp[h0,storeCells]
  have some0:∀(base:Option Addr),¬n=0->(2*n+1000)*i.bytes<=281474976710656->∃v' p' w',(z6 ts t #[.slice base 0 0,x']).run P w=.ok v' w'/\Ac p' (.sl h.nx 0 n n i.size) v'/\Ext p h w p' (Ii h e new) w':=by
   intro base h0 hb;obtain⟨nc,hnc,hrun⟩:=QD (w:=w) (t:=t) hT ht0 htx hu hux hdx hi c1 hz hlenx base 0 0 (by omega) (by simpa using hb);simp only[qp]at hrun hnc;have hd1:=qj hr (w.drawn+1);obtain⟨vn',hvn',hvnr'⟩:=KL (P:=P) hd1.rel hx hnew;have hne2:=qf (n:=nc*i.size) hd1.rel (o:=.cells new e (0,0)) (x:=.cells (#[]++vn'.toArray++zi z.cells (nc-n)) e) ?_
   ·refine⟨.slice (some ⟨w.heap.size,0,none⟩) n nc,_,_,?_,?_,hd1.trans hne2⟩
    ·rw[hrun];have hf:∀w,(zk i.size 0 (Value.slice base 0 0)).run P w=.ok #[] w:=by
      intro w;cases base<;>simp[zk,loadCells,loadCellsFrom]
     simp only[hf,zc,hvn']
    ·simp only[Ac];refine⟨w.heap.size,nc*i.size,nc,by rw[<-hr.len];simp,rfl,yi _,by omega,fun h=>by omega,fun _=>by omega⟩
   ·have hl:=hvnr'.length;have hsz:(#[]++vn'.toArray++zi z.cells (nc-n)).size=nc*i.size:=by
     have:vn'.length=n*i.size:=by omega
     simp only[yz,Iq,y7,y7,this, <-hzl,c3,Nat.sub_mul];have:n*i.size<=nc*i.size:=zz _ (by omega);simp;omega
    refine⟨_,(0,0),rfl,hsz,?_,?_,fun i _ h1 h2=>⟨h1,h2⟩⟩
    ·rw[hnl];exact zz _ (by omega)
    ·have:=Rk (p:=p) (old:=[]) (vo:=[]) (by simp) hvnr' (zi z.cells (nc-n));simpa using this.toC
  split at hd
  case h_5=>cases hd
  case h_1=>
   simp only[Ac]at hs;subst hs;rw[Br]at hd;by_cases h0:n=0
   ·simp only[h0,decide_true,we,ze,zo]at hd;obtain⟨rfl,rfl⟩:=hd;exact⟨.slice none 0 0,p,w,none0 none 0 h0,by simp[Ac],zu hr⟩
   ·simp only[h0,decide_false,wg]at hd;cases hb:zt ((2*n+1000)*i.bytes) 281474976710656 with
    |false=>simp[hb]at hd
    |true=>
     simp only[hb,we,ze,zo]at hd;obtain⟨rfl,rfl⟩:=hd;rw[ya]at hb;exact some0 none h0 hb
  case h_2=>
   simp only[Ac]at hs;obtain⟨a0,rfl⟩:=hs;rw[Br]at hd;by_cases h0:n=0
   ·simp only[h0,decide_true,we,ze,zo]at hd;obtain⟨rfl,rfl⟩:=hd;exact⟨_,p,w,none0 (some a0) 0 h0,by simp[Ac],zu hr⟩
   ·simp only[h0,decide_false,wg]at hd;cases hb:zt ((2*n+1000)*i.bytes) 281474976710656 with
    |false=>simp[hb]at hd
    |true=>
     simp only[hb,we,ze,zo]at hd;obtain⟨rfl,rfl⟩:=hd;rw[ya]at hb;exact some0 (some a0) h0 hb
  case h_3=>
   simp only[Ac]at hs;obtain⟨a0,c0,rfl⟩:=hs;rw[Br]at hd;by_cases h0:n=0
   ·simp only[h0,decide_true,we,ze,zo]at hd;obtain⟨rfl,rfl⟩:=hd;exact⟨_,p,w,none0 (some a0) c0 h0,by simp[Ac],zu hr⟩
   ·simp[h0]at hd
  case h_4=>
   rename_i b off len cap o;simp only[Ac]at hs;obtain⟨r,m,c,hp,rfl,hlen,hcap,ho1,ho2⟩:=hs;cases hle:zt (len+n) cap with
   |true=>
    simp only[hle,we,zg,zo]at hd;obtain⟨h1,hw,rfl,rfl⟩:=hd;rw[ya]at hle;obtain⟨r',m',w',g1,g2,g3⟩:=S5 (P:=P) hr hvnr hw;rw[hp]at g1;cases g1;refine⟨.slice (some ⟨r,off,none⟩) (len+n) c,p,w',?_,?_,g3⟩
    ·rw[OY hT ht0 htx hu hux hdx hi hlenx _ len c (by omega),hvn];simp only[zc,Addr.Hm,g2]
    ·simp only[Ac];exact⟨r,m,c,hp,rfl,hle,hcap,ho1,ho2⟩
   |false=>
    simp only[hle,wg]at hd;have hle':¬(len+n<=cap):=by rw[<-ya,hle];simp
    cases hb:zt ((2*(len+n)+1000)*i.bytes) 281474976710656 with
    |false=>simp[hb]at hd
    |true=>
     simp only[hb,we]at hd;rw[ya]at hb;split at hd
     case h_2=>cases hd
     rename_i old hold;have hol:=Qd (x:=.sl b off len cap o) (n:=len) rfl (.inr (fun s e=>by cases e)) hold;have hsrel:∀q:Pl,(∃q',q=p++q')->Ac q (.sl b off len cap o) (.slice (some ⟨r,off,none⟩) len c):=by
      rintro q ⟨q',rfl⟩;exact Ac.mono q' (by simp only[Ac];exact⟨r,m,c,hp,rfl,hlen,hcap,ho1,ho2⟩)
     have fresh:∀(_:c<len+n) (h2:H),R p h2 { w with drawn:=w.drawn+1 }->h2.nx=h.nx->
       ∃v' p' w',(z6 ts t #[.slice (some ⟨r,off,none⟩) len c,x']).run P w=.ok v' w'/\Ac p' (.sl h.nx 0 (len+n) (len+n) i.size) v'/\
        Ext p h2 { w with drawn:=w.drawn+1 } p' (h2.push (.cells (old++new) e (0,0))) w':=by
      intro hlt h2 hr2 hnx;obtain⟨nc,hnc,hrun⟩:=QD (w:=w) (t:=t) hT ht0 htx hu hux hdx hi c1 hz hlenx (some ⟨r,off,none⟩) len c hlt hb;have hd1:=qj hr (w.drawn+1);obtain⟨vn',hvn',hvnr'⟩:=KL (P:=P) hd1.rel hx hnew;obtain⟨vo',hvo',hvor'⟩:=KL (P:=P) (x:=.sl b off len cap o) hd1.rel (hsrel p ⟨[],by simp⟩) hold;have hl:=hvnr'.length;have hl2:=hvor'.length;have hsz:(vo'.toArray++vn'.toArray++zi z.cells (nc-(len+n))).size=nc*i.size:=by
       have e1:vn'.length=n*i.size:=by omega
       have e2:vo'.length=len*i.size:=by omega
       simp only[yz,Iq,y7,e1,e2, <-hzl,c3,Nat.sub_mul,qk];have:(len+n)*i.size<=nc*i.size:=zz _ (by omega);rw[qk]at this;omega
      have hne2:=qf (n:=nc*i.size) hr2 (o:=.cells (old++new) e (0,0)) (x:=.cells (vo'.toArray++vn'.toArray++zi z.cells (nc-(len+n))) e)
       ⟨_,(0,0),rfl,hsz,by rw[yh,hol,hnl, <-qk];exact zz _ (by omega),(Rk hvor' hvnr' _).toC,fun i _ h1 h2=>⟨h1,h2⟩⟩
      refine⟨.slice (some ⟨w.heap.size,0,none⟩) (len+n) nc,_,_,?_,?_,hne2⟩
      ·rw[hrun,hvo'];simp only[zc,hvn']
      ·simp only[Ac];refine⟨w.heap.size,nc*i.size,nc,?_,rfl,yi _,by omega,fun h=>by omega,fun _=>by omega⟩;rw[<-hnx, <-hr2.len];simp
     rw[Br]at hd;by_cases h0:o=0
     ·simp only[h0,decide_true,we,ze,zo]at hd;obtain⟨rfl,rfl⟩:=hd;have:=ho1 h0;have hd1:=qj hr (w.drawn+1);obtain⟨v',p',w',k1,k2,k3⟩:=fresh (by omega) h hd1.rel rfl;exact⟨v',p',w',k1,k2,hd1.trans k3⟩
     ·simp only[h0,decide_false,wg]at hd;split at hd
      case h_2=>cases hd
      rename_i cs te fz hbk;cases hc2:(zh off 0&&zh o i.size&&zh te e&&zt fz.2 fz.1&&new.all V.one)with
      |false=>simp[hc2]at hd
      |true=>
       simp only[hc2,we,ze,zo]at hd;obtain⟨rfl,rfl⟩:=hd;simp only[zq,ya,Br,w5,List.all_eq_true]at hc2;obtain⟨⟨⟨⟨rfl,rfl⟩,rfl⟩,d4⟩,d5⟩:=hc2;by_cases hfit:len+n<=c
       ·
        obtain⟨r',m',cc,fz',g1,g2,g3,g4,g5,g6,g7⟩:=cell_of hr hbk;rw[hp]at g1;cases g1;have hm:=ho2 h0;have hl:=hvnr.length;have hone:∀v∈vn,v.oneCell'=true:=by
         intro v hv;obtain⟨k,hk⟩:=List.mem_iff_getElem?.1 hv;have hk':=(zx.1 hk).1;obtain⟨u,hu1,hu2⟩:=hvnr.get (i:=k) (d:=new[k]'(by omega)) (by simp);rw[hk]at hu1;cases hu1;exact hu2.one (d5 _ (List.getElem_mem _))
        have hbnd:len*i.size+n*i.size<=c*i.size:=by rw[<-qk];exact zz _ hfit
        obtain⟨cc',k1,k2,k3⟩:=FR (P:=P) vn w cc (len*i.size) 0 g2 (by omega) hone (by
         rintro k _ hk ⟨q1,q2⟩;have:=g7 (len*i.size+k) (by omega) q1 q2;omega)
        have hrd:old=cs.take (len*i.size)/\len*i.size<=cs.length:=by
         unfold src at hold;simp only[Yn]at hold;unfold yK at hold;simp only[hbk,qp,List.drop_zero]at hold;split at hold
         ·rename_i hc0;cases hold;exact⟨rfl,hc0.1⟩
         ·cases hold
        refine⟨.slice (some ⟨r,0,none⟩) (len+n) c,p++[(r,m)],{ w with heap:=w.heap.setIfInBounds r (.cells cc' te fz') },?_,?_,Ext.move hr (o':=.cells (old++new) te (0,0)) hbk hp ⟨cc',fz',rfl,by omega,?_,?_,?_⟩ rfl rfl rfl rfl (fun _ _ _ e1 hlk=>by cases e1;obtain⟨l1,_,l3⟩:=hlk;omega)⟩
        ·rw[OY hT ht0 htx hu hux hdx hi hlenx _ len c hfit,hvn];simp only[zc,Addr.Hm,qp,k1]
        ·simp only[Ac];exact⟨r,m,c,by rw[<-hr.len];simp,rfl,yi _,hfit,fun h=>by omega,fun _=>hm⟩
        ·rw[yh,hol,hnl];omega
        ·refine⟨?_,?_⟩
         ·simp;omega
         ·intro k d v hdk hvk hokk;have hkl:k<(old++new).length:=(zx.1 hdk).1;rw[zp hkl,k3]at hvk;rw[yh,hol,hnl]at hkl;simp only[Nat.add_zero,yb]at hvk;rw[List.getElem?_range (by omega)]at hvk;simp only[yx,ze]at hvk;by_cases hk:k<len*i.size
          ·rw[yg (by omega),hrd.1,zp hk]at hdk;rw[wc (by omega)]at hvk;obtain⟨u,hu1,hu2⟩:=g5.get hdk hokk;rw[zp (by omega)]at hu1;simp only[List.getD,hu1,Option.getD_some]at hvk;exact hvk▸hu2
          ·rw[List.getElem?_append_right (by omega),hol]at hdk;rw[wd (by omega)]at hvk;obtain⟨u,hu1,hu2⟩:=hvnr.get hdk;simp only[List.getD,hu1,Option.getD_some]at hvk;exact hvk▸hu2
        ·intro k hk q1 q2;have:=g7 k hk q1 q2;omega
       ·have hk:=Ext.kill hr b;have hd1:=qj hk.rel (w.drawn+1);obtain⟨v',p',w',k1,k2,k3⟩:=fresh (by omega) (h.kill b) hd1.rel rfl;exact⟨v',p',w',k1,k2,(hk.trans hd1).trans k3⟩
def gU(T:B3)(h:H)(ts:Array TypeId)(args:List V):Option (V×H):=
 match ts[0]?,args with
 |some t,[d,x]=>
  match T.und t,Po d,Po x with
  |some (.slice e),some dl,some n=>
   match T.inf e with
   |some i=>
    match src h i.size x (Nat.min n dl)with
    |some new=>
     match d with
     | .nils=>some (i64 (Nat.min n dl),h)
     | .sl b off _ _ _=>(wr h b off new).map fun h'=>(i64 (Nat.min n dl),h')
     |_=>none
    |none=>none
   |none=>none
  |_,_,_=>none
 |_,_=>none
theorem kP(hT:T.Ok P)(hr:R p h w){ts:Array TypeId}{t:TypeId}{args:List V}{args':Array Value}(ha:As p args args'.toList){v:V}{h':H}(hd:gU T h ts args=some (v,h')):
  ∃v' p' w',(Builtin.copy_ ts t args').run P w=.ok v' w'/\Ac p' v v'/\Ext p h w p' h' w':=by
 unfold gU at hd;split at hd
 case h_2=>cases hd
 rename_i t0 d x ht0;obtain⟨d',x',hargs,hdr,hx⟩:=ha.two;have hne:args'= #[d',x']:=by apply Array.ext';simpa using hargs
 subst hne;split at hd
 case h_2=>cases hd
 rename_i e dl n hu hdl hn;split at hd
 case h_2=>cases hd
 rename_i i hi;split at hd
 case h_2=>cases hd
 rename_i new hnew;obtain⟨vn,hvn,hvnr⟩:=KL (P:=P) hr hx hnew;unfold Builtin.copy_;simp only[ht0,yo,yj,yk,zd,Ax hT hu,zc];split at hd
 case h_3=>cases hd
 case h_1=>
  simp only[Ac]at hdr;subst hdr;simp only[Po,ze]at hdl;subst hdl;cases hd;simp only[zd,O2 hx hn,By hT hi,zc,hvn];refine⟨_,p,w,zf ..,?_,zu hr⟩;simp[i64,Ac,goInt]
 case h_2=>
  rename_i b off len cap o;simp only[Po,ze]at hdl;subst hdl;simp only[Ac]at hdr;obtain⟨r,m,c,hp,rfl,_⟩:=hdr;rw[zg]at hd;obtain⟨h1,hw,he⟩:=hd;cases he;obtain⟨r',m',w',g1,g2,g3⟩:=S5 (P:=P) hr hvnr hw;rw[hp]at g1;cases g1;simp only[zd,O2 hx hn,By hT hi,zc,hvn,g2];refine⟨_,p,w',zf ..,?_,g3⟩;simp[i64,Ac,goInt]
def Te(T:B3)(h:H)(t:TypeId)(x:V):Option (V×H):=
 match T.und t,x with
 |some .string,.str s=>some (.ptr h.nx 0,h.push (.siter s 0))
 |_,_=>none
theorem Zf(hT:T.Ok P)(hr:R p h w){t:TypeId}{x:V}{x':Value}(hx:Ac p x x'){v:V}{h':H}(hd:Te T h t x=some (v,h')):
  ∃v' p' w',(y8 t x').run P w=.ok v' w'/\Ac p' v v'/\Ext p h w p' h' w':=by
 unfold Te at hd;split at hd
 case h_2=>cases hd
 rename_i s hu;cases hd;simp only[Ac]at hx;subst hx;have he:=qf (n:=0) hr (o:=.siter s 0) (x:=.stringIter (bytesOf s) 0) rfl;refine⟨.pointer (some ⟨w.heap.size,0,none⟩),_,_,?_,?_,he⟩
 ·unfold y8;simp only[zd,Ax hT hu,zc,zf,run_newObj]
 ·simp only[Ac];exact⟨w.heap.size,0,by rw[<-hr.len];simp,rfl⟩
def MK(h:H)(it:V)(isStr:Bool):Option (V×H):=
 match it,isStr with
 | .ptr b 0,true=>
  match h.get b with
  |some (.siter s pos)=>
   bif zl pos s.length then
    some (.tup [.bool true,i64 pos,.int .i32 (Utf8.decode (bytesOf s) pos).1],h.put b (.siter s (pos+(Utf8.decode (bytesOf s) pos).2)))
   else some (.tup [.bool false],h)
  |_=>none
 |_,_=>none
theorem fQ(hr:R p h w){it:V}{it':Value}{isStr:Bool}{t:TypeId}(hx:Ac p it it'){v:V}{h':H}(hd:MK h it isStr=some (v,h')):
  ∃v' p' w',(qg it' isStr t).run P w=.ok v' w'/\Ac p' v v'/\Ext p h w p' h' w':=by
 unfold MK at hd;split at hd
 case h_2=>cases hd
 rename_i b;simp only[Ac]at hx;obtain⟨r,n,hp,rfl⟩:=hx;split at hd
 case h_2=>cases hd
 rename_i s pos hb;obtain⟨r',n',x,h1,h2,h3⟩:=hr.obj _ _ hb;rw[hp]at h1;cases h1;simp only[Hg]at h3;subst h3;rw[GX]at hd;unfold qg;simp only[zd,getObj,yc,h2,zc,BF];by_cases hlt:pos<s.length
 ·simp only[hlt,decide_true,we,ze,zo]at hd;obtain⟨rfl,rfl⟩:=hd;simp only[hlt,wk,zd,setObj,yc,h2,zc];refine⟨_,p,_,zf ..,?_,qm hr hb hp (o':=.siter s (pos+(Utf8.decode (bytesOf s) pos).2)) rfl rfl rfl rfl rfl⟩;simp[Ac,i64,goInt]
 ·simp only[hlt,decide_false,wg,ze,zo]at hd;obtain⟨rfl,rfl⟩:=hd;simp only[hlt,ve];exact⟨_,p,w,zf ..,by simp[Ac],zu hr⟩
def IG(h:H)(r:Option V):Option (V×H):=
 match r with
 |none=>some (.map h.nx,h.push (.map [] 0))
 |some _=>none
theorem Vr(hr:R p h w){t:TypeId}{r:Option V}{r':Option Value}(hx:FI p r r'){v:V}{h':H}(hd:IG h r=some (v,h')):
  ∃v' p' w',(Instr.makeMap t r').run P w=.ok v' w'/\Ac p' v v'/\Ext p h w p' h' w':=by
 unfold IG at hd;split at hd
 case h_2=>cases hd
 cases hd;simp only[FI]at hx;subst hx;have he:=qf (n:=0) hr (o:=.map [] 0) (x:=.map #[] 0) ⟨#[],rfl,.nil⟩;refine⟨.map (some w.heap.size),_,_,?_,?_,he⟩
 ·unfold Instr.makeMap;simp
 ·simp only[Ac];exact⟨w.heap.size,0,by rw[<-hr.len];simp,rfl⟩
def jC(T:B3)(kt:TypeId)(a b:V):Option Bool:=
 match T.und kt,a,b with
 |some (.int _),.int k x,.int k' y=>if k=k' then some (x==y)else none
 |some .string,.str x,.str y=>some (x==y)
 |some .bool,.bool x,.bool y=>some (x==y)
 |_,_,_=>none
def LH(T:B3)(kt:TypeId)(k:V):List (V×V×Nat)->Nat->Option (Option (Nat×V))
 |[],_=>some none
 |(a,v,_)::es,i=>
  match jC T kt k a with
  |some true=>some (some (i,v))
  |some false=>LH T kt k es (i+1)
  |none=>none
def plainKey:V->Bool
 | .int .. | .str _| .bool _=>true
 |_=>false
theorem bytes_beq(x y:ByteArray):(x==y)=(x.data==y.data):=rfl
theorem Ya{kt:TypeId}{a b:V}{a' b':Value}(ha:Ac p a a')(hb:Ac p b b'){r:Bool}(hd:jC T kt a b=some r){d:TypeDesc}(hu:T.und kt=some d):
  y9 d a' b'=some r/\(r=true->a'=b'):=by
 unfold jC at hd;split at hd
 case h_1=>
  rename_i hu';rw[hu]at hu';cases hu';simp only[Ac]at ha hb;subst ha hb;split at hd
  ·rename_i e;subst e;cases hd;exact⟨by simp[y9],fun h=>by simp at h;subst h;rfl⟩
  ·cases hd
 case h_2=>
  rename_i hu';rw[hu]at hu';cases hu';simp only[Ac]at ha hb;subst ha hb;cases hd;refine⟨?_,fun h=>by simp at h;subst h;rfl⟩;simp only[y9];congr 1;rw[bytes_beq,Bool.eq_iff_iff];simp[bytesOf]
 case h_3=>
  rename_i hu';rw[hu]at hu';cases hu';simp only[Ac]at ha hb;subst ha hb;cases hd;exact⟨rfl,fun h=>by simp at h;subst h;rfl⟩
 case h_4=>cases hd
theorem hI{kt:TypeId}{k:V}{k':Value}(hk:Ac p k k'){d:TypeDesc}(hu:T.und kt=some d):
  ∀ {es:List (V×V×Nat)} {l:List MapEntry},DL p es l->∀ {i:Nat} {r:Option (Nat×V)},LH T kt k es i=some r->
  ∃r',yu d k' l i=some r'/\(match r with|none=>r'=none|some (j,v)=>∃v',r'=some (j,v')/\Ac p v v'/\i<=j/\∃e,l[j-i]?=some e/\e.key=k'):=by
 intro es l he;induction he with
 |nil=>intro i r hd;simp only[LH,ze]at hd;subst hd;exact⟨none,rfl,rfl⟩
 |@cons a v b es e l h1 h2 h3 _ ih=>
  intro i r hd;unfold LH at hd;split at hd
  case h_1=>
   rename_i hq;cases hd;obtain⟨g1,g2⟩:=Ya hk h1 hq hu;exact⟨some (i,e.val),by simp[yu,g1],e.val,rfl,h2,yi _,e,by simp,(g2 rfl).symm⟩
  case h_2=>
   rename_i hq;obtain⟨g1,_⟩:=Ya hk h1 hq hu;obtain⟨r',k1,k2⟩:=ih hd;refine⟨r',by simp[yu,g1,k1],?_⟩;cases r with
   |none=>exact k2
   |some jv=>
    obtain⟨j,v⟩:=jv;obtain⟨v',m1,m2,m3,e',m4,m5⟩:=k2;refine⟨v',m1,m2,by omega,e',?_,m5⟩;have:j-i=(j-(i+1))+1:=by omega
    rw[this];simpa using m4
  case h_3=>cases hd
theorem run_checkKey{k:V}{k':Value}(hk:Ac p k k')(hp:plainKey k=true)(hT:T.Ok P){kt:TypeId}{d:TypeDesc}(hu:T.und kt=some d)(hs:DW d=false)(hi:∀ms,d≠ .interface ms)(b:Bool):
  (ql b 10000 kt k').run P w=.ok () w:=by
 unfold ql;rw[zd,Ax hT hu];simp only[zc];cases k<;>simp only[plainKey]at hp<;>simp only[Ac]at hk
 case bool|int|str=>
  subst hk;cases d<;>first|rfl|(cases hs;done)|exact wh rfl (hi _)
 all_goals cases hp
def bZ:TypeDesc->Bool
 | .int _| .string| .bool=>true
 |_=>false
theorem Zz{d:TypeDesc}(h:bZ d=true):DW d=false/\∀ms,d≠ .interface ms:=by
 cases d<;>first|(cases h;done)|exact⟨rfl,fun ms e=>by cases e⟩
theorem Qr{k:V}{k':Value}(hk:Ac p k k')(hp:plainKey k=true):zw 10000 k' k'=true:=by
 cases k<;>simp only[plainKey]at hp<;>simp only[Ac]at hk
 case bool=>subst hk;simp[zw]
 case int=>subst hk;simp[zw]
 case str=>subst hk;simp[zw,bytes_beq]
 all_goals cases hp
theorem Ug{a b:V}{a' b':Value}(ha:Ac p a a')(hb:Ac p b b')(h:DK a b=some true):a'=b':=by
 unfold DK at h;split at h
 case h_1=>simp only[Ac]at ha hb;subst ha hb;simp at h;subst h;rfl
 case h_2=>
  split at h
  ·rename_i e;subst e;simp only[Ac]at ha hb;subst ha hb;simp at h;subst h;rfl
  ·cases h
 case h_3=>simp only[Ac]at ha hb;subst ha hb;simp at h;subst h;rfl
 case h_4=>cases h
theorem Lu:∀ {xs ys:List V} {x y:List Value},As p xs x->As p ys y->BU xs ys=some true->x=y
 |[],[],x,y,hx,hy,_=>by simp at hx hy;subst hx hy;rfl
 |[],_::_,_,_,_,_,h=>by simp[BU]at h
 |_::_,[],_,_,_,_,h=>by simp[BU]at h
 |a::AcJ,b::bs,x,y,hx,hy,h=>by
  simp only[As]at hx hy;obtain⟨u,us,rfl,h1,h2⟩:=hx;obtain⟨v,vs,rfl,h3,h4⟩:=hy;unfold BU at h;split at h
  case h_1=>
   rename_i hc;rw[Ug h1 h3 hc,Lu h2 h4 h]
  case h_2=>split at h<;>cases h
  case h_3=>cases h
theorem T3:∀ {ks:List FK} {xs:List V} {x:List Value},fit ks xs=true->As p xs x->(x.zip x).all (fun(a,b)=>zw 9999 a b)=true
 |[],[],x,_,hx=>by simp at hx;subst hx;rfl
 |[],_::_,_,h,_=>by simp[fit]at h
 |_::_,[],_,h,_=>by simp[fit]at h
 |k::ks,v::vs,x,h,hx=>by
  simp only[As]at hx;obtain⟨u,us,rfl,h1,h2⟩:=hx;unfold fit at h;cases hk:k.ok v with
  |false=>simp[hk]at h
  |true=>
   simp only[hk,we]at h;have h3:=T3 h h2;simp only[List.zip_cons_cons,qn,h3,Bool.and_true];unfold FK.ok at hk;split at hk
   case h_1=>simp only[Ac]at h1;subst h1;simp[zw]
   case h_2=>simp only[Ac]at h1;subst h1;simp[zw,bytes_beq]
   case h_3=>simp only[Ac]at h1;subst h1;simp[zw]
   case h_4=>cases hk
def O0(ks:List FK)(k:List V):List (V×V×Nat)->Nat->Option (Option (Nat×V))
 |[],_=>some none
 |(a,v,_)::es,i=>
  match a with
  | .agg ys=>match MT (some ks) k ys with
   |some true=>some (some (i,v))
   |some false=>O0 ks k es (i+1)
   |none=>none
  |_=>none
def IF(T:B3)(kt:TypeId)(d:TypeDesc)(k:V):Bool:=
 match k with
 | .agg xs=>match T.flat kt with
  |some ks=>fit ks xs
  |none=>false
 |k=>plainKey k&&bZ d
def JW(T:B3)(kt:TypeId)(k:V)(es:List (V×V×Nat)):Option (Option (Nat×V)):=
 match k with
 | .agg xs=>match T.flat kt with
  |some ks=>O0 ks xs es 0
  |none=>none
 |k=>LH T kt k es 0
theorem PQ(hT:T.Ok P){kt:TypeId}{ks:List FK}(hf:T.flat kt=some ks){xs:List V}{x:Array Value}(hx:As p xs x.toList):
  ∀ {es:List (V×V×Nat)} {l:List MapEntry},DL p es l->∀ {i:Nat} {r:Option (Nat×V)},O0 ks xs es i=some r->
  ∃r',(yr kt (.agg x) l i).run P w=.ok r' w/\(match r with|none=>r'=none|some (j,v)=>∃v',r'=some (j,v')/\Ac p v v'/\i<=j/\∃e,l[j-i]?=some e/\e.key=.agg x):=by
 intro es l he;induction he with
 |nil=>intro i r hd;simp only[O0,ze]at hd;subst hd;exact⟨none,rfl,rfl⟩
 |@cons a v b es e l h1 h2 h3 _ ih=>
  intro i r hd;unfold O0 at hd;split at hd
  case h_2=>cases hd
  rename_i ys;simp only[Ac]at h1;obtain⟨y,hy,h1⟩:=h1;split at hd
  case h_3=>cases hd
  case h_1=>
   rename_i hc;cases hd;obtain⟨l',e1,g1,g2,g3⟩:=HU hc;cases e1;refine⟨some (i,e.val),?_,e.val,rfl,h2,yi _,e,by simp,?_⟩
   ·simp only[yr,zd,hy,hT.flat kt ks hf p xs ys x y true w g1 g2 hx h1 g3,zc,wk,zf]
   ·rw[hy];have:=Lu hx h1 g3;congr 1;exact(zm.1 this).symm
  case h_2=>
   rename_i hc;obtain⟨l',e1,g1,g2,g3⟩:=HU hc;cases e1;obtain⟨r',k1,k2⟩:=ih hd;refine⟨r',?_,?_⟩
   ·simp only[yr,zd,hy,hT.flat kt ks hf p xs ys x y false w g1 g2 hx h1 g3,zc,z8,ve];exact k1
   ·cases r with
    |none=>exact k2
    |some jv=>
     obtain⟨j,v⟩:=jv;obtain⟨v',m1,m2,m3,e',m4,m5⟩:=k2;refine⟨v',m1,m2,by omega,e',?_,m5⟩;have:j-i=(j-(i+1))+1:=by omega
     rw[this];simpa using m4
theorem Jw(hT:T.Ok P){kt:TypeId}{d:TypeDesc}(hu:T.und kt=some d){k:V}{k':Value}(hk:Ac p k k')(hc:IF T kt d k=true)(b:Bool):
  (ql b 10000 kt k').run P w=.ok () w:=by
 unfold IF at hc;split at hc
 case h_1=>
  rename_i xs;split at hc
  case h_2=>cases hc
  rename_i ks hf;simp only[Ac]at hk;obtain⟨x,rfl,hx⟩:=hk;exact hT.key kt ks hf p xs x b w hc hx
 case h_2=>
  simp only[zq]at hc;obtain⟨g1,g2⟩:=Zz hc.2;exact run_checkKey hk hc.1 hT hu g1 g2 b
theorem Xg{kt:TypeId}{d:TypeDesc}{k:V}{k':Value}(hk:Ac p k k')(hc:IF T kt d k=true):zw 10000 k' k'=true:=by
 unfold IF at hc;split at hc
 case h_1=>
  rename_i xs;split at hc
  case h_2=>cases hc
  rename_i ks hf;simp only[Ac]at hk;obtain⟨x,rfl,hx⟩:=hk;have:=T3 hc hx;simp only[zw,beq_self_eq_true,Bool.true_and];exact this
 case h_2=>
  simp only[zq]at hc;exact Qr hk hc.1
def entries(h:H)(m:V):Option (List (V×V×Nat)):=
 match m with
 | .nilm=>some []
 | .map b=>match h.get b with
  |some (.map es _)=>some es
  |_=>none
 |_=>none
def EP(T:B3)(h:H)(t:TypeId)(m k:V)(ok:Bool):Option V:=
 match T.und t with
 |some (.map kt e)=>
  match T.und kt,entries h m with
  |some d,some es=>
   bif IF T kt d k then
    match JW T kt k es with
    |some (some (_,v))=>some (bif ok then .tup [v,.bool true]else v)
    |some none=>match T.inf e with
     |some i=>some (bif ok then .tup [i.zv,.bool false]else i.zv)
     |none=>none
    |none=>none
   else none
  |_,_=>none
 |_=>none
theorem LU(hr:R p h w){m:V}{m':Value}(hm:Ac p m m'){es:List (V×V×Nat)}(hd:entries h m=some es):
  (m'=.map none/\es=[])\/∃r l cl b n,m=.map b/\m'=.map (some r)/\p[b]?=some (r,n)/\h.get b=some (.map es cl)/\w.heap[r]?=some (.map l cl)/\DL p es l.toList:=by
 unfold entries at hd;split at hd
 case h_1=>simp only[Ac]at hm;subst hm;cases hd;exact .inl ⟨rfl,rfl⟩
 case h_2=>
  simp only[Ac]at hm;obtain⟨r,n,hp,rfl⟩:=hm;split at hd
  case h_2=>cases hd
  rename_i es' cl hb;cases hd;obtain⟨r',n',o,h1,h2,l,h3,h4⟩:=hr.obj _ _ hb;rw[hp]at h1;cases h1;subst h3;exact .inr ⟨r,l,cl,_,_,rfl,rfl,hp,hb,h2,h4⟩
 case h_3=>cases hd
theorem run_findKey(hT:T.Ok P){kt:TypeId}{k:V}{k':Value}(hk:Ac p k k'){d:TypeDesc}(hu:T.und kt=some d){es:List (V×V×Nat)}{l:List MapEntry}(he:DL p es l)
  {r:Option (Nat×V)} (hd:JW T kt k es=some r):
  ∃r',(qc kt k' l).run P w=.ok r' w/\(match r with|none=>r'=none|some (j,v)=>∃v',r'=some (j,v')/\Ac p v v'/\∃e,l[j]?=some e/\e.key=k'):=by
 by_cases hk2:∃xs,k=.agg xs
 ·obtain⟨xs,rfl⟩:=hk2;simp only[JW]at hd;cases hf:T.flat kt with
  |none=>simp[hf]at hd
  |some ks=>
   simp only[hf]at hd;simp only[Ac]at hk;obtain⟨x,rfl,hx⟩:=hk;obtain⟨fs,hfs⟩:=hT.kind kt ks hf;rw[hu]at hfs;cases hfs;obtain⟨r',h1,h2⟩:=PQ (P:=P) (w:=w) hT hf hx he hd;refine⟨r',?_,?_⟩
   ·unfold qc;simp only[zd,Ax hT hu,zc];cases l with
    |nil=>simp only[yu];simpa [yr]using h1
    |cons e l=>simp only[yu,y9];exact h1
   ·cases r with
    |none=>exact h2
    |some jv=>
     obtain⟨j,v⟩:=jv;obtain⟨v',m1,m2,m3,e',m4,m5⟩:=h2;exact⟨v',m1,m2,e',by simpa using m4,m5⟩
 ·have hq:JW T kt k es=LH T kt k es 0:=by cases k<;>first|rfl|exact wh ⟨_,rfl⟩ hk2
  rw[hq]at hd;obtain⟨r',h1,h2⟩:=hI hk hu he hd;refine⟨r',?_,?_⟩
  ·unfold qc;simp only[zd,Ax hT hu,zc,h1,zf]
  ·cases r with
   |none=>exact h2
   |some jv=>
    obtain⟨j,v⟩:=jv;obtain⟨v',m1,m2,m3,e',m4,m5⟩:=h2;exact⟨v',m1,m2,e',by simpa using m4,m5⟩
theorem WC(hT:T.Ok P)(hr:R p h w){t:TypeId}{m k:V}{m' k':Value}{ok:Bool}(hm:Ac p m m')(hk:Ac p k k'){v:V}(hd:EP T h t m k ok=some v):
  ∃v',(qh t m' k' ok).run P w=.ok v' w/\Ac p v v':=by
 unfold EP at hd;split at hd
 case h_2=>cases hd
 rename_i kt e hu;split at hd
 case h_2=>cases hd
 rename_i d es hkd hes;cases hc:IF T kt d k with
 |false=>simp[hc]at hd
 |true=>
  simp only[hc,we]at hd;obtain⟨l,hlr,hrun⟩:∃l:List MapEntry,DL p es l/\(qh t m' k' ok).run P w=((qc kt k' l).run P w).andThen fun r w'=>
    match r with
    |some (_,v)=>.ok (if ok then .tuple #[v,.bool true]else v) w'
    |none=>((zeroValue e).run P w').andThen fun z w'=>.ok (if ok then .tuple #[z,.bool false]else z) w':=by
   rcases LU hr hm hes with⟨rfl,rfl⟩|⟨r,l,cl,b,n,rfl,rfl,hp,hb,hw,he⟩
   ·refine⟨[],.nil,?_⟩;unfold qh;simp only[zd,Ax hT hu,zc,zf,Jw hT hkd hk hc];congr 1;funext r w'
    cases r<;>simp
   ·refine⟨l.toList,he,?_⟩;unfold qh;simp only[zd,Ax hT hu,zc,zf,Jw hT hkd hk hc,getObj,yc,hw];congr 1;funext r w'
    cases r<;>simp
  rw[hrun];split at hd
  case h_3=>cases hd
  case h_1=>
   rename_i j v0 hf;cases hd;obtain⟨r',k1,v',rfl,k3,_⟩:=run_findKey (P:=P) (w:=w) hT hk hkd hlr hf;simp only[k1,zc];cases ok
   ·exact⟨v',by simp,by simpa using k3⟩
   ·exact⟨.tuple #[v',.bool true],by simp,by simp only[we,Ac];exact⟨_,rfl,by simp[k3,Ac]⟩⟩
  case h_2=>
   rename_i hf;split at hd
   case h_2=>cases hd
   rename_i i hi;cases hd;obtain⟨r',k1,k2⟩:=run_findKey (P:=P) (w:=w) hT hk hkd hlr hf;simp only at k2;subst k2;obtain⟨z,hz,hzr⟩:=uX hT hi;simp only[k1,zc,hz];cases ok
   ·exact⟨z,by simp,by simpa using hzr p⟩
   ·exact⟨.tuple #[z,.bool false],by simp,by simp only[we,Ac];exact⟨_,rfl,by simp[hzr p,Ac]⟩⟩
def Wn(es:List (V×V×Nat))(i:Nat)(k v:V):List (V×V×Nat):=es.modify i fun e=>(k,v,e.2.2)
theorem DL.modify{es:List (V×V×Nat)}{l:List MapEntry}(he:DL p es l){k v:V}{k' v':Value}(hk:Ac p k k')(hv:Ac p v v')(i:Nat):
  DL p (Wn es i k v) (l.modify i fun e=>{ e with key:=k',val:=v' }):=by
 unfold Wn;induction he generalizing i with
 |nil=>simp;exact .nil
 |@cons a x b es e l h1 h2 h3 h4 ih=>
  cases i with
  |zero=>simp;exact .cons hk hv h3 h4
  |succ i=>simp;exact .cons h1 h2 h3 (ih i)
theorem DL.snoc{es:List (V×V×Nat)}{l:List MapEntry}(he:DL p es l){k v:V}{e:MapEntry}(hk:Ac p k e.key)(hv:Ac p v e.val):DL p (es++[(k,v,e.born)]) (l++[e]):=by
 induction he with
 |nil=>exact .cons hk hv rfl .nil
 |cons h1 h2 h3 _ ih=>exact .cons h1 h2 h3 ih
def HD(T:B3)(h:H)(t:TypeId)(m k v:V):Option H:=
 match T.und t,m with
 |some (.map kt _),.map b=>
  match T.und kt,h.get b with
  |some d,some (.map es cl)=>
   bif IF T kt d k then
    match JW T kt k es with
    |some (some (i,_))=>some (h.put b (.map (Wn es i k v) cl))
    |some none=>some (h.put b (.map (es++[(k,v,cl)]) (cl+1)))
    |none=>none
   else none
  |_,_=>none
 |_,_=>none
theorem Vz(hT:T.Ok P)(hr:R p h w){t:TypeId}{m k v:V}{m' k' v':Value}(hm:Ac p m m')(hk:Ac p k k')(hv:Ac p v v'){h':H}(hd:HD T h t m k v=some h'):
  ∃w',(Instr.mapUpdate t m' k' v').run P w=.ok () w'/\Ext p h w p h' w':=by
 unfold HD at hd;split at hd
 case h_2=>cases hd
 rename_i kt e b hu;split at hd
 case h_2=>cases hd
 rename_i d es cl hkd hb;cases hc:IF T kt d k with
 |false=>simp[hc]at hd
 |true=>
  simp only[hc,we]at hd;rcases LU (es:=es) hr hm (by simp only[entries,hb])with⟨rfl,_⟩|⟨r,l,cl',b',n,e1,rfl,hp,hb',hw,he⟩
  ·simp[Ac]at hm
  ·cases e1;rw[hb]at hb';cases hb';unfold Instr.mapUpdate;simp only[zd,Ax hT hu,zc,Jw hT hkd hk hc,getObj,yc,hw];split at hd
   case h_3=>cases hd
   case h_1=>
    rename_i j v0 hf;cases hd;obtain⟨r',k1,v1,rfl,k3,en,k4,k5⟩:=run_findKey (P:=P) (w:=w) hT hk hkd he hf;simp only[k1,zc];have hold:(l[j]?.map (·.key)).getD k'=k':=by
     have:l[j]?=some en:=by simpa using k4
     simp[this,k5]
    rw[hold];unfold Instr.keyThatStays;simp only[Xg hk hc,wk,zd,zf,zc,setObj,yc,hw];refine⟨_,rfl,qm hr hb hp (o':=.map (Wn es j k v) cl) ⟨_,rfl,?_⟩ rfl rfl rfl rfl⟩;have:=he.modify hk hv j;simpa using this
   case h_2=>
    rename_i hf;cases hd;obtain⟨r',k1,k2⟩:=run_findKey (P:=P) (w:=w) hT hk hkd he hf;simp only at k2;subst k2;simp only[k1,zc,setObj,yc,hw];refine⟨_,rfl,qm hr hb hp (o':=.map (es++[(k,v,cl)]) (cl+1)) ⟨_,rfl,?_⟩ rfl rfl rfl rfl⟩;have:=he.snoc (e:={ key:=k',val:=v',born:=cl }) hk hv;simpa using this
def Hs(T:B3)(h:H)(t:TypeId)(x:V):Option (V×H):=
 match T.und t,x with
 |some (.map _ _),.nilm=>some (.ptr h.nx 0,h.push (.miter none 0 [] 0))
 |some (.map _ _),.map b=>match h.get b with
  |some (.map _ cl)=>some (.ptr h.nx 0,h.push (.miter (some b) cl [] cl))
  |_=>none
 |_,_=>Te T h t x
theorem Wu(hT:T.Ok P)(hr:R p h w){t:TypeId}{x:V}{x':Value}(hx:Ac p x x'){v:V}{h':H}(hd:Hs T h t x=some (v,h')):
  ∃v' p' w',(y8 t x').run P w=.ok v' w'/\Ac p' v v'/\Ext p h w p' h' w':=by
 unfold Hs at hd;split at hd
 case h_1=>
  rename_i hu;cases hd;simp only[Ac]at hx;subst hx;have he:=qf (n:=0) hr (o:=.miter none 0 [] 0) (x:=.mapIter none 0 #[] 0) rfl;refine⟨.pointer (some ⟨w.heap.size,0,none⟩),_,_,?_,?_,he⟩
  ·unfold y8;simp only[zd,Ax hT hu,zc,zf,run_newObj]
  ·simp only[Ac];exact⟨w.heap.size,0,by rw[<-hr.len];simp,rfl⟩
 case h_2=>
  rename_i b hu;split at hd
  case h_2=>cases hd
  rename_i es cl hb;cases hd;simp only[Ac]at hx;obtain⟨r,n,hp,rfl⟩:=hx;obtain⟨r',n',o,h1,h2,l,h3,h4⟩:=hr.obj _ _ hb;rw[hp]at h1;cases h1;subst h3;have hp':(p++[(w.heap.size,0)])[b]?=some (r,n):=by rw[yg (zx.1 hp).1];exact hp
  have he:=qf (n:=0) hr (o:=.miter (some b) cl [] cl) (x:=.mapIter (some r) cl #[] cl) ⟨r,n,hp,rfl⟩;refine⟨.pointer (some ⟨w.heap.size,0,none⟩),_,_,?_,?_,he⟩
  ·unfold y8;simp only[zd,Ax hT hu,zc,zf,getObj,yc,h2,run_newObj]
  ·simp only[Ac];exact⟨w.heap.size,0,by rw[<-hr.len];simp,rfl⟩
 case h_3=>exact Zf hT hr hx hd
def SA(h:H)(it:V)(isStr:Bool):Option (List (V×H)):=
 match it,isStr with
 | .ptr b 0,false=>
  match h.get b with
  |some (.miter none _ _ _)=>some [(.tup [.bool false],h)]
  |some (.miter (some m) since seen last)=>
   match h.get m with
   |some (.map es cl)=>
    bif es.all (fun e=>zl e.2.2 since)&&zt since last then
     match es.filter (fun e=> !seen.contains e.2.2)with
     |[]=>some [(.tup [.bool false],h)]
     |left=>some (left.map fun e=>(.tup [.bool true,e.1,e.2.1],h.put b (.miter (some m) since (seen++[e.2.2]) cl)))
    else none
   |_=>none
  |_=>none
 |_,_=>none
theorem DL.get{es:List (V×V×Nat)}{l:List MapEntry}(he:DL p es l):∀ {i:Nat} {e:MapEntry},l[i]?=some e->∃k v,es[i]?=some (k,v,e.born)/\Ac p k e.key/\Ac p v e.val:=by
 induction he with
 |nil=>intro i e h;simp at h
 |@cons k v b es e0 l h1 h2 h3 _ ih=>
  intro i e h;cases i with
  |zero=>simp at h;subst h;exact⟨k,v,by simp[h3],h1,h2⟩
  |succ i=>simp at h;simpa using ih h
theorem DL.filter{es:List (V×V×Nat)}{l:List MapEntry}(he:DL p es l)(q:Nat->Bool):DL p (es.filter fun e=>q e.2.2) (l.filter fun e=>q e.born):=by
 induction he with
 |nil=>exact .nil
 |@cons k v b es e0 l h1 h2 h3 _ ih=>
  simp only[List.filter_cons,h3];cases q b with
  |false=>exact ih
  |true=>exact .cons h1 h2 h3 ih
theorem DL.all{es:List (V×V×Nat)}{l:List MapEntry}(he:DL p es l)(q:Nat->Bool):(es.all fun e=>q e.2.2)=l.all fun e=>q e.born:=by
 induction he with
 |nil=>rfl
 |@cons k v b es e0 l h1 h2 h3 _ ih=>simp only[qn,h3,ih]
theorem DL.find{es:List (V×V×Nat)}{l:List MapEntry}(he:DL p es l)(q:Nat->Bool){e:V×V×Nat}(hf:es.find? (fun e=>q e.2.2)=some e):∃e',l.find? (fun e=>q e.born)=some e'/\Ac p e.1 e'.key/\Ac p e.2.1 e'.val:=by
 induction he with
 |nil=>simp at hf
 |@cons k v b es e0 l h1 h2 h3 _ ih=>
  simp only[List.find?_cons,h3]at hf ⊢;cases hq:q b with
  |false=>simp only[hq]at hf ⊢;exact ih hf
  |true=>simp only[hq]at hf ⊢;cases hf;exact⟨e0,rfl,h1,h2⟩
theorem kW(n:Nat)(hn:0<n):∃i d,(choose (.mapNext n)).run P w=.ok i { w with drawn:=d }/\i<n:=by
 rw[run_choose];by_cases h1:n<=1
 ·refine⟨0,w.drawn,?_,hn⟩;simp[yw,h1]
 ·refine⟨w.tape w.drawn (.mapNext n) % n,w.drawn+1,?_,Nat.mod_lt _ hn⟩;simp[yw,h1,Question.cut]
theorem Zr(hr:R p h w){it:V}{it':Value}{isStr:Bool}{t:TypeId}(hx:Ac p it it'){l:List (V×H)}(hd:SA h it isStr=some l):
  ∃v h' v' p' w',(v,h')∈l/\(qg it' isStr t).run P w=.ok v' w'/\Ac p' v v'/\Ext p h w p' h' w':=by
 unfold SA at hd;split at hd
 case h_2=>cases hd
 rename_i b;simp only[Ac]at hx;obtain⟨r,n,hp,rfl⟩:=hx;split at hd
 case h_3=>cases hd
 case h_1=>
  rename_i since seen last hb;cases hd;obtain⟨r',n',x,h1,h2,h3⟩:=hr.obj _ _ hb;rw[hp]at h1;cases h1;simp only[Hg]at h3;subst h3;refine⟨_,_,.tuple #[.bool false],p,w,zy.2 rfl,?_,by simp[Ac],zu hr⟩;unfold qg;simp only[zd,getObj,yc,h2,zc];rfl
 case h_2=>
  rename_i m since seen last hb;split at hd
  case h_2=>cases hd
  rename_i es cl hm;cases hc:(es.all (fun e=>zl e.2.2 since)&&zt since last)with
  |false=>simp[hc]at hd
  |true=>
   simp only[hc,we]at hd;simp only[zq,ya]at hc;obtain⟨c1,c2⟩:=hc;obtain⟨r',n',x,h1,h2,h3⟩:=hr.obj _ _ hb;rw[hp]at h1;cases h1;simp only[Hg]at h3;obtain⟨rm,nm,hpm,rfl⟩:=h3;obtain⟨r2,n2,x2,k1,k2,l2,k3,k4⟩:=hr.obj _ _ hm;rw[hpm]at k1;cases k1;subst k3;rw[k4.all fun b=>zl b since]at c1;have hold:∀e∈l2.toList,e.born<since:=by
    intro e he;have:=List.all_eq_true.1 c1 e he;simpa using this
   have hno:(!seen.toArray.isEmpty&& !l2.isEmpty&&l2.all (·.born>=last))=false:=by
    cases hl:l2.toList with
    |nil=>
     have:l2= #[]:=zm.1 hl;simp[this]
    |cons e0 rest=>
     have hm0:e0∈l2.toList:=by rw[hl];simp
     have h0:=hold e0 hm0;have:l2.all (·.born>=last)=false:=by
      rw[<-Array.all_toList,hl,qn];have:(decide (e0.born>=last))=false:=by simp;omega
      rw[this];rfl
     rw[this];simp
   have hfil:(l2.filter fun e=> !seen.toArray.contains e.born).toList=l2.toList.filter fun e=> !seen.contains e.born:=by
    simp
   have hleft:=k4.filter fun b=> !seen.contains b
   have e1:((l2.filter fun e=> !seen.toArray.contains e.born).filter (·.born<since))=l2.filter fun e=> !seen.toArray.contains e.born:=by
    apply zm.1;rw[Array.toList_filter,List.filter_eq_self];intro e he;rw[hfil]at he;simpa using hold e ((List.mem_filter.1 he).1)
   have e2:((l2.filter fun e=> !seen.toArray.contains e.born).filter (·.born>=since))= #[]:=by
    apply zm.1;rw[Array.toList_filter];simp only[List.filter_eq_nil_iff];intro e he;rw[hfil]at he;have:=hold e ((List.mem_filter.1 he).1);simp;omega
   unfold qg;simp only[zd,getObj,yc,h2,zc,k2];rw[wc (by rw[hno];simp)];simp only[e1,e2,Array.append_empty];generalize hL:(l2.filter fun e=> !seen.toArray.contains e.born)=L at*;rw[<-hfil]at hleft;have hlen:=hleft.length;split at hd
   case h_1=>
    rename_i hnil;cases hd;have hL0:L= #[]:=by
     apply zm.1;apply qe.1;rw[<-hlen,hnil];rfl
    subst hL0;refine⟨_,_,.tuple #[.bool false],p,w,zy.2 rfl,?_,by simp[Ac],zu hr⟩;simp[zd,yw]
   case h_2=>
    rename_i left hne;cases hd;have hpos:0<L.size:=by
     have:L.toList.length=L.size:=by simp
     rw[<-this, <-hlen];cases hq:es.filter (fun e=> !seen.contains e.2.2)with
     |nil=>exact wh hq hne
     |cons _ _=>simp
    have hemp:L.isEmpty=false:=by simp[Array.isEmpty];intro h0;rw[h0]at hpos;simp at hpos
    simp only[hemp,z8,ve,Array.empty_append,Array.size_map];obtain⟨i,d,g1,g2⟩:=kW (P:=P) (w:=w) L.size hpos;simp only[zd,g1,zc];have hi:L[i]?=some L[i]:=by simp[g2]
    obtain⟨k,v,q1,q2,q3⟩:=hleft.get (i:=i) (e:=L[i]) (by simp[g2]);simp only[Array.getElem?_map,hi,yx,zd];have hdr:=qj hr d;have hput:=qm hdr.rel hb hp (o':=.miter (some m) since (seen++[L[i].born]) cl) (x':=.mapIter (some rm) since (seen.toArray.push L[i].born) cl) ⟨rm,nm,hpm,by simp⟩
     (w':={ { w with drawn:=d }with heap:=w.heap.setIfInBounds r (.mapIter (some rm) since (seen.toArray.push L[i].born) cl) }) rfl rfl rfl rfl
    refine⟨.tup [.bool true,k,v],_,.tuple #[.bool true,L[i].key,L[i].val],p,_,List.mem_map.2 ⟨(k,v,L[i].born),List.mem_of_getElem? q1,rfl⟩,?_,?_,hdr.trans hput⟩
    ·simp[setObj,yc,h2]
    ·simp only[Ac];exact⟨_,rfl,by simp[Ac,q2,q3]⟩
def SO(h:H)(it:V):Option V:=
 match it with
 | .ptr b 0=>
  match h.get b with
  |some (.miter (some m) _ seen last)=>
   match h.get m with
   |some (.map es cl)=>
    bif zh cl last then
     match seen.getLast? with
     |some s=>match es.find? (fun e=>zh e.2.2 s)with
      |some e=>some (.tup [e.1,e.2.1])
      |none=>none
     |none=>none
    else none
   |_=>none
  |_=>none
 |_=>none
theorem ZC(hr:R p h w){it:V}{it':Value}(hx:Ac p it it'){v:V}(hd:SO h it=some v):∃v',(Instr.entry it').run P w=.ok v' w/\Ac p v v':=by
 unfold SO at hd;split at hd
 case h_2=>cases hd
 rename_i b;simp only[Ac]at hx;obtain⟨r,n,hp,rfl⟩:=hx;split at hd
 case h_2=>cases hd
 rename_i m since seen last hb;split at hd
 case h_2=>cases hd
 rename_i es cl hm;rw[Br]at hd;by_cases hcl:cl=last
 ·simp only[hcl,decide_true,we]at hd;split at hd
  case h_2=>cases hd
  rename_i s hs;split at hd
  case h_2=>cases hd
  rename_i e hf;cases hd;obtain⟨r',n',x,h1,h2,h3⟩:=hr.obj _ _ hb;rw[hp]at h1;cases h1;simp only[Hg]at h3;obtain⟨rm,nm,hpm,rfl⟩:=h3;obtain⟨r2,n2,x2,k1,k2,l2,k3,k4⟩:=hr.obj _ _ hm;rw[hpm]at k1;cases k1;subst k3;obtain⟨e',q1,q2,q3⟩:=k4.find (fun b=>zh b s) hf;refine⟨.tuple #[e'.key,e'.val],?_,by simp only[Ac];exact⟨_,rfl,by simp[q2,q3]⟩⟩;unfold Instr.entry;have hback:seen.toArray.back?=some s:=by rw[Array.back?_eq_getElem?];simp[List.getLast?_eq_getElem?]at hs ⊢;exact hs
  have hfind:l2.find? (fun e=>e.born==s)=some e':=by
   rw[<-Array.find?_toList, <-q1];congr 1;funext e
   rw[Br];rw[Bool.eq_iff_iff];simp
  simp only[zd,getObj,yc,h2,zc,k2,hback,hcl,bne_self_eq_false,z8,ve,hfind,zf]
 ·simp[hcl]at hd
theorem DL.erase{es:List (V×V×Nat)}{l:List MapEntry}(he:DL p es l)(i:Nat):DL p (es.eraseIdx i) (l.eraseIdx i):=by
 induction he generalizing i with
 |nil=>simp;exact .nil
 |@cons k v b es e0 l h1 h2 h3 h4 ih=>
  cases i with
  |zero=>simpa using h4
  |succ i=>simp;exact .cons h1 h2 h3 (ih i)
def Kq(T:B3)(h:H)(ts:Array TypeId)(args:List V):Option (V×H):=
 match ts[0]?,args with
 |some mt,[.map b,k]=>
  match T.und mt with
  |some (.map kt _)=>
   match T.und kt,h.get b with
   |some d,some (.map es cl)=>
    bif IF T kt d k then
     match JW T kt k es with
     |some (some (i,_))=>some (.tup [],h.put b (.map (es.eraseIdx i) cl))
     |some none=>some (.tup [],h.put b (.map es cl))
     |none=>none
    else none
   |_,_=>none
  |_=>none
 |_,_=>none
theorem Wp(hT:T.Ok P)(hr:R p h w){ts:Array TypeId}{t:TypeId}{args:List V}{args':Array Value}(ha:As p args args'.toList){v:V}{h':H}(hd:Kq T h ts args=some (v,h')):
  ∃v' p' w',(Builtin.delete_ ts t args').run P w=.ok v' w'/\Ac p' v v'/\Ext p h w p' h' w':=by
 unfold Kq at hd;split at hd
 case h_2=>cases hd
 rename_i mt b k ht;obtain⟨m',k',hargs,hm,hk⟩:=ha.two;have ha0:args'[0]?=some m':=by rw[<-zn,hargs];rfl
 have ha1:args'[1]?=some k':=by rw[<-zn,hargs];rfl
 split at hd
 case h_2=>cases hd
 rename_i kt e hu;split at hd
 case h_2=>cases hd
 rename_i d es cl hkd hb;cases hc:IF T kt d k with
 |false=>simp[hc]at hd
 |true=>
  simp only[hc,we]at hd;rcases LU (es:=es) hr hm (by simp only[entries,hb])with⟨rfl,_⟩|⟨r,l,cl',b',n,e1,rfl,hp,hb',hw,he⟩
  ·simp[Ac]at hm
  ·cases e1;rw[hb]at hb';cases hb';unfold Builtin.delete_;simp only[ht,ha0,ha1,zd,Ax hT hu,zc,getObj,yc,hw,Jw hT hkd hk hc];split at hd
   case h_3=>cases hd
   case h_1=>
    rename_i j v0 hf;cases hd;obtain⟨r',k1,v1,rfl,k3,en,k4,k5⟩:=run_findKey (P:=P) (w:=w) hT hk hkd he hf;refine⟨.tuple #[],p,{ w with heap:=w.heap.setIfInBounds r (.map (l.eraseIdxIfInBounds j) cl) },?_,by simp[Ac],qm hr hb hp (o':=.map (es.eraseIdx j) cl) ⟨_,rfl,?_⟩ rfl rfl rfl rfl⟩
    ·simp only[k1,zc];simp[setObj,yc,hw]
    ·have:=he.erase j;simpa using this
   case h_2=>
    rename_i hf;cases hd;obtain⟨r',k1,k2⟩:=run_findKey (P:=P) (w:=w) hT hk hkd he hf;simp only at k2;subst k2;refine⟨.tuple #[],p,{ w with heap:=w.heap.setIfInBounds r (.map l cl) },?_,by simp[Ac],qm hr hb hp (o':=.map es cl) ⟨_,rfl,he⟩ rfl rfl rfl rfl⟩;simp only[k1,zc];simp[setObj,yc,hw]
def FF(T:B3)(h:H)(ts:Array TypeId)(args:List V):Option (V×H):=
 match ts[0]?,args with
 |some t,[x]=>
  match T.und t,x with
  |some (.map _ _),.nilm=>some (.tup [],h)
  |some (.map _ _),.map b=>match h.get b with
   |some (.map _ cl)=>some (.tup [],h.put b (.map [] cl))
   |_=>none
  |some (.slice _),.nils=>some (.tup [],h)
  |some (.slice _),.esl=>some (.tup [],h)
  |some (.slice _),.es0=>some (.tup [],h)
  |some (.slice e),.sl b off len _ _=>
   bif zh len 0 then some (.tup [],h)
   else match T.inf e with
    |some i=>bif zl 0 i.zero.length then
      (wr h b off (E2 i.zero (len*i.zero.length))).map fun h'=>(.tup [],h')
     else none
    |none=>none
  |_,_=>none
 |_,_=>none
theorem ZD(hT:T.Ok P)(hr:R p h w){ts:Array TypeId}{t:TypeId}{args:List V}{args':Array Value}(ha:As p args args'.toList){v:V}{h':H}(hd:FF T h ts args=some (v,h')):
  ∃v' p' w',(Builtin.clear_ ts t args').run P w=.ok v' w'/\Ac p' v v'/\Ext p h w p' h' w':=by
 unfold FF at hd;split at hd
 case h_2=>cases hd
 rename_i t0 x ht;obtain⟨x',hargs,hx⟩:=ha.one;have ha0:args'[0]?=some x':=by rw[<-zn,hargs];rfl
 unfold Builtin.clear_;simp only[ht,ha0];split at hd
 case h_7=>cases hd
 case h_1=>
  rename_i hu;cases hd;simp only[Ac]at hx;subst hx;exact⟨.tuple #[],p,w,by simp[Ax hT hu],by simp[Ac],zu hr⟩
 case h_2=>
  rename_i b hu;split at hd
  case h_2=>cases hd
  rename_i es cl hb;cases hd;simp only[Ac]at hx;obtain⟨r,n,hp,rfl⟩:=hx;obtain⟨r',n',o,h1,h2,l,h3,h4⟩:=hr.obj _ _ hb;rw[hp]at h1;cases h1;subst h3;refine⟨.tuple #[],p,{ w with heap:=w.heap.setIfInBounds r (.map #[] cl) },?_,by simp[Ac],qm hr hb hp (o':=.map [] cl) ⟨_,rfl,.nil⟩ rfl rfl rfl rfl⟩;simp[zd,Ax hT hu,getObj,setObj,yc,h2]
 case h_3=>
  rename_i e hu;cases hd;simp only[Ac]at hx;subst hx;exact⟨.tuple #[],p,w,by simp[Ax hT hu],by simp[Ac],zu hr⟩
 case h_4=>
  rename_i e hu;cases hd;simp only[Ac]at hx;obtain⟨_,_,rfl⟩:=hx;exact⟨.tuple #[],p,w,by simp[Ax hT hu],by simp[Ac],zu hr⟩
 case h_5=>
  rename_i e hu;cases hd;simp only[Ac]at hx;obtain⟨_,rfl⟩:=hx;exact⟨.tuple #[],p,w,by simp[Ax hT hu],by simp[Ac],zu hr⟩
 case h_6=>
  rename_i e b off len cap o hu;simp only[Ac]at hx;obtain⟨r,n,c,hp,rfl,_⟩:=hx;rw[Br]at hd;by_cases h0:len=0
  ·simp only[h0,decide_true,we,ze,zo]at hd;obtain⟨rfl,rfl⟩:=hd;subst h0;exact⟨.tuple #[],p,w,by simp[Ax hT hu],by simp[Ac],zu hr⟩
  ·simp only[h0,decide_false,wg]at hd;split at hd
   case h_2=>cases hd
   rename_i i hi;cases hz:zl 0 i.zero.length with
   |false=>simp[hz]at hd
   |true=>
    simp only[hz,we,zg]at hd;obtain⟨h1,hw,he⟩:=hd;cases he;obtain⟨z,hzz,hzr⟩:=Er hT hi;have hzl:=(hzr p).length;have hrel:=Jj (hzr p) (by simpa using hz) (len*i.zero.length);obtain⟨r',m,w',g1,g2,g3⟩:=S5 (P:=P) hr hrel hw;rw[hp]at g1;cases g1;refine⟨.tuple #[],p,w',?_,by simp[Ac],g3⟩;have:zi z.cells len=(Array.range (len*i.zero.length)).map (fun i=>z.cells[i % z.cells.size]!):=by
     unfold zi;rw[hzl];simp
    obtain⟨len',rfl⟩:∃k,len=k+1:=⟨len-1,by omega⟩;simp only[zd,Ax hT hu,zc,hzz,this,g2,zf]
def xK(T:B3)(ts:Array TypeId)(args:List V):Option V:=
 match ts[0]?,args with
 |some t,[x]=>
  match T.und t,x with
  |some (.slice _),.sl _ _ _ cap 0=>some (i64 cap)
  |some (.slice _),.nils=>some (i64 0)
  |_,_=>none
 |_,_=>none
theorem qK(hT:T.Ok P){ts:Array TypeId}{t:TypeId}{args:List V}{args':Array Value}(ha:As p args args'.toList){v:V}(hd:xK T ts args=some v):
  ∃v',(Builtin.cap_ ts t args').run P w=.ok v' w/\Ac p v v':=by
 unfold xK at hd;split at hd
 case h_2=>cases hd
 rename_i t0 x ht;obtain⟨x',hargs,hx⟩:=ha.one;have ha0:args'[0]?=some x':=by rw[<-zn,hargs];rfl
 unfold Builtin.cap_;simp only[ht,ha0];split at hd
 case h_3=>cases hd
 case h_1=>
  rename_i e b off len cap hu;cases hd;simp only[Ac]at hx;obtain⟨r,n,c,hp,rfl,h1,h2,h3,h4⟩:=hx;have:=h3 trivial;subst this;exact⟨_,by simp[zd,Ax hT hu];rfl,by simp[Ac,i64,goInt]⟩
 case h_2=>
  rename_i e hu;cases hd;simp only[Ac]at hx;subst hx;exact⟨_,by simp[zd,Ax hT hu];rfl,by simp[Ac,i64,goInt]⟩
def R4(T:B3)(h:H)(src dst:TypeId)(x:V):Option (V×H):=
 match T.und src,T.und dst,x with
 |some .string,some (.slice e),.str s=>
  match T.und e with
  |some (.int .u8)=>some (.sl h.nx 0 s.length s.length 1,h.push (.cells (s.map fun b=>.int .u8 (.ofNat b.toNat)) e (0,0)))
  |_=>none
 |_,_,_=>none
theorem ZX(hT:T.Ok P)(hr:R p h w){src dst:TypeId}{x:V}{x':Value}(hx:Ac p x x'){v:V}{h':H}(hd:R4 T h src dst x=some (v,h')):
  ∃v' p' w',(convert src dst x').run P w=.ok v' w'/\Ac p' v v'/\Ext p h w p' h' w':=by
 unfold R4 at hd;split at hd
 case h_2=>cases hd
 rename_i e s h1 h2;split at hd
 case h_2=>cases hd
 rename_i h3;cases hd;simp only[Ac]at hx;subst hx;have hrun:=run_bytes_of_string (P:=P) w src dst e (bytesOf s) (hT.und _ _ h1) (hT.und _ _ h2) (hT.und _ _ h3);generalize hc:grownCap w (bytesOf s).size 0 e=c at hrun;have hle:s.length<=c:=by
  rw[<-hc,BF];unfold grownCap;simp[Question.cut]
 have hsz:(bytesRow (bytesOf s) c).size=c:=by
  have:(bytesRow (bytesOf s) c).size=(bytesOf s).size+(c-(bytesOf s).size):=by
   unfold bytesRow;rw[yz,Array.size_map,Array.size_replicate];rfl
  rw[this,BF];omega
 have hd1:=qj hr (w.drawn+1);have he:=qf (n:=c) hd1.rel (o:=.cells (s.map fun b=>.int .u8 (.ofNat b.toNat)) e (0,0)) (x:=.cells (bytesRow (bytesOf s) c) e ((bytesRow (bytesOf s) c).size,(bytesRow (bytesOf s) c).size+1)) (by
  refine⟨_,_,rfl,hsz,by simpa using hle,?_,fun i hi h4 h5=>by simp only[hsz]at h4;omega⟩;refine As.toC (As.mk ?_ ?_)
  ·have:=hsz;simp at this ⊢;omega
  ·intro i d v hd hv;simp only[List.length_map]at hv;simp only[yb,zg]at hd;obtain⟨b,hb,rfl⟩:=hd;have hi:=(zx.1 hb).1;rw[zp hi]at hv;simp only[bytesRow,Array.toList_append,Array.toList_map,bytesOf]at hv;rw[yg (by simpa using hi)]at hv;simp only[yb,hb,yx,ze]at hv;subst hv;simp[Ac])
 refine⟨_,_,_,hrun,?_,hd1.trans he⟩;simp only[Ac];refine⟨w.heap.size,c,c,by rw[<-hr.len];simp,by rw[BF],yi _,hle,fun h=>(by cases h),fun _=>(by omega)⟩
def CW(T:B3)(h:H)(s d:TypeId)(x:V):Option V:=
 match T.und s,T.und d,x with
 |some (.pointer _),some .unsafePointer,.nilp=>some .nilp
 |some .unsafePointer,some (.pointer _),.nilp=>some .nilp
 |some (.pointer t),some .unsafePointer,.ptr b off=>
  match T.inf t,h.get b with
  |some i,some (.cells cs _ _)=>bif zl 0 i.size&&zl off cs.length then some (.ptr b off)else none
  |_,_=>none
 |some .unsafePointer,some (.pointer u),.ptr b off=>
  match T.inf u,h.get b with
  |some i,some (.cells cs e _)=>bif zl 0 i.size&&zt i.size cs.length&&zh e u&&zh off 0 then some (.ptr b 0)else none
  |_,_=>none
 |_,_,_=>none
theorem Vc(hr:R p h w){b:Nat}{cs:List V}{t:TypeId}{fz:Nat×Nat}(hb:h.get b=some (.cells cs t fz)):
  ∃r n,p[b]?=some (r,n)/\w.shape? r=some (t,n)/\cs.length<=n:=by
 obtain⟨r,n,x,h1,h2,c,fz',rfl,h4,h5,_⟩:=hr.obj b _ hb;exact⟨r,n,h1,by simp[World.shape?,h2,h4],h5⟩
theorem aE{u:TypeId}(hs:P.cellsOf u≠0)(k:Nat)(hk:1<=k):liesAt P P.depth u k 0 u 1=true:=by
 have hd:P.depth=(2*(P.types.size+Made.depth)+1)+1:=rfl;rw[hd];simp only[liesAt,qi];left;rw[hd];simp[rowAt,hs,hk,sameLayout]
theorem pX(hT:T.Ok P)(hr:R p h w){s d:TypeId}{x:V}{x':Value}(hx:Ac p x x'){v:V}(hd:CW T h s d x=some v):
  ∃v',(convert s d x').run P w=.ok v' w/\Ac p v v':=by
 unfold CW at hd;split at hd
 case h_5=>cases hd
 case h_1=>
  rename_i h1 h2;simp only[Ac]at hx;subst hx;cases hd;refine⟨.pointer none,?_,by simp[Ac]⟩;simp[convert,Ax hT h1,Ax hT h2,Conv.unsafePointer]
 case h_2=>
  rename_i h1 h2;simp only[Ac]at hx;subst hx;cases hd;refine⟨.pointer none,?_,by simp[Ac]⟩;simp[convert,Ax hT h1,Ax hT h2,Conv.unsafePointer]
 case h_3=>
  rename_i t b off h1 h2;split at hd
  case h_2=>cases hd
  rename_i i cs e fz hi hb;cases hc:(zl 0 i.size&&zl off cs.length)with
  |false=>rw[hc]at hd;cases hd
  |true=>
   rw[hc]at hd;cases hd;simp only[zq,yq]at hc;obtain⟨j,z,j1,j2,_⟩:=hT.inf t i hi;obtain⟨r,n,k1,k2,k3⟩:=Vc hr hb;simp only[Ac]at hx;obtain⟨r',n',q1,rfl⟩:=hx;rw[k1]at q1;cases q1;refine⟨_,Lib.run_to_unsafe w ⟨r,off,none⟩ (hT.und _ _ h1) (hT.und _ _ h2) j1 (by omega) k2 (by show off<n;omega),?_⟩;simp only[Ac];exact⟨r,n,k1,rfl⟩
 case h_4=>
  rename_i u b off h1 h2;split at hd
  case h_2=>cases hd
  rename_i i cs e fz hi hb;cases hc:(zl 0 i.size&&zt i.size cs.length&&zh e u&&zh off 0)with
  |false=>rw[hc]at hd;cases hd
  |true=>
   rw[hc]at hd;cases hd;simp only[zq,yq,ya,Br,w5]at hc;obtain⟨⟨⟨c1,c2⟩,rfl⟩,rfl⟩:=hc;obtain⟨j,z,j1,j2,_⟩:=hT.inf e i hi;obtain⟨r,n,k1,k2,k3⟩:=Vc hr hb;simp only[Ac]at hx;obtain⟨r',n',q1,rfl⟩:=hx;rw[k1]at q1;cases q1;have hcs:P.cellsOf e=i.size:=by simp[Program.cellsOf,j1,j2]
   have hk:1<=n/P.cellsOf e:=by rw[hcs];exact Nat.div_pos (by omega) c1
   refine⟨_,Lib.run_from_unsafe w ⟨r,0,none⟩ (hT.und _ _ h1) (hT.und _ _ h2) j1 k2 (aE (by omega) _ hk),?_⟩;simp only[Ac];exact⟨r,n,k1,rfl⟩
def PF(args:List V):Option V:=
 match args with
 |[.nils]=>some .nilp
 |[.sl b off _ cap _]=>bif zl 0 cap then some (.ptr b off)else none
 |_=>none
theorem ZA{ts:Array TypeId}{t:TypeId}{args:List V}{args':Array Value}(ha:As p args args'.toList){v:V}(hd:PF args=some v):
  ∃v',(Builtin.unsafeSliceData_ ts t args').run P w=.ok v' w/\Ac p v v':=by
 unfold PF at hd;split at hd
 case h_3=>cases hd
 case h_1=>
  cases hd;obtain⟨x,hl,h1⟩:=ha.one;have:args'= #[x]:=zm.1 hl;subst this;simp only[Ac]at h1;subst h1;exact⟨_,Lib.run_unsafeSliceData_nil w ts t 0 0,by simp[Ac]⟩
 case h_2=>
  rename_i b off len cap o;cases hc:zl 0 cap with
  |false=>rw[hc]at hd;cases hd
  |true=>
   rw[hc]at hd;cases hd;rw[yq]at hc;obtain⟨x,hl,h1⟩:=ha.one;have:args'= #[x]:=zm.1 hl;subst this;simp only[Ac]at h1;obtain⟨r,n,c,g1,rfl,g2,g3,_⟩:=h1;exact⟨_,Lib.run_unsafeSliceData_row w ts t _ len c (by omega),by simp only[Ac];exact⟨r,n,g1,rfl⟩⟩
def SG:V->Option UInt8
 | .int .u8 (.ofNat n)=>bif zl n 256 then some (UInt8.ofNat n)else none
 |_=>none
def GB:List V->Option (List UInt8)
 |[]=>some []
 |v::vs=>
  match SG v,GB vs with
  |some b,some bs=>some (b::bs)
  |_,_=>none
theorem cP{c:V}{b:UInt8}(h:SG c=some b):c=.int .u8 (b.toNat:Int):=by
 unfold SG at h;split at h
 case h_2=>cases h
 rename_i n;cases hc:zl n 256 with
 |false=>rw[hc]at h;cases h
 |true=>
  rw[hc]at h;cases h;rw[yq]at hc;have:(UInt8.ofNat n).toNat=n:=by simp;omega
  rw[this];rfl
theorem KT:∀ {cs:List V} {l:List UInt8},GB cs=some l->cs=l.map fun b=>V.int .u8 (b.toNat:Int)
 |[],l,hb=>by cases hb;rfl
 |c::cs,l,hb=>by
  unfold GB at hb;split at hb
  case h_2=>cases hb
  rename_i b tl hc hcs;cases hb;rw[cP hc,KT hcs];rfl
def Ru(T:B3)(h:H)(ts:List TypeId)(args:List V):Option (V×H):=
 match ts,args with
 |[pt,_],[.ptr b 0,.int .i64 (.ofNat n)]=>
  match T.und pt,h.get b with
  |some (.pointer e),some (.cells cs e' fz)=>
   match T.inf e,GB (cs.take n)with
   |some i,some l=>bif zh i.size 1&&zh e e'&&zl 0 n&&zt n cs.length&&zt n 9223372036854775807&&zt fz.2 fz.1 then some (.str l,h.kill b)else none
   |_,_=>none
  |_,_=>none
 |_,_=>none
theorem Ext.gone{w':World}(hr:R p h w){b r n:Nat}{o:O}{x':Obj}(hb:h.get b=some o)(hp:p[b]?=some (r,n))
  (hw:w'.heap=w.heap.setIfInBounds r x') (h1:w'.os=w.os) (h2:w'.output=w.output) (h3:w'.tape=w.tape) (hk:∀cs t fz,o=.cells cs t fz->¬Lk n fz):Ext p h w p (h.kill b) w':=by
 refine⟨⟨[],by simp⟩,⟨hr.len,fun c oc hc=>?_,(hr.kill b).inj⟩,by simp[hw],fun s hs hn=>?_,fun s hi=>?_,h1,h2,h3,fun s hs hl=>?_⟩
 ·rw[H.Cb]at hc;by_cases e:c=b
  ·rw[wd e]at hc;cases hc
  ·rw[wc e]at hc;obtain⟨s,m,y,g1,g2,g3⟩:=hr.obj c oc hc;refine⟨s,m,y,g1,?_,g3⟩;have hne:r≠s:=fun e'=>e (hr.inj c b oc o s m n hc hb g1 (e'▸hp))
   rw[hw,zj hne];exact g2
 ·have hne:r≠s:=fun e=>hn (e▸⟨b,o,n,hb,hp⟩)
  rw[hw,zj hne]
 ·obtain⟨c,oc,m,g1,g2⟩:=hi;rw[H.Cb]at g1;split at g1
  ·cases g1
  ·exact .inl ⟨c,oc,m,g1,g2⟩
 ·obtain⟨c,m,cs,t,fz,k1,k2,k3⟩:=hl;by_cases e:c=b
  ·subst e;rw[hp]at k2;cases k2;rw[hb]at k1;cases k1;exact wh k3 (hk cs t fz rfl)
  ·have hne:r≠s:=fun e'=>e (hr.inj c b _ o s m n k1 hb k2 (e'▸hp))
   refine⟨by rw[hw,zj hne],.inl ⟨c,m,cs,t,fz,by rw[H.Cb,wc e];exact k1,k2,k3⟩⟩
theorem U7{w:World}{r n:Nat}{c:Array Value}{e:TypeId}{fz:Nat×Nat}(hw:w.heap[r]?=some (.cells c e fz))(h0:n≠0):
  ∃fz',(w.freeze ⟨r,0,none⟩ n).heap=w.heap.setIfInBounds r (.cells c e fz'):=by
 refine⟨if fz.1==fz.2 then(0,0+n)else(min fz.1 0,max fz.2 (0+n)),?_⟩;unfold World.freeze;rw[wc h0];dsimp only
 rw[PJ hw]
theorem bP(hT:T.Ok P)(hr:R p h w){ts:Array TypeId}{t:TypeId}{args:List V}{args':Array Value}(ha:As p args args'.toList){v:V}{h':H}(hd:Ru T h ts.toList args=some (v,h')):
  ∃v' w',(Builtin.unsafeString_ ts t args').run P w=.ok v' w'/\Ac p v v'/\Ext p h w p h' w':=by
 unfold Ru at hd;split at hd
 case h_2=>cases hd
 rename_i pt it b n hts;have hts:ts= #[pt,it]:=zm.1 hts;subst hts;split at hd
 case h_2=>cases hd
 rename_i e cs e' fz h1 hb;split at hd
 case h_2=>cases hd
 rename_i i l hi hl;cases hc:(zh i.size 1&&zh e e'&&zl 0 n&&zt n cs.length&&zt n 9223372036854775807&&zt fz.2 fz.1)with
 |false=>rw[hc]at hd;cases hd
 |true=>
  rw[hc]at hd;cases hd;simp only[zq,yq,ya,Br,w5]at hc;obtain⟨⟨⟨⟨⟨c1,rfl⟩,c3⟩,c4⟩,c5⟩,c6⟩:=hc;obtain⟨x,y,hargs,g1,g2⟩:=ha.two;have:args'= #[x,y]:=zm.1 hargs;subst this;simp only[Ac]at g1 g2;obtain⟨r,m,g1,rfl⟩:=g1;subst g2;obtain⟨r',m',ob,k1,k2,c,fz',rfl,k4,k5,k6,k7⟩:=hr.obj b _ hb;rw[g1]at k1;cases k1;obtain⟨j,z,j1,j2,_⟩:=hT.inf e i hi;have hcs:P.cellsOf e=1:=by simp[Program.cellsOf,j1,j2,c1]
  have hcl:=KT hl;have hlen:l.length=n:=by
   have:=wi List.length hcl;rw[List.length_take,List.length_map]at this;omega
  have hsh:w.shape? r=some (e,m):=by simp[World.shape?,k2,k4]
  have hcell:∀j x,l[j]?=some x->w.cell? ((⟨r,0,none⟩:Addr).add j)=some (.int .u8 x.toNat):=by
   intro j x hx;have hj:=(zx.1 hx).1;have h3:cs[j]?=some (.int .u8 (x.toNat:Int)):=by
    have:=wi (·[j]?) hcl;simp only[yb,hx,yx]at this;rw[zp (by omega)]at this;exact this
   obtain⟨v,hv,hvr⟩:=k6.get h3 rfl;simp only[Ac]at hvr;subst hvr;rw[zp (by omega)]at hv;rw[Addr.Hm];simp only[World.cell?,k2];simpa using hv
  have hrun:=Lib.run_unsafeString_row w pt it t e (hT.und _ _ h1) hcs r m hsh l (by intro h;subst h;simp at hlen;omega) (by omega) (by omega) hcell;obtain⟨fz2,hfz⟩:=U7 (n:=l.length) k2 (by omega);refine⟨.string (bytesOf l),w.freeze ⟨r,0,none⟩ l.length,?_,by simp[Ac],?_⟩
  ·rw[<-hlen];exact hrun
  ·have hos:(w.freeze ⟨r,0,none⟩ l.length).os=w.os/\(w.freeze ⟨r,0,none⟩ l.length).output=w.output/\(w.freeze ⟨r,0,none⟩ l.length).tape=w.tape:=by
    unfold World.freeze;split<;>exact⟨rfl,rfl,rfl⟩
   exact Ext.gone hr hb g1 hfz hos.1 hos.2.1 hos.2.2 (by
    intro cs' t' fz' hh hk;cases hh;obtain⟨q1,q2,q3⟩:=hk;omega)
end
mutual
def cv:Value->Option V
 | .bool b=>some (.bool b)
 | .int k n=>some (.int k n)
 | .string s=>some (.str s.data.toList)
 | .pointer none=>some .nilp
 | .slice none 0 0=>some .nils
 | .map none=>some .nilm
 | .nilFunc=>some .nilf
 | .nilIface=>some .nili
 | .func f ⟨[]⟩ ⟨[]⟩=>some (.fn f [] [])
 | .agg ⟨cs⟩=>(sS cs).map .agg
 | .tuple ⟨cs⟩=>(sS cs).map .tup
 |_=>none
def sS:List Value->Option (List V)
 |[]=>some []
 |v::vs=>match cv v,sS vs with
  |some x,some xs=>some (x::xs)
  |_,_=>none
end
mutual
theorem VO(p:Pl):∀ {v:Value} {x:V},cv v=some x->Ac p x v
 | .bool b,x,h=>by simp[cv]at h;subst h;simp[Ac]
 | .int k n,x,h=>by simp[cv]at h;subst h;simp[Ac]
 | .string s,x,h=>by simp[cv]at h;subst h;simp[Ac,bytesOf]
 | .pointer none,x,h=>by simp[cv]at h;subst h;simp[Ac]
 | .pointer (some a),x,h=>by simp[cv]at h
 | .slice none 0 0,x,h=>by simp[cv]at h;subst h;simp[Ac]
 | .slice none 0 (_+1),x,h=>by simp[cv]at h
 | .slice none (_+1) _,x,h=>by simp[cv]at h
 | .slice (some a) _ _,x,h=>by simp[cv]at h
 | .map none,x,h=>by simp[cv]at h;subst h;simp[Ac]
 | .map (some a),x,h=>by simp[cv]at h
 | .nilFunc,x,h=>by simp[cv]at h;subst h;simp[Ac]
 | .nilIface,x,h=>by simp[cv]at h;subst h;simp[Ac]
 | .func f ⟨[]⟩ ⟨[]⟩,x,h=>by simp[cv]at h;subst h;simp[Ac]
 | .func f ⟨_::_⟩ _,x,h=>by simp[cv]at h
 | .func f ⟨[]⟩ ⟨_::_⟩,x,h=>by simp[cv]at h
 | .agg ⟨cs⟩,x,h=>by
  simp only[cv,zg]at h;obtain⟨xs,h1,rfl⟩:=h;simp only[Ac];exact⟨_,rfl,Sn p h1⟩
 | .tuple ⟨cs⟩,x,h=>by
  simp only[cv,zg]at h;obtain⟨xs,h1,rfl⟩:=h;simp only[Ac];exact⟨_,rfl,Sn p h1⟩
 | .float _ _,x,h=>by simp[cv]at h
 | .complex _ _ _,x,h=>by simp[cv]at h
 | .chan _,x,h=>by simp[cv]at h
 | .iface _ _,x,h=>by simp[cv]at h
theorem Sn(p:Pl):∀ {vs:List Value} {xs:List V},sS vs=some xs->As p xs vs
 |[],xs,h=>by simp[sS]at h;subst h;simp
 |v::vs,xs,h=>by
  unfold sS at h;split at h
  case h_2=>cases h
  rename_i x xs' h1 h2;cases h;exact(Bg ..).2 ⟨VO p h1,Sn p h2⟩
end
structure Fn where
 ntmps:Nat
 results:Array ResultVar
 body:Code
 cert:Bool
structure Ctx where
 T:B3
 ng:Nat
 fn:FuncId->Option Fn
 prim:FuncId->Option (List V->H->Option (V×H))
 spec:FuncId->Option (List V->H->Option (V×H))
 mg:Bool
def Gl(_:Ctx)(p:Pl):Prop:=Gp p
theorem Gl.ext{C:Ctx}{p p':Pl}{h h':H}{w w':World}(hg:Gl C p)(e:Ext p h w p' h' w'):Gl C p':=by
 obtain⟨q,rfl⟩:=e.pre;exact Gp.app hg q
def ev(_:Ctx)(fr:Fr):Operand->Option V
 | .tmp t=>some (fr.get t)
 | .const v=>cv v
 | .global g=>bif gin g Ga then some (.ptr g 0)else none
 | .func f=>some (.fn (.func f) [] [])
theorem A5{C:Ctx}{p:Pl}{fr:Fr}{a:Act}(hg:Gl C p)(hf:Cz p fr a){x:Operand}{v:V}(hd:ev C fr x=some v):Ac p v (a.eval x):=by
 cases x with
 |tmp t=>simp only[ev,ze]at hd;subst hd;exact hf.2 t
 |const v=>exact VO p hd
 |global g=>
  simp only[ev]at hd;cases hb:gin g Ga with
  |true=>
   rw[hb]at hd;simp only[we,ze]at hd;subst hd;obtain⟨o,ho⟩:=Xm hb;simp only[Ac,Act.eval];exact⟨g,_,hg _ ho,rfl⟩
  |false=>rw[hb]at hd;cases hd
 |func f=>simp only[ev,ze]at hd;subst hd;simp[Ac,Act.eval]
def Rn(C:Ctx)(fr:Fr):List Operand->Option (List V)
 |[]=>some []
 |x::xs=>match ev C fr x,Rn C fr xs with
  |some v,some vs=>some (v::vs)
  |_,_=>none
theorem I2{C:Ctx}{p:Pl}{fr:Fr}{a:Act}(hg:Gl C p)(hf:Cz p fr a):∀ {xs:List Operand} {vs:List V},Rn C fr xs=some vs->As p vs (xs.map a.eval)
 |[],vs,h=>by simp[Rn]at h;subst h;simp
 |x::xs,vs,h=>by
  unfold Rn at h;split at h
  case h_2=>cases h
  rename_i v vs' h1 h2;cases h;exact(Bg ..).2 ⟨A5 hg hf h1,I2 hg hf h2⟩
def Vu(C:Ctx)(fr:Fr):Option Operand->Option (Option V)
 |none=>some none
 |some x=>(ev C fr x).map some
theorem NH{C:Ctx}{p:Pl}{fr:Fr}{a:Act}(hg:Gl C p)(hf:Cz p fr a){x:Option Operand}{v:Option V}(hd:Vu C fr x=some v):FI p v (x.map a.eval):=by
 cases x with
 |none=>simp[Vu]at hd;subst hd;rfl
 |some x=>
  simp only[Vu,zg]at hd;obtain⟨u,h1,rfl⟩:=hd;exact⟨_,rfl,A5 hg hf h1⟩
def WW(C:Ctx)(fr:Fr):List (Nat×Operand)->Option (List (Nat×V))
 |[]=>some []
 |(i,x)::xs=>match ev C fr x,WW C fr xs with
  |some v,some vs=>some ((i,v)::vs)
  |_,_=>none
theorem Nl{C:Ctx}{p:Pl}{fr:Fr}{a:Act}(hg:Gl C p)(hf:Cz p fr a):∀ {xs:List (Nat×Operand)} {vs:List (Nat×V)},WW C fr xs=some vs->Ty p vs (xs.map fun(i,x)=>(i,a.eval x))
 |[],vs,h=>by simp[WW]at h;subst h;exact .nil
 |(i,x)::xs,vs,h=>by
  unfold WW at h;split at h
  case h_2=>cases h
  rename_i v vs' h1 h2;cases h;exact .cons (A5 hg hf h1) (Nl hg hf h2)
inductive OR where
 |val (v:V) (h:H)
 |skip (h:H)
 |enter (f:FuncId) (args:List V)
 |round (b:Nat) (l:LS) (fr:Fr)
 |alts (l:List (V×H))
def Fr.Z4(f:Fr)(t:Nat)(v:V):Fr:=bif zl t f.n then⟨f.n,f.m.set t (some v)⟩else f
def Gg:List Tmp->List V->Fr->Fr
 |t::ts,v::vs,f=>Gg ts vs (f.Z4 t v)
 |_,_,f=>f
theorem E3.Z4{p:Pl}{f:Fr}{tmps:Array Value}(hf:E3 p f tmps){v:V}{v':Value}(hv:Ac p v v')(t:Nat):E3 p (f.Z4 t v) (tmps.setIfInBounds t v'):=by
 unfold Fr.Z4;simp only[GX];by_cases hlt:t<f.n
 ·simp only[hlt,decide_true,we];refine⟨by simp[hf.1],fun s=>?_⟩;have hlt':t<tmps.size:=hf.1▸hlt;by_cases e:s=t
  ·subst e;simp[Fr.get,hlt',hv]
  ·have:=hf.2 s;simp only[Fr.get,PM.Db,wc e]at this ⊢;rw[zr,zj (fun x=>e x.symm), <-zr];exact this
 ·simp only[hlt,decide_false,wg];have:tmps.setIfInBounds t v'=tmps:=by
   have:tmps.size<=t:=by have:=hf.1;omega
   simp[Array.setIfInBounds,Nat.not_lt.2 this]
  rw[this];exact hf
theorem E3.Gg{p:Pl}:∀ {ts:List Tmp} {vs:List V} {vs':List Value},As p vs vs'->∀ {f:Fr} {tmps:Array Value},E3 p f tmps->E3 p (Gg ts vs f) ((ts.zip vs').foldl (fun tmps (t,a)=>tmps.setIfInBounds t a) tmps)
 |[],vs,vs',_,f,tmps,hf=>by simpa [Det.Gg]using hf
 |t::ts,[],vs',hv,f,tmps,hf=>by simp at hv;subst hv;simpa [Det.Gg]using hf
 |t::ts,v::vs,vs',hv,f,tmps,hf=>by
  simp only[As]at hv;obtain⟨u,us,rfl,h1,h2⟩:=hv;simp only[Det.Gg,List.zip_cons_cons,List.foldl_cons];exact E3.Gg h2 (hf.Z4 h1 t)
def Bz(h:H):Option V->Option OR
 |some v=>some (.val v h)
 |none=>none
def Fb:Option (V×H)->Option OR
 |some (v,h)=>some (.val v h)
 |none=>none
def cZ:Option H->Option OR
 |some h=>some (.skip h)
 |none=>none
def Eg(C:Ctx)(h:H)(b:Builtin)(ts:Array TypeId)(args:List V):Option OR:=
 match b with
 | .len=>Bz h (FB C.T h ts args)
 | .append=>Fb (Gk C.T h ts args)
 | .copy=>Fb (gU C.T h ts args)
 | .max=>Bz h (Gm kL args)
 | .min=>Bz h (Gm dK args)
 | .cap=>Bz h (xK C.T ts args)
 | .delete=>Fb (Kq C.T h ts args)
 | .clear=>Fb (FF C.T h ts args)
 | .unsafeSliceData=>Bz h (PF args)
 | .unsafeString=>Fb (Ru C.T h ts.toList args)
 |_=>none
def KS(C:Ctx)(h:H)(f:V)(args:List V):Option OR:=
 match f with
 | .fn (.func g) first captured=>
  match C.prim g with
  |some q=>Fb (q (first++args++captured) h)
  |none=>match C.fn g with
   |some _=>some (.enter g (first++args++captured))
   |none=>none
 | .yld b=>match h.get b with
  |some (.loop l)=>bif zh args.length l.ps.size then some (.round b l (Gg l.ps.toList args l.fr))else none
  |_=>none
 |_=>none
def NL(C:Ctx)(h:H)(x:V)(name:String)(args:List V):Option OR:=
 match x with
 | .iface t v=>match C.T.mth t name with
  |some g=>KS C h (.fn (.func g) [] []) (v::args)
  |none=>none
 |_=>none
def Yg:Operand->Bool
 | .const _=>true
 |_=>false
def oU(T:B3)(op:BinOp)(t:TypeId)(x y:Operand)(v u:V):Option V:=
 match op,v,u,T.und t with
 | .eql,.nili,.nili,some (.interface _)=>bif Yg x||Yg y then some (.bool true)else none
 | .neq,.nili,.nili,some (.interface _)=>bif Yg x||Yg y then some (.bool false)else none
 |_,_,_,_=>none
def MJ(T:B3)(op:BinOp)(t:TypeId)(x y:Operand)(v u:V):Option V:=
 match oU T op t x y v u with
 |some r=>some r
 |none=>LQ T op t v u
def GL(C:Ctx)(fr:Fr)(h:H)(o:Oper):Option OR:=
 let ρ:=ev C fr
 match o.op with
 | .move x| .assign x=>Bz h (ρ x)
 | .pick c a b=>match ρ c with
  |some (.bool t)=>Bz h (if t then ρ a else ρ b)
  |_=>none
 | .alloc t=>Fb (GJ C.T h t)
 | .box t x=>Fb ((ρ x).map fun v=>ZK h t v)
 | .build t parts=>match WW C fr parts.toList with
  |some ps=>Bz h (J9 C.T t ps)
  |none=>none
 | .buildSlice t n parts=>match WW C fr parts.toList with
  |some ps=>Fb (EU C.T h t n ps)
  |none=>none
 | .load t x=>match ρ x with
  |some v=>Bz h (E5 C.T h t v)
  |none=>none
 | .store t x y=>match ρ x,ρ y with
  |some v,some u=>cZ (Hr C.T h t v u)
  |_,_=>none
 | .nilCheck x=>match ρ x with
  |some (.ptr b i)=>Bz h (some (.ptr b i))
  |some (.iface t v)=>Bz h (some (.iface t v))
  |_=>none
 | .binOp op t x y _=>match ρ x,ρ y with
  |some v,some u=>Bz h (MJ C.T op t x y v u)
  |_,_=>none
 | .unOp op _ x=>match ρ x with
  |some v=>Bz h (zZ op v)
  |none=>none
 | .convert s d x=>match ρ x with
  |some v=>Bz h (FQ C.T h s d v)
  |none=>none
 | .makeInterface t x=>match ρ x,C.T.und t with
  |some v,some d=>match d with
   | .interface _=>none
   |_=>Bz h (some (.iface t v))
  |_,_=>none
 | .makeFunc f first captured=>match Rn C fr first.toList,Rn C fr captured.toList with
  |some a,some b=>Bz h (some (.fn f a b))
  |_,_=>none
 | .makeMap _ r=>match Vu C fr r with
  |some v=>Fb (IG h v)
  |none=>none
 | .makeSlice t l c=>match ρ l,ρ c with
  |some v,some u=>Fb (Qg C.T h t v u)
  |_,_=>none
 | .slice t x lo hi mx=>match ρ x,Vu C fr lo,Vu C fr hi,Vu C fr mx with
  |some v,some l,some r,some m=>Bz h (Dz C.T t v l r m)
  |_,_,_,_=>none
 | .fieldAddr t x f=>match ρ x with
  |some v=>Bz h (Kc C.T t v f)
  |none=>none
 | .field t x f=>match ρ x with
  |some v=>Bz h (Kj C.T t v f)
  |none=>none
 | .indexAddr t x i=>match ρ x,ρ i with
  |some v,some u=>Bz h (C8 C.T t v u)
  |_,_=>none
 | .index t x i=>match ρ x,ρ i with
  |some v,some u=>Bz h (HM C.T t v u)
  |_,_=>none
 | .lookup t x i ok=>match ρ x,ρ i with
  |some v,some u=>Bz h (EP C.T h t v u ok)
  |_,_=>none
 | .mapUpdate t m k x| .insert t m k x=>match ρ m,ρ k,ρ x with
  |some a,some b,some c=>cZ (HD C.T h t a b c)
  |_,_,_=>none
 | .range t x=>match ρ x with
  |some v=>Fb (Hs C.T h t v)
  |none=>none
 | .next x isStr=>match ρ x with
  |some v=>bif isStr then Fb (MK h v isStr)else(SA h v isStr).map .alts
  |none=>none
 | .entry x=>match ρ x with
  |some v=>Bz h (SO h v)
  |none=>none
 | .extract x i=>match ρ x with
  |some v=>Bz h (G6 v i)
  |none=>none
 | .call c=>match c.callee,Rn C fr c.args.toList with
  | .builtin b,some args=>Eg C h b c.argTypes args
  | .value f,some args=>match ρ f with
   |some g=>KS C h g args
   |none=>none
  | .invoke x nm,some args=>match ρ x with
   |some v=>NL C h v nm args
   |none=>none
  |_,_=>none
 |_=>none
abbrev F9:=Ctx->Fr->H->Option OR
def xI(a0:Operand):F9:=fun C fr h=>Bz h (ev C fr a0)
def eZ(a0:Operand):F9:=fun C fr h=>Bz h (ev C fr a0)
def uQ(a0:Operand)(a1:Operand)(a2:Operand):F9:=fun C fr h=>match ev C fr a0 with|some (.bool t)=>Bz h (if t then ev C fr a1 else ev C fr a2)|_=>none
def nZ(a0:TypeId):F9:=fun C _fr h=>Fb (GJ C.T h a0)
def AaI(a0:TypeId)(a1:Operand):F9:=fun C fr h=>Fb ((ev C fr a1).map fun v=>ZK h a0 v)
def nX(a0:TypeId)(a1:Array (Nat×Operand)):F9:=fun C fr h=>match WW C fr a1.toList with|some ps=>Bz h (J9 C.T a0 ps)|none=>none
def Sl(a0:TypeId)(a1:Nat)(a2:Array (Nat×Operand)):F9:=fun C fr h=>match WW C fr a2.toList with|some ps=>Fb (EU C.T h a0 a1 ps)|none=>none
def jR(a0:TypeId)(a1:Operand)(a2:Operand)(a3:Operand):F9:=fun C fr h=>match ev C fr a1,ev C fr a2,ev C fr a3 with|some a,some b,some c=>cZ (HD C.T h a0 a b c)|_,_,_=>none
def wG(a0:TypeId)(a1:Operand):F9:=fun C fr h=>match ev C fr a1 with|some v=>Bz h (E5 C.T h a0 v)|none=>none
def pY(a0:TypeId)(a1:Operand)(a2:Operand):F9:=fun C fr h=>match ev C fr a1,ev C fr a2 with|some v,some u=>cZ (Hr C.T h a0 v u)|_,_=>none
def nU(_a0:Nat):F9:=fun _ _ _=>none
def pC(_a0:Nat):F9:=fun _ _ _=>none
def Ws(a0:Operand):F9:=fun C fr h=>match ev C fr a0 with|some (.ptr b i)=>Bz h (some (.ptr b i))|some (.iface t v)=>Bz h (some (.iface t v))|_=>none
def oW(a0:BinOp)(a1:TypeId)(a2:Operand)(a3:Operand)(_a4:TypeId):F9:=fun C fr h=>match ev C fr a2,ev C fr a3 with|some v,some u=>Bz h (MJ C.T a0 a1 a2 a3 v u)|_,_=>none
def vX(a0:UnOp)(_a1:TypeId)(a2:Operand):F9:=fun C fr h=>match ev C fr a2 with|some v=>Bz h (zZ a0 v)|none=>none
def aV(a0:TypeId)(a1:TypeId)(a2:Operand):F9:=fun C fr h=>match ev C fr a2 with|some v=>Bz h (FQ C.T h a0 a1 v)|none=>none
def H6(_a0:TypeId)(_a1:Operand):F9:=fun _ _ _=>none
def Nj(a0:TypeId)(a1:Operand):F9:=fun C fr h=>match ev C fr a1,C.T.und a0 with|some v,some d=>(match d with| .interface _=>none|_=>Bz h (some (.iface a0 v)))|_,_=>none
def Wx(a0:Go.Fn)(a1:Array Operand)(a2:Array Operand):F9:=fun C fr h=>match Rn C fr a1.toList,Rn C fr a2.toList with|some a,some b=>Bz h (some (.fn a0 a b))|_,_=>none
def Za(_a0:TypeId)(a1:Option Operand):F9:=fun C fr h=>match Vu C fr a1 with|some v=>Fb (IG h v)|none=>none
def Wq(_a0:TypeId)(_a1:Operand):F9:=fun _ _ _=>none
def UU(a0:TypeId)(a1:Operand)(a2:Operand):F9:=fun C fr h=>match ev C fr a1,ev C fr a2 with|some v,some u=>Fb (Qg C.T h a0 v u)|_,_=>none
def lT(a0:TypeId)(a1:Operand)(a2:Option Operand)(a3:Option Operand)(a4:Option Operand):F9:=fun C fr h=>match ev C fr a1,Vu C fr a2,Vu C fr a3,Vu C fr a4 with|some v,some l,some r,some m=>Bz h (Dz C.T a0 v l r m)|_,_,_,_=>none
def Uz(a0:TypeId)(a1:Operand)(a2:Nat):F9:=fun C fr h=>match ev C fr a1 with|some v=>Bz h (Kc C.T a0 v a2)|none=>none
def oQ(a0:TypeId)(a1:Operand)(a2:Nat):F9:=fun C fr h=>match ev C fr a1 with|some v=>Bz h (Kj C.T a0 v a2)|none=>none
def Vg(a0:TypeId)(a1:Operand)(a2:Operand):F9:=fun C fr h=>match ev C fr a1,ev C fr a2 with|some v,some u=>Bz h (C8 C.T a0 v u)|_,_=>none
def oT(a0:TypeId)(a1:Operand)(a2:Operand):F9:=fun C fr h=>match ev C fr a1,ev C fr a2 with|some v,some u=>Bz h (HM C.T a0 v u)|_,_=>none
def gX(a0:TypeId)(a1:Operand)(a2:Operand)(a3:Bool):F9:=fun C fr h=>match ev C fr a1,ev C fr a2 with|some v,some u=>Bz h (EP C.T h a0 v u a3)|_,_=>none
def TS(a0:TypeId)(a1:Operand)(a2:Operand)(a3:Operand):F9:=fun C fr h=>match ev C fr a1,ev C fr a2,ev C fr a3 with|some a,some b,some c=>cZ (HD C.T h a0 a b c)|_,_,_=>none
def VC(_a0:TypeId)(_a1:Operand)(_a2:Operand):F9:=fun _ _ _=>none
def Rx(_a0:TypeId)(_a1:Operand)(_a2:Operand)(_a3:Operand):F9:=fun _ _ _=>none
def rQ(a0:TypeId)(a1:Operand):F9:=fun C fr h=>match ev C fr a1 with|some v=>Fb (Hs C.T h a0 v)|none=>none
def xN(a0:Operand)(a1:Bool):F9:=fun C fr h=>match ev C fr a0 with|some v=>bif a1 then Fb (MK h v a1)else(SA h v a1).map .alts|none=>none
def oL(a0:Operand):F9:=fun C fr h=>match ev C fr a0 with|some v=>Bz h (SO h v)|none=>none
def Sd(_a0:Operand)(_a1:TypeId)(_a2:TypeId)(_a3:Bool):F9:=fun _ _ _=>none
def aR(a0:Operand)(a1:Nat):F9:=fun C fr h=>match ev C fr a0 with|some v=>Bz h (G6 v a1)|none=>none
def wD(a0:Call):F9:=fun C fr h=>match a0.callee,Rn C fr a0.args.toList with| .builtin b,some args=>Eg C h b a0.argTypes args| .value f,some args=>(match ev C fr f with|some g=>KS C h g args|none=>none)| .invoke x nm,some args=>(match ev C fr x with|some v=>NL C h v nm args|none=>none)|_,_=>none
def Abb(_a0:Call):F9:=fun _ _ _=>none
def mN(_a0:Call):F9:=fun _ _ _=>none
def oM(_a0:Operand):F9:=fun _ _ _=>none
def uW(_a0:Operand)(_a1:Operand):F9:=fun _ _ _=>none
def vZ(_a0:TypeId)(_a1:Operand)(_a2:Bool):F9:=fun _ _ _=>none
def iA(_a0:Array SelectCase)(_a1:Bool):F9:=fun _ _ _=>none
def opF(o:Op):F9:=@Op.casesOn (fun _=>F9) o xI eZ uQ nZ AaI nX Sl jR wG pY nU pC Ws oW vX aV H6 Nj Wx Za Wq UU lT Uz oQ Vg oT gX TS VC Rx rQ xN oL Sd aR wD Abb mN oM uW vZ iA
def Gu(C:Ctx)(fr:Fr)(h:H)(o:Oper):Option OR:=opF o.op C fr h
theorem CU(C:Ctx)(fr:Fr)(h:H)(o:Oper):Gu C fr h o=GL C fr h o:=by
 unfold Gu GL;cases o.op<;>rfl
def IE(C:Ctx)(fr:Fr)(h:H)(o:Oper):Option OR:=
 match Gu C fr h o with
 |some r=>some r
 |none=>match o.op with
  | .convert s d x=>match ev C fr x with
   |some v=>match CW C.T h s d v with
    |some u=>some (.val u h)
    |none=>Fb (R4 C.T h s d v)
   |none=>none
  |_=>none
structure Ctx.Ok(C:Ctx)(P:Program):Prop where
 T:C.T.Ok P
 fn : ∀ f i, C.fn f = some i -> ∃ fn, P.funcs[f]? = some fn /\ fn.name ≠ "runtime.NumGoroutine" /\ fn.body = some i.body /\ fn.ntmps = i.ntmps /\ fn.results = i.results
 prim:∀f q,C.prim f=some q->∀(p:Pl) (h:H) (w:World) (args:List V) (args':Array Value) v h',R p h w->Gl C p->As p args args'.toList->q args h=some (v,h')->
  ∃v' p' w',(callFunc f args').run P w=.ok (.value v') w'/\Ac p' v v'/\Ext p h w p' h' w'
 spec:∀f q,C.spec f=some q->∀(p:Pl) (h:H) (w:World) (args:List V) (args':Array Value) v h',R p h w->Gl C p->As p args args'.toList->q args h=some (v,h')->
  Calls P f args' w fun e w'=>∃v' p',e=.returned v'/\Ac p' v v'/\Ext p h w p' h' w'
def RU(p:Pl)(h:H)(w:World):OR->Result Next->Prop
 | .val v h',r=>∃v' p' w',r=.ok (.value v') w'/\Ac p' v v'/\Ext p h w p' h' w'
 | .skip h',r=>∃p' w',r=.ok .skip w'/\Ext p h w p' h' w'
 | .enter f args,r=>∃args',r=.ok (.enter f args') w/\As p args args'.toList
 | .round b l fr,r=>∃k n f tmps,p[b]?=some (k,n)/\h.get b=some (.loop l)/\r=.ok (.round k f tmps l.asg l.body) w/\E3 p fr tmps
 | .alts l,r=>∃v h' v' p' w',(v,h')∈l/\r=.ok (.value v') w'/\Ac p' v v'/\Ext p h w p' h' w'
section
variable {C:Ctx}{P:Program}{p:Pl}{h:H}{w:World}{fr:Fr}{a:Act}
theorem BZ{s:Sem Value}{v:Option V}{r:OR}(hr:R p h w)(hd:Bz h v=some r)(hs:∀x,v=some x->∃v',s.run P w=.ok v' w/\Ac p x v'):RU p h w r ((do pure (.value (<-s)):Sem Next).run P w):=by
 cases v with
 |none=>simp[Bz]at hd
 |some x=>
  simp only[Bz,ze]at hd;subst hd;obtain⟨v',h1,h2⟩:=hs x rfl;exact⟨v',p,w,by simp[h1],h2,zu hr⟩
theorem Dw{s:Sem Value}{v:Option (V×H)}{r:OR}(hd:Fb v=some r)(hs:∀x h',v=some (x,h')->∃v' p' w',s.run P w=.ok v' w'/\Ac p' x v'/\Ext p h w p' h' w'):RU p h w r ((do pure (.value (<-s)):Sem Next).run P w):=by
 match v,hd,hs with
 |some (x,h'),hd,hs=>
  simp only[Fb,ze]at hd;subst hd;obtain⟨v',p',w',h1,h2,h3⟩:=hs x h' rfl;exact⟨v',p',w',by simp[h1],h2,h3⟩
 |none,hd,_=>simp[Fb]at hd
theorem Yz{s:Sem Unit}{v:Option H}{r:OR}(hd:cZ v=some r)(hs:∀h',v=some h'->∃w',s.run P w=.ok () w'/\Ext p h w p h' w'):RU p h w r ((do s;pure .skip:Sem Next).run P w):=by
 cases v with
 |none=>simp[cZ]at hd
 |some h'=>
  simp only[cZ,ze]at hd;subst hd;obtain⟨w',h1,h2⟩:=hs h' rfl;exact⟨p,w',by simp[h1],h2⟩
theorem LY(hC:C.Ok P)(hr:R p h w)(hg:Gl C p){f:V}{f':Value}{args:List V}{args':Array Value}(hf:Ac p f f')(ha:As p args args'.toList){r:OR}(hd:KS C h f args=some r):
  RU p h w r ((do let d<-ye f' args';invoke d.target d.args:Sem Next).run P w):=by
 unfold KS at hd;split at hd
 case h_3=>cases hd
 case h_2=>
  rename_i b;split at hd
  case h_2=>cases hd
  rename_i l hb;rw[Br]at hd;by_cases hn:args.length=l.ps.size
  ·simp only[hn,decide_true,we,ze]at hd;subst hd;simp only[Ac]at hf;obtain⟨k,n,hp,rfl⟩:=hf;obtain⟨k',n',o,h1,h2,f0,tmps,r,m,h3,h4,rfl⟩:=hr.obj _ _ hb;rw[hp]at h1;cases h1;have hl:=ha.length;simp only[ye,zd,zf,zc,invoke];simp at hl;have e:((l.ps.zip args').foldl (fun tmps (t,a)=>tmps.setIfInBounds t a) tmps)=(l.ps.toList.zip args'.toList).foldl (fun tmps (t,a)=>tmps.setIfInBounds t a) tmps:=by
    rw[<-Array.toList_zip,Array.foldl_toList]
   have h5:=E3.Gg (ts:=l.ps.toList) ha h3;rw[<-e]at h5;refine⟨k,n,f0,_,hp,hb,?_,h5⟩;simp only[Array.empty_append];exact run_yield h2 (by rw[<-hl,hn])
  ·simp[hn]at hd
 rename_i g first captured
 simp only[Ac]at hf;obtain⟨x,y,rfl,hx,hy⟩:=hf;have hall:As p (first++args++captured) (x++args'++y).toList:=by
  simpa using(hx.append ha).append hy
 simp only[ye,zd,zf,zc,invoke];split at hd
 case h_1=>
  rename_i q hq;match hqr:q (first++args++captured) h,hd with
  |some (v,h'),hd=>
   simp only[Fb,ze]at hd;subst hd;obtain⟨v',p',w',h1,h2,h3⟩:=hC.prim g q hq p h w _ _ v h' hr hg hall hqr;exact⟨v',p',w',h1,h2,h3⟩
  |none,hd=>simp[Fb]at hd
 case h_2=>
  split at hd
  case h_2=>cases hd
  rename_i i hi;cases hd;obtain⟨fn,h1,h2,h3,h4,h5⟩:=hC.fn g i hi;refine⟨_,?_,hall⟩;unfold callFunc;simp[h1,h2,h3]
theorem UN(hC:C.Ok P)(hr:R p h w)(hg:Gl C p){x:V}{x':Value}{name:String}{args:List V}{args':Array Value}(hx:Ac p x x')(ha:As p args args'.toList){r:OR}(hd:NL C h x name args=some r):
  RU p h w r ((invoke (.fn (.method name) #[]) (#[x']++args')).run P w):=by
 unfold NL at hd;split at hd
 case h_2=>cases hd
 rename_i t v;split at hd
 case h_2=>cases hd
 rename_i g hm;simp only[Ac]at hx;obtain⟨y,rfl,hy⟩:=hx;obtain⟨j,m,d,h1,h2,h3,h4,h5,h6⟩:=hC.T.mth t name g hm;have key:(invoke (.fn (.method name) #[]) (#[.iface t y]++args')).run P w=((do let d<-ye (.func (.func g) #[] #[]) (#[y]++args');invoke d.target d.args:Sem Next).run P w):=by
  have hund:(underlying t).run P w=.ok d w:=by unfold underlying;simp[h5]
  have hti:(typeInfo t).run P w=.ok j w:=by unfold typeInfo;simp[h1]
  have hmeth:∀k,(method (k+1) t y name).run P w=.ok (g,y) w:=by
   intro k;unfold method;simp only[zd,hti,zc,h2,h3,follow,zf,h4];unfold receiverAt;simp only[zd,hund,zc,Place.get];cases d<;>first|(exact wh rfl (h6 _))|simp
  have hm':=hmeth (P.types.size+99);have e:P.types.size+Made.depth=P.types.size+99+1:=rfl;have h0:(#[Value.iface t y]++args')[0]?=some (.iface t y):=by
   rw[<-zn];simp
  have h8:(#[Value.iface t y]++args').extract 1 (#[Value.iface t y]++args').size=args':=by
   rw[<-zm];simp
  simp only[invoke,ye,h0,h8];simp[callMethod,e,hm']
 rw[key];exact LY hC hr hg (f:=.fn (.func g) [] []) (by simp[Ac]) (by simp;exact⟨hy,ha⟩) hd
theorem Ut(hC:C.Ok P)(hr:R p h w){b:Builtin}{ts:Array TypeId}{t:TypeId}{cs:Array Bool}{args:List V}{args':Array Value}(ha:As p args args'.toList){r:OR}(hd:Eg C h b ts args=some r):
  RU p h w r ((builtin b ts t cs args').run P w):=by
 unfold Eg at hd;split at hd
 case h_1=>exact BZ hr hd fun x hx=>nD hC.T hr ha hx
 case h_2=>exact Dw hd fun x h' hx=>VX hC.T hr ha hx
 case h_3=>exact Dw hd fun x h' hx=>kP hC.T hr ha hx
 case h_4=>exact BZ hr hd fun x hx=>qH ha hx
 case h_5=>exact BZ hr hd fun x hx=>qQ ha hx
 case h_6=>exact BZ hr hd fun x hx=>qK hC.T ha hx
 case h_7=>exact Dw hd fun x h' hx=>Wp hC.T hr ha hx
 case h_8=>exact Dw hd fun x h' hx=>ZD hC.T hr ha hx
 case h_9=>exact BZ hr hd fun x hx=>ZA ha hx
 case h_10=>
  refine Dw hd fun x h' hx=>?_
  obtain⟨v',w',k1,k2,k3⟩:=bP (t:=t) hC.T hr ha hx;exact⟨v',p,w',k1,k2,k3⟩
 case h_11=>cases hd
theorem dD{T:B3}(hT:T.Ok P){op:BinOp}{t:TypeId}{x y:Operand}{v u:V}{v' u':Value}(hv:Ac p v v')(hu:Ac p u u'){z:V}(hd:MJ T op t x y v u=some z):
  ∃z',(do eqGuard op t x y v' u';binOp op t v' u':Sem Value).run P w=.ok z' w/\Ac p z z':=by
 unfold MJ at hd;split at hd
 case h_2=>
  simp only[zd,ZW hT hv hu hd,zc];exact lK hT hv hu hd
 case h_1=>
  rename_i r hr;cases hd;have hk:∀ {b:Bool},(bif Yg x||Yg y then some (V.bool b)else none)=some z->z=.bool b/\((∃c,x=.const c)\/∃c,y=.const c):=by
   intro b hb;cases hc:(Yg x||Yg y)with
   |false=>simp[hc]at hb
   |true=>
    simp only[hc,we,ze]at hb;refine⟨hb.symm,?_⟩;simp only[qi]at hc;rcases hc with hc|hc
    ·left;cases x<;>first|exact⟨_,rfl⟩|cases hc
    ·right;cases y<;>first|exact⟨_,rfl⟩|cases hc
  have hg:∀op,(op=.eql\/op=.neq)->((∃c,x=.const c)\/∃c,y=.const c)->(eqGuard op t x y .nilIface .nilIface).run P w=.ok () w:=by
   intro op ho hc;rcases ho with rfl|rfl<;>unfold eqGuard<;>rcases hc with⟨c,rfl⟩|⟨c,rfl⟩<;>simp
  have heq:∀ {ms},T.und t=some (.interface ms)->(Op.equal t .nilIface .nilIface).run P w=.ok true w:=by
   intro ms hund;unfold Op.equal Op.maxDepth Op.equalIn;rw[zd,Ax hT hund];rfl
  unfold oU at hr;split at hr
  case h_1=>
   rename_i ms hund;obtain⟨rfl,hc⟩:=hk hr;have hb:=(Nx (t:=t) (y':=.nilIface) hv rfl).1;simp only[Ac]at hv hu;subst hv hu;refine⟨.bool true,?_,by simp[Ac]⟩;rw[zd,hg .eql (.inl rfl) hc,zc,hb,zd,heq hund];rfl
  case h_2=>
   rename_i ms hund;obtain⟨rfl,hc⟩:=hk hr;have hb:=(Nx (t:=t) (y':=.nilIface) hv rfl).2;simp only[Ac]at hv hu;subst hv hu;refine⟨.bool false,?_,by simp[Ac]⟩;rw[zd,hg .neq (.inr rfl) hc,zc,hb,zd,heq hund];rfl
  case h_3=>cases hr
theorem cL(hC:C.Ok P)(hr:R p h w)(hg:Gl C p)(hf:Cz p fr a){o:Oper}{r:OR}(hd:Gu C fr h o=some r):RU p h w r ((execOp a.eval o).run P w):=by
 rw[CU]at hd;unfold GL at hd;unfold execOp;cases ho:o.op<;>simp only[ho]at hd ⊢<;>try (cases hd;done)
 case move x|assign x=>
  cases hx:ev C fr x with
  |none=>simp[hx,Bz]at hd
  |some v=>simp[hx,Bz]at hd;subst hd;exact⟨_,p,w,rfl,A5 hg hf hx,zu hr⟩
 case pick c x y=>
  split at hd
  case h_2=>cases hd
  rename_i t hc;have hcv:=A5 hg hf hc;simp only[Ac]at hcv;simp only[zd,hcv,asBool,zf,zc];cases t
  ·cases hx:ev C fr y with
   |none=>simp[hx,Bz]at hd
   |some v=>simp[hx,Bz]at hd;subst hd;exact⟨_,p,w,by simp,A5 hg hf hx,zu hr⟩
  ·cases hx:ev C fr x with
   |none=>simp[hx,Bz]at hd
   |some v=>simp[hx,Bz]at hd;subst hd;exact⟨_,p,w,by simp,A5 hg hf hx,zu hr⟩
 case alloc t=>exact Dw hd fun x h' hx=>Zy hC.T hr hx
 case box t x=>
  refine Dw hd fun v h' hx=>?_
  rw[zg]at hx;obtain⟨u,hu,he⟩:=hx;have:=lL (P:=P) (t:=t) hr (A5 hg hf hu);rw[he]at this;exact this
 case build t parts=>
  split at hd
  case h_2=>cases hd
  rename_i ps hps;refine BZ hr hd fun x hx=>Z2 hC.T ?_ hx
  have:=Nl hg hf hps;simpa using this
 case buildSlice t n parts=>
  split at hd
  case h_2=>cases hd
  rename_i ps hps;refine Dw hd fun x h' hx=>Xa hC.T hr ?_ hx
  have:=Nl hg hf hps;simpa using this
 case load t x=>
  split at hd
  case h_2=>cases hd
  rename_i v hv;exact BZ hr hd fun x hx=>UF hC.T hr (A5 hg hf hv) hx
 case store t x y=>
  split at hd
  case h_2=>cases hd
  rename_i v u hv hu;exact Yz hd fun h' hx=>Y4 hC.T hr (A5 hg hf hv) (A5 hg hf hu) hx
 case nilCheck x=>
  split at hd
  case h_3=>cases hd
  case h_1=>
   rename_i b i hv;have hx:=A5 hg hf hv;have hx':=hx;simp only[Ac]at hx';obtain⟨r',n,hp,he⟩:=hx';simp only[Bz,ze]at hd;subst hd;rw[he];exact⟨_,p,w,rfl,he▸hx,zu hr⟩
  case h_2=>
   rename_i t v hv;have hx:=A5 hg hf hv;have hx':=hx;simp only[Ac]at hx';obtain⟨y,he,_⟩:=hx';simp only[Bz,ze]at hd;subst hd;rw[he];exact⟨_,p,w,rfl,he▸hx,zu hr⟩
 case binOp op t x y t2=>
  split at hd
  case h_2=>cases hd
  rename_i v u hv hu;refine BZ hr hd fun z hz=>?_
  exact dD hC.T (A5 hg hf hv) (A5 hg hf hu) hz
 case unOp op t x=>
  split at hd
  case h_2=>cases hd
  rename_i v hv;exact BZ hr hd fun x hx=>wK (A5 hg hf hv) hx
 case convert s d x=>
  split at hd
  case h_2=>cases hd
  rename_i v hv;exact BZ hr hd fun x hx=>jA hC.T hr (A5 hg hf hv) hx
 case makeInterface t x=>
  split at hd
  case h_2=>cases hd
  rename_i v d hv hdd;split at hd
  case h_1=>cases hd
  case h_2=>
   rename_i hne;refine BZ hr hd fun z hz=>?_
   cases hz;refine⟨.iface t (a.eval x),?_,by simp only[Ac];exact⟨_,rfl,A5 hg hf hv⟩⟩;unfold Instr.makeInterface;simp only[zd,Ax hC.T hdd,zc];cases d<;>first|rfl|exact wh rfl (hne _)
 case makeFunc f first captured=>
  split at hd
  case h_2=>cases hd
  rename_i x y hx hy;refine BZ hr hd fun z hz=>?_
  cases hz;exact⟨_,rfl,by simp only[Ac];exact⟨_,_,rfl,by simpa using I2 hg hf hx,by simpa using I2 hg hf hy⟩⟩
 case makeMap t x=>
  split at hd
  case h_2=>cases hd
  rename_i v hv;exact Dw hd fun x h' hx=>Vr hr (NH hg hf hv) hx
 case makeSlice t l c=>
  split at hd
  case h_2=>cases hd
  rename_i v u hv hu;exact Dw hd fun x h' hx=>bM hC.T hr (A5 hg hf hv) (A5 hg hf hu) hx
 case slice t x lo hi mx=>
  split at hd
  case h_2=>cases hd
  rename_i v l r' m hv hl hr' hm;exact BZ hr hd fun x hx=>Zd hC.T (A5 hg hf hv) (NH hg hf hl) (NH hg hf hr') (NH hg hf hm) hx
 case fieldAddr t x f=>
  split at hd
  case h_2=>cases hd
  rename_i v hv;exact BZ hr hd fun x hx=>Z5 hC.T (A5 hg hf hv) hx
 case field t x f=>
  split at hd
  case h_2=>cases hd
  rename_i v hv;exact BZ hr hd fun x hx=>ZG hC.T (A5 hg hf hv) hx
 case indexAddr t x i=>
  split at hd
  case h_2=>cases hd
  rename_i v u hv hu;exact BZ hr hd fun x hx=>ZY hC.T (A5 hg hf hv) (A5 hg hf hu) hx
 case index t x i=>
  split at hd
  case h_2=>cases hd
  rename_i v u hv hu;exact BZ hr hd fun x hx=>Zh hC.T (A5 hg hf hv) (A5 hg hf hu) hx
 case lookup t x i ok=>
  split at hd
  case h_2=>cases hd
  rename_i v u hv hu;exact BZ hr hd fun x hx=>WC hC.T hr (A5 hg hf hv) (A5 hg hf hu) hx
 case mapUpdate t m k x|insert t m k x=>
  split at hd
  case h_2=>cases hd
  rename_i v u z hv hu hz;exact Yz hd fun h' hx=>Vz hC.T hr (A5 hg hf hv) (A5 hg hf hu) (A5 hg hf hz) hx
 case range t x=>
  split at hd
  case h_2=>cases hd
  rename_i v hv;exact Dw hd fun x h' hx=>Wu hC.T hr (A5 hg hf hv) hx
 case next x b=>
  split at hd
  case h_2=>cases hd
  rename_i v hv;cases b with
  |true=>simp only[we]at hd;exact Dw hd fun x h' hx=>fQ hr (A5 hg hf hv) hx
  |false=>
   simp only[wg,zg]at hd;obtain⟨l,hl,rfl⟩:=hd;obtain⟨v,h',v',p',w',g1,g2,g3,g4⟩:=Zr (P:=P) (t:=o.type) hr (A5 hg hf hv) hl;exact⟨v,h',v',p',w',g1,by simp only[zd,g2,zc,zf],g3,g4⟩
 case entry x=>
  split at hd
  case h_2=>cases hd
  rename_i v hv;exact BZ hr hd fun x hx=>ZC hr (A5 hg hf hv) hx
 case extract x i=>
  split at hd
  case h_2=>cases hd
  rename_i v hv;exact BZ hr hd fun x hx=>Vs (A5 hg hf hv) hx
 case call c=>
  split at hd
  case h_4=>cases hd
  case h_1=>
   rename_i b args hcal hargs;have:=I2 hg hf hargs;unfold resolve;simp only[hcal,zd,zf,zc,invoke];exact Ut hC hr (by simpa using this) hd
  case h_2=>
   rename_i f args hcal hargs;split at hd
   case h_2=>cases hd
   rename_i g hgv;have:=I2 hg hf hargs;unfold resolve;simp only[hcal];exact LY hC hr hg (A5 hg hf hgv) (by simpa using this) hd
  case h_3=>
   rename_i x nm args hcal hargs;split at hd
   case h_2=>cases hd
   rename_i v hv;have:=I2 hg hf hargs;unfold resolve;simp only[hcal,zd,zf,zc];exact UN hC hr hg (A5 hg hf hv) (by simpa using this) hd
theorem LI(hC:C.Ok P)(hr:R p h w)(hg:Gl C p)(hf:Cz p fr a){o:Oper}{r:OR}(hd:IE C fr h o=some r):RU p h w r ((execOp a.eval o).run P w):=by
 unfold IE at hd;split at hd
 case h_1=>
  rename_i r' hr';cases hd;exact cL hC hr hg hf hr'
 case h_2=>
  split at hd
  case h_2=>cases hd
  rename_i s d x ho;split at hd
  case h_2=>cases hd
  rename_i v hv;unfold execOp;simp only[ho];split at hd
  case h_1=>
   rename_i u hu;exact BZ (v:=some u) hr hd fun x hx=>by cases hx;exact pX hC.T hr (A5 hg hf hv) hu
  exact Dw hd fun x h' hx=>ZX hC.T hr (A5 hg hf hv) hx
end
def Bb(fr:Fr)(ops:Array Oper)(o:Oper):Bool:=
 match o.guard with
 |none=>true
 |some (j,want)=>
  match (ops[j]?).bind (·.dst)with
  |some t=>bif zl t fr.n then(match fr.get t with| .bool b=>b==want|_=>false)else false
  |none=>false
inductive Cl where
 |fn (f:FuncId) (args:List V)
 |rnd (b:Nat) (l:LS) (fr:Fr)
abbrev Dy:=Cl->H->Option (List (V×H))
def bl{α β:Type}:List α->(α->Option (List β))->Option (List β)
 |[],_=>some []
 |a::AcJ,f=>match f a with
  |none=>none
  |some x=>match AcJ with
   |[]=>some x
   |b::bs=>match bl (b::bs) f with
    |some y=>some (x++y)
    |none=>none
theorem IQ{α β:Type}{f:α->Option (List β)}:∀ {l:List α} {r:List β},bl l f=some r->∀a∈l,∃x,f a=some x/\∀b∈x,b∈r
 |[],r,_,a,ha=>by cases ha
 |[c],r,h,a,ha=>by
  unfold bl at h;split at h
  ·cases h
  rename_i x hx;cases h;cases zy.1 ha;exact⟨_,hx,fun b hb=>hb⟩
 |c::d::AcJ,r,h,a,ha=>by
  unfold bl at h;split at h
  ·cases h
  rename_i x hx;simp only at h;split at h
  case h_2=>cases h
  rename_i y hy;cases h;rcases qo.1 ha with rfl|ha
  ·exact⟨_,hx,fun b hb=>List.mem_append_left _ hb⟩
  ·obtain⟨z,h1,h2⟩:=IQ hy a ha;exact⟨z,h1,fun b hb=>yp _ (h2 b hb)⟩
def HE(fr:Fr)(d:Option Nat):List (V×H)->Option (List (Fr×H))
 |[]=>some []
 |(v,h)::l=>match fr.put d v with
  |some f=>match HE fr d l with
   |some r=>some ((f,h)::r)
   |none=>none
  |none=>none
theorem NV{fr:Fr}{d:Option Nat}:∀ {l:List (V×H)} {r:List (Fr×H)},HE fr d l=some r->∀v h,(v,h)∈l->∃f,fr.put d v=some f/\(f,h)∈r
 |[],r,_,v,h,hm=>by cases hm
 |(u,k)::l,r,hd,v,h,hm=>by
  unfold HE at hd;split at hd
  case h_2=>cases hd
  rename_i f hf;split at hd
  case h_2=>cases hd
  rename_i r' hr;cases hd;rcases qo.1 hm with e|hm
  ·cases e;exact⟨f,hf,by simp⟩
  ·obtain⟨g,h1,h2⟩:=NV hr v h hm;exact⟨g,h1,List.mem_cons_of_mem _ h2⟩
def step1(C:Ctx)(call:Dy)(ops:Array Oper)(o:Oper)(fr:Fr)(h:H):Option (List (Fr×H)):=
 bif Bb fr ops o then
  match IE C fr h o with
  |some (.val v h')=>match fr.put o.dst v with
   |some fr'=>some [(fr',h')]
   |none=>none
  |some (.skip h')=>match fr.put o.dst (.tup [])with
   |some fr'=>some [(fr',h')]
   |none=>none
  |some (.enter f args)=>match call (.fn f args) h with
   |some l=>HE fr o.dst l
   |none=>none
  |some (.round b ls f)=>match call (.rnd b ls f) h with
   |some l=>HE fr o.dst l
   |none=>none
  |some (.alts l)=>HE fr o.dst l
  |none=>none
 else match fr.put o.dst (.tup [])with
  |some fr'=>some [(fr',h)]
  |none=>none
def R1(C:Ctx)(call:Dy)(ops:Array Oper):List Oper->Fr->H->Option (List (Fr×H))
 |[],fr,h=>some [(fr,h)]
 |o::rest,fr,h=>match step1 C call ops o fr h with
  |some l=>bl l fun x=>R1 C call ops rest x.1 x.2
  |none=>none
def FW(ro:Option Nat):Fence:={ yy with round:=ro }
theorem Wk{ro:Option Nat}{n:Nat}{P:Program}{f:FuncId}{args:Array Value}{w:World}{R:Ending->World->Prop}:CallsIn (FW ro) n P f args w R↔Calls P f args w R:=by
 have:CallsIn (FW ro) n P f args w R↔CallsIn yy n P f args w R:=Iff.rfl;exact this.trans callsIn_wide
theorem xW{ro:Option Nat}{n:Nat}{P:Program}{k:Nat}{f:FuncId}{tmps:Array Value}{asg body:Code}{w:World}{R:Ending->World->Prop}(h:RoundIn yy 0 P k f tmps asg body w R):RoundIn (FW ro) n P k f tmps asg body w R:=
 ⟨trivial,fun c cs _=>h.2 c cs (room_wide _)⟩
inductive DX where
 |normal
 |exit (id:Nat)
 |ret
def DX.Ta:DX->Exit
 | .normal=>.normal
 | .exit id=>.exit id
 | .ret=>.ret
section
variable {C:Ctx}{P:Program}{p:Pl}{h:H}{w:World}{fr:Fr}{a:Act}
theorem Cz.put(hf:Cz p fr a){d:Option Nat}{v:V}{v':Value}(hv:Ac p v v'){fr':Fr}(hd:fr.put d v=some fr'):Cz p fr' (a.put d v'):=by
 unfold Fr.put at hd;cases d with
 |none=>cases hd;exact hf
 |some t=>
  simp only[GX]at hd;by_cases hlt:t<fr.n
  ·simp only[hlt,decide_true,we,ze]at hd;subst hd;refine⟨by simp[Act.put,hf.1],fun s=>?_⟩;have hlt':t<a.tmps.size:=hf.1▸hlt;by_cases e:s=t
   ·subst e;simp[Fr.get,Act.put,hlt',hv]
   ·have:=hf.2 s;simp only[Fr.get,PM.Db,wc e,Act.put]at this ⊢;rw[zr,zj (fun x=>e x.symm), <-zr];exact this
  ·simp[hlt]at hd
theorem Cz.mono(hf:Cz p fr a){p':Pl}(hp:∃q,p'=p++q):Cz p' fr a:=by
 obtain⟨q,rfl⟩:=hp;exact⟨hf.1,fun t=>(hf.2 t).mono q⟩
theorem Cz.ext(hf:Cz p fr a){p':Pl}{h':H}{w':World}(e:Ext p h w p' h' w'):Cz p' fr a:=hf.mono e.pre
theorem rR{p:Pl}{v:V}{b:Bool}(hv:Ac p v (.bool b)):v=.bool b:=by
 cases v<;>simp only[Ac]at hv<;>first|(cases hv;rfl)|(simp at hv;done)|(obtain⟨_,_,_,_,hx,_⟩:=hv;cases hx;done)|(obtain⟨_,_,_,hx⟩:=hv;cases hx;done)|(obtain⟨_,_,hx,_⟩:=hv;cases hx;done)|(obtain⟨_,_,hx⟩:=hv;cases hx;done)|(obtain⟨_,hx,_⟩:=hv;cases hx;done)
theorem Rf(hf:Cz p fr a)(ops:Array Oper)(o:Oper):qd o (yielded ops a.tmps)=Bb fr ops o:=by
 unfold qd Bb;cases hgd:o.guard with
 |none=>rfl
 |some jw=>
  obtain⟨j,want⟩:=jw;simp only;unfold yielded;cases hb:(ops[j]?).bind (·.dst)with
  |none=>simp
  |some t=>
   simp only[Option.bind_some,GX];by_cases hlt:t<fr.n
   ·have hlt':t<a.tmps.size:=hf.1▸hlt;have hv:=hf.2 t;simp only[hlt,decide_true,we];have e:a.tmps[t]?=some (a.tmps.getD t undef):=by simp[hlt']
    rw[e];cases hb2:a.tmps.getD t undef with
    |bool b=>
     rw[hb2]at hv;have:=rR hv;rw[this];cases b<;>cases want<;>rfl
    |_=>
     rw[hb2]at hv;cases hg2:fr.get t with
     |bool b=>rw[hg2]at hv;simp[Ac]at hv
     |_=>cases want<;>rfl
   ·have:a.tmps[t]?=none:=z7 (yf (hf.1▸hlt));simp[this,hlt]
def GG(p:Pl)(h:H)(w:World)(l:List (V×H))(e:Ending)(w':World):Prop:=
 ∃v h' v' p',(v,h')∈l/\e=.returned v'/\Ac p' v v'/\Ext p h w p' h' w'
structure Dy.Ok(C:Ctx)(P:Program)(call:Dy):Prop where
 fn:∀f args h l,call (.fn f args) h=some l->∀(p:Pl) (w:World) (args':Array Value),R p h w->Gl C p->As p args args'.toList->Calls P f args' w (GG p h w l)
 rnd:∀b ls fr h l,call (.rnd b ls fr) h=some l->∀(p:Pl) (w:World) (k n:Nat) (f:FuncId) (tmps:Array Value),R p h w->Gl C p->h.get b=some (.loop ls)->p[b]?=some (k,n)->E3 p fr tmps->
  RoundIn yy 0 P k f tmps ls.asg ls.body w (GG p h w l)
theorem Hj{o:Oper}{r:OR}(hd:Gu C fr h o=some r):∀c,o.op≠ .defer c:=by
 intro c e;rw[CU]at hd;unfold GL at hd;simp[e]at hd
theorem F4{o:Oper}{r:OR}(hd:IE C fr h o=some r):∀c,o.op≠ .defer c:=by
 intro c e;unfold IE at hd;split at hd
 case h_1=>rename_i hr;exact Hj hr c e
 case h_2=>rw[e]at hd;cases hd
theorem SY{p':Pl}{l:List (V×H)}{r:List (Fr×H)}{d:Option Nat}(hp:HE fr d l=some r)(hf:Cz p fr a){K:Act->World->Prop}
  (hK:∀x∈r,∀p' a' w',Cz p' x.1 a'->Ext p h w p' x.2 w'->a'.defers=a.defers->K a' w') {v:V} {h':H} {v':Value} {w':World} (hm:(v,h')∈l) (hv:Ac p' v v') (he:Ext p h w p' h' w'):K (a.put d v') w':=by
 obtain⟨f,h1,h2⟩:=NV hp v h' hm;exact hK _ h2 p' _ w' ((hf.ext he).put hv h1) he (by cases d<;>rfl)
theorem Z8(hC:C.Ok P){call:Dy}(hcall:call.Ok C P)(hr:R p h w)(hg:Gl C p)(hf:Cz p fr a){ops:Array Oper}{i:Nat}{o:Oper}(ho:ops[i]?=some o){l:List (Fr×H)}
  (hd:step1 C call ops o fr h=some l) {ro:Option Nat} {n:Nat} {Q:Exit->Act->World->Prop} {K:Act->World->Prop}
  (hK:∀x∈l,∀p' a' w',Cz p' x.1 a'->Ext p h w p' x.2 w'->a'.defers=a.defers->K a' w'):wpOpIn (FW ro) n P ops Q i K a w:=by
 have hdf:∀v,(a.put o.dst v).defers=a.defers:=by intro v;cases o.dst<;>rfl
 unfold step1 at hd;unfold wpOpIn;simp only[ho];rw[Rf hf];cases hw:Bb fr ops o with
 |false=>
  simp only[hw,wg]at hd;simp only[z8,ve];refine⟨fun _ _=>trivial,?_⟩;split at hd
  case h_2=>cases hd
  rename_i fr1 hp;cases hd;exact hK _ (zy.2 rfl) p _ w (hf.put (by simp[Ac,undef]) hp) (zu hr) (hdf _)
 |true=>
  simp only[hw,we]at hd;simp only[wk];refine⟨fun _ _=>trivial,?_⟩;split at hd
  case h_6=>cases hd
  case h_1=>
   rename_i v h1 hop;split at hd
   case h_2=>cases hd
   rename_i fr1 hp;cases hd;obtain⟨v',p',w',g1,g2,g3⟩:=LI hC hr hg hf hop;rw[yv _ _ _ (F4 hop),g1,Oper.uponIn_value];exact hK _ (zy.2 rfl) p' _ w' ((hf.ext g3).put g2 hp) g3 (hdf _)
  case h_2=>
   rename_i h1 hop;split at hd
   case h_2=>cases hd
   rename_i fr1 hp;cases hd;obtain⟨p',w',g1,g3⟩:=LI hC hr hg hf hop;rw[yv _ _ _ (F4 hop),g1,Oper.uponIn_skip];exact hK _ (zy.2 rfl) p' _ w' ((hf.ext g3).put (by simp[Ac,undef]) hp) g3 (hdf _)
  case h_3=>
   rename_i f args hop;split at hd
   case h_2=>cases hd
   rename_i l1 hc;obtain⟨args',g1,g2⟩:=LI hC hr hg hf hop;rw[yv _ _ _ (F4 hop),g1,Oper.uponIn_enter];refine⟨fun h=>(by simp[FW,yy]at h),Wk.2 ((hcall.fn f args h l1 hc p w args' hr hg g2).mono ?_)⟩;rintro e w' ⟨v,h',v',p',hm,rfl,k1,k2⟩;exact SY hd hf hK hm k1 k2
  case h_4=>
   rename_i b ls f hop;split at hd
   case h_2=>cases hd
   rename_i l1 hc;obtain⟨k,m,g,tmps,g1,g2,g3,g4⟩:=LI hC hr hg hf hop;rw[yv _ _ _ (F4 hop),g3,Oper.uponIn_round];refine⟨fun h=>(by simp[FW,yy]at h),(xW (hcall.rnd b ls f h l1 hc p w k m g tmps hr hg g2 g1 g4)).mono ?_⟩;rintro e w' ⟨v,h',v',p',hm,rfl,k1,k2⟩;exact SY hd hf hK hm k1 k2
  case h_5=>
   rename_i l1 hop;obtain⟨v,h',v',p',w',hm,g1,g2,g3⟩:=LI hC hr hg hf hop;rw[yv _ _ _ (F4 hop),g1,Oper.uponIn_value];exact SY hd hf hK hm g2 g3
theorem Uv(hC:C.Ok P){call:Dy}(hcall:call.Ok C P){ops:Array Oper}{ro:Option Nat}{n:Nat}{Q:Exit->Act->World->Prop}:
  ∀(l:List Oper) (k:Nat),(∀j,l[j]?=ops[k+j]?)->∀ {p:Pl} {h:H} {w:World} {fr:Fr} {a:Act},R p h w->Gl C p->Cz p fr a->∀ {L:List (Fr×H)},R1 C call ops l fr h=some L->
  (∀x∈L,∀p' a' w',Cz p' x.1 a'->Ext p h w p' x.2 w'->a'.defers=a.defers->Q .normal a' w')->wpOpsIn (FW ro) n P ops Q (List.range' k l.length) a w
 |[],k,_,p,h,w,fr,a,hr,hg,hf,L,hd,hQ=>by
  cases hd;exact hQ _ (zy.2 rfl) p a w hf (zu hr) rfl
 |o::l,k,hl,p,h,w,fr,a,hr,hg,hf,L,hd,hQ=>by
  unfold R1 at hd;split at hd
  case h_2=>cases hd
  rename_i l1 hs;rw[List.length_cons,List.range'_succ,wpOpsIn_cons];refine Z8 hC hcall hr hg hf (by simpa using(hl 0).symm) hs (K:=wpOpsIn (FW ro) n P ops Q (List.range' (k+1) l.length)) fun x hx p1 a1 w1 hf1 he1 hdf1=>?_
  obtain⟨L1,g1,g2⟩:=IQ hd x hx;exact Uv hC hcall l (k+1) (fun j=>by have:=hl (j+1);simpa [Nat.add_assoc,Nat.add_comm 1 j]using this) he1.rel (hg.ext he1) hf1 g1
   fun y hy p2 a2 w2 hf2 he2 hdf2=>hQ y (g2 y hy) p2 a2 w2 hf2 (he1.trans he2) (hdf2.trans hdf1)
theorem V6(hC:C.Ok P){call:Dy}(hcall:call.Ok C P){ops:Array Oper}{ro:Option Nat}{n:Nat}{Q:Exit->Act->World->Prop}(hr:R p h w)(hg:Gl C p)(hf:Cz p fr a){L:List (Fr×H)}
  (hd:R1 C call ops ops.toList fr h=some L) {id:Nat}
  (hQ:∀x∈L,∀p' a' w',Cz p' x.1 a'->Ext p h w p' x.2 w'->a'.defers=a.defers->Q .normal a' w'):(Code.region id ops false).wpIn (FW ro) n P Q a w:=by
 refine wpIn_region ?_;have:=Uv (Q:=Q) (ro:=ro) (n:=n) hC hcall ops.toList 0 (fun j=>by simp) hr hg hf hd hQ;rw[List.range_eq_range'];simpa using this
end
theorem Ji{C:Ctx}{fr fr':Fr}:∀ {xs:List Operand},(∀x∈xs,ev C fr x=ev C fr' x)->Rn C fr xs=Rn C fr' xs
 |[],_=>rfl
 |x::xs,h=>by
  unfold Rn;rw[h x (by simp),Ji (fun y hy=>h y (by simp[hy]))]
theorem IZ{C:Ctx}{fr fr':Fr}:∀ {xs:List (Nat×Operand)},(∀x∈xs,ev C fr x.2=ev C fr' x.2)->WW C fr xs=WW C fr' xs
 |[],_=>rfl
 |(i,x)::xs,h=>by
  unfold WW;rw[h (i,x) (by simp),IZ (fun y hy=>h y (by simp[hy]))]
theorem Jl{C:Ctx}{fr fr':Fr}{x:Option Operand}(h:∀y,x=some y->ev C fr y=ev C fr' y):Vu C fr x=Vu C fr' x:=by
 cases x with
 |none=>rfl
 |some y=>simp[Vu,h y rfl]
theorem Zg{C:Ctx}{fr fr':Fr}{h:H}{o:Oper}(hx:∀x∈o.op.operands,ev C fr x=ev C fr' x):Gu C fr h o=Gu C fr' h o:=by
 obtain⟨dst,op,type,pos,after,guard⟩:=o;cases op<;>simp only[Op.operands]at hx<;>simp only[CU,GL]
 case build t ps=>rw[IZ fun x hm=>hx x.2 (by simp;exact⟨x.1,by simpa using hm⟩)]
 case buildSlice t n ps=>rw[IZ fun x hm=>hx x.2 (by simp;exact⟨x.1,by simpa using hm⟩)]
 case makeFunc f first captured=>rw[Ji (xs:=first.toList) fun x hm=>hx x (by simp at hm ⊢;exact .inl hm),Ji (xs:=captured.toList) fun x hm=>hx x (by simp at hm ⊢;exact .inr hm)]
 case makeMap t r=>rw[Jl fun y hy=>hx y (by simp[hy])]
 case slice t x lo hi mx=>
  rw[hx x (by simp),Jl (x:=lo) fun y hy=>hx y (by simp[hy]),Jl (x:=hi) fun y hy=>hx y (by simp[hy]),Jl (x:=mx) fun y hy=>hx y (by simp[hy])]
 case call c=>
  obtain⟨callee,args,ts⟩:=c;rw[Ji (xs:=args.toList) (fr:=fr) (fr':=fr') fun x hm=>hx x (by simp at hm;simp[Call.operands,hm])];cases callee with
  |value f=>
   have hf:=hx f (by simp[Call.operands]);cases Rn C fr' args.toList with
   |none=>rfl
   |some AcJ=>simp only[hf]
  |invoke f nm=>
   have hf:=hx f (by simp[Call.operands]);cases Rn C fr' args.toList with
   |none=>rfl
   |some AcJ=>simp only[hf]
  |builtin b=>cases Rn C fr' args.toList<;>rfl
 all_goals (first|rfl|(simp_all;done))
def reads(ops:Array Oper)(o:Oper):List Tmp:=o.looksAt ops
theorem pK{C:Ctx}{fr fr':Fr}{x:Operand}(h:∀t,x=.tmp t->fr.get t=fr'.get t):ev C fr x=ev C fr' x:=by
 cases x with
 |tmp t=>simp only[ev,h t rfl]
 |_=>rfl
theorem mem_reads{ops:Array Oper}{o:Oper}{t:Tmp}(h:Operand.tmp t∈o.op.operands):t∈reads ops o:=
 List.mem_append_left _ (List.mem_filterMap.2 ⟨.tmp t,by simpa using h,rfl⟩)
theorem S9{fr fr':Fr}{ops:Array Oper}{o:Oper}(hn:fr.n=fr'.n)(h:∀t∈reads ops o,fr.get t=fr'.get t):Bb fr ops o=Bb fr' ops o:=by
 unfold Bb;cases hg:o.guard with
 |none=>rfl
 |some jw=>
  obtain⟨j,want⟩:=jw;simp only;cases hb:(ops[j]?).bind (·.dst)with
  |none=>rfl
  |some t=>
   simp only[hn];rw[h t (yp _ (by simp[hg,hb]))]
def Qf(l:List Tmp)(fr:Fr):Fr:=⟨fr.n,l.foldr (fun t m=>m.set t (some (fr.get t))) .leaf⟩
def Ir(l:List Tmp)(a:Act):Act:={ a with tmps:=Array.ofFn (n:=a.tmps.size) fun t=>if l.contains t.1 then a.tmps.getD t undef else undef }
theorem Mx(l:List Tmp)(fr:Fr)(t:Tmp):(Qf l fr).get t=if t∈l then fr.get t else .tup []:=by
 unfold Qf Fr.get;induction l with
 |nil=>simp
 |cons x l ih=>
  simp only[List.foldr_cons,PM.Db,qo];by_cases e:t=x
  ·subst e;simp
  ·simp only[e,ve,false_or];exact ih
theorem LP(l:List Tmp)(a:Act)(t:Tmp):(Ir l a).tmps.getD t undef=if t∈l then a.tmps.getD t undef else undef:=by
 unfold Ir;by_cases h:t<a.tmps.size
 ·simp[h]
 ·simp only[zr];rw[z7 (by simpa using yf h),z7 (yf h)];simp
section
variable {C:Ctx}{P:Program}{p:Pl}{h:H}{w:World}{fr:Fr}{a:Act}
structure yP(p:Pl)(fr:Fr)(a:Act)(l:List Tmp):Prop where
 n:fr.n=a.tmps.size
 get:∀t∈l,Ac p (fr.get t) (a.tmps.getD t undef)
theorem yP.PB{l:List Tmp}(hf:yP p fr a l):Cz p (Qf l fr) (Ir l a):=by
 refine⟨by simp[Qf,Ir,hf.n],fun t=>?_⟩;rw[Mx,LP];by_cases ht:t∈l
 ·simp only[ht,wk];exact hf.get t ht
 ·simp only[ht,ve];simp[Ac,undef]
theorem Jc{ops:Array Oper}{o:Oper}{x:Operand}(hx:x∈o.op.operands):(Ir (reads ops o) a).eval x=a.eval x:=by
 cases x with
 |tmp t=>
  have:=LP (reads ops o) a t;rw[wd (mem_reads hx)]at this;exact this
 |_=>rfl
theorem Ry{ops:Array Oper}{o:Oper}{x:Operand}(hx:x∈o.op.operands):ev C (Qf (reads ops o) fr) x=ev C fr x:=by
 refine pK fun t ht=>?_
 subst ht;rw[Mx,wd (mem_reads hx)]
theorem Ja(hC:C.Ok P)(hr:R p h w)(hg:Gl C p){ops:Array Oper}{o:Oper}(hf:yP p fr a (reads ops o))(hs:∀cs b,o.op≠ .select cs b){r:OR}(hd:Gu C fr h o=some r):
  RU p h w r ((execOp a.eval o).run P w):=by
 have h1:=cL hC hr hg hf.PB (o:=o) (r:=r) (by rw[Zg (fr':=fr) fun x hx=>Ry hx];exact hd);rwa [execOp_congr o hs fun x hx=>Jc hx]at h1
theorem Q7{ops:Array Oper}{o:Oper}(hf:yP p fr a (reads ops o)):qd o (yielded ops a.tmps)=Bb fr ops o:=by
 have h1:=Rf hf.PB ops o;rw[S9 (fr:=Qf (reads ops o) fr) (fr':=fr) (ops:=ops) (o:=o) rfl fun t ht=>by rw[Mx,wd ht]]at h1;rw[<-h1];unfold qd;cases hg:o.guard with
 |none=>rfl
 |some jw=>
  obtain⟨j,want⟩:=jw;simp only;congr 1;unfold yielded;cases hb:(ops[j]?).bind (·.dst)with
  |none=>rfl
  |some t=>
   simp only[Option.bind_some];have ht:t∈reads ops o:=yp _ (by simp[hg,hb]);have:=LP (reads ops o) a t;rw[wd ht]at this;by_cases hlt:t<a.tmps.size
   ·have e1:a.tmps[t]?=some (a.tmps.getD t undef):=by simp[hlt]
    have e2:(Ir (reads ops o) a).tmps[t]?=some ((Ir (reads ops o) a).tmps.getD t undef):=by simp[Ir,hlt]
    rw[e1,e2,this]
   ·rw[z7 (yf hlt),z7 (by simpa [Ir]using yf hlt)]
end
def Eh(o:Oper):Bool:=
 match o.op with
 | .move _| .assign _| .pick .. | .build .. | .load .. | .nilCheck _| .binOp .. | .unOp .. | .convert .. | .makeInterface .. | .makeFunc .. | .slice .. | .fieldAddr .. | .field .. | .indexAddr .. | .index .. | .lookup .. | .extract .. =>true
 | .call { callee:=.builtin .len,.. }| .call { callee:=.builtin .max,.. }| .call { callee:=.builtin .min,.. }| .call { callee:=.builtin .unsafeSliceData,.. }=>true
 |_=>false
def Ot(o:Oper):Bool:=
 match o.op with
 | .load .. | .convert .. | .lookup .. =>true
 | .call { callee:=.builtin .len,.. }=>true
 |_=>false
def Ct(o:Oper):Bool:=
 match o.op with
 | .alloc _| .box .. | .buildSlice .. =>true
 |_=>false
theorem Gq{h:H}{v:Option V}{r:OR}(hd:Bz h v=some r):∃x,v=some x/\r=.val x h:=by
 cases v with
 |none=>cases hd
 |some x=>cases hd;exact⟨x,rfl,rfl⟩
theorem rd_val{C:Ctx}{fr:Fr}{h:H}{o:Oper}(hk:Eh o=true){r:OR}(hd:Gu C fr h o=some r):∃v,r=.val v h:=by
 obtain⟨dst,op,type,pos,after,guard⟩:=o;cases op<;>simp only[Eh]at hk<;>simp only[CU,GL]at hd<;>try (cases hk;done)
 case call c=>
  obtain⟨callee,args,ts⟩:=c;cases callee with
  |builtin b=>
   cases he:Rn C fr args.toList with
   |none=>simp[he]at hd
   |some AcJ=>
    simp only[he]at hd;cases b<;>first|(cases hk;done)|(simp only[Eg]at hd;obtain⟨x,_,rfl⟩:=Gq hd;exact⟨x,rfl⟩)
  |value f=>cases hk
  |invoke=>cases hk
 all_goals
  repeat' split at hd
  all_goals first
   |(cases hd;done)
   |(obtain⟨x,_,rfl⟩:=Gq hd;exact⟨x,rfl⟩)
theorem kJ{C:Ctx}{fr:Fr}{h:H}{o:Oper}(hk:Eh o=true)(hn:Ot o=false){v:V}(hd:Gu C fr h o=some (.val v h))(h':H):Gu C fr h' o=some (.val v h'):=by
 have key:∀ {x:Option V},Bz h x=some (.val v h)->Bz h' x=some (.val v h'):=by
  intro x hx;obtain⟨y,rfl,e⟩:=Gq hx;cases e;rfl
 obtain⟨dst,op,type,pos,after,guard⟩:=o;cases op<;>simp only[Eh]at hk<;>simp only[Ot]at hn<;>simp only[CU,GL]at hd ⊢<;>try (first|(cases hk;done)|(cases hn;done))
 case call c=>
  obtain⟨callee,args,ts⟩:=c;cases callee with
  |builtin b=>
   cases he:Rn C fr args.toList with
   |none=>simp[he]at hd
   |some AcJ=>
    simp only[he]at hd ⊢;cases b<;>first|(cases hk;done)|(cases hn;done)|(simp only[Eg]at hd ⊢;exact key hd)
  |value f=>cases hk
  |invoke=>cases hk
 all_goals
  repeat' split at hd
  all_goals first
   |(cases hd;done)
   |exact key hd
   |(simp only[*];exact key hd)
end Go.Det
