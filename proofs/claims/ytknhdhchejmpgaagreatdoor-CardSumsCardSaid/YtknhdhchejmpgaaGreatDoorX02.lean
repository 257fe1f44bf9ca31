import Derived.Test.YtknhdhchejmpgaaGreatDoorX01
import Derived.IntWalk
import Derived.Laws.IdiomStrings
import Derived.Lib.UnsafeStr
import Derived.Lib.Builder
import Derived.RangeFuncRecord
import Derived.LoopNIn
import Derived.OrdersIn
import Derived.RangeFuncLeaves
/- A part of a proof (no law is stated here). Made by program out of texts by AI agents. -/
noncomputable section
open Go.Result renaming andThen_ok -> zc
open Go.Sem renaming run_bind -> zd, run_pure -> zf, run -> yi
open Option.some renaming injEq -> ze
open Option renaming map_eq_some_iff -> zg, map_some -> y9
open Nat renaming beq -> zh, blt -> zl, ble -> z6, mul_le_mul_right -> yc, ble_eq -> yg, le_of_not_lt -> ym, le_refl -> yp, blt_eq -> yw, add_mul -> qp, zero_add -> qw
open Go.Builtin renaming zeroCells -> zi, firstCells -> zk, append_ -> yd, nextslicecap -> yj, growBy -> yt, lenOf -> yy
open Array renaming getElem?_setIfInBounds_ne -> zj, toList_inj -> zo, getElem?_toList -> zq, getD_eq_getD_getElem? -> zw, getElem?_eq_none -> ye, size_append -> qd
open Prod.mk renaming injEq -> zr
open List renaming getElem?_take_of_lt -> zt, getElem?_eq_some_iff -> ya, mem_singleton -> yb, getElem?_map -> yh, getElem?_append_left -> yn, length_append -> yo, getElem?_cons_zero -> yq, getElem?_cons_succ -> yr, getElem?_toArray -> yu, mem_append_right -> yv, size_toArray -> qe, length_eq_zero_iff -> qj, all_cons -> qu, mem_cons -> qv
open Bool renaming and_eq_true -> zu, false_eq_true -> yf, or_eq_true -> qn
open Go.Det.Ext renaming refl -> z7, push -> qk, drew -> qo, put -> qt
open Go.Instr renaming sameBits -> z8, findAsking -> yx, findNow -> yz, range -> qf, sameNow -> qg, findKey -> qh, next -> ql, lookup -> qm, checkKey -> qq
open Go.Deferred renaming ofValue -> yk
open Go.Oper renaming semAt_eq -> y7
open Go.Question renaming forced -> y8
open Go.Fence renaming wide -> qc
open Go.Region renaming wanted -> qi
namespace Go.Det
section
variable {T:BW}{P:Program}{p:Pl}{h:H}{w:World}
def O7(T:BW)(h:H)(t:TypeId)(len cap:V):Option (V×H):=
 match T.und t,len,cap with
 |some (.slice e),.int _ (.ofNat l),.int _ (.ofNat c)=>
  match T.inf e with
  |some i=>
   bif z6 l c&&zl c 9223372036854775808&&z6 (i.bytes*c) 281474976710656&&zl 0 i.zero.length&&zh i.zero.length i.size then
    some (.sl h.nx 0 l c 0,HV h e (EM i.zero (c*i.size)))
   else none
  |none=>none
 |_,_,_=>none
theorem wrap_small(c:Nat)(h:c<9223372036854775808):IntKind.i64.wrap (c:Int)=c:=IntWalk.i64_in _ (by omega)
theorem kD(hT:T.Ok P)(hr:R p h w){t:TypeId}{len cap:V}{len' cap':Value}(hl:Ab p len len')(hc:Ab p cap cap'){v:V}{h':H}(hd:O7 T h t len cap=some (v,h')):
  ∃v' p' w',(Instr.makeSlice t len' cap').run P w=.ok v' w'/\Ab p' v v'/\Ext p h w p' h' w':=by
 unfold O7 at hd;split at hd
 case h_2=>cases hd
 rename_i e k l k2 c hu;split at hd
 case h_2=>cases hd
 rename_i i hi;cases hcond:(z6 l c&&zl c 9223372036854775808&&z6 (i.bytes*c) 281474976710656&&zl 0 i.zero.length&&zh i.zero.length i.size)with
 |false=>simp[hcond]at hd
 |true=>
  simp only[hcond,we,ze,zr]at hd;obtain⟨rfl,rfl⟩:=hd;simp only[zu,yg,yw,Bm,w5]at hcond;obtain⟨⟨⟨⟨c1,c2⟩,c3⟩,c4⟩,c5⟩:=hcond;simp only[Ab]at hl hc;subst hl hc;obtain⟨z,hz,hzr⟩:=Eg hT hi;obtain⟨j,hj,hjb,_⟩:=N7 hT hi;obtain⟨n,he,hpn,hn⟩:=Nj hr e (Jf (hzr p) c4 (c*i.size));refine⟨.slice (some ⟨w.heap.size,0,none⟩) l c,_,_,?_,?_,he⟩
  ·unfold Instr.makeSlice asInt asIntOf;simp only[zd,zf,Av hT hu,zc,hj,Int.ofNat_eq_natCast,wrap_small c c2,wrap_small l (by omega),hjb];have e3:(i.bytes:Int)*(c:Int)=((i.bytes*c:Nat):Int):=(Int.natCast_mul _ _).symm;rw[e3];generalize i.bytes*c=q at c3 e3 ⊢;have n2:¬((decide ((c:Int)<0)||decide ((q:Int)>2^48))||decide ((l:Int)<0)||decide ((l:Int)>(c:Int)))=true:=by
    simp;omega
   rw[wc n2];simp only[zd,zc,run_askRoom,Bs hT hi,Int.toNat_natCast];by_cases h0:c*i.size=0
   ·rw[wd h0];have e1:(Array.map (fun x=>(#[]:Array Value)[x % (#[]:Array Value).size]!) (Array.range (c*i.size)))=Array.map (fun i_1=>z.cells[i_1 % z.cells.size]!) (Array.range (c*i.size)):=by simp[h0]
    simp only[zd,zf,zc,Cg];rw[e1]
   ·rw[wc h0];simp only[zd,hz,zf,zc,Cg]
  ·simp only[Ab];exact⟨_,n,c,hpn,rfl,c1,yp _,fun _=>rfl,by simp⟩
def src(h:H)(size:Nat)(x:V)(n:Nat):Option (List V):=
 match x with
 | .nils=>some []
 | .esl=>bif zh n 0 then some []else none
 | .es0=>bif zh n 0 then some []else none
 | .sl b off _ _ _=>rd h b off (n*size)
 | .str s=>some ((s.take n).map fun c=>.int .u8 c.toNat)
 |_=>none
def Pw:V->Option Nat
 | .nils=>some 0
 | .esl=>some 0
 | .es0=>some 0
 | .sl _ _ len _ _=>some len
 | .str s=>some s.length
 |_=>none
theorem N8{x:V}{x':Value}(hx:Ab p x x'){n:Nat}(hd:Pw x=some n):(yy x').run P w=.ok n w:=by
 unfold Pw at hd;split at hd
 case h_1=>simp only[Ab]at hx;subst hx;cases hd;rfl
 case h_2=>simp only[Ab]at hx;obtain⟨_,_,rfl⟩:=hx;cases hd;rfl
 case h_3=>simp only[Ab]at hx;obtain⟨_,rfl⟩:=hx;cases hd;rfl
 case h_4=>simp only[Ab]at hx;obtain⟨_,_,_,_,rfl,_⟩:=hx;cases hd;rfl
 case h_5=>simp only[Ab]at hx;subst hx;cases hd;simp[yy,By]
 case h_6=>cases hd
theorem Kf(hr:R p h w){size n:Nat}{x:V}{x':Value}(hx:Ab p x x'){cs:List V}(hd:src h size x n=some cs):
  ∃vs:List Value,(zk size n x').run P w=.ok vs.toArray w/\Aq p cs vs:=by
 unfold src at hd;split at hd
 case h_6=>cases hd
 case h_1=>simp only[Ab]at hx;subst hx;cases hd;exact⟨[],rfl,by simp⟩
 case h_2=>
  simp only[Ab]at hx;obtain⟨a,c,rfl⟩:=hx;rw[Bm]at hd;by_cases e:n=0
  ·subst e;simp only[decide_true,we,ze]at hd;subst hd;exact⟨[],by simp[zk,loadCells,loadCellsFrom],by simp⟩
  ·simp[e]at hd
 case h_3=>
  simp only[Ab]at hx;obtain⟨a,rfl⟩:=hx;rw[Bm]at hd;by_cases e:n=0
  ·subst e;simp only[decide_true,we,ze]at hd;subst hd;exact⟨[],by simp[zk,loadCells,loadCellsFrom],by simp⟩
  ·simp[e]at hd
 case h_4=>
  simp only[Ab]at hx;obtain⟨r,m,c,hp,rfl,_⟩:=hx;obtain⟨r',m',vs,h1,h2,h3,_⟩:=run_loadCells (P:=P) hr hd;rw[hp]at h1;cases h1;exact⟨vs,h2,h3⟩
 case h_5=>
  rename_i s;simp only[Ab]at hx;subst hx;cases hd;refine⟨(s.take n).map fun c=>.int .u8 c.toNat,?_,?_⟩
  ·simp only[zk,zf];congr 1;apply Array.ext';simp[bytesOf,List.extract]
  ·apply Aq.mk (by simp);intro i d v h1 h2;simp only[yh]at h1 h2;cases hq:(s.take n)[i]? with
   |none=>simp[hq]at h1
   |some q=>simp[hq]at h1 h2;subst h1 h2;simp[Ab]
theorem QQ(newLen:Nat):∀(r c:Nat),c<newLen->yt newLen r c<=2*newLen+1000
 |0,c,h=>by simp[yt];omega
 |r+1,c,h=>by
  unfold yt;rw[wc (by omega)];by_cases h2:c+(c+768)/4<newLen
  ·exact QQ newLen r _ h2
  ·cases r with
   |zero=>simp[yt];omega
   |succ r=>unfold yt;rw[wd (by omega)];omega
theorem V5(need c:Nat)(h:c<need):yj need c<=2*need+1000:=by
 unfold yj;split
 ·omega
 ·split
  ·omega
  ·exact QQ need 4 c h
def isInt:TypeDesc->Bool
 | .int _=>true
 |_=>false
def Oq:V->Bool
 | .str _=>false
 |_=>true
def Ge(T:BW)(h:H)(ts:Array TypeId)(args:List V):Option (V×H):=
 match ts[0]?,ts[1]?,args with
 |some t,some tx,[s,x]=>
  match T.und t,T.und tx,Pw x with
  |some (.slice e),some dx,some n=>
   match T.inf e,isInt dx with
   |some i,false=>
    bif zl 0 i.bytes&&zl 0 i.size&&zh i.zero.length i.size&&(zh i.size 1||Oq x)then
     match src h i.size x n with
     |some new=>
      match s with
      | .nils=>
       bif zh n 0 then some (.nils,h)
       else bif z6 ((2*n+1000)*i.bytes) 281474976710656 then some (.sl h.nx 0 n n i.size,HV h e new)else none
      | .es0=>
       bif zh n 0 then some (.es0,h)
       else bif z6 ((2*n+1000)*i.bytes) 281474976710656 then some (.sl h.nx 0 n n i.size,HV h e new)else none
      | .esl=>bif zh n 0 then some (.esl,h)else none
      | .sl b off len cap o=>
       bif z6 (len+n) cap then(wr h b (off+len*i.size) new).map fun h'=>(.sl b off (len+n) cap o,h')
       else bif z6 ((2*(len+n)+1000)*i.bytes) 281474976710656 then
        match src h i.size s len with
        |some old=>
         bif zh o 0 then some (.sl h.nx 0 (len+n) (len+n) i.size,HV h e (old++new))
         else
          match h.get b with
          |some (.cells _ te fz)=>
           bif zh off 0&&zh o i.size&&zh te e&&z6 fz.2 fz.1&&new.all V.one then some (.sl h.nx 0 (len+n) (len+n) i.size,(h.kill b).push (.cells (old++new) e (0,0)))
           else none
          |_=>none
        |none=>none
       else none
      |_=>none
     |none=>none
    else none
   |_,_=>none
  |_,_,_=>none
 |_,_,_=>none
theorem QC{old new:List V}{vo vn:List Value}(h1:Aq p old vo)(h2:Aq p new vn)(rest:Array Value):
  Aq p (old++new) ((vo.toArray++vn.toArray++rest).toList.take (old++new).length):=by
 have l1:=h1.length;have l2:=h2.length;have:((vo.toArray++vn.toArray++rest).toList.take (old++new).length)=vo++vn:=by
  simp only[Array.toList_append,yo,l1,l2];rw[List.take_append_of_le_length (by simp)];rw[List.take_of_length_le (by simp)]
 rw[this];exact h1.append h2
section
variable {ts:Array TypeId}{t t0 tx e:TypeId}{dx:TypeDesc}{i:TI}{n:Nat}{x' z:Value}{j:TypeInfo}
theorem OI(hT:T.Ok P)(ht0:ts[0]?=some t0)(htx:ts[1]?=some tx)(hu:T.und t0=some (.slice e))(hux:T.und tx=some dx)(hdx:isInt dx=false)
  (hi:T.inf e=some i) (hn:∀w,(yy x').run P w=.ok n w) (base:Option Addr) (len' c:Nat) (hle:len'+n<=c):
  (yd ts t #[.slice base len' c,x']).run P w=((zk i.size n x').run P w).andThen fun new w'=>((match base with|some a=>storeCells (a.add (len'*i.size)) new.toList|none=>pure ():Sem Unit).run P w').andThen fun _ w'=>.ok (.slice base (len'+n) c) w':=by
 unfold yd;cases dx<;>first|(cases hdx;done)|skip
 all_goals
  simp only[ht0,htx,yu,yq,yr,zd,Av hT hu,Av hT hux,Bs hT hi,zc,zf,yf,ve,hn,hle,wk,Bool.not_false];cases base with
  |none=>rfl
  |some b=>simp only[zd,zf]
theorem Qk(hT:T.Ok P)(ht0:ts[0]?=some t0)(htx:ts[1]?=some tx)(hu:T.und t0=some (.slice e))(hux:T.und tx=some dx)(hdx:isInt dx=false)
  (hi:T.inf e=some i) (hpos:0<i.bytes) (hz:∀w,(zeroValue e).run P w=.ok z w) (hn:∀w,(yy x').run P w=.ok n w) (base:Option Addr) (len' c:Nat) (hlt:c<len'+n)
  (hcap:(2*(len'+n)+1000)*i.bytes<=281474976710656):
  ∃nc,len'+n<=nc/\(yd ts t #[.slice base len' c,x']).run P w=((zk i.size len' (.slice base len' c)).run P { w with drawn:=w.drawn+1 }).andThen fun old w'=>
   ((zk i.size n x').run P w').andThen fun new w'=>
    .ok (.slice (some ⟨w'.heap.size,0,none⟩) (len'+n) nc) { w' with heap:=w'.heap.push (.cells (old++new++zi z.cells (nc-(len'+n))) e) }:=by
 obtain⟨j,hj,hjb,hjs⟩:=N7 hT hi;have hnc:=V5 (len'+n) c hlt;have hle:yj (len'+n) c*i.bytes<=281474976710656:=Nat.le_trans (yc _ hnc) hcap;refine⟨(Question.appendCap (len'+n) c e).cut (w.tape w.drawn (.appendCap (len'+n) c e)),by simp[Question.cut],?_⟩;unfold yd;have h1:¬(len'+n<=c):=by omega
 have h2:¬(yj (len'+n) c*i.bytes>2^48):=by omega
 have h3:¬(i.bytes=0):=by omega
 cases dx<;>first|(cases hdx;done)|skip
 all_goals
  simp only[ht0,htx,yu,yq,yr,zd,Av hT hu,Av hT hux,Bs hT hi,zc,zf,yf,ve,hn,Bool.not_false,wk,
   h1,hj,hjb,h3,or_self,and_false,h2,run_choose,y8,run_askRoom,hz,Cg]
end
theorem Ia(z:Array Value)(n:Nat):(zi z n).size=n*z.size:=by simp[zi]
theorem O6{size n:Nat}{x:V}{cs:List V}(hx:Pw x=some n)(h1:size=1\/∀s,x≠ .str s)(hd:src h size x n=some cs):cs.length=n*size:=by
 unfold src at hd;split at hd
 case h_6=>cases hd
 case h_1=>cases hd;cases hx;simp
 case h_2=>
  cases hx;cases hd;simp
 case h_3=>
  cases hx;cases hd;simp
 case h_4=>
  rw[Yf]at hd;unfold xE at hd;split at hd
  case h_2=>cases hd
  split at hd
  case isFalse=>cases hd
  cases hd;simp;omega
 case h_5=>
  rename_i s;cases hd;cases hx;rcases h1 with rfl|h1
  ·simp
  ·exact wh rfl (h1 s)
theorem WV(hT:T.Ok P)(hr:R p h w){ts:Array TypeId}{t:TypeId}{args:List V}{args':Array Value}(ha:Aq p args args'.toList){v:V}{h':H}(hd:Ge T h ts args=some (v,h')):
  ∃v' p' w',(yd ts t args').run P w=.ok v' w'/\Ab p' v v'/\Ext p h w p' h' w':=by
 unfold Ge at hd;split at hd
 case h_2=>cases hd
 rename_i t0 tx s x ht0 htx;obtain⟨s',x',hargs,hs,hx⟩:=ha.two;have ha0:args'[0]?=some s':=by rw[<-zq,hargs];rfl
 have ha1:args'[1]?=some x':=by rw[<-zq,hargs];rfl
 split at hd
 case h_2=>cases hd
 rename_i e dx n hu hux hxlen;split at hd
 case h_2=>cases hd
 rename_i i hi hdx;cases hcond:(zl 0 i.bytes&&zl 0 i.size&&zh i.zero.length i.size&&(zh i.size 1||Oq x))with
 |false=>simp[hcond]at hd
 |true=>
  simp only[hcond,we]at hd;simp only[zu,yw,Bm,w5,qn]at hcond;obtain⟨⟨⟨c1,c2⟩,c3⟩,c4⟩:=hcond;have c5:i.size=1\/∀s,x≠ .str s:=c4.imp id (fun h s e=>by subst e;cases h);split at hd
  case h_2=>cases hd
  rename_i new hnew;have hnl:=O6 hxlen c5 hnew;obtain⟨vn,hvn,hvnr⟩:=Kf (P:=P) hr hx hnew;obtain⟨j,hj,hjb,hjs⟩:=N7 hT hi;obtain⟨z,hz,hzr⟩:=Eg hT hi;have hzl:=(hzr p).length;simp at hzl;have hne:args'= #[s',x']:=by apply Array.ext';simpa using hargs
  subst hne;have hlenx:∀w,(yy x').run P w=.ok n w:=fun w=>N8 hx hxlen
  have none0:∀(base:Option Addr) (c:Nat),n=0->(yd ts t #[.slice base 0 c,x']).run P w=.ok (.slice base 0 c) w:=by
   intro base c h0;rw[OI hT ht0 htx hu hux hdx hi hlenx base 0 c (by omega),hvn];have hv0:vn=[]:=by
    have h1:=hvnr.length;rw[hnl,h0,Nat.zero_mul]at h1;exact qj.1 h1.symm
   subst hv0;cases base<;>simp[h0,storeCells]
  have some0:∀(base:Option Addr),¬n=0->(2*n+1000)*i.bytes<=281474976710656->∃v' p' w',(yd ts t #[.slice base 0 0,x']).run P w=.ok v' w'/\Ab p' (.sl h.nx 0 n n i.size) v'/\Ext p h w p' (HV h e new) w':=by
   intro base h0 hb;obtain⟨nc,hnc,hrun⟩:=Qk (w:=w) (t:=t) hT ht0 htx hu hux hdx hi c1 hz hlenx base 0 0 (by omega) (by simpa using hb);simp only[qw]at hrun hnc;have hd1:=qo hr (w.drawn+1);obtain⟨vn',hvn',hvnr'⟩:=Kf (P:=P) hd1.rel hx hnew;have hne2:=qk (n:=nc*i.size) hd1.rel (o:=.cells new e (0,0)) (x:=.cells (#[]++vn'.toArray++zi z.cells (nc-n)) e) ?_
   ·refine⟨.slice (some ⟨w.heap.size,0,none⟩) n nc,_,_,?_,?_,hd1.trans hne2⟩
    ·rw[hrun];have hf:∀w,(zk i.size 0 (Value.slice base 0 0)).run P w=.ok #[] w:=by
      intro w;cases base<;>simp[zk,loadCells,loadCellsFrom]
     simp only[hf,zc,hvn']
    ·simp only[Ab];refine⟨w.heap.size,nc*i.size,nc,by rw[<-hr.len];simp,rfl,yp _,by omega,fun h=>by omega,fun _=>by omega⟩
   ·have hl:=hvnr'.length;have hsz:(#[]++vn'.toArray++zi z.cells (nc-n)).size=nc*i.size:=by
     have:vn'.length=n*i.size:=by omega
     simp only[qd,Ia,qe,qe,this, <-hzl,c3,Nat.sub_mul];have:n*i.size<=nc*i.size:=yc _ (by omega);simp;omega
    refine⟨_,(0,0),rfl,hsz,?_,?_,fun i _ h1 h2=>⟨h1,h2⟩⟩
    ·rw[hnl];exact yc _ (by omega)
    ·have:=QC (p:=p) (old:=[]) (vo:=[]) (by simp) hvnr' (zi z.cells (nc-n));simpa using this.yL
  split at hd
  case h_5=>cases hd
  case h_1=>
   simp only[Ab]at hs;subst hs;rw[Bm]at hd;by_cases h0:n=0
   ·simp only[h0,decide_true,we,ze,zr]at hd;obtain⟨rfl,rfl⟩:=hd;exact⟨.slice none 0 0,p,w,none0 none 0 h0,by simp[Ab],z7 hr⟩
   ·simp only[h0,decide_false,wg]at hd;cases hb:z6 ((2*n+1000)*i.bytes) 281474976710656 with
    |false=>simp[hb]at hd
    |true=>
     simp only[hb,we,ze,zr]at hd;obtain⟨rfl,rfl⟩:=hd;rw[yg]at hb;exact some0 none h0 hb
  case h_2=>
   simp only[Ab]at hs;obtain⟨a0,rfl⟩:=hs;rw[Bm]at hd;by_cases h0:n=0
   ·simp only[h0,decide_true,we,ze,zr]at hd;obtain⟨rfl,rfl⟩:=hd;exact⟨_,p,w,none0 (some a0) 0 h0,by simp[Ab],z7 hr⟩
   ·simp only[h0,decide_false,wg]at hd;cases hb:z6 ((2*n+1000)*i.bytes) 281474976710656 with
    |false=>simp[hb]at hd
    |true=>
     simp only[hb,we,ze,zr]at hd;obtain⟨rfl,rfl⟩:=hd;rw[yg]at hb;exact some0 (some a0) h0 hb
  case h_3=>
   simp only[Ab]at hs;obtain⟨a0,c0,rfl⟩:=hs;rw[Bm]at hd;by_cases h0:n=0
   ·simp only[h0,decide_true,we,ze,zr]at hd;obtain⟨rfl,rfl⟩:=hd;exact⟨_,p,w,none0 (some a0) c0 h0,by simp[Ab],z7 hr⟩
   ·simp[h0]at hd
  case h_4=>
   rename_i b off len cap o;simp only[Ab]at hs;obtain⟨r,m,c,hp,rfl,hlen,hcap,ho1,ho2⟩:=hs;cases hle:z6 (len+n) cap with
   |true=>
    simp only[hle,we,zg,zr]at hd;obtain⟨h1,hw,rfl,rfl⟩:=hd;rw[yg]at hle;obtain⟨r',m',w',g1,g2,g3⟩:=SL (P:=P) hr hvnr hw;rw[hp]at g1;cases g1;refine⟨.slice (some ⟨r,off,none⟩) (len+n) c,p,w',?_,?_,g3⟩
    ·rw[OI hT ht0 htx hu hux hdx hi hlenx _ len c (by omega),hvn];simp only[zc,Addr.Hf,g2]
    ·simp only[Ab];exact⟨r,m,c,hp,rfl,hle,hcap,ho1,ho2⟩
   |false=>
    simp only[hle,wg]at hd;have hle':¬(len+n<=cap):=by rw[<-yg,hle];simp
    cases hb:z6 ((2*(len+n)+1000)*i.bytes) 281474976710656 with
    |false=>simp[hb]at hd
    |true=>
     simp only[hb,we]at hd;rw[yg]at hb;split at hd
     case h_2=>cases hd
     rename_i old hold;have hol:=O6 (x:=.sl b off len cap o) (n:=len) rfl (.inr (fun s e=>by cases e)) hold;have hsrel:∀q:Pl,(∃q',q=p++q')->Ab q (.sl b off len cap o) (.slice (some ⟨r,off,none⟩) len c):=by
      rintro q ⟨q',rfl⟩;exact Ab.mono q' (by simp only[Ab];exact⟨r,m,c,hp,rfl,hlen,hcap,ho1,ho2⟩)
     have fresh:∀(_:c<len+n) (h2:H),R p h2 { w with drawn:=w.drawn+1 }->h2.nx=h.nx->
       ∃v' p' w',(yd ts t #[.slice (some ⟨r,off,none⟩) len c,x']).run P w=.ok v' w'/\Ab p' (.sl h.nx 0 (len+n) (len+n) i.size) v'/\
        Ext p h2 { w with drawn:=w.drawn+1 } p' (h2.push (.cells (old++new) e (0,0))) w':=by
      intro hlt h2 hr2 hnx;obtain⟨nc,hnc,hrun⟩:=Qk (w:=w) (t:=t) hT ht0 htx hu hux hdx hi c1 hz hlenx (some ⟨r,off,none⟩) len c hlt hb;have hd1:=qo hr (w.drawn+1);obtain⟨vn',hvn',hvnr'⟩:=Kf (P:=P) hd1.rel hx hnew;obtain⟨vo',hvo',hvor'⟩:=Kf (P:=P) (x:=.sl b off len cap o) hd1.rel (hsrel p ⟨[],by simp⟩) hold;have hl:=hvnr'.length;have hl2:=hvor'.length;have hsz:(vo'.toArray++vn'.toArray++zi z.cells (nc-(len+n))).size=nc*i.size:=by
       have e1:vn'.length=n*i.size:=by omega
       have e2:vo'.length=len*i.size:=by omega
       simp only[qd,Ia,qe,e1,e2, <-hzl,c3,Nat.sub_mul,qp];have:(len+n)*i.size<=nc*i.size:=yc _ (by omega);rw[qp]at this;omega
      have hne2:=qk (n:=nc*i.size) hr2 (o:=.cells (old++new) e (0,0)) (x:=.cells (vo'.toArray++vn'.toArray++zi z.cells (nc-(len+n))) e)
       ⟨_,(0,0),rfl,hsz,by rw[yo,hol,hnl, <-qp];exact yc _ (by omega),(QC hvor' hvnr' _).yL,fun i _ h1 h2=>⟨h1,h2⟩⟩
      refine⟨.slice (some ⟨w.heap.size,0,none⟩) (len+n) nc,_,_,?_,?_,hne2⟩
      ·rw[hrun,hvo'];simp only[zc,hvn']
      ·simp only[Ab];refine⟨w.heap.size,nc*i.size,nc,?_,rfl,yp _,by omega,fun h=>by omega,fun _=>by omega⟩;rw[<-hnx, <-hr2.len];simp
     rw[Bm]at hd;by_cases h0:o=0
     ·simp only[h0,decide_true,we,ze,zr]at hd;obtain⟨rfl,rfl⟩:=hd;have:=ho1 h0;have hd1:=qo hr (w.drawn+1);obtain⟨v',p',w',k1,k2,k3⟩:=fresh (by omega) h hd1.rel rfl;exact⟨v',p',w',k1,k2,hd1.trans k3⟩
     ·simp only[h0,decide_false,wg]at hd;split at hd
      case h_2=>cases hd
      rename_i cs te fz hbk;cases hc2:(zh off 0&&zh o i.size&&zh te e&&z6 fz.2 fz.1&&new.all V.one)with
      |false=>simp[hc2]at hd
      |true=>
       simp only[hc2,we,ze,zr]at hd;obtain⟨rfl,rfl⟩:=hd;simp only[zu,yg,Bm,w5,List.all_eq_true]at hc2;obtain⟨⟨⟨⟨rfl,rfl⟩,rfl⟩,d4⟩,d5⟩:=hc2;by_cases hfit:len+n<=c
       ·
        obtain⟨r',m',cc,fz',g1,g2,g3,g4,g5,g6,g7⟩:=cell_of hr hbk;rw[hp]at g1;cases g1;have hm:=ho2 h0;have hl:=hvnr.length;have hone:∀v∈vn,v.oneCell'=true:=by
         intro v hv;obtain⟨k,hk⟩:=List.mem_iff_getElem?.1 hv;have hk':=(ya.1 hk).1;obtain⟨u,hu1,hu2⟩:=hvnr.get (i:=k) (d:=new[k]'(by omega)) (by simp);rw[hk]at hu1;cases hu1;exact hu2.one (d5 _ (List.getElem_mem _))
        have hbnd:len*i.size+n*i.size<=c*i.size:=by rw[<-qp];exact yc _ hfit
        obtain⟨cc',k1,k2,k3⟩:=Fs (P:=P) vn w cc (len*i.size) 0 g2 (by omega) hone (by
         rintro k _ hk ⟨q1,q2⟩;have:=g7 (len*i.size+k) (by omega) q1 q2;omega)
        have hrd:old=cs.take (len*i.size)/\len*i.size<=cs.length:=by
         unfold src at hold;simp only[Yf]at hold;unfold xE at hold;simp only[hbk,qw,List.drop_zero]at hold;split at hold
         ·rename_i hc0;cases hold;exact⟨rfl,hc0.1⟩
         ·cases hold
        refine⟨.slice (some ⟨r,0,none⟩) (len+n) c,p++[(r,m)],{ w with heap:=w.heap.setIfInBounds r (.cells cc' te fz') },?_,?_,Ext.move hr (o':=.cells (old++new) te (0,0)) hbk hp ⟨cc',fz',rfl,by omega,?_,?_,?_⟩ rfl rfl rfl rfl (fun _ _ _ e1 hlk=>by cases e1;obtain⟨l1,_,l3⟩:=hlk;omega)⟩
        ·rw[OI hT ht0 htx hu hux hdx hi hlenx _ len c hfit,hvn];simp only[zc,Addr.Hf,qw,k1]
        ·simp only[Ab];exact⟨r,m,c,by rw[<-hr.len];simp,rfl,yp _,hfit,fun h=>by omega,fun _=>hm⟩
        ·rw[yo,hol,hnl];omega
        ·refine⟨?_,?_⟩
         ·simp;omega
         ·intro k d v hdk hvk hokk;have hkl:k<(old++new).length:=(ya.1 hdk).1;rw[zt hkl,k3]at hvk;rw[yo,hol,hnl]at hkl;simp only[Nat.add_zero,yh]at hvk;rw[List.getElem?_range (by omega)]at hvk;simp only[y9,ze]at hvk;by_cases hk:k<len*i.size
          ·rw[yn (by omega),hrd.1,zt hk]at hdk;rw[wc (by omega)]at hvk;obtain⟨u,hu1,hu2⟩:=g5.get hdk hokk;rw[zt (by omega)]at hu1;simp only[List.getD,hu1,Option.getD_some]at hvk;exact hvk▸hu2
          ·rw[List.getElem?_append_right (by omega),hol]at hdk;rw[wd (by omega)]at hvk;obtain⟨u,hu1,hu2⟩:=hvnr.get hdk;simp only[List.getD,hu1,Option.getD_some]at hvk;exact hvk▸hu2
        ·intro k hk q1 q2;have:=g7 k hk q1 q2;omega
       ·have hk:=Ext.kill hr b;have hd1:=qo hk.rel (w.drawn+1);obtain⟨v',p',w',k1,k2,k3⟩:=fresh (by omega) (h.kill b) hd1.rel rfl;exact⟨v',p',w',k1,k2,(hk.trans hd1).trans k3⟩
def dC(T:BW)(h:H)(ts:Array TypeId)(args:List V):Option (V×H):=
 match ts[0]?,args with
 |some t,[d,x]=>
  match T.und t,Pw d,Pw x with
  |some (.slice e),some dl,some n=>
   match T.inf e with
   |some i=>
    match src h i.size x (Nat.min n dl)with
    |some new=>
     match d with
     | .nils=>some (i64 (Nat.min n dl),h)
     | .sl b off _ _ _=>(wr h b off new).map fun h'=>(i64 (Nat.min n dl),h')
     |_=>none
    |none=>none
   |none=>none
  |_,_,_=>none
 |_,_=>none
theorem iJ(hT:T.Ok P)(hr:R p h w){ts:Array TypeId}{t:TypeId}{args:List V}{args':Array Value}(ha:Aq p args args'.toList){v:V}{h':H}(hd:dC T h ts args=some (v,h')):
  ∃v' p' w',(Builtin.copy_ ts t args').run P w=.ok v' w'/\Ab p' v v'/\Ext p h w p' h' w':=by
 unfold dC at hd;split at hd
 case h_2=>cases hd
 rename_i t0 d x ht0;obtain⟨d',x',hargs,hdr,hx⟩:=ha.two;have hne:args'= #[d',x']:=by apply Array.ext';simpa using hargs
 subst hne;split at hd
 case h_2=>cases hd
 rename_i e dl n hu hdl hn;split at hd
 case h_2=>cases hd
 rename_i i hi;split at hd
 case h_2=>cases hd
 rename_i new hnew;obtain⟨vn,hvn,hvnr⟩:=Kf (P:=P) hr hx hnew;unfold Builtin.copy_;simp only[ht0,yu,yq,yr,zd,Av hT hu,zc];split at hd
 case h_3=>cases hd
 case h_1=>
  simp only[Ab]at hdr;subst hdr;simp only[Pw,ze]at hdl;subst hdl;cases hd;simp only[zd,N8 hx hn,Bs hT hi,zc,hvn];refine⟨_,p,w,zf ..,?_,z7 hr⟩;simp[i64,Ab,goInt]
 case h_2=>
  rename_i b off len cap o;simp only[Pw,ze]at hdl;subst hdl;simp only[Ab]at hdr;obtain⟨r,m,c,hp,rfl,_⟩:=hdr;rw[zg]at hd;obtain⟨h1,hw,he⟩:=hd;cases he;obtain⟨r',m',w',g1,g2,g3⟩:=SL (P:=P) hr hvnr hw;rw[hp]at g1;cases g1;simp only[zd,N8 hx hn,Bs hT hi,zc,hvn,g2];refine⟨_,p,w',zf ..,?_,g3⟩;simp[i64,Ab,goInt]
def RY(T:BW)(h:H)(t:TypeId)(x:V):Option (V×H):=
 match T.und t,x with
 |some .string,.str s=>some (.ptr h.nx 0,h.push (.siter s 0))
 |_,_=>none
theorem ZO(hT:T.Ok P)(hr:R p h w){t:TypeId}{x:V}{x':Value}(hx:Ab p x x'){v:V}{h':H}(hd:RY T h t x=some (v,h')):
  ∃v' p' w',(qf t x').run P w=.ok v' w'/\Ab p' v v'/\Ext p h w p' h' w':=by
 unfold RY at hd;split at hd
 case h_2=>cases hd
 rename_i s hu;cases hd;simp only[Ab]at hx;subst hx;have he:=qk (n:=0) hr (o:=.siter s 0) (x:=.stringIter (bytesOf s) 0) rfl;refine⟨.pointer (some ⟨w.heap.size,0,none⟩),_,_,?_,?_,he⟩
 ·unfold qf;simp only[zd,Av hT hu,zc,zf,run_newObj]
 ·simp only[Ab];exact⟨w.heap.size,0,by rw[<-hr.len];simp,rfl⟩
def Mt(h:H)(it:V)(isStr:Bool):Option (V×H):=
 match it,isStr with
 | .ptr b 0,true=>
  match h.get b with
  |some (.siter s pos)=>
   bif zl pos s.length then
    some (.tup [.bool true,i64 pos,.int .i32 (Utf8.decode (bytesOf s) pos).1],h.put b (.siter s (pos+(Utf8.decode (bytesOf s) pos).2)))
   else some (.tup [.bool false],h)
  |_=>none
 |_,_=>none
theorem kK(hr:R p h w){it:V}{it':Value}{isStr:Bool}{t:TypeId}(hx:Ab p it it'){v:V}{h':H}(hd:Mt h it isStr=some (v,h')):
  ∃v' p' w',(ql it' isStr t).run P w=.ok v' w'/\Ab p' v v'/\Ext p h w p' h' w':=by
 unfold Mt at hd;split at hd
 case h_2=>cases hd
 rename_i b;simp only[Ab]at hx;obtain⟨r,n,hp,rfl⟩:=hx;split at hd
 case h_2=>cases hd
 rename_i s pos hb;obtain⟨r',n',x,h1,h2,h3⟩:=hr.obj _ _ hb;rw[hp]at h1;cases h1;simp only[FX]at h3;subst h3;rw[GG]at hd;unfold ql;simp only[zd,getObj,yi,h2,zc,By];by_cases hlt:pos<s.length
 ·simp only[hlt,decide_true,we,ze,zr]at hd;obtain⟨rfl,rfl⟩:=hd;simp only[hlt,wk,zd,setObj,yi,h2,zc];refine⟨_,p,_,zf ..,?_,qt hr hb hp (o':=.siter s (pos+(Utf8.decode (bytesOf s) pos).2)) rfl rfl rfl rfl rfl⟩;simp[Ab,i64,goInt]
 ·simp only[hlt,decide_false,wg,ze,zr]at hd;obtain⟨rfl,rfl⟩:=hd;simp only[hlt,ve];exact⟨_,p,w,zf ..,by simp[Ab],z7 hr⟩
def Ij(h:H)(r:Option V):Option (V×H):=
 match r with
 |none=>some (.map h.nx,h.push (.map [] 0))
 |some _=>none
theorem UN(hr:R p h w){t:TypeId}{r:Option V}{r':Option Value}(hx:Fl p r r'){v:V}{h':H}(hd:Ij h r=some (v,h')):
  ∃v' p' w',(Instr.makeMap t r').run P w=.ok v' w'/\Ab p' v v'/\Ext p h w p' h' w':=by
 unfold Ij at hd;split at hd
 case h_2=>cases hd
 cases hd;simp only[Fl]at hx;subst hx;have he:=qk (n:=0) hr (o:=.map [] 0) (x:=.map #[] 0) ⟨#[],rfl,.nil⟩;refine⟨.map (some w.heap.size),_,_,?_,?_,he⟩
 ·unfold Instr.makeMap;simp
 ·simp only[Ab];exact⟨w.heap.size,0,by rw[<-hr.len];simp,rfl⟩
def fU(T:BW)(kt:TypeId)(a b:V):Option Bool:=
 match T.und kt,a,b with
 |some (.int _),.int k x,.int k' y=>if k=k' then some (x==y)else none
 |some .string,.str x,.str y=>some (x==y)
 |some .bool,.bool x,.bool y=>some (x==y)
 |_,_,_=>none
def KZ(T:BW)(kt:TypeId)(k:V):List (V×V×Nat)->Nat->Option (Option (Nat×V))
 |[],_=>some none
 |(a,v,_)::es,i=>
  match fU T kt k a with
  |some true=>some (some (i,v))
  |some false=>KZ T kt k es (i+1)
  |none=>none
def plainKey:V->Bool
 | .int .. | .str _| .bool _=>true
 |_=>false
theorem bytes_beq(x y:ByteArray):(x==y)=(x.data==y.data):=rfl
theorem Yr{kt:TypeId}{a b:V}{a' b':Value}(ha:Ab p a a')(hb:Ab p b b'){r:Bool}(hd:fU T kt a b=some r){d:TypeDesc}(hu:T.und kt=some d):
  qg d a' b'=some r/\(r=true->a'=b'):=by
 unfold fU at hd;split at hd
 case h_1=>
  rename_i hu';rw[hu]at hu';cases hu';simp only[Ab]at ha hb;subst ha hb;split at hd
  ·rename_i e;subst e;cases hd;exact⟨by simp[qg],fun h=>by simp at h;subst h;rfl⟩
  ·cases hd
 case h_2=>
  rename_i hu';rw[hu]at hu';cases hu';simp only[Ab]at ha hb;subst ha hb;cases hd;refine⟨?_,fun h=>by simp at h;subst h;rfl⟩;simp only[qg];congr 1;rw[bytes_beq,Bool.eq_iff_iff];simp[bytesOf]
 case h_3=>
  rename_i hu';rw[hu]at hu';cases hu';simp only[Ab]at ha hb;subst ha hb;cases hd;exact⟨rfl,fun h=>by simp at h;subst h;rfl⟩
 case h_4=>cases hd
theorem jE{kt:TypeId}{k:V}{k':Value}(hk:Ab p k k'){d:TypeDesc}(hu:T.und kt=some d):
  ∀ {es:List (V×V×Nat)} {l:List MapEntry},DA p es l->∀ {i:Nat} {r:Option (Nat×V)},KZ T kt k es i=some r->
  ∃r',yz d k' l i=some r'/\(match r with|none=>r'=none|some (j,v)=>∃v',r'=some (j,v')/\Ab p v v'/\i<=j/\∃e,l[j-i]?=some e/\e.key=k'):=by
 intro es l he;induction he with
 |nil=>intro i r hd;simp only[KZ,ze]at hd;subst hd;exact⟨none,rfl,rfl⟩
 |@cons a v b es e l h1 h2 h3 _ ih=>
  intro i r hd;unfold KZ at hd;split at hd
  case h_1=>
   rename_i hq;cases hd;obtain⟨g1,g2⟩:=Yr hk h1 hq hu;exact⟨some (i,e.val),by simp[yz,g1],e.val,rfl,h2,yp _,e,by simp,(g2 rfl).symm⟩
  case h_2=>
   rename_i hq;obtain⟨g1,_⟩:=Yr hk h1 hq hu;obtain⟨r',k1,k2⟩:=ih hd;refine⟨r',by simp[yz,g1,k1],?_⟩;cases r with
   |none=>exact k2
   |some jv=>
    obtain⟨j,v⟩:=jv;obtain⟨v',m1,m2,m3,e',m4,m5⟩:=k2;refine⟨v',m1,m2,by omega,e',?_,m5⟩;have:j-i=(j-(i+1))+1:=by omega
    rw[this];simpa using m4
  case h_3=>cases hd
theorem run_checkKey{k:V}{k':Value}(hk:Ab p k k')(hp:plainKey k=true)(hT:T.Ok P){kt:TypeId}{d:TypeDesc}(hu:T.und kt=some d)(hs:DW d=false)(hi:∀ms,d≠ .interface ms)(b:Bool):
  (qq b 10000 kt k').run P w=.ok () w:=by
 unfold qq;rw[zd,Av hT hu];simp only[zc];cases k<;>simp only[plainKey]at hp<;>simp only[Ab]at hk
 case bool|int|str=>
  subst hk;cases d<;>first|rfl|(cases hs;done)|exact wh rfl (hi _)
 all_goals cases hp
def eL:TypeDesc->Bool
 | .int _| .string| .bool=>true
 |_=>false
theorem YT{d:TypeDesc}(h:eL d=true):DW d=false/\∀ms,d≠ .interface ms:=by
 cases d<;>first|(cases h;done)|exact⟨rfl,fun ms e=>by cases e⟩
theorem Qb{k:V}{k':Value}(hk:Ab p k k')(hp:plainKey k=true):z8 10000 k' k'=true:=by
 cases k<;>simp only[plainKey]at hp<;>simp only[Ab]at hk
 case bool=>subst hk;simp[z8]
 case int=>subst hk;simp[z8]
 case str=>subst hk;simp[z8,bytes_beq]
 all_goals cases hp
theorem UW{a b:V}{a' b':Value}(ha:Ab p a a')(hb:Ab p b b')(h:DJ a b=some true):a'=b':=by
 unfold DJ at h;split at h
 case h_1=>simp only[Ab]at ha hb;subst ha hb;simp at h;subst h;rfl
 case h_2=>
  split at h
  ·rename_i e;subst e;simp only[Ab]at ha hb;subst ha hb;simp at h;subst h;rfl
  ·cases h
 case h_3=>simp only[Ab]at ha hb;subst ha hb;simp at h;subst h;rfl
 case h_4=>cases h
theorem Ln:∀ {xs ys:List V} {x y:List Value},Aq p xs x->Aq p ys y->BM xs ys=some true->x=y
 |[],[],x,y,hx,hy,_=>by simp at hx hy;subst hx hy;rfl
 |[],_::_,_,_,_,_,h=>by simp[BM]at h
 |_::_,[],_,_,_,_,h=>by simp[BM]at h
 |a::Abz,b::bs,x,y,hx,hy,h=>by
  simp only[Aq]at hx hy;obtain⟨u,us,rfl,h1,h2⟩:=hx;obtain⟨v,vs,rfl,h3,h4⟩:=hy;unfold BM at h;split at h
  case h_1=>
   rename_i hc;rw[UW h1 h3 hc,Ln h2 h4 h]
  case h_2=>split at h<;>cases h
  case h_3=>cases h
theorem U5:∀ {ks:List FK} {xs:List V} {x:List Value},fit ks xs=true->Aq p xs x->(x.zip x).all (fun(a,b)=>z8 9999 a b)=true
 |[],[],x,_,hx=>by simp at hx;subst hx;rfl
 |[],_::_,_,h,_=>by simp[fit]at h
 |_::_,[],_,h,_=>by simp[fit]at h
 |k::ks,v::vs,x,h,hx=>by
  simp only[Aq]at hx;obtain⟨u,us,rfl,h1,h2⟩:=hx;unfold fit at h;cases hk:k.ok v with
  |false=>simp[hk]at h
  |true=>
   simp only[hk,we]at h;have h3:=U5 h h2;simp only[List.zip_cons_cons,qu,h3,Bool.and_true];unfold FK.ok at hk;split at hk
   case h_1=>simp only[Ab]at h1;subst h1;simp[z8]
   case h_2=>simp only[Ab]at h1;subst h1;simp[z8,bytes_beq]
   case h_3=>simp only[Ab]at h1;subst h1;simp[z8]
   case h_4=>cases hk
def PH(ks:List FK)(k:List V):List (V×V×Nat)->Nat->Option (Option (Nat×V))
 |[],_=>some none
 |(a,v,_)::es,i=>
  match a with
  | .agg ys=>match MN (some ks) k ys with
   |some true=>some (some (i,v))
   |some false=>PH ks k es (i+1)
   |none=>none
  |_=>none
def Ii(T:BW)(kt:TypeId)(d:TypeDesc)(k:V):Bool:=
 match k with
 | .agg xs=>match T.flat kt with
  |some ks=>fit ks xs
  |none=>false
 |k=>plainKey k&&eL d
def JX(T:BW)(kt:TypeId)(k:V)(es:List (V×V×Nat)):Option (Option (Nat×V)):=
 match k with
 | .agg xs=>match T.flat kt with
  |some ks=>PH ks xs es 0
  |none=>none
 |k=>KZ T kt k es 0
theorem Pv(hT:T.Ok P){kt:TypeId}{ks:List FK}(hf:T.flat kt=some ks){xs:List V}{x:Array Value}(hx:Aq p xs x.toList):
  ∀ {es:List (V×V×Nat)} {l:List MapEntry},DA p es l->∀ {i:Nat} {r:Option (Nat×V)},PH ks xs es i=some r->
  ∃r',(yx kt (.agg x) l i).run P w=.ok r' w/\(match r with|none=>r'=none|some (j,v)=>∃v',r'=some (j,v')/\Ab p v v'/\i<=j/\∃e,l[j-i]?=some e/\e.key=.agg x):=by
 intro es l he;induction he with
 |nil=>intro i r hd;simp only[PH,ze]at hd;subst hd;exact⟨none,rfl,rfl⟩
 |@cons a v b es e l h1 h2 h3 _ ih=>
  intro i r hd;unfold PH at hd;split at hd
  case h_2=>cases hd
  rename_i ys;simp only[Ab]at h1;obtain⟨y,hy,h1⟩:=h1;split at hd
  case h_3=>cases hd
  case h_1=>
   rename_i hc;cases hd;obtain⟨l',e1,g1,g2,g3⟩:=HE hc;cases e1;refine⟨some (i,e.val),?_,e.val,rfl,h2,yp _,e,by simp,?_⟩
   ·simp only[yx,zd,hy,hT.flat kt ks hf p xs ys x y true w g1 g2 hx h1 g3,zc,wk,zf]
   ·rw[hy];have:=Ln hx h1 g3;congr 1;exact(zo.1 this).symm
  case h_2=>
   rename_i hc;obtain⟨l',e1,g1,g2,g3⟩:=HE hc;cases e1;obtain⟨r',k1,k2⟩:=ih hd;refine⟨r',?_,?_⟩
   ·simp only[yx,zd,hy,hT.flat kt ks hf p xs ys x y false w g1 g2 hx h1 g3,zc,yf,ve];exact k1
   ·cases r with
    |none=>exact k2
    |some jv=>
     obtain⟨j,v⟩:=jv;obtain⟨v',m1,m2,m3,e',m4,m5⟩:=k2;refine⟨v',m1,m2,by omega,e',?_,m5⟩;have:j-i=(j-(i+1))+1:=by omega
     rw[this];simpa using m4
theorem Jn(hT:T.Ok P){kt:TypeId}{d:TypeDesc}(hu:T.und kt=some d){k:V}{k':Value}(hk:Ab p k k')(hc:Ii T kt d k=true)(b:Bool):
  (qq b 10000 kt k').run P w=.ok () w:=by
 unfold Ii at hc;split at hc
 case h_1=>
  rename_i xs;split at hc
  case h_2=>cases hc
  rename_i ks hf;simp only[Ab]at hk;obtain⟨x,rfl,hx⟩:=hk;exact hT.key kt ks hf p xs x b w hc hx
 case h_2=>
  simp only[zu]at hc;obtain⟨g1,g2⟩:=YT hc.2;exact run_checkKey hk hc.1 hT hu g1 g2 b
theorem VM{kt:TypeId}{d:TypeDesc}{k:V}{k':Value}(hk:Ab p k k')(hc:Ii T kt d k=true):z8 10000 k' k'=true:=by
 unfold Ii at hc;split at hc
 case h_1=>
  rename_i xs;split at hc
  case h_2=>cases hc
  rename_i ks hf;simp only[Ab]at hk;obtain⟨x,rfl,hx⟩:=hk;have:=U5 hc hx;simp only[z8,beq_self_eq_true,Bool.true_and];exact this
 case h_2=>
  simp only[zu]at hc;exact Qb hk hc.1
def entries(h:H)(m:V):Option (List (V×V×Nat)):=
 match m with
 | .nilm=>some []
 | .map b=>match h.get b with
  |some (.map es _)=>some es
  |_=>none
 |_=>none
def Ez(T:BW)(h:H)(t:TypeId)(m k:V)(ok:Bool):Option V:=
 match T.und t with
 |some (.map kt e)=>
  match T.und kt,entries h m with
  |some d,some es=>
   bif Ii T kt d k then
    match JX T kt k es with
    |some (some (_,v))=>some (bif ok then .tup [v,.bool true]else v)
    |some none=>match T.inf e with
     |some i=>some (bif ok then .tup [i.zv,.bool false]else i.zv)
     |none=>none
    |none=>none
   else none
  |_,_=>none
 |_=>none
theorem LZ(hr:R p h w){m:V}{m':Value}(hm:Ab p m m'){es:List (V×V×Nat)}(hd:entries h m=some es):
  (m'=.map none/\es=[])\/∃r l cl b n,m=.map b/\m'=.map (some r)/\p[b]?=some (r,n)/\h.get b=some (.map es cl)/\w.heap[r]?=some (.map l cl)/\DA p es l.toList:=by
 unfold entries at hd;split at hd
 case h_1=>simp only[Ab]at hm;subst hm;cases hd;exact .inl ⟨rfl,rfl⟩
 case h_2=>
  simp only[Ab]at hm;obtain⟨r,n,hp,rfl⟩:=hm;split at hd
  case h_2=>cases hd
  rename_i es' cl hb;cases hd;obtain⟨r',n',o,h1,h2,l,h3,h4⟩:=hr.obj _ _ hb;rw[hp]at h1;cases h1;subst h3;exact .inr ⟨r,l,cl,_,_,rfl,rfl,hp,hb,h2,h4⟩
 case h_3=>cases hd
theorem run_findKey(hT:T.Ok P){kt:TypeId}{k:V}{k':Value}(hk:Ab p k k'){d:TypeDesc}(hu:T.und kt=some d){es:List (V×V×Nat)}{l:List MapEntry}(he:DA p es l)
  {r:Option (Nat×V)} (hd:JX T kt k es=some r):
  ∃r',(qh kt k' l).run P w=.ok r' w/\(match r with|none=>r'=none|some (j,v)=>∃v',r'=some (j,v')/\Ab p v v'/\∃e,l[j]?=some e/\e.key=k'):=by
 by_cases hk2:∃xs,k=.agg xs
 ·obtain⟨xs,rfl⟩:=hk2;simp only[JX]at hd;cases hf:T.flat kt with
  |none=>simp[hf]at hd
  |some ks=>
   simp only[hf]at hd;simp only[Ab]at hk;obtain⟨x,rfl,hx⟩:=hk;obtain⟨fs,hfs⟩:=hT.kind kt ks hf;rw[hu]at hfs;cases hfs;obtain⟨r',h1,h2⟩:=Pv (P:=P) (w:=w) hT hf hx he hd;refine⟨r',?_,?_⟩
   ·unfold qh;simp only[zd,Av hT hu,zc];cases l with
    |nil=>simp only[yz];simpa [yx]using h1
    |cons e l=>simp only[yz,qg];exact h1
   ·cases r with
    |none=>exact h2
    |some jv=>
     obtain⟨j,v⟩:=jv;obtain⟨v',m1,m2,m3,e',m4,m5⟩:=h2;exact⟨v',m1,m2,e',by simpa using m4,m5⟩
 ·have hq:JX T kt k es=KZ T kt k es 0:=by cases k<;>first|rfl|exact wh ⟨_,rfl⟩ hk2
  rw[hq]at hd;obtain⟨r',h1,h2⟩:=jE hk hu he hd;refine⟨r',?_,?_⟩
  ·unfold qh;simp only[zd,Av hT hu,zc,h1,zf]
  ·cases r with
   |none=>exact h2
   |some jv=>
    obtain⟨j,v⟩:=jv;obtain⟨v',m1,m2,m3,e',m4,m5⟩:=h2;exact⟨v',m1,m2,e',by simpa using m4,m5⟩
theorem Vx(hT:T.Ok P)(hr:R p h w){t:TypeId}{m k:V}{m' k':Value}{ok:Bool}(hm:Ab p m m')(hk:Ab p k k'){v:V}(hd:Ez T h t m k ok=some v):
  ∃v',(qm t m' k' ok).run P w=.ok v' w/\Ab p v v':=by
 unfold Ez at hd;split at hd
 case h_2=>cases hd
 rename_i kt e hu;split at hd
 case h_2=>cases hd
 rename_i d es hkd hes;cases hc:Ii T kt d k with
 |false=>simp[hc]at hd
 |true=>
  simp only[hc,we]at hd;obtain⟨l,hlr,hrun⟩:∃l:List MapEntry,DA p es l/\(qm t m' k' ok).run P w=((qh kt k' l).run P w).andThen fun r w'=>
    match r with
    |some (_,v)=>.ok (if ok then .tuple #[v,.bool true]else v) w'
    |none=>((zeroValue e).run P w').andThen fun z w'=>.ok (if ok then .tuple #[z,.bool false]else z) w':=by
   rcases LZ hr hm hes with⟨rfl,rfl⟩|⟨r,l,cl,b,n,rfl,rfl,hp,hb,hw,he⟩
   ·refine⟨[],.nil,?_⟩;unfold qm;simp only[zd,Av hT hu,zc,zf,Jn hT hkd hk hc];congr 1;funext r w'
    cases r<;>simp
   ·refine⟨l.toList,he,?_⟩;unfold qm;simp only[zd,Av hT hu,zc,zf,Jn hT hkd hk hc,getObj,yi,hw];congr 1;funext r w'
    cases r<;>simp
  rw[hrun];split at hd
  case h_3=>cases hd
  case h_1=>
   rename_i j v0 hf;cases hd;obtain⟨r',k1,v',rfl,k3,_⟩:=run_findKey (P:=P) (w:=w) hT hk hkd hlr hf;simp only[k1,zc];cases ok
   ·exact⟨v',by simp,by simpa using k3⟩
   ·exact⟨.tuple #[v',.bool true],by simp,by simp only[we,Ab];exact⟨_,rfl,by simp[k3,Ab]⟩⟩
  case h_2=>
   rename_i hf;split at hd
   case h_2=>cases hd
   rename_i i hi;cases hd;obtain⟨r',k1,k2⟩:=run_findKey (P:=P) (w:=w) hT hk hkd hlr hf;simp only at k2;subst k2;obtain⟨z,hz,hzr⟩:=wI hT hi;simp only[k1,zc,hz];cases ok
   ·exact⟨z,by simp,by simpa using hzr p⟩
   ·exact⟨.tuple #[z,.bool false],by simp,by simp only[we,Ab];exact⟨_,rfl,by simp[hzr p,Ab]⟩⟩
def WL(es:List (V×V×Nat))(i:Nat)(k v:V):List (V×V×Nat):=es.modify i fun e=>(k,v,e.2.2)
theorem DA.modify{es:List (V×V×Nat)}{l:List MapEntry}(he:DA p es l){k v:V}{k' v':Value}(hk:Ab p k k')(hv:Ab p v v')(i:Nat):
  DA p (WL es i k v) (l.modify i fun e=>{ e with key:=k',val:=v' }):=by
 unfold WL;induction he generalizing i with
 |nil=>simp;exact .nil
 |@cons a x b es e l h1 h2 h3 h4 ih=>
  cases i with
  |zero=>simp;exact .cons hk hv h3 h4
  |succ i=>simp;exact .cons h1 h2 h3 (ih i)
theorem DA.snoc{es:List (V×V×Nat)}{l:List MapEntry}(he:DA p es l){k v:V}{e:MapEntry}(hk:Ab p k e.key)(hv:Ab p v e.val):DA p (es++[(k,v,e.born)]) (l++[e]):=by
 induction he with
 |nil=>exact .cons hk hv rfl .nil
 |cons h1 h2 h3 _ ih=>exact .cons h1 h2 h3 ih
def Hq(T:BW)(h:H)(t:TypeId)(m k v:V):Option H:=
 match T.und t,m with
 |some (.map kt _),.map b=>
  match T.und kt,h.get b with
  |some d,some (.map es cl)=>
   bif Ii T kt d k then
    match JX T kt k es with
    |some (some (i,_))=>some (h.put b (.map (WL es i k v) cl))
    |some none=>some (h.put b (.map (es++[(k,v,cl)]) (cl+1)))
    |none=>none
   else none
  |_,_=>none
 |_,_=>none
theorem Vn(hT:T.Ok P)(hr:R p h w){t:TypeId}{m k v:V}{m' k' v':Value}(hm:Ab p m m')(hk:Ab p k k')(hv:Ab p v v'){h':H}(hd:Hq T h t m k v=some h'):
  ∃w',(Instr.mapUpdate t m' k' v').run P w=.ok () w'/\Ext p h w p h' w':=by
 unfold Hq at hd;split at hd
 case h_2=>cases hd
 rename_i kt e b hu;split at hd
 case h_2=>cases hd
 rename_i d es cl hkd hb;cases hc:Ii T kt d k with
 |false=>simp[hc]at hd
 |true=>
  simp only[hc,we]at hd;rcases LZ (es:=es) hr hm (by simp only[entries,hb])with⟨rfl,_⟩|⟨r,l,cl',b',n,e1,rfl,hp,hb',hw,he⟩
  ·simp[Ab]at hm
  ·cases e1;rw[hb]at hb';cases hb';unfold Instr.mapUpdate;simp only[zd,Av hT hu,zc,Jn hT hkd hk hc,getObj,yi,hw];split at hd
   case h_3=>cases hd
   case h_1=>
    rename_i j v0 hf;cases hd;obtain⟨r',k1,v1,rfl,k3,en,k4,k5⟩:=run_findKey (P:=P) (w:=w) hT hk hkd he hf;simp only[k1,zc];have hold:(l[j]?.map (·.key)).getD k'=k':=by
     have:l[j]?=some en:=by simpa using k4
     simp[this,k5]
    rw[hold];unfold Instr.keyThatStays;simp only[VM hk hc,wk,zd,zf,zc,setObj,yi,hw];refine⟨_,rfl,qt hr hb hp (o':=.map (WL es j k v) cl) ⟨_,rfl,?_⟩ rfl rfl rfl rfl⟩;have:=he.modify hk hv j;simpa using this
   case h_2=>
    rename_i hf;cases hd;obtain⟨r',k1,k2⟩:=run_findKey (P:=P) (w:=w) hT hk hkd he hf;simp only at k2;subst k2;simp only[k1,zc,setObj,yi,hw];refine⟨_,rfl,qt hr hb hp (o':=.map (es++[(k,v,cl)]) (cl+1)) ⟨_,rfl,?_⟩ rfl rfl rfl rfl⟩;have:=he.snoc (e:={ key:=k',val:=v',born:=cl }) hk hv;simpa using this
def He(T:BW)(h:H)(t:TypeId)(x:V):Option (V×H):=
 match T.und t,x with
 |some (.map _ _),.nilm=>some (.ptr h.nx 0,h.push (.miter none 0 [] 0))
 |some (.map _ _),.map b=>match h.get b with
  |some (.map _ cl)=>some (.ptr h.nx 0,h.push (.miter (some b) cl [] cl))
  |_=>none
 |_,_=>RY T h t x
theorem Wb(hT:T.Ok P)(hr:R p h w){t:TypeId}{x:V}{x':Value}(hx:Ab p x x'){v:V}{h':H}(hd:He T h t x=some (v,h')):
  ∃v' p' w',(qf t x').run P w=.ok v' w'/\Ab p' v v'/\Ext p h w p' h' w':=by
 unfold He at hd;split at hd
 case h_1=>
  rename_i hu;cases hd;simp only[Ab]at hx;subst hx;have he:=qk (n:=0) hr (o:=.miter none 0 [] 0) (x:=.mapIter none 0 #[] 0) rfl;refine⟨.pointer (some ⟨w.heap.size,0,none⟩),_,_,?_,?_,he⟩
  ·unfold qf;simp only[zd,Av hT hu,zc,zf,run_newObj]
  ·simp only[Ab];exact⟨w.heap.size,0,by rw[<-hr.len];simp,rfl⟩
 case h_2=>
  rename_i b hu;split at hd
  case h_2=>cases hd
  rename_i es cl hb;cases hd;simp only[Ab]at hx;obtain⟨r,n,hp,rfl⟩:=hx;obtain⟨r',n',o,h1,h2,l,h3,h4⟩:=hr.obj _ _ hb;rw[hp]at h1;cases h1;subst h3;have hp':(p++[(w.heap.size,0)])[b]?=some (r,n):=by rw[yn (ya.1 hp).1];exact hp
  have he:=qk (n:=0) hr (o:=.miter (some b) cl [] cl) (x:=.mapIter (some r) cl #[] cl) ⟨r,n,hp,rfl⟩;refine⟨.pointer (some ⟨w.heap.size,0,none⟩),_,_,?_,?_,he⟩
  ·unfold qf;simp only[zd,Av hT hu,zc,zf,getObj,yi,h2,run_newObj]
  ·simp only[Ab];exact⟨w.heap.size,0,by rw[<-hr.len];simp,rfl⟩
 case h_3=>exact ZO hT hr hx hd
def RW(h:H)(it:V)(isStr:Bool):Option (List (V×H)):=
 match it,isStr with
 | .ptr b 0,false=>
  match h.get b with
  |some (.miter none _ _ _)=>some [(.tup [.bool false],h)]
  |some (.miter (some m) since seen last)=>
   match h.get m with
   |some (.map es cl)=>
    bif es.all (fun e=>zl e.2.2 since)&&z6 since last then
     match es.filter (fun e=> !seen.contains e.2.2)with
     |[]=>some [(.tup [.bool false],h)]
     |left=>some (left.map fun e=>(.tup [.bool true,e.1,e.2.1],h.put b (.miter (some m) since (seen++[e.2.2]) cl)))
    else none
   |_=>none
  |_=>none
 |_,_=>none
theorem DA.get{es:List (V×V×Nat)}{l:List MapEntry}(he:DA p es l):∀ {i:Nat} {e:MapEntry},l[i]?=some e->∃k v,es[i]?=some (k,v,e.born)/\Ab p k e.key/\Ab p v e.val:=by
 induction he with
 |nil=>intro i e h;simp at h
 |@cons k v b es e0 l h1 h2 h3 _ ih=>
  intro i e h;cases i with
  |zero=>simp at h;subst h;exact⟨k,v,by simp[h3],h1,h2⟩
  |succ i=>simp at h;simpa using ih h
theorem DA.filter{es:List (V×V×Nat)}{l:List MapEntry}(he:DA p es l)(q:Nat->Bool):DA p (es.filter fun e=>q e.2.2) (l.filter fun e=>q e.born):=by
 induction he with
 |nil=>exact .nil
 |@cons k v b es e0 l h1 h2 h3 _ ih=>
  simp only[List.filter_cons,h3];cases q b with
  |false=>exact ih
  |true=>exact .cons h1 h2 h3 ih
theorem DA.all{es:List (V×V×Nat)}{l:List MapEntry}(he:DA p es l)(q:Nat->Bool):(es.all fun e=>q e.2.2)=l.all fun e=>q e.born:=by
 induction he with
 |nil=>rfl
 |@cons k v b es e0 l h1 h2 h3 _ ih=>simp only[qu,h3,ih]
theorem DA.find{es:List (V×V×Nat)}{l:List MapEntry}(he:DA p es l)(q:Nat->Bool){e:V×V×Nat}(hf:es.find? (fun e=>q e.2.2)=some e):∃e',l.find? (fun e=>q e.born)=some e'/\Ab p e.1 e'.key/\Ab p e.2.1 e'.val:=by
 induction he with
 |nil=>simp at hf
 |@cons k v b es e0 l h1 h2 h3 _ ih=>
  simp only[List.find?_cons,h3]at hf ⊢;cases hq:q b with
  |false=>simp only[hq]at hf ⊢;exact ih hf
  |true=>simp only[hq]at hf ⊢;cases hf;exact⟨e0,rfl,h1,h2⟩
theorem jZ(n:Nat)(hn:0<n):∃i d,(choose (.mapNext n)).run P w=.ok i { w with drawn:=d }/\i<n:=by
 rw[run_choose];by_cases h1:n<=1
 ·refine⟨0,w.drawn,?_,hn⟩;simp[y8,h1]
 ·refine⟨w.tape w.drawn (.mapNext n) % n,w.drawn+1,?_,Nat.mod_lt _ hn⟩;simp[y8,h1,Question.cut]
theorem Z6(hr:R p h w){it:V}{it':Value}{isStr:Bool}{t:TypeId}(hx:Ab p it it'){l:List (V×H)}(hd:RW h it isStr=some l):
  ∃v h' v' p' w',(v,h')∈l/\(ql it' isStr t).run P w=.ok v' w'/\Ab p' v v'/\Ext p h w p' h' w':=by
 unfold RW at hd;split at hd
 case h_2=>cases hd
 rename_i b;simp only[Ab]at hx;obtain⟨r,n,hp,rfl⟩:=hx;split at hd
 case h_3=>cases hd
 case h_1=>
  rename_i since seen last hb;cases hd;obtain⟨r',n',x,h1,h2,h3⟩:=hr.obj _ _ hb;rw[hp]at h1;cases h1;simp only[FX]at h3;subst h3;refine⟨_,_,.tuple #[.bool false],p,w,yb.2 rfl,?_,by simp[Ab],z7 hr⟩;unfold ql;simp only[zd,getObj,yi,h2,zc];rfl
 case h_2=>
  rename_i m since seen last hb;split at hd
  case h_2=>cases hd
  rename_i es cl hm;cases hc:(es.all (fun e=>zl e.2.2 since)&&z6 since last)with
  |false=>simp[hc]at hd
  |true=>
   simp only[hc,we]at hd;simp only[zu,yg]at hc;obtain⟨c1,c2⟩:=hc;obtain⟨r',n',x,h1,h2,h3⟩:=hr.obj _ _ hb;rw[hp]at h1;cases h1;simp only[FX]at h3;obtain⟨rm,nm,hpm,rfl⟩:=h3;obtain⟨r2,n2,x2,k1,k2,l2,k3,k4⟩:=hr.obj _ _ hm;rw[hpm]at k1;cases k1;subst k3;rw[k4.all fun b=>zl b since]at c1;have hold:∀e∈l2.toList,e.born<since:=by
    intro e he;have:=List.all_eq_true.1 c1 e he;simpa using this
   have hno:(!seen.toArray.isEmpty&& !l2.isEmpty&&l2.all (·.born>=last))=false:=by
    cases hl:l2.toList with
    |nil=>
     have:l2= #[]:=zo.1 hl;simp[this]
    |cons e0 rest=>
     have hm0:e0∈l2.toList:=by rw[hl];simp
     have h0:=hold e0 hm0;have:l2.all (·.born>=last)=false:=by
      rw[<-Array.all_toList,hl,qu];have:(decide (e0.born>=last))=false:=by simp;omega
      rw[this];rfl
     rw[this];simp
   have hfil:(l2.filter fun e=> !seen.toArray.contains e.born).toList=l2.toList.filter fun e=> !seen.contains e.born:=by
    simp
   have hleft:=k4.filter fun b=> !seen.contains b
   have e1:((l2.filter fun e=> !seen.toArray.contains e.born).filter (·.born<since))=l2.filter fun e=> !seen.toArray.contains e.born:=by
    apply zo.1;rw[Array.toList_filter,List.filter_eq_self];intro e he;rw[hfil]at he;simpa using hold e ((List.mem_filter.1 he).1)
   have e2:((l2.filter fun e=> !seen.toArray.contains e.born).filter (·.born>=since))= #[]:=by
    apply zo.1;rw[Array.toList_filter];simp only[List.filter_eq_nil_iff];intro e he;rw[hfil]at he;have:=hold e ((List.mem_filter.1 he).1);simp;omega
   unfold ql;simp only[zd,getObj,yi,h2,zc,k2];rw[wc (by rw[hno];simp)];simp only[e1,e2,Array.append_empty];generalize hL:(l2.filter fun e=> !seen.toArray.contains e.born)=L at*;rw[<-hfil]at hleft;have hlen:=hleft.length;split at hd
   case h_1=>
    rename_i hnil;cases hd;have hL0:L= #[]:=by
     apply zo.1;apply qj.1;rw[<-hlen,hnil];rfl
    subst hL0;refine⟨_,_,.tuple #[.bool false],p,w,yb.2 rfl,?_,by simp[Ab],z7 hr⟩;simp[zd,y8]
   case h_2=>
    rename_i left hne;cases hd;have hpos:0<L.size:=by
     have:L.toList.length=L.size:=by simp
     rw[<-this, <-hlen];cases hq:es.filter (fun e=> !seen.contains e.2.2)with
     |nil=>exact wh hq hne
     |cons _ _=>simp
    have hemp:L.isEmpty=false:=by simp[Array.isEmpty];intro h0;rw[h0]at hpos;simp at hpos
    simp only[hemp,yf,ve,Array.empty_append,Array.size_map];obtain⟨i,d,g1,g2⟩:=jZ (P:=P) (w:=w) L.size hpos;simp only[zd,g1,zc];have hi:L[i]?=some L[i]:=by simp[g2]
    obtain⟨k,v,q1,q2,q3⟩:=hleft.get (i:=i) (e:=L[i]) (by simp[g2]);simp only[Array.getElem?_map,hi,y9,zd];have hdr:=qo hr d;have hput:=qt hdr.rel hb hp (o':=.miter (some m) since (seen++[L[i].born]) cl) (x':=.mapIter (some rm) since (seen.toArray.push L[i].born) cl) ⟨rm,nm,hpm,by simp⟩
     (w':={ { w with drawn:=d }with heap:=w.heap.setIfInBounds r (.mapIter (some rm) since (seen.toArray.push L[i].born) cl) }) rfl rfl rfl rfl
    refine⟨.tup [.bool true,k,v],_,.tuple #[.bool true,L[i].key,L[i].val],p,_,List.mem_map.2 ⟨(k,v,L[i].born),List.mem_of_getElem? q1,rfl⟩,?_,?_,hdr.trans hput⟩
    ·simp[setObj,yi,h2]
    ·simp only[Ab];exact⟨_,rfl,by simp[Ab,q2,q3]⟩
def RT(h:H)(it:V):Option V:=
 match it with
 | .ptr b 0=>
  match h.get b with
  |some (.miter (some m) _ seen last)=>
   match h.get m with
   |some (.map es cl)=>
    bif zh cl last then
     match seen.getLast? with
     |some s=>match es.find? (fun e=>zh e.2.2 s)with
      |some e=>some (.tup [e.1,e.2.1])
      |none=>none
     |none=>none
    else none
   |_=>none
  |_=>none
 |_=>none
theorem aK(hr:R p h w){it:V}{it':Value}(hx:Ab p it it'){v:V}(hd:RT h it=some v):∃v',(Instr.entry it').run P w=.ok v' w/\Ab p v v':=by
 unfold RT at hd;split at hd
 case h_2=>cases hd
 rename_i b;simp only[Ab]at hx;obtain⟨r,n,hp,rfl⟩:=hx;split at hd
 case h_2=>cases hd
 rename_i m since seen last hb;split at hd
 case h_2=>cases hd
 rename_i es cl hm;rw[Bm]at hd;by_cases hcl:cl=last
 ·simp only[hcl,decide_true,we]at hd;split at hd
  case h_2=>cases hd
  rename_i s hs;split at hd
  case h_2=>cases hd
  rename_i e hf;cases hd;obtain⟨r',n',x,h1,h2,h3⟩:=hr.obj _ _ hb;rw[hp]at h1;cases h1;simp only[FX]at h3;obtain⟨rm,nm,hpm,rfl⟩:=h3;obtain⟨r2,n2,x2,k1,k2,l2,k3,k4⟩:=hr.obj _ _ hm;rw[hpm]at k1;cases k1;subst k3;obtain⟨e',q1,q2,q3⟩:=k4.find (fun b=>zh b s) hf;refine⟨.tuple #[e'.key,e'.val],?_,by simp only[Ab];exact⟨_,rfl,by simp[q2,q3]⟩⟩;unfold Instr.entry;have hback:seen.toArray.back?=some s:=by rw[Array.back?_eq_getElem?];simp[List.getLast?_eq_getElem?]at hs ⊢;exact hs
  have hfind:l2.find? (fun e=>e.born==s)=some e':=by
   rw[<-Array.find?_toList, <-q1];congr 1;funext e
   rw[Bm];rw[Bool.eq_iff_iff];simp
  simp only[zd,getObj,yi,h2,zc,k2,hback,hcl,bne_self_eq_false,yf,ve,hfind,zf]
 ·simp[hcl]at hd
theorem DA.erase{es:List (V×V×Nat)}{l:List MapEntry}(he:DA p es l)(i:Nat):DA p (es.eraseIdx i) (l.eraseIdx i):=by
 induction he generalizing i with
 |nil=>simp;exact .nil
 |@cons k v b es e0 l h1 h2 h3 h4 ih=>
  cases i with
  |zero=>simpa using h4
  |succ i=>simp;exact .cons h1 h2 h3 (ih i)
def KP(T:BW)(h:H)(ts:Array TypeId)(args:List V):Option (V×H):=
 match ts[0]?,args with
 |some mt,[.map b,k]=>
  match T.und mt with
  |some (.map kt _)=>
   match T.und kt,h.get b with
   |some d,some (.map es cl)=>
    bif Ii T kt d k then
     match JX T kt k es with
     |some (some (i,_))=>some (.tup [],h.put b (.map (es.eraseIdx i) cl))
     |some none=>some (.tup [],h.put b (.map es cl))
     |none=>none
    else none
   |_,_=>none
  |_=>none
 |_,_=>none
theorem VE(hT:T.Ok P)(hr:R p h w){ts:Array TypeId}{t:TypeId}{args:List V}{args':Array Value}(ha:Aq p args args'.toList){v:V}{h':H}(hd:KP T h ts args=some (v,h')):
  ∃v' p' w',(Builtin.delete_ ts t args').run P w=.ok v' w'/\Ab p' v v'/\Ext p h w p' h' w':=by
 unfold KP at hd;split at hd
 case h_2=>cases hd
 rename_i mt b k ht;obtain⟨m',k',hargs,hm,hk⟩:=ha.two;have ha0:args'[0]?=some m':=by rw[<-zq,hargs];rfl
 have ha1:args'[1]?=some k':=by rw[<-zq,hargs];rfl
 split at hd
 case h_2=>cases hd
 rename_i kt e hu;split at hd
 case h_2=>cases hd
 rename_i d es cl hkd hb;cases hc:Ii T kt d k with
 |false=>simp[hc]at hd
 |true=>
  simp only[hc,we]at hd;rcases LZ (es:=es) hr hm (by simp only[entries,hb])with⟨rfl,_⟩|⟨r,l,cl',b',n,e1,rfl,hp,hb',hw,he⟩
  ·simp[Ab]at hm
  ·cases e1;rw[hb]at hb';cases hb';unfold Builtin.delete_;simp only[ht,ha0,ha1,zd,Av hT hu,zc,getObj,yi,hw,Jn hT hkd hk hc];split at hd
   case h_3=>cases hd
   case h_1=>
    rename_i j v0 hf;cases hd;obtain⟨r',k1,v1,rfl,k3,en,k4,k5⟩:=run_findKey (P:=P) (w:=w) hT hk hkd he hf;refine⟨.tuple #[],p,{ w with heap:=w.heap.setIfInBounds r (.map (l.eraseIdxIfInBounds j) cl) },?_,by simp[Ab],qt hr hb hp (o':=.map (es.eraseIdx j) cl) ⟨_,rfl,?_⟩ rfl rfl rfl rfl⟩
    ·simp only[k1,zc];simp[setObj,yi,hw]
    ·have:=he.erase j;simpa using this
   case h_2=>
    rename_i hf;cases hd;obtain⟨r',k1,k2⟩:=run_findKey (P:=P) (w:=w) hT hk hkd he hf;simp only at k2;subst k2;refine⟨.tuple #[],p,{ w with heap:=w.heap.setIfInBounds r (.map l cl) },?_,by simp[Ab],qt hr hb hp (o':=.map es cl) ⟨_,rfl,he⟩ rfl rfl rfl rfl⟩;simp only[k1,zc];simp[setObj,yi,hw]
def FJ(T:BW)(h:H)(ts:Array TypeId)(args:List V):Option (V×H):=
 match ts[0]?,args with
 |some t,[x]=>
  match T.und t,x with
  |some (.map _ _),.nilm=>some (.tup [],h)
  |some (.map _ _),.map b=>match h.get b with
   |some (.map _ cl)=>some (.tup [],h.put b (.map [] cl))
   |_=>none
  |some (.slice _),.nils=>some (.tup [],h)
  |some (.slice _),.esl=>some (.tup [],h)
  |some (.slice _),.es0=>some (.tup [],h)
  |some (.slice e),.sl b off len _ _=>
   bif zh len 0 then some (.tup [],h)
   else match T.inf e with
    |some i=>bif zl 0 i.zero.length then
      (wr h b off (EM i.zero (len*i.zero.length))).map fun h'=>(.tup [],h')
     else none
    |none=>none
  |_,_=>none
 |_,_=>none
theorem ZV(hT:T.Ok P)(hr:R p h w){ts:Array TypeId}{t:TypeId}{args:List V}{args':Array Value}(ha:Aq p args args'.toList){v:V}{h':H}(hd:FJ T h ts args=some (v,h')):
  ∃v' p' w',(Builtin.clear_ ts t args').run P w=.ok v' w'/\Ab p' v v'/\Ext p h w p' h' w':=by
 unfold FJ at hd;split at hd
 case h_2=>cases hd
 rename_i t0 x ht;obtain⟨x',hargs,hx⟩:=ha.one;have ha0:args'[0]?=some x':=by rw[<-zq,hargs];rfl
 unfold Builtin.clear_;simp only[ht,ha0];split at hd
 case h_7=>cases hd
 case h_1=>
  rename_i hu;cases hd;simp only[Ab]at hx;subst hx;exact⟨.tuple #[],p,w,by simp[Av hT hu],by simp[Ab],z7 hr⟩
 case h_2=>
  rename_i b hu;split at hd
  case h_2=>cases hd
  rename_i es cl hb;cases hd;simp only[Ab]at hx;obtain⟨r,n,hp,rfl⟩:=hx;obtain⟨r',n',o,h1,h2,l,h3,h4⟩:=hr.obj _ _ hb;rw[hp]at h1;cases h1;subst h3;refine⟨.tuple #[],p,{ w with heap:=w.heap.setIfInBounds r (.map #[] cl) },?_,by simp[Ab],qt hr hb hp (o':=.map [] cl) ⟨_,rfl,.nil⟩ rfl rfl rfl rfl⟩;simp[zd,Av hT hu,getObj,setObj,yi,h2]
 case h_3=>
  rename_i e hu;cases hd;simp only[Ab]at hx;subst hx;exact⟨.tuple #[],p,w,by simp[Av hT hu],by simp[Ab],z7 hr⟩
 case h_4=>
  rename_i e hu;cases hd;simp only[Ab]at hx;obtain⟨_,_,rfl⟩:=hx;exact⟨.tuple #[],p,w,by simp[Av hT hu],by simp[Ab],z7 hr⟩
 case h_5=>
  rename_i e hu;cases hd;simp only[Ab]at hx;obtain⟨_,rfl⟩:=hx;exact⟨.tuple #[],p,w,by simp[Av hT hu],by simp[Ab],z7 hr⟩
 case h_6=>
  rename_i e b off len cap o hu;simp only[Ab]at hx;obtain⟨r,n,c,hp,rfl,_⟩:=hx;rw[Bm]at hd;by_cases h0:len=0
  ·simp only[h0,decide_true,we,ze,zr]at hd;obtain⟨rfl,rfl⟩:=hd;subst h0;exact⟨.tuple #[],p,w,by simp[Av hT hu],by simp[Ab],z7 hr⟩
  ·simp only[h0,decide_false,wg]at hd;split at hd
   case h_2=>cases hd
   rename_i i hi;cases hz:zl 0 i.zero.length with
   |false=>simp[hz]at hd
   |true=>
    simp only[hz,we,zg]at hd;obtain⟨h1,hw,he⟩:=hd;cases he;obtain⟨z,hzz,hzr⟩:=Eg hT hi;have hzl:=(hzr p).length;have hrel:=Jf (hzr p) (by simpa using hz) (len*i.zero.length);obtain⟨r',m,w',g1,g2,g3⟩:=SL (P:=P) hr hrel hw;rw[hp]at g1;cases g1;refine⟨.tuple #[],p,w',?_,by simp[Ab],g3⟩;have:zi z.cells len=(Array.range (len*i.zero.length)).map (fun i=>z.cells[i % z.cells.size]!):=by
     unfold zi;rw[hzl];simp
    obtain⟨len',rfl⟩:∃k,len=k+1:=⟨len-1,by omega⟩;simp only[zd,Av hT hu,zc,hzz,this,g2,zf]
def vQ(T:BW)(ts:Array TypeId)(args:List V):Option V:=
 match ts[0]?,args with
 |some t,[x]=>
  match T.und t,x with
  |some (.slice _),.sl _ _ _ cap 0=>some (i64 cap)
  |some (.slice _),.nils=>some (i64 0)
  |_,_=>none
 |_,_=>none
theorem qH(hT:T.Ok P){ts:Array TypeId}{t:TypeId}{args:List V}{args':Array Value}(ha:Aq p args args'.toList){v:V}(hd:vQ T ts args=some v):
  ∃v',(Builtin.cap_ ts t args').run P w=.ok v' w/\Ab p v v':=by
 unfold vQ at hd;split at hd
 case h_2=>cases hd
 rename_i t0 x ht;obtain⟨x',hargs,hx⟩:=ha.one;have ha0:args'[0]?=some x':=by rw[<-zq,hargs];rfl
 unfold Builtin.cap_;simp only[ht,ha0];split at hd
 case h_3=>cases hd
 case h_1=>
  rename_i e b off len cap hu;cases hd;simp only[Ab]at hx;obtain⟨r,n,c,hp,rfl,h1,h2,h3,h4⟩:=hx;have:=h3 trivial;subst this;exact⟨_,by simp[zd,Av hT hu];rfl,by simp[Ab,i64,goInt]⟩
 case h_2=>
  rename_i e hu;cases hd;simp only[Ab]at hx;subst hx;exact⟨_,by simp[zd,Av hT hu];rfl,by simp[Ab,i64,goInt]⟩
def Sf(T:BW)(h:H)(src dst:TypeId)(x:V):Option (V×H):=
 match T.und src,T.und dst,x with
 |some .string,some (.slice e),.str s=>
  match T.und e with
  |some (.int .u8)=>some (.sl h.nx 0 s.length s.length 1,h.push (.cells (s.map fun b=>.int .u8 (.ofNat b.toNat)) e (0,0)))
  |_=>none
 |_,_,_=>none
theorem Zf(hT:T.Ok P)(hr:R p h w){src dst:TypeId}{x:V}{x':Value}(hx:Ab p x x'){v:V}{h':H}(hd:Sf T h src dst x=some (v,h')):
  ∃v' p' w',(convert src dst x').run P w=.ok v' w'/\Ab p' v v'/\Ext p h w p' h' w':=by
 unfold Sf at hd;split at hd
 case h_2=>cases hd
 rename_i e s h1 h2;split at hd
 case h_2=>cases hd
 rename_i h3;cases hd;simp only[Ab]at hx;subst hx;have hrun:=run_bytes_of_string (P:=P) w src dst e (bytesOf s) (hT.und _ _ h1) (hT.und _ _ h2) (hT.und _ _ h3);generalize hc:grownCap w (bytesOf s).size 0 e=c at hrun;have hle:s.length<=c:=by
  rw[<-hc,By];unfold grownCap;simp[Question.cut]
 have hsz:(bytesRow (bytesOf s) c).size=c:=by
  have:(bytesRow (bytesOf s) c).size=(bytesOf s).size+(c-(bytesOf s).size):=by
   unfold bytesRow;rw[qd,Array.size_map,Array.size_replicate];rfl
  rw[this,By];omega
 have hd1:=qo hr (w.drawn+1);have he:=qk (n:=c) hd1.rel (o:=.cells (s.map fun b=>.int .u8 (.ofNat b.toNat)) e (0,0)) (x:=.cells (bytesRow (bytesOf s) c) e ((bytesRow (bytesOf s) c).size,(bytesRow (bytesOf s) c).size+1)) (by
  refine⟨_,_,rfl,hsz,by simpa using hle,?_,fun i hi h4 h5=>by simp only[hsz]at h4;omega⟩;refine Aq.yL (Aq.mk ?_ ?_)
  ·have:=hsz;simp at this ⊢;omega
  ·intro i d v hd hv;simp only[List.length_map]at hv;simp only[yh,zg]at hd;obtain⟨b,hb,rfl⟩:=hd;have hi:=(ya.1 hb).1;rw[zt hi]at hv;simp only[bytesRow,Array.toList_append,Array.toList_map,bytesOf]at hv;rw[yn (by simpa using hi)]at hv;simp only[yh,hb,y9,ze]at hv;subst hv;simp[Ab])
 refine⟨_,_,_,hrun,?_,hd1.trans he⟩;simp only[Ab];refine⟨w.heap.size,c,c,by rw[<-hr.len];simp,by rw[By],yp _,hle,fun h=>(by cases h),fun _=>(by omega)⟩
def FE(T:BW)(h:H)(s d:TypeId)(x:V):Option V:=
 match T.und s,T.und d,x with
 |some (.pointer _),some .unsafePointer,.nilp=>some .nilp
 |some .unsafePointer,some (.pointer _),.nilp=>some .nilp
 |some (.pointer t),some .unsafePointer,.ptr b off=>
  match T.inf t,h.get b with
  |some i,some (.cells cs _ _)=>bif zl 0 i.size&&zl off cs.length then some (.ptr b off)else none
  |_,_=>none
 |some .unsafePointer,some (.pointer u),.ptr b off=>
  match T.inf u,h.get b with
  |some i,some (.cells cs e _)=>bif zl 0 i.size&&z6 i.size cs.length&&zh e u&&zh off 0 then some (.ptr b 0)else none
  |_,_=>none
 |_,_,_=>none
theorem TB(hr:R p h w){b:Nat}{cs:List V}{t:TypeId}{fz:Nat×Nat}(hb:h.get b=some (.cells cs t fz)):
  ∃r n,p[b]?=some (r,n)/\w.shape? r=some (t,n)/\cs.length<=n:=by
 obtain⟨r,n,x,h1,h2,c,fz',rfl,h4,h5,_⟩:=hr.obj b _ hb;exact⟨r,n,h1,by simp[World.shape?,h2,h4],h5⟩
theorem ZS{u:TypeId}(hs:P.cellsOf u≠0)(k:Nat)(hk:1<=k):liesAt P P.depth u k 0 u 1=true:=by
 have hd:P.depth=(2*(P.types.size+Made.depth)+1)+1:=rfl;rw[hd];simp only[liesAt,qn];left;rw[hd];simp[rowAt,hs,hk,sameLayout]
theorem lY(hT:T.Ok P)(hr:R p h w){s d:TypeId}{x:V}{x':Value}(hx:Ab p x x'){v:V}(hd:FE T h s d x=some v):
  ∃v',(convert s d x').run P w=.ok v' w/\Ab p v v':=by
 unfold FE at hd;split at hd
 case h_5=>cases hd
 case h_1=>
  rename_i h1 h2;simp only[Ab]at hx;subst hx;cases hd;refine⟨.pointer none,?_,by simp[Ab]⟩;simp[convert,Av hT h1,Av hT h2,Conv.unsafePointer]
 case h_2=>
  rename_i h1 h2;simp only[Ab]at hx;subst hx;cases hd;refine⟨.pointer none,?_,by simp[Ab]⟩;simp[convert,Av hT h1,Av hT h2,Conv.unsafePointer]
 case h_3=>
  rename_i t b off h1 h2;split at hd
  case h_2=>cases hd
  rename_i i cs e fz hi hb;cases hc:(zl 0 i.size&&zl off cs.length)with
  |false=>rw[hc]at hd;cases hd
  |true=>
   rw[hc]at hd;cases hd;simp only[zu,yw]at hc;obtain⟨j,z,j1,j2,_⟩:=hT.inf t i hi;obtain⟨r,n,k1,k2,k3⟩:=TB hr hb;simp only[Ab]at hx;obtain⟨r',n',q1,rfl⟩:=hx;rw[k1]at q1;cases q1;refine⟨_,Lib.run_to_unsafe w ⟨r,off,none⟩ (hT.und _ _ h1) (hT.und _ _ h2) j1 (by omega) k2 (by show off<n;omega),?_⟩;simp only[Ab];exact⟨r,n,k1,rfl⟩
 case h_4=>
  rename_i u b off h1 h2;split at hd
  case h_2=>cases hd
  rename_i i cs e fz hi hb;cases hc:(zl 0 i.size&&z6 i.size cs.length&&zh e u&&zh off 0)with
  |false=>rw[hc]at hd;cases hd
  |true=>
   rw[hc]at hd;cases hd;simp only[zu,yw,yg,Bm,w5]at hc;obtain⟨⟨⟨c1,c2⟩,rfl⟩,rfl⟩:=hc;obtain⟨j,z,j1,j2,_⟩:=hT.inf e i hi;obtain⟨r,n,k1,k2,k3⟩:=TB hr hb;simp only[Ab]at hx;obtain⟨r',n',q1,rfl⟩:=hx;rw[k1]at q1;cases q1;have hcs:P.cellsOf e=i.size:=by simp[Program.cellsOf,j1,j2]
   have hk:1<=n/P.cellsOf e:=by rw[hcs];exact Nat.div_pos (by omega) c1
   refine⟨_,Lib.run_from_unsafe w ⟨r,0,none⟩ (hT.und _ _ h1) (hT.und _ _ h2) j1 k2 (ZS (by omega) _ hk),?_⟩;simp only[Ab];exact⟨r,n,k1,rfl⟩
def PB(args:List V):Option V:=
 match args with
 |[.nils]=>some .nilp
 |[.sl b off _ cap _]=>bif zl 0 cap then some (.ptr b off)else none
 |_=>none
theorem Z9{ts:Array TypeId}{t:TypeId}{args:List V}{args':Array Value}(ha:Aq p args args'.toList){v:V}(hd:PB args=some v):
  ∃v',(Builtin.unsafeSliceData_ ts t args').run P w=.ok v' w/\Ab p v v':=by
 unfold PB at hd;split at hd
 case h_3=>cases hd
 case h_1=>
  cases hd;obtain⟨x,hl,h1⟩:=ha.one;have:args'= #[x]:=zo.1 hl;subst this;simp only[Ab]at h1;subst h1;exact⟨_,Lib.run_unsafeSliceData_nil w ts t 0 0,by simp[Ab]⟩
 case h_2=>
  rename_i b off len cap o;cases hc:zl 0 cap with
  |false=>rw[hc]at hd;cases hd
  |true=>
   rw[hc]at hd;cases hd;rw[yw]at hc;obtain⟨x,hl,h1⟩:=ha.one;have:args'= #[x]:=zo.1 hl;subst this;simp only[Ab]at h1;obtain⟨r,n,c,g1,rfl,g2,g3,_⟩:=h1;exact⟨_,Lib.run_unsafeSliceData_row w ts t _ len c (by omega),by simp only[Ab];exact⟨r,n,g1,rfl⟩⟩
def Sx:V->Option UInt8
 | .int .u8 (.ofNat n)=>bif zl n 256 then some (UInt8.ofNat n)else none
 |_=>none
def Ga:List V->Option (List UInt8)
 |[]=>some []
 |v::vs=>
  match Sx v,Ga vs with
  |some b,some bs=>some (b::bs)
  |_,_=>none
theorem dD{c:V}{b:UInt8}(h:Sx c=some b):c=.int .u8 (b.toNat:Int):=by
 unfold Sx at h;split at h
 case h_2=>cases h
 rename_i n;cases hc:zl n 256 with
 |false=>rw[hc]at h;cases h
 |true=>
  rw[hc]at h;cases h;rw[yw]at hc;have:(UInt8.ofNat n).toNat=n:=by simp;omega
  rw[this];rfl
theorem Kn:∀ {cs:List V} {l:List UInt8},Ga cs=some l->cs=l.map fun b=>V.int .u8 (b.toNat:Int)
 |[],l,hb=>by cases hb;rfl
 |c::cs,l,hb=>by
  unfold Ga at hb;split at hb
  case h_2=>cases hb
  rename_i b tl hc hcs;cases hb;rw[dD hc,Kn hcs];rfl
def Qn(T:BW)(h:H)(ts:List TypeId)(args:List V):Option (V×H):=
 match ts,args with
 |[pt,_],[.ptr b 0,.int .i64 (.ofNat n)]=>
  match T.und pt,h.get b with
  |some (.pointer e),some (.cells cs e' fz)=>
   match T.inf e,Ga (cs.take n)with
   |some i,some l=>bif zh i.size 1&&zh e e'&&zl 0 n&&z6 n cs.length&&z6 n 9223372036854775807&&z6 fz.2 fz.1 then some (.str l,h.kill b)else none
   |_,_=>none
  |_,_=>none
 |_,_=>none
theorem Ext.gone{w':World}(hr:R p h w){b r n:Nat}{o:O}{x':Obj}(hb:h.get b=some o)(hp:p[b]?=some (r,n))
  (hw:w'.heap=w.heap.setIfInBounds r x') (h1:w'.os=w.os) (h2:w'.output=w.output) (h3:w'.tape=w.tape) (hk:∀cs t fz,o=.cells cs t fz->¬Lk n fz):Ext p h w p (h.kill b) w':=by
 refine⟨⟨[],by simp⟩,⟨hr.len,fun c oc hc=>?_,(hr.kill b).inj⟩,by simp[hw],fun s hs hn=>?_,fun s hi=>?_,h1,h2,h3,fun s hs hl=>?_⟩
 ·rw[H.B2]at hc;by_cases e:c=b
  ·rw[wd e]at hc;cases hc
  ·rw[wc e]at hc;obtain⟨s,m,y,g1,g2,g3⟩:=hr.obj c oc hc;refine⟨s,m,y,g1,?_,g3⟩;have hne:r≠s:=fun e'=>e (hr.inj c b oc o s m n hc hb g1 (e'▸hp))
   rw[hw,zj hne];exact g2
 ·have hne:r≠s:=fun e=>hn (e▸⟨b,o,n,hb,hp⟩)
  rw[hw,zj hne]
 ·obtain⟨c,oc,m,g1,g2⟩:=hi;rw[H.B2]at g1;split at g1
  ·cases g1
  ·exact .inl ⟨c,oc,m,g1,g2⟩
 ·obtain⟨c,m,cs,t,fz,k1,k2,k3⟩:=hl;by_cases e:c=b
  ·subst e;rw[hp]at k2;cases k2;rw[hb]at k1;cases k1;exact wh k3 (hk cs t fz rfl)
  ·have hne:r≠s:=fun e'=>e (hr.inj c b _ o s m n k1 hb k2 (e'▸hp))
   refine⟨by rw[hw,zj hne],.inl ⟨c,m,cs,t,fz,by rw[H.B2,wc e];exact k1,k2,k3⟩⟩
theorem U4{w:World}{r n:Nat}{c:Array Value}{e:TypeId}{fz:Nat×Nat}(hw:w.heap[r]?=some (.cells c e fz))(h0:n≠0):
  ∃fz',(w.freeze ⟨r,0,none⟩ n).heap=w.heap.setIfInBounds r (.cells c e fz'):=by
 refine⟨if fz.1==fz.2 then(0,0+n)else(min fz.1 0,max fz.2 (0+n)),?_⟩;unfold World.freeze;rw[wc h0];dsimp only
 rw[OE hw]
theorem aX(hT:T.Ok P)(hr:R p h w){ts:Array TypeId}{t:TypeId}{args:List V}{args':Array Value}(ha:Aq p args args'.toList){v:V}{h':H}(hd:Qn T h ts.toList args=some (v,h')):
  ∃v' w',(Builtin.unsafeString_ ts t args').run P w=.ok v' w'/\Ab p v v'/\Ext p h w p h' w':=by
 unfold Qn at hd;split at hd
 case h_2=>cases hd
 rename_i pt it b n hts;have hts:ts= #[pt,it]:=zo.1 hts;subst hts;split at hd
 case h_2=>cases hd
 rename_i e cs e' fz h1 hb;split at hd
 case h_2=>cases hd
 rename_i i l hi hl;cases hc:(zh i.size 1&&zh e e'&&zl 0 n&&z6 n cs.length&&z6 n 9223372036854775807&&z6 fz.2 fz.1)with
 |false=>rw[hc]at hd;cases hd
 |true=>
  rw[hc]at hd;cases hd;simp only[zu,yw,yg,Bm,w5]at hc;obtain⟨⟨⟨⟨⟨c1,rfl⟩,c3⟩,c4⟩,c5⟩,c6⟩:=hc;obtain⟨x,y,hargs,g1,g2⟩:=ha.two;have:args'= #[x,y]:=zo.1 hargs;subst this;simp only[Ab]at g1 g2;obtain⟨r,m,g1,rfl⟩:=g1;subst g2;obtain⟨r',m',ob,k1,k2,c,fz',rfl,k4,k5,k6,k7⟩:=hr.obj b _ hb;rw[g1]at k1;cases k1;obtain⟨j,z,j1,j2,_⟩:=hT.inf e i hi;have hcs:P.cellsOf e=1:=by simp[Program.cellsOf,j1,j2,c1]
  have hcl:=Kn hl;have hlen:l.length=n:=by
   have:=wi List.length hcl;rw[List.length_take,List.length_map]at this;omega
  have hsh:w.shape? r=some (e,m):=by simp[World.shape?,k2,k4]
  have hcell:∀j x,l[j]?=some x->w.cell? ((⟨r,0,none⟩:Addr).add j)=some (.int .u8 x.toNat):=by
   intro j x hx;have hj:=(ya.1 hx).1;have h3:cs[j]?=some (.int .u8 (x.toNat:Int)):=by
    have:=wi (·[j]?) hcl;simp only[yh,hx,y9]at this;rw[zt (by omega)]at this;exact this
   obtain⟨v,hv,hvr⟩:=k6.get h3 rfl;simp only[Ab]at hvr;subst hvr;rw[zt (by omega)]at hv;rw[Addr.Hf];simp only[World.cell?,k2];simpa using hv
  have hrun:=Lib.run_unsafeString_row w pt it t e (hT.und _ _ h1) hcs r m hsh l (by intro h;subst h;simp at hlen;omega) (by omega) (by omega) hcell;obtain⟨fz2,hfz⟩:=U4 (n:=l.length) k2 (by omega);refine⟨.string (bytesOf l),w.freeze ⟨r,0,none⟩ l.length,?_,by simp[Ab],?_⟩
  ·rw[<-hlen];exact hrun
  ·have hos:(w.freeze ⟨r,0,none⟩ l.length).os=w.os/\(w.freeze ⟨r,0,none⟩ l.length).output=w.output/\(w.freeze ⟨r,0,none⟩ l.length).tape=w.tape:=by
    unfold World.freeze;split<;>exact⟨rfl,rfl,rfl⟩
   exact Ext.gone hr hb g1 hfz hos.1 hos.2.1 hos.2.2 (by
    intro cs' t' fz' hh hk;cases hh;obtain⟨q1,q2,q3⟩:=hk;omega)
end
mutual
def cv:Value->Option V
 | .bool b=>some (.bool b)
 | .int k n=>some (.int k n)
 | .string s=>some (.str s.data.toList)
 | .pointer none=>some .nilp
 | .slice none 0 0=>some .nils
 | .map none=>some .nilm
 | .nilFunc=>some .nilf
 | .nilIface=>some .nili
 | .func f ⟨[]⟩ ⟨[]⟩=>some (.fn f [] [])
 | .agg ⟨cs⟩=>(sQ cs).map .agg
 | .tuple ⟨cs⟩=>(sQ cs).map .tup
 |_=>none
def sQ:List Value->Option (List V)
 |[]=>some []
 |v::vs=>match cv v,sQ vs with
  |some x,some xs=>some (x::xs)
  |_,_=>none
end
mutual
theorem VH(p:Pl):∀ {v:Value} {x:V},cv v=some x->Ab p x v
 | .bool b,x,h=>by simp[cv]at h;subst h;simp[Ab]
 | .int k n,x,h=>by simp[cv]at h;subst h;simp[Ab]
 | .string s,x,h=>by simp[cv]at h;subst h;simp[Ab,bytesOf]
 | .pointer none,x,h=>by simp[cv]at h;subst h;simp[Ab]
 | .pointer (some a),x,h=>by simp[cv]at h
 | .slice none 0 0,x,h=>by simp[cv]at h;subst h;simp[Ab]
 | .slice none 0 (_+1),x,h=>by simp[cv]at h
 | .slice none (_+1) _,x,h=>by simp[cv]at h
 | .slice (some a) _ _,x,h=>by simp[cv]at h
 | .map none,x,h=>by simp[cv]at h;subst h;simp[Ab]
 | .map (some a),x,h=>by simp[cv]at h
 | .nilFunc,x,h=>by simp[cv]at h;subst h;simp[Ab]
 | .nilIface,x,h=>by simp[cv]at h;subst h;simp[Ab]
 | .func f ⟨[]⟩ ⟨[]⟩,x,h=>by simp[cv]at h;subst h;simp[Ab]
 | .func f ⟨_::_⟩ _,x,h=>by simp[cv]at h
 | .func f ⟨[]⟩ ⟨_::_⟩,x,h=>by simp[cv]at h
 | .agg ⟨cs⟩,x,h=>by
  simp only[cv,zg]at h;obtain⟨xs,h1,rfl⟩:=h;simp only[Ab];exact⟨_,rfl,Rh p h1⟩
 | .tuple ⟨cs⟩,x,h=>by
  simp only[cv,zg]at h;obtain⟨xs,h1,rfl⟩:=h;simp only[Ab];exact⟨_,rfl,Rh p h1⟩
 | .float _ _,x,h=>by simp[cv]at h
 | .complex _ _ _,x,h=>by simp[cv]at h
 | .chan _,x,h=>by simp[cv]at h
 | .iface _ _,x,h=>by simp[cv]at h
theorem Rh(p:Pl):∀ {vs:List Value} {xs:List V},sQ vs=some xs->Aq p xs vs
 |[],xs,h=>by simp[sQ]at h;subst h;simp
 |v::vs,xs,h=>by
  unfold sQ at h;split at h
  case h_2=>cases h
  rename_i x xs' h1 h2;cases h;exact(Bd ..).2 ⟨VH p h1,Rh p h2⟩
end
structure Fn where
 ntmps:Nat
 results:Array ResultVar
 body:Code
 cert:Bool
structure Ctx where
 T:BW
 ng:Nat
 fn:FuncId->Option Fn
 prim:FuncId->Option (List V->H->Option (V×H))
 spec:FuncId->Option (List V->H->Option (V×H))
 mg:Bool
def Gl(_:Ctx)(p:Pl):Prop:=Gp p
theorem Gl.ext{C:Ctx}{p p':Pl}{h h':H}{w w':World}(hg:Gl C p)(e:Ext p h w p' h' w'):Gl C p':=by
 obtain⟨q,rfl⟩:=e.pre;exact Gp.app hg q
def ev(_:Ctx)(fr:Fr):Operand->Option V
 | .tmp t=>some (fr.get t)
 | .const v=>cv v
 | .global g=>bif xJ g F4 then some (.ptr g 0)else none
 | .func f=>some (.fn (.func f) [] [])
theorem A3{C:Ctx}{p:Pl}{fr:Fr}{a:Act}(hg:Gl C p)(hf:Cw p fr a){x:Operand}{v:V}(hd:ev C fr x=some v):Ab p v (a.eval x):=by
 cases x with
 |tmp t=>simp only[ev,ze]at hd;subst hd;exact hf.2 t
 |const v=>exact VH p hd
 |global g=>
  simp only[ev]at hd;cases hb:xJ g F4 with
  |true=>
   rw[hb]at hd;simp only[we,ze]at hd;subst hd;obtain⟨o,ho⟩:=XW hb;simp only[Ab,Act.eval];exact⟨g,_,hg _ ho,rfl⟩
  |false=>rw[hb]at hd;cases hd
 |func f=>simp only[ev,ze]at hd;subst hd;simp[Ab,Act.eval]
def Ql(C:Ctx)(fr:Fr):List Operand->Option (List V)
 |[]=>some []
 |x::xs=>match ev C fr x,Ql C fr xs with
  |some v,some vs=>some (v::vs)
  |_,_=>none
theorem IY{C:Ctx}{p:Pl}{fr:Fr}{a:Act}(hg:Gl C p)(hf:Cw p fr a):∀ {xs:List Operand} {vs:List V},Ql C fr xs=some vs->Aq p vs (xs.map a.eval)
 |[],vs,h=>by simp[Ql]at h;subst h;simp
 |x::xs,vs,h=>by
  unfold Ql at h;split at h
  case h_2=>cases h
  rename_i v vs' h1 h2;cases h;exact(Bd ..).2 ⟨A3 hg hf h1,IY hg hf h2⟩
def Vg(C:Ctx)(fr:Fr):Option Operand->Option (Option V)
 |none=>some none
 |some x=>(ev C fr x).map some
theorem Nd{C:Ctx}{p:Pl}{fr:Fr}{a:Act}(hg:Gl C p)(hf:Cw p fr a){x:Option Operand}{v:Option V}(hd:Vg C fr x=some v):Fl p v (x.map a.eval):=by
 cases x with
 |none=>simp[Vg]at hd;subst hd;rfl
 |some x=>
  simp only[Vg,zg]at hd;obtain⟨u,h1,rfl⟩:=hd;exact⟨_,rfl,A3 hg hf h1⟩
def VG(C:Ctx)(fr:Fr):List (Nat×Operand)->Option (List (Nat×V))
 |[]=>some []
 |(i,x)::xs=>match ev C fr x,VG C fr xs with
  |some v,some vs=>some ((i,v)::vs)
  |_,_=>none
theorem NB{C:Ctx}{p:Pl}{fr:Fr}{a:Act}(hg:Gl C p)(hf:Cw p fr a):∀ {xs:List (Nat×Operand)} {vs:List (Nat×V)},VG C fr xs=some vs->Te p vs (xs.map fun(i,x)=>(i,a.eval x))
 |[],vs,h=>by simp[VG]at h;subst h;exact .nil
 |(i,x)::xs,vs,h=>by
  unfold VG at h;split at h
  case h_2=>cases h
  rename_i v vs' h1 h2;cases h;exact .cons (A3 hg hf h1) (NB hg hf h2)
inductive OR where
 |val (v:V) (h:H)
 |skip (h:H)
 |enter (f:FuncId) (args:List V)
 |round (b:Nat) (l:LS) (fr:Fr)
 |alts (l:List (V×H))
def Fr.Zg(f:Fr)(t:Nat)(v:V):Fr:=bif zl t f.n then⟨f.n,f.m.set t (some v)⟩else f
def Gb:List Tmp->List V->Fr->Fr
 |t::ts,v::vs,f=>Gb ts vs (f.Zg t v)
 |_,_,f=>f
theorem ER.Zg{p:Pl}{f:Fr}{tmps:Array Value}(hf:ER p f tmps){v:V}{v':Value}(hv:Ab p v v')(t:Nat):ER p (f.Zg t v) (tmps.setIfInBounds t v'):=by
 unfold Fr.Zg;simp only[GG];by_cases hlt:t<f.n
 ·simp only[hlt,decide_true,we];refine⟨by simp[hf.1],fun s=>?_⟩;have hlt':t<tmps.size:=hf.1▸hlt;by_cases e:s=t
  ·subst e;simp[Fr.get,hlt',hv]
  ·have:=hf.2 s;simp only[Fr.get,PM.C2,wc e]at this ⊢;rw[zw,zj (fun x=>e x.symm), <-zw];exact this
 ·simp only[hlt,decide_false,wg];have:tmps.setIfInBounds t v'=tmps:=by
   have:tmps.size<=t:=by have:=hf.1;omega
   simp[Array.setIfInBounds,Nat.not_lt.2 this]
  rw[this];exact hf
theorem ER.Gb{p:Pl}:∀ {ts:List Tmp} {vs:List V} {vs':List Value},Aq p vs vs'->∀ {f:Fr} {tmps:Array Value},ER p f tmps->ER p (Gb ts vs f) ((ts.zip vs').foldl (fun tmps (t,a)=>tmps.setIfInBounds t a) tmps)
 |[],vs,vs',_,f,tmps,hf=>by simpa [Det.Gb]using hf
 |t::ts,[],vs',hv,f,tmps,hf=>by simp at hv;subst hv;simpa [Det.Gb]using hf
 |t::ts,v::vs,vs',hv,f,tmps,hf=>by
  simp only[Aq]at hv;obtain⟨u,us,rfl,h1,h2⟩:=hv;simp only[Det.Gb,List.zip_cons_cons,List.foldl_cons];exact ER.Gb h2 (hf.Zg h1 t)
def Bt(h:H):Option V->Option OR
 |some v=>some (.val v h)
 |none=>none
def E0:Option (V×H)->Option OR
 |some (v,h)=>some (.val v h)
 |none=>none
def fI:Option H->Option OR
 |some h=>some (.skip h)
 |none=>none
def Em(C:Ctx)(h:H)(b:Builtin)(ts:Array TypeId)(args:List V):Option OR:=
 match b with
 | .len=>Bt h (FA C.T h ts args)
 | .append=>E0 (Ge C.T h ts args)
 | .copy=>E0 (dC C.T h ts args)
 | .max=>Bt h (Gf gM args)
 | .min=>Bt h (Gf jN args)
 | .cap=>Bt h (vQ C.T ts args)
 | .delete=>E0 (KP C.T h ts args)
 | .clear=>E0 (FJ C.T h ts args)
 | .unsafeSliceData=>Bt h (PB args)
 | .unsafeString=>E0 (Qn C.T h ts.toList args)
 |_=>none
def Kp(C:Ctx)(h:H)(f:V)(args:List V):Option OR:=
 match f with
 | .fn (.func g) first captured=>
  match C.prim g with
  |some q=>E0 (q (first++args++captured) h)
  |none=>match C.fn g with
   |some _=>some (.enter g (first++args++captured))
   |none=>none
 | .yld b=>match h.get b with
  |some (.loop l)=>bif zh args.length l.ps.size then some (.round b l (Gb l.ps.toList args l.fr))else none
  |_=>none
 |_=>none
def Ns(C:Ctx)(h:H)(x:V)(name:String)(args:List V):Option OR:=
 match x with
 | .iface t v=>match C.T.mth t name with
  |some g=>Kp C h (.fn (.func g) [] []) (v::args)
  |none=>none
 |_=>none
def YP:Operand->Bool
 | .const _=>true
 |_=>false
def mZ(T:BW)(op:BinOp)(t:TypeId)(x y:Operand)(v u:V):Option V:=
 match op,v,u,T.und t with
 | .eql,.nili,.nili,some (.interface _)=>bif YP x||YP y then some (.bool true)else none
 | .neq,.nili,.nili,some (.interface _)=>bif YP x||YP y then some (.bool false)else none
 |_,_,_,_=>none
def Mu(T:BW)(op:BinOp)(t:TypeId)(x y:Operand)(v u:V):Option V:=
 match mZ T op t x y v u with
 |some r=>some r
 |none=>Md T op t v u
def GB(C:Ctx)(fr:Fr)(h:H)(o:Oper):Option OR:=
 let ρ:=ev C fr
 match o.op with
 | .move x| .assign x=>Bt h (ρ x)
 | .pick c a b=>match ρ c with
  |some (.bool t)=>Bt h (if t then ρ a else ρ b)
  |_=>none
 | .alloc t=>E0 (Gz C.T h t)
 | .box t x=>E0 ((ρ x).map fun v=>ZZ h t v)
 | .build t parts=>match VG C fr parts.toList with
  |some ps=>Bt h (JP C.T t ps)
  |none=>none
 | .buildSlice t n parts=>match VG C fr parts.toList with
  |some ps=>E0 (ED C.T h t n ps)
  |none=>none
 | .load t x=>match ρ x with
  |some v=>Bt h (EK C.T h t v)
  |none=>none
 | .store t x y=>match ρ x,ρ y with
  |some v,some u=>fI (Hw C.T h t v u)
  |_,_=>none
 | .nilCheck x=>match ρ x with
  |some (.ptr b i)=>Bt h (some (.ptr b i))
  |some (.iface t v)=>Bt h (some (.iface t v))
  |_=>none
 | .binOp op t x y _=>match ρ x,ρ y with
  |some v,some u=>Bt h (Mu C.T op t x y v u)
  |_,_=>none
 | .unOp op _ x=>match ρ x with
  |some v=>Bt h (yO op v)
  |none=>none
 | .convert s d x=>match ρ x with
  |some v=>Bt h (FU C.T h s d v)
  |none=>none
 | .makeInterface t x=>match ρ x,C.T.und t with
  |some v,some d=>match d with
   | .interface _=>none
   |_=>Bt h (some (.iface t v))
  |_,_=>none
 | .makeFunc f first captured=>match Ql C fr first.toList,Ql C fr captured.toList with
  |some a,some b=>Bt h (some (.fn f a b))
  |_,_=>none
 | .makeMap _ r=>match Vg C fr r with
  |some v=>E0 (Ij h v)
  |none=>none
 | .makeSlice t l c=>match ρ l,ρ c with
  |some v,some u=>E0 (O7 C.T h t v u)
  |_,_=>none
 | .slice t x lo hi mx=>match ρ x,Vg C fr lo,Vg C fr hi,Vg C fr mx with
  |some v,some l,some r,some m=>Bt h (Dt C.T t v l r m)
  |_,_,_,_=>none
 | .fieldAddr t x f=>match ρ x with
  |some v=>Bt h (J1 C.T t v f)
  |none=>none
 | .field t x f=>match ρ x with
  |some v=>Bt h (J0 C.T t v f)
  |none=>none
 | .indexAddr t x i=>match ρ x,ρ i with
  |some v,some u=>Bt h (C0 C.T t v u)
  |_,_=>none
 | .index t x i=>match ρ x,ρ i with
  |some v,some u=>Bt h (Hv C.T t v u)
  |_,_=>none
 | .lookup t x i ok=>match ρ x,ρ i with
  |some v,some u=>Bt h (Ez C.T h t v u ok)
  |_,_=>none
 | .mapUpdate t m k x| .insert t m k x=>match ρ m,ρ k,ρ x with
  |some a,some b,some c=>fI (Hq C.T h t a b c)
  |_,_,_=>none
 | .range t x=>match ρ x with
  |some v=>E0 (He C.T h t v)
  |none=>none
 | .next x isStr=>match ρ x with
  |some v=>bif isStr then E0 (Mt h v isStr)else(RW h v isStr).map .alts
  |none=>none
 | .entry x=>match ρ x with
  |some v=>Bt h (RT h v)
  |none=>none
 | .extract x i=>match ρ x with
  |some v=>Bt h (GS v i)
  |none=>none
 | .call c=>match c.callee,Ql C fr c.args.toList with
  | .builtin b,some args=>Em C h b c.argTypes args
  | .value f,some args=>match ρ f with
   |some g=>Kp C h g args
   |none=>none
  | .invoke x nm,some args=>match ρ x with
   |some v=>Ns C h v nm args
   |none=>none
  |_,_=>none
 |_=>none
abbrev FV:=Ctx->Fr->H->Option OR
def uG(a0:Operand):FV:=fun C fr h=>Bt h (ev C fr a0)
def fL(a0:Operand):FV:=fun C fr h=>Bt h (ev C fr a0)
def vO(a0:Operand)(a1:Operand)(a2:Operand):FV:=fun C fr h=>match ev C fr a0 with|some (.bool t)=>Bt h (if t then ev C fr a1 else ev C fr a2)|_=>none
def lJ(a0:TypeId):FV:=fun C _fr h=>E0 (Gz C.T h a0)
def zJ(a0:TypeId)(a1:Operand):FV:=fun C fr h=>E0 ((ev C fr a1).map fun v=>ZZ h a0 v)
def qN(a0:TypeId)(a1:Array (Nat×Operand)):FV:=fun C fr h=>match VG C fr a1.toList with|some ps=>Bt h (JP C.T a0 ps)|none=>none
def Sk(a0:TypeId)(a1:Nat)(a2:Array (Nat×Operand)):FV:=fun C fr h=>match VG C fr a2.toList with|some ps=>E0 (ED C.T h a0 a1 ps)|none=>none
def jD(a0:TypeId)(a1:Operand)(a2:Operand)(a3:Operand):FV:=fun C fr h=>match ev C fr a1,ev C fr a2,ev C fr a3 with|some a,some b,some c=>fI (Hq C.T h a0 a b c)|_,_,_=>none
def tY(a0:TypeId)(a1:Operand):FV:=fun C fr h=>match ev C fr a1 with|some v=>Bt h (EK C.T h a0 v)|none=>none
def lM(a0:TypeId)(a1:Operand)(a2:Operand):FV:=fun C fr h=>match ev C fr a1,ev C fr a2 with|some v,some u=>fI (Hw C.T h a0 v u)|_,_=>none
def mW(_a0:Nat):FV:=fun _ _ _=>none
def kU(_a0:Nat):FV:=fun _ _ _=>none
def WR(a0:Operand):FV:=fun C fr h=>match ev C fr a0 with|some (.ptr b i)=>Bt h (some (.ptr b i))|some (.iface t v)=>Bt h (some (.iface t v))|_=>none
def pU(a0:BinOp)(a1:TypeId)(a2:Operand)(a3:Operand)(_a4:TypeId):FV:=fun C fr h=>match ev C fr a2,ev C fr a3 with|some v,some u=>Bt h (Mu C.T a0 a1 a2 a3 v u)|_,_=>none
def vE(a0:UnOp)(_a1:TypeId)(a2:Operand):FV:=fun C fr h=>match ev C fr a2 with|some v=>Bt h (yO a0 v)|none=>none
def YZ(a0:TypeId)(a1:TypeId)(a2:Operand):FV:=fun C fr h=>match ev C fr a2 with|some v=>Bt h (FU C.T h a0 a1 v)|none=>none
def HS(_a0:TypeId)(_a1:Operand):FV:=fun _ _ _=>none
def MP(a0:TypeId)(a1:Operand):FV:=fun C fr h=>match ev C fr a1,C.T.und a0 with|some v,some d=>(match d with| .interface _=>none|_=>Bt h (some (.iface a0 v)))|_,_=>none
def VP(a0:Go.Fn)(a1:Array Operand)(a2:Array Operand):FV:=fun C fr h=>match Ql C fr a1.toList,Ql C fr a2.toList with|some a,some b=>Bt h (some (.fn a0 a b))|_,_=>none
def ZM(_a0:TypeId)(a1:Option Operand):FV:=fun C fr h=>match Vg C fr a1 with|some v=>E0 (Ij h v)|none=>none
def WA(_a0:TypeId)(_a1:Operand):FV:=fun _ _ _=>none
def Ve(a0:TypeId)(a1:Operand)(a2:Operand):FV:=fun C fr h=>match ev C fr a1,ev C fr a2 with|some v,some u=>E0 (O7 C.T h a0 v u)|_,_=>none
def pR(a0:TypeId)(a1:Operand)(a2:Option Operand)(a3:Option Operand)(a4:Option Operand):FV:=fun C fr h=>match ev C fr a1,Vg C fr a2,Vg C fr a3,Vg C fr a4 with|some v,some l,some r,some m=>Bt h (Dt C.T a0 v l r m)|_,_,_,_=>none
def TZ(a0:TypeId)(a1:Operand)(a2:Nat):FV:=fun C fr h=>match ev C fr a1 with|some v=>Bt h (J1 C.T a0 v a2)|none=>none
def oO(a0:TypeId)(a1:Operand)(a2:Nat):FV:=fun C fr h=>match ev C fr a1 with|some v=>Bt h (J0 C.T a0 v a2)|none=>none
def Tz(a0:TypeId)(a1:Operand)(a2:Operand):FV:=fun C fr h=>match ev C fr a1,ev C fr a2 with|some v,some u=>Bt h (C0 C.T a0 v u)|_,_=>none
def pH(a0:TypeId)(a1:Operand)(a2:Operand):FV:=fun C fr h=>match ev C fr a1,ev C fr a2 with|some v,some u=>Bt h (Hv C.T a0 v u)|_,_=>none
def fW(a0:TypeId)(a1:Operand)(a2:Operand)(a3:Bool):FV:=fun C fr h=>match ev C fr a1,ev C fr a2 with|some v,some u=>Bt h (Ez C.T h a0 v u a3)|_,_=>none
def UI(a0:TypeId)(a1:Operand)(a2:Operand)(a3:Operand):FV:=fun C fr h=>match ev C fr a1,ev C fr a2,ev C fr a3 with|some a,some b,some c=>fI (Hq C.T h a0 a b c)|_,_,_=>none
def Vp(_a0:TypeId)(_a1:Operand)(_a2:Operand):FV:=fun _ _ _=>none
def Rl(_a0:TypeId)(_a1:Operand)(_a2:Operand)(_a3:Operand):FV:=fun _ _ _=>none
def oJ(a0:TypeId)(a1:Operand):FV:=fun C fr h=>match ev C fr a1 with|some v=>E0 (He C.T h a0 v)|none=>none
def vF(a0:Operand)(a1:Bool):FV:=fun C fr h=>match ev C fr a0 with|some v=>bif a1 then E0 (Mt h v a1)else(RW h v a1).map .alts|none=>none
def qF(a0:Operand):FV:=fun C fr h=>match ev C fr a0 with|some v=>Bt h (RT h v)|none=>none
def Sr(_a0:Operand)(_a1:TypeId)(_a2:TypeId)(_a3:Bool):FV:=fun _ _ _=>none
def Zk(a0:Operand)(a1:Nat):FV:=fun C fr h=>match ev C fr a0 with|some v=>Bt h (GS v a1)|none=>none
def vU(a0:Call):FV:=fun C fr h=>match a0.callee,Ql C fr a0.args.toList with| .builtin b,some args=>Em C h b a0.argTypes args| .value f,some args=>(match ev C fr f with|some g=>Kp C h g args|none=>none)| .invoke x nm,some args=>(match ev C fr x with|some v=>Ns C h v nm args|none=>none)|_,_=>none
def AaF(_a0:Call):FV:=fun _ _ _=>none
def oU(_a0:Call):FV:=fun _ _ _=>none
def oK(_a0:Operand):FV:=fun _ _ _=>none
def tP(_a0:Operand)(_a1:Operand):FV:=fun _ _ _=>none
def wC(_a0:TypeId)(_a1:Operand)(_a2:Bool):FV:=fun _ _ _=>none
def iX(_a0:Array SelectCase)(_a1:Bool):FV:=fun _ _ _=>none
def opF(o:Op):FV:=@Op.casesOn (fun _=>FV) o uG fL vO lJ zJ qN Sk jD tY lM mW kU WR pU vE YZ HS MP VP ZM WA Ve pR TZ oO Tz pH fW UI Vp Rl oJ vF qF Sr Zk vU AaF oU oK tP wC iX
def F5(C:Ctx)(fr:Fr)(h:H)(o:Oper):Option OR:=opF o.op C fr h
theorem CV(C:Ctx)(fr:Fr)(h:H)(o:Oper):F5 C fr h o=GB C fr h o:=by
 unfold F5 GB;cases o.op<;>rfl
def H4(C:Ctx)(fr:Fr)(h:H)(o:Oper):Option OR:=
 match F5 C fr h o with
 |some r=>some r
 |none=>match o.op with
  | .convert s d x=>match ev C fr x with
   |some v=>match FE C.T h s d v with
    |some u=>some (.val u h)
    |none=>E0 (Sf C.T h s d v)
   |none=>none
  |_=>none
structure Ctx.Ok(C:Ctx)(P:Program):Prop where
 T:C.T.Ok P
 fn : ∀ f i, C.fn f = some i -> ∃ fn, P.funcs[f]? = some fn /\ fn.name ≠ "runtime.NumGoroutine" /\ fn.body = some i.body /\ fn.ntmps = i.ntmps /\ fn.results = i.results
 prim:∀f q,C.prim f=some q->∀(p:Pl) (h:H) (w:World) (args:List V) (args':Array Value) v h',R p h w->Gl C p->Aq p args args'.toList->q args h=some (v,h')->
  ∃v' p' w',(callFunc f args').run P w=.ok (.value v') w'/\Ab p' v v'/\Ext p h w p' h' w'
 spec:∀f q,C.spec f=some q->∀(p:Pl) (h:H) (w:World) (args:List V) (args':Array Value) v h',R p h w->Gl C p->Aq p args args'.toList->q args h=some (v,h')->
  Calls P f args' w fun e w'=>∃v' p',e=.returned v'/\Ab p' v v'/\Ext p h w p' h' w'
def SS(p:Pl)(h:H)(w:World):OR->Result Next->Prop
 | .val v h',r=>∃v' p' w',r=.ok (.value v') w'/\Ab p' v v'/\Ext p h w p' h' w'
 | .skip h',r=>∃p' w',r=.ok .skip w'/\Ext p h w p' h' w'
 | .enter f args,r=>∃args',r=.ok (.enter f args') w/\Aq p args args'.toList
 | .round b l fr,r=>∃k n f tmps,p[b]?=some (k,n)/\h.get b=some (.loop l)/\r=.ok (.round k f tmps l.asg l.body) w/\ER p fr tmps
 | .alts l,r=>∃v h' v' p' w',(v,h')∈l/\r=.ok (.value v') w'/\Ab p' v v'/\Ext p h w p' h' w'
section
variable {C:Ctx}{P:Program}{p:Pl}{h:H}{w:World}{fr:Fr}{a:Act}
theorem BQ{s:Sem Value}{v:Option V}{r:OR}(hr:R p h w)(hd:Bt h v=some r)(hs:∀x,v=some x->∃v',s.run P w=.ok v' w/\Ab p x v'):SS p h w r ((do pure (.value (<-s)):Sem Next).run P w):=by
 cases v with
 |none=>simp[Bt]at hd
 |some x=>
  simp only[Bt,ze]at hd;subst hd;obtain⟨v',h1,h2⟩:=hs x rfl;exact⟨v',p,w,by simp[h1],h2,z7 hr⟩
theorem Dh{s:Sem Value}{v:Option (V×H)}{r:OR}(hd:E0 v=some r)(hs:∀x h',v=some (x,h')->∃v' p' w',s.run P w=.ok v' w'/\Ab p' x v'/\Ext p h w p' h' w'):SS p h w r ((do pure (.value (<-s)):Sem Next).run P w):=by
 match v,hd,hs with
 |some (x,h'),hd,hs=>
  simp only[E0,ze]at hd;subst hd;obtain⟨v',p',w',h1,h2,h3⟩:=hs x h' rfl;exact⟨v',p',w',by simp[h1],h2,h3⟩
 |none,hd,_=>simp[E0]at hd
theorem WZ{s:Sem Unit}{v:Option H}{r:OR}(hd:fI v=some r)(hs:∀h',v=some h'->∃w',s.run P w=.ok () w'/\Ext p h w p h' w'):SS p h w r ((do s;pure .skip:Sem Next).run P w):=by
 cases v with
 |none=>simp[fI]at hd
 |some h'=>
  simp only[fI,ze]at hd;subst hd;obtain⟨w',h1,h2⟩:=hs h' rfl;exact⟨p,w',by simp[h1],h2⟩
theorem LR(hC:C.Ok P)(hr:R p h w)(hg:Gl C p){f:V}{f':Value}{args:List V}{args':Array Value}(hf:Ab p f f')(ha:Aq p args args'.toList){r:OR}(hd:Kp C h f args=some r):
  SS p h w r ((do let d<-yk f' args';invoke d.target d.args:Sem Next).run P w):=by
 unfold Kp at hd;split at hd
 case h_3=>cases hd
 case h_2=>
  rename_i b;split at hd
  case h_2=>cases hd
  rename_i l hb;rw[Bm]at hd;by_cases hn:args.length=l.ps.size
  ·simp only[hn,decide_true,we,ze]at hd;subst hd;simp only[Ab]at hf;obtain⟨k,n,hp,rfl⟩:=hf;obtain⟨k',n',o,h1,h2,f0,tmps,r,m,h3,h4,rfl⟩:=hr.obj _ _ hb;rw[hp]at h1;cases h1;have hl:=ha.length;simp only[yk,zd,zf,zc,invoke];simp at hl;have e:((l.ps.zip args').foldl (fun tmps (t,a)=>tmps.setIfInBounds t a) tmps)=(l.ps.toList.zip args'.toList).foldl (fun tmps (t,a)=>tmps.setIfInBounds t a) tmps:=by
    rw[<-Array.toList_zip,Array.foldl_toList]
   have h5:=ER.Gb (ts:=l.ps.toList) ha h3;rw[<-e]at h5;refine⟨k,n,f0,_,hp,hb,?_,h5⟩;simp only[Array.empty_append];exact run_yield h2 (by rw[<-hl,hn])
  ·simp[hn]at hd
 rename_i g first captured
 simp only[Ab]at hf;obtain⟨x,y,rfl,hx,hy⟩:=hf;have hall:Aq p (first++args++captured) (x++args'++y).toList:=by
  simpa using(hx.append ha).append hy
 simp only[yk,zd,zf,zc,invoke];split at hd
 case h_1=>
  rename_i q hq;match hqr:q (first++args++captured) h,hd with
  |some (v,h'),hd=>
   simp only[E0,ze]at hd;subst hd;obtain⟨v',p',w',h1,h2,h3⟩:=hC.prim g q hq p h w _ _ v h' hr hg hall hqr;exact⟨v',p',w',h1,h2,h3⟩
  |none,hd=>simp[E0]at hd
 case h_2=>
  split at hd
  case h_2=>cases hd
  rename_i i hi;cases hd;obtain⟨fn,h1,h2,h3,h4,h5⟩:=hC.fn g i hi;refine⟨_,?_,hall⟩;unfold callFunc;simp[h1,h2,h3]
theorem TM(hC:C.Ok P)(hr:R p h w)(hg:Gl C p){x:V}{x':Value}{name:String}{args:List V}{args':Array Value}(hx:Ab p x x')(ha:Aq p args args'.toList){r:OR}(hd:Ns C h x name args=some r):
  SS p h w r ((invoke (.fn (.method name) #[]) (#[x']++args')).run P w):=by
 unfold Ns at hd;split at hd
 case h_2=>cases hd
 rename_i t v;split at hd
 case h_2=>cases hd
 rename_i g hm;simp only[Ab]at hx;obtain⟨y,rfl,hy⟩:=hx;obtain⟨j,m,d,h1,h2,h3,h4,h5,h6⟩:=hC.T.mth t name g hm;have key:(invoke (.fn (.method name) #[]) (#[.iface t y]++args')).run P w=((do let d<-yk (.func (.func g) #[] #[]) (#[y]++args');invoke d.target d.args:Sem Next).run P w):=by
  have hund:(underlying t).run P w=.ok d w:=by unfold underlying;simp[h5]
  have hti:(typeInfo t).run P w=.ok j w:=by unfold typeInfo;simp[h1]
  have hmeth:∀k,(method (k+1) t y name).run P w=.ok (g,y) w:=by
   intro k;unfold method;simp only[zd,hti,zc,h2,h3,follow,zf,h4];unfold receiverAt;simp only[zd,hund,zc,Place.get];cases d<;>first|(exact wh rfl (h6 _))|simp
  have hm':=hmeth (P.types.size+99);have e:P.types.size+Made.depth=P.types.size+99+1:=rfl;have h0:(#[Value.iface t y]++args')[0]?=some (.iface t y):=by
   rw[<-zq];simp
  have h8:(#[Value.iface t y]++args').extract 1 (#[Value.iface t y]++args').size=args':=by
   rw[<-zo];simp
  simp only[invoke,yk,h0,h8];simp[callMethod,e,hm']
 rw[key];exact LR hC hr hg (f:=.fn (.func g) [] []) (by simp[Ab]) (by simp;exact⟨hy,ha⟩) hd
theorem Tq(hC:C.Ok P)(hr:R p h w){b:Builtin}{ts:Array TypeId}{t:TypeId}{cs:Array Bool}{args:List V}{args':Array Value}(ha:Aq p args args'.toList){r:OR}(hd:Em C h b ts args=some r):
  SS p h w r ((builtin b ts t cs args').run P w):=by
 unfold Em at hd;split at hd
 case h_1=>exact BQ hr hd fun x hx=>oW hC.T hr ha hx
 case h_2=>exact Dh hd fun x h' hx=>WV hC.T hr ha hx
 case h_3=>exact Dh hd fun x h' hx=>iJ hC.T hr ha hx
 case h_4=>exact BQ hr hd fun x hx=>qA ha hx
 case h_5=>exact BQ hr hd fun x hx=>qD ha hx
 case h_6=>exact BQ hr hd fun x hx=>qH hC.T ha hx
 case h_7=>exact Dh hd fun x h' hx=>VE hC.T hr ha hx
 case h_8=>exact Dh hd fun x h' hx=>ZV hC.T hr ha hx
 case h_9=>exact BQ hr hd fun x hx=>Z9 ha hx
 case h_10=>
  refine Dh hd fun x h' hx=>?_
  obtain⟨v',w',k1,k2,k3⟩:=aX (t:=t) hC.T hr ha hx;exact⟨v',p,w',k1,k2,k3⟩
 case h_11=>cases hd
theorem eE{T:BW}(hT:T.Ok P){op:BinOp}{t:TypeId}{x y:Operand}{v u:V}{v' u':Value}(hv:Ab p v v')(hu:Ab p u u'){z:V}(hd:Mu T op t x y v u=some z):
  ∃z',(do eqGuard op t x y v' u';binOp op t v' u':Sem Value).run P w=.ok z' w/\Ab p z z':=by
 unfold Mu at hd;split at hd
 case h_2=>
  simp only[zd,Za hT hv hu hd,zc];exact nZ hT hv hu hd
 case h_1=>
  rename_i r hr;cases hd;have hk:∀ {b:Bool},(bif YP x||YP y then some (V.bool b)else none)=some z->z=.bool b/\((∃c,x=.const c)\/∃c,y=.const c):=by
   intro b hb;cases hc:(YP x||YP y)with
   |false=>simp[hc]at hb
   |true=>
    simp only[hc,we,ze]at hb;refine⟨hb.symm,?_⟩;simp only[qn]at hc;rcases hc with hc|hc
    ·left;cases x<;>first|exact⟨_,rfl⟩|cases hc
    ·right;cases y<;>first|exact⟨_,rfl⟩|cases hc
  have hg:∀op,(op=.eql\/op=.neq)->((∃c,x=.const c)\/∃c,y=.const c)->(eqGuard op t x y .nilIface .nilIface).run P w=.ok () w:=by
   intro op ho hc;rcases ho with rfl|rfl<;>unfold eqGuard<;>rcases hc with⟨c,rfl⟩|⟨c,rfl⟩<;>simp
  have heq:∀ {ms},T.und t=some (.interface ms)->(Op.equal t .nilIface .nilIface).run P w=.ok true w:=by
   intro ms hund;unfold Op.equal Op.maxDepth Op.equalIn;rw[zd,Av hT hund];rfl
  unfold mZ at hr;split at hr
  case h_1=>
   rename_i ms hund;obtain⟨rfl,hc⟩:=hk hr;have hb:=(Na (t:=t) (y':=.nilIface) hv rfl).1;simp only[Ab]at hv hu;subst hv hu;refine⟨.bool true,?_,by simp[Ab]⟩;rw[zd,hg .eql (.inl rfl) hc,zc,hb,zd,heq hund];rfl
  case h_2=>
   rename_i ms hund;obtain⟨rfl,hc⟩:=hk hr;have hb:=(Na (t:=t) (y':=.nilIface) hv rfl).2;simp only[Ab]at hv hu;subst hv hu;refine⟨.bool false,?_,by simp[Ab]⟩;rw[zd,hg .neq (.inr rfl) hc,zc,hb,zd,heq hund];rfl
  case h_3=>cases hr
theorem jB(hC:C.Ok P)(hr:R p h w)(hg:Gl C p)(hf:Cw p fr a){o:Oper}{r:OR}(hd:F5 C fr h o=some r):SS p h w r ((execOp a.eval o).run P w):=by
 rw[CV]at hd;unfold GB at hd;unfold execOp;cases ho:o.op<;>simp only[ho]at hd ⊢<;>try (cases hd;done)
 case move x|assign x=>
  cases hx:ev C fr x with
  |none=>simp[hx,Bt]at hd
  |some v=>simp[hx,Bt]at hd;subst hd;exact⟨_,p,w,rfl,A3 hg hf hx,z7 hr⟩
 case pick c x y=>
  split at hd
  case h_2=>cases hd
  rename_i t hc;have hcv:=A3 hg hf hc;simp only[Ab]at hcv;simp only[zd,hcv,asBool,zf,zc];cases t
  ·cases hx:ev C fr y with
   |none=>simp[hx,Bt]at hd
   |some v=>simp[hx,Bt]at hd;subst hd;exact⟨_,p,w,by simp,A3 hg hf hx,z7 hr⟩
  ·cases hx:ev C fr x with
   |none=>simp[hx,Bt]at hd
   |some v=>simp[hx,Bt]at hd;subst hd;exact⟨_,p,w,by simp,A3 hg hf hx,z7 hr⟩
 case alloc t=>exact Dh hd fun x h' hx=>Zc hC.T hr hx
 case box t x=>
  refine Dh hd fun v h' hx=>?_
  rw[zg]at hx;obtain⟨u,hu,he⟩:=hx;have:=lQ (P:=P) (t:=t) hr (A3 hg hf hu);rw[he]at this;exact this
 case build t parts=>
  split at hd
  case h_2=>cases hd
  rename_i ps hps;refine BQ hr hd fun x hx=>Y5 hC.T ?_ hx
  have:=NB hg hf hps;simpa using this
 case buildSlice t n parts=>
  split at hd
  case h_2=>cases hd
  rename_i ps hps;refine Dh hd fun x h' hx=>Vz hC.T hr ?_ hx
  have:=NB hg hf hps;simpa using this
 case load t x=>
  split at hd
  case h_2=>cases hd
  rename_i v hv;exact BQ hr hd fun x hx=>Ug hC.T hr (A3 hg hf hv) hx
 case store t x y=>
  split at hd
  case h_2=>cases hd
  rename_i v u hv hu;exact WZ hd fun h' hx=>YV hC.T hr (A3 hg hf hv) (A3 hg hf hu) hx
 case nilCheck x=>
  split at hd
  case h_3=>cases hd
  case h_1=>
   rename_i b i hv;have hx:=A3 hg hf hv;have hx':=hx;simp only[Ab]at hx';obtain⟨r',n,hp,he⟩:=hx';simp only[Bt,ze]at hd;subst hd;rw[he];exact⟨_,p,w,rfl,he▸hx,z7 hr⟩
  case h_2=>
   rename_i t v hv;have hx:=A3 hg hf hv;have hx':=hx;simp only[Ab]at hx';obtain⟨y,he,_⟩:=hx';simp only[Bt,ze]at hd;subst hd;rw[he];exact⟨_,p,w,rfl,he▸hx,z7 hr⟩
 case binOp op t x y t2=>
  split at hd
  case h_2=>cases hd
  rename_i v u hv hu;refine BQ hr hd fun z hz=>?_
  exact eE hC.T (A3 hg hf hv) (A3 hg hf hu) hz
 case unOp op t x=>
  split at hd
  case h_2=>cases hd
  rename_i v hv;exact BQ hr hd fun x hx=>tD (A3 hg hf hv) hx
 case convert s d x=>
  split at hd
  case h_2=>cases hd
  rename_i v hv;exact BQ hr hd fun x hx=>iG hC.T hr (A3 hg hf hv) hx
 case makeInterface t x=>
  split at hd
  case h_2=>cases hd
  rename_i v d hv hdd;split at hd
  case h_1=>cases hd
  case h_2=>
   rename_i hne;refine BQ hr hd fun z hz=>?_
   cases hz;refine⟨.iface t (a.eval x),?_,by simp only[Ab];exact⟨_,rfl,A3 hg hf hv⟩⟩;unfold Instr.makeInterface;simp only[zd,Av hC.T hdd,zc];cases d<;>first|rfl|exact wh rfl (hne _)
 case makeFunc f first captured=>
  split at hd
  case h_2=>cases hd
  rename_i x y hx hy;refine BQ hr hd fun z hz=>?_
  cases hz;exact⟨_,rfl,by simp only[Ab];exact⟨_,_,rfl,by simpa using IY hg hf hx,by simpa using IY hg hf hy⟩⟩
 case makeMap t x=>
  split at hd
  case h_2=>cases hd
  rename_i v hv;exact Dh hd fun x h' hx=>UN hr (Nd hg hf hv) hx
 case makeSlice t l c=>
  split at hd
  case h_2=>cases hd
  rename_i v u hv hu;exact Dh hd fun x h' hx=>kD hC.T hr (A3 hg hf hv) (A3 hg hf hu) hx
 case slice t x lo hi mx=>
  split at hd
  case h_2=>cases hd
  rename_i v l r' m hv hl hr' hm;exact BQ hr hd fun x hx=>ZF hC.T (A3 hg hf hv) (Nd hg hf hl) (Nd hg hf hr') (Nd hg hf hm) hx
 case fieldAddr t x f=>
  split at hd
  case h_2=>cases hd
  rename_i v hv;exact BQ hr hd fun x hx=>aE hC.T (A3 hg hf hv) hx
 case field t x f=>
  split at hd
  case h_2=>cases hd
  rename_i v hv;exact BQ hr hd fun x hx=>YS hC.T (A3 hg hf hv) hx
 case indexAddr t x i=>
  split at hd
  case h_2=>cases hd
  rename_i v u hv hu;exact BQ hr hd fun x hx=>Y2 hC.T (A3 hg hf hv) (A3 hg hf hu) hx
 case index t x i=>
  split at hd
  case h_2=>cases hd
  rename_i v u hv hu;exact BQ hr hd fun x hx=>Z0 hC.T (A3 hg hf hv) (A3 hg hf hu) hx
 case lookup t x i ok=>
  split at hd
  case h_2=>cases hd
  rename_i v u hv hu;exact BQ hr hd fun x hx=>Vx hC.T hr (A3 hg hf hv) (A3 hg hf hu) hx
 case mapUpdate t m k x|insert t m k x=>
  split at hd
  case h_2=>cases hd
  rename_i v u z hv hu hz;exact WZ hd fun h' hx=>Vn hC.T hr (A3 hg hf hv) (A3 hg hf hu) (A3 hg hf hz) hx
 case range t x=>
  split at hd
  case h_2=>cases hd
  rename_i v hv;exact Dh hd fun x h' hx=>Wb hC.T hr (A3 hg hf hv) hx
 case next x b=>
  split at hd
  case h_2=>cases hd
  rename_i v hv;cases b with
  |true=>simp only[we]at hd;exact Dh hd fun x h' hx=>kK hr (A3 hg hf hv) hx
  |false=>
   simp only[wg,zg]at hd;obtain⟨l,hl,rfl⟩:=hd;obtain⟨v,h',v',p',w',g1,g2,g3,g4⟩:=Z6 (P:=P) (t:=o.type) hr (A3 hg hf hv) hl;exact⟨v,h',v',p',w',g1,by simp only[zd,g2,zc,zf],g3,g4⟩
 case entry x=>
  split at hd
  case h_2=>cases hd
  rename_i v hv;exact BQ hr hd fun x hx=>aK hr (A3 hg hf hv) hx
 case extract x i=>
  split at hd
  case h_2=>cases hd
  rename_i v hv;exact BQ hr hd fun x hx=>Um (A3 hg hf hv) hx
 case call c=>
  split at hd
  case h_4=>cases hd
  case h_1=>
   rename_i b args hcal hargs;have:=IY hg hf hargs;unfold resolve;simp only[hcal,zd,zf,zc,invoke];exact Tq hC hr (by simpa using this) hd
  case h_2=>
   rename_i f args hcal hargs;split at hd
   case h_2=>cases hd
   rename_i g hgv;have:=IY hg hf hargs;unfold resolve;simp only[hcal];exact LR hC hr hg (A3 hg hf hgv) (by simpa using this) hd
  case h_3=>
   rename_i x nm args hcal hargs;split at hd
   case h_2=>cases hd
   rename_i v hv;have:=IY hg hf hargs;unfold resolve;simp only[hcal,zd,zf,zc];exact TM hC hr hg (A3 hg hf hv) (by simpa using this) hd
theorem KN(hC:C.Ok P)(hr:R p h w)(hg:Gl C p)(hf:Cw p fr a){o:Oper}{r:OR}(hd:H4 C fr h o=some r):SS p h w r ((execOp a.eval o).run P w):=by
 unfold H4 at hd;split at hd
 case h_1=>
  rename_i r' hr';cases hd;exact jB hC hr hg hf hr'
 case h_2=>
  split at hd
  case h_2=>cases hd
  rename_i s d x ho;split at hd
  case h_2=>cases hd
  rename_i v hv;unfold execOp;simp only[ho];split at hd
  case h_1=>
   rename_i u hu;exact BQ (v:=some u) hr hd fun x hx=>by cases hx;exact lY hC.T hr (A3 hg hf hv) hu
  exact Dh hd fun x h' hx=>Zf hC.T hr (A3 hg hf hv) hx
end
def A9(fr:Fr)(ops:Array Oper)(o:Oper):Bool:=
 match o.guard with
 |none=>true
 |some (j,want)=>
  match (ops[j]?).bind (·.dst)with
  |some t=>bif zl t fr.n then(match fr.get t with| .bool b=>b==want|_=>false)else false
  |none=>false
inductive Cl where
 |fn (f:FuncId) (args:List V)
 |rnd (b:Nat) (l:LS) (fr:Fr)
abbrev Dr:=Cl->H->Option (List (V×H))
def bl{α β:Type}:List α->(α->Option (List β))->Option (List β)
 |[],_=>some []
 |a::Abz,f=>match f a with
  |none=>none
  |some x=>match Abz with
   |[]=>some x
   |b::bs=>match bl (b::bs) f with
    |some y=>some (x++y)
    |none=>none
theorem IE{α β:Type}{f:α->Option (List β)}:∀ {l:List α} {r:List β},bl l f=some r->∀a∈l,∃x,f a=some x/\∀b∈x,b∈r
 |[],r,_,a,ha=>by cases ha
 |[c],r,h,a,ha=>by
  unfold bl at h;split at h
  ·cases h
  rename_i x hx;cases h;cases yb.1 ha;exact⟨_,hx,fun b hb=>hb⟩
 |c::d::Abz,r,h,a,ha=>by
  unfold bl at h;split at h
  ·cases h
  rename_i x hx;simp only at h;split at h
  case h_2=>cases h
  rename_i y hy;cases h;rcases qv.1 ha with rfl|ha
  ·exact⟨_,hx,fun b hb=>List.mem_append_left _ hb⟩
  ·obtain⟨z,h1,h2⟩:=IE hy a ha;exact⟨z,h1,fun b hb=>yv _ (h2 b hb)⟩
def HH(fr:Fr)(d:Option Nat):List (V×H)->Option (List (Fr×H))
 |[]=>some []
 |(v,h)::l=>match fr.put d v with
  |some f=>match HH fr d l with
   |some r=>some ((f,h)::r)
   |none=>none
  |none=>none
theorem Pj{fr:Fr}{d:Option Nat}:∀ {l:List (V×H)} {r:List (Fr×H)},HH fr d l=some r->∀v h,(v,h)∈l->∃f,fr.put d v=some f/\(f,h)∈r
 |[],r,_,v,h,hm=>by cases hm
 |(u,k)::l,r,hd,v,h,hm=>by
  unfold HH at hd;split at hd
  case h_2=>cases hd
  rename_i f hf;split at hd
  case h_2=>cases hd
  rename_i r' hr;cases hd;rcases qv.1 hm with e|hm
  ·cases e;exact⟨f,hf,by simp⟩
  ·obtain⟨g,h1,h2⟩:=Pj hr v h hm;exact⟨g,h1,List.mem_cons_of_mem _ h2⟩
def step1(C:Ctx)(call:Dr)(ops:Array Oper)(o:Oper)(fr:Fr)(h:H):Option (List (Fr×H)):=
 bif A9 fr ops o then
  match H4 C fr h o with
  |some (.val v h')=>match fr.put o.dst v with
   |some fr'=>some [(fr',h')]
   |none=>none
  |some (.skip h')=>match fr.put o.dst (.tup [])with
   |some fr'=>some [(fr',h')]
   |none=>none
  |some (.enter f args)=>match call (.fn f args) h with
   |some l=>HH fr o.dst l
   |none=>none
  |some (.round b ls f)=>match call (.rnd b ls f) h with
   |some l=>HH fr o.dst l
   |none=>none
  |some (.alts l)=>HH fr o.dst l
  |none=>none
 else match fr.put o.dst (.tup [])with
  |some fr'=>some [(fr',h)]
  |none=>none
def R1(C:Ctx)(call:Dr)(ops:Array Oper):List Oper->Fr->H->Option (List (Fr×H))
 |[],fr,h=>some [(fr,h)]
 |o::rest,fr,h=>match step1 C call ops o fr h with
  |some l=>bl l fun x=>R1 C call ops rest x.1 x.2
  |none=>none
def FW(ro:Option Nat):Fence:={ qc with round:=ro }
theorem WQ{ro:Option Nat}{n:Nat}{P:Program}{f:FuncId}{args:Array Value}{w:World}{R:Ending->World->Prop}:CallsIn (FW ro) n P f args w R↔Calls P f args w R:=by
 have:CallsIn (FW ro) n P f args w R↔CallsIn qc n P f args w R:=Iff.rfl;exact this.trans callsIn_wide
theorem wT{ro:Option Nat}{n:Nat}{P:Program}{k:Nat}{f:FuncId}{tmps:Array Value}{asg body:Code}{w:World}{R:Ending->World->Prop}(h:RoundIn qc 0 P k f tmps asg body w R):RoundIn (FW ro) n P k f tmps asg body w R:=
 ⟨trivial,fun c cs _=>h.2 c cs (room_wide _)⟩
inductive DX where
 |normal
 |exit (id:Nat)
 |ret
def DX.Ri:DX->Exit
 | .normal=>.normal
 | .exit id=>.exit id
 | .ret=>.ret
section
variable {C:Ctx}{P:Program}{p:Pl}{h:H}{w:World}{fr:Fr}{a:Act}
theorem Cw.put(hf:Cw p fr a){d:Option Nat}{v:V}{v':Value}(hv:Ab p v v'){fr':Fr}(hd:fr.put d v=some fr'):Cw p fr' (a.put d v'):=by
 unfold Fr.put at hd;cases d with
 |none=>cases hd;exact hf
 |some t=>
  simp only[GG]at hd;by_cases hlt:t<fr.n
  ·simp only[hlt,decide_true,we,ze]at hd;subst hd;refine⟨by simp[Act.put,hf.1],fun s=>?_⟩;have hlt':t<a.tmps.size:=hf.1▸hlt;by_cases e:s=t
   ·subst e;simp[Fr.get,Act.put,hlt',hv]
   ·have:=hf.2 s;simp only[Fr.get,PM.C2,wc e,Act.put]at this ⊢;rw[zw,zj (fun x=>e x.symm), <-zw];exact this
  ·simp[hlt]at hd
theorem Cw.mono(hf:Cw p fr a){p':Pl}(hp:∃q,p'=p++q):Cw p' fr a:=by
 obtain⟨q,rfl⟩:=hp;exact⟨hf.1,fun t=>(hf.2 t).mono q⟩
theorem Cw.ext(hf:Cw p fr a){p':Pl}{h':H}{w':World}(e:Ext p h w p' h' w'):Cw p' fr a:=hf.mono e.pre
theorem lW{p:Pl}{v:V}{b:Bool}(hv:Ab p v (.bool b)):v=.bool b:=by
 cases v<;>simp only[Ab]at hv<;>first|(cases hv;rfl)|(simp at hv;done)|(obtain⟨_,_,_,_,hx,_⟩:=hv;cases hx;done)|(obtain⟨_,_,_,hx⟩:=hv;cases hx;done)|(obtain⟨_,_,hx,_⟩:=hv;cases hx;done)|(obtain⟨_,_,hx⟩:=hv;cases hx;done)|(obtain⟨_,hx,_⟩:=hv;cases hx;done)
theorem QJ(hf:Cw p fr a)(ops:Array Oper)(o:Oper):qi o (yielded ops a.tmps)=A9 fr ops o:=by
 unfold qi A9;cases hgd:o.guard with
 |none=>rfl
 |some jw=>
  obtain⟨j,want⟩:=jw;simp only;unfold yielded;cases hb:(ops[j]?).bind (·.dst)with
  |none=>simp
  |some t=>
   simp only[Option.bind_some,GG];by_cases hlt:t<fr.n
   ·have hlt':t<a.tmps.size:=hf.1▸hlt;have hv:=hf.2 t;simp only[hlt,decide_true,we];have e:a.tmps[t]?=some (a.tmps.getD t undef):=by simp[hlt']
    rw[e];cases hb2:a.tmps.getD t undef with
    |bool b=>
     rw[hb2]at hv;have:=lW hv;rw[this];cases b<;>cases want<;>rfl
    |_=>
     rw[hb2]at hv;cases hg2:fr.get t with
     |bool b=>rw[hg2]at hv;simp[Ab]at hv
     |_=>cases want<;>rfl
   ·have:a.tmps[t]?=none:=ye (ym (hf.1▸hlt));simp[this,hlt]
def Gx(p:Pl)(h:H)(w:World)(l:List (V×H))(e:Ending)(w':World):Prop:=
 ∃v h' v' p',(v,h')∈l/\e=.returned v'/\Ab p' v v'/\Ext p h w p' h' w'
structure Dr.Ok(C:Ctx)(P:Program)(call:Dr):Prop where
 fn:∀f args h l,call (.fn f args) h=some l->∀(p:Pl) (w:World) (args':Array Value),R p h w->Gl C p->Aq p args args'.toList->Calls P f args' w (Gx p h w l)
 rnd:∀b ls fr h l,call (.rnd b ls fr) h=some l->∀(p:Pl) (w:World) (k n:Nat) (f:FuncId) (tmps:Array Value),R p h w->Gl C p->h.get b=some (.loop ls)->p[b]?=some (k,n)->ER p fr tmps->
  RoundIn qc 0 P k f tmps ls.asg ls.body w (Gx p h w l)
theorem GX{o:Oper}{r:OR}(hd:F5 C fr h o=some r):∀c,o.op≠ .defer c:=by
 intro c e;rw[CV]at hd;unfold GB at hd;simp[e]at hd
theorem Fo{o:Oper}{r:OR}(hd:H4 C fr h o=some r):∀c,o.op≠ .defer c:=by
 intro c e;unfold H4 at hd;split at hd
 case h_1=>rename_i hr;exact GX hr c e
 case h_2=>rw[e]at hd;cases hd
theorem Sb{p':Pl}{l:List (V×H)}{r:List (Fr×H)}{d:Option Nat}(hp:HH fr d l=some r)(hf:Cw p fr a){K:Act->World->Prop}
  (hK:∀x∈r,∀p' a' w',Cw p' x.1 a'->Ext p h w p' x.2 w'->a'.defers=a.defers->K a' w') {v:V} {h':H} {v':Value} {w':World} (hm:(v,h')∈l) (hv:Ab p' v v') (he:Ext p h w p' h' w'):K (a.put d v') w':=by
 obtain⟨f,h1,h2⟩:=Pj hp v h' hm;exact hK _ h2 p' _ w' ((hf.ext he).put hv h1) he (by cases d<;>rfl)
theorem Zo(hC:C.Ok P){call:Dr}(hcall:call.Ok C P)(hr:R p h w)(hg:Gl C p)(hf:Cw p fr a){ops:Array Oper}{i:Nat}{o:Oper}(ho:ops[i]?=some o){l:List (Fr×H)}
  (hd:step1 C call ops o fr h=some l) {ro:Option Nat} {n:Nat} {Q:Exit->Act->World->Prop} {K:Act->World->Prop}
  (hK:∀x∈l,∀p' a' w',Cw p' x.1 a'->Ext p h w p' x.2 w'->a'.defers=a.defers->K a' w'):wpOpIn (FW ro) n P ops Q i K a w:=by
 have hdf:∀v,(a.put o.dst v).defers=a.defers:=by intro v;cases o.dst<;>rfl
 unfold step1 at hd;unfold wpOpIn;simp only[ho];rw[QJ hf];cases hw:A9 fr ops o with
 |false=>
  simp only[hw,wg]at hd;simp only[yf,ve];refine⟨fun _ _=>trivial,?_⟩;split at hd
  case h_2=>cases hd
  rename_i fr1 hp;cases hd;exact hK _ (yb.2 rfl) p _ w (hf.put (by simp[Ab,undef]) hp) (z7 hr) (hdf _)
 |true=>
  simp only[hw,we]at hd;simp only[wk];refine⟨fun _ _=>trivial,?_⟩;split at hd
  case h_6=>cases hd
  case h_1=>
   rename_i v h1 hop;split at hd
   case h_2=>cases hd
   rename_i fr1 hp;cases hd;obtain⟨v',p',w',g1,g2,g3⟩:=KN hC hr hg hf hop;rw[y7 _ _ _ (Fo hop),g1,Oper.uponIn_value];exact hK _ (yb.2 rfl) p' _ w' ((hf.ext g3).put g2 hp) g3 (hdf _)
  case h_2=>
   rename_i h1 hop;split at hd
   case h_2=>cases hd
   rename_i fr1 hp;cases hd;obtain⟨p',w',g1,g3⟩:=KN hC hr hg hf hop;rw[y7 _ _ _ (Fo hop),g1,Oper.uponIn_skip];exact hK _ (yb.2 rfl) p' _ w' ((hf.ext g3).put (by simp[Ab,undef]) hp) g3 (hdf _)
  case h_3=>
   rename_i f args hop;split at hd
   case h_2=>cases hd
   rename_i l1 hc;obtain⟨args',g1,g2⟩:=KN hC hr hg hf hop;rw[y7 _ _ _ (Fo hop),g1,Oper.uponIn_enter];refine⟨fun h=>(by simp[FW,qc]at h),WQ.2 ((hcall.fn f args h l1 hc p w args' hr hg g2).mono ?_)⟩;rintro e w' ⟨v,h',v',p',hm,rfl,k1,k2⟩;exact Sb hd hf hK hm k1 k2
  case h_4=>
   rename_i b ls f hop;split at hd
   case h_2=>cases hd
   rename_i l1 hc;obtain⟨k,m,g,tmps,g1,g2,g3,g4⟩:=KN hC hr hg hf hop;rw[y7 _ _ _ (Fo hop),g3,Oper.uponIn_round];refine⟨fun h=>(by simp[FW,qc]at h),(wT (hcall.rnd b ls f h l1 hc p w k m g tmps hr hg g2 g1 g4)).mono ?_⟩;rintro e w' ⟨v,h',v',p',hm,rfl,k1,k2⟩;exact Sb hd hf hK hm k1 k2
  case h_5=>
   rename_i l1 hop;obtain⟨v,h',v',p',w',hm,g1,g2,g3⟩:=KN hC hr hg hf hop;rw[y7 _ _ _ (Fo hop),g1,Oper.uponIn_value];exact Sb hd hf hK hm g2 g3
theorem Tj(hC:C.Ok P){call:Dr}(hcall:call.Ok C P){ops:Array Oper}{ro:Option Nat}{n:Nat}{Q:Exit->Act->World->Prop}:
  ∀(l:List Oper) (k:Nat),(∀j,l[j]?=ops[k+j]?)->∀ {p:Pl} {h:H} {w:World} {fr:Fr} {a:Act},R p h w->Gl C p->Cw p fr a->∀ {L:List (Fr×H)},R1 C call ops l fr h=some L->
  (∀x∈L,∀p' a' w',Cw p' x.1 a'->Ext p h w p' x.2 w'->a'.defers=a.defers->Q .normal a' w')->wpOpsIn (FW ro) n P ops Q (List.range' k l.length) a w
 |[],k,_,p,h,w,fr,a,hr,hg,hf,L,hd,hQ=>by
  cases hd;exact hQ _ (yb.2 rfl) p a w hf (z7 hr) rfl
 |o::l,k,hl,p,h,w,fr,a,hr,hg,hf,L,hd,hQ=>by
  unfold R1 at hd;split at hd
  case h_2=>cases hd
  rename_i l1 hs;rw[List.length_cons,List.range'_succ,wpOpsIn_cons];refine Zo hC hcall hr hg hf (by simpa using(hl 0).symm) hs (K:=wpOpsIn (FW ro) n P ops Q (List.range' (k+1) l.length)) fun x hx p1 a1 w1 hf1 he1 hdf1=>?_
  obtain⟨L1,g1,g2⟩:=IE hd x hx;exact Tj hC hcall l (k+1) (fun j=>by have:=hl (j+1);simpa [Nat.add_assoc,Nat.add_comm 1 j]using this) he1.rel (hg.ext he1) hf1 g1
   fun y hy p2 a2 w2 hf2 he2 hdf2=>hQ y (g2 y hy) p2 a2 w2 hf2 (he1.trans he2) (hdf2.trans hdf1)
theorem VA(hC:C.Ok P){call:Dr}(hcall:call.Ok C P){ops:Array Oper}{ro:Option Nat}{n:Nat}{Q:Exit->Act->World->Prop}(hr:R p h w)(hg:Gl C p)(hf:Cw p fr a){L:List (Fr×H)}
  (hd:R1 C call ops ops.toList fr h=some L) {id:Nat}
  (hQ:∀x∈L,∀p' a' w',Cw p' x.1 a'->Ext p h w p' x.2 w'->a'.defers=a.defers->Q .normal a' w'):(Code.region id ops false).wpIn (FW ro) n P Q a w:=by
 refine wpIn_region ?_;have:=Tj (Q:=Q) (ro:=ro) (n:=n) hC hcall ops.toList 0 (fun j=>by simp) hr hg hf hd hQ;rw[List.range_eq_range'];simpa using this
end
theorem IQ{C:Ctx}{fr fr':Fr}:∀ {xs:List Operand},(∀x∈xs,ev C fr x=ev C fr' x)->Ql C fr xs=Ql C fr' xs
 |[],_=>rfl
 |x::xs,h=>by
  unfold Ql;rw[h x (by simp),IQ (fun y hy=>h y (by simp[hy]))]
theorem I3{C:Ctx}{fr fr':Fr}:∀ {xs:List (Nat×Operand)},(∀x∈xs,ev C fr x.2=ev C fr' x.2)->VG C fr xs=VG C fr' xs
 |[],_=>rfl
 |(i,x)::xs,h=>by
  unfold VG;rw[h (i,x) (by simp),I3 (fun y hy=>h y (by simp[hy]))]
theorem I0{C:Ctx}{fr fr':Fr}{x:Option Operand}(h:∀y,x=some y->ev C fr y=ev C fr' y):Vg C fr x=Vg C fr' x:=by
 cases x with
 |none=>rfl
 |some y=>simp[Vg,h y rfl]
theorem Zm{C:Ctx}{fr fr':Fr}{h:H}{o:Oper}(hx:∀x∈o.op.operands,ev C fr x=ev C fr' x):F5 C fr h o=F5 C fr' h o:=by
 obtain⟨dst,op,type,pos,after,guard⟩:=o;cases op<;>simp only[Op.operands]at hx<;>simp only[CV,GB]
 case build t ps=>rw[I3 fun x hm=>hx x.2 (by simp;exact⟨x.1,by simpa using hm⟩)]
 case buildSlice t n ps=>rw[I3 fun x hm=>hx x.2 (by simp;exact⟨x.1,by simpa using hm⟩)]
 case makeFunc f first captured=>rw[IQ (xs:=first.toList) fun x hm=>hx x (by simp at hm ⊢;exact .inl hm),IQ (xs:=captured.toList) fun x hm=>hx x (by simp at hm ⊢;exact .inr hm)]
 case makeMap t r=>rw[I0 fun y hy=>hx y (by simp[hy])]
 case slice t x lo hi mx=>
  rw[hx x (by simp),I0 (x:=lo) fun y hy=>hx y (by simp[hy]),I0 (x:=hi) fun y hy=>hx y (by simp[hy]),I0 (x:=mx) fun y hy=>hx y (by simp[hy])]
 case call c=>
  obtain⟨callee,args,ts⟩:=c;rw[IQ (xs:=args.toList) (fr:=fr) (fr':=fr') fun x hm=>hx x (by simp at hm;simp[Call.operands,hm])];cases callee with
  |value f=>
   have hf:=hx f (by simp[Call.operands]);cases Ql C fr' args.toList with
   |none=>rfl
   |some Abz=>simp only[hf]
  |invoke f nm=>
   have hf:=hx f (by simp[Call.operands]);cases Ql C fr' args.toList with
   |none=>rfl
   |some Abz=>simp only[hf]
  |builtin b=>cases Ql C fr' args.toList<;>rfl
 all_goals (first|rfl|(simp_all;done))
def reads(ops:Array Oper)(o:Oper):List Tmp:=o.looksAt ops
theorem pK{C:Ctx}{fr fr':Fr}{x:Operand}(h:∀t,x=.tmp t->fr.get t=fr'.get t):ev C fr x=ev C fr' x:=by
 cases x with
 |tmp t=>simp only[ev,h t rfl]
 |_=>rfl
theorem mem_reads{ops:Array Oper}{o:Oper}{t:Tmp}(h:Operand.tmp t∈o.op.operands):t∈reads ops o:=
 List.mem_append_left _ (List.mem_filterMap.2 ⟨.tmp t,by simpa using h,rfl⟩)
theorem R3{fr fr':Fr}{ops:Array Oper}{o:Oper}(hn:fr.n=fr'.n)(h:∀t∈reads ops o,fr.get t=fr'.get t):A9 fr ops o=A9 fr' ops o:=by
 unfold A9;cases hg:o.guard with
 |none=>rfl
 |some jw=>
  obtain⟨j,want⟩:=jw;simp only;cases hb:(ops[j]?).bind (·.dst)with
  |none=>rfl
  |some t=>
   simp only[hn];rw[h t (yv _ (by simp[hg,hb]))]
def Om(l:List Tmp)(fr:Fr):Fr:=⟨fr.n,l.foldr (fun t m=>m.set t (some (fr.get t))) .leaf⟩
def Iy(l:List Tmp)(a:Act):Act:={ a with tmps:=Array.ofFn (n:=a.tmps.size) fun t=>if l.contains t.1 then a.tmps.getD t undef else undef }
theorem LP(l:List Tmp)(fr:Fr)(t:Tmp):(Om l fr).get t=if t∈l then fr.get t else .tup []:=by
 unfold Om Fr.get;induction l with
 |nil=>simp
 |cons x l ih=>
  simp only[List.foldr_cons,PM.C2,qv];by_cases e:t=x
  ·subst e;simp
  ·simp only[e,ve,false_or];exact ih
theorem L0(l:List Tmp)(a:Act)(t:Tmp):(Iy l a).tmps.getD t undef=if t∈l then a.tmps.getD t undef else undef:=by
 unfold Iy;by_cases h:t<a.tmps.size
 ·simp[h]
 ·simp only[zw];rw[ye (by simpa using ym h),ye (ym h)];simp
section
variable {C:Ctx}{P:Program}{p:Pl}{h:H}{w:World}{fr:Fr}{a:Act}
structure wZ(p:Pl)(fr:Fr)(a:Act)(l:List Tmp):Prop where
 n:fr.n=a.tmps.size
 get:∀t∈l,Ab p (fr.get t) (a.tmps.getD t undef)
theorem wZ.Oc{l:List Tmp}(hf:wZ p fr a l):Cw p (Om l fr) (Iy l a):=by
 refine⟨by simp[Om,Iy,hf.n],fun t=>?_⟩;rw[LP,L0];by_cases ht:t∈l
 ·simp only[ht,wk];exact hf.get t ht
 ·simp only[ht,ve];simp[Ab,undef]
theorem Jg{ops:Array Oper}{o:Oper}{x:Operand}(hx:x∈o.op.operands):(Iy (reads ops o) a).eval x=a.eval x:=by
 cases x with
 |tmp t=>
  have:=L0 (reads ops o) a t;rw[wd (mem_reads hx)]at this;exact this
 |_=>rfl
theorem SV{ops:Array Oper}{o:Oper}{x:Operand}(hx:x∈o.op.operands):ev C (Om (reads ops o) fr) x=ev C fr x:=by
 refine pK fun t ht=>?_
 subst ht;rw[LP,wd (mem_reads hx)]
theorem Je(hC:C.Ok P)(hr:R p h w)(hg:Gl C p){ops:Array Oper}{o:Oper}(hf:wZ p fr a (reads ops o))(hs:∀cs b,o.op≠ .select cs b){r:OR}(hd:F5 C fr h o=some r):
  SS p h w r ((execOp a.eval o).run P w):=by
 have h1:=jB hC hr hg hf.Oc (o:=o) (r:=r) (by rw[Zm (fr':=fr) fun x hx=>SV hx];exact hd);rwa [execOp_congr o hs fun x hx=>Jg hx]at h1
theorem QO{ops:Array Oper}{o:Oper}(hf:wZ p fr a (reads ops o)):qi o (yielded ops a.tmps)=A9 fr ops o:=by
 have h1:=QJ hf.Oc ops o;rw[R3 (fr:=Om (reads ops o) fr) (fr':=fr) (ops:=ops) (o:=o) rfl fun t ht=>by rw[LP,wd ht]]at h1;rw[<-h1];unfold qi;cases hg:o.guard with
 |none=>rfl
 |some jw=>
  obtain⟨j,want⟩:=jw;simp only;congr 1;unfold yielded;cases hb:(ops[j]?).bind (·.dst)with
  |none=>rfl
  |some t=>
   simp only[Option.bind_some];have ht:t∈reads ops o:=yv _ (by simp[hg,hb]);have:=L0 (reads ops o) a t;rw[wd ht]at this;by_cases hlt:t<a.tmps.size
   ·have e1:a.tmps[t]?=some (a.tmps.getD t undef):=by simp[hlt]
    have e2:(Iy (reads ops o) a).tmps[t]?=some ((Iy (reads ops o) a).tmps.getD t undef):=by simp[Iy,hlt]
    rw[e1,e2,this]
   ·rw[ye (ym hlt),ye (by simpa [Iy]using ym hlt)]
end
def Eb(o:Oper):Bool:=
 match o.op with
 | .move _| .assign _| .pick .. | .build .. | .load .. | .nilCheck _| .binOp .. | .unOp .. | .convert .. | .makeInterface .. | .makeFunc .. | .slice .. | .fieldAddr .. | .field .. | .indexAddr .. | .index .. | .lookup .. | .extract .. =>true
 | .call { callee:=.builtin .len,.. }| .call { callee:=.builtin .max,.. }| .call { callee:=.builtin .min,.. }| .call { callee:=.builtin .unsafeSliceData,.. }=>true
 |_=>false
def O5(o:Oper):Bool:=
 match o.op with
 | .load .. | .convert .. | .lookup .. =>true
 | .call { callee:=.builtin .len,.. }=>true
 |_=>false
def Co(o:Oper):Bool:=
 match o.op with
 | .alloc _| .box .. | .buildSlice .. =>true
 |_=>false
theorem Gi{h:H}{v:Option V}{r:OR}(hd:Bt h v=some r):∃x,v=some x/\r=.val x h:=by
 cases v with
 |none=>cases hd
 |some x=>cases hd;exact⟨x,rfl,rfl⟩
theorem rd_val{C:Ctx}{fr:Fr}{h:H}{o:Oper}(hk:Eb o=true){r:OR}(hd:F5 C fr h o=some r):∃v,r=.val v h:=by
 obtain⟨dst,op,type,pos,after,guard⟩:=o;cases op<;>simp only[Eb]at hk<;>simp only[CV,GB]at hd<;>try (cases hk;done)
 case call c=>
  obtain⟨callee,args,ts⟩:=c;cases callee with
  |builtin b=>
   cases he:Ql C fr args.toList with
   |none=>simp[he]at hd
   |some Abz=>
    simp only[he]at hd;cases b<;>first|(cases hk;done)|(simp only[Em]at hd;obtain⟨x,_,rfl⟩:=Gi hd;exact⟨x,rfl⟩)
  |value f=>cases hk
  |invoke=>cases hk
 all_goals
  repeat' split at hd
  all_goals first
   |(cases hd;done)
   |(obtain⟨x,_,rfl⟩:=Gi hd;exact⟨x,rfl⟩)
theorem jM{C:Ctx}{fr:Fr}{h:H}{o:Oper}(hk:Eb o=true)(hn:O5 o=false){v:V}(hd:F5 C fr h o=some (.val v h))(h':H):F5 C fr h' o=some (.val v h'):=by
 have key:∀ {x:Option V},Bt h x=some (.val v h)->Bt h' x=some (.val v h'):=by
  intro x hx;obtain⟨y,rfl,e⟩:=Gi hx;cases e;rfl
 obtain⟨dst,op,type,pos,after,guard⟩:=o;cases op<;>simp only[Eb]at hk<;>simp only[O5]at hn<;>simp only[CV,GB]at hd ⊢<;>try (first|(cases hk;done)|(cases hn;done))
 case call c=>
  obtain⟨callee,args,ts⟩:=c;cases callee with
  |builtin b=>
   cases he:Ql C fr args.toList with
   |none=>simp[he]at hd
   |some Abz=>
    simp only[he]at hd ⊢;cases b<;>first|(cases hk;done)|(cases hn;done)|(simp only[Em]at hd ⊢;exact key hd)
  |value f=>cases hk
  |invoke=>cases hk
 all_goals
  repeat' split at hd
  all_goals first
   |(cases hd;done)
   |exact key hd
   |(simp only[*];exact key hd)
end Go.Det
