import Derived.Test.YtlapcggejnojjaaGreatDoorX01
import Derived.IntWalk
import Derived.Laws.IdiomStrings
import Derived.RangeFuncRecord
import Derived.LoopNIn
import Derived.OrdersIn
import Derived.RangeFuncLeaves
/- A part of a proof (no law is stated here). Made by program out of texts by AI agents. -/
open Go.Result renaming andThen_ok → zc
open Go.Sem renaming run_bind → zd, run_pure → zf, run → zE
open Option.some renaming injEq → ze
open Option renaming map_eq_some_iff → zg, map_some → yi
open Go.Builtin renaming zeroCells → zh, firstCells → zi, append_ → zr, nextslicecap → zG, growBy → zN, lenOf → zS
open Prod.mk renaming injEq → zj
open Array renaming getElem?_toList → zk, getD_eq_getD_getElem? → zm, getElem?_eq_none → zt, toList_inj → zC, getElem?_setIfInBounds_ne → zO, getElem?_push → zW, range → zY, size_append → zZ, map → yr
open Nat renaming beq → zl, mul_le_mul_right → zq, ble → zz, blt → zA, le_refl → zD, ble_eq → zF, le_of_not_lt → zI, add_mul → yk, zero_add → yq
open Go.Det.Ext renaming refl → zn, push → ye, drew → yj, put → yn
open Go.Instr renaming sameBits → zo, findAsking → zR, findNow → zT, range → z7, sameNow → ya, findKey → yb, next → yg, lookup → yh, checkKey → ym
open List renaming mem_singleton → zp, getElem?_eq_some_iff → zx, getElem?_append_left → zy, getElem?_take_of_lt → zB, length_append → zJ, getElem?_cons_zero → zK, getElem?_cons_succ → zL, getElem?_map → zM, getElem?_toArray → zP, mem_append_right → zQ, size_toArray → z6, length_eq_zero_iff → yd, take_of_length_le → yf, all_cons → yo, mem_cons → yp
open Bool renaming and_eq_true → zu, false_eq_true → zw
open Go.Deferred renaming ofValue → zH
open Go.Oper renaming semAt_eq → zU
open Go.Question renaming forced → zV
open Go.Fence renaming wide → zX
open Go.Op renaming operands → z8
open Go.Region renaming wanted → yc
section
namespace Go.Det
noncomputable section
section
variable {T:BA}{P:Program}{p:Pl}{h:H}{w:World}
def Mg(T:BA)(h:H)(t:TypeId)(len cap:V):Option (V×H):=
 match T.und t,len,cap with
 |some (.slice e),.int _ (.ofNat l),.int _ (.ofNat c)=>
  match T.inf e with
  |some i=>
   bif zz l c&&zA c 9223372036854775808&&zz (i.bytes*c) 281474976710656&&zA 0 i.zero.length&&zl i.zero.length i.size then
    some (.sl h.nx 0 l c 0,GD h e (DH i.zero (c*i.size)))
   else none
  |none=>none
 |_,_,_=>none
theorem wrap_small(c:Nat)(h:c<9223372036854775808):IntKind.i64.wrap (c:Int)=c:=IntWalk.i64_in _ (by omega)
theorem Ve(hT:T.Ok P)(hr:R p h w){t:TypeId}{len cap:V}{len' cap':Value}(hl:Aa p len len')(hc:Aa p cap cap'){v:V}{h':H}(hd:Mg T h t len cap=some (v,h')):
  ∃v' p' w',(Instr.makeSlice t len' cap').run P w=.ok v' w'∧Aa p' v v'∧Ext p h w p' h' w':=by
 unfold Mg at hd;split at hd
 case h_2=>cases hd
 rename_i e k l k2 c hu;split at hd
 case h_2=>cases hd
 rename_i i hi;cases hcond:(zz l c&&zA c 9223372036854775808&&zz (i.bytes*c) 281474976710656&&zA 0 i.zero.length&&zl i.zero.length i.size)with
 |false=>simp[hcond]at hd
 |true=>
  simp only[hcond,cond_true,ze,zj]at hd;obtain⟨rfl,rfl⟩:=hd;simp only[zu,zF,Nat.blt_eq,A1,decide_eq_true_eq]at hcond;obtain⟨⟨⟨⟨c1,c2⟩,c3⟩,c4⟩,c5⟩:=hcond;simp only[Aa]at hl hc;subst hl hc;obtain⟨z,hz,hzr⟩:=Dh hT hi;obtain⟨j,hj,hjb,_⟩:=LY hT hi;obtain⟨n,he,hpn,hn⟩:=Ku hr e (Hr (hzr p) c4 (c*i.size));refine⟨.slice (some ⟨w.heap.size,0,none⟩) l c,_,_,?_,?_,he⟩
  ·unfold Instr.makeSlice asInt asIntOf;simp only[zd,zf,At hT hu,zc,hj,Int.ofNat_eq_natCast,wrap_small c c2,wrap_small l (by omega),hjb];have e3:(i.bytes:Int)*(c:Int)=((i.bytes*c:Nat):Int):=(Int.natCast_mul _ _).symm;rw[e3];generalize i.bytes*c=q at c3 e3 ⊢;have n2:¬((decide ((c:Int)<0)||decide ((q:Int)>2^48))||decide ((l:Int)<0)||decide ((l:Int)>(c:Int)))=true:=by
    simp;omega
   rw[if_neg n2];simp only[zd,zc,run_askRoom,A3 hT hi,Int.toNat_natCast];by_cases h0:c*i.size=0
   ·rw[if_pos h0];have e1:(yr (fun x=>(#[]:Array Value)[x % (#[]:Array Value).size]!) (zY (c*i.size)))=yr (fun i_1=>z.cells[i_1 % z.cells.size]!) (zY (c*i.size)):=by simp[h0]
    simp only[zd,zf,zc,BB];rw[e1]
   ·rw[if_neg h0];simp only[zd,hz,zf,zc,BB]
  ·simp only[Aa];exact⟨_,n,c,hpn,rfl,c1,zD _,fun _=>rfl,by simp⟩
def src(h:H)(size:Nat)(x:V)(n:Nat):Option (List V):=
 match x with
 | .nils=>some []
 | .esl=>bif zl n 0 then some []else none
 | .es0=>bif zl n 0 then some []else none
 | .sl b off _ _ _=>rd h b off (n*size)
 | .str s=>some ((s.take n).map fun c=>.int .u8 c.toNat)
 |_=>none
def MS:V→Option Nat
 | .nils=>some 0
 | .esl=>some 0
 | .es0=>some 0
 | .sl _ _ len _ _=>some len
 | .str s=>some s.length
 |_=>none
theorem Mt{x:V}{x':Value}(hx:Aa p x x'){n:Nat}(hd:MS x=some n):(zS x').run P w=.ok n w:=by
 unfold MS at hd;split at hd
 case h_1=>simp only[Aa]at hx;subst hx;cases hd;rfl
 case h_2=>simp only[Aa]at hx;obtain⟨_,_,rfl⟩:=hx;cases hd;rfl
 case h_3=>simp only[Aa]at hx;obtain⟨_,rfl⟩:=hx;cases hd;rfl
 case h_4=>simp only[Aa]at hx;obtain⟨_,_,_,_,rfl,_⟩:=hx;cases hd;rfl
 case h_5=>simp only[Aa]at hx;subst hx;cases hd;simp[zS,Bh]
 case h_6=>cases hd
theorem Ib(hr:R p h w){size n:Nat}{x:V}{x':Value}(hx:Aa p x x'){cs:List V}(hd:src h size x n=some cs):
  ∃vs:List Value,(zi size n x').run P w=.ok vs.toArray w∧Al p cs vs:=by
 unfold src at hd;split at hd
 case h_6=>cases hd
 case h_1=>simp only[Aa]at hx;subst hx;cases hd;exact⟨[],rfl,by simp⟩
 case h_2=>
  simp only[Aa]at hx;obtain⟨a,c,rfl⟩:=hx;rw[A1]at hd;by_cases e:n=0
  ·subst e;simp only[decide_true,cond_true,ze]at hd;subst hd;exact⟨[],by simp[zi,loadCells,loadCellsFrom],by simp⟩
  ·simp[e]at hd
 case h_3=>
  simp only[Aa]at hx;obtain⟨a,rfl⟩:=hx;rw[A1]at hd;by_cases e:n=0
  ·subst e;simp only[decide_true,cond_true,ze]at hd;subst hd;exact⟨[],by simp[zi,loadCells,loadCellsFrom],by simp⟩
  ·simp[e]at hd
 case h_4=>
  simp only[Aa]at hx;obtain⟨r,m,c,hp,rfl,_⟩:=hx;obtain⟨r',m',vs,h1,h2,h3,_⟩:=run_loadCells (P:=P) hr hd;rw[hp]at h1;cases h1;exact⟨vs,h2,h3⟩
 case h_5=>
  rename_i s;simp only[Aa]at hx;subst hx;cases hd;refine⟨(s.take n).map fun c=>.int .u8 c.toNat,?_,?_⟩
  ·simp only[zi,zf];congr 1;apply Array.ext';simp[bytesOf,List.extract]
  ·apply Al.mk (by simp);intro i d v h1 h2;simp only[zM]at h1 h2;cases hq:(s.take n)[i]? with
   |none=>simp[hq]at h1
   |some q=>simp[hq]at h1 h2;subst h1 h2;simp[Aa]
theorem Ns(newLen:Nat):∀(r c:Nat),c<newLen→zN newLen r c≤2*newLen+1000
 |0,c,h=>by simp[zN];omega
 |r+1,c,h=>by
  unfold zN;rw[if_neg (by omega)];by_cases h2:c+(c+768)/4<newLen
  ·exact Ns newLen r _ h2
  ·cases r with
   |zero=>simp[zN];omega
   |succ r=>unfold zN;rw[if_pos (by omega)];omega
theorem Q1(need c:Nat)(h:c<need):zG need c≤2*need+1000:=by
 unfold zG;split
 ·omega
 ·split
  ·omega
  ·exact Ns need 4 c h
def isInt:TypeDesc→Bool
 | .int _=>true
 |_=>false
def LZ:V→Bool
 | .str _=>false
 |_=>true
def Eu(T:BA)(h:H)(ts:Array TypeId)(args:List V):Option (V×H):=
 match ts[0]?,ts[1]?,args with
 |some t,some tx,[s,x]=>
  match T.und t,T.und tx,MS x with
  |some (.slice e),some dx,some n=>
   match T.inf e,isInt dx with
   |some i,false=>
    bif zA 0 i.bytes&&zA 0 i.size&&zl i.zero.length i.size&&(zl i.size 1||LZ x)then
     match src h i.size x n with
     |some new=>
      match s with
      | .nils=>
       bif zl n 0 then some (.nils,h)
       else bif zz ((2*n+1000)*i.bytes) 281474976710656 then some (.sl h.nx 0 n n i.size,GD h e new)else none
      | .es0=>
       bif zl n 0 then some (.es0,h)
       else bif zz ((2*n+1000)*i.bytes) 281474976710656 then some (.sl h.nx 0 n n i.size,GD h e new)else none
      | .esl=>bif zl n 0 then some (.esl,h)else none
      | .sl b off len cap o=>
       bif zz (len+n) cap then(wr h b (off+len*i.size) new).map fun h'=>(.sl b off (len+n) cap o,h')
       else bif zz ((2*(len+n)+1000)*i.bytes) 281474976710656 then
        match src h i.size s len with
        |some old=>
         bif zl o 0 then some (.sl h.nx 0 (len+n) (len+n) i.size,GD h e (old++new))
         else
          match h.get b with
          |some (.cells _ te fz)=>
           bif zl off 0&&zl o i.size&&zl te e&&zz fz.2 fz.1&&new.all V.one then some (.sl h.nx 0 (len+n) (len+n) i.size,(h.kill b).push (.cells (old++new) e (0,0)))
           else none
          |_=>none
        |none=>none
       else none
      |_=>none
     |none=>none
    else none
   |_,_=>none
  |_,_,_=>none
 |_,_,_=>none
theorem Ny{old new:List V}{vo vn:List Value}(h1:Al p old vo)(h2:Al p new vn)(rest:Array Value):
  Al p (old++new) ((vo.toArray++vn.toArray++rest).toList.take (old++new).length):=by
 have l1:=h1.length;have l2:=h2.length;have:((vo.toArray++vn.toArray++rest).toList.take (old++new).length)=vo++vn:=by
  simp only[Array.toList_append,zJ,l1,l2];rw[List.take_append_of_le_length (by simp)];rw[yf (by simp)]
 rw[this];exact h1.append h2
section
variable {ts:Array TypeId}{t t0 tx e:TypeId}{dx:TypeDesc}{i:TI}{n:Nat}{x' z:Value}{j:TypeInfo}
theorem Mf(hT:T.Ok P)(ht0:ts[0]?=some t0)(htx:ts[1]?=some tx)(hu:T.und t0=some (.slice e))(hux:T.und tx=some dx)(hdx:isInt dx=false)
  (hi:T.inf e=some i) (hn:∀w,(zS x').run P w=.ok n w) (base:Option Addr) (len' c:Nat) (hle:len'+n≤c):
  (zr ts t #[.slice base len' c,x']).run P w=((zi i.size n x').run P w).andThen fun new w'=>((match base with|some a=>storeCells (a.add (len'*i.size)) new.toList|none=>pure ():Sem Unit).run P w').andThen fun _ w'=>.ok (.slice base (len'+n) c) w':=by
 unfold zr;cases dx<;>first|(cases hdx;done)|skip
 all_goals
  simp only[ht0,htx,zP,zK,zL,zd,At hT hu,At hT hux,A3 hT hi,zc,zf,zw,if_false,hn,hle,if_true,Bool.not_false];cases base with
  |none=>rfl
  |some b=>simp only[zd,zf]
theorem Nj(hT:T.Ok P)(ht0:ts[0]?=some t0)(htx:ts[1]?=some tx)(hu:T.und t0=some (.slice e))(hux:T.und tx=some dx)(hdx:isInt dx=false)
  (hi:T.inf e=some i) (hpos:0<i.bytes) (hz:∀w,(zeroValue e).run P w=.ok z w) (hn:∀w,(zS x').run P w=.ok n w) (base:Option Addr) (len' c:Nat) (hlt:c<len'+n)
  (hcap:(2*(len'+n)+1000)*i.bytes≤281474976710656):
  ∃nc,len'+n≤nc∧(zr ts t #[.slice base len' c,x']).run P w=((zi i.size len' (.slice base len' c)).run P { w with drawn:=w.drawn+1 }).andThen fun old w'=>
   ((zi i.size n x').run P w').andThen fun new w'=>
    .ok (.slice (some ⟨w'.heap.size,0,none⟩) (len'+n) nc) { w' with heap:=w'.heap.push (.cells (old++new++zh z.cells (nc-(len'+n))) e) }:=by
 obtain⟨j,hj,hjb,hjs⟩:=LY hT hi;have hnc:=Q1 (len'+n) c hlt;have hle:zG (len'+n) c*i.bytes≤281474976710656:=Nat.le_trans (zq _ hnc) hcap;refine⟨(Question.appendCap (len'+n) c e).cut (w.tape w.drawn (.appendCap (len'+n) c e)),by simp[Question.cut],?_⟩;unfold zr;have h1:¬(len'+n≤c):=by omega
 have h2:¬(zG (len'+n) c*i.bytes>2^48):=by omega
 have h3:¬(i.bytes=0):=by omega
 cases dx<;>first|(cases hdx;done)|skip
 all_goals
  simp only[ht0,htx,zP,zK,zL,zd,At hT hu,At hT hux,A3 hT hi,zc,zf,zw,if_false,hn,Bool.not_false,if_true,
   h1,hj,hjb,h3,or_self,and_false,h2,run_choose,zV,run_askRoom,hz,BB]
end
theorem Gb(z:Array Value)(n:Nat):(zh z n).size=n*z.size:=by simp[zh]
theorem Mu{size n:Nat}{x:V}{cs:List V}(hx:MS x=some n)(h1:size=1∨∀s,x≠ .str s)(hd:src h size x n=some cs):cs.length=n*size:=by
 unfold src at hd;split at hd
 case h_6=>cases hd
 case h_1=>cases hd;cases hx;simp
 case h_2=>
  cases hx;cases hd;simp
 case h_3=>
  cases hx;cases hd;simp
 case h_4=>
  rw[S3]at hd;unfold bO at hd;split at hd
  case h_2=>cases hd
  split at hd
  case isFalse=>cases hd
  cases hd;simp;omega
 case h_5=>
  rename_i s;cases hd;cases hx;rcases h1 with rfl|h1
  ·simp
  ·exact absurd rfl (h1 s)
theorem QM(hT:T.Ok P)(hr:R p h w){ts:Array TypeId}{t:TypeId}{args:List V}{args':Array Value}(ha:Al p args args'.toList){v:V}{h':H}(hd:Eu T h ts args=some (v,h')):
  ∃v' p' w',(zr ts t args').run P w=.ok v' w'∧Aa p' v v'∧Ext p h w p' h' w':=by
 unfold Eu at hd;split at hd
 case h_2=>cases hd
 rename_i t0 tx s x ht0 htx;obtain⟨s',x',hargs,hs,hx⟩:=ha.two;have ha0:args'[0]?=some s':=by rw[←zk,hargs];rfl
 have ha1:args'[1]?=some x':=by rw[←zk,hargs];rfl
 split at hd
 case h_2=>cases hd
 rename_i e dx n hu hux hxlen;split at hd
 case h_2=>cases hd
 rename_i i hi hdx;cases hcond:(zA 0 i.bytes&&zA 0 i.size&&zl i.zero.length i.size&&(zl i.size 1||LZ x))with
 |false=>simp[hcond]at hd
 |true=>
  simp only[hcond,cond_true]at hd;simp only[zu,Nat.blt_eq,A1,decide_eq_true_eq,Bool.or_eq_true]at hcond;obtain⟨⟨⟨c1,c2⟩,c3⟩,c4⟩:=hcond;have c5:i.size=1∨∀s,x≠ .str s:=c4.imp id (fun h s e=>by subst e;cases h);split at hd
  case h_2=>cases hd
  rename_i new hnew;have hnl:=Mu hxlen c5 hnew;obtain⟨vn,hvn,hvnr⟩:=Ib (P:=P) hr hx hnew;obtain⟨j,hj,hjb,hjs⟩:=LY hT hi;obtain⟨z,hz,hzr⟩:=Dh hT hi;have hzl:=(hzr p).length;simp at hzl;have hne:args'= #[s',x']:=by apply Array.ext';simpa using hargs
  subst hne;have hlenx:∀w,(zS x').run P w=.ok n w:=fun w=>Mt hx hxlen
  have none0:∀(base:Option Addr) (c:Nat),n=0→(zr ts t #[.slice base 0 c,x']).run P w=.ok (.slice base 0 c) w:=by
   intro base c h0;rw[Mf hT ht0 htx hu hux hdx hi hlenx base 0 c (by omega),hvn];have hv0:vn=[]:=by
    have h1:=hvnr.length;rw[hnl,h0,Nat.zero_mul]at h1;exact yd.1 h1.symm
   subst hv0;cases base<;>simp[h0,storeCells]
  have some0:∀(base:Option Addr),¬n=0→(2*n+1000)*i.bytes≤281474976710656→∃v' p' w',(zr ts t #[.slice base 0 0,x']).run P w=.ok v' w'∧Aa p' (.sl h.nx 0 n n i.size) v'∧Ext p h w p' (GD h e new) w':=by
   intro base h0 hb;obtain⟨nc,hnc,hrun⟩:=Nj (w:=w) (t:=t) hT ht0 htx hu hux hdx hi c1 hz hlenx base 0 0 (by omega) (by simpa using hb);simp only[yq]at hrun hnc;have hd1:=yj hr (w.drawn+1);obtain⟨vn',hvn',hvnr'⟩:=Ib (P:=P) hd1.rel hx hnew;have hne2:=ye (n:=nc*i.size) hd1.rel (o:=.cells new e (0,0)) (x:=.cells (#[]++vn'.toArray++zh z.cells (nc-n)) e) ?_
   ·refine⟨.slice (some ⟨w.heap.size,0,none⟩) n nc,_,_,?_,?_,hd1.trans hne2⟩
    ·rw[hrun];have hf:∀w,(zi i.size 0 (Value.slice base 0 0)).run P w=.ok #[] w:=by
      intro w;cases base<;>simp[zi,loadCells,loadCellsFrom]
     simp only[hf,zc,hvn']
    ·simp only[Aa];refine⟨w.heap.size,nc*i.size,nc,by rw[←hr.len];simp,rfl,zD _,by omega,fun h=>by omega,fun _=>by omega⟩
   ·have hl:=hvnr'.length;have hsz:(#[]++vn'.toArray++zh z.cells (nc-n)).size=nc*i.size:=by
     have:vn'.length=n*i.size:=by omega
     simp only[zZ,Gb,z6,z6,this, ←hzl,c3,Nat.sub_mul];have:n*i.size≤nc*i.size:=zq _ (by omega);simp;omega
    refine⟨_,(0,0),rfl,hsz,?_,?_,fun i _ h1 h2=>⟨h1,h2⟩⟩
    ·rw[hnl];exact zq _ (by omega)
    ·have:=Ny (p:=p) (old:=[]) (vo:=[]) (by simp) hvnr' (zh z.cells (nc-n));simpa using this.dF
  split at hd
  case h_5=>cases hd
  case h_1=>
   simp only[Aa]at hs;subst hs;rw[A1]at hd;by_cases h0:n=0
   ·simp only[h0,decide_true,cond_true,ze,zj]at hd;obtain⟨rfl,rfl⟩:=hd;exact⟨.slice none 0 0,p,w,none0 none 0 h0,by simp[Aa],zn hr⟩
   ·simp only[h0,decide_false,cond_false]at hd;cases hb:zz ((2*n+1000)*i.bytes) 281474976710656 with
    |false=>simp[hb]at hd
    |true=>
     simp only[hb,cond_true,ze,zj]at hd;obtain⟨rfl,rfl⟩:=hd;rw[zF]at hb;exact some0 none h0 hb
  case h_2=>
   simp only[Aa]at hs;obtain⟨a0,rfl⟩:=hs;rw[A1]at hd;by_cases h0:n=0
   ·simp only[h0,decide_true,cond_true,ze,zj]at hd;obtain⟨rfl,rfl⟩:=hd;exact⟨_,p,w,none0 (some a0) 0 h0,by simp[Aa],zn hr⟩
   ·simp only[h0,decide_false,cond_false]at hd;cases hb:zz ((2*n+1000)*i.bytes) 281474976710656 with
    |false=>simp[hb]at hd
    |true=>
     simp only[hb,cond_true,ze,zj]at hd;obtain⟨rfl,rfl⟩:=hd;rw[zF]at hb;exact some0 (some a0) h0 hb
  case h_3=>
   simp only[Aa]at hs;obtain⟨a0,c0,rfl⟩:=hs;rw[A1]at hd;by_cases h0:n=0
   ·simp only[h0,decide_true,cond_true,ze,zj]at hd;obtain⟨rfl,rfl⟩:=hd;exact⟨_,p,w,none0 (some a0) c0 h0,by simp[Aa],zn hr⟩
   ·simp[h0]at hd
  case h_4=>
   rename_i b off len cap o;simp only[Aa]at hs;obtain⟨r,m,c,hp,rfl,hlen,hcap,ho1,ho2⟩:=hs;cases hle:zz (len+n) cap with
   |true=>
    simp only[hle,cond_true,zg,zj]at hd;obtain⟨h1,hw,rfl,rfl⟩:=hd;rw[zF]at hle;obtain⟨r',m',w',g1,g2,g3⟩:=OF (P:=P) hr hvnr hw;rw[hp]at g1;cases g1;refine⟨.slice (some ⟨r,off,none⟩) (len+n) c,p,w',?_,?_,g3⟩
    ·rw[Mf hT ht0 htx hu hux hdx hi hlenx _ len c (by omega),hvn];simp only[zc,Addr.Gm,g2]
    ·simp only[Aa];exact⟨r,m,c,hp,rfl,hle,hcap,ho1,ho2⟩
   |false=>
    simp only[hle,cond_false]at hd;have hle':¬(len+n≤cap):=by rw[←zF,hle];simp
    cases hb:zz ((2*(len+n)+1000)*i.bytes) 281474976710656 with
    |false=>simp[hb]at hd
    |true=>
     simp only[hb,cond_true]at hd;rw[zF]at hb;split at hd
     case h_2=>cases hd
     rename_i old hold;have hol:=Mu (x:=.sl b off len cap o) (n:=len) rfl (.inr (fun s e=>by cases e)) hold;have hsrel:∀q:Pl,(∃q',q=p++q')→Aa q (.sl b off len cap o) (.slice (some ⟨r,off,none⟩) len c):=by
      rintro q ⟨q',rfl⟩;exact Aa.mono q' (by simp only[Aa];exact⟨r,m,c,hp,rfl,hlen,hcap,ho1,ho2⟩)
     have fresh:∀(_:c<len+n) (h2:H),R p h2 { w with drawn:=w.drawn+1 }→h2.nx=h.nx→
       ∃v' p' w',(zr ts t #[.slice (some ⟨r,off,none⟩) len c,x']).run P w=.ok v' w'∧Aa p' (.sl h.nx 0 (len+n) (len+n) i.size) v'∧
        Ext p h2 { w with drawn:=w.drawn+1 } p' (h2.push (.cells (old++new) e (0,0))) w':=by
      intro hlt h2 hr2 hnx;obtain⟨nc,hnc,hrun⟩:=Nj (w:=w) (t:=t) hT ht0 htx hu hux hdx hi c1 hz hlenx (some ⟨r,off,none⟩) len c hlt hb;have hd1:=yj hr (w.drawn+1);obtain⟨vn',hvn',hvnr'⟩:=Ib (P:=P) hd1.rel hx hnew;obtain⟨vo',hvo',hvor'⟩:=Ib (P:=P) (x:=.sl b off len cap o) hd1.rel (hsrel p ⟨[],by simp⟩) hold;have hl:=hvnr'.length;have hl2:=hvor'.length;have hsz:(vo'.toArray++vn'.toArray++zh z.cells (nc-(len+n))).size=nc*i.size:=by
       have e1:vn'.length=n*i.size:=by omega
       have e2:vo'.length=len*i.size:=by omega
       simp only[zZ,Gb,z6,e1,e2, ←hzl,c3,Nat.sub_mul,yk];have:(len+n)*i.size≤nc*i.size:=zq _ (by omega);rw[yk]at this;omega
      have hne2:=ye (n:=nc*i.size) hr2 (o:=.cells (old++new) e (0,0)) (x:=.cells (vo'.toArray++vn'.toArray++zh z.cells (nc-(len+n))) e)
       ⟨_,(0,0),rfl,hsz,by rw[zJ,hol,hnl, ←yk];exact zq _ (by omega),(Ny hvor' hvnr' _).dF,fun i _ h1 h2=>⟨h1,h2⟩⟩
      refine⟨.slice (some ⟨w.heap.size,0,none⟩) (len+n) nc,_,_,?_,?_,hne2⟩
      ·rw[hrun,hvo'];simp only[zc,hvn']
      ·simp only[Aa];refine⟨w.heap.size,nc*i.size,nc,?_,rfl,zD _,by omega,fun h=>by omega,fun _=>by omega⟩;rw[←hnx, ←hr2.len];simp
     rw[A1]at hd;by_cases h0:o=0
     ·simp only[h0,decide_true,cond_true,ze,zj]at hd;obtain⟨rfl,rfl⟩:=hd;have:=ho1 h0;have hd1:=yj hr (w.drawn+1);obtain⟨v',p',w',k1,k2,k3⟩:=fresh (by omega) h hd1.rel rfl;exact⟨v',p',w',k1,k2,hd1.trans k3⟩
     ·simp only[h0,decide_false,cond_false]at hd;split at hd
      case h_2=>cases hd
      rename_i cs te fz hbk;cases hc2:(zl off 0&&zl o i.size&&zl te e&&zz fz.2 fz.1&&new.all V.one)with
      |false=>simp[hc2]at hd
      |true=>
       simp only[hc2,cond_true,ze,zj]at hd;obtain⟨rfl,rfl⟩:=hd;simp only[zu,zF,A1,decide_eq_true_eq,List.all_eq_true]at hc2;obtain⟨⟨⟨⟨rfl,rfl⟩,rfl⟩,d4⟩,d5⟩:=hc2;by_cases hfit:len+n≤c
       ·
        obtain⟨r',m',cc,fz',g1,g2,g3,g4,g5,g6,g7⟩:=cell_of hr hbk;rw[hp]at g1;cases g1;have hm:=ho2 h0;have hl:=hvnr.length;have hone:∀v∈vn,v.oneCell'=true:=by
         intro v hv;obtain⟨k,hk⟩:=List.mem_iff_getElem?.1 hv;have hk':=(zx.1 hk).1;obtain⟨u,hu1,hu2⟩:=hvnr.get (i:=k) (d:=new[k]'(by omega)) (by simp);rw[hk]at hu1;cases hu1;exact hu2.one (d5 _ (List.getElem_mem _))
        have hbnd:len*i.size+n*i.size≤c*i.size:=by rw[←yk];exact zq _ hfit
        obtain⟨cc',k1,k2,k3⟩:=D9 (P:=P) vn w cc (len*i.size) 0 g2 (by omega) hone (by
         rintro k _ hk ⟨q1,q2⟩;have:=g7 (len*i.size+k) (by omega) q1 q2;omega)
        have hrd:old=cs.take (len*i.size)∧len*i.size≤cs.length:=by
         unfold src at hold;simp only[S3]at hold;unfold bO at hold;simp only[hbk,yq,List.drop_zero]at hold;split at hold
         ·rename_i hc0;cases hold;exact⟨rfl,hc0.1⟩
         ·cases hold
        refine⟨.slice (some ⟨r,0,none⟩) (len+n) c,p++[(r,m)],{ w with heap:=w.heap.setIfInBounds r (.cells cc' te fz') },?_,?_,Ext.move hr (o':=.cells (old++new) te (0,0)) hbk hp ⟨cc',fz',rfl,by omega,?_,?_,?_⟩ rfl rfl rfl rfl (fun _ _ _ e1 hlk=>by cases e1;obtain⟨l1,_,l3⟩:=hlk;omega)⟩
        ·rw[Mf hT ht0 htx hu hux hdx hi hlenx _ len c hfit,hvn];simp only[zc,Addr.Gm,yq,k1]
        ·simp only[Aa];exact⟨r,m,c,by rw[←hr.len];simp,rfl,zD _,hfit,fun h=>by omega,fun _=>hm⟩
        ·rw[zJ,hol,hnl];omega
        ·refine⟨?_,?_⟩
         ·simp;omega
         ·intro k d v hdk hvk hokk;have hkl:k<(old++new).length:=(zx.1 hdk).1;rw[zB hkl,k3]at hvk;rw[zJ,hol,hnl]at hkl;simp only[Nat.add_zero,zM]at hvk;rw[List.getElem?_range (by omega)]at hvk;simp only[yi,ze]at hvk;by_cases hk:k<len*i.size
          ·rw[zy (by omega),hrd.1,zB hk]at hdk;rw[if_neg (by omega)]at hvk;obtain⟨u,hu1,hu2⟩:=g5.get hdk hokk;rw[zB (by omega)]at hu1;simp only[List.getD,hu1,Option.getD_some]at hvk;exact hvk▸hu2
          ·rw[List.getElem?_append_right (by omega),hol]at hdk;rw[if_pos (by omega)]at hvk;obtain⟨u,hu1,hu2⟩:=hvnr.get hdk;simp only[List.getD,hu1,Option.getD_some]at hvk;exact hvk▸hu2
        ·intro k hk q1 q2;have:=g7 k hk q1 q2;omega
       ·have hk:=Ext.kill hr b;have hd1:=yj hk.rel (w.drawn+1);obtain⟨v',p',w',k1,k2,k3⟩:=fresh (by omega) (h.kill b) hd1.rel rfl;exact⟨v',p',w',k1,k2,(hk.trans hd1).trans k3⟩
end
end
end Go.Det
end
section
namespace Go.Det
noncomputable section
section
variable {T:BA}{P:Program}{p:Pl}{h:H}{w:World}
def Wd(T:BA)(h:H)(ts:Array TypeId)(args:List V):Option (V×H):=
 match ts[0]?,args with
 |some t,[d,x]=>
  match T.und t,MS d,MS x with
  |some (.slice e),some dl,some n=>
   match T.inf e with
   |some i=>
    match src h i.size x (Nat.min n dl)with
    |some new=>
     match d with
     | .nils=>some (i64 (Nat.min n dl),h)
     | .sl b off _ _ _=>(wr h b off new).map fun h'=>(i64 (Nat.min n dl),h')
     |_=>none
    |none=>none
   |none=>none
  |_,_,_=>none
 |_,_=>none
theorem UK(hT:T.Ok P)(hr:R p h w){ts:Array TypeId}{t:TypeId}{args:List V}{args':Array Value}(ha:Al p args args'.toList){v:V}{h':H}(hd:Wd T h ts args=some (v,h')):
  ∃v' p' w',(Builtin.copy_ ts t args').run P w=.ok v' w'∧Aa p' v v'∧Ext p h w p' h' w':=by
 unfold Wd at hd;split at hd
 case h_2=>cases hd
 rename_i t0 d x ht0;obtain⟨d',x',hargs,hdr,hx⟩:=ha.two;have hne:args'= #[d',x']:=by apply Array.ext';simpa using hargs
 subst hne;split at hd
 case h_2=>cases hd
 rename_i e dl n hu hdl hn;split at hd
 case h_2=>cases hd
 rename_i i hi;split at hd
 case h_2=>cases hd
 rename_i new hnew;obtain⟨vn,hvn,hvnr⟩:=Ib (P:=P) hr hx hnew;unfold Builtin.copy_;simp only[ht0,zP,zK,zL,zd,At hT hu,zc];split at hd
 case h_3=>cases hd
 case h_1=>
  simp only[Aa]at hdr;subst hdr;simp only[MS,ze]at hdl;subst hdl;cases hd;simp only[zd,Mt hx hn,A3 hT hi,zc,hvn];refine⟨_,p,w,zf ..,?_,zn hr⟩;simp[i64,Aa,goInt]
 case h_2=>
  rename_i b off len cap o;simp only[MS,ze]at hdl;subst hdl;simp only[Aa]at hdr;obtain⟨r,m,c,hp,rfl,_⟩:=hdr;rw[zg]at hd;obtain⟨h1,hw,he⟩:=hd;cases he;obtain⟨r',m',w',g1,g2,g3⟩:=OF (P:=P) hr hvnr hw;rw[hp]at g1;cases g1;simp only[zd,Mt hx hn,A3 hT hi,zc,hvn,g2];refine⟨_,p,w',zf ..,?_,g3⟩;simp[i64,Aa,goInt]
def O6(T:BA)(h:H)(t:TypeId)(x:V):Option (V×H):=
 match T.und t,x with
 |some .string,.str s=>some (.ptr h.nx 0,h.push (.siter s 0))
 |_,_=>none
theorem TL(hT:T.Ok P)(hr:R p h w){t:TypeId}{x:V}{x':Value}(hx:Aa p x x'){v:V}{h':H}(hd:O6 T h t x=some (v,h')):
  ∃v' p' w',(z7 t x').run P w=.ok v' w'∧Aa p' v v'∧Ext p h w p' h' w':=by
 unfold O6 at hd;split at hd
 case h_2=>cases hd
 rename_i s hu;cases hd;simp only[Aa]at hx;subst hx;have he:=ye (n:=0) hr (o:=.siter s 0) (x:=.stringIter (bytesOf s) 0) rfl;refine⟨.pointer (some ⟨w.heap.size,0,none⟩),_,_,?_,?_,he⟩
 ·unfold z7;simp only[zd,At hT hu,zc,zf,run_newObj]
 ·simp only[Aa];exact⟨w.heap.size,0,by rw[←hr.len];simp,rfl⟩
def J1(h:H)(it:V)(isStr:Bool):Option (V×H):=
 match it,isStr with
 | .ptr b 0,true=>
  match h.get b with
  |some (.siter s pos)=>
   bif zA pos s.length then
    some (.tup [.bool true,i64 pos,.int .i32 (Utf8.decode (bytesOf s) pos).1],h.put b (.siter s (pos+(Utf8.decode (bytesOf s) pos).2)))
   else some (.tup [.bool false],h)
  |_=>none
 |_,_=>none
theorem VB(hr:R p h w){it:V}{it':Value}{isStr:Bool}{t:TypeId}(hx:Aa p it it'){v:V}{h':H}(hd:J1 h it isStr=some (v,h')):
  ∃v' p' w',(yg it' isStr t).run P w=.ok v' w'∧Aa p' v v'∧Ext p h w p' h' w':=by
 unfold J1 at hd;split at hd
 case h_2=>cases hd
 rename_i b;simp only[Aa]at hx;obtain⟨r,n,hp,rfl⟩:=hx;split at hd
 case h_2=>cases hd
 rename_i s pos hb;obtain⟨r',n',x,h1,h2,h3⟩:=hr.obj _ _ hb;rw[hp]at h1;cases h1;simp only[EE]at h3;subst h3;rw[Fk]at hd;unfold yg;simp only[zd,getObj,zE,h2,zc,Bh];by_cases hlt:pos<s.length
 ·simp only[hlt,decide_true,cond_true,ze,zj]at hd;obtain⟨rfl,rfl⟩:=hd;simp only[hlt,if_true,zd,setObj,zE,h2,zc];refine⟨_,p,_,zf ..,?_,yn hr hb hp (o':=.siter s (pos+(Utf8.decode (bytesOf s) pos).2)) rfl rfl rfl rfl rfl⟩;simp[Aa,i64,goInt]
 ·simp only[hlt,decide_false,cond_false,ze,zj]at hd;obtain⟨rfl,rfl⟩:=hd;simp only[hlt,if_false];exact⟨_,p,w,zf ..,by simp[Aa],zn hr⟩
def GN(h:H)(r:Option V):Option (V×H):=
 match r with
 |none=>some (.map h.nx,h.push (.map [] 0))
 |some _=>none
theorem QE(hr:R p h w){t:TypeId}{r:Option V}{r':Option Value}(hx:D5 p r r'){v:V}{h':H}(hd:GN h r=some (v,h')):
  ∃v' p' w',(Instr.makeMap t r').run P w=.ok v' w'∧Aa p' v v'∧Ext p h w p' h' w':=by
 unfold GN at hd;split at hd
 case h_2=>cases hd
 cases hd;simp only[D5]at hx;subst hx;have he:=ye (n:=0) hr (o:=.map [] 0) (x:=.map #[] 0) ⟨#[],rfl,.nil⟩;refine⟨.map (some w.heap.size),_,_,?_,?_,he⟩
 ·unfold Instr.makeMap;simp
 ·simp only[Aa];exact⟨w.heap.size,0,by rw[←hr.len];simp,rfl⟩
def WT(T:BA)(kt:TypeId)(a b:V):Option Bool:=
 match T.und kt,a,b with
 |some (.int _),.int k x,.int k' y=>if k=k' then some (x==y)else none
 |some .string,.str x,.str y=>some (x==y)
 |some .bool,.bool x,.bool y=>some (x==y)
 |_,_,_=>none
def Iy(T:BA)(kt:TypeId)(k:V):List (V×V×Nat)→Nat→Option (Option (Nat×V))
 |[],_=>some none
 |(a,v,_)::es,i=>
  match WT T kt k a with
  |some true=>some (some (i,v))
  |some false=>Iy T kt k es (i+1)
  |none=>none
def plainKey:V→Bool
 | .int .. | .str _| .bool _=>true
 |_=>false
theorem bytes_beq(x y:ByteArray):(x==y)=(x.data==y.data):=rfl
theorem Tf{kt:TypeId}{a b:V}{a' b':Value}(ha:Aa p a a')(hb:Aa p b b'){r:Bool}(hd:WT T kt a b=some r){d:TypeDesc}(hu:T.und kt=some d):
  ya d a' b'=some r∧(r=true→a'=b'):=by
 unfold WT at hd;split at hd
 case h_1=>
  rename_i hu';rw[hu]at hu';cases hu';simp only[Aa]at ha hb;subst ha hb;split at hd
  ·rename_i e;subst e;cases hd;exact⟨by simp[ya],fun h=>by simp at h;subst h;rfl⟩
  ·cases hd
 case h_2=>
  rename_i hu';rw[hu]at hu';cases hu';simp only[Aa]at ha hb;subst ha hb;cases hd;refine⟨?_,fun h=>by simp at h;subst h;rfl⟩;simp only[ya];congr 1;rw[bytes_beq,Bool.eq_iff_iff];simp[bytesOf]
 case h_3=>
  rename_i hu';rw[hu]at hu';cases hu';simp only[Aa]at ha hb;subst ha hb;cases hd;exact⟨rfl,fun h=>by simp at h;subst h;rfl⟩
 case h_4=>cases hd
theorem Vk{kt:TypeId}{k:V}{k':Value}(hk:Aa p k k'){d:TypeDesc}(hu:T.und kt=some d):
  ∀ {es:List (V×V×Nat)} {l:List MapEntry},CE p es l→∀ {i:Nat} {r:Option (Nat×V)},Iy T kt k es i=some r→
  ∃r',zT d k' l i=some r'∧(match r with|none=>r'=none|some (j,v)=>∃v',r'=some (j,v')∧Aa p v v'∧i≤j∧∃e,l[j-i]?=some e∧e.key=k'):=by
 intro es l he;induction he with
 |nil=>intro i r hd;simp only[Iy,ze]at hd;subst hd;exact⟨none,rfl,rfl⟩
 |@cons a v b es e l h1 h2 h3 _ ih=>
  intro i r hd;unfold Iy at hd;split at hd
  case h_1=>
   rename_i hq;cases hd;obtain⟨g1,g2⟩:=Tf hk h1 hq hu;exact⟨some (i,e.val),by simp[zT,g1],e.val,rfl,h2,zD _,e,by simp,(g2 rfl).symm⟩
  case h_2=>
   rename_i hq;obtain⟨g1,_⟩:=Tf hk h1 hq hu;obtain⟨r',k1,k2⟩:=ih hd;refine⟨r',by simp[zT,g1,k1],?_⟩;cases r with
   |none=>exact k2
   |some jv=>
    obtain⟨j,v⟩:=jv;obtain⟨v',m1,m2,m3,e',m4,m5⟩:=k2;refine⟨v',m1,m2,by omega,e',?_,m5⟩;have:j-i=(j-(i+1))+1:=by omega
    rw[this];simpa using m4
  case h_3=>cases hd
theorem run_checkKey{k:V}{k':Value}(hk:Aa p k k')(hp:plainKey k=true)(hT:T.Ok P){kt:TypeId}{d:TypeDesc}(hu:T.und kt=some d)(hs:CS d=false)(hi:∀ms,d≠ .interface ms)(b:Bool):
  (ym b 10000 kt k').run P w=.ok () w:=by
 unfold ym;rw[zd,At hT hu];simp only[zc];cases k<;>simp only[plainKey]at hp<;>simp only[Aa]at hk
 case bool|int|str=>
  subst hk;cases d<;>first|rfl|(cases hs;done)|exact absurd rfl (hi _)
 all_goals cases hp
def VC:TypeDesc→Bool
 | .int _| .string| .bool=>true
 |_=>false
theorem Ul{d:TypeDesc}(h:VC d=true):CS d=false∧∀ms,d≠ .interface ms:=by
 cases d<;>first|(cases h;done)|exact⟨rfl,fun ms e=>by cases e⟩
theorem MN{k:V}{k':Value}(hk:Aa p k k')(hp:plainKey k=true):zo 10000 k' k'=true:=by
 cases k<;>simp only[plainKey]at hp<;>simp only[Aa]at hk
 case bool=>subst hk;simp[zo]
 case int=>subst hk;simp[zo]
 case str=>subst hk;simp[zo,bytes_beq]
 all_goals cases hp
theorem P9{a b:V}{a' b':Value}(ha:Aa p a a')(hb:Aa p b b')(h:CL a b=some true):a'=b':=by
 unfold CL at h;split at h
 case h_1=>simp only[Aa]at ha hb;subst ha hb;simp at h;subst h;rfl
 case h_2=>
  split at h
  ·rename_i e;subst e;simp only[Aa]at ha hb;subst ha hb;simp at h;subst h;rfl
  ·cases h
 case h_3=>simp only[Aa]at ha hb;subst ha hb;simp at h;subst h;rfl
 case h_4=>cases h
theorem Io:∀ {xs ys:List V} {x y:List Value},Al p xs x→Al p ys y→Bn xs ys=some true→x=y
 |[],[],x,y,hx,hy,_=>by simp at hx hy;subst hx hy;rfl
 |[],_::_,_,_,_,_,h=>by simp[Bn]at h
 |_::_,[],_,_,_,_,h=>by simp[Bn]at h
 |a::gG,b::bs,x,y,hx,hy,h=>by
  simp only[Al]at hx hy;obtain⟨u,us,rfl,h1,h2⟩:=hx;obtain⟨v,vs,rfl,h3,h4⟩:=hy;unfold Bn at h;split at h
  case h_1=>
   rename_i hc;rw[P9 h1 h3 hc,Io h2 h4 h]
  case h_2=>split at h<;>cases h
  case h_3=>cases h
theorem Pv:∀ {ks:List FK} {xs:List V} {x:List Value},fit ks xs=true→Al p xs x→(x.zip x).all (fun(a,b)=>zo 9999 a b)=true
 |[],[],x,_,hx=>by simp at hx;subst hx;rfl
 |[],_::_,_,h,_=>by simp[fit]at h
 |_::_,[],_,h,_=>by simp[fit]at h
 |k::ks,v::vs,x,h,hx=>by
  simp only[Al]at hx;obtain⟨u,us,rfl,h1,h2⟩:=hx;unfold fit at h;cases hk:k.ok v with
  |false=>simp[hk]at h
  |true=>
   simp only[hk,cond_true]at h;have h3:=Pv h h2;simp only[List.zip_cons_cons,yo,h3,Bool.and_true];unfold FK.ok at hk;split at hk
   case h_1=>simp only[Aa]at h1;subst h1;simp[zo]
   case h_2=>simp only[Aa]at h1;subst h1;simp[zo,bytes_beq]
   case h_3=>simp only[Aa]at h1;subst h1;simp[zo]
   case h_4=>cases hk
def LU(ks:List FK)(k:List V):List (V×V×Nat)→Nat→Option (Option (Nat×V))
 |[],_=>some none
 |(a,v,_)::es,i=>
  match a with
  | .agg ys=>match J2 (some ks) k ys with
   |some true=>some (some (i,v))
   |some false=>LU ks k es (i+1)
   |none=>none
  |_=>none
def GF(T:BA)(kt:TypeId)(d:TypeDesc)(k:V):Bool:=
 match k with
 | .agg xs=>match T.flat kt with
  |some ks=>fit ks xs
  |none=>false
 |k=>plainKey k&&VC d
def HS(T:BA)(kt:TypeId)(k:V)(es:List (V×V×Nat)):Option (Option (Nat×V)):=
 match k with
 | .agg xs=>match T.flat kt with
  |some ks=>LU ks xs es 0
  |none=>none
 |k=>Iy T kt k es 0
theorem Mr(hT:T.Ok P){kt:TypeId}{ks:List FK}(hf:T.flat kt=some ks){xs:List V}{x:Array Value}(hx:Al p xs x.toList):
  ∀ {es:List (V×V×Nat)} {l:List MapEntry},CE p es l→∀ {i:Nat} {r:Option (Nat×V)},LU ks xs es i=some r→
  ∃r',(zR kt (.agg x) l i).run P w=.ok r' w∧(match r with|none=>r'=none|some (j,v)=>∃v',r'=some (j,v')∧Aa p v v'∧i≤j∧∃e,l[j-i]?=some e∧e.key=.agg x):=by
 intro es l he;induction he with
 |nil=>intro i r hd;simp only[LU,ze]at hd;subst hd;exact⟨none,rfl,rfl⟩
 |@cons a v b es e l h1 h2 h3 _ ih=>
  intro i r hd;unfold LU at hd;split at hd
  case h_2=>cases hd
  rename_i ys;simp only[Aa]at h1;obtain⟨y,hy,h1⟩:=h1;split at hd
  case h_3=>cases hd
  case h_1=>
   rename_i hc;cases hd;obtain⟨l',e1,g1,g2,g3⟩:=FF hc;cases e1;refine⟨some (i,e.val),?_,e.val,rfl,h2,zD _,e,by simp,?_⟩
   ·simp only[zR,zd,hy,hT.flat kt ks hf p xs ys x y true w g1 g2 hx h1 g3,zc,if_true,zf]
   ·rw[hy];have:=Io hx h1 g3;congr 1;exact(zC.1 this).symm
  case h_2=>
   rename_i hc;obtain⟨l',e1,g1,g2,g3⟩:=FF hc;cases e1;obtain⟨r',k1,k2⟩:=ih hd;refine⟨r',?_,?_⟩
   ·simp only[zR,zd,hy,hT.flat kt ks hf p xs ys x y false w g1 g2 hx h1 g3,zc,zw,if_false];exact k1
   ·cases r with
    |none=>exact k2
    |some jv=>
     obtain⟨j,v⟩:=jv;obtain⟨v',m1,m2,m3,e',m4,m5⟩:=k2;refine⟨v',m1,m2,by omega,e',?_,m5⟩;have:j-i=(j-(i+1))+1:=by omega
     rw[this];simpa using m4
theorem Hk(hT:T.Ok P){kt:TypeId}{d:TypeDesc}(hu:T.und kt=some d){k:V}{k':Value}(hk:Aa p k k')(hc:GF T kt d k=true)(b:Bool):
  (ym b 10000 kt k').run P w=.ok () w:=by
 unfold GF at hc;split at hc
 case h_1=>
  rename_i xs;split at hc
  case h_2=>cases hc
  rename_i ks hf;simp only[Aa]at hk;obtain⟨x,rfl,hx⟩:=hk;exact hT.key kt ks hf p xs x b w hc hx
 case h_2=>
  simp only[zu]at hc;obtain⟨g1,g2⟩:=Ul hc.2;exact run_checkKey hk hc.1 hT hu g1 g2 b
theorem RK{kt:TypeId}{d:TypeDesc}{k:V}{k':Value}(hk:Aa p k k')(hc:GF T kt d k=true):zo 10000 k' k'=true:=by
 unfold GF at hc;split at hc
 case h_1=>
  rename_i xs;split at hc
  case h_2=>cases hc
  rename_i ks hf;simp only[Aa]at hk;obtain⟨x,rfl,hx⟩:=hk;have:=Pv hc hx;simp only[zo,beq_self_eq_true,Bool.true_and];exact this
 case h_2=>
  simp only[zu]at hc;exact MN hk hc.1
def entries(h:H)(m:V):Option (List (V×V×Nat)):=
 match m with
 | .nilm=>some []
 | .map b=>match h.get b with
  |some (.map es _)=>some es
  |_=>none
 |_=>none
def Ds(T:BA)(h:H)(t:TypeId)(m k:V)(ok:Bool):Option V:=
 match T.und t with
 |some (.map kt e)=>
  match T.und kt,entries h m with
  |some d,some es=>
   bif GF T kt d k then
    match HS T kt k es with
    |some (some (_,v))=>some (bif ok then .tup [v,.bool true]else v)
    |some none=>match T.inf e with
     |some i=>some (bif ok then .tup [i.zv,.bool false]else i.zv)
     |none=>none
    |none=>none
   else none
  |_,_=>none
 |_=>none
theorem JD(hr:R p h w){m:V}{m':Value}(hm:Aa p m m'){es:List (V×V×Nat)}(hd:entries h m=some es):
  (m'=.map none∧es=[])∨∃r l cl b n,m=.map b∧m'=.map (some r)∧p[b]?=some (r,n)∧h.get b=some (.map es cl)∧w.heap[r]?=some (.map l cl)∧CE p es l.toList:=by
 unfold entries at hd;split at hd
 case h_1=>simp only[Aa]at hm;subst hm;cases hd;exact .inl ⟨rfl,rfl⟩
 case h_2=>
  simp only[Aa]at hm;obtain⟨r,n,hp,rfl⟩:=hm;split at hd
  case h_2=>cases hd
  rename_i es' cl hb;cases hd;obtain⟨r',n',o,h1,h2,l,h3,h4⟩:=hr.obj _ _ hb;rw[hp]at h1;cases h1;subst h3;exact .inr ⟨r,l,cl,_,_,rfl,rfl,hp,hb,h2,h4⟩
 case h_3=>cases hd
theorem run_findKey(hT:T.Ok P){kt:TypeId}{k:V}{k':Value}(hk:Aa p k k'){d:TypeDesc}(hu:T.und kt=some d){es:List (V×V×Nat)}{l:List MapEntry}(he:CE p es l)
  {r:Option (Nat×V)} (hd:HS T kt k es=some r):
  ∃r',(yb kt k' l).run P w=.ok r' w∧(match r with|none=>r'=none|some (j,v)=>∃v',r'=some (j,v')∧Aa p v v'∧∃e,l[j]?=some e∧e.key=k'):=by
 by_cases hk2:∃xs,k=.agg xs
 ·obtain⟨xs,rfl⟩:=hk2;simp only[HS]at hd;cases hf:T.flat kt with
  |none=>simp[hf]at hd
  |some ks=>
   simp only[hf]at hd;simp only[Aa]at hk;obtain⟨x,rfl,hx⟩:=hk;obtain⟨fs,hfs⟩:=hT.kind kt ks hf;rw[hu]at hfs;cases hfs;obtain⟨r',h1,h2⟩:=Mr (P:=P) (w:=w) hT hf hx he hd;refine⟨r',?_,?_⟩
   ·unfold yb;simp only[zd,At hT hu,zc];cases l with
    |nil=>simp only[zT];simpa [zR]using h1
    |cons e l=>simp only[zT,ya];exact h1
   ·cases r with
    |none=>exact h2
    |some jv=>
     obtain⟨j,v⟩:=jv;obtain⟨v',m1,m2,m3,e',m4,m5⟩:=h2;exact⟨v',m1,m2,e',by simpa using m4,m5⟩
 ·have hq:HS T kt k es=Iy T kt k es 0:=by cases k<;>first|rfl|exact absurd ⟨_,rfl⟩ hk2
  rw[hq]at hd;obtain⟨r',h1,h2⟩:=Vk hk hu he hd;refine⟨r',?_,?_⟩
  ·unfold yb;simp only[zd,At hT hu,zc,h1,zf]
  ·cases r with
   |none=>exact h2
   |some jv=>
    obtain⟨j,v⟩:=jv;obtain⟨v',m1,m2,m3,e',m4,m5⟩:=h2;exact⟨v',m1,m2,e',by simpa using m4,m5⟩
theorem Rr(hT:T.Ok P)(hr:R p h w){t:TypeId}{m k:V}{m' k':Value}{ok:Bool}(hm:Aa p m m')(hk:Aa p k k'){v:V}(hd:Ds T h t m k ok=some v):
  ∃v',(yh t m' k' ok).run P w=.ok v' w∧Aa p v v':=by
 unfold Ds at hd;split at hd
 case h_2=>cases hd
 rename_i kt e hu;split at hd
 case h_2=>cases hd
 rename_i d es hkd hes;cases hc:GF T kt d k with
 |false=>simp[hc]at hd
 |true=>
  simp only[hc,cond_true]at hd;obtain⟨l,hlr,hrun⟩:∃l:List MapEntry,CE p es l∧(yh t m' k' ok).run P w=((yb kt k' l).run P w).andThen fun r w'=>
    match r with
    |some (_,v)=>.ok (if ok then .tuple #[v,.bool true]else v) w'
    |none=>((zeroValue e).run P w').andThen fun z w'=>.ok (if ok then .tuple #[z,.bool false]else z) w':=by
   rcases JD hr hm hes with⟨rfl,rfl⟩|⟨r,l,cl,b,n,rfl,rfl,hp,hb,hw,he⟩
   ·refine⟨[],.nil,?_⟩;unfold yh;simp only[zd,At hT hu,zc,zf,Hk hT hkd hk hc];congr 1;funext r w'
    cases r<;>simp
   ·refine⟨l.toList,he,?_⟩;unfold yh;simp only[zd,At hT hu,zc,zf,Hk hT hkd hk hc,getObj,zE,hw];congr 1;funext r w'
    cases r<;>simp
  rw[hrun];split at hd
  case h_3=>cases hd
  case h_1=>
   rename_i j v0 hf;cases hd;obtain⟨r',k1,v',rfl,k3,_⟩:=run_findKey (P:=P) (w:=w) hT hk hkd hlr hf;simp only[k1,zc];cases ok
   ·exact⟨v',by simp,by simpa using k3⟩
   ·exact⟨.tuple #[v',.bool true],by simp,by simp only[cond_true,Aa];exact⟨_,rfl,by simp[k3,Aa]⟩⟩
  case h_2=>
   rename_i hf;split at hd
   case h_2=>cases hd
   rename_i i hi;cases hd;obtain⟨r',k1,k2⟩:=run_findKey (P:=P) (w:=w) hT hk hkd hlr hf;simp only at k2;subst k2;obtain⟨z,hz,hzr⟩:=aB hT hi;simp only[k1,zc,hz];cases ok
   ·exact⟨z,by simp,by simpa using hzr p⟩
   ·exact⟨.tuple #[z,.bool false],by simp,by simp only[cond_true,Aa];exact⟨_,rfl,by simp[hzr p,Aa]⟩⟩
def QP(es:List (V×V×Nat))(i:Nat)(k v:V):List (V×V×Nat):=es.modify i fun e=>(k,v,e.2.2)
theorem CE.modify{es:List (V×V×Nat)}{l:List MapEntry}(he:CE p es l){k v:V}{k' v':Value}(hk:Aa p k k')(hv:Aa p v v')(i:Nat):
  CE p (QP es i k v) (l.modify i fun e=>{ e with key:=k',val:=v' }):=by
 unfold QP;induction he generalizing i with
 |nil=>simp;exact .nil
 |@cons a x b es e l h1 h2 h3 h4 ih=>
  cases i with
  |zero=>simp;exact .cons hk hv h3 h4
  |succ i=>simp;exact .cons h1 h2 h3 (ih i)
theorem CE.snoc{es:List (V×V×Nat)}{l:List MapEntry}(he:CE p es l){k v:V}{e:MapEntry}(hk:Aa p k e.key)(hv:Aa p v e.val):CE p (es++[(k,v,e.born)]) (l++[e]):=by
 induction he with
 |nil=>exact .cons hk hv rfl .nil
 |cons h1 h2 h3 _ ih=>exact .cons h1 h2 h3 ih
def FM(T:BA)(h:H)(t:TypeId)(m k v:V):Option H:=
 match T.und t,m with
 |some (.map kt _),.map b=>
  match T.und kt,h.get b with
  |some d,some (.map es cl)=>
   bif GF T kt d k then
    match HS T kt k es with
    |some (some (i,_))=>some (h.put b (.map (QP es i k v) cl))
    |some none=>some (h.put b (.map (es++[(k,v,cl)]) (cl+1)))
    |none=>none
   else none
  |_,_=>none
 |_,_=>none
theorem Ro(hT:T.Ok P)(hr:R p h w){t:TypeId}{m k v:V}{m' k' v':Value}(hm:Aa p m m')(hk:Aa p k k')(hv:Aa p v v'){h':H}(hd:FM T h t m k v=some h'):
  ∃w',(Instr.mapUpdate t m' k' v').run P w=.ok () w'∧Ext p h w p h' w':=by
 unfold FM at hd;split at hd
 case h_2=>cases hd
 rename_i kt e b hu;split at hd
 case h_2=>cases hd
 rename_i d es cl hkd hb;cases hc:GF T kt d k with
 |false=>simp[hc]at hd
 |true=>
  simp only[hc,cond_true]at hd;rcases JD (es:=es) hr hm (by simp only[entries,hb])with⟨rfl,_⟩|⟨r,l,cl',b',n,e1,rfl,hp,hb',hw,he⟩
  ·simp[Aa]at hm
  ·cases e1;rw[hb]at hb';cases hb';unfold Instr.mapUpdate;simp only[zd,At hT hu,zc,Hk hT hkd hk hc,getObj,zE,hw];split at hd
   case h_3=>cases hd
   case h_1=>
    rename_i j v0 hf;cases hd;obtain⟨r',k1,v1,rfl,k3,en,k4,k5⟩:=run_findKey (P:=P) (w:=w) hT hk hkd he hf;simp only[k1,zc];have hold:(l[j]?.map (·.key)).getD k'=k':=by
     have:l[j]?=some en:=by simpa using k4
     simp[this,k5]
    rw[hold];unfold Instr.keyThatStays;simp only[RK hk hc,if_true,zd,zf,zc,setObj,zE,hw];refine⟨_,rfl,yn hr hb hp (o':=.map (QP es j k v) cl) ⟨_,rfl,?_⟩ rfl rfl rfl rfl⟩;have:=he.modify hk hv j;simpa using this
   case h_2=>
    rename_i hf;cases hd;obtain⟨r',k1,k2⟩:=run_findKey (P:=P) (w:=w) hT hk hkd he hf;simp only at k2;subst k2;simp only[k1,zc,setObj,zE,hw];refine⟨_,rfl,yn hr hb hp (o':=.map (es++[(k,v,cl)]) (cl+1)) ⟨_,rfl,?_⟩ rfl rfl rfl rfl⟩;have:=he.snoc (e:={ key:=k',val:=v',born:=cl }) hk hv;simpa using this
end
end
end Go.Det
end
section
namespace Go.Det
noncomputable section
section
variable {T:BA}{P:Program}{p:Pl}{h:H}{w:World}
def FX(T:BA)(h:H)(t:TypeId)(x:V):Option (V×H):=
 match T.und t,x with
 |some (.map _ _),.nilm=>some (.ptr h.nx 0,h.push (.miter none 0 [] 0))
 |some (.map _ _),.map b=>match h.get b with
  |some (.map _ cl)=>some (.ptr h.nx 0,h.push (.miter (some b) cl [] cl))
  |_=>none
 |_,_=>O6 T h t x
theorem RS(hT:T.Ok P)(hr:R p h w){t:TypeId}{x:V}{x':Value}(hx:Aa p x x'){v:V}{h':H}(hd:FX T h t x=some (v,h')):
  ∃v' p' w',(z7 t x').run P w=.ok v' w'∧Aa p' v v'∧Ext p h w p' h' w':=by
 unfold FX at hd;split at hd
 case h_1=>
  rename_i hu;cases hd;simp only[Aa]at hx;subst hx;have he:=ye (n:=0) hr (o:=.miter none 0 [] 0) (x:=.mapIter none 0 #[] 0) rfl;refine⟨.pointer (some ⟨w.heap.size,0,none⟩),_,_,?_,?_,he⟩
  ·unfold z7;simp only[zd,At hT hu,zc,zf,run_newObj]
  ·simp only[Aa];exact⟨w.heap.size,0,by rw[←hr.len];simp,rfl⟩
 case h_2=>
  rename_i b hu;split at hd
  case h_2=>cases hd
  rename_i es cl hb;cases hd;simp only[Aa]at hx;obtain⟨r,n,hp,rfl⟩:=hx;obtain⟨r',n',o,h1,h2,l,h3,h4⟩:=hr.obj _ _ hb;rw[hp]at h1;cases h1;subst h3;have hp':(p++[(w.heap.size,0)])[b]?=some (r,n):=by rw[zy (zx.1 hp).1];exact hp
  have he:=ye (n:=0) hr (o:=.miter (some b) cl [] cl) (x:=.mapIter (some r) cl #[] cl) ⟨r,n,hp,rfl⟩;refine⟨.pointer (some ⟨w.heap.size,0,none⟩),_,_,?_,?_,he⟩
  ·unfold z7;simp only[zd,At hT hu,zc,zf,getObj,zE,h2,run_newObj]
  ·simp only[Aa];exact⟨w.heap.size,0,by rw[←hr.len];simp,rfl⟩
 case h_3=>exact TL hT hr hx hd
def O5(h:H)(it:V)(isStr:Bool):Option (List (V×H)):=
 match it,isStr with
 | .ptr b 0,false=>
  match h.get b with
  |some (.miter none _ _ _)=>some [(.tup [.bool false],h)]
  |some (.miter (some m) since seen last)=>
   match h.get m with
   |some (.map es cl)=>
    bif es.all (fun e=>zA e.2.2 since)&&zz since last then
     match es.filter (fun e=> !seen.contains e.2.2)with
     |[]=>some [(.tup [.bool false],h)]
     |left=>some (left.map fun e=>(.tup [.bool true,e.1,e.2.1],h.put b (.miter (some m) since (seen++[e.2.2]) cl)))
    else none
   |_=>none
  |_=>none
 |_,_=>none
theorem CE.get{es:List (V×V×Nat)}{l:List MapEntry}(he:CE p es l):∀ {i:Nat} {e:MapEntry},l[i]?=some e→∃k v,es[i]?=some (k,v,e.born)∧Aa p k e.key∧Aa p v e.val:=by
 induction he with
 |nil=>intro i e h;simp at h
 |@cons k v b es e0 l h1 h2 h3 _ ih=>
  intro i e h;cases i with
  |zero=>simp at h;subst h;exact⟨k,v,by simp[h3],h1,h2⟩
  |succ i=>simp at h;simpa using ih h
theorem CE.filter{es:List (V×V×Nat)}{l:List MapEntry}(he:CE p es l)(q:Nat→Bool):CE p (es.filter fun e=>q e.2.2) (l.filter fun e=>q e.born):=by
 induction he with
 |nil=>exact .nil
 |@cons k v b es e0 l h1 h2 h3 _ ih=>
  simp only[List.filter_cons,h3];cases q b with
  |false=>exact ih
  |true=>exact .cons h1 h2 h3 ih
theorem CE.all{es:List (V×V×Nat)}{l:List MapEntry}(he:CE p es l)(q:Nat→Bool):(es.all fun e=>q e.2.2)=l.all fun e=>q e.born:=by
 induction he with
 |nil=>rfl
 |@cons k v b es e0 l h1 h2 h3 _ ih=>simp only[yo,h3,ih]
theorem CE.find{es:List (V×V×Nat)}{l:List MapEntry}(he:CE p es l)(q:Nat→Bool){e:V×V×Nat}(hf:es.find? (fun e=>q e.2.2)=some e):∃e',l.find? (fun e=>q e.born)=some e'∧Aa p e.1 e'.key∧Aa p e.2.1 e'.val:=by
 induction he with
 |nil=>simp at hf
 |@cons k v b es e0 l h1 h2 h3 _ ih=>
  simp only[List.find?_cons,h3]at hf ⊢;cases hq:q b with
  |false=>simp only[hq]at hf ⊢;exact ih hf
  |true=>simp only[hq]at hf ⊢;cases hf;exact⟨e0,rfl,h1,h2⟩
theorem V7(n:Nat)(hn:0<n):∃i d,(choose (.mapNext n)).run P w=.ok i { w with drawn:=d }∧i<n:=by
 rw[run_choose];by_cases h1:n≤1
 ·refine⟨0,w.drawn,?_,hn⟩;simp[zV,h1]
 ·refine⟨w.tape w.drawn (.mapNext n) % n,w.drawn+1,?_,Nat.mod_lt _ hn⟩;simp[zV,h1,Question.cut]
theorem TE(hr:R p h w){it:V}{it':Value}{isStr:Bool}{t:TypeId}(hx:Aa p it it'){l:List (V×H)}(hd:O5 h it isStr=some l):
  ∃v h' v' p' w',(v,h')∈l∧(yg it' isStr t).run P w=.ok v' w'∧Aa p' v v'∧Ext p h w p' h' w':=by
 unfold O5 at hd;split at hd
 case h_2=>cases hd
 rename_i b;simp only[Aa]at hx;obtain⟨r,n,hp,rfl⟩:=hx;split at hd
 case h_3=>cases hd
 case h_1=>
  rename_i since seen last hb;cases hd;obtain⟨r',n',x,h1,h2,h3⟩:=hr.obj _ _ hb;rw[hp]at h1;cases h1;simp only[EE]at h3;subst h3;refine⟨_,_,.tuple #[.bool false],p,w,zp.2 rfl,?_,by simp[Aa],zn hr⟩;unfold yg;simp only[zd,getObj,zE,h2,zc];rfl
 case h_2=>
  rename_i m since seen last hb;split at hd
  case h_2=>cases hd
  rename_i es cl hm;cases hc:(es.all (fun e=>zA e.2.2 since)&&zz since last)with
  |false=>simp[hc]at hd
  |true=>
   simp only[hc,cond_true]at hd;simp only[zu,zF]at hc;obtain⟨c1,c2⟩:=hc;obtain⟨r',n',x,h1,h2,h3⟩:=hr.obj _ _ hb;rw[hp]at h1;cases h1;simp only[EE]at h3;obtain⟨rm,nm,hpm,rfl⟩:=h3;obtain⟨r2,n2,x2,k1,k2,l2,k3,k4⟩:=hr.obj _ _ hm;rw[hpm]at k1;cases k1;subst k3;rw[k4.all fun b=>zA b since]at c1;have hold:∀e∈l2.toList,e.born<since:=by
    intro e he;have:=List.all_eq_true.1 c1 e he;simpa using this
   have hno:(!seen.toArray.isEmpty&& !l2.isEmpty&&l2.all (·.born≥last))=false:=by
    cases hl:l2.toList with
    |nil=>
     have:l2= #[]:=zC.1 hl;simp[this]
    |cons e0 rest=>
     have hm0:e0∈l2.toList:=by rw[hl];simp
     have h0:=hold e0 hm0;have:l2.all (·.born≥last)=false:=by
      rw[←Array.all_toList,hl,yo];have:(decide (e0.born≥last))=false:=by simp;omega
      rw[this];rfl
     rw[this];simp
   have hfil:(l2.filter fun e=> !seen.toArray.contains e.born).toList=l2.toList.filter fun e=> !seen.contains e.born:=by
    simp
   have hleft:=k4.filter fun b=> !seen.contains b
   have e1:((l2.filter fun e=> !seen.toArray.contains e.born).filter (·.born<since))=l2.filter fun e=> !seen.toArray.contains e.born:=by
    apply zC.1;rw[Array.toList_filter,List.filter_eq_self];intro e he;rw[hfil]at he;simpa using hold e ((List.mem_filter.1 he).1)
   have e2:((l2.filter fun e=> !seen.toArray.contains e.born).filter (·.born≥since))= #[]:=by
    apply zC.1;rw[Array.toList_filter];simp only[List.filter_eq_nil_iff];intro e he;rw[hfil]at he;have:=hold e ((List.mem_filter.1 he).1);simp;omega
   unfold yg;simp only[zd,getObj,zE,h2,zc,k2];rw[if_neg (by rw[hno];simp)];simp only[e1,e2,Array.append_empty];generalize hL:(l2.filter fun e=> !seen.toArray.contains e.born)=L at*;rw[←hfil]at hleft;have hlen:=hleft.length;split at hd
   case h_1=>
    rename_i hnil;cases hd;have hL0:L= #[]:=by
     apply zC.1;apply yd.1;rw[←hlen,hnil];rfl
    subst hL0;refine⟨_,_,.tuple #[.bool false],p,w,zp.2 rfl,?_,by simp[Aa],zn hr⟩;simp[zd,zV]
   case h_2=>
    rename_i left hne;cases hd;have hpos:0<L.size:=by
     have:L.toList.length=L.size:=by simp
     rw[←this, ←hlen];cases hq:es.filter (fun e=> !seen.contains e.2.2)with
     |nil=>exact absurd hq hne
     |cons _ _=>simp
    have hemp:L.isEmpty=false:=by simp[Array.isEmpty];intro h0;rw[h0]at hpos;simp at hpos
    simp only[hemp,zw,if_false,Array.empty_append,Array.size_map];obtain⟨i,d,g1,g2⟩:=V7 (P:=P) (w:=w) L.size hpos;simp only[zd,g1,zc];have hi:L[i]?=some L[i]:=by simp[g2]
    obtain⟨k,v,q1,q2,q3⟩:=hleft.get (i:=i) (e:=L[i]) (by simp[g2]);simp only[Array.getElem?_map,hi,yi,zd];have hdr:=yj hr d;have hput:=yn hdr.rel hb hp (o':=.miter (some m) since (seen++[L[i].born]) cl) (x':=.mapIter (some rm) since (seen.toArray.push L[i].born) cl) ⟨rm,nm,hpm,by simp⟩
     (w':={ { w with drawn:=d }with heap:=w.heap.setIfInBounds r (.mapIter (some rm) since (seen.toArray.push L[i].born) cl) }) rfl rfl rfl rfl
    refine⟨.tup [.bool true,k,v],_,.tuple #[.bool true,L[i].key,L[i].val],p,_,List.mem_map.2 ⟨(k,v,L[i].born),List.mem_of_getElem? q1,rfl⟩,?_,?_,hdr.trans hput⟩
    ·simp[setObj,zE,h2]
    ·simp only[Aa];exact⟨_,rfl,by simp[Aa,q2,q3]⟩
def OE(h:H)(it:V):Option V:=
 match it with
 | .ptr b 0=>
  match h.get b with
  |some (.miter (some m) _ seen last)=>
   match h.get m with
   |some (.map es cl)=>
    bif zl cl last then
     match seen.getLast? with
     |some s=>match es.find? (fun e=>zl e.2.2 s)with
      |some e=>some (.tup [e.1,e.2.1])
      |none=>none
     |none=>none
    else none
   |_=>none
  |_=>none
 |_=>none
theorem Tn(hr:R p h w){it:V}{it':Value}(hx:Aa p it it'){v:V}(hd:OE h it=some v):∃v',(Instr.entry it').run P w=.ok v' w∧Aa p v v':=by
 unfold OE at hd;split at hd
 case h_2=>cases hd
 rename_i b;simp only[Aa]at hx;obtain⟨r,n,hp,rfl⟩:=hx;split at hd
 case h_2=>cases hd
 rename_i m since seen last hb;split at hd
 case h_2=>cases hd
 rename_i es cl hm;rw[A1]at hd;by_cases hcl:cl=last
 ·simp only[hcl,decide_true,cond_true]at hd;split at hd
  case h_2=>cases hd
  rename_i s hs;split at hd
  case h_2=>cases hd
  rename_i e hf;cases hd;obtain⟨r',n',x,h1,h2,h3⟩:=hr.obj _ _ hb;rw[hp]at h1;cases h1;simp only[EE]at h3;obtain⟨rm,nm,hpm,rfl⟩:=h3;obtain⟨r2,n2,x2,k1,k2,l2,k3,k4⟩:=hr.obj _ _ hm;rw[hpm]at k1;cases k1;subst k3;obtain⟨e',q1,q2,q3⟩:=k4.find (fun b=>zl b s) hf;refine⟨.tuple #[e'.key,e'.val],?_,by simp only[Aa];exact⟨_,rfl,by simp[q2,q3]⟩⟩;unfold Instr.entry;have hback:seen.toArray.back?=some s:=by rw[Array.back?_eq_getElem?];simp[List.getLast?_eq_getElem?]at hs ⊢;exact hs
  have hfind:l2.find? (fun e=>e.born==s)=some e':=by
   rw[←Array.find?_toList, ←q1];congr 1;funext e
   rw[A1];rw[Bool.eq_iff_iff];simp
  simp only[zd,getObj,zE,h2,zc,k2,hback,hcl,bne_self_eq_false,zw,if_false,hfind,zf]
 ·simp[hcl]at hd
theorem CE.erase{es:List (V×V×Nat)}{l:List MapEntry}(he:CE p es l)(i:Nat):CE p (es.eraseIdx i) (l.eraseIdx i):=by
 induction he generalizing i with
 |nil=>simp;exact .nil
 |@cons k v b es e0 l h1 h2 h3 h4 ih=>
  cases i with
  |zero=>simpa using h4
  |succ i=>simp;exact .cons h1 h2 h3 (ih i)
def II(T:BA)(h:H)(ts:Array TypeId)(args:List V):Option (V×H):=
 match ts[0]?,args with
 |some mt,[.map b,k]=>
  match T.und mt with
  |some (.map kt _)=>
   match T.und kt,h.get b with
   |some d,some (.map es cl)=>
    bif GF T kt d k then
     match HS T kt k es with
     |some (some (i,_))=>some (.tup [],h.put b (.map (es.eraseIdx i) cl))
     |some none=>some (.tup [],h.put b (.map es cl))
     |none=>none
    else none
   |_,_=>none
  |_=>none
 |_,_=>none
theorem QW(hT:T.Ok P)(hr:R p h w){ts:Array TypeId}{t:TypeId}{args:List V}{args':Array Value}(ha:Al p args args'.toList){v:V}{h':H}(hd:II T h ts args=some (v,h')):
  ∃v' p' w',(Builtin.delete_ ts t args').run P w=.ok v' w'∧Aa p' v v'∧Ext p h w p' h' w':=by
 unfold II at hd;split at hd
 case h_2=>cases hd
 rename_i mt b k ht;obtain⟨m',k',hargs,hm,hk⟩:=ha.two;have ha0:args'[0]?=some m':=by rw[←zk,hargs];rfl
 have ha1:args'[1]?=some k':=by rw[←zk,hargs];rfl
 split at hd
 case h_2=>cases hd
 rename_i kt e hu;split at hd
 case h_2=>cases hd
 rename_i d es cl hkd hb;cases hc:GF T kt d k with
 |false=>simp[hc]at hd
 |true=>
  simp only[hc,cond_true]at hd;rcases JD (es:=es) hr hm (by simp only[entries,hb])with⟨rfl,_⟩|⟨r,l,cl',b',n,e1,rfl,hp,hb',hw,he⟩
  ·simp[Aa]at hm
  ·cases e1;rw[hb]at hb';cases hb';unfold Builtin.delete_;simp only[ht,ha0,ha1,zd,At hT hu,zc,getObj,zE,hw,Hk hT hkd hk hc];split at hd
   case h_3=>cases hd
   case h_1=>
    rename_i j v0 hf;cases hd;obtain⟨r',k1,v1,rfl,k3,en,k4,k5⟩:=run_findKey (P:=P) (w:=w) hT hk hkd he hf;refine⟨.tuple #[],p,{ w with heap:=w.heap.setIfInBounds r (.map (l.eraseIdxIfInBounds j) cl) },?_,by simp[Aa],yn hr hb hp (o':=.map (es.eraseIdx j) cl) ⟨_,rfl,?_⟩ rfl rfl rfl rfl⟩
    ·simp only[k1,zc];simp[setObj,zE,hw]
    ·have:=he.erase j;simpa using this
   case h_2=>
    rename_i hf;cases hd;obtain⟨r',k1,k2⟩:=run_findKey (P:=P) (w:=w) hT hk hkd he hf;simp only at k2;subst k2;refine⟨.tuple #[],p,{ w with heap:=w.heap.setIfInBounds r (.map l cl) },?_,by simp[Aa],yn hr hb hp (o':=.map es cl) ⟨_,rfl,he⟩ rfl rfl rfl rfl⟩;simp only[k1,zc];simp[setObj,zE,hw]
def Ec(T:BA)(h:H)(ts:Array TypeId)(args:List V):Option (V×H):=
 match ts[0]?,args with
 |some t,[x]=>
  match T.und t,x with
  |some (.map _ _),.nilm=>some (.tup [],h)
  |some (.map _ _),.map b=>match h.get b with
   |some (.map _ cl)=>some (.tup [],h.put b (.map [] cl))
   |_=>none
  |some (.slice _),.nils=>some (.tup [],h)
  |some (.slice _),.esl=>some (.tup [],h)
  |some (.slice _),.es0=>some (.tup [],h)
  |some (.slice e),.sl b off len _ _=>
   bif zl len 0 then some (.tup [],h)
   else match T.inf e with
    |some i=>bif zA 0 i.zero.length then
      (wr h b off (DH i.zero (len*i.zero.length))).map fun h'=>(.tup [],h')
     else none
    |none=>none
  |_,_=>none
 |_,_=>none
theorem Um(hT:T.Ok P)(hr:R p h w){ts:Array TypeId}{t:TypeId}{args:List V}{args':Array Value}(ha:Al p args args'.toList){v:V}{h':H}(hd:Ec T h ts args=some (v,h')):
  ∃v' p' w',(Builtin.clear_ ts t args').run P w=.ok v' w'∧Aa p' v v'∧Ext p h w p' h' w':=by
 unfold Ec at hd;split at hd
 case h_2=>cases hd
 rename_i t0 x ht;obtain⟨x',hargs,hx⟩:=ha.one;have ha0:args'[0]?=some x':=by rw[←zk,hargs];rfl
 unfold Builtin.clear_;simp only[ht,ha0];split at hd
 case h_7=>cases hd
 case h_1=>
  rename_i hu;cases hd;simp only[Aa]at hx;subst hx;exact⟨.tuple #[],p,w,by simp[At hT hu],by simp[Aa],zn hr⟩
 case h_2=>
  rename_i b hu;split at hd
  case h_2=>cases hd
  rename_i es cl hb;cases hd;simp only[Aa]at hx;obtain⟨r,n,hp,rfl⟩:=hx;obtain⟨r',n',o,h1,h2,l,h3,h4⟩:=hr.obj _ _ hb;rw[hp]at h1;cases h1;subst h3;refine⟨.tuple #[],p,{ w with heap:=w.heap.setIfInBounds r (.map #[] cl) },?_,by simp[Aa],yn hr hb hp (o':=.map [] cl) ⟨_,rfl,.nil⟩ rfl rfl rfl rfl⟩;simp[zd,At hT hu,getObj,setObj,zE,h2]
 case h_3=>
  rename_i e hu;cases hd;simp only[Aa]at hx;subst hx;exact⟨.tuple #[],p,w,by simp[At hT hu],by simp[Aa],zn hr⟩
 case h_4=>
  rename_i e hu;cases hd;simp only[Aa]at hx;obtain⟨_,_,rfl⟩:=hx;exact⟨.tuple #[],p,w,by simp[At hT hu],by simp[Aa],zn hr⟩
 case h_5=>
  rename_i e hu;cases hd;simp only[Aa]at hx;obtain⟨_,rfl⟩:=hx;exact⟨.tuple #[],p,w,by simp[At hT hu],by simp[Aa],zn hr⟩
 case h_6=>
  rename_i e b off len cap o hu;simp only[Aa]at hx;obtain⟨r,n,c,hp,rfl,_⟩:=hx;rw[A1]at hd;by_cases h0:len=0
  ·simp only[h0,decide_true,cond_true,ze,zj]at hd;obtain⟨rfl,rfl⟩:=hd;subst h0;exact⟨.tuple #[],p,w,by simp[At hT hu],by simp[Aa],zn hr⟩
  ·simp only[h0,decide_false,cond_false]at hd;split at hd
   case h_2=>cases hd
   rename_i i hi;cases hz:zA 0 i.zero.length with
   |false=>simp[hz]at hd
   |true=>
    simp only[hz,cond_true,zg]at hd;obtain⟨h1,hw,he⟩:=hd;cases he;obtain⟨z,hzz,hzr⟩:=Dh hT hi;have hzl:=(hzr p).length;have hrel:=Hr (hzr p) (by simpa using hz) (len*i.zero.length);obtain⟨r',m,w',g1,g2,g3⟩:=OF (P:=P) hr hrel hw;rw[hp]at g1;cases g1;refine⟨.tuple #[],p,w',?_,by simp[Aa],g3⟩;have:zh z.cells len=(zY (len*i.zero.length)).map (fun i=>z.cells[i % z.cells.size]!):=by
     unfold zh;rw[hzl];simp
    obtain⟨len',rfl⟩:∃k,len=k+1:=⟨len-1,by omega⟩;simp only[zd,At hT hu,zc,hzz,this,g2,zf]
def aG(T:BA)(ts:Array TypeId)(args:List V):Option V:=
 match ts[0]?,args with
 |some t,[x]=>
  match T.und t,x with
  |some (.slice _),.sl _ _ _ cap 0=>some (i64 cap)
  |some (.slice _),.nils=>some (i64 0)
  |_,_=>none
 |_,_=>none
theorem YB(hT:T.Ok P){ts:Array TypeId}{t:TypeId}{args:List V}{args':Array Value}(ha:Al p args args'.toList){v:V}(hd:aG T ts args=some v):
  ∃v',(Builtin.cap_ ts t args').run P w=.ok v' w∧Aa p v v':=by
 unfold aG at hd;split at hd
 case h_2=>cases hd
 rename_i t0 x ht;obtain⟨x',hargs,hx⟩:=ha.one;have ha0:args'[0]?=some x':=by rw[←zk,hargs];rfl
 unfold Builtin.cap_;simp only[ht,ha0];split at hd
 case h_3=>cases hd
 case h_1=>
  rename_i e b off len cap hu;cases hd;simp only[Aa]at hx;obtain⟨r,n,c,hp,rfl,h1,h2,h3,h4⟩:=hx;have:=h3 trivial;subst this;exact⟨_,by simp[zd,At hT hu];rfl,by simp[Aa,i64,goInt]⟩
 case h_2=>
  rename_i e hu;cases hd;simp only[Aa]at hx;subst hx;exact⟨_,by simp[zd,At hT hu];rfl,by simp[Aa,i64,goInt]⟩
end
end
end Go.Det
end
section
namespace Go.Det
noncomputable section
section
variable {T:BA}{P:Program}{p:Pl}{h:H}{w:World}
def NU(T:BA)(h:H)(src dst:TypeId)(x:V):Option (V×H):=
 match T.und src,T.und dst,x with
 |some .string,some (.slice e),.str s=>
  match T.und e with
  |some (.int .u8)=>some (.sl h.nx 0 s.length s.length 1,h.push (.cells (s.map fun b=>.int .u8 (.ofNat b.toNat)) e (0,0)))
  |_=>none
 |_,_,_=>none
theorem TB(hT:T.Ok P)(hr:R p h w){src dst:TypeId}{x:V}{x':Value}(hx:Aa p x x'){v:V}{h':H}(hd:NU T h src dst x=some (v,h')):
  ∃v' p' w',(convert src dst x').run P w=.ok v' w'∧Aa p' v v'∧Ext p h w p' h' w':=by
 unfold NU at hd;split at hd
 case h_2=>cases hd
 rename_i e s h1 h2;split at hd
 case h_2=>cases hd
 rename_i h3;cases hd;simp only[Aa]at hx;subst hx;have hrun:=run_bytes_of_string (P:=P) w src dst e (bytesOf s) (hT.und _ _ h1) (hT.und _ _ h2) (hT.und _ _ h3);generalize hc:grownCap w (bytesOf s).size 0 e=c at hrun;have hle:s.length≤c:=by
  rw[←hc,Bh];unfold grownCap;simp[Question.cut]
 have hsz:(bytesRow (bytesOf s) c).size=c:=by
  have:(bytesRow (bytesOf s) c).size=(bytesOf s).size+(c-(bytesOf s).size):=by
   unfold bytesRow;rw[zZ,Array.size_map,Array.size_replicate];rfl
  rw[this,Bh];omega
 have hd1:=yj hr (w.drawn+1);have he:=ye (n:=c) hd1.rel (o:=.cells (s.map fun b=>.int .u8 (.ofNat b.toNat)) e (0,0)) (x:=.cells (bytesRow (bytesOf s) c) e ((bytesRow (bytesOf s) c).size,(bytesRow (bytesOf s) c).size+1)) (by
  refine⟨_,_,rfl,hsz,by simpa using hle,?_,fun i hi h4 h5=>by simp only[hsz]at h4;omega⟩;refine Al.dF (Al.mk ?_ ?_)
  ·have:=hsz;simp at this ⊢;omega
  ·intro i d v hd hv;simp only[List.length_map]at hv;simp only[zM,zg]at hd;obtain⟨b,hb,rfl⟩:=hd;have hi:=(zx.1 hb).1;rw[zB hi]at hv;simp only[bytesRow,Array.toList_append,Array.toList_map,bytesOf]at hv;rw[zy (by simpa using hi)]at hv;simp only[zM,hb,yi,ze]at hv;subst hv;simp[Aa])
 refine⟨_,_,_,hrun,?_,hd1.trans he⟩;simp only[Aa];refine⟨w.heap.size,c,c,by rw[←hr.len];simp,by rw[Bh],zD _,hle,fun h=>(by cases h),fun _=>(by omega)⟩
end
end
end Go.Det
end
section
namespace Go.Det
noncomputable section
mutual
def cv:Value→Option V
 | .bool b=>some (.bool b)
 | .int k n=>some (.int k n)
 | .string s=>some (.str s.data.toList)
 | .pointer none=>some .nilp
 | .slice none 0 0=>some .nils
 | .map none=>some .nilm
 | .nilFunc=>some .nilf
 | .nilIface=>some .nili
 | .func f ⟨[]⟩ ⟨[]⟩=>some (.fn f [] [])
 | .agg ⟨cs⟩=>(Ze cs).map .agg
 | .tuple ⟨cs⟩=>(Ze cs).map .tup
 |_=>none
def Ze:List Value→Option (List V)
 |[]=>some []
 |v::vs=>match cv v,Ze vs with
  |some x,some xs=>some (x::xs)
  |_,_=>none
end
mutual
theorem RP(p:Pl):∀ {v:Value} {x:V},cv v=some x→Aa p x v
 | .bool b,x,h=>by simp[cv]at h;subst h;simp[Aa]
 | .int k n,x,h=>by simp[cv]at h;subst h;simp[Aa]
 | .string s,x,h=>by simp[cv]at h;subst h;simp[Aa,bytesOf]
 | .pointer none,x,h=>by simp[cv]at h;subst h;simp[Aa]
 | .pointer (some a),x,h=>by simp[cv]at h
 | .slice none 0 0,x,h=>by simp[cv]at h;subst h;simp[Aa]
 | .slice none 0 (_+1),x,h=>by simp[cv]at h
 | .slice none (_+1) _,x,h=>by simp[cv]at h
 | .slice (some a) _ _,x,h=>by simp[cv]at h
 | .map none,x,h=>by simp[cv]at h;subst h;simp[Aa]
 | .map (some a),x,h=>by simp[cv]at h
 | .nilFunc,x,h=>by simp[cv]at h;subst h;simp[Aa]
 | .nilIface,x,h=>by simp[cv]at h;subst h;simp[Aa]
 | .func f ⟨[]⟩ ⟨[]⟩,x,h=>by simp[cv]at h;subst h;simp[Aa]
 | .func f ⟨_::_⟩ _,x,h=>by simp[cv]at h
 | .func f ⟨[]⟩ ⟨_::_⟩,x,h=>by simp[cv]at h
 | .agg ⟨cs⟩,x,h=>by
  simp only[cv,zg]at h;obtain⟨xs,h1,rfl⟩:=h;simp only[Aa];exact⟨_,rfl,OL p h1⟩
 | .tuple ⟨cs⟩,x,h=>by
  simp only[cv,zg]at h;obtain⟨xs,h1,rfl⟩:=h;simp only[Aa];exact⟨_,rfl,OL p h1⟩
 | .float _ _,x,h=>by simp[cv]at h
 | .complex _ _ _,x,h=>by simp[cv]at h
 | .chan _,x,h=>by simp[cv]at h
 | .iface _ _,x,h=>by simp[cv]at h
theorem OL(p:Pl):∀ {vs:List Value} {xs:List V},Ze vs=some xs→Al p xs vs
 |[],xs,h=>by simp[Ze]at h;subst h;simp
 |v::vs,xs,h=>by
  unfold Ze at h;split at h
  case h_2=>cases h
  rename_i x xs' h1 h2;cases h;exact(AX ..).2 ⟨RP p h1,OL p h2⟩
end
structure Fn where
 ntmps:Nat
 results:Array ResultVar
 body:Code
 cert:Bool
structure Ctx where
 T:BA
 ng:Nat
 fn:FuncId→Option Fn
 prim:FuncId→Option (List V→H→Option (V×H))
 spec:FuncId→Option (List V→H→Option (V×H))
 mg:Bool
def Gl(_:Ctx)(p:Pl):Prop:=Gp p
theorem Gl.ext{C:Ctx}{p p':Pl}{h h':H}{w w':World}(hg:Gl C p)(e:Ext p h w p' h' w'):Gl C p':=by
 obtain⟨q,rfl⟩:=e.pre;exact Gp.app hg q
def ev(_:Ctx)(fr:Fr):Operand→Option V
 | .tmp t=>some (fr.get t)
 | .const v=>cv v
 | .global g=>bif cH g EM then some (.ptr g 0)else none
 | .func f=>some (.fn (.func f) [] [])
theorem AP{C:Ctx}{p:Pl}{fr:Fr}{a:Act}(hg:Gl C p)(hf:BN p fr a){x:Operand}{v:V}(hd:ev C fr x=some v):Aa p v (a.eval x):=by
 cases x with
 |tmp t=>simp only[ev,ze]at hd;subst hd;exact hf.2 t
 |const v=>exact RP p hd
 |global g=>
  simp only[ev]at hd;cases hb:cH g EM with
  |true=>
   rw[hb]at hd;simp only[cond_true,ze]at hd;subst hd;obtain⟨o,ho⟩:=Sr hb;simp only[Aa,Act.eval];exact⟨g,_,hg _ ho,rfl⟩
  |false=>rw[hb]at hd;cases hd
 |func f=>simp only[ev,ze]at hd;subst hd;simp[Aa,Act.eval]
def Nt(C:Ctx)(fr:Fr):List Operand→Option (List V)
 |[]=>some []
 |x::xs=>match ev C fr x,Nt C fr xs with
  |some v,some vs=>some (v::vs)
  |_,_=>none
theorem G1{C:Ctx}{p:Pl}{fr:Fr}{a:Act}(hg:Gl C p)(hf:BN p fr a):∀ {xs:List Operand} {vs:List V},Nt C fr xs=some vs→Al p vs (xs.map a.eval)
 |[],vs,h=>by simp[Nt]at h;subst h;simp
 |x::xs,vs,h=>by
  unfold Nt at h;split at h
  case h_2=>cases h
  rename_i v vs' h1 h2;cases h;exact(AX ..).2 ⟨AP hg hf h1,G1 hg hf h2⟩
def QI(C:Ctx)(fr:Fr):Option Operand→Option (Option V)
 |none=>some none
 |some x=>(ev C fr x).map some
theorem Kj{C:Ctx}{p:Pl}{fr:Fr}{a:Act}(hg:Gl C p)(hf:BN p fr a){x:Option Operand}{v:Option V}(hd:QI C fr x=some v):D5 p v (x.map a.eval):=by
 cases x with
 |none=>simp[QI]at hd;subst hd;rfl
 |some x=>
  simp only[QI,zg]at hd;obtain⟨u,h1,rfl⟩:=hd;exact⟨_,rfl,AP hg hf h1⟩
def Rd(C:Ctx)(fr:Fr):List (Nat×Operand)→Option (List (Nat×V))
 |[]=>some []
 |(i,x)::xs=>match ev C fr x,Rd C fr xs with
  |some v,some vs=>some ((i,v)::vs)
  |_,_=>none
theorem Kq{C:Ctx}{p:Pl}{fr:Fr}{a:Act}(hg:Gl C p)(hf:BN p fr a):∀ {xs:List (Nat×Operand)} {vs:List (Nat×V)},Rd C fr xs=some vs→P4 p vs (xs.map fun(i,x)=>(i,a.eval x))
 |[],vs,h=>by simp[Rd]at h;subst h;exact .nil
 |(i,x)::xs,vs,h=>by
  unfold Rd at h;split at h
  case h_2=>cases h
  rename_i v vs' h1 h2;cases h;exact .cons (AP hg hf h1) (Kq hg hf h2)
inductive OR where
 |val (v:V) (h:H)
 |skip (h:H)
 |enter (f:FuncId) (args:List V)
 |round (b:Nat) (l:LS) (fr:Fr)
 |alts (l:List (V×H))
def Fr.Uh(f:Fr)(t:Nat)(v:V):Fr:=bif zA t f.n then⟨f.n,f.m.set t (some v)⟩else f
def Ew:List Tmp→List V→Fr→Fr
 |t::ts,v::vs,f=>Ew ts vs (f.Uh t v)
 |_,_,f=>f
theorem Dy.Uh{p:Pl}{f:Fr}{tmps:Array Value}(hf:Dy p f tmps){v:V}{v':Value}(hv:Aa p v v')(t:Nat):Dy p (f.Uh t v) (tmps.setIfInBounds t v'):=by
 unfold Fr.Uh;simp only[Fk];by_cases hlt:t<f.n
 ·simp only[hlt,decide_true,cond_true];refine⟨by simp[hf.1],fun s=>?_⟩;have hlt':t<tmps.size:=hf.1▸hlt;by_cases e:s=t
  ·subst e;simp[Fr.get,hlt',hv]
  ·have:=hf.2 s;simp only[Fr.get,PM.Ci,if_neg e]at this ⊢;rw[zm,zO (fun x=>e x.symm), ←zm];exact this
 ·simp only[hlt,decide_false,cond_false];have:tmps.setIfInBounds t v'=tmps:=by
   have:tmps.size≤t:=by have:=hf.1;omega
   simp[Array.setIfInBounds,Nat.not_lt.2 this]
  rw[this];exact hf
theorem Dy.Ew{p:Pl}:∀ {ts:List Tmp} {vs:List V} {vs':List Value},Al p vs vs'→∀ {f:Fr} {tmps:Array Value},Dy p f tmps→Dy p (Ew ts vs f) ((ts.zip vs').foldl (fun tmps (t,a)=>tmps.setIfInBounds t a) tmps)
 |[],vs,vs',_,f,tmps,hf=>by simpa [Det.Ew]using hf
 |t::ts,[],vs',hv,f,tmps,hf=>by simp at hv;subst hv;simpa [Det.Ew]using hf
 |t::ts,v::vs,vs',hv,f,tmps,hf=>by
  simp only[Al]at hv;obtain⟨u,us,rfl,h1,h2⟩:=hv;simp only[Det.Ew,List.zip_cons_cons,List.foldl_cons];exact Dy.Ew h2 (hf.Uh h1 t)
def A6(h:H):Option V→Option OR
 |some v=>some (.val v h)
 |none=>none
def DS:Option (V×H)→Option OR
 |some (v,h)=>some (.val v h)
 |none=>none
def VR:Option H→Option OR
 |some h=>some (.skip h)
 |none=>none
def C1(C:Ctx)(h:H)(b:Builtin)(ts:Array TypeId)(args:List V):Option OR:=
 match b with
 | .len=>A6 h (D8 C.T h ts args)
 | .append=>DS (Eu C.T h ts args)
 | .copy=>DS (Wd C.T h ts args)
 | .max=>A6 h (Ey Vr args)
 | .min=>A6 h (Ey UW args)
 | .cap=>A6 h (aG C.T ts args)
 | .delete=>DS (II C.T h ts args)
 | .clear=>DS (Ec C.T h ts args)
 |_=>none
def IZ(C:Ctx)(h:H)(f:V)(args:List V):Option OR:=
 match f with
 | .fn (.func g) first captured=>
  match C.prim g with
  |some q=>DS (q (first++args++captured) h)
  |none=>match C.fn g with
   |some _=>some (.enter g (first++args++captured))
   |none=>none
 | .yld b=>match h.get b with
  |some (.loop l)=>bif zl args.length l.ps.size then some (.round b l (Ew l.ps.toList args l.fr))else none
  |_=>none
 |_=>none
def Ks(C:Ctx)(h:H)(x:V)(name:String)(args:List V):Option OR:=
 match x with
 | .iface t v=>match C.T.mth t name with
  |some g=>IZ C h (.fn (.func g) [] []) (v::args)
  |none=>none
 |_=>none
def SW:Operand→Bool
 | .const _=>true
 |_=>false
def XB(T:BA)(op:BinOp)(t:TypeId)(x y:Operand)(v u:V):Option V:=
 match op,v,u,T.und t with
 | .eql,.nili,.nili,some (.interface _)=>bif SW x||SW y then some (.bool true)else none
 | .neq,.nili,.nili,some (.interface _)=>bif SW x||SW y then some (.bool false)else none
 |_,_,_,_=>none
def Ka(T:BA)(op:BinOp)(t:TypeId)(x y:Operand)(v u:V):Option V:=
 match XB T op t x y v u with
 |some r=>some r
 |none=>Kg T op t v u
def Fb(C:Ctx)(fr:Fr)(h:H)(o:Oper):Option OR:=
 let ρ:=ev C fr
 match o.op with
 | .move x| .assign x=>A6 h (ρ x)
 | .pick c a b=>match ρ c with
  |some (.bool t)=>A6 h (if t then ρ a else ρ b)
  |_=>none
 | .alloc t=>DS (ED C.T h t)
 | .box t x=>DS ((ρ x).map fun v=>Ug h t v)
 | .build t parts=>match Rd C fr parts.toList with
  |some ps=>A6 h (HW C.T t ps)
  |none=>none
 | .buildSlice t n parts=>match Rd C fr parts.toList with
  |some ps=>DS (Du C.T h t n ps)
  |none=>none
 | .load t x=>match ρ x with
  |some v=>A6 h (DE C.T h t v)
  |none=>none
 | .store t x y=>match ρ x,ρ y with
  |some v,some u=>VR (GQ C.T h t v u)
  |_,_=>none
 | .nilCheck x=>match ρ x with
  |some (.ptr b i)=>A6 h (some (.ptr b i))
  |some (.iface t v)=>A6 h (some (.iface t v))
  |_=>none
 | .binOp op t x y _=>match ρ x,ρ y with
  |some v,some u=>A6 h (Ka C.T op t x y v u)
  |_,_=>none
 | .unOp op _ x=>match ρ x with
  |some v=>A6 h (dA op v)
  |none=>none
 | .convert s d x=>match ρ x with
  |some v=>A6 h (Fo C.T h s d v)
  |none=>none
 | .makeInterface t x=>match ρ x,C.T.und t with
  |some v,some d=>match d with
   | .interface _=>none
   |_=>A6 h (some (.iface t v))
  |_,_=>none
 | .makeFunc f first captured=>match Nt C fr first.toList,Nt C fr captured.toList with
  |some a,some b=>A6 h (some (.fn f a b))
  |_,_=>none
 | .makeMap _ r=>match QI C fr r with
  |some v=>DS (GN h v)
  |none=>none
 | .makeSlice t l c=>match ρ l,ρ c with
  |some v,some u=>DS (Mg C.T h t v u)
  |_,_=>none
 | .slice t x lo hi mx=>match ρ x,QI C fr lo,QI C fr hi,QI C fr mx with
  |some v,some l,some r,some m=>A6 h (CB C.T t v l r m)
  |_,_,_,_=>none
 | .fieldAddr t x f=>match ρ x with
  |some v=>A6 h (H9 C.T t v f)
  |none=>none
 | .field t x f=>match ρ x with
  |some v=>A6 h (H4 C.T t v f)
  |none=>none
 | .indexAddr t x i=>match ρ x,ρ i with
  |some v,some u=>A6 h (Cg C.T t v u)
  |_,_=>none
 | .index t x i=>match ρ x,ρ i with
  |some v,some u=>A6 h (FO C.T t v u)
  |_,_=>none
 | .lookup t x i ok=>match ρ x,ρ i with
  |some v,some u=>A6 h (Ds C.T h t v u ok)
  |_,_=>none
 | .mapUpdate t m k x| .insert t m k x=>match ρ m,ρ k,ρ x with
  |some a,some b,some c=>VR (FM C.T h t a b c)
  |_,_,_=>none
 | .range t x=>match ρ x with
  |some v=>DS (FX C.T h t v)
  |none=>none
 | .next x isStr=>match ρ x with
  |some v=>bif isStr then DS (J1 h v isStr)else(O5 h v isStr).map .alts
  |none=>none
 | .entry x=>match ρ x with
  |some v=>A6 h (OE h v)
  |none=>none
 | .extract x i=>match ρ x with
  |some v=>A6 h (E8 v i)
  |none=>none
 | .call c=>match c.callee,Nt C fr c.args.toList with
  | .builtin b,some args=>C1 C h b c.argTypes args
  | .value f,some args=>match ρ f with
   |some g=>IZ C h g args
   |none=>none
  | .invoke x nm,some args=>match ρ x with
   |some v=>Ks C h v nm args
   |none=>none
  |_,_=>none
 |_=>none
abbrev El:=Ctx→Fr→H→Option OR
def bD(a0:Operand):El:=fun C fr h=>A6 h (ev C fr a0)
def UO(a0:Operand):El:=fun C fr h=>A6 h (ev C fr a0)
def aM(a0:Operand)(a1:Operand)(a2:Operand):El:=fun C fr h=>match ev C fr a0 with|some (.bool t)=>A6 h (if t then ev C fr a1 else ev C fr a2)|_=>none
def Xm(a0:TypeId):El:=fun C _fr h=>DS (ED C.T h a0)
def dQ(a0:TypeId)(a1:Operand):El:=fun C fr h=>DS ((ev C fr a1).map fun v=>Ug h a0 v)
def Xz(a0:TypeId)(a1:Array (Nat×Operand)):El:=fun C fr h=>match Rd C fr a1.toList with|some ps=>A6 h (HW C.T a0 ps)|none=>none
def NQ(a0:TypeId)(a1:Nat)(a2:Array (Nat×Operand)):El:=fun C fr h=>match Rd C fr a2.toList with|some ps=>DS (Du C.T h a0 a1 ps)|none=>none
def Vc(a0:TypeId)(a1:Operand)(a2:Operand)(a3:Operand):El:=fun C fr h=>match ev C fr a1,ev C fr a2,ev C fr a3 with|some a,some b,some c=>VR (FM C.T h a0 a b c)|_,_,_=>none
def aW(a0:TypeId)(a1:Operand):El:=fun C fr h=>match ev C fr a1 with|some v=>A6 h (DE C.T h a0 v)|none=>none
def Yw(a0:TypeId)(a1:Operand)(a2:Operand):El:=fun C fr h=>match ev C fr a1,ev C fr a2 with|some v,some u=>VR (GQ C.T h a0 v u)|_,_=>none
def Xt(_a0:Nat):El:=fun _ _ _=>none
def X3(_a0:Nat):El:=fun _ _ _=>none
def RB(a0:Operand):El:=fun C fr h=>match ev C fr a0 with|some (.ptr b i)=>A6 h (some (.ptr b i))|some (.iface t v)=>A6 h (some (.iface t v))|_=>none
def YP(a0:BinOp)(a1:TypeId)(a2:Operand)(a3:Operand)(_a4:TypeId):El:=fun C fr h=>match ev C fr a2,ev C fr a3 with|some v,some u=>A6 h (Ka C.T a0 a1 a2 a3 v u)|_,_=>none
def ZI(a0:UnOp)(_a1:TypeId)(a2:Operand):El:=fun C fr h=>match ev C fr a2 with|some v=>A6 h (dA a0 v)|none=>none
def T1(a0:TypeId)(a1:TypeId)(a2:Operand):El:=fun C fr h=>match ev C fr a2 with|some v=>A6 h (Fo C.T h a0 a1 v)|none=>none
def F7(_a0:TypeId)(_a1:Operand):El:=fun _ _ _=>none
def Ki(a0:TypeId)(a1:Operand):El:=fun C fr h=>match ev C fr a1,C.T.und a0 with|some v,some d=>(match d with| .interface _=>none|_=>A6 h (some (.iface a0 v)))|_,_=>none
def QK(a0:Go.Fn)(a1:Array Operand)(a2:Array Operand):El:=fun C fr h=>match Nt C fr a1.toList,Nt C fr a2.toList with|some a,some b=>A6 h (some (.fn a0 a b))|_,_=>none
def Ux(_a0:TypeId)(a1:Option Operand):El:=fun C fr h=>match QI C fr a1 with|some v=>DS (GN h v)|none=>none
def QQ(_a0:TypeId)(_a1:Operand):El:=fun _ _ _=>none
def PF(a0:TypeId)(a1:Operand)(a2:Operand):El:=fun C fr h=>match ev C fr a1,ev C fr a2 with|some v,some u=>DS (Mg C.T h a0 v u)|_,_=>none
def XE(a0:TypeId)(a1:Operand)(a2:Option Operand)(a3:Option Operand)(a4:Option Operand):El:=fun C fr h=>match ev C fr a1,QI C fr a2,QI C fr a3,QI C fr a4 with|some v,some l,some r,some m=>A6 h (CB C.T a0 v l r m)|_,_,_,_=>none
def Po(a0:TypeId)(a1:Operand)(a2:Nat):El:=fun C fr h=>match ev C fr a1 with|some v=>A6 h (H9 C.T a0 v a2)|none=>none
def Yq(a0:TypeId)(a1:Operand)(a2:Nat):El:=fun C fr h=>match ev C fr a1 with|some v=>A6 h (H4 C.T a0 v a2)|none=>none
def Qq(a0:TypeId)(a1:Operand)(a2:Operand):El:=fun C fr h=>match ev C fr a1,ev C fr a2 with|some v,some u=>A6 h (Cg C.T a0 v u)|_,_=>none
def Yy(a0:TypeId)(a1:Operand)(a2:Operand):El:=fun C fr h=>match ev C fr a1,ev C fr a2 with|some v,some u=>A6 h (FO C.T a0 v u)|_,_=>none
def Vw(a0:TypeId)(a1:Operand)(a2:Operand)(a3:Bool):El:=fun C fr h=>match ev C fr a1,ev C fr a2 with|some v,some u=>A6 h (Ds C.T h a0 v u a3)|_,_=>none
def PD(a0:TypeId)(a1:Operand)(a2:Operand)(a3:Operand):El:=fun C fr h=>match ev C fr a1,ev C fr a2,ev C fr a3 with|some a,some b,some c=>VR (FM C.T h a0 a b c)|_,_,_=>none
def Q0(_a0:TypeId)(_a1:Operand)(_a2:Operand):El:=fun _ _ _=>none
def Ow(_a0:TypeId)(_a1:Operand)(_a2:Operand)(_a3:Operand):El:=fun _ _ _=>none
def Xv(a0:TypeId)(a1:Operand):El:=fun C fr h=>match ev C fr a1 with|some v=>DS (FX C.T h a0 v)|none=>none
def ZZ(a0:Operand)(a1:Bool):El:=fun C fr h=>match ev C fr a0 with|some v=>bif a1 then DS (J1 h v a1)else(O5 h v a1).map .alts|none=>none
def Xf(a0:Operand):El:=fun C fr h=>match ev C fr a0 with|some v=>A6 h (OE h v)|none=>none
def Ol(_a0:Operand)(_a1:TypeId)(_a2:TypeId)(_a3:Bool):El:=fun _ _ _=>none
def Ty(a0:Operand)(a1:Nat):El:=fun C fr h=>match ev C fr a0 with|some v=>A6 h (E8 v a1)|none=>none
def Z6(a0:Call):El:=fun C fr h=>match a0.callee,Nt C fr a0.args.toList with| .builtin b,some args=>C1 C h b a0.argTypes args| .value f,some args=>(match ev C fr f with|some g=>IZ C h g args|none=>none)| .invoke x nm,some args=>(match ev C fr x with|some v=>Ks C h v nm args|none=>none)|_,_=>none
def eU(_a0:Call):El:=fun _ _ _=>none
def Yd(_a0:Call):El:=fun _ _ _=>none
def Yn(_a0:Operand):El:=fun _ _ _=>none
def ZL(_a0:Operand)(_a1:Operand):El:=fun _ _ _=>none
def Z2(_a0:TypeId)(_a1:Operand)(_a2:Bool):El:=fun _ _ _=>none
def Wr(_a0:Array SelectCase)(_a1:Bool):El:=fun _ _ _=>none
def fX(o:Op):El:=@Op.casesOn (fun _=>El) o bD UO aM Xm dQ Xz NQ Vc aW Yw Xt X3 RB YP ZI T1 F7 Ki QK Ux QQ PF XE Po Yq Qq Yy Vw PD Q0 Ow Xv ZZ Xf Ol Ty Z6 eU Yd Yn ZL Z2 Wr
def EP(C:Ctx)(fr:Fr)(h:H)(o:Oper):Option OR:=fX o.op C fr h
theorem Ch(C:Ctx)(fr:Fr)(h:H)(o:Oper):EP C fr h o=Fb C fr h o:=by
 unfold EP Fb;cases o.op<;>rfl
def JE(C:Ctx)(fr:Fr)(h:H)(o:Oper):Option OR:=
 match EP C fr h o with
 |some r=>some r
 |none=>match o.op with
  | .convert s d x=>match ev C fr x with
   |some v=>DS (NU C.T h s d v)
   |none=>none
  |_=>none
structure Ctx.Ok(C:Ctx)(P:Program):Prop where
 T:C.T.Ok P
 fn : ∀ f i, C.fn f = some i → ∃ fn, P.funcs[f]? = some fn ∧ fn.name ≠ "runtime.NumGoroutine" ∧ fn.body = some i.body ∧ fn.ntmps = i.ntmps ∧ fn.results = i.results
 prim:∀f q,C.prim f=some q→∀(p:Pl) (h:H) (w:World) (args:List V) (args':Array Value) v h',R p h w→Gl C p→Al p args args'.toList→q args h=some (v,h')→
  ∃v' p' w',(callFunc f args').run P w=.ok (.value v') w'∧Aa p' v v'∧Ext p h w p' h' w'
 spec:∀f q,C.spec f=some q→∀(p:Pl) (h:H) (w:World) (args:List V) (args':Array Value) v h',R p h w→Gl C p→Al p args args'.toList→q args h=some (v,h')→
  Calls P f args' w fun e w'=>∃v' p',e=.returned v'∧Aa p' v v'∧Ext p h w p' h' w'
def OU(p:Pl)(h:H)(w:World):OR→Result Next→Prop
 | .val v h',r=>∃v' p' w',r=.ok (.value v') w'∧Aa p' v v'∧Ext p h w p' h' w'
 | .skip h',r=>∃p' w',r=.ok .skip w'∧Ext p h w p' h' w'
 | .enter f args,r=>∃args',r=.ok (.enter f args') w∧Al p args args'.toList
 | .round b l fr,r=>∃k n f tmps,p[b]?=some (k,n)∧h.get b=some (.loop l)∧r=.ok (.round k f tmps l.asg l.body) w∧Dy p fr tmps
 | .alts l,r=>∃v h' v' p' w',(v,h')∈l∧r=.ok (.value v') w'∧Aa p' v v'∧Ext p h w p' h' w'
section
variable {C:Ctx}{P:Program}{p:Pl}{h:H}{w:World}{fr:Fr}{a:Act}
theorem Bw{s:Sem Value}{v:Option V}{r:OR}(hr:R p h w)(hd:A6 h v=some r)(hs:∀x,v=some x→∃v',s.run P w=.ok v' w∧Aa p x v'):OU p h w r ((do pure (.value (←s)):Sem Next).run P w):=by
 cases v with
 |none=>simp[A6]at hd
 |some x=>
  simp only[A6,ze]at hd;subst hd;obtain⟨v',h1,h2⟩:=hs x rfl;exact⟨v',p,w,by simp[h1],h2,zn hr⟩
theorem CM{s:Sem Value}{v:Option (V×H)}{r:OR}(hd:DS v=some r)(hs:∀x h',v=some (x,h')→∃v' p' w',s.run P w=.ok v' w'∧Aa p' x v'∧Ext p h w p' h' w'):OU p h w r ((do pure (.value (←s)):Sem Next).run P w):=by
 match v,hd,hs with
 |some (x,h'),hd,hs=>
  simp only[DS,ze]at hd;subst hd;obtain⟨v',p',w',h1,h2,h3⟩:=hs x h' rfl;exact⟨v',p',w',by simp[h1],h2,h3⟩
 |none,hd,_=>simp[DS]at hd
theorem Tj{s:Sem Unit}{v:Option H}{r:OR}(hd:VR v=some r)(hs:∀h',v=some h'→∃w',s.run P w=.ok () w'∧Ext p h w p h' w'):OU p h w r ((do s;pure .skip:Sem Next).run P w):=by
 cases v with
 |none=>simp[VR]at hd
 |some h'=>
  simp only[VR,ze]at hd;subst hd;obtain⟨w',h1,h2⟩:=hs h' rfl;exact⟨p,w',by simp[h1],h2⟩
theorem Jz(hC:C.Ok P)(hr:R p h w)(hg:Gl C p){f:V}{f':Value}{args:List V}{args':Array Value}(hf:Aa p f f')(ha:Al p args args'.toList){r:OR}(hd:IZ C h f args=some r):
  OU p h w r ((do let d←zH f' args';invoke d.target d.args:Sem Next).run P w):=by
 unfold IZ at hd;split at hd
 case h_3=>cases hd
 case h_2=>
  rename_i b;split at hd
  case h_2=>cases hd
  rename_i l hb;rw[A1]at hd;by_cases hn:args.length=l.ps.size
  ·simp only[hn,decide_true,cond_true,ze]at hd;subst hd;simp only[Aa]at hf;obtain⟨k,n,hp,rfl⟩:=hf;obtain⟨k',n',o,h1,h2,f0,tmps,r,m,h3,h4,rfl⟩:=hr.obj _ _ hb;rw[hp]at h1;cases h1;have hl:=ha.length;simp only[zH,zd,zf,zc,invoke];simp at hl;have e:((l.ps.zip args').foldl (fun tmps (t,a)=>tmps.setIfInBounds t a) tmps)=(l.ps.toList.zip args'.toList).foldl (fun tmps (t,a)=>tmps.setIfInBounds t a) tmps:=by
    rw[←Array.toList_zip,Array.foldl_toList]
   have h5:=Dy.Ew (ts:=l.ps.toList) ha h3;rw[←e]at h5;refine⟨k,n,f0,_,hp,hb,?_,h5⟩;simp only[Array.empty_append];exact run_yield h2 (by rw[←hl,hn])
  ·simp[hn]at hd
 rename_i g first captured
 simp only[Aa]at hf;obtain⟨x,y,rfl,hx,hy⟩:=hf;have hall:Al p (first++args++captured) (x++args'++y).toList:=by
  simpa using(hx.append ha).append hy
 simp only[zH,zd,zf,zc,invoke];split at hd
 case h_1=>
  rename_i q hq;match hqr:q (first++args++captured) h,hd with
  |some (v,h'),hd=>
   simp only[DS,ze]at hd;subst hd;obtain⟨v',p',w',h1,h2,h3⟩:=hC.prim g q hq p h w _ _ v h' hr hg hall hqr;exact⟨v',p',w',h1,h2,h3⟩
  |none,hd=>simp[DS]at hd
 case h_2=>
  split at hd
  case h_2=>cases hd
  rename_i i hi;cases hd;obtain⟨fn,h1,h2,h3,h4,h5⟩:=hC.fn g i hi;refine⟨_,?_,hall⟩;unfold callFunc;simp[h1,h2,h3]
theorem Pk(hC:C.Ok P)(hr:R p h w)(hg:Gl C p){x:V}{x':Value}{name:String}{args:List V}{args':Array Value}(hx:Aa p x x')(ha:Al p args args'.toList){r:OR}(hd:Ks C h x name args=some r):
  OU p h w r ((invoke (.fn (.method name) #[]) (#[x']++args')).run P w):=by
 unfold Ks at hd;split at hd
 case h_2=>cases hd
 rename_i t v;split at hd
 case h_2=>cases hd
 rename_i g hm;simp only[Aa]at hx;obtain⟨y,rfl,hy⟩:=hx;obtain⟨j,m,d,h1,h2,h3,h4,h5,h6⟩:=hC.T.mth t name g hm;have key:(invoke (.fn (.method name) #[]) (#[.iface t y]++args')).run P w=((do let d←zH (.func (.func g) #[] #[]) (#[y]++args');invoke d.target d.args:Sem Next).run P w):=by
  have hund:(underlying t).run P w=.ok d w:=by unfold underlying;simp[h5]
  have hti:(typeInfo t).run P w=.ok j w:=by unfold typeInfo;simp[h1]
  have hmeth:∀k,(method (k+1) t y name).run P w=.ok (g,y) w:=by
   intro k;unfold method;simp only[zd,hti,zc,h2,h3,follow,zf,h4];unfold receiverAt;simp only[zd,hund,zc,Place.get];cases d<;>first|(exact absurd rfl (h6 _))|simp
  have hm':=hmeth (P.types.size+99);have e:P.types.size+Made.depth=P.types.size+99+1:=rfl;have h0:(#[Value.iface t y]++args')[0]?=some (.iface t y):=by
   rw[←zk];simp
  have h8:(#[Value.iface t y]++args').extract 1 (#[Value.iface t y]++args').size=args':=by
   rw[←zC];simp
  simp only[invoke,zH,h0,h8];simp[callMethod,e,hm']
 rw[key];exact Jz hC hr hg (f:=.fn (.func g) [] []) (by simp[Aa]) (by simp;exact⟨hy,ha⟩) hd
theorem P2(hC:C.Ok P)(hr:R p h w){b:Builtin}{ts:Array TypeId}{t:TypeId}{cs:Array Bool}{args:List V}{args':Array Value}(ha:Al p args args'.toList){r:OR}(hd:C1 C h b ts args=some r):
  OU p h w r ((builtin b ts t cs args').run P w):=by
 unfold C1 at hd;split at hd
 case h_1=>exact Bw hr hd fun x hx=>Xi hC.T hr ha hx
 case h_2=>exact CM hd fun x h' hx=>QM hC.T hr ha hx
 case h_3=>exact CM hd fun x h' hx=>UK hC.T hr ha hx
 case h_4=>exact Bw hr hd fun x hx=>W9 ha hx
 case h_5=>exact Bw hr hd fun x hx=>Yf ha hx
 case h_6=>exact Bw hr hd fun x hx=>YB hC.T ha hx
 case h_7=>exact CM hd fun x h' hx=>QW hC.T hr ha hx
 case h_8=>exact CM hd fun x h' hx=>Um hC.T hr ha hx
 case h_9=>cases hd
theorem UQ{T:BA}(hT:T.Ok P){op:BinOp}{t:TypeId}{x y:Operand}{v u:V}{v' u':Value}(hv:Aa p v v')(hu:Aa p u u'){z:V}(hd:Ka T op t x y v u=some z):
  ∃z',(do eqGuard op t x y v' u';binOp op t v' u':Sem Value).run P w=.ok z' w∧Aa p z z':=by
 unfold Ka at hd;split at hd
 case h_2=>
  simp only[zd,Tl hT hv hu hd,zc];exact Yv hT hv hu hd
 case h_1=>
  rename_i r hr;cases hd;have hk:∀ {b:Bool},(bif SW x||SW y then some (V.bool b)else none)=some z→z=.bool b∧((∃c,x=.const c)∨∃c,y=.const c):=by
   intro b hb;cases hc:(SW x||SW y)with
   |false=>simp[hc]at hb
   |true=>
    simp only[hc,cond_true,ze]at hb;refine⟨hb.symm,?_⟩;simp only[Bool.or_eq_true]at hc;rcases hc with hc|hc
    ·left;cases x<;>first|exact⟨_,rfl⟩|cases hc
    ·right;cases y<;>first|exact⟨_,rfl⟩|cases hc
  have hg:∀op,(op=.eql∨op=.neq)→((∃c,x=.const c)∨∃c,y=.const c)→(eqGuard op t x y .nilIface .nilIface).run P w=.ok () w:=by
   intro op ho hc;rcases ho with rfl|rfl<;>unfold eqGuard<;>rcases hc with⟨c,rfl⟩|⟨c,rfl⟩<;>simp
  have heq:∀ {ms},T.und t=some (.interface ms)→(Op.equal t .nilIface .nilIface).run P w=.ok true w:=by
   intro ms hund;unfold Op.equal Op.maxDepth Op.equalIn;rw[zd,At hT hund];rfl
  unfold XB at hr;split at hr
  case h_1=>
   rename_i ms hund;obtain⟨rfl,hc⟩:=hk hr;have hb:=(KK (t:=t) (y':=.nilIface) hv rfl).1;simp only[Aa]at hv hu;subst hv hu;refine⟨.bool true,?_,by simp[Aa]⟩;rw[zd,hg .eql (.inl rfl) hc,zc,hb,zd,heq hund];rfl
  case h_2=>
   rename_i ms hund;obtain⟨rfl,hc⟩:=hk hr;have hb:=(KK (t:=t) (y':=.nilIface) hv rfl).2;simp only[Aa]at hv hu;subst hv hu;refine⟨.bool false,?_,by simp[Aa]⟩;rw[zd,hg .neq (.inr rfl) hc,zc,hb,zd,heq hund];rfl
  case h_3=>cases hr
theorem VN(hC:C.Ok P)(hr:R p h w)(hg:Gl C p)(hf:BN p fr a){o:Oper}{r:OR}(hd:EP C fr h o=some r):OU p h w r ((execOp a.eval o).run P w):=by
 rw[Ch]at hd;unfold Fb at hd;unfold execOp;cases ho:o.op<;>simp only[ho]at hd ⊢<;>try (cases hd;done)
 case move x|assign x=>
  cases hx:ev C fr x with
  |none=>simp[hx,A6]at hd
  |some v=>simp[hx,A6]at hd;subst hd;exact⟨_,p,w,rfl,AP hg hf hx,zn hr⟩
 case pick c x y=>
  split at hd
  case h_2=>cases hd
  rename_i t hc;have hcv:=AP hg hf hc;simp only[Aa]at hcv;simp only[zd,hcv,asBool,zf,zc];cases t
  ·cases hx:ev C fr y with
   |none=>simp[hx,A6]at hd
   |some v=>simp[hx,A6]at hd;subst hd;exact⟨_,p,w,by simp,AP hg hf hx,zn hr⟩
  ·cases hx:ev C fr x with
   |none=>simp[hx,A6]at hd
   |some v=>simp[hx,A6]at hd;subst hd;exact⟨_,p,w,by simp,AP hg hf hx,zn hr⟩
 case alloc t=>exact CM hd fun x h' hx=>Ut hC.T hr hx
 case box t x=>
  refine CM hd fun v h' hx=>?_
  rw[zg]at hx;obtain⟨u,hu,he⟩:=hx;have:=XM (P:=P) (t:=t) hr (AP hg hf hu);rw[he]at this;exact this
 case build t parts=>
  split at hd
  case h_2=>cases hd
  rename_i ps hps;refine Bw hr hd fun x hx=>TZ hC.T ?_ hx
  have:=Kq hg hf hps;simpa using this
 case buildSlice t n parts=>
  split at hd
  case h_2=>cases hd
  rename_i ps hps;refine CM hd fun x h' hx=>Ru hC.T hr ?_ hx
  have:=Kq hg hf hps;simpa using this
 case load t x=>
  split at hd
  case h_2=>cases hd
  rename_i v hv;exact Bw hr hd fun x hx=>Py hC.T hr (AP hg hf hv) hx
 case store t x y=>
  split at hd
  case h_2=>cases hd
  rename_i v u hv hu;exact Tj hd fun h' hx=>Tp hC.T hr (AP hg hf hv) (AP hg hf hu) hx
 case nilCheck x=>
  split at hd
  case h_3=>cases hd
  case h_1=>
   rename_i b i hv;have hx:=AP hg hf hv;have hx':=hx;simp only[Aa]at hx';obtain⟨r',n,hp,he⟩:=hx';simp only[A6,ze]at hd;subst hd;rw[he];exact⟨_,p,w,rfl,he▸hx,zn hr⟩
  case h_2=>
   rename_i t v hv;have hx:=AP hg hf hv;have hx':=hx;simp only[Aa]at hx';obtain⟨y,he,_⟩:=hx';simp only[A6,ze]at hd;subst hd;rw[he];exact⟨_,p,w,rfl,he▸hx,zn hr⟩
 case binOp op t x y t2=>
  split at hd
  case h_2=>cases hd
  rename_i v u hv hu;refine Bw hr hd fun z hz=>?_
  exact UQ hC.T (AP hg hf hv) (AP hg hf hu) hz
 case unOp op t x=>
  split at hd
  case h_2=>cases hd
  rename_i v hv;exact Bw hr hd fun x hx=>bF (AP hg hf hv) hx
 case convert s d x=>
  split at hd
  case h_2=>cases hd
  rename_i v hv;exact Bw hr hd fun x hx=>Wt hC.T hr (AP hg hf hv) hx
 case makeInterface t x=>
  split at hd
  case h_2=>cases hd
  rename_i v d hv hdd;split at hd
  case h_1=>cases hd
  case h_2=>
   rename_i hne;refine Bw hr hd fun z hz=>?_
   cases hz;refine⟨.iface t (a.eval x),?_,by simp only[Aa];exact⟨_,rfl,AP hg hf hv⟩⟩;unfold Instr.makeInterface;simp only[zd,At hC.T hdd,zc];cases d<;>first|rfl|exact absurd rfl (hne _)
 case makeFunc f first captured=>
  split at hd
  case h_2=>cases hd
  rename_i x y hx hy;refine Bw hr hd fun z hz=>?_
  cases hz;exact⟨_,rfl,by simp only[Aa];exact⟨_,_,rfl,by simpa using G1 hg hf hx,by simpa using G1 hg hf hy⟩⟩
 case makeMap t x=>
  split at hd
  case h_2=>cases hd
  rename_i v hv;exact CM hd fun x h' hx=>QE hr (Kj hg hf hv) hx
 case makeSlice t l c=>
  split at hd
  case h_2=>cases hd
  rename_i v u hv hu;exact CM hd fun x h' hx=>Ve hC.T hr (AP hg hf hv) (AP hg hf hu) hx
 case slice t x lo hi mx=>
  split at hd
  case h_2=>cases hd
  rename_i v l r' m hv hl hr' hm;exact Bw hr hd fun x hx=>Tq hC.T (AP hg hf hv) (Kj hg hf hl) (Kj hg hf hr') (Kj hg hf hm) hx
 case fieldAddr t x f=>
  split at hd
  case h_2=>cases hd
  rename_i v hv;exact Bw hr hd fun x hx=>TN hC.T (AP hg hf hv) hx
 case field t x f=>
  split at hd
  case h_2=>cases hd
  rename_i v hv;exact Bw hr hd fun x hx=>Uo hC.T (AP hg hf hv) hx
 case indexAddr t x i=>
  split at hd
  case h_2=>cases hd
  rename_i v u hv hu;exact Bw hr hd fun x hx=>Tk hC.T (AP hg hf hv) (AP hg hf hu) hx
 case index t x i=>
  split at hd
  case h_2=>cases hd
  rename_i v u hv hu;exact Bw hr hd fun x hx=>T2 hC.T (AP hg hf hv) (AP hg hf hu) hx
 case lookup t x i ok=>
  split at hd
  case h_2=>cases hd
  rename_i v u hv hu;exact Bw hr hd fun x hx=>Rr hC.T hr (AP hg hf hv) (AP hg hf hu) hx
 case mapUpdate t m k x|insert t m k x=>
  split at hd
  case h_2=>cases hd
  rename_i v u z hv hu hz;exact Tj hd fun h' hx=>Ro hC.T hr (AP hg hf hv) (AP hg hf hu) (AP hg hf hz) hx
 case range t x=>
  split at hd
  case h_2=>cases hd
  rename_i v hv;exact CM hd fun x h' hx=>RS hC.T hr (AP hg hf hv) hx
 case next x b=>
  split at hd
  case h_2=>cases hd
  rename_i v hv;cases b with
  |true=>simp only[cond_true]at hd;exact CM hd fun x h' hx=>VB hr (AP hg hf hv) hx
  |false=>
   simp only[cond_false,zg]at hd;obtain⟨l,hl,rfl⟩:=hd;obtain⟨v,h',v',p',w',g1,g2,g3,g4⟩:=TE (P:=P) (t:=o.type) hr (AP hg hf hv) hl;exact⟨v,h',v',p',w',g1,by simp only[zd,g2,zc,zf],g3,g4⟩
 case entry x=>
  split at hd
  case h_2=>cases hd
  rename_i v hv;exact Bw hr hd fun x hx=>Tn hr (AP hg hf hv) hx
 case extract x i=>
  split at hd
  case h_2=>cases hd
  rename_i v hv;exact Bw hr hd fun x hx=>Qy (AP hg hf hv) hx
 case call c=>
  split at hd
  case h_4=>cases hd
  case h_1=>
   rename_i b args hcal hargs;have:=G1 hg hf hargs;unfold resolve;simp only[hcal,zd,zf,zc,invoke];exact P2 hC hr (by simpa using this) hd
  case h_2=>
   rename_i f args hcal hargs;split at hd
   case h_2=>cases hd
   rename_i g hgv;have:=G1 hg hf hargs;unfold resolve;simp only[hcal];exact Jz hC hr hg (AP hg hf hgv) (by simpa using this) hd
  case h_3=>
   rename_i x nm args hcal hargs;split at hd
   case h_2=>cases hd
   rename_i v hv;have:=G1 hg hf hargs;unfold resolve;simp only[hcal,zd,zf,zc];exact Pk hC hr hg (AP hg hf hv) (by simpa using this) hd
theorem Ir(hC:C.Ok P)(hr:R p h w)(hg:Gl C p)(hf:BN p fr a){o:Oper}{r:OR}(hd:JE C fr h o=some r):OU p h w r ((execOp a.eval o).run P w):=by
 unfold JE at hd;split at hd
 case h_1=>
  rename_i r' hr';cases hd;exact VN hC hr hg hf hr'
 case h_2=>
  split at hd
  case h_2=>cases hd
  rename_i s d x ho;split at hd
  case h_2=>cases hd
  rename_i v hv;unfold execOp;simp only[ho];exact CM hd fun x h' hx=>TB hC.T hr (AP hg hf hv) hx
end
end
end Go.Det
end
section
namespace Go.Det
noncomputable section
def AR(fr:Fr)(ops:Array Oper)(o:Oper):Bool:=
 match o.guard with
 |none=>true
 |some (j,want)=>
  match (ops[j]?).bind (·.dst)with
  |some t=>bif zA t fr.n then(match fr.get t with| .bool b=>b==want|_=>false)else false
  |none=>false
inductive Cl where
 |fn (f:FuncId) (args:List V)
 |rnd (b:Nat) (l:LS) (fr:Fr)
abbrev Cy:=Cl→H→Option (List (V×H))
def bl{α β:Type}:List α→(α→Option (List β))→Option (List β)
 |[],_=>some []
 |a::gG,f=>match f a with
  |none=>none
  |some x=>match gG with
   |[]=>some x
   |b::bs=>match bl (b::bs) f with
    |some y=>some (x++y)
    |none=>none
theorem F9{α β:Type}{f:α→Option (List β)}:∀ {l:List α} {r:List β},bl l f=some r→∀a∈l,∃x,f a=some x∧∀b∈x,b∈r
 |[],r,_,a,ha=>by cases ha
 |[c],r,h,a,ha=>by
  unfold bl at h;split at h
  ·cases h
  rename_i x hx;cases h;cases zp.1 ha;exact⟨_,hx,fun b hb=>hb⟩
 |c::d::gG,r,h,a,ha=>by
  unfold bl at h;split at h
  ·cases h
  rename_i x hx;simp only at h;split at h
  case h_2=>cases h
  rename_i y hy;cases h;rcases yp.1 ha with rfl|ha
  ·exact⟨_,hx,fun b hb=>List.mem_append_left _ hb⟩
  ·obtain⟨z,h1,h2⟩:=F9 hy a ha;exact⟨z,h1,fun b hb=>zQ _ (h2 b hb)⟩
def FN(fr:Fr)(d:Option Nat):List (V×H)→Option (List (Fr×H))
 |[]=>some []
 |(v,h)::l=>match fr.put d v with
  |some f=>match FN fr d l with
   |some r=>some ((f,h)::r)
   |none=>none
  |none=>none
theorem Mo{fr:Fr}{d:Option Nat}:∀ {l:List (V×H)} {r:List (Fr×H)},FN fr d l=some r→∀v h,(v,h)∈l→∃f,fr.put d v=some f∧(f,h)∈r
 |[],r,_,v,h,hm=>by cases hm
 |(u,k)::l,r,hd,v,h,hm=>by
  unfold FN at hd;split at hd
  case h_2=>cases hd
  rename_i f hf;split at hd
  case h_2=>cases hd
  rename_i r' hr;cases hd;rcases yp.1 hm with e|hm
  ·cases e;exact⟨f,hf,by simp⟩
  ·obtain⟨g,h1,h2⟩:=Mo hr v h hm;exact⟨g,h1,List.mem_cons_of_mem _ h2⟩
def step1(C:Ctx)(call:Cy)(ops:Array Oper)(o:Oper)(fr:Fr)(h:H):Option (List (Fr×H)):=
 bif AR fr ops o then
  match JE C fr h o with
  |some (.val v h')=>match fr.put o.dst v with
   |some fr'=>some [(fr',h')]
   |none=>none
  |some (.skip h')=>match fr.put o.dst (.tup [])with
   |some fr'=>some [(fr',h')]
   |none=>none
  |some (.enter f args)=>match call (.fn f args) h with
   |some l=>FN fr o.dst l
   |none=>none
  |some (.round b ls f)=>match call (.rnd b ls f) h with
   |some l=>FN fr o.dst l
   |none=>none
  |some (.alts l)=>FN fr o.dst l
  |none=>none
 else match fr.put o.dst (.tup [])with
  |some fr'=>some [(fr',h)]
  |none=>none
def Oi(C:Ctx)(call:Cy)(ops:Array Oper):List Oper→Fr→H→Option (List (Fr×H))
 |[],fr,h=>some [(fr,h)]
 |o::rest,fr,h=>match step1 C call ops o fr h with
  |some l=>bl l fun x=>Oi C call ops rest x.1 x.2
  |none=>none
def FW(ro:Option Nat):Fence:={ zX with round:=ro }
theorem Rn{ro:Option Nat}{n:Nat}{P:Program}{f:FuncId}{args:Array Value}{w:World}{R:Ending→World→Prop}:CallsIn (FW ro) n P f args w R↔Calls P f args w R:=by
 have:CallsIn (FW ro) n P f args w R↔CallsIn zX n P f args w R:=Iff.rfl;exact this.trans callsIn_wide
theorem bJ{ro:Option Nat}{n:Nat}{P:Program}{k:Nat}{f:FuncId}{tmps:Array Value}{asg body:Code}{w:World}{R:Ending→World→Prop}(h:RoundIn zX 0 P k f tmps asg body w R):RoundIn (FW ro) n P k f tmps asg body w R:=
 ⟨trivial,fun c cs _=>h.2 c cs (room_wide _)⟩
inductive DX where
 |normal
 |exit (id:Nat)
 |ret
def DX.N3:DX→Exit
 | .normal=>.normal
 | .exit id=>.exit id
 | .ret=>.ret
section
variable {C:Ctx}{P:Program}{p:Pl}{h:H}{w:World}{fr:Fr}{a:Act}
theorem BN.put(hf:BN p fr a){d:Option Nat}{v:V}{v':Value}(hv:Aa p v v'){fr':Fr}(hd:fr.put d v=some fr'):BN p fr' (a.put d v'):=by
 unfold Fr.put at hd;cases d with
 |none=>cases hd;exact hf
 |some t=>
  simp only[Fk]at hd;by_cases hlt:t<fr.n
  ·simp only[hlt,decide_true,cond_true,ze]at hd;subst hd;refine⟨by simp[Act.put,hf.1],fun s=>?_⟩;have hlt':t<a.tmps.size:=hf.1▸hlt;by_cases e:s=t
   ·subst e;simp[Fr.get,Act.put,hlt',hv]
   ·have:=hf.2 s;simp only[Fr.get,PM.Ci,if_neg e,Act.put]at this ⊢;rw[zm,zO (fun x=>e x.symm), ←zm];exact this
  ·simp[hlt]at hd
theorem BN.mono(hf:BN p fr a){p':Pl}(hp:∃q,p'=p++q):BN p' fr a:=by
 obtain⟨q,rfl⟩:=hp;exact⟨hf.1,fun t=>(hf.2 t).mono q⟩
theorem BN.ext(hf:BN p fr a){p':Pl}{h':H}{w':World}(e:Ext p h w p' h' w'):BN p' fr a:=hf.mono e.pre
theorem XF{p:Pl}{v:V}{b:Bool}(hv:Aa p v (.bool b)):v=.bool b:=by
 cases v<;>simp only[Aa]at hv<;>first|(cases hv;rfl)|(simp at hv;done)|(obtain⟨_,_,_,_,hx,_⟩:=hv;cases hx;done)|(obtain⟨_,_,_,hx⟩:=hv;cases hx;done)|(obtain⟨_,_,hx,_⟩:=hv;cases hx;done)|(obtain⟨_,_,hx⟩:=hv;cases hx;done)|(obtain⟨_,hx,_⟩:=hv;cases hx;done)
theorem NC(hf:BN p fr a)(ops:Array Oper)(o:Oper):yc o (yielded ops a.tmps)=AR fr ops o:=by
 unfold yc AR;cases hgd:o.guard with
 |none=>rfl
 |some jw=>
  obtain⟨j,want⟩:=jw;simp only;unfold yielded;cases hb:(ops[j]?).bind (·.dst)with
  |none=>simp
  |some t=>
   simp only[Option.bind_some,Fk];by_cases hlt:t<fr.n
   ·have hlt':t<a.tmps.size:=hf.1▸hlt;have hv:=hf.2 t;simp only[hlt,decide_true,cond_true];have e:a.tmps[t]?=some (a.tmps.getD t undef):=by simp[hlt']
    rw[e];cases hb2:a.tmps.getD t undef with
    |bool b=>
     rw[hb2]at hv;have:=XF hv;rw[this];cases b<;>cases want<;>rfl
    |_=>
     rw[hb2]at hv;cases hg2:fr.get t with
     |bool b=>rw[hg2]at hv;simp[Aa]at hv
     |_=>cases want<;>rfl
   ·have:a.tmps[t]?=none:=zt (zI (hf.1▸hlt));simp[this,hlt]
def EL(p:Pl)(h:H)(w:World)(l:List (V×H))(e:Ending)(w':World):Prop:=
 ∃v h' v' p',(v,h')∈l∧e=.returned v'∧Aa p' v v'∧Ext p h w p' h' w'
structure Cy.Ok(C:Ctx)(P:Program)(call:Cy):Prop where
 fn:∀f args h l,call (.fn f args) h=some l→∀(p:Pl) (w:World) (args':Array Value),R p h w→Gl C p→Al p args args'.toList→Calls P f args' w (EL p h w l)
 rnd:∀b ls fr h l,call (.rnd b ls fr) h=some l→∀(p:Pl) (w:World) (k n:Nat) (f:FuncId) (tmps:Array Value),R p h w→Gl C p→h.get b=some (.loop ls)→p[b]?=some (k,n)→Dy p fr tmps→
  RoundIn zX 0 P k f tmps ls.asg ls.body w (EL p h w l)
theorem EU{o:Oper}{r:OR}(hd:EP C fr h o=some r):∀c,o.op≠ .defer c:=by
 intro c e;rw[Ch]at hd;unfold Fb at hd;simp[e]at hd
theorem D3{o:Oper}{r:OR}(hd:JE C fr h o=some r):∀c,o.op≠ .defer c:=by
 intro c e;unfold JE at hd;split at hd
 case h_1=>rename_i hr;exact EU hr c e
 case h_2=>rw[e]at hd;cases hd
theorem N9{p':Pl}{l:List (V×H)}{r:List (Fr×H)}{d:Option Nat}(hp:FN fr d l=some r)(hf:BN p fr a){K:Act→World→Prop}
  (hK:∀x∈r,∀p' a' w',BN p' x.1 a'→Ext p h w p' x.2 w'→a'.defers=a.defers→K a' w') {v:V} {h':H} {v':Value} {w':World} (hm:(v,h')∈l) (hv:Aa p' v v') (he:Ext p h w p' h' w'):K (a.put d v') w':=by
 obtain⟨f,h1,h2⟩:=Mo hp v h' hm;exact hK _ h2 p' _ w' ((hf.ext he).put hv h1) he (by cases d<;>rfl)
theorem Uz(hC:C.Ok P){call:Cy}(hcall:call.Ok C P)(hr:R p h w)(hg:Gl C p)(hf:BN p fr a){ops:Array Oper}{i:Nat}{o:Oper}(ho:ops[i]?=some o){l:List (Fr×H)}
  (hd:step1 C call ops o fr h=some l) {ro:Option Nat} {n:Nat} {Q:Exit→Act→World→Prop} {K:Act→World→Prop}
  (hK:∀x∈l,∀p' a' w',BN p' x.1 a'→Ext p h w p' x.2 w'→a'.defers=a.defers→K a' w'):wpOpIn (FW ro) n P ops Q i K a w:=by
 have hdf:∀v,(a.put o.dst v).defers=a.defers:=by intro v;cases o.dst<;>rfl
 unfold step1 at hd;unfold wpOpIn;simp only[ho];rw[NC hf];cases hw:AR fr ops o with
 |false=>
  simp only[hw,cond_false]at hd;simp only[zw,if_false];refine⟨fun _ _=>trivial,?_⟩;split at hd
  case h_2=>cases hd
  rename_i fr1 hp;cases hd;exact hK _ (zp.2 rfl) p _ w (hf.put (by simp[Aa,undef]) hp) (zn hr) (hdf _)
 |true=>
  simp only[hw,cond_true]at hd;simp only[if_true];refine⟨fun _ _=>trivial,?_⟩;split at hd
  case h_6=>cases hd
  case h_1=>
   rename_i v h1 hop;split at hd
   case h_2=>cases hd
   rename_i fr1 hp;cases hd;obtain⟨v',p',w',g1,g2,g3⟩:=Ir hC hr hg hf hop;rw[zU _ _ _ (D3 hop),g1,Oper.uponIn_value];exact hK _ (zp.2 rfl) p' _ w' ((hf.ext g3).put g2 hp) g3 (hdf _)
  case h_2=>
   rename_i h1 hop;split at hd
   case h_2=>cases hd
   rename_i fr1 hp;cases hd;obtain⟨p',w',g1,g3⟩:=Ir hC hr hg hf hop;rw[zU _ _ _ (D3 hop),g1,Oper.uponIn_skip];exact hK _ (zp.2 rfl) p' _ w' ((hf.ext g3).put (by simp[Aa,undef]) hp) g3 (hdf _)
  case h_3=>
   rename_i f args hop;split at hd
   case h_2=>cases hd
   rename_i l1 hc;obtain⟨args',g1,g2⟩:=Ir hC hr hg hf hop;rw[zU _ _ _ (D3 hop),g1,Oper.uponIn_enter];refine⟨fun h=>(by simp[FW,zX]at h),Rn.2 ((hcall.fn f args h l1 hc p w args' hr hg g2).mono ?_)⟩;rintro e w' ⟨v,h',v',p',hm,rfl,k1,k2⟩;exact N9 hd hf hK hm k1 k2
  case h_4=>
   rename_i b ls f hop;split at hd
   case h_2=>cases hd
   rename_i l1 hc;obtain⟨k,m,g,tmps,g1,g2,g3,g4⟩:=Ir hC hr hg hf hop;rw[zU _ _ _ (D3 hop),g3,Oper.uponIn_round];refine⟨fun h=>(by simp[FW,zX]at h),(bJ (hcall.rnd b ls f h l1 hc p w k m g tmps hr hg g2 g1 g4)).mono ?_⟩;rintro e w' ⟨v,h',v',p',hm,rfl,k1,k2⟩;exact N9 hd hf hK hm k1 k2
  case h_5=>
   rename_i l1 hop;obtain⟨v,h',v',p',w',hm,g1,g2,g3⟩:=Ir hC hr hg hf hop;rw[zU _ _ _ (D3 hop),g1,Oper.uponIn_value];exact N9 hd hf hK hm g2 g3
theorem Qx(hC:C.Ok P){call:Cy}(hcall:call.Ok C P){ops:Array Oper}{ro:Option Nat}{n:Nat}{Q:Exit→Act→World→Prop}:
  ∀(l:List Oper) (k:Nat),(∀j,l[j]?=ops[k+j]?)→∀ {p:Pl} {h:H} {w:World} {fr:Fr} {a:Act},R p h w→Gl C p→BN p fr a→∀ {L:List (Fr×H)},Oi C call ops l fr h=some L→
  (∀x∈L,∀p' a' w',BN p' x.1 a'→Ext p h w p' x.2 w'→a'.defers=a.defers→Q .normal a' w')→wpOpsIn (FW ro) n P ops Q (List.range' k l.length) a w
 |[],k,_,p,h,w,fr,a,hr,hg,hf,L,hd,hQ=>by
  cases hd;exact hQ _ (zp.2 rfl) p a w hf (zn hr) rfl
 |o::l,k,hl,p,h,w,fr,a,hr,hg,hf,L,hd,hQ=>by
  unfold Oi at hd;split at hd
  case h_2=>cases hd
  rename_i l1 hs;rw[List.length_cons,List.range'_succ,wpOpsIn_cons];refine Uz hC hcall hr hg hf (by simpa using(hl 0).symm) hs (K:=wpOpsIn (FW ro) n P ops Q (List.range' (k+1) l.length)) fun x hx p1 a1 w1 hf1 he1 hdf1=>?_
  obtain⟨L1,g1,g2⟩:=F9 hd x hx;exact Qx hC hcall l (k+1) (fun j=>by have:=hl (j+1);simpa [Nat.add_assoc,Nat.add_comm 1 j]using this) he1.rel (hg.ext he1) hf1 g1
   fun y hy p2 a2 w2 hf2 he2 hdf2=>hQ y (g2 y hy) p2 a2 w2 hf2 (he1.trans he2) (hdf2.trans hdf1)
theorem Re(hC:C.Ok P){call:Cy}(hcall:call.Ok C P){ops:Array Oper}{ro:Option Nat}{n:Nat}{Q:Exit→Act→World→Prop}(hr:R p h w)(hg:Gl C p)(hf:BN p fr a){L:List (Fr×H)}
  (hd:Oi C call ops ops.toList fr h=some L) {id:Nat}
  (hQ:∀x∈L,∀p' a' w',BN p' x.1 a'→Ext p h w p' x.2 w'→a'.defers=a.defers→Q .normal a' w'):(Code.region id ops false).wpIn (FW ro) n P Q a w:=by
 refine wpIn_region ?_;have:=Qx (Q:=Q) (ro:=ro) (n:=n) hC hcall ops.toList 0 (fun j=>by simp) hr hg hf hd hQ;rw[List.range_eq_range'];simpa using this
end
end
end Go.Det
end
section
namespace Go.Det
noncomputable section
theorem Hm{C:Ctx}{fr fr':Fr}:∀ {xs:List Operand},(∀x∈xs,ev C fr x=ev C fr' x)→Nt C fr xs=Nt C fr' xs
 |[],_=>rfl
 |x::xs,h=>by
  unfold Nt;rw[h x (by simp),Hm (fun y hy=>h y (by simp[hy]))]
theorem Hq{C:Ctx}{fr fr':Fr}:∀ {xs:List (Nat×Operand)},(∀x∈xs,ev C fr x.2=ev C fr' x.2)→Rd C fr xs=Rd C fr' xs
 |[],_=>rfl
 |(i,x)::xs,h=>by
  unfold Rd;rw[h (i,x) (by simp),Hq (fun y hy=>h y (by simp[hy]))]
theorem Hw{C:Ctx}{fr fr':Fr}{x:Option Operand}(h:∀y,x=some y→ev C fr y=ev C fr' y):QI C fr x=QI C fr' x:=by
 cases x with
 |none=>rfl
 |some y=>simp[QI,h y rfl]
theorem Tw{C:Ctx}{fr fr':Fr}{h:H}{o:Oper}(hx:∀x∈o.op.operands,ev C fr x=ev C fr' x):EP C fr h o=EP C fr' h o:=by
 obtain⟨dst,op,type,pos,after,guard⟩:=o;cases op<;>simp only[z8]at hx<;>simp only[Ch,Fb]
 case build t ps=>rw[Hq fun x hm=>hx x.2 (by simp;exact⟨x.1,by simpa using hm⟩)]
 case buildSlice t n ps=>rw[Hq fun x hm=>hx x.2 (by simp;exact⟨x.1,by simpa using hm⟩)]
 case makeFunc f first captured=>rw[Hm (xs:=first.toList) fun x hm=>hx x (by simp at hm ⊢;exact .inl hm),Hm (xs:=captured.toList) fun x hm=>hx x (by simp at hm ⊢;exact .inr hm)]
 case makeMap t r=>rw[Hw fun y hy=>hx y (by simp[hy])]
 case slice t x lo hi mx=>
  rw[hx x (by simp),Hw (x:=lo) fun y hy=>hx y (by simp[hy]),Hw (x:=hi) fun y hy=>hx y (by simp[hy]),Hw (x:=mx) fun y hy=>hx y (by simp[hy])]
 case call c=>
  obtain⟨callee,args,ts⟩:=c;rw[Hm (xs:=args.toList) (fr:=fr) (fr':=fr') fun x hm=>hx x (by simp at hm;simp[Call.operands,hm])];cases callee with
  |value f=>
   have hf:=hx f (by simp[Call.operands]);cases Nt C fr' args.toList with
   |none=>rfl
   |some gG=>simp only[hf]
  |invoke f nm=>
   have hf:=hx f (by simp[Call.operands]);cases Nt C fr' args.toList with
   |none=>rfl
   |some gG=>simp only[hf]
  |builtin b=>cases Nt C fr' args.toList<;>rfl
 all_goals (first|rfl|(simp_all;done))
def reads(ops:Array Oper)(o:Oper):List Tmp:=o.looksAt ops
theorem YU{C:Ctx}{fr fr':Fr}{x:Operand}(h:∀t,x=.tmp t→fr.get t=fr'.get t):ev C fr x=ev C fr' x:=by
 cases x with
 |tmp t=>simp only[ev,h t rfl]
 |_=>rfl
theorem mem_reads{ops:Array Oper}{o:Oper}{t:Tmp}(h:Operand.tmp t∈o.op.operands):t∈reads ops o:=
 List.mem_append_left _ (List.mem_filterMap.2 ⟨.tmp t,by simpa using h,rfl⟩)
theorem OJ{fr fr':Fr}{ops:Array Oper}{o:Oper}(hn:fr.n=fr'.n)(h:∀t∈reads ops o,fr.get t=fr'.get t):AR fr ops o=AR fr' ops o:=by
 unfold AR;cases hg:o.guard with
 |none=>rfl
 |some jw=>
  obtain⟨j,want⟩:=jw;simp only;cases hb:(ops[j]?).bind (·.dst)with
  |none=>rfl
  |some t=>
   simp only[hn];rw[h t (zQ _ (by simp[hg,hb]))]
def ME(l:List Tmp)(fr:Fr):Fr:=⟨fr.n,l.foldr (fun t m=>m.set t (some (fr.get t))) .leaf⟩
def Gc(l:List Tmp)(a:Act):Act:={ a with tmps:=Array.ofFn (n:=a.tmps.size) fun t=>if l.contains t.1 then a.tmps.getD t undef else undef }
theorem Ji(l:List Tmp)(fr:Fr)(t:Tmp):(ME l fr).get t=if t∈l then fr.get t else .tup []:=by
 unfold ME Fr.get;induction l with
 |nil=>simp
 |cons x l ih=>
  simp only[List.foldr_cons,PM.Ci,yp];by_cases e:t=x
  ·subst e;simp
  ·simp only[e,if_false,false_or];exact ih
theorem Jx(l:List Tmp)(a:Act)(t:Tmp):(Gc l a).tmps.getD t undef=if t∈l then a.tmps.getD t undef else undef:=by
 unfold Gc;by_cases h:t<a.tmps.size
 ·simp[h]
 ·simp only[zm];rw[zt (by simpa using zI h),zt (zI h)];simp
section
variable {C:Ctx}{P:Program}{p:Pl}{h:H}{w:World}{fr:Fr}{a:Act}
structure bU(p:Pl)(fr:Fr)(a:Act)(l:List Tmp):Prop where
 n:fr.n=a.tmps.size
 get:∀t∈l,Aa p (fr.get t) (a.tmps.getD t undef)
theorem bU.LL{l:List Tmp}(hf:bU p fr a l):BN p (ME l fr) (Gc l a):=by
 refine⟨by simp[ME,Gc,hf.n],fun t=>?_⟩;rw[Ji,Jx];by_cases ht:t∈l
 ·simp only[ht,if_true];exact hf.get t ht
 ·simp only[ht,if_false];simp[Aa,undef]
theorem G3{ops:Array Oper}{o:Oper}{x:Operand}(hx:x∈o.op.operands):(Gc (reads ops o) a).eval x=a.eval x:=by
 cases x with
 |tmp t=>
  have:=Jx (reads ops o) a t;rw[if_pos (mem_reads hx)]at this;exact this
 |_=>rfl
theorem N4{ops:Array Oper}{o:Oper}{x:Operand}(hx:x∈o.op.operands):ev C (ME (reads ops o) fr) x=ev C fr x:=by
 refine YU fun t ht=>?_
 subst ht;rw[Ji,if_pos (mem_reads hx)]
theorem Hg(hC:C.Ok P)(hr:R p h w)(hg:Gl C p){ops:Array Oper}{o:Oper}(hf:bU p fr a (reads ops o))(hs:∀cs b,o.op≠ .select cs b){r:OR}(hd:EP C fr h o=some r):
  OU p h w r ((execOp a.eval o).run P w):=by
 have h1:=VN hC hr hg hf.LL (o:=o) (r:=r) (by rw[Tw (fr':=fr) fun x hx=>N4 hx];exact hd);rwa [execOp_congr o hs fun x hx=>G3 hx]at h1
theorem Nb{ops:Array Oper}{o:Oper}(hf:bU p fr a (reads ops o)):yc o (yielded ops a.tmps)=AR fr ops o:=by
 have h1:=NC hf.LL ops o;rw[OJ (fr:=ME (reads ops o) fr) (fr':=fr) (ops:=ops) (o:=o) rfl fun t ht=>by rw[Ji,if_pos ht]]at h1;rw[←h1];unfold yc;cases hg:o.guard with
 |none=>rfl
 |some jw=>
  obtain⟨j,want⟩:=jw;simp only;congr 1;unfold yielded;cases hb:(ops[j]?).bind (·.dst)with
  |none=>rfl
  |some t=>
   simp only[Option.bind_some];have ht:t∈reads ops o:=zQ _ (by simp[hg,hb]);have:=Jx (reads ops o) a t;rw[if_pos ht]at this;by_cases hlt:t<a.tmps.size
   ·have e1:a.tmps[t]?=some (a.tmps.getD t undef):=by simp[hlt]
    have e2:(Gc (reads ops o) a).tmps[t]?=some ((Gc (reads ops o) a).tmps.getD t undef):=by simp[Gc,hlt]
    rw[e1,e2,this]
   ·rw[zt (zI hlt),zt (by simpa [Gc]using zI hlt)]
end
def Db(o:Oper):Bool:=
 match o.op with
 | .move _| .assign _| .pick .. | .build .. | .load .. | .nilCheck _| .binOp .. | .unOp .. | .convert .. | .makeInterface .. | .makeFunc .. | .slice .. | .fieldAddr .. | .field .. | .indexAddr .. | .index .. | .lookup .. | .extract .. =>true
 | .call { callee:=.builtin .len,.. }| .call { callee:=.builtin .max,.. }| .call { callee:=.builtin .min,.. }=>true
 |_=>false
def Mw(o:Oper):Bool:=
 match o.op with
 | .load .. | .convert .. | .lookup .. =>true
 | .call { callee:=.builtin .len,.. }=>true
 |_=>false
def BE(o:Oper):Bool:=
 match o.op with
 | .alloc _| .box .. | .buildSlice .. =>true
 |_=>false
theorem Es{h:H}{v:Option V}{r:OR}(hd:A6 h v=some r):∃x,v=some x∧r=.val x h:=by
 cases v with
 |none=>cases hd
 |some x=>cases hd;exact⟨x,rfl,rfl⟩
theorem rd_val{C:Ctx}{fr:Fr}{h:H}{o:Oper}(hk:Db o=true){r:OR}(hd:EP C fr h o=some r):∃v,r=.val v h:=by
 obtain⟨dst,op,type,pos,after,guard⟩:=o;cases op<;>simp only[Db]at hk<;>simp only[Ch,Fb]at hd<;>try (cases hk;done)
 case call c=>
  obtain⟨callee,args,ts⟩:=c;cases callee with
  |builtin b=>
   cases he:Nt C fr args.toList with
   |none=>simp[he]at hd
   |some gG=>
    simp only[he]at hd;cases b<;>first|(cases hk;done)|(simp only[C1]at hd;obtain⟨x,_,rfl⟩:=Es hd;exact⟨x,rfl⟩)
  |value f=>cases hk
  |invoke=>cases hk
 all_goals
  repeat' split at hd
  all_goals first
   |(cases hd;done)
   |(obtain⟨x,_,rfl⟩:=Es hd;exact⟨x,rfl⟩)
theorem Vp{C:Ctx}{fr:Fr}{h:H}{o:Oper}(hk:Db o=true)(hn:Mw o=false){v:V}(hd:EP C fr h o=some (.val v h))(h':H):EP C fr h' o=some (.val v h'):=by
 have key:∀ {x:Option V},A6 h x=some (.val v h)→A6 h' x=some (.val v h'):=by
  intro x hx;obtain⟨y,rfl,e⟩:=Es hx;cases e;rfl
 obtain⟨dst,op,type,pos,after,guard⟩:=o;cases op<;>simp only[Db]at hk<;>simp only[Mw]at hn<;>simp only[Ch,Fb]at hd ⊢<;>try (first|(cases hk;done)|(cases hn;done))
 case call c=>
  obtain⟨callee,args,ts⟩:=c;cases callee with
  |builtin b=>
   cases he:Nt C fr args.toList with
   |none=>simp[he]at hd
   |some gG=>
    simp only[he]at hd ⊢;cases b<;>first|(cases hk;done)|(cases hn;done)|(simp only[C1]at hd ⊢;exact key hd)
  |value f=>cases hk
  |invoke=>cases hk
 all_goals
  repeat' split at hd
  all_goals first
   |(cases hd;done)
   |exact key hd
   |(simp only[*];exact key hd)
end
end Go.Det
end
section
namespace Go.Det
noncomputable section
section
variable {C:Ctx}{P:Program}{p:Pl}{h:H}{w:World}{fr:Fr}{a:Act}
def QL(T:BA)(t:TypeId)(len:Nat)(parts:List (Nat×V)):Option (List V×TypeId):=
 match T.und t with
 |some (.slice e)=>match T.inf e with
  |some i=>
   bif zz (len*i.size) 16777216&&zA 0 (i.zero.length)&&zl i.zero.length i.size then
    (GO (fun k=>some (k*i.size,i.size)) (DH i.zero (len*i.size)) parts).map fun cs=>(cs,e)
   else none
  |none=>none
 |_=>none
def UD(C:Ctx)(fr:Fr)(o:Oper):Option (O×(Nat→V)):=
 match o.op with
 | .alloc t=>match C.T.inf t with
  |some i=>some (.cells i.zero t (0,0),fun b=>.ptr b 0)
  |none=>none
 | .box t x=>match ev C fr x with
  |some v=>some (.cells v.cells t (0,0),fun b=>.ptr b 0)
  |none=>none
 | .buildSlice t n parts=>match Rd C fr parts.toList with
  |some ps=>match QL C.T t n ps with
   |some (cs,e)=>some (.cells cs e (0,0),fun b=>.sl b 0 n n 0)
   |none=>none
  |none=>none
 |_=>none
theorem Wf{o:Oper}{r:O×(Nat→V)}(hd:UD C fr o=some r):BE o=true:=by
 unfold UD at hd;unfold BE;split at hd<;>simp_all
theorem aT(hC:C.Ok P)(hg:Gl C p){ops:Array Oper}{o:Oper}(hf:bU p fr a (reads ops o)){ob:O}{f:Nat→V}(hd:UD C fr o=some (ob,f)):
  ∃x n v',(execOp a.eval o).run P w=.ok (.value v') { w with heap:=w.heap.push x }∧EE p n ob x∧∀(q:Pl) b,q[b]?=some (w.heap.size,n)→Aa q (f b) v':=by
 have hsel:∀cs b,o.op≠ .select cs b:=by
  intro cs b e;have:=Wf hd;simp[BE,e]at this
 have hE:∀(P:Program) (w:World),(execOp (Gc (reads ops o) a).eval o).run P w=(execOp a.eval o).run P w:=fun P w=>by rw[execOp_congr o hsel fun x hx=>G3 hx]
 have hk:=hf.LL;have cellsO:∀(t:TypeId) (cs:List V) (c:Array Value),Al p cs c.toList→EE p c.size (.cells cs t (0,0)) (.cells c t):=by
  intro t cs c hx;refine⟨c,(0,0),rfl,rfl,by have:=hx.length;simp at this;omega,?_,fun i _ h1 h2=>⟨h1,h2⟩⟩;have:=hx.length;rw[yf (by simp at this ⊢;omega)];exact hx.dF
 unfold UD at hd;split at hd
 case h_4=>cases hd
 case h_1=>
  rename_i t ho;split at hd
  case h_2=>cases hd
  rename_i i hi;cases hd;obtain⟨z,hz,hzr⟩:=Dh hC.T hi;refine⟨.cells z.cells t,_,.pointer (some ⟨w.heap.size,0,none⟩),?_,cellsO _ _ _ (hzr p),fun q b hb=>by simp only[Aa];exact⟨_,_,hb,rfl⟩⟩;unfold execOp;simp only[ho];unfold Instr.alloc newVar;simp only[zd,hz,zc,BB,zf]
 case h_2=>
  rename_i t x ho;split at hd
  case h_2=>cases hd
  rename_i v hv;cases hd;have hx:Aa p v (a.eval x):=by
   have:=AP (C:=C) hg hk (x:=x) (v:=v) (by rw[N4 (by simp[ho,z8])];exact hv);rwa [G3 (by simp[ho,z8])]at this
  refine⟨.cells (a.eval x).cells t,_,.pointer (some ⟨w.heap.size,0,none⟩),?_,cellsO _ _ _ hx.cells,fun q b hb=>by simp only[Aa];exact⟨_,_,hb,rfl⟩⟩;unfold execOp;simp only[ho];unfold Instr.box newVar;simp only[zd,zc,BB,zf]
 case h_3=>
  rename_i t len parts ho;split at hd
  case h_2=>cases hd
  rename_i ps hps;split at hd
  case h_2=>cases hd
  rename_i cs e hcs;cases hd;have hp:P4 p ps (parts.map fun(i,x)=>(i,a.eval x)).toList:=by
   have:=Kq (C:=C) (fr:=ME (reads ops o) fr) hg hk (xs:=parts.toList) (vs:=ps) (by
    rw[Hq (fr':=fr) fun x hx=>N4 (by rw[ho];simp[z8];exact⟨x.1,by simpa using hx⟩)];exact hps)
   have e2:(parts.toList.map fun(i,x)=>(i,(Gc (reads ops o) a).eval x))=(parts.map fun(i,x)=>(i,a.eval x)).toList:=by
    rw[Array.toList_map];apply List.map_congr_left;rintro⟨i,x⟩ hm;simp only;rw[G3 (by rw[ho];simp[z8];exact⟨i,by simpa using hm⟩)]
   rwa [e2]at this
  unfold QL at hcs;split at hcs
  case h_2=>cases hcs
  rename_i e' hu;split at hcs
  case h_2=>cases hcs
  rename_i i hi;cases hcond:(zz (len*i.size) 16777216&&zA 0 (i.zero.length)&&zl i.zero.length i.size)with
  |false=>simp[hcond]at hcs
  |true=>
   simp only[hcond,cond_true,zg,zj]at hcs;obtain⟨cs',hcs',rfl,rfl⟩:=hcs;simp only[zu,zF,Nat.blt_eq,A1,decide_eq_true_eq]at hcond;obtain⟨⟨c1,c2⟩,c3⟩:=hcond;obtain⟨z,hz,hzr⟩:=Dh hC.T hi;have hzl:=(hzr p).length;simp at hzl;obtain⟨oo,h1,h2⟩:=It (p:=p) (place:=fun k=>some (k*i.size,i.size)) hp (Hr (hzr p) c2 (len*i.size)) hcs';refine⟨.cells oo e',_,.slice (some ⟨w.heap.size,0,none⟩) len len,?_,cellsO _ _ _ h2,fun q b hb=>by simp only[Aa];exact⟨_,_,len,hb,rfl,zD _,zD _,fun _=>rfl,by simp⟩⟩;unfold execOp;simp only[ho];unfold Instr.buildSlice;simp only[zd,At hC.T hu,zc,A3 hC.T hi];rw[if_neg (by omega)];by_cases h0:len*i.size=0
   ·rw[if_pos h0];simp only[zd,zf,zc];have e1:(yr (fun x=>(#[]:Array Value)[x % (#[]:Array Value).size]!) (zY (len*i.size)))=yr (fun i_1=>z.cells[i_1 % z.cells.size]!) (zY (len*i.size)):=by simp[h0]
    rw[e1,h1];simp only[zd,BB,zc,zf]
   ·simp only[h0,if_false,zd,hz,zc,zf,h1,BB]
theorem Ext.We{p₀ p:Pl}{h₀ h:H}{w₀ w:World}(he:Ext p₀ h₀ w₀ p h w){r n:Nat}{o:O}{x:Obj}(hx:w.heap[r]?=some x)(ho:EE p n o x)(hi:¬Im p h r)(hnew:w₀.heap.size≤r):
  Ext p₀ h₀ w₀ (p++[(r,n)]) (h.push o) w:=by
 have hr:=he.rel;have hnewp:(p++[(r,n)])[h.nx]?=some (r,n):=by rw[←hr.len];simp
 have hold:∀b,b<h.nx→(p++[(r,n)])[b]?=p[b]?:=fun b hb=>zy (by rw[hr.len];exact hb)
 have get':∀c oc,(h.push o).get c=some oc→(c=h.nx∧oc=o)∨(c<h.nx∧h.get c=some oc):=by
  intro c oc hc;rw[H.Bd]at hc;by_cases e:c=h.nx
  ·rw[if_pos e]at hc;cases hc;exact .inl ⟨e,rfl⟩
  ·rw[if_neg e]at hc;exact .inr ⟨hr.lt hc,hc⟩
 refine⟨?_,⟨by simp[hr.len],fun c oc hc=>?_,fun c c' oc oc' s m m' hc hc' h1 h2=>?_⟩,he.size,he.same,fun s hs=>?_,he.os,he.out,he.tape,fun s hs hl=>?_⟩
 ·obtain⟨q,rfl⟩:=he.pre;exact⟨q++[(r,n)],by simp⟩
 ·rcases get' c oc hc with⟨rfl,rfl⟩|⟨e1,e2⟩
  ·exact⟨r,n,x,hnewp,hx,ho.mono _⟩
  ·obtain⟨s,m,y,k1,k2,k3⟩:=hr.obj c oc e2;exact⟨s,m,y,by rw[hold c e1];exact k1,k2,k3.mono _⟩
 ·rcases get' c oc hc with⟨rfl,rfl⟩|⟨e1,e2⟩<;>rcases get' c' oc' hc' with⟨rfl,rfl⟩|⟨f1,f2⟩
  ·rfl
  ·rw[hnewp]at h1;cases h1;rw[hold c' f1]at h2;exact absurd ⟨c',oc',m',f2,h2⟩ hi
  ·rw[hnewp]at h2;cases h2;rw[hold c e1]at h1;exact absurd ⟨c,oc,m,e2,h1⟩ hi
  ·rw[hold c e1]at h1;rw[hold c' f1]at h2;exact hr.inj c c' oc oc' s m m' e2 f2 h1 h2
 ·obtain⟨c,oc,m,k1,k2⟩:=hs;rcases get' c oc k1 with⟨rfl,rfl⟩|⟨e1,e2⟩
  ·rw[hnewp]at k2;cases k2;exact .inr hnew
  ·rw[hold c e1]at k2;exact he.im s ⟨c,oc,m,e2,k2⟩
 ·obtain⟨e1,h1⟩:=he.lock s hs hl;refine⟨e1,?_⟩;rcases h1 with⟨c,m,cs,t,fz,k1,k2,k3⟩|h1
  ·have hlc:=hr.lt k1;exact .inl ⟨c,m,cs,t,fz,by rw[H.Bd,if_neg (by omega)];exact k1,by rw[hold c hlc];exact k2,k3⟩
  ·refine .inr ?_;rintro⟨c,oc,m,k1,k2⟩;rcases get' c oc k1 with⟨rfl,rfl⟩|⟨f1,f2⟩
   ·rw[hnewp]at k2;cases k2;omega
   ·rw[hold c f1]at k2;exact h1 ⟨c,oc,m,f2,k2⟩
theorem Ext.aside{p₀ p:Pl}{h₀ h:H}{w₀ w:World}(he:Ext p₀ h₀ w₀ p h w)(x:Obj):Ext p₀ h₀ w₀ p h { w with heap:=w.heap.push x }:=by
 have hr:=he.rel;refine⟨he.pre,⟨hr.len,fun b o hb=>?_,hr.inj⟩,by have:=he.size;simp;omega,fun r hlt hn=>?_,he.im,he.os,he.out,he.tape,fun r hlt hl=>?_⟩
 ·obtain⟨r,n,y,h1,h2,h3⟩:=hr.obj b o hb;have:=(Array.getElem?_eq_some_iff.1 h2).1;exact⟨r,n,y,h1,by simp[zW,Nat.ne_of_lt this,h2],h3⟩
 ·have h1:=he.same r hlt hn;have:=he.size;simp only[zW];rw[if_neg (by omega)];exact h1
 ·obtain⟨h1,h2⟩:=he.lock r hlt hl;have:=he.size;refine⟨?_,h2⟩;simp only[zW];rw[if_neg (by omega)];exact h1
end
end
end Go.Det
end
