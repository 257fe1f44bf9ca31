import Derived.Test.YtnbinppdjnlhpaaGreatDoorX01
import Derived.Laws.IdiomStrings
import Derived.RangeFuncRecord
import Derived.LoopNIn
import Derived.OrdersIn
import Derived.RangeFuncLeaves
/- A part of a proof (no law is stated here). Made by program out of texts by AI agents. -/
open Go.Result renaming andThen_ok → zc
open Go.Sem renaming run_bind → zd, run_pure → zg, run → zr
open Array renaming getElem?_eq_some_iff → ze, getD_eq_getD_getElem? → zi, getElem?_eq_none → zn, getElem?_setIfInBounds_ne → zp, getElem?_toList → zq, toList_inj → zt, getElem?_push → zw
open Option.some renaming injEq → zf
open Option renaming map_eq_some_iff → zh
open List renaming getElem?_append_left → zj, mem_singleton → zl, getElem?_eq_some_iff → zo, mem_append_right → zy, all_cons → zT, mem_cons → zU
open Go.Instr renaming sameBits → zk, findAsking → zz, findNow → zC, range → zG, sameNow → zJ, findKey → zK, next → zN, lookup → zO, checkKey → zQ
open Go.Det.Ext renaming refl → zm, put → zR
open Nat renaming le_of_not_lt → zu, blt → zB, le_refl → zE, beq → zS
open Bool renaming false_eq_true → zx, and_eq_true → zA
open Go.Oper renaming semAt_eq → zD
open Go.Fence renaming wide → zF
open Go.Op renaming operands → zH
open Prod.mk renaming injEq → zI
open Go.Region renaming wanted → zL
open Go.Deferred renaming ofValue → zM
open Go.Question renaming forced → zP
open Go.Act renaming put → zV
section
namespace Go.Det
noncomputable section
section
variable {T:BZ}{P:Program}{p:Pl}{h:H}{w:World}
def XO(T:BZ)(h:H)(ts:Array TypeId)(args:List V):Option (V×H):=
 match ts[0]?,args with
 |some t,[d,x]=>
  match T.und t,N7 d,N7 x with
  |some (.slice e),some dl,some n=>
   match T.inf e with
   |some i=>
    match src h i.size x (Nat.min n dl)with
    |some new=>
     match d with
     | .nils=>some (i64 (Nat.min n dl),h)
     | .sl b off _ _ _=>(wr h b off new).map fun h'=>(i64 (Nat.min n dl),h')
     |_=>none
    |none=>none
   |none=>none
  |_,_,_=>none
 |_,_=>none
theorem XD(hT:T.Ok P)(hr:R p h w){ts:Array TypeId}{t:TypeId}{args:List V}{args':Array Value}(ha:Aq p args args'.toList){v:V}{h':H}(hd:XO T h ts args=some (v,h')):
  ∃v' p' w',(Builtin.copy_ ts t args').run P w=.ok v' w'∧Aa p' v v'∧Ext p h w p' h' w':=by
 unfold XO at hd;split at hd
 case h_2=>cases hd
 rename_i t0 d x ht0;obtain⟨d',x',hargs,hdr,hx⟩:=ha.two;have hne:args'= #[d',x']:=by apply Array.ext';simpa using hargs
 subst hne;split at hd
 case h_2=>cases hd
 rename_i e dl n hu hdl hn;split at hd
 case h_2=>cases hd
 rename_i i hi;split at hd
 case h_2=>cases hd
 rename_i new hnew;obtain⟨vn,hvn,hvnr⟩:=JD (P:=P) hr hx hnew;unfold Builtin.copy_;simp only[ht0,List.getElem?_toArray,List.getElem?_cons_zero,List.getElem?_cons_succ,zd,Au hT hu,zc];split at hd
 case h_3=>cases hd
 case h_1=>
  simp only[Aa]at hdr;subst hdr;simp only[N7,zf]at hdl;subst hdl;cases hd;simp only[zd,LP hx hn,Bg hT hi,zc,hvn];refine⟨_,p,w,zg ..,?_,zm hr⟩;simp[i64,Aa,goInt]
 case h_2=>
  rename_i b off len cap o;simp only[N7,zf]at hdl;subst hdl;simp only[Aa]at hdr;obtain⟨r,m,c,hp,rfl,_⟩:=hdr;rw[zh]at hd;obtain⟨h1,hw,he⟩:=hd;cases he;obtain⟨r',m',w',g1,g2,g3⟩:=PJ (P:=P) hr hvnr hw;rw[hp]at g1;cases g1;simp only[zd,LP hx hn,Bg hT hi,zc,hvn,g2];refine⟨_,p,w',zg ..,?_,g3⟩;simp[i64,Aa,goInt]
def Qr(T:BZ)(h:H)(t:TypeId)(x:V):Option (V×H):=
 match T.und t,x with
 |some .string,.str s=>some (.ptr h.nx 0,h.push (.siter s 0))
 |_,_=>none
theorem V3(hT:T.Ok P)(hr:R p h w){t:TypeId}{x:V}{x':Value}(hx:Aa p x x'){v:V}{h':H}(hd:Qr T h t x=some (v,h')):
  ∃v' p' w',(zG t x').run P w=.ok v' w'∧Aa p' v v'∧Ext p h w p' h' w':=by
 unfold Qr at hd;split at hd
 case h_2=>cases hd
 rename_i s hu;cases hd;simp only[Aa]at hx;subst hx;have he:=Ext.push (n:=0) hr (o:=.siter s 0) (x:=.stringIter (bytesOf s) 0) rfl;refine⟨.pointer (some ⟨w.heap.size,0,none⟩),_,_,?_,?_,he⟩
 ·unfold zG;simp only[zd,Au hT hu,zc,zg,run_newObj]
 ·simp only[Aa];exact⟨w.heap.size,0,by rw[←hr.len];simp,rfl⟩
def KI(h:H)(it:V)(isStr:Bool):Option (V×H):=
 match it,isStr with
 | .ptr b 0,true=>
  match h.get b with
  |some (.siter s pos)=>
   bif zB pos s.length then
    some (.tup [.bool true,i64 pos,.int .i32 (Utf8.decode (bytesOf s) pos).1],h.put b (.siter s (pos+(Utf8.decode (bytesOf s) pos).2)))
   else some (.tup [.bool false],h)
  |_=>none
 |_,_=>none
theorem WX(hr:R p h w){it:V}{it':Value}{isStr:Bool}{t:TypeId}(hx:Aa p it it'){v:V}{h':H}(hd:KI h it isStr=some (v,h')):
  ∃v' p' w',(zN it' isStr t).run P w=.ok v' w'∧Aa p' v v'∧Ext p h w p' h' w':=by
 unfold KI at hd;split at hd
 case h_2=>cases hd
 rename_i b;simp only[Aa]at hx;obtain⟨r,n,hp,rfl⟩:=hx;split at hd
 case h_2=>cases hd
 rename_i s pos hb;obtain⟨r',n',x,h1,h2,h3⟩:=hr.obj _ _ hb;rw[hp]at h1;cases h1;simp only[Gg]at h3;subst h3;rw[Fj]at hd;unfold zN;simp only[zd,getObj,zr,h2,zc,Bw];by_cases hlt:pos<s.length
 ·simp only[hlt,decide_true,cond_true,zf,zI]at hd;obtain⟨rfl,rfl⟩:=hd;simp only[hlt,if_true,zd,setObj,zr,h2,zc];refine⟨_,p,_,zg ..,?_,zR hr hb hp (o':=.siter s (pos+(Utf8.decode (bytesOf s) pos).2)) rfl rfl rfl rfl rfl⟩;simp[Aa,i64,goInt]
 ·simp only[hlt,decide_false,cond_false,zf,zI]at hd;obtain⟨rfl,rfl⟩:=hd;simp only[hlt,if_false];exact⟨_,p,w,zg ..,by simp[Aa],zm hr⟩
def GY(h:H)(r:Option V):Option (V×H):=
 match r with
 |none=>some (.map h.nx,h.push (.map [] 0))
 |some _=>none
theorem RS(hr:R p h w){t:TypeId}{r:Option V}{r':Option Value}(hx:EV p r r'){v:V}{h':H}(hd:GY h r=some (v,h')):
  ∃v' p' w',(Instr.makeMap t r').run P w=.ok v' w'∧Aa p' v v'∧Ext p h w p' h' w':=by
 unfold GY at hd;split at hd
 case h_2=>cases hd
 cases hd;simp only[EV]at hx;subst hx;have he:=Ext.push (n:=0) hr (o:=.map [] 0) (x:=.map #[] 0) ⟨#[],rfl,.nil⟩;refine⟨.map (some w.heap.size),_,_,?_,?_,he⟩
 ·unfold Instr.makeMap;simp
 ·simp only[Aa];exact⟨w.heap.size,0,by rw[←hr.len];simp,rfl⟩
def Xk(T:BZ)(kt:TypeId)(a b:V):Option Bool:=
 match T.und kt,a,b with
 |some (.int _),.int k x,.int k' y=>if k=k' then some (x==y)else none
 |some .string,.str x,.str y=>some (x==y)
 |some .bool,.bool x,.bool y=>some (x==y)
 |_,_,_=>none
def JK(T:BZ)(kt:TypeId)(k:V):List (V×V×Nat)→Nat→Option (Option (Nat×V))
 |[],_=>some none
 |(a,v,_)::es,i=>
  match Xk T kt k a with
  |some true=>some (some (i,v))
  |some false=>JK T kt k es (i+1)
  |none=>none
def plainKey:V→Bool
 | .int .. | .str _| .bool _=>true
 |_=>false
theorem bytes_beq(x y:ByteArray):(x==y)=(x.data==y.data):=rfl
theorem T3{kt:TypeId}{a b:V}{a' b':Value}(ha:Aa p a a')(hb:Aa p b b'){r:Bool}(hd:Xk T kt a b=some r){d:TypeDesc}(hu:T.und kt=some d):
  zJ d a' b'=some r∧(r=true→a'=b'):=by
 unfold Xk at hd;split at hd
 case h_1=>
  rename_i hu';rw[hu]at hu';cases hu';simp only[Aa]at ha hb;subst ha hb;split at hd
  ·rename_i e;subst e;cases hd;exact⟨by simp[zJ],fun h=>by simp at h;subst h;rfl⟩
  ·cases hd
 case h_2=>
  rename_i hu';rw[hu]at hu';cases hu';simp only[Aa]at ha hb;subst ha hb;cases hd;refine⟨?_,fun h=>by simp at h;subst h;rfl⟩;simp only[zJ];congr 1;rw[bytes_beq,Bool.eq_iff_iff];simp[bytesOf]
 case h_3=>
  rename_i hu';rw[hu]at hu';cases hu';simp only[Aa]at ha hb;subst ha hb;cases hd;exact⟨rfl,fun h=>by simp at h;subst h;rfl⟩
 case h_4=>cases hd
theorem WA{kt:TypeId}{k:V}{k':Value}(hk:Aa p k k'){d:TypeDesc}(hu:T.und kt=some d):
  ∀ {es:List (V×V×Nat)} {l:List MapEntry},C8 p es l→∀ {i:Nat} {r:Option (Nat×V)},JK T kt k es i=some r→
  ∃r',zC d k' l i=some r'∧(match r with|none=>r'=none|some (j,v)=>∃v',r'=some (j,v')∧Aa p v v'∧i≤j∧∃e,l[j-i]?=some e∧e.key=k'):=by
 intro es l he;induction he with
 |nil=>intro i r hd;simp only[JK,zf]at hd;subst hd;exact⟨none,rfl,rfl⟩
 |@cons a v b es e l h1 h2 h3 _ ih=>
  intro i r hd;unfold JK at hd;split at hd
  case h_1=>
   rename_i hq;cases hd;obtain⟨g1,g2⟩:=T3 hk h1 hq hu;exact⟨some (i,e.val),by simp[zC,g1],e.val,rfl,h2,zE _,e,by simp,(g2 rfl).symm⟩
  case h_2=>
   rename_i hq;obtain⟨g1,_⟩:=T3 hk h1 hq hu;obtain⟨r',k1,k2⟩:=ih hd;refine⟨r',by simp[zC,g1,k1],?_⟩;cases r with
   |none=>exact k2
   |some jv=>
    obtain⟨j,v⟩:=jv;obtain⟨v',m1,m2,m3,e',m4,m5⟩:=k2;refine⟨v',m1,m2,by omega,e',?_,m5⟩;have:j-i=(j-(i+1))+1:=by omega
    rw[this];simpa using m4
  case h_3=>cases hd
theorem run_checkKey{k:V}{k':Value}(hk:Aa p k k')(hp:plainKey k=true)(hT:T.Ok P){kt:TypeId}{d:TypeDesc}(hu:T.und kt=some d)(hs:Dp d=false)(hi:∀ms,d≠ .interface ms)(b:Bool):
  (zQ b 10000 kt k').run P w=.ok () w:=by
 unfold zQ;rw[zd,Au hT hu];simp only[zc];cases k<;>simp only[plainKey]at hp<;>simp only[Aa]at hk
 case bool|int|str=>
  subst hk;cases d<;>first|rfl|(cases hs;done)|exact absurd rfl (hi _)
 all_goals cases hp
def Xd:TypeDesc→Bool
 | .int _| .string| .bool=>true
 |_=>false
theorem VN{d:TypeDesc}(h:Xd d=true):Dp d=false∧∀ms,d≠ .interface ms:=by
 cases d<;>first|(cases h;done)|exact⟨rfl,fun ms e=>by cases e⟩
theorem NV{k:V}{k':Value}(hk:Aa p k k')(hp:plainKey k=true):zk 10000 k' k'=true:=by
 cases k<;>simp only[plainKey]at hp<;>simp only[Aa]at hk
 case bool=>subst hk;simp[zk]
 case int=>subst hk;simp[zk]
 case str=>subst hk;simp[zk,bytes_beq]
 all_goals cases hp
theorem RI{a b:V}{a' b':Value}(ha:Aa p a a')(hb:Aa p b b')(h:C9 a b=some true):a'=b':=by
 unfold C9 at h;split at h
 case h_1=>simp only[Aa]at ha hb;subst ha hb;simp at h;subst h;rfl
 case h_2=>
  split at h
  ·rename_i e;subst e;simp only[Aa]at ha hb;subst ha hb;simp at h;subst h;rfl
  ·cases h
 case h_3=>simp only[Aa]at ha hb;subst ha hb;simp at h;subst h;rfl
 case h_4=>cases h
theorem JL:∀ {xs ys:List V} {x y:List Value},Aq p xs x→Aq p ys y→BD xs ys=some true→x=y
 |[],[],x,y,hx,hy,_=>by simp at hx hy;subst hx hy;rfl
 |[],_::_,_,_,_,_,h=>by simp[BD]at h
 |_::_,[],_,_,_,_,h=>by simp[BD]at h
 |a::qB,b::bs,x,y,hx,hy,h=>by
  simp only[Aq]at hx hy;obtain⟨u,us,rfl,h1,h2⟩:=hx;obtain⟨v,vs,rfl,h3,h4⟩:=hy;unfold BD at h;split at h
  case h_1=>
   rename_i hc;rw[RI h1 h3 hc,JL h2 h4 h]
  case h_2=>split at h<;>cases h
  case h_3=>cases h
theorem R5:∀ {ks:List FK} {xs:List V} {x:List Value},fit ks xs=true→Aq p xs x→(x.zip x).all (fun(a,b)=>zk 9999 a b)=true
 |[],[],x,_,hx=>by simp at hx;subst hx;rfl
 |[],_::_,_,h,_=>by simp[fit]at h
 |_::_,[],_,h,_=>by simp[fit]at h
 |k::ks,v::vs,x,h,hx=>by
  simp only[Aq]at hx;obtain⟨u,us,rfl,h1,h2⟩:=hx;unfold fit at h;cases hk:k.ok v with
  |false=>simp[hk]at h
  |true=>
   simp only[hk,cond_true]at h;have h3:=R5 h h2;simp only[List.zip_cons_cons,zT,h3,Bool.and_true];unfold FK.ok at hk;split at hk
   case h_1=>simp only[Aa]at h1;subst h1;simp[zk]
   case h_2=>simp only[Aa]at h1;subst h1;simp[zk,bytes_beq]
   case h_3=>simp only[Aa]at h1;subst h1;simp[zk]
   case h_4=>cases hk
def MQ(ks:List FK)(k:List V):List (V×V×Nat)→Nat→Option (Option (Nat×V))
 |[],_=>some none
 |(a,v,_)::es,i=>
  match a with
  | .agg ys=>match KQ (some ks) k ys with
   |some true=>some (some (i,v))
   |some false=>MQ ks k es (i+1)
   |none=>none
  |_=>none
def Hp(T:BZ)(kt:TypeId)(d:TypeDesc)(k:V):Bool:=
 match k with
 | .agg xs=>match T.flat kt with
  |some ks=>fit ks xs
  |none=>false
 |k=>plainKey k&&Xd d
def IA(T:BZ)(kt:TypeId)(k:V)(es:List (V×V×Nat)):Option (Option (Nat×V)):=
 match k with
 | .agg xs=>match T.flat kt with
  |some ks=>MQ ks xs es 0
  |none=>none
 |k=>JK T kt k es 0
theorem MM(hT:T.Ok P){kt:TypeId}{ks:List FK}(hf:T.flat kt=some ks){xs:List V}{x:Array Value}(hx:Aq p xs x.toList):
  ∀ {es:List (V×V×Nat)} {l:List MapEntry},C8 p es l→∀ {i:Nat} {r:Option (Nat×V)},MQ ks xs es i=some r→
  ∃r',(zz kt (.agg x) l i).run P w=.ok r' w∧(match r with|none=>r'=none|some (j,v)=>∃v',r'=some (j,v')∧Aa p v v'∧i≤j∧∃e,l[j-i]?=some e∧e.key=.agg x):=by
 intro es l he;induction he with
 |nil=>intro i r hd;simp only[MQ,zf]at hd;subst hd;exact⟨none,rfl,rfl⟩
 |@cons a v b es e l h1 h2 h3 _ ih=>
  intro i r hd;unfold MQ at hd;split at hd
  case h_2=>cases hd
  rename_i ys;simp only[Aa]at h1;obtain⟨y,hy,h1⟩:=h1;split at hd
  case h_3=>cases hd
  case h_1=>
   rename_i hc;cases hd;obtain⟨l',e1,g1,g2,g3⟩:=Gc hc;cases e1;refine⟨some (i,e.val),?_,e.val,rfl,h2,zE _,e,by simp,?_⟩
   ·simp only[zz,zd,hy,hT.flat kt ks hf p xs ys x y true w g1 g2 hx h1 g3,zc,if_true,zg]
   ·rw[hy];have:=JL hx h1 g3;congr 1;exact(zt.1 this).symm
  case h_2=>
   rename_i hc;obtain⟨l',e1,g1,g2,g3⟩:=Gc hc;cases e1;obtain⟨r',k1,k2⟩:=ih hd;refine⟨r',?_,?_⟩
   ·simp only[zz,zd,hy,hT.flat kt ks hf p xs ys x y false w g1 g2 hx h1 g3,zc,zx,if_false];exact k1
   ·cases r with
    |none=>exact k2
    |some jv=>
     obtain⟨j,v⟩:=jv;obtain⟨v',m1,m2,m3,e',m4,m5⟩:=k2;refine⟨v',m1,m2,by omega,e',?_,m5⟩;have:j-i=(j-(i+1))+1:=by omega
     rw[this];simpa using m4
theorem H3(hT:T.Ok P){kt:TypeId}{d:TypeDesc}(hu:T.und kt=some d){k:V}{k':Value}(hk:Aa p k k')(hc:Hp T kt d k=true)(b:Bool):
  (zQ b 10000 kt k').run P w=.ok () w:=by
 unfold Hp at hc;split at hc
 case h_1=>
  rename_i xs;split at hc
  case h_2=>cases hc
  rename_i ks hf;simp only[Aa]at hk;obtain⟨x,rfl,hx⟩:=hk;exact hT.key kt ks hf p xs x b w hc hx
 case h_2=>
  simp only[zA]at hc;obtain⟨g1,g2⟩:=VN hc.2;exact run_checkKey hk hc.1 hT hu g1 g2 b
theorem Tk{kt:TypeId}{d:TypeDesc}{k:V}{k':Value}(hk:Aa p k k')(hc:Hp T kt d k=true):zk 10000 k' k'=true:=by
 unfold Hp at hc;split at hc
 case h_1=>
  rename_i xs;split at hc
  case h_2=>cases hc
  rename_i ks hf;simp only[Aa]at hk;obtain⟨x,rfl,hx⟩:=hk;have:=R5 hc hx;simp only[zk,beq_self_eq_true,Bool.true_and];exact this
 case h_2=>
  simp only[zA]at hc;exact NV hk hc.1
def entries(h:H)(m:V):Option (List (V×V×Nat)):=
 match m with
 | .nilm=>some []
 | .map b=>match h.get b with
  |some (.map es _)=>some es
  |_=>none
 |_=>none
def D4(T:BZ)(h:H)(t:TypeId)(m k:V)(ok:Bool):Option V:=
 match T.und t with
 |some (.map kt e)=>
  match T.und kt,entries h m with
  |some d,some es=>
   bif Hp T kt d k then
    match IA T kt k es with
    |some (some (_,v))=>some (bif ok then .tup [v,.bool true]else v)
    |some none=>match T.inf e with
     |some i=>some (bif ok then .tup [i.zv,.bool false]else i.zv)
     |none=>none
    |none=>none
   else none
  |_,_=>none
 |_=>none
theorem Ki(hr:R p h w){m:V}{m':Value}(hm:Aa p m m'){es:List (V×V×Nat)}(hd:entries h m=some es):
  (m'=.map none∧es=[])∨∃r l cl b n,m=.map b∧m'=.map (some r)∧p[b]?=some (r,n)∧h.get b=some (.map es cl)∧w.heap[r]?=some (.map l cl)∧C8 p es l.toList:=by
 unfold entries at hd;split at hd
 case h_1=>simp only[Aa]at hm;subst hm;cases hd;exact .inl ⟨rfl,rfl⟩
 case h_2=>
  simp only[Aa]at hm;obtain⟨r,n,hp,rfl⟩:=hm;split at hd
  case h_2=>cases hd
  rename_i es' cl hb;cases hd;obtain⟨r',n',o,h1,h2,l,h3,h4⟩:=hr.obj _ _ hb;rw[hp]at h1;cases h1;subst h3;exact .inr ⟨r,l,cl,_,_,rfl,rfl,hp,hb,h2,h4⟩
 case h_3=>cases hd
theorem run_findKey(hT:T.Ok P){kt:TypeId}{k:V}{k':Value}(hk:Aa p k k'){d:TypeDesc}(hu:T.und kt=some d){es:List (V×V×Nat)}{l:List MapEntry}(he:C8 p es l)
  {r:Option (Nat×V)} (hd:IA T kt k es=some r):
  ∃r',(zK kt k' l).run P w=.ok r' w∧(match r with|none=>r'=none|some (j,v)=>∃v',r'=some (j,v')∧Aa p v v'∧∃e,l[j]?=some e∧e.key=k'):=by
 by_cases hk2:∃xs,k=.agg xs
 ·obtain⟨xs,rfl⟩:=hk2;simp only[IA]at hd;cases hf:T.flat kt with
  |none=>simp[hf]at hd
  |some ks=>
   simp only[hf]at hd;simp only[Aa]at hk;obtain⟨x,rfl,hx⟩:=hk;obtain⟨fs,hfs⟩:=hT.kind kt ks hf;rw[hu]at hfs;cases hfs;obtain⟨r',h1,h2⟩:=MM (P:=P) (w:=w) hT hf hx he hd;refine⟨r',?_,?_⟩
   ·unfold zK;simp only[zd,Au hT hu,zc];cases l with
    |nil=>simp only[zC];simpa [zz]using h1
    |cons e l=>simp only[zC,zJ];exact h1
   ·cases r with
    |none=>exact h2
    |some jv=>
     obtain⟨j,v⟩:=jv;obtain⟨v',m1,m2,m3,e',m4,m5⟩:=h2;exact⟨v',m1,m2,e',by simpa using m4,m5⟩
 ·have hq:IA T kt k es=JK T kt k es 0:=by cases k<;>first|rfl|exact absurd ⟨_,rfl⟩ hk2
  rw[hq]at hd;obtain⟨r',h1,h2⟩:=WA hk hu he hd;refine⟨r',?_,?_⟩
  ·unfold zK;simp only[zd,Au hT hu,zc,h1,zg]
  ·cases r with
   |none=>exact h2
   |some jv=>
    obtain⟨j,v⟩:=jv;obtain⟨v',m1,m2,m3,e',m4,m5⟩:=h2;exact⟨v',m1,m2,e',by simpa using m4,m5⟩
theorem Ts(hT:T.Ok P)(hr:R p h w){t:TypeId}{m k:V}{m' k':Value}{ok:Bool}(hm:Aa p m m')(hk:Aa p k k'){v:V}(hd:D4 T h t m k ok=some v):
  ∃v',(zO t m' k' ok).run P w=.ok v' w∧Aa p v v':=by
 unfold D4 at hd;split at hd
 case h_2=>cases hd
 rename_i kt e hu;split at hd
 case h_2=>cases hd
 rename_i d es hkd hes;cases hc:Hp T kt d k with
 |false=>simp[hc]at hd
 |true=>
  simp only[hc,cond_true]at hd;obtain⟨l,hlr,hrun⟩:∃l:List MapEntry,C8 p es l∧(zO t m' k' ok).run P w=((zK kt k' l).run P w).andThen fun r w'=>
    match r with
    |some (_,v)=>.ok (if ok then .tuple #[v,.bool true]else v) w'
    |none=>((zeroValue e).run P w').andThen fun z w'=>.ok (if ok then .tuple #[z,.bool false]else z) w':=by
   rcases Ki hr hm hes with⟨rfl,rfl⟩|⟨r,l,cl,b,n,rfl,rfl,hp,hb,hw,he⟩
   ·refine⟨[],.nil,?_⟩;unfold zO;simp only[zd,Au hT hu,zc,zg,H3 hT hkd hk hc];congr 1;funext r w'
    cases r<;>simp
   ·refine⟨l.toList,he,?_⟩;unfold zO;simp only[zd,Au hT hu,zc,zg,H3 hT hkd hk hc,getObj,zr,hw];congr 1;funext r w'
    cases r<;>simp
  rw[hrun];split at hd
  case h_3=>cases hd
  case h_1=>
   rename_i j v0 hf;cases hd;obtain⟨r',k1,v',rfl,k3,_⟩:=run_findKey (P:=P) (w:=w) hT hk hkd hlr hf;simp only[k1,zc];cases ok
   ·exact⟨v',by simp,by simpa using k3⟩
   ·exact⟨.tuple #[v',.bool true],by simp,by simp only[cond_true,Aa];exact⟨_,rfl,by simp[k3,Aa]⟩⟩
  case h_2=>
   rename_i hf;split at hd
   case h_2=>cases hd
   rename_i i hi;cases hd;obtain⟨r',k1,k2⟩:=run_findKey (P:=P) (w:=w) hT hk hkd hlr hf;simp only at k2;subst k2;obtain⟨z,hz,hzr⟩:=iH hT hi;simp only[k1,zc,hz];cases ok
   ·exact⟨z,by simp,by simpa using hzr p⟩
   ·exact⟨.tuple #[z,.bool false],by simp,by simp only[cond_true,Aa];exact⟨_,rfl,by simp[hzr p,Aa]⟩⟩
def TL(es:List (V×V×Nat))(i:Nat)(k v:V):List (V×V×Nat):=es.modify i fun e=>(k,v,e.2.2)
theorem C8.modify{es:List (V×V×Nat)}{l:List MapEntry}(he:C8 p es l){k v:V}{k' v':Value}(hk:Aa p k k')(hv:Aa p v v')(i:Nat):
  C8 p (TL es i k v) (l.modify i fun e=>{ e with key:=k',val:=v' }):=by
 unfold TL;induction he generalizing i with
 |nil=>simp;exact .nil
 |@cons a x b es e l h1 h2 h3 h4 ih=>
  cases i with
  |zero=>simp;exact .cons hk hv h3 h4
  |succ i=>simp;exact .cons h1 h2 h3 (ih i)
theorem C8.snoc{es:List (V×V×Nat)}{l:List MapEntry}(he:C8 p es l){k v:V}{e:MapEntry}(hk:Aa p k e.key)(hv:Aa p v e.val):C8 p (es++[(k,v,e.born)]) (l++[e]):=by
 induction he with
 |nil=>exact .cons hk hv rfl .nil
 |cons h1 h2 h3 _ ih=>exact .cons h1 h2 h3 ih
def Gw(T:BZ)(h:H)(t:TypeId)(m k v:V):Option H:=
 match T.und t,m with
 |some (.map kt _),.map b=>
  match T.und kt,h.get b with
  |some d,some (.map es cl)=>
   bif Hp T kt d k then
    match IA T kt k es with
    |some (some (i,_))=>some (h.put b (.map (TL es i k v) cl))
    |some none=>some (h.put b (.map (es++[(k,v,cl)]) (cl+1)))
    |none=>none
   else none
  |_,_=>none
 |_,_=>none
theorem S8(hT:T.Ok P)(hr:R p h w){t:TypeId}{m k v:V}{m' k' v':Value}(hm:Aa p m m')(hk:Aa p k k')(hv:Aa p v v'){h':H}(hd:Gw T h t m k v=some h'):
  ∃w',(Instr.mapUpdate t m' k' v').run P w=.ok () w'∧Ext p h w p h' w':=by
 unfold Gw at hd;split at hd
 case h_2=>cases hd
 rename_i kt e b hu;split at hd
 case h_2=>cases hd
 rename_i d es cl hkd hb;cases hc:Hp T kt d k with
 |false=>simp[hc]at hd
 |true=>
  simp only[hc,cond_true]at hd;rcases Ki (es:=es) hr hm (by simp only[entries,hb])with⟨rfl,_⟩|⟨r,l,cl',b',n,e1,rfl,hp,hb',hw,he⟩
  ·simp[Aa]at hm
  ·cases e1;rw[hb]at hb';cases hb';unfold Instr.mapUpdate;simp only[zd,Au hT hu,zc,H3 hT hkd hk hc,getObj,zr,hw];split at hd
   case h_3=>cases hd
   case h_1=>
    rename_i j v0 hf;cases hd;obtain⟨r',k1,v1,rfl,k3,en,k4,k5⟩:=run_findKey (P:=P) (w:=w) hT hk hkd he hf;simp only[k1,zc];have hold:(l[j]?.map (·.key)).getD k'=k':=by
     have:l[j]?=some en:=by simpa using k4
     simp[this,k5]
    rw[hold];unfold Instr.keyThatStays;simp only[Tk hk hc,if_true,zd,zg,zc,setObj,zr,hw];refine⟨_,rfl,zR hr hb hp (o':=.map (TL es j k v) cl) ⟨_,rfl,?_⟩ rfl rfl rfl rfl⟩;have:=he.modify hk hv j;simpa using this
   case h_2=>
    rename_i hf;cases hd;obtain⟨r',k1,k2⟩:=run_findKey (P:=P) (w:=w) hT hk hkd he hf;simp only at k2;subst k2;simp only[k1,zc,setObj,zr,hw];refine⟨_,rfl,zR hr hb hp (o':=.map (es++[(k,v,cl)]) (cl+1)) ⟨_,rfl,?_⟩ rfl rfl rfl rfl⟩;have:=he.snoc (e:={ key:=k',val:=v',born:=cl }) hk hv;simpa using this
end
end
end Go.Det
end
section
namespace Go.Det
noncomputable section
section
variable {T:BZ}{P:Program}{p:Pl}{h:H}{w:World}
def Gs(T:BZ)(h:H)(t:TypeId)(x:V):Option (V×H):=
 match T.und t,x with
 |some (.map _ _),.nilm=>some (.ptr h.nx 0,h.push (.miter none 0 [] 0))
 |some (.map _ _),.map b=>match h.get b with
  |some (.map _ cl)=>some (.ptr h.nx 0,h.push (.miter (some b) cl [] cl))
  |_=>none
 |_,_=>Qr T h t x
theorem SV(hT:T.Ok P)(hr:R p h w){t:TypeId}{x:V}{x':Value}(hx:Aa p x x'){v:V}{h':H}(hd:Gs T h t x=some (v,h')):
  ∃v' p' w',(zG t x').run P w=.ok v' w'∧Aa p' v v'∧Ext p h w p' h' w':=by
 unfold Gs at hd;split at hd
 case h_1=>
  rename_i hu;cases hd;simp only[Aa]at hx;subst hx;have he:=Ext.push (n:=0) hr (o:=.miter none 0 [] 0) (x:=.mapIter none 0 #[] 0) rfl;refine⟨.pointer (some ⟨w.heap.size,0,none⟩),_,_,?_,?_,he⟩
  ·unfold zG;simp only[zd,Au hT hu,zc,zg,run_newObj]
  ·simp only[Aa];exact⟨w.heap.size,0,by rw[←hr.len];simp,rfl⟩
 case h_2=>
  rename_i b hu;split at hd
  case h_2=>cases hd
  rename_i es cl hb;cases hd;simp only[Aa]at hx;obtain⟨r,n,hp,rfl⟩:=hx;obtain⟨r',n',o,h1,h2,l,h3,h4⟩:=hr.obj _ _ hb;rw[hp]at h1;cases h1;subst h3;have hp':(p++[(w.heap.size,0)])[b]?=some (r,n):=by rw[zj (zo.1 hp).1];exact hp
  have he:=Ext.push (n:=0) hr (o:=.miter (some b) cl [] cl) (x:=.mapIter (some r) cl #[] cl) ⟨r,n,hp,rfl⟩;refine⟨.pointer (some ⟨w.heap.size,0,none⟩),_,_,?_,?_,he⟩
  ·unfold zG;simp only[zd,Au hT hu,zc,zg,getObj,zr,h2,run_newObj]
  ·simp only[Aa];exact⟨w.heap.size,0,by rw[←hr.len];simp,rfl⟩
 case h_3=>exact V3 hT hr hx hd
def P4(h:H)(it:V)(isStr:Bool):Option (List (V×H)):=
 match it,isStr with
 | .ptr b 0,false=>
  match h.get b with
  |some (.miter none _ _ _)=>some [(.tup [.bool false],h)]
  |some (.miter (some m) since seen last)=>
   match h.get m with
   |some (.map es cl)=>
    bif es.all (fun e=>zB e.2.2 since)&&Nat.ble since last then
     match es.filter (fun e=> !seen.contains e.2.2)with
     |[]=>some [(.tup [.bool false],h)]
     |left=>some (left.map fun e=>(.tup [.bool true,e.1,e.2.1],h.put b (.miter (some m) since (seen++[e.2.2]) cl)))
    else none
   |_=>none
  |_=>none
 |_,_=>none
theorem C8.get{es:List (V×V×Nat)}{l:List MapEntry}(he:C8 p es l):∀ {i:Nat} {e:MapEntry},l[i]?=some e→∃k v,es[i]?=some (k,v,e.born)∧Aa p k e.key∧Aa p v e.val:=by
 induction he with
 |nil=>intro i e h;simp at h
 |@cons k v b es e0 l h1 h2 h3 _ ih=>
  intro i e h;cases i with
  |zero=>simp at h;subst h;exact⟨k,v,by simp[h3],h1,h2⟩
  |succ i=>simp at h;simpa using ih h
theorem C8.filter{es:List (V×V×Nat)}{l:List MapEntry}(he:C8 p es l)(q:Nat→Bool):C8 p (es.filter fun e=>q e.2.2) (l.filter fun e=>q e.born):=by
 induction he with
 |nil=>exact .nil
 |@cons k v b es e0 l h1 h2 h3 _ ih=>
  simp only[List.filter_cons,h3];cases q b with
  |false=>exact ih
  |true=>exact .cons h1 h2 h3 ih
theorem C8.all{es:List (V×V×Nat)}{l:List MapEntry}(he:C8 p es l)(q:Nat→Bool):(es.all fun e=>q e.2.2)=l.all fun e=>q e.born:=by
 induction he with
 |nil=>rfl
 |@cons k v b es e0 l h1 h2 h3 _ ih=>simp only[zT,h3,ih]
theorem C8.find{es:List (V×V×Nat)}{l:List MapEntry}(he:C8 p es l)(q:Nat→Bool){e:V×V×Nat}(hf:es.find? (fun e=>q e.2.2)=some e):∃e',l.find? (fun e=>q e.born)=some e'∧Aa p e.1 e'.key∧Aa p e.2.1 e'.val:=by
 induction he with
 |nil=>simp at hf
 |@cons k v b es e0 l h1 h2 h3 _ ih=>
  simp only[List.find?_cons,h3]at hf ⊢;cases hq:q b with
  |false=>simp only[hq]at hf ⊢;exact ih hf
  |true=>simp only[hq]at hf ⊢;cases hf;exact⟨e0,rfl,h1,h2⟩
theorem WD(n:Nat)(hn:0<n):∃i d,(choose (.mapNext n)).run P w=.ok i { w with drawn:=d }∧i<n:=by
 rw[run_choose];by_cases h1:n≤1
 ·refine⟨0,w.drawn,?_,hn⟩;simp[zP,h1]
 ·refine⟨w.tape w.drawn (.mapNext n) % n,w.drawn+1,?_,Nat.mod_lt _ hn⟩;simp[zP,h1,Question.cut]
theorem V7(hr:R p h w){it:V}{it':Value}{isStr:Bool}{t:TypeId}(hx:Aa p it it'){l:List (V×H)}(hd:P4 h it isStr=some l):
  ∃v h' v' p' w',(v,h')∈l∧(zN it' isStr t).run P w=.ok v' w'∧Aa p' v v'∧Ext p h w p' h' w':=by
 unfold P4 at hd;split at hd
 case h_2=>cases hd
 rename_i b;simp only[Aa]at hx;obtain⟨r,n,hp,rfl⟩:=hx;split at hd
 case h_3=>cases hd
 case h_1=>
  rename_i since seen last hb;cases hd;obtain⟨r',n',x,h1,h2,h3⟩:=hr.obj _ _ hb;rw[hp]at h1;cases h1;simp only[Gg]at h3;subst h3;refine⟨_,_,.tuple #[.bool false],p,w,zl.2 rfl,?_,by simp[Aa],zm hr⟩;unfold zN;simp only[zd,getObj,zr,h2,zc];rfl
 case h_2=>
  rename_i m since seen last hb;split at hd
  case h_2=>cases hd
  rename_i es cl hm;cases hc:(es.all (fun e=>zB e.2.2 since)&&Nat.ble since last)with
  |false=>simp[hc]at hd
  |true=>
   simp only[hc,cond_true]at hd;simp only[zA,Nat.ble_eq]at hc;obtain⟨c1,c2⟩:=hc;obtain⟨r',n',x,h1,h2,h3⟩:=hr.obj _ _ hb;rw[hp]at h1;cases h1;simp only[Gg]at h3;obtain⟨rm,nm,hpm,rfl⟩:=h3;obtain⟨r2,n2,x2,k1,k2,l2,k3,k4⟩:=hr.obj _ _ hm;rw[hpm]at k1;cases k1;subst k3;rw[k4.all fun b=>zB b since]at c1;have hold:∀e∈l2.toList,e.born<since:=by
    intro e he;have:=List.all_eq_true.1 c1 e he;simpa using this
   have hno:(!seen.toArray.isEmpty&& !l2.isEmpty&&l2.all (·.born≥last))=false:=by
    cases hl:l2.toList with
    |nil=>
     have:l2= #[]:=zt.1 hl;simp[this]
    |cons e0 rest=>
     have hm0:e0∈l2.toList:=by rw[hl];simp
     have h0:=hold e0 hm0;have:l2.all (·.born≥last)=false:=by
      rw[←Array.all_toList,hl,zT];have:(decide (e0.born≥last))=false:=by simp;omega
      rw[this];rfl
     rw[this];simp
   have hfil:(l2.filter fun e=> !seen.toArray.contains e.born).toList=l2.toList.filter fun e=> !seen.contains e.born:=by
    simp
   have hleft:=k4.filter fun b=> !seen.contains b
   have e1:((l2.filter fun e=> !seen.toArray.contains e.born).filter (·.born<since))=l2.filter fun e=> !seen.toArray.contains e.born:=by
    apply zt.1;rw[Array.toList_filter,List.filter_eq_self];intro e he;rw[hfil]at he;simpa using hold e ((List.mem_filter.1 he).1)
   have e2:((l2.filter fun e=> !seen.toArray.contains e.born).filter (·.born≥since))= #[]:=by
    apply zt.1;rw[Array.toList_filter];simp only[List.filter_eq_nil_iff];intro e he;rw[hfil]at he;have:=hold e ((List.mem_filter.1 he).1);simp;omega
   unfold zN;simp only[zd,getObj,zr,h2,zc,k2];rw[if_neg (by rw[hno];simp)];simp only[e1,e2,Array.append_empty];generalize hL:(l2.filter fun e=> !seen.toArray.contains e.born)=L at*;rw[←hfil]at hleft;have hlen:=hleft.length;split at hd
   case h_1=>
    rename_i hnil;cases hd;have hL0:L= #[]:=by
     apply zt.1;apply List.length_eq_zero_iff.1;rw[←hlen,hnil];rfl
    subst hL0;refine⟨_,_,.tuple #[.bool false],p,w,zl.2 rfl,?_,by simp[Aa],zm hr⟩;simp[zd,zP]
   case h_2=>
    rename_i left hne;cases hd;have hpos:0<L.size:=by
     have:L.toList.length=L.size:=by simp
     rw[←this, ←hlen];cases hq:es.filter (fun e=> !seen.contains e.2.2)with
     |nil=>exact absurd hq hne
     |cons _ _=>simp
    have hemp:L.isEmpty=false:=by simp[Array.isEmpty];intro h0;rw[h0]at hpos;simp at hpos
    simp only[hemp,zx,if_false,Array.empty_append,Array.size_map];obtain⟨i,d,g1,g2⟩:=WD (P:=P) (w:=w) L.size hpos;simp only[zd,g1,zc];have hi:L[i]?=some L[i]:=by simp[g2]
    obtain⟨k,v,q1,q2,q3⟩:=hleft.get (i:=i) (e:=L[i]) (by simp[g2]);simp only[Array.getElem?_map,hi,Option.map_some,zd];have hdr:=Ext.drew hr d;have hput:=zR hdr.rel hb hp (o':=.miter (some m) since (seen++[L[i].born]) cl) (x':=.mapIter (some rm) since (seen.toArray.push L[i].born) cl) ⟨rm,nm,hpm,by simp⟩
     (w':={ { w with drawn:=d }with heap:=w.heap.setIfInBounds r (.mapIter (some rm) since (seen.toArray.push L[i].born) cl) }) rfl rfl rfl rfl
    refine⟨.tup [.bool true,k,v],_,.tuple #[.bool true,L[i].key,L[i].val],p,_,List.mem_map.2 ⟨(k,v,L[i].born),List.mem_of_getElem? q1,rfl⟩,?_,?_,hdr.trans hput⟩
    ·simp[setObj,zr,h2]
    ·simp only[Aa];exact⟨_,rfl,by simp[Aa,q2,q3]⟩
def Pg(h:H)(it:V):Option V:=
 match it with
 | .ptr b 0=>
  match h.get b with
  |some (.miter (some m) _ seen last)=>
   match h.get m with
   |some (.map es cl)=>
    bif zS cl last then
     match seen.getLast? with
     |some s=>match es.find? (fun e=>zS e.2.2 s)with
      |some e=>some (.tup [e.1,e.2.1])
      |none=>none
     |none=>none
    else none
   |_=>none
  |_=>none
 |_=>none
theorem Vd(hr:R p h w){it:V}{it':Value}(hx:Aa p it it'){v:V}(hd:Pg h it=some v):∃v',(Instr.entry it').run P w=.ok v' w∧Aa p v v':=by
 unfold Pg at hd;split at hd
 case h_2=>cases hd
 rename_i b;simp only[Aa]at hx;obtain⟨r,n,hp,rfl⟩:=hx;split at hd
 case h_2=>cases hd
 rename_i m since seen last hb;split at hd
 case h_2=>cases hd
 rename_i es cl hm;rw[Be]at hd;by_cases hcl:cl=last
 ·simp only[hcl,decide_true,cond_true]at hd;split at hd
  case h_2=>cases hd
  rename_i s hs;split at hd
  case h_2=>cases hd
  rename_i e hf;cases hd;obtain⟨r',n',x,h1,h2,h3⟩:=hr.obj _ _ hb;rw[hp]at h1;cases h1;simp only[Gg]at h3;obtain⟨rm,nm,hpm,rfl⟩:=h3;obtain⟨r2,n2,x2,k1,k2,l2,k3,k4⟩:=hr.obj _ _ hm;rw[hpm]at k1;cases k1;subst k3;obtain⟨e',q1,q2,q3⟩:=k4.find (fun b=>zS b s) hf;refine⟨.tuple #[e'.key,e'.val],?_,by simp only[Aa];exact⟨_,rfl,by simp[q2,q3]⟩⟩;unfold Instr.entry;have hback:seen.toArray.back?=some s:=by rw[Array.back?_eq_getElem?];simp[List.getLast?_eq_getElem?]at hs ⊢;exact hs
  have hfind:l2.find? (fun e=>e.born==s)=some e':=by
   rw[←Array.find?_toList, ←q1];congr 1;funext e
   rw[Be];rw[Bool.eq_iff_iff];simp
  simp only[zd,getObj,zr,h2,zc,k2,hback,hcl,bne_self_eq_false,zx,if_false,hfind,zg]
 ·simp[hcl]at hd
theorem C8.erase{es:List (V×V×Nat)}{l:List MapEntry}(he:C8 p es l)(i:Nat):C8 p (es.eraseIdx i) (l.eraseIdx i):=by
 induction he generalizing i with
 |nil=>simp;exact .nil
 |@cons k v b es e0 l h1 h2 h3 h4 ih=>
  cases i with
  |zero=>simpa using h4
  |succ i=>simp;exact .cons h1 h2 h3 (ih i)
def Jn(T:BZ)(h:H)(ts:Array TypeId)(args:List V):Option (V×H):=
 match ts[0]?,args with
 |some mt,[.map b,k]=>
  match T.und mt with
  |some (.map kt _)=>
   match T.und kt,h.get b with
   |some d,some (.map es cl)=>
    bif Hp T kt d k then
     match IA T kt k es with
     |some (some (i,_))=>some (.tup [],h.put b (.map (es.eraseIdx i) cl))
     |some none=>some (.tup [],h.put b (.map es cl))
     |none=>none
    else none
   |_,_=>none
  |_=>none
 |_,_=>none
theorem TC(hT:T.Ok P)(hr:R p h w){ts:Array TypeId}{t:TypeId}{args:List V}{args':Array Value}(ha:Aq p args args'.toList){v:V}{h':H}(hd:Jn T h ts args=some (v,h')):
  ∃v' p' w',(Builtin.delete_ ts t args').run P w=.ok v' w'∧Aa p' v v'∧Ext p h w p' h' w':=by
 unfold Jn at hd;split at hd
 case h_2=>cases hd
 rename_i mt b k ht;obtain⟨m',k',hargs,hm,hk⟩:=ha.two;have ha0:args'[0]?=some m':=by rw[←zq,hargs];rfl
 have ha1:args'[1]?=some k':=by rw[←zq,hargs];rfl
 split at hd
 case h_2=>cases hd
 rename_i kt e hu;split at hd
 case h_2=>cases hd
 rename_i d es cl hkd hb;cases hc:Hp T kt d k with
 |false=>simp[hc]at hd
 |true=>
  simp only[hc,cond_true]at hd;rcases Ki (es:=es) hr hm (by simp only[entries,hb])with⟨rfl,_⟩|⟨r,l,cl',b',n,e1,rfl,hp,hb',hw,he⟩
  ·simp[Aa]at hm
  ·cases e1;rw[hb]at hb';cases hb';unfold Builtin.delete_;simp only[ht,ha0,ha1,zd,Au hT hu,zc,getObj,zr,hw,H3 hT hkd hk hc];split at hd
   case h_3=>cases hd
   case h_1=>
    rename_i j v0 hf;cases hd;obtain⟨r',k1,v1,rfl,k3,en,k4,k5⟩:=run_findKey (P:=P) (w:=w) hT hk hkd he hf;refine⟨.tuple #[],p,{ w with heap:=w.heap.setIfInBounds r (.map (l.eraseIdxIfInBounds j) cl) },?_,by simp[Aa],zR hr hb hp (o':=.map (es.eraseIdx j) cl) ⟨_,rfl,?_⟩ rfl rfl rfl rfl⟩
    ·simp only[k1,zc];simp[setObj,zr,hw]
    ·have:=he.erase j;simpa using this
   case h_2=>
    rename_i hf;cases hd;obtain⟨r',k1,k2⟩:=run_findKey (P:=P) (w:=w) hT hk hkd he hf;simp only at k2;subst k2;refine⟨.tuple #[],p,{ w with heap:=w.heap.setIfInBounds r (.map l cl) },?_,by simp[Aa],zR hr hb hp (o':=.map es cl) ⟨_,rfl,he⟩ rfl rfl rfl rfl⟩;simp only[k1,zc];simp[setObj,zr,hw]
def EG(T:BZ)(h:H)(ts:Array TypeId)(args:List V):Option (V×H):=
 match ts[0]?,args with
 |some t,[x]=>
  match T.und t,x with
  |some (.map _ _),.nilm=>some (.tup [],h)
  |some (.map _ _),.map b=>match h.get b with
   |some (.map _ cl)=>some (.tup [],h.put b (.map [] cl))
   |_=>none
  |some (.slice _),.nils=>some (.tup [],h)
  |some (.slice _),.esl=>some (.tup [],h)
  |some (.slice _),.es0=>some (.tup [],h)
  |some (.slice e),.sl b off len _ _=>
   bif zS len 0 then some (.tup [],h)
   else match T.inf e with
    |some i=>bif zB 0 i.zero.length then
      (wr h b off (Ea i.zero (len*i.zero.length))).map fun h'=>(.tup [],h')
     else none
    |none=>none
  |_,_=>none
 |_,_=>none
theorem Vi(hT:T.Ok P)(hr:R p h w){ts:Array TypeId}{t:TypeId}{args:List V}{args':Array Value}(ha:Aq p args args'.toList){v:V}{h':H}(hd:EG T h ts args=some (v,h')):
  ∃v' p' w',(Builtin.clear_ ts t args').run P w=.ok v' w'∧Aa p' v v'∧Ext p h w p' h' w':=by
 unfold EG at hd;split at hd
 case h_2=>cases hd
 rename_i t0 x ht;obtain⟨x',hargs,hx⟩:=ha.one;have ha0:args'[0]?=some x':=by rw[←zq,hargs];rfl
 unfold Builtin.clear_;simp only[ht,ha0];split at hd
 case h_7=>cases hd
 case h_1=>
  rename_i hu;cases hd;simp only[Aa]at hx;subst hx;exact⟨.tuple #[],p,w,by simp[Au hT hu],by simp[Aa],zm hr⟩
 case h_2=>
  rename_i b hu;split at hd
  case h_2=>cases hd
  rename_i es cl hb;cases hd;simp only[Aa]at hx;obtain⟨r,n,hp,rfl⟩:=hx;obtain⟨r',n',o,h1,h2,l,h3,h4⟩:=hr.obj _ _ hb;rw[hp]at h1;cases h1;subst h3;refine⟨.tuple #[],p,{ w with heap:=w.heap.setIfInBounds r (.map #[] cl) },?_,by simp[Aa],zR hr hb hp (o':=.map [] cl) ⟨_,rfl,.nil⟩ rfl rfl rfl rfl⟩;simp[zd,Au hT hu,getObj,setObj,zr,h2]
 case h_3=>
  rename_i e hu;cases hd;simp only[Aa]at hx;subst hx;exact⟨.tuple #[],p,w,by simp[Au hT hu],by simp[Aa],zm hr⟩
 case h_4=>
  rename_i e hu;cases hd;simp only[Aa]at hx;obtain⟨_,_,rfl⟩:=hx;exact⟨.tuple #[],p,w,by simp[Au hT hu],by simp[Aa],zm hr⟩
 case h_5=>
  rename_i e hu;cases hd;simp only[Aa]at hx;obtain⟨_,rfl⟩:=hx;exact⟨.tuple #[],p,w,by simp[Au hT hu],by simp[Aa],zm hr⟩
 case h_6=>
  rename_i e b off len cap o hu;simp only[Aa]at hx;obtain⟨r,n,c,hp,rfl,_⟩:=hx;rw[Be]at hd;by_cases h0:len=0
  ·simp only[h0,decide_true,cond_true,zf,zI]at hd;obtain⟨rfl,rfl⟩:=hd;subst h0;exact⟨.tuple #[],p,w,by simp[Au hT hu],by simp[Aa],zm hr⟩
  ·simp only[h0,decide_false,cond_false]at hd;split at hd
   case h_2=>cases hd
   rename_i i hi;cases hz:zB 0 i.zero.length with
   |false=>simp[hz]at hd
   |true=>
    simp only[hz,cond_true,zh]at hd;obtain⟨h1,hw,he⟩:=hd;cases he;obtain⟨z,hzz,hzr⟩:=DO hT hi;have hzl:=(hzr p).length;have hrel:=HW (hzr p) (by simpa using hz) (len*i.zero.length);obtain⟨r',m,w',g1,g2,g3⟩:=PJ (P:=P) hr hrel hw;rw[hp]at g1;cases g1;refine⟨.tuple #[],p,w',?_,by simp[Aa],g3⟩;have:Builtin.zeroCells z.cells len=(Array.range (len*i.zero.length)).map (fun i=>z.cells[i % z.cells.size]!):=by
     unfold Builtin.zeroCells;rw[hzl];simp
    obtain⟨len',rfl⟩:∃k,len=k+1:=⟨len-1,by omega⟩;simp only[zd,Au hT hu,zc,hzz,this,g2,zg]
def gR(T:BZ)(ts:Array TypeId)(args:List V):Option V:=
 match ts[0]?,args with
 |some t,[x]=>
  match T.und t,x with
  |some (.slice _),.sl _ _ _ cap 0=>some (i64 cap)
  |some (.slice _),.nils=>some (i64 0)
  |_,_=>none
 |_,_=>none
theorem ZT(hT:T.Ok P){ts:Array TypeId}{t:TypeId}{args:List V}{args':Array Value}(ha:Aq p args args'.toList){v:V}(hd:gR T ts args=some v):
  ∃v',(Builtin.cap_ ts t args').run P w=.ok v' w∧Aa p v v':=by
 unfold gR at hd;split at hd
 case h_2=>cases hd
 rename_i t0 x ht;obtain⟨x',hargs,hx⟩:=ha.one;have ha0:args'[0]?=some x':=by rw[←zq,hargs];rfl
 unfold Builtin.cap_;simp only[ht,ha0];split at hd
 case h_3=>cases hd
 case h_1=>
  rename_i e b off len cap hu;cases hd;simp only[Aa]at hx;obtain⟨r,n,c,hp,rfl,h1,h2,h3,h4⟩:=hx;have:=h3 trivial;subst this;exact⟨_,by simp[zd,Au hT hu];rfl,by simp[Aa,i64,goInt]⟩
 case h_2=>
  rename_i e hu;cases hd;simp only[Aa]at hx;subst hx;exact⟨_,by simp[zd,Au hT hu];rfl,by simp[Aa,i64,goInt]⟩
end
end
end Go.Det
end
section
namespace Go.Det
noncomputable section
section
variable {T:BZ}{P:Program}{p:Pl}{h:H}{w:World}
def Pf(T:BZ)(h:H)(src dst:TypeId)(x:V):Option (V×H):=
 match T.und src,T.und dst,x with
 |some .string,some (.slice e),.str s=>
  match T.und e with
  |some (.int .u8)=>some (.sl h.nx 0 s.length s.length 1,h.push (.cells (s.map fun b=>.int .u8 (.ofNat b.toNat)) e (0,0)))
  |_=>none
 |_,_,_=>none
theorem VT(hT:T.Ok P)(hr:R p h w){src dst:TypeId}{x:V}{x':Value}(hx:Aa p x x'){v:V}{h':H}(hd:Pf T h src dst x=some (v,h')):
  ∃v' p' w',(convert src dst x').run P w=.ok v' w'∧Aa p' v v'∧Ext p h w p' h' w':=by
 unfold Pf at hd;split at hd
 case h_2=>cases hd
 rename_i e s h1 h2;split at hd
 case h_2=>cases hd
 rename_i h3;cases hd;simp only[Aa]at hx;subst hx;have hrun:=run_bytes_of_string (P:=P) w src dst e (bytesOf s) (hT.und _ _ h1) (hT.und _ _ h2) (hT.und _ _ h3);generalize hc:grownCap w (bytesOf s).size 0 e=c at hrun;have hle:s.length≤c:=by
  rw[←hc,Bw];unfold grownCap;simp[Question.cut]
 have hsz:(bytesRow (bytesOf s) c).size=c:=by
  have:(bytesRow (bytesOf s) c).size=(bytesOf s).size+(c-(bytesOf s).size):=by
   unfold bytesRow;rw[Array.size_append,Array.size_map,Array.size_replicate];rfl
  rw[this,Bw];omega
 have hd1:=Ext.drew hr (w.drawn+1);have he:=Ext.push (n:=c) hd1.rel (o:=.cells (s.map fun b=>.int .u8 (.ofNat b.toNat)) e (0,0)) (x:=.cells (bytesRow (bytesOf s) c) e ((bytesRow (bytesOf s) c).size,(bytesRow (bytesOf s) c).size+1)) (by
  refine⟨_,_,rfl,hsz,by simpa using hle,?_,fun i hi h4 h5=>by simp only[hsz]at h4;omega⟩;refine Aq.lR (Aq.mk ?_ ?_)
  ·have:=hsz;simp at this ⊢;omega
  ·intro i d v hd hv;simp only[List.length_map]at hv;simp only[List.getElem?_map,zh]at hd;obtain⟨b,hb,rfl⟩:=hd;have hi:=(zo.1 hb).1;rw[List.getElem?_take_of_lt hi]at hv;simp only[bytesRow,Array.toList_append,Array.toList_map,bytesOf]at hv;rw[zj (by simpa using hi)]at hv;simp only[List.getElem?_map,hb,Option.map_some,zf]at hv;subst hv;simp[Aa])
 refine⟨_,_,_,hrun,?_,hd1.trans he⟩;simp only[Aa];refine⟨w.heap.size,c,c,by rw[←hr.len];simp,by rw[Bw],zE _,hle,fun h=>(by cases h),fun _=>(by omega)⟩
end
end
end Go.Det
end
section
namespace Go.Det
noncomputable section
mutual
def cv:Value→Option V
 | .bool b=>some (.bool b)
 | .int k n=>some (.int k n)
 | .string s=>some (.str s.data.toList)
 | .pointer none=>some .nilp
 | .slice none 0 0=>some .nils
 | .map none=>some .nilm
 | .nilFunc=>some .nilf
 | .nilIface=>some .nili
 | .func f ⟨[]⟩ ⟨[]⟩=>some (.fn f [] [])
 | .agg ⟨cs⟩=>(eA cs).map .agg
 | .tuple ⟨cs⟩=>(eA cs).map .tup
 |_=>none
def eA:List Value→Option (List V)
 |[]=>some []
 |v::vs=>match cv v,eA vs with
  |some x,some xs=>some (x::xs)
  |_,_=>none
end
mutual
theorem Tg(p:Pl):∀ {v:Value} {x:V},cv v=some x→Aa p x v
 | .bool b,x,h=>by simp[cv]at h;subst h;simp[Aa]
 | .int k n,x,h=>by simp[cv]at h;subst h;simp[Aa]
 | .string s,x,h=>by simp[cv]at h;subst h;simp[Aa,bytesOf]
 | .pointer none,x,h=>by simp[cv]at h;subst h;simp[Aa]
 | .pointer (some a),x,h=>by simp[cv]at h
 | .slice none 0 0,x,h=>by simp[cv]at h;subst h;simp[Aa]
 | .slice none 0 (_+1),x,h=>by simp[cv]at h
 | .slice none (_+1) _,x,h=>by simp[cv]at h
 | .slice (some a) _ _,x,h=>by simp[cv]at h
 | .map none,x,h=>by simp[cv]at h;subst h;simp[Aa]
 | .map (some a),x,h=>by simp[cv]at h
 | .nilFunc,x,h=>by simp[cv]at h;subst h;simp[Aa]
 | .nilIface,x,h=>by simp[cv]at h;subst h;simp[Aa]
 | .func f ⟨[]⟩ ⟨[]⟩,x,h=>by simp[cv]at h;subst h;simp[Aa]
 | .func f ⟨_::_⟩ _,x,h=>by simp[cv]at h
 | .func f ⟨[]⟩ ⟨_::_⟩,x,h=>by simp[cv]at h
 | .agg ⟨cs⟩,x,h=>by
  simp only[cv,zh]at h;obtain⟨xs,h1,rfl⟩:=h;simp only[Aa];exact⟨_,rfl,Po p h1⟩
 | .tuple ⟨cs⟩,x,h=>by
  simp only[cv,zh]at h;obtain⟨xs,h1,rfl⟩:=h;simp only[Aa];exact⟨_,rfl,Po p h1⟩
 | .float _ _,x,h=>by simp[cv]at h
 | .complex _ _ _,x,h=>by simp[cv]at h
 | .chan _,x,h=>by simp[cv]at h
 | .iface _ _,x,h=>by simp[cv]at h
theorem Po(p:Pl):∀ {vs:List Value} {xs:List V},eA vs=some xs→Aq p xs vs
 |[],xs,h=>by simp[eA]at h;subst h;simp
 |v::vs,xs,h=>by
  unfold eA at h;split at h
  case h_2=>cases h
  rename_i x xs' h1 h2;cases h;exact(A5 ..).2 ⟨Tg p h1,Po p h2⟩
end
structure Fn where
 ntmps:Nat
 results:Array ResultVar
 body:Code
 cert:Bool
structure Ctx where
 T:BZ
 ng:Nat
 fn:FuncId→Option Fn
 prim:FuncId→Option (List V→H→Option (V×H))
 spec:FuncId→Option (List V→H→Option (V×H))
 mg:Bool
def Gl(C:Ctx)(p:Pl):Prop:=∀g,g<C.ng→∃n,p[g]?=some (g,n)
theorem Gl.ext{C:Ctx}{p p':Pl}{h h':H}{w w':World}(hg:Gl C p)(e:Ext p h w p' h' w'):Gl C p':=by
 obtain⟨q,rfl⟩:=e.pre;intro g hlt;obtain⟨n,hn⟩:=hg g hlt;exact⟨n,by rw[zj (zo.1 hn).1];exact hn⟩
def ev(C:Ctx)(fr:Fr):Operand→Option V
 | .tmp t=>some (fr.get t)
 | .const v=>cv v
 | .global g=>bif zB g C.ng then some (.ptr g 0)else none
 | .func f=>some (.fn (.func f) [] [])
theorem AZ{C:Ctx}{p:Pl}{fr:Fr}{a:Act}(hg:Gl C p)(hf:Cc p fr a){x:Operand}{v:V}(hd:ev C fr x=some v):Aa p v (a.eval x):=by
 cases x with
 |tmp t=>simp only[ev,zf]at hd;subst hd;exact hf.2 t
 |const v=>exact Tg p hd
 |global g=>
  simp only[ev,Fj]at hd;by_cases hlt:g<C.ng
  ·simp only[hlt,decide_true,cond_true,zf]at hd;subst hd;obtain⟨n,hn⟩:=hg g hlt;simp only[Aa,Act.eval];exact⟨g,n,hn,rfl⟩
  ·simp[hlt]at hd
 |func f=>simp only[ev,zf]at hd;subst hd;simp[Aa,Act.eval]
def Pb(C:Ctx)(fr:Fr):List Operand→Option (List V)
 |[]=>some []
 |x::xs=>match ev C fr x,Pb C fr xs with
  |some v,some vs=>some (v::vs)
  |_,_=>none
theorem I9{C:Ctx}{p:Pl}{fr:Fr}{a:Act}(hg:Gl C p)(hf:Cc p fr a):∀ {xs:List Operand} {vs:List V},Pb C fr xs=some vs→Aq p vs (xs.map a.eval)
 |[],vs,h=>by simp[Pb]at h;subst h;simp
 |x::xs,vs,h=>by
  unfold Pb at h;split at h
  case h_2=>cases h
  rename_i v vs' h1 h2;cases h;exact(A5 ..).2 ⟨AZ hg hf h1,I9 hg hf h2⟩
def Sf(C:Ctx)(fr:Fr):Option Operand→Option (Option V)
 |none=>some none
 |some x=>(ev C fr x).map some
theorem Lb{C:Ctx}{p:Pl}{fr:Fr}{a:Act}(hg:Gl C p)(hf:Cc p fr a){x:Option Operand}{v:Option V}(hd:Sf C fr x=some v):EV p v (x.map a.eval):=by
 cases x with
 |none=>simp[Sf]at hd;subst hd;rfl
 |some x=>
  simp only[Sf,zh]at hd;obtain⟨u,h1,rfl⟩:=hd;exact⟨_,rfl,AZ hg hf h1⟩
def Sy(C:Ctx)(fr:Fr):List (Nat×Operand)→Option (List (Nat×V))
 |[]=>some []
 |(i,x)::xs=>match ev C fr x,Sy C fr xs with
  |some v,some vs=>some ((i,v)::vs)
  |_,_=>none
theorem La{C:Ctx}{p:Pl}{fr:Fr}{a:Act}(hg:Gl C p)(hf:Cc p fr a):∀ {xs:List (Nat×Operand)} {vs:List (Nat×V)},Sy C fr xs=some vs→RG p vs (xs.map fun(i,x)=>(i,a.eval x))
 |[],vs,h=>by simp[Sy]at h;subst h;exact .nil
 |(i,x)::xs,vs,h=>by
  unfold Sy at h;split at h
  case h_2=>cases h
  rename_i v vs' h1 h2;cases h;exact .cons (AZ hg hf h1) (La hg hf h2)
inductive OR where
 |val (v:V) (h:H)
 |skip (h:H)
 |enter (f:FuncId) (args:List V)
 |round (b:Nat) (l:LS) (fr:Fr)
 |alts (l:List (V×H))
def Fr.XN(f:Fr)(t:Nat)(v:V):Fr:=bif zB t f.n then⟨f.n,f.m.set t (some v)⟩else f
def G1:List Tmp→List V→Fr→Fr
 |t::ts,v::vs,f=>G1 ts vs (f.XN t v)
 |_,_,f=>f
theorem D9.XN{p:Pl}{f:Fr}{tmps:Array Value}(hf:D9 p f tmps){v:V}{v':Value}(hv:Aa p v v')(t:Nat):D9 p (f.XN t v) (tmps.setIfInBounds t v'):=by
 unfold Fr.XN;simp only[Fj];by_cases hlt:t<f.n
 ·simp only[hlt,decide_true,cond_true];refine⟨by simp[hf.1],fun s=>?_⟩;have hlt':t<tmps.size:=hf.1▸hlt;by_cases e:s=t
  ·subst e;simp[Fr.get,hlt',hv]
  ·have:=hf.2 s;simp only[Fr.get,PM.CX,if_neg e]at this ⊢;rw[zi,zp (fun x=>e x.symm), ←zi];exact this
 ·simp only[hlt,decide_false,cond_false];have:tmps.setIfInBounds t v'=tmps:=by
   have:tmps.size≤t:=by have:=hf.1;omega
   simp[Array.setIfInBounds,Nat.not_lt.2 this]
  rw[this];exact hf
theorem D9.G1{p:Pl}:∀ {ts:List Tmp} {vs:List V} {vs':List Value},Aq p vs vs'→∀ {f:Fr} {tmps:Array Value},D9 p f tmps→D9 p (G1 ts vs f) ((ts.zip vs').foldl (fun tmps (t,a)=>tmps.setIfInBounds t a) tmps)
 |[],vs,vs',_,f,tmps,hf=>by simpa [Det.G1]using hf
 |t::ts,[],vs',hv,f,tmps,hf=>by simp at hv;subst hv;simpa [Det.G1]using hf
 |t::ts,v::vs,vs',hv,f,tmps,hf=>by
  simp only[Aq]at hv;obtain⟨u,us,rfl,h1,h2⟩:=hv;simp only[Det.G1,List.zip_cons_cons,List.foldl_cons];exact D9.G1 h2 (hf.XN h1 t)
def Bj(h:H):Option V→Option OR
 |some v=>some (.val v h)
 |none=>none
def EA:Option (V×H)→Option OR
 |some (v,h)=>some (.val v h)
 |none=>none
def XG:Option H→Option OR
 |some h=>some (.skip h)
 |none=>none
def DJ(C:Ctx)(h:H)(b:Builtin)(ts:Array TypeId)(args:List V):Option OR:=
 match b with
 | .len=>Bj h (EW C.T h ts args)
 | .append=>EA (Fm C.T h ts args)
 | .copy=>EA (XO C.T h ts args)
 | .max=>Bj h (Fo XL args)
 | .min=>Bj h (Fo XX args)
 | .cap=>Bj h (gR C.T ts args)
 | .delete=>EA (Jn C.T h ts args)
 | .clear=>EA (EG C.T h ts args)
 |_=>none
def KR(C:Ctx)(h:H)(f:V)(args:List V):Option OR:=
 match f with
 | .fn (.func g) first captured=>
  match C.prim g with
  |some q=>EA (q (first++args++captured) h)
  |none=>match C.fn g with
   |some _=>some (.enter g (first++args++captured))
   |none=>none
 | .yld b=>match h.get b with
  |some (.loop l)=>bif zS args.length l.ps.size then some (.round b l (G1 l.ps.toList args l.fr))else none
  |_=>none
 |_=>none
def Ux:Operand→Bool
 | .const _=>true
 |_=>false
def Z8(T:BZ)(op:BinOp)(t:TypeId)(x y:Operand)(v u:V):Option V:=
 match op,v,u,T.und t with
 | .eql,.nili,.nili,some (.interface _)=>bif Ux x||Ux y then some (.bool true)else none
 | .neq,.nili,.nili,some (.interface _)=>bif Ux x||Ux y then some (.bool false)else none
 |_,_,_,_=>none
def Kw(T:BZ)(op:BinOp)(t:TypeId)(x y:Operand)(v u:V):Option V:=
 match Z8 T op t x y v u with
 |some r=>some r
 |none=>K4 T op t v u
def FU(C:Ctx)(fr:Fr)(h:H)(o:Oper):Option OR:=
 let ρ:=ev C fr
 match o.op with
 | .move x| .assign x=>Bj h (ρ x)
 | .pick c a b=>match ρ c with
  |some (.bool t)=>Bj h (if t then ρ a else ρ b)
  |_=>none
 | .alloc t=>EA (Fy C.T h t)
 | .box t x=>EA ((ρ x).map fun v=>Vw h t v)
 | .build t parts=>match Sy C fr parts.toList with
  |some ps=>Bj h (Iv C.T t ps)
  |none=>none
 | .buildSlice t n parts=>match Sy C fr parts.toList with
  |some ps=>EA (D1 C.T h t n ps)
  |none=>none
 | .load t x=>match ρ x with
  |some v=>Bj h (Ei C.T h t v)
  |none=>none
 | .store t x y=>match ρ x,ρ y with
  |some v,some u=>XG (G2 C.T h t v u)
  |_,_=>none
 | .nilCheck x=>match ρ x with
  |some (.ptr b i)=>Bj h (some (.ptr b i))
  |some (.iface t v)=>Bj h (some (.iface t v))
  |_=>none
 | .binOp op t x y _=>match ρ x,ρ y with
  |some v,some u=>Bj h (Kw C.T op t x y v u)
  |_,_=>none
 | .unOp op _ x=>match ρ x with
  |some v=>Bj h (lK op v)
  |none=>none
 | .convert s d x=>match ρ x with
  |some v=>Bj h (FV C.T h s d v)
  |none=>none
 | .makeInterface t x=>match ρ x,C.T.und t with
  |some v,some d=>match d with
   | .interface _=>none
   |_=>Bj h (some (.iface t v))
  |_,_=>none
 | .makeFunc f first captured=>match Pb C fr first.toList,Pb C fr captured.toList with
  |some a,some b=>Bj h (some (.fn f a b))
  |_,_=>none
 | .makeMap _ r=>match Sf C fr r with
  |some v=>EA (GY h v)
  |none=>none
 | .makeSlice t l c=>match ρ l,ρ c with
  |some v,some u=>EA (M5 C.T h t v u)
  |_,_=>none
 | .slice t x lo hi mx=>match ρ x,Sf C fr lo,Sf C fr hi,Sf C fr mx with
  |some v,some l,some r,some m=>Bj h (C5 C.T t v l r m)
  |_,_,_,_=>none
 | .fieldAddr t x f=>match ρ x with
  |some v=>Bj h (Iw C.T t v f)
  |none=>none
 | .field t x f=>match ρ x with
  |some v=>Bj h (ID C.T t v f)
  |none=>none
 | .indexAddr t x i=>match ρ x,ρ i with
  |some v,some u=>Bj h (CE C.T t v u)
  |_,_=>none
 | .index t x i=>match ρ x,ρ i with
  |some v,some u=>Bj h (F9 C.T t v u)
  |_,_=>none
 | .lookup t x i ok=>match ρ x,ρ i with
  |some v,some u=>Bj h (D4 C.T h t v u ok)
  |_,_=>none
 | .mapUpdate t m k x| .insert t m k x=>match ρ m,ρ k,ρ x with
  |some a,some b,some c=>XG (Gw C.T h t a b c)
  |_,_,_=>none
 | .range t x=>match ρ x with
  |some v=>EA (Gs C.T h t v)
  |none=>none
 | .next x isStr=>match ρ x with
  |some v=>bif isStr then EA (KI h v isStr)else(P4 h v isStr).map .alts
  |none=>none
 | .entry x=>match ρ x with
  |some v=>Bj h (Pg h v)
  |none=>none
 | .extract x i=>match ρ x with
  |some v=>Bj h (FM v i)
  |none=>none
 | .call c=>match c.callee,Pb C fr c.args.toList with
  | .builtin b,some args=>DJ C h b c.argTypes args
  | .value f,some args=>match ρ f with
   |some g=>KR C h g args
   |none=>none
  |_,_=>none
 |_=>none
abbrev EZ:=Ctx→Fr→H→Option OR
def fS(a0:Operand):EZ:=fun C fr h=>Bj h (ev C fr a0)
def XA(a0:Operand):EZ:=fun C fr h=>Bj h (ev C fr a0)
def jN(a0:Operand)(a1:Operand)(a2:Operand):EZ:=fun C fr h=>match ev C fr a0 with|some (.bool t)=>Bj h (if t then ev C fr a1 else ev C fr a2)|_=>none
def bC(a0:TypeId):EZ:=fun C _fr h=>EA (Fy C.T h a0)
def mJ(a0:TypeId)(a1:Operand):EZ:=fun C fr h=>EA ((ev C fr a1).map fun v=>Vw h a0 v)
def Z1(a0:TypeId)(a1:Array (Nat×Operand)):EZ:=fun C fr h=>match Sy C fr a1.toList with|some ps=>Bj h (Iv C.T a0 ps)|none=>none
def Qk(a0:TypeId)(a1:Nat)(a2:Array (Nat×Operand)):EZ:=fun C fr h=>match Sy C fr a2.toList with|some ps=>EA (D1 C.T h a0 a1 ps)|none=>none
def YQ(a0:TypeId)(a1:Operand)(a2:Operand)(a3:Operand):EZ:=fun C fr h=>match ev C fr a1,ev C fr a2,ev C fr a3 with|some a,some b,some c=>XG (Gw C.T h a0 a b c)|_,_,_=>none
def fM(a0:TypeId)(a1:Operand):EZ:=fun C fr h=>match ev C fr a1 with|some v=>Bj h (Ei C.T h a0 v)|none=>none
def Zg(a0:TypeId)(a1:Operand)(a2:Operand):EZ:=fun C fr h=>match ev C fr a1,ev C fr a2 with|some v,some u=>XG (G2 C.T h a0 v u)|_,_=>none
def ZG(_a0:Nat):EZ:=fun _ _ _=>none
def bL(_a0:Nat):EZ:=fun _ _ _=>none
def Tz(a0:Operand):EZ:=fun C fr h=>match ev C fr a0 with|some (.ptr b i)=>Bj h (some (.ptr b i))|some (.iface t v)=>Bj h (some (.iface t v))|_=>none
def dA(a0:BinOp)(a1:TypeId)(a2:Operand)(a3:Operand)(_a4:TypeId):EZ:=fun C fr h=>match ev C fr a2,ev C fr a3 with|some v,some u=>Bj h (Kw C.T a0 a1 a2 a3 v u)|_,_=>none
def jJ(a0:UnOp)(_a1:TypeId)(a2:Operand):EZ:=fun C fr h=>match ev C fr a2 with|some v=>Bj h (lK a0 v)|none=>none
def Vg(a0:TypeId)(a1:TypeId)(a2:Operand):EZ:=fun C fr h=>match ev C fr a2 with|some v=>Bj h (FV C.T h a0 a1 v)|none=>none
def GR(_a0:TypeId)(_a1:Operand):EZ:=fun _ _ _=>none
def K1(a0:TypeId)(a1:Operand):EZ:=fun C fr h=>match ev C fr a1,C.T.und a0 with|some v,some d=>(match d with| .interface _=>none|_=>Bj h (some (.iface a0 v)))|_,_=>none
def TE(a0:Go.Fn)(a1:Array Operand)(a2:Array Operand):EZ:=fun C fr h=>match Pb C fr a1.toList,Pb C fr a2.toList with|some a,some b=>Bj h (some (.fn a0 a b))|_,_=>none
def VR(_a0:TypeId)(a1:Option Operand):EZ:=fun C fr h=>match Sf C fr a1 with|some v=>EA (GY h v)|none=>none
def SN(_a0:TypeId)(_a1:Operand):EZ:=fun _ _ _=>none
def Rb(a0:TypeId)(a1:Operand)(a2:Operand):EZ:=fun C fr h=>match ev C fr a1,ev C fr a2 with|some v,some u=>EA (M5 C.T h a0 v u)|_,_=>none
def bR(a0:TypeId)(a1:Operand)(a2:Option Operand)(a3:Option Operand)(a4:Option Operand):EZ:=fun C fr h=>match ev C fr a1,Sf C fr a2,Sf C fr a3,Sf C fr a4 with|some v,some l,some r,some m=>Bj h (C5 C.T a0 v l r m)|_,_,_,_=>none
def RC(a0:TypeId)(a1:Operand)(a2:Nat):EZ:=fun C fr h=>match ev C fr a1 with|some v=>Bj h (Iw C.T a0 v a2)|none=>none
def bE(a0:TypeId)(a1:Operand)(a2:Nat):EZ:=fun C fr h=>match ev C fr a1 with|some v=>Bj h (ID C.T a0 v a2)|none=>none
def Q2(a0:TypeId)(a1:Operand)(a2:Operand):EZ:=fun C fr h=>match ev C fr a1,ev C fr a2 with|some v,some u=>Bj h (CE C.T a0 v u)|_,_=>none
def bZ(a0:TypeId)(a1:Operand)(a2:Operand):EZ:=fun C fr h=>match ev C fr a1,ev C fr a2 with|some v,some u=>Bj h (F9 C.T a0 v u)|_,_=>none
def W3(a0:TypeId)(a1:Operand)(a2:Operand)(a3:Bool):EZ:=fun C fr h=>match ev C fr a1,ev C fr a2 with|some v,some u=>Bj h (D4 C.T h a0 v u a3)|_,_=>none
def QX(a0:TypeId)(a1:Operand)(a2:Operand)(a3:Operand):EZ:=fun C fr h=>match ev C fr a1,ev C fr a2,ev C fr a3 with|some a,some b,some c=>XG (Gw C.T h a0 a b c)|_,_,_=>none
def Tx(_a0:TypeId)(_a1:Operand)(_a2:Operand):EZ:=fun _ _ _=>none
def Qg(_a0:TypeId)(_a1:Operand)(_a2:Operand)(_a3:Operand):EZ:=fun _ _ _=>none
def aH(a0:TypeId)(a1:Operand):EZ:=fun C fr h=>match ev C fr a1 with|some v=>EA (Gs C.T h a0 v)|none=>none
def iR(a0:Operand)(a1:Bool):EZ:=fun C fr h=>match ev C fr a0 with|some v=>bif a1 then EA (KI h v a1)else(P4 h v a1).map .alts|none=>none
def ZC(a0:Operand):EZ:=fun C fr h=>match ev C fr a0 with|some v=>Bj h (Pg h v)|none=>none
def O9(_a0:Operand)(_a1:TypeId)(_a2:TypeId)(_a3:Bool):EZ:=fun _ _ _=>none
def Wf(a0:Operand)(a1:Nat):EZ:=fun C fr h=>match ev C fr a0 with|some v=>Bj h (FM v a1)|none=>none
def iI(a0:Call):EZ:=fun C fr h=>match a0.callee,Pb C fr a0.args.toList with| .builtin b,some args=>DJ C h b a0.argTypes args| .value f,some args=>(match ev C fr f with|some g=>KR C h g args|none=>none)|_,_=>none
def nI(_a0:Call):EZ:=fun _ _ _=>none
def bM(_a0:Call):EZ:=fun _ _ _=>none
def ZR(_a0:Operand):EZ:=fun _ _ _=>none
def iF(_a0:Operand)(_a1:Operand):EZ:=fun _ _ _=>none
def jE(_a0:TypeId)(_a1:Operand)(_a2:Bool):EZ:=fun _ _ _=>none
def Yu(_a0:Array SelectCase)(_a1:Bool):EZ:=fun _ _ _=>none
def pO(o:Op):EZ:=@Op.casesOn (fun _=>EZ) o fS XA jN bC mJ Z1 Qk YQ fM Zg ZG bL Tz dA jJ Vg GR K1 TE VR SN Rb bR RC bE Q2 bZ W3 QX Tx Qg aH iR ZC O9 Wf iI nI bM ZR iF jE Yu
def FC(C:Ctx)(fr:Fr)(h:H)(o:Oper):Option OR:=pO o.op C fr h
theorem CC(C:Ctx)(fr:Fr)(h:H)(o:Oper):FC C fr h o=FU C fr h o:=by
 unfold FC FU;cases o.op<;>rfl
def JZ(C:Ctx)(fr:Fr)(h:H)(o:Oper):Option OR:=
 match FC C fr h o with
 |some r=>some r
 |none=>match o.op with
  | .convert s d x=>match ev C fr x with
   |some v=>EA (Pf C.T h s d v)
   |none=>none
  |_=>none
structure Ctx.Ok(C:Ctx)(P:Program):Prop where
 T:C.T.Ok P
 fn : ∀ f i, C.fn f = some i → ∃ fn, P.funcs[f]? = some fn ∧ fn.name ≠ "runtime.NumGoroutine" ∧ fn.body = some i.body ∧ fn.ntmps = i.ntmps ∧ fn.results = i.results
 prim:∀f q,C.prim f=some q→∀(p:Pl) (h:H) (w:World) (args:List V) (args':Array Value) v h',R p h w→Gl C p→Aq p args args'.toList→q args h=some (v,h')→
  ∃v' p' w',(callFunc f args').run P w=.ok (.value v') w'∧Aa p' v v'∧Ext p h w p' h' w'
 spec:∀f q,C.spec f=some q→∀(p:Pl) (h:H) (w:World) (args:List V) (args':Array Value) v h',R p h w→Gl C p→Aq p args args'.toList→q args h=some (v,h')→
  Calls P f args' w fun e w'=>∃v' p',e=.returned v'∧Aa p' v v'∧Ext p h w p' h' w'
def Rx(p:Pl)(h:H)(w:World):OR→Result Next→Prop
 | .val v h',r=>∃v' p' w',r=.ok (.value v') w'∧Aa p' v v'∧Ext p h w p' h' w'
 | .skip h',r=>∃p' w',r=.ok .skip w'∧Ext p h w p' h' w'
 | .enter f args,r=>∃args',r=.ok (.enter f args') w∧Aq p args args'.toList
 | .round b l fr,r=>∃k n f tmps,p[b]?=some (k,n)∧h.get b=some (.loop l)∧r=.ok (.round k f tmps l.asg l.body) w∧D9 p fr tmps
 | .alts l,r=>∃v h' v' p' w',(v,h')∈l∧r=.ok (.value v') w'∧Aa p' v v'∧Ext p h w p' h' w'
section
variable {C:Ctx}{P:Program}{p:Pl}{h:H}{w:World}{fr:Fr}{a:Act}
theorem BT{s:Sem Value}{v:Option V}{r:OR}(hr:R p h w)(hd:Bj h v=some r)(hs:∀x,v=some x→∃v',s.run P w=.ok v' w∧Aa p x v'):Rx p h w r ((do pure (.value (←s)):Sem Next).run P w):=by
 cases v with
 |none=>simp[Bj]at hd
 |some x=>
  simp only[Bj,zf]at hd;subst hd;obtain⟨v',h1,h2⟩:=hs x rfl;exact⟨v',p,w,by simp[h1],h2,zm hr⟩
theorem Dj{s:Sem Value}{v:Option (V×H)}{r:OR}(hd:EA v=some r)(hs:∀x h',v=some (x,h')→∃v' p' w',s.run P w=.ok v' w'∧Aa p' x v'∧Ext p h w p' h' w'):Rx p h w r ((do pure (.value (←s)):Sem Next).run P w):=by
 match v,hd,hs with
 |some (x,h'),hd,hs=>
  simp only[EA,zf]at hd;subst hd;obtain⟨v',p',w',h1,h2,h3⟩:=hs x h' rfl;exact⟨v',p',w',by simp[h1],h2,h3⟩
 |none,hd,_=>simp[EA]at hd
theorem Ut{s:Sem Unit}{v:Option H}{r:OR}(hd:XG v=some r)(hs:∀h',v=some h'→∃w',s.run P w=.ok () w'∧Ext p h w p h' w'):Rx p h w r ((do s;pure .skip:Sem Next).run P w):=by
 cases v with
 |none=>simp[XG]at hd
 |some h'=>
  simp only[XG,zf]at hd;subst hd;obtain⟨w',h1,h2⟩:=hs h' rfl;exact⟨p,w',by simp[h1],h2⟩
theorem Oc(hC:C.Ok P)(hr:R p h w)(hg:Gl C p){f:V}{f':Value}{args:List V}{args':Array Value}(hf:Aa p f f')(ha:Aq p args args'.toList){r:OR}(hd:KR C h f args=some r):
  Rx p h w r ((do let d←zM f' args';invoke d.target d.args:Sem Next).run P w):=by
 unfold KR at hd;split at hd
 case h_3=>cases hd
 case h_2=>
  rename_i b;split at hd
  case h_2=>cases hd
  rename_i l hb;rw[Be]at hd;by_cases hn:args.length=l.ps.size
  ·simp only[hn,decide_true,cond_true,zf]at hd;subst hd;simp only[Aa]at hf;obtain⟨k,n,hp,rfl⟩:=hf;obtain⟨k',n',o,h1,h2,f0,tmps,r,m,h3,h4,rfl⟩:=hr.obj _ _ hb;rw[hp]at h1;cases h1;have hl:=ha.length;simp only[zM,zd,zg,zc,invoke];simp at hl;have e:((l.ps.zip args').foldl (fun tmps (t,a)=>tmps.setIfInBounds t a) tmps)=(l.ps.toList.zip args'.toList).foldl (fun tmps (t,a)=>tmps.setIfInBounds t a) tmps:=by
    rw[←Array.toList_zip,Array.foldl_toList]
   have h5:=D9.G1 (ts:=l.ps.toList) ha h3;rw[←e]at h5;refine⟨k,n,f0,_,hp,hb,?_,h5⟩;simp only[Array.empty_append];exact run_yield h2 (by rw[←hl,hn])
  ·simp[hn]at hd
 rename_i g first captured
 simp only[Aa]at hf;obtain⟨x,y,rfl,hx,hy⟩:=hf;have hall:Aq p (first++args++captured) (x++args'++y).toList:=by
  simpa using(hx.append ha).append hy
 simp only[zM,zd,zg,zc,invoke];split at hd
 case h_1=>
  rename_i q hq;match hqr:q (first++args++captured) h,hd with
  |some (v,h'),hd=>
   simp only[EA,zf]at hd;subst hd;obtain⟨v',p',w',h1,h2,h3⟩:=hC.prim g q hq p h w _ _ v h' hr hg hall hqr;exact⟨v',p',w',h1,h2,h3⟩
  |none,hd=>simp[EA]at hd
 case h_2=>
  split at hd
  case h_2=>cases hd
  rename_i i hi;cases hd;obtain⟨fn,h1,h2,h3,h4,h5⟩:=hC.fn g i hi;refine⟨_,?_,hall⟩;unfold callFunc;simp[h1,h2,h3]
theorem Se(hC:C.Ok P)(hr:R p h w){b:Builtin}{ts:Array TypeId}{t:TypeId}{cs:Array Bool}{args:List V}{args':Array Value}(ha:Aq p args args'.toList){r:OR}(hd:DJ C h b ts args=some r):
  Rx p h w r ((builtin b ts t cs args').run P w):=by
 unfold DJ at hd;split at hd
 case h_1=>exact BT hr hd fun x hx=>Zi hC.T hr ha hx
 case h_2=>exact Dj hd fun x h' hx=>Ti hC.T hr ha hx
 case h_3=>exact Dj hd fun x h' hx=>XD hC.T hr ha hx
 case h_4=>exact BT hr hd fun x hx=>aB ha hx
 case h_5=>exact BT hr hd fun x hx=>cW ha hx
 case h_6=>exact BT hr hd fun x hx=>ZT hC.T ha hx
 case h_7=>exact Dj hd fun x h' hx=>TC hC.T hr ha hx
 case h_8=>exact Dj hd fun x h' hx=>Vi hC.T hr ha hx
 case h_9=>cases hd
theorem YT{T:BZ}(hT:T.Ok P){op:BinOp}{t:TypeId}{x y:Operand}{v u:V}{v' u':Value}(hv:Aa p v v')(hu:Aa p u u'){z:V}(hd:Kw T op t x y v u=some z):
  ∃z',(do eqGuard op t x y v' u';binOp op t v' u':Sem Value).run P w=.ok z' w∧Aa p z z':=by
 unfold Kw at hd;split at hd
 case h_2=>
  simp only[zd,Vr hT hv hu hd,zc];exact Z0 hT hv hu hd
 case h_1=>
  rename_i r hr;cases hd;have hk:∀ {b:Bool},(bif Ux x||Ux y then some (V.bool b)else none)=some z→z=.bool b∧((∃c,x=.const c)∨∃c,y=.const c):=by
   intro b hb;cases hc:(Ux x||Ux y)with
   |false=>simp[hc]at hb
   |true=>
    simp only[hc,cond_true,zf]at hb;refine⟨hb.symm,?_⟩;simp only[Bool.or_eq_true]at hc;rcases hc with hc|hc
    ·left;cases x<;>first|exact⟨_,rfl⟩|cases hc
    ·right;cases y<;>first|exact⟨_,rfl⟩|cases hc
  have hg:∀op,(op=.eql∨op=.neq)→((∃c,x=.const c)∨∃c,y=.const c)→(eqGuard op t x y .nilIface .nilIface).run P w=.ok () w:=by
   intro op ho hc;rcases ho with rfl|rfl<;>unfold eqGuard<;>rcases hc with⟨c,rfl⟩|⟨c,rfl⟩<;>simp
  have heq:∀ {ms},T.und t=some (.interface ms)→(Op.equal t .nilIface .nilIface).run P w=.ok true w:=by
   intro ms hund;unfold Op.equal Op.maxDepth Op.equalIn;rw[zd,Au hT hund];rfl
  unfold Z8 at hr;split at hr
  case h_1=>
   rename_i ms hund;obtain⟨rfl,hc⟩:=hk hr;have hb:=(Lv (t:=t) (y':=.nilIface) hv rfl).1;simp only[Aa]at hv hu;subst hv hu;refine⟨.bool true,?_,by simp[Aa]⟩;rw[zd,hg .eql (.inl rfl) hc,zc,hb,zd,heq hund];rfl
  case h_2=>
   rename_i ms hund;obtain⟨rfl,hc⟩:=hk hr;have hb:=(Lv (t:=t) (y':=.nilIface) hv rfl).2;simp only[Aa]at hv hu;subst hv hu;refine⟨.bool false,?_,by simp[Aa]⟩;rw[zd,hg .neq (.inr rfl) hc,zc,hb,zd,heq hund];rfl
  case h_3=>cases hr
theorem YI(hC:C.Ok P)(hr:R p h w)(hg:Gl C p)(hf:Cc p fr a){o:Oper}{r:OR}(hd:FC C fr h o=some r):Rx p h w r ((execOp a.eval o).run P w):=by
 rw[CC]at hd;unfold FU at hd;unfold execOp;cases ho:o.op<;>simp only[ho]at hd ⊢<;>try (cases hd;done)
 case move x|assign x=>
  cases hx:ev C fr x with
  |none=>simp[hx,Bj]at hd
  |some v=>simp[hx,Bj]at hd;subst hd;exact⟨_,p,w,rfl,AZ hg hf hx,zm hr⟩
 case pick c x y=>
  split at hd
  case h_2=>cases hd
  rename_i t hc;have hcv:=AZ hg hf hc;simp only[Aa]at hcv;simp only[zd,hcv,asBool,zg,zc];cases t
  ·cases hx:ev C fr y with
   |none=>simp[hx,Bj]at hd
   |some v=>simp[hx,Bj]at hd;subst hd;exact⟨_,p,w,by simp,AZ hg hf hx,zm hr⟩
  ·cases hx:ev C fr x with
   |none=>simp[hx,Bj]at hd
   |some v=>simp[hx,Bj]at hd;subst hd;exact⟨_,p,w,by simp,AZ hg hf hx,zm hr⟩
 case alloc t=>exact Dj hd fun x h' hx=>Vs hC.T hr hx
 case box t x=>
  refine Dj hd fun v h' hx=>?_
  rw[zh]at hx;obtain⟨u,hu,he⟩:=hx;have:=aV (P:=P) (t:=t) hr (AZ hg hf hu);rw[he]at this;exact this
 case build t parts=>
  split at hd
  case h_2=>cases hd
  rename_i ps hps;refine BT hr hd fun x hx=>Vf hC.T ?_ hx
  have:=La hg hf hps;simpa using this
 case buildSlice t n parts=>
  split at hd
  case h_2=>cases hd
  rename_i ps hps;refine Dj hd fun x h' hx=>Su hC.T hr ?_ hx
  have:=La hg hf hps;simpa using this
 case load t x=>
  split at hd
  case h_2=>cases hd
  rename_i v hv;exact BT hr hd fun x hx=>RD hC.T hr (AZ hg hf hv) hx
 case store t x y=>
  split at hd
  case h_2=>cases hd
  rename_i v u hv hu;exact Ut hd fun h' hx=>VL hC.T hr (AZ hg hf hv) (AZ hg hf hu) hx
 case nilCheck x=>
  split at hd
  case h_3=>cases hd
  case h_1=>
   rename_i b i hv;have hx:=AZ hg hf hv;have hx':=hx;simp only[Aa]at hx';obtain⟨r',n,hp,he⟩:=hx';simp only[Bj,zf]at hd;subst hd;rw[he];exact⟨_,p,w,rfl,he▸hx,zm hr⟩
  case h_2=>
   rename_i t v hv;have hx:=AZ hg hf hv;have hx':=hx;simp only[Aa]at hx';obtain⟨y,he,_⟩:=hx';simp only[Bj,zf]at hd;subst hd;rw[he];exact⟨_,p,w,rfl,he▸hx,zm hr⟩
 case binOp op t x y t2=>
  split at hd
  case h_2=>cases hd
  rename_i v u hv hu;refine BT hr hd fun z hz=>?_
  exact YT hC.T (AZ hg hf hv) (AZ hg hf hu) hz
 case unOp op t x=>
  split at hd
  case h_2=>cases hd
  rename_i v hv;exact BT hr hd fun x hx=>hJ (AZ hg hf hv) hx
 case convert s d x=>
  split at hd
  case h_2=>cases hd
  rename_i v hv;exact BT hr hd fun x hx=>XK hC.T hr (AZ hg hf hv) hx
 case makeInterface t x=>
  split at hd
  case h_2=>cases hd
  rename_i v d hv hdd;split at hd
  case h_1=>cases hd
  case h_2=>
   rename_i hne;refine BT hr hd fun z hz=>?_
   cases hz;refine⟨.iface t (a.eval x),?_,by simp only[Aa];exact⟨_,rfl,AZ hg hf hv⟩⟩;unfold Instr.makeInterface;simp only[zd,Au hC.T hdd,zc];cases d<;>first|rfl|exact absurd rfl (hne _)
 case makeFunc f first captured=>
  split at hd
  case h_2=>cases hd
  rename_i x y hx hy;refine BT hr hd fun z hz=>?_
  cases hz;exact⟨_,rfl,by simp only[Aa];exact⟨_,_,rfl,by simpa using I9 hg hf hx,by simpa using I9 hg hf hy⟩⟩
 case makeMap t x=>
  split at hd
  case h_2=>cases hd
  rename_i v hv;exact Dj hd fun x h' hx=>RS hr (Lb hg hf hv) hx
 case makeSlice t l c=>
  split at hd
  case h_2=>cases hd
  rename_i v u hv hu;exact Dj hd fun x h' hx=>Wn hC.T hr (AZ hg hf hv) (AZ hg hf hu) hx
 case slice t x lo hi mx=>
  split at hd
  case h_2=>cases hd
  rename_i v l r' m hv hl hr' hm;exact BT hr hd fun x hx=>VJ hC.T (AZ hg hf hv) (Lb hg hf hl) (Lb hg hf hr') (Lb hg hf hm) hx
 case fieldAddr t x f=>
  split at hd
  case h_2=>cases hd
  rename_i v hv;exact BT hr hd fun x hx=>VV hC.T (AZ hg hf hv) hx
 case field t x f=>
  split at hd
  case h_2=>cases hd
  rename_i v hv;exact BT hr hd fun x hx=>Vl hC.T (AZ hg hf hv) hx
 case indexAddr t x i=>
  split at hd
  case h_2=>cases hd
  rename_i v u hv hu;exact BT hr hd fun x hx=>Wc hC.T (AZ hg hf hv) (AZ hg hf hu) hx
 case index t x i=>
  split at hd
  case h_2=>cases hd
  rename_i v u hv hu;exact BT hr hd fun x hx=>Wh hC.T (AZ hg hf hv) (AZ hg hf hu) hx
 case lookup t x i ok=>
  split at hd
  case h_2=>cases hd
  rename_i v u hv hu;exact BT hr hd fun x hx=>Ts hC.T hr (AZ hg hf hv) (AZ hg hf hu) hx
 case mapUpdate t m k x|insert t m k x=>
  split at hd
  case h_2=>cases hd
  rename_i v u z hv hu hz;exact Ut hd fun h' hx=>S8 hC.T hr (AZ hg hf hv) (AZ hg hf hu) (AZ hg hf hz) hx
 case range t x=>
  split at hd
  case h_2=>cases hd
  rename_i v hv;exact Dj hd fun x h' hx=>SV hC.T hr (AZ hg hf hv) hx
 case next x b=>
  split at hd
  case h_2=>cases hd
  rename_i v hv;cases b with
  |true=>simp only[cond_true]at hd;exact Dj hd fun x h' hx=>WX hr (AZ hg hf hv) hx
  |false=>
   simp only[cond_false,zh]at hd;obtain⟨l,hl,rfl⟩:=hd;obtain⟨v,h',v',p',w',g1,g2,g3,g4⟩:=V7 (P:=P) (t:=o.type) hr (AZ hg hf hv) hl;exact⟨v,h',v',p',w',g1,by simp only[zd,g2,zc,zg],g3,g4⟩
 case entry x=>
  split at hd
  case h_2=>cases hd
  rename_i v hv;exact BT hr hd fun x hx=>Vd hr (AZ hg hf hv) hx
 case extract x i=>
  split at hd
  case h_2=>cases hd
  rename_i v hv;exact BT hr hd fun x hx=>RK (AZ hg hf hv) hx
 case call c=>
  split at hd
  case h_3=>cases hd
  case h_1=>
   rename_i b args hcal hargs;have:=I9 hg hf hargs;unfold resolve;simp only[hcal,zd,zg,zc,invoke];exact Se hC hr (by simpa using this) hd
  case h_2=>
   rename_i f args hcal hargs;split at hd
   case h_2=>cases hd
   rename_i g hgv;have:=I9 hg hf hargs;unfold resolve;simp only[hcal];exact Oc hC hr hg (AZ hg hf hgv) (by simpa using this) hd
theorem Jt(hC:C.Ok P)(hr:R p h w)(hg:Gl C p)(hf:Cc p fr a){o:Oper}{r:OR}(hd:JZ C fr h o=some r):Rx p h w r ((execOp a.eval o).run P w):=by
 unfold JZ at hd;split at hd
 case h_1=>
  rename_i r' hr';cases hd;exact YI hC hr hg hf hr'
 case h_2=>
  split at hd
  case h_2=>cases hd
  rename_i s d x ho;split at hd
  case h_2=>cases hd
  rename_i v hv;unfold execOp;simp only[ho];exact Dj hd fun x h' hx=>VT hC.T hr (AZ hg hf hv) hx
end
end
end Go.Det
end
section
namespace Go.Det
noncomputable section
def A2(fr:Fr)(ops:Array Oper)(o:Oper):Bool:=
 match o.guard with
 |none=>true
 |some (j,want)=>
  match (ops[j]?).bind (·.dst)with
  |some t=>bif zB t fr.n then(match fr.get t with| .bool b=>b==want|_=>false)else false
  |none=>false
inductive Cl where
 |fn (f:FuncId) (args:List V)
 |rnd (b:Nat) (l:LS) (fr:Fr)
abbrev C3:=Cl→H→Option (List (V×H))
def bl{α β:Type}:List α→(α→Option (List β))→Option (List β)
 |[],_=>some []
 |a::qB,f=>match f a with
  |none=>none
  |some x=>match qB with
   |[]=>some x
   |b::bs=>match bl (b::bs) f with
    |some y=>some (x++y)
    |none=>none
theorem Hl{α β:Type}{f:α→Option (List β)}:∀ {l:List α} {r:List β},bl l f=some r→∀a∈l,∃x,f a=some x∧∀b∈x,b∈r
 |[],r,_,a,ha=>by cases ha
 |[c],r,h,a,ha=>by
  unfold bl at h;split at h
  ·cases h
  rename_i x hx;cases h;cases zl.1 ha;exact⟨_,hx,fun b hb=>hb⟩
 |c::d::qB,r,h,a,ha=>by
  unfold bl at h;split at h
  ·cases h
  rename_i x hx;simp only at h;split at h
  case h_2=>cases h
  rename_i y hy;cases h;rcases zU.1 ha with rfl|ha
  ·exact⟨_,hx,fun b hb=>List.mem_append_left _ hb⟩
  ·obtain⟨z,h1,h2⟩:=Hl hy a ha;exact⟨z,h1,fun b hb=>zy _ (h2 b hb)⟩
def Gh(fr:Fr)(d:Option Nat):List (V×H)→Option (List (Fr×H))
 |[]=>some []
 |(v,h)::l=>match fr.put d v with
  |some f=>match Gh fr d l with
   |some r=>some ((f,h)::r)
   |none=>none
  |none=>none
theorem Ny{fr:Fr}{d:Option Nat}:∀ {l:List (V×H)} {r:List (Fr×H)},Gh fr d l=some r→∀v h,(v,h)∈l→∃f,fr.put d v=some f∧(f,h)∈r
 |[],r,_,v,h,hm=>by cases hm
 |(u,k)::l,r,hd,v,h,hm=>by
  unfold Gh at hd;split at hd
  case h_2=>cases hd
  rename_i f hf;split at hd
  case h_2=>cases hd
  rename_i r' hr;cases hd;rcases zU.1 hm with e|hm
  ·cases e;exact⟨f,hf,by simp⟩
  ·obtain⟨g,h1,h2⟩:=Ny hr v h hm;exact⟨g,h1,List.mem_cons_of_mem _ h2⟩
def E8(C:Ctx)(call:C3)(ops:Array Oper)(o:Oper)(fr:Fr)(h:H):Option (List (Fr×H)):=
 bif A2 fr ops o then
  match JZ C fr h o with
  |some (.val v h')=>match fr.put o.dst v with
   |some fr'=>some [(fr',h')]
   |none=>none
  |some (.skip h')=>match fr.put o.dst (.tup [])with
   |some fr'=>some [(fr',h')]
   |none=>none
  |some (.enter f args)=>match call (.fn f args) h with
   |some l=>Gh fr o.dst l
   |none=>none
  |some (.round b ls f)=>match call (.rnd b ls f) h with
   |some l=>Gh fr o.dst l
   |none=>none
  |some (.alts l)=>Gh fr o.dst l
  |none=>none
 else match fr.put o.dst (.tup [])with
  |some fr'=>some [(fr',h)]
  |none=>none
def Qi(C:Ctx)(call:C3)(ops:Array Oper):List Oper→Fr→H→Option (List (Fr×H))
 |[],fr,h=>some [(fr,h)]
 |o::rest,fr,h=>match E8 C call ops o fr h with
  |some l=>bl l fun x=>Qi C call ops rest x.1 x.2
  |none=>none
def FW(ro:Option Nat):Fence:={ zF with round:=ro }
theorem Th{ro:Option Nat}{n:Nat}{P:Program}{f:FuncId}{args:Array Value}{w:World}{R:Ending→World→Prop}:CallsIn (FW ro) n P f args w R↔Calls P f args w R:=by
 have:CallsIn (FW ro) n P f args w R↔CallsIn zF n P f args w R:=Iff.rfl;exact this.trans callsIn_wide
theorem gC{ro:Option Nat}{n:Nat}{P:Program}{k:Nat}{f:FuncId}{tmps:Array Value}{asg body:Code}{w:World}{R:Ending→World→Prop}(h:RoundIn zF 0 P k f tmps asg body w R):RoundIn (FW ro) n P k f tmps asg body w R:=
 ⟨trivial,fun c cs _=>h.2 c cs (room_wide _)⟩
inductive DX where
 |normal
 |exit (id:Nat)
 |ret
def DX.Qu:DX→Exit
 | .normal=>.normal
 | .exit id=>.exit id
 | .ret=>.ret
section
variable {C:Ctx}{P:Program}{p:Pl}{h:H}{w:World}{fr:Fr}{a:Act}
theorem Cc.put(hf:Cc p fr a){d:Option Nat}{v:V}{v':Value}(hv:Aa p v v'){fr':Fr}(hd:fr.put d v=some fr'):Cc p fr' (a.put d v'):=by
 unfold Fr.put at hd;cases d with
 |none=>cases hd;exact hf
 |some t=>
  simp only[Fj]at hd;by_cases hlt:t<fr.n
  ·simp only[hlt,decide_true,cond_true,zf]at hd;subst hd;refine⟨by simp[zV,hf.1],fun s=>?_⟩;have hlt':t<a.tmps.size:=hf.1▸hlt;by_cases e:s=t
   ·subst e;simp[Fr.get,zV,hlt',hv]
   ·have:=hf.2 s;simp only[Fr.get,PM.CX,if_neg e,zV]at this ⊢;rw[zi,zp (fun x=>e x.symm), ←zi];exact this
  ·simp[hlt]at hd
theorem Cc.mono(hf:Cc p fr a){p':Pl}(hp:∃q,p'=p++q):Cc p' fr a:=by
 obtain⟨q,rfl⟩:=hp;exact⟨hf.1,fun t=>(hf.2 t).mono q⟩
theorem Cc.ext(hf:Cc p fr a){p':Pl}{h':H}{w':World}(e:Ext p h w p' h' w'):Cc p' fr a:=hf.mono e.pre
theorem Za{p:Pl}{v:V}{b:Bool}(hv:Aa p v (.bool b)):v=.bool b:=by
 cases v<;>simp only[Aa]at hv<;>first|(cases hv;rfl)|(simp at hv;done)|(obtain⟨_,_,_,_,hx,_⟩:=hv;cases hx;done)|(obtain⟨_,_,_,hx⟩:=hv;cases hx;done)|(obtain⟨_,_,hx,_⟩:=hv;cases hx;done)|(obtain⟨_,_,hx⟩:=hv;cases hx;done)|(obtain⟨_,hx,_⟩:=hv;cases hx;done)
theorem OV(hf:Cc p fr a)(ops:Array Oper)(o:Oper):zL o (yielded ops a.tmps)=A2 fr ops o:=by
 unfold zL A2;cases hgd:o.guard with
 |none=>rfl
 |some jw=>
  obtain⟨j,want⟩:=jw;simp only;unfold yielded;cases hb:(ops[j]?).bind (·.dst)with
  |none=>simp
  |some t=>
   simp only[Option.bind_some,Fj];by_cases hlt:t<fr.n
   ·have hlt':t<a.tmps.size:=hf.1▸hlt;have hv:=hf.2 t;simp only[hlt,decide_true,cond_true];have e:a.tmps[t]?=some (a.tmps.getD t undef):=by simp[hlt']
    rw[e];cases hb2:a.tmps.getD t undef with
    |bool b=>
     rw[hb2]at hv;have:=Za hv;rw[this];cases b<;>cases want<;>rfl
    |_=>
     rw[hb2]at hv;cases hg2:fr.get t with
     |bool b=>rw[hg2]at hv;simp[Aa]at hv
     |_=>cases want<;>rfl
   ·have:a.tmps[t]?=none:=zn (zu (hf.1▸hlt));simp[this,hlt]
def Fp(p:Pl)(h:H)(w:World)(l:List (V×H))(e:Ending)(w':World):Prop:=
 ∃v h' v' p',(v,h')∈l∧e=.returned v'∧Aa p' v v'∧Ext p h w p' h' w'
structure C3.Ok(C:Ctx)(P:Program)(call:C3):Prop where
 fn:∀f args h l,call (.fn f args) h=some l→∀(p:Pl) (w:World) (args':Array Value),R p h w→Gl C p→Aq p args args'.toList→Calls P f args' w (Fp p h w l)
 rnd:∀b ls fr h l,call (.rnd b ls fr) h=some l→∀(p:Pl) (w:World) (k n:Nat) (f:FuncId) (tmps:Array Value),R p h w→Gl C p→h.get b=some (.loop ls)→p[b]?=some (k,n)→D9 p fr tmps→
  RoundIn zF 0 P k f tmps ls.asg ls.body w (Fp p h w l)
theorem FJ{o:Oper}{r:OR}(hd:FC C fr h o=some r):∀c,o.op≠ .defer c:=by
 intro c e;rw[CC]at hd;unfold FU at hd;simp[e]at hd
theorem EO{o:Oper}{r:OR}(hd:JZ C fr h o=some r):∀c,o.op≠ .defer c:=by
 intro c e;unfold JZ at hd;split at hd
 case h_1=>rename_i hr;exact FJ hr c e
 case h_2=>rw[e]at hd;cases hd
theorem Pt{p':Pl}{l:List (V×H)}{r:List (Fr×H)}{d:Option Nat}(hp:Gh fr d l=some r)(hf:Cc p fr a){K:Act→World→Prop}
  (hK:∀x∈r,∀p' a' w',Cc p' x.1 a'→Ext p h w p' x.2 w'→a'.defers=a.defers→K a' w') {v:V} {h':H} {v':Value} {w':World} (hm:(v,h')∈l) (hv:Aa p' v v') (he:Ext p h w p' h' w'):K (a.put d v') w':=by
 obtain⟨f,h1,h2⟩:=Ny hp v h' hm;exact hK _ h2 p' _ w' ((hf.ext he).put hv h1) he (by cases d<;>rfl)
theorem Vb(hC:C.Ok P){call:C3}(hcall:call.Ok C P)(hr:R p h w)(hg:Gl C p)(hf:Cc p fr a){ops:Array Oper}{i:Nat}{o:Oper}(ho:ops[i]?=some o){l:List (Fr×H)}
  (hd:E8 C call ops o fr h=some l) {ro:Option Nat} {n:Nat} {Q:Exit→Act→World→Prop} {K:Act→World→Prop}
  (hK:∀x∈l,∀p' a' w',Cc p' x.1 a'→Ext p h w p' x.2 w'→a'.defers=a.defers→K a' w'):wpOpIn (FW ro) n P ops Q i K a w:=by
 have hdf:∀v,(a.put o.dst v).defers=a.defers:=by intro v;cases o.dst<;>rfl
 unfold E8 at hd;unfold wpOpIn;simp only[ho];rw[OV hf];cases hw:A2 fr ops o with
 |false=>
  simp only[hw,cond_false]at hd;simp only[zx,if_false];refine⟨fun _ _=>trivial,?_⟩;split at hd
  case h_2=>cases hd
  rename_i fr1 hp;cases hd;exact hK _ (zl.2 rfl) p _ w (hf.put (by simp[Aa,undef]) hp) (zm hr) (hdf _)
 |true=>
  simp only[hw,cond_true]at hd;simp only[if_true];refine⟨fun _ _=>trivial,?_⟩;split at hd
  case h_6=>cases hd
  case h_1=>
   rename_i v h1 hop;split at hd
   case h_2=>cases hd
   rename_i fr1 hp;cases hd;obtain⟨v',p',w',g1,g2,g3⟩:=Jt hC hr hg hf hop;rw[zD _ _ _ (EO hop),g1,Oper.uponIn_value];exact hK _ (zl.2 rfl) p' _ w' ((hf.ext g3).put g2 hp) g3 (hdf _)
  case h_2=>
   rename_i h1 hop;split at hd
   case h_2=>cases hd
   rename_i fr1 hp;cases hd;obtain⟨p',w',g1,g3⟩:=Jt hC hr hg hf hop;rw[zD _ _ _ (EO hop),g1,Oper.uponIn_skip];exact hK _ (zl.2 rfl) p' _ w' ((hf.ext g3).put (by simp[Aa,undef]) hp) g3 (hdf _)
  case h_3=>
   rename_i f args hop;split at hd
   case h_2=>cases hd
   rename_i l1 hc;obtain⟨args',g1,g2⟩:=Jt hC hr hg hf hop;rw[zD _ _ _ (EO hop),g1,Oper.uponIn_enter];refine⟨fun h=>(by simp[FW,zF]at h),Th.2 ((hcall.fn f args h l1 hc p w args' hr hg g2).mono ?_)⟩;rintro e w' ⟨v,h',v',p',hm,rfl,k1,k2⟩;exact Pt hd hf hK hm k1 k2
  case h_4=>
   rename_i b ls f hop;split at hd
   case h_2=>cases hd
   rename_i l1 hc;obtain⟨k,m,g,tmps,g1,g2,g3,g4⟩:=Jt hC hr hg hf hop;rw[zD _ _ _ (EO hop),g3,Oper.uponIn_round];refine⟨fun h=>(by simp[FW,zF]at h),(gC (hcall.rnd b ls f h l1 hc p w k m g tmps hr hg g2 g1 g4)).mono ?_⟩;rintro e w' ⟨v,h',v',p',hm,rfl,k1,k2⟩;exact Pt hd hf hK hm k1 k2
  case h_5=>
   rename_i l1 hop;obtain⟨v,h',v',p',w',hm,g1,g2,g3⟩:=Jt hC hr hg hf hop;rw[zD _ _ _ (EO hop),g1,Oper.uponIn_value];exact Pt hd hf hK hm g2 g3
theorem QV(hC:C.Ok P){call:C3}(hcall:call.Ok C P){ops:Array Oper}{ro:Option Nat}{n:Nat}{Q:Exit→Act→World→Prop}:
  ∀(l:List Oper) (k:Nat),(∀j,l[j]?=ops[k+j]?)→∀ {p:Pl} {h:H} {w:World} {fr:Fr} {a:Act},R p h w→Gl C p→Cc p fr a→∀ {L:List (Fr×H)},Qi C call ops l fr h=some L→
  (∀x∈L,∀p' a' w',Cc p' x.1 a'→Ext p h w p' x.2 w'→a'.defers=a.defers→Q .normal a' w')→wpOpsIn (FW ro) n P ops Q (List.range' k l.length) a w
 |[],k,_,p,h,w,fr,a,hr,hg,hf,L,hd,hQ=>by
  cases hd;exact hQ _ (zl.2 rfl) p a w hf (zm hr) rfl
 |o::l,k,hl,p,h,w,fr,a,hr,hg,hf,L,hd,hQ=>by
  unfold Qi at hd;split at hd
  case h_2=>cases hd
  rename_i l1 hs;rw[List.length_cons,List.range'_succ,wpOpsIn_cons];refine Vb hC hcall hr hg hf (by simpa using(hl 0).symm) hs (K:=wpOpsIn (FW ro) n P ops Q (List.range' (k+1) l.length)) fun x hx p1 a1 w1 hf1 he1 hdf1=>?_
  obtain⟨L1,g1,g2⟩:=Hl hd x hx;exact QV hC hcall l (k+1) (fun j=>by have:=hl (j+1);simpa [Nat.add_assoc,Nat.add_comm 1 j]using this) he1.rel (hg.ext he1) hf1 g1
   fun y hy p2 a2 w2 hf2 he2 hdf2=>hQ y (g2 y hy) p2 a2 w2 hf2 (he1.trans he2) (hdf2.trans hdf1)
theorem Tj(hC:C.Ok P){call:C3}(hcall:call.Ok C P){ops:Array Oper}{ro:Option Nat}{n:Nat}{Q:Exit→Act→World→Prop}(hr:R p h w)(hg:Gl C p)(hf:Cc p fr a){L:List (Fr×H)}
  (hd:Qi C call ops ops.toList fr h=some L) {id:Nat}
  (hQ:∀x∈L,∀p' a' w',Cc p' x.1 a'→Ext p h w p' x.2 w'→a'.defers=a.defers→Q .normal a' w'):(Code.region id ops false).wpIn (FW ro) n P Q a w:=by
 refine wpIn_region ?_;have:=QV (Q:=Q) (ro:=ro) (n:=n) hC hcall ops.toList 0 (fun j=>by simp) hr hg hf hd hQ;rw[List.range_eq_range'];simpa using this
end
end
end Go.Det
end
section
namespace Go.Det
noncomputable section
theorem H7{C:Ctx}{fr fr':Fr}:∀ {xs:List Operand},(∀x∈xs,ev C fr x=ev C fr' x)→Pb C fr xs=Pb C fr' xs
 |[],_=>rfl
 |x::xs,h=>by
  unfold Pb;rw[h x (by simp),H7 (fun y hy=>h y (by simp[hy]))]
theorem HU{C:Ctx}{fr fr':Fr}:∀ {xs:List (Nat×Operand)},(∀x∈xs,ev C fr x.2=ev C fr' x.2)→Sy C fr xs=Sy C fr' xs
 |[],_=>rfl
 |(i,x)::xs,h=>by
  unfold Sy;rw[h (i,x) (by simp),HU (fun y hy=>h y (by simp[hy]))]
theorem HR{C:Ctx}{fr fr':Fr}{x:Option Operand}(h:∀y,x=some y→ev C fr y=ev C fr' y):Sf C fr x=Sf C fr' x:=by
 cases x with
 |none=>rfl
 |some y=>simp[Sf,h y rfl]
theorem Vc{C:Ctx}{fr fr':Fr}{h:H}{o:Oper}(hx:∀x∈o.op.operands,ev C fr x=ev C fr' x):FC C fr h o=FC C fr' h o:=by
 obtain⟨dst,op,type,pos,after,guard⟩:=o;cases op<;>simp only[zH]at hx<;>simp only[CC,FU]
 case build t ps=>rw[HU fun x hm=>hx x.2 (by simp;exact⟨x.1,by simpa using hm⟩)]
 case buildSlice t n ps=>rw[HU fun x hm=>hx x.2 (by simp;exact⟨x.1,by simpa using hm⟩)]
 case makeFunc f first captured=>rw[H7 (xs:=first.toList) fun x hm=>hx x (by simp at hm ⊢;exact .inl hm),H7 (xs:=captured.toList) fun x hm=>hx x (by simp at hm ⊢;exact .inr hm)]
 case makeMap t r=>rw[HR fun y hy=>hx y (by simp[hy])]
 case slice t x lo hi mx=>
  rw[hx x (by simp),HR (x:=lo) fun y hy=>hx y (by simp[hy]),HR (x:=hi) fun y hy=>hx y (by simp[hy]),HR (x:=mx) fun y hy=>hx y (by simp[hy])]
 case call c=>
  obtain⟨callee,args,ts⟩:=c;rw[H7 (xs:=args.toList) (fr:=fr) (fr':=fr') fun x hm=>hx x (by simp at hm;simp[Call.operands,hm])];cases callee with
  |value f=>
   have hf:=hx f (by simp[Call.operands]);cases Pb C fr' args.toList with
   |none=>rfl
   |some qB=>simp only[hf]
  |invoke=>rfl
  |builtin b=>cases Pb C fr' args.toList<;>rfl
 all_goals (first|rfl|(simp_all;done))
def reads(ops:Array Oper)(o:Oper):List Tmp:=o.looksAt ops
theorem bP{C:Ctx}{fr fr':Fr}{x:Operand}(h:∀t,x=.tmp t→fr.get t=fr'.get t):ev C fr x=ev C fr' x:=by
 cases x with
 |tmp t=>simp only[ev,h t rfl]
 |_=>rfl
theorem mem_reads{ops:Array Oper}{o:Oper}{t:Tmp}(h:Operand.tmp t∈o.op.operands):t∈reads ops o:=
 List.mem_append_left _ (List.mem_filterMap.2 ⟨.tmp t,by simpa using h,rfl⟩)
theorem PE{fr fr':Fr}{ops:Array Oper}{o:Oper}(hn:fr.n=fr'.n)(h:∀t∈reads ops o,fr.get t=fr'.get t):A2 fr ops o=A2 fr' ops o:=by
 unfold A2;cases hg:o.guard with
 |none=>rfl
 |some jw=>
  obtain⟨j,want⟩:=jw;simp only;cases hb:(ops[j]?).bind (·.dst)with
  |none=>rfl
  |some t=>
   simp only[hn];rw[h t (zy _ (by simp[hg,hb]))]
def Mb(l:List Tmp)(fr:Fr):Fr:=⟨fr.n,l.foldr (fun t m=>m.set t (some (fr.get t))) .leaf⟩
def G4(l:List Tmp)(a:Act):Act:={ a with tmps:=Array.ofFn (n:=a.tmps.size) fun t=>if l.contains t.1 then a.tmps.getD t undef else undef }
theorem JV(l:List Tmp)(fr:Fr)(t:Tmp):(Mb l fr).get t=if t∈l then fr.get t else .tup []:=by
 unfold Mb Fr.get;induction l with
 |nil=>simp
 |cons x l ih=>
  simp only[List.foldr_cons,PM.CX,zU];by_cases e:t=x
  ·subst e;simp
  ·simp only[e,if_false,false_or];exact ih
theorem JQ(l:List Tmp)(a:Act)(t:Tmp):(G4 l a).tmps.getD t undef=if t∈l then a.tmps.getD t undef else undef:=by
 unfold G4;by_cases h:t<a.tmps.size
 ·simp[h]
 ·simp only[zi];rw[zn (by simpa using zu h),zn (zu h)];simp
section
variable {C:Ctx}{P:Program}{p:Pl}{h:H}{w:World}{fr:Fr}{a:Act}
structure kD(p:Pl)(fr:Fr)(a:Act)(l:List Tmp):Prop where
 n:fr.n=a.tmps.size
 get:∀t∈l,Aa p (fr.get t) (a.tmps.getD t undef)
theorem kD.NH{l:List Tmp}(hf:kD p fr a l):Cc p (Mb l fr) (G4 l a):=by
 refine⟨by simp[Mb,G4,hf.n],fun t=>?_⟩;rw[JV,JQ];by_cases ht:t∈l
 ·simp only[ht,if_true];exact hf.get t ht
 ·simp only[ht,if_false];simp[Aa,undef]
theorem H4{ops:Array Oper}{o:Oper}{x:Operand}(hx:x∈o.op.operands):(G4 (reads ops o) a).eval x=a.eval x:=by
 cases x with
 |tmp t=>
  have:=JQ (reads ops o) a t;rw[if_pos (mem_reads hx)]at this;exact this
 |_=>rfl
theorem Qw{ops:Array Oper}{o:Oper}{x:Operand}(hx:x∈o.op.operands):ev C (Mb (reads ops o) fr) x=ev C fr x:=by
 refine bP fun t ht=>?_
 subst ht;rw[JV,if_pos (mem_reads hx)]
theorem HE(hC:C.Ok P)(hr:R p h w)(hg:Gl C p){ops:Array Oper}{o:Oper}(hf:kD p fr a (reads ops o))(hs:∀cs b,o.op≠ .select cs b){r:OR}(hd:FC C fr h o=some r):
  Rx p h w r ((execOp a.eval o).run P w):=by
 have h1:=YI hC hr hg hf.NH (o:=o) (r:=r) (by rw[Vc (fr':=fr) fun x hx=>Qw hx];exact hd);rwa [execOp_congr o hs fun x hx=>H4 hx]at h1
theorem OP{ops:Array Oper}{o:Oper}(hf:kD p fr a (reads ops o)):zL o (yielded ops a.tmps)=A2 fr ops o:=by
 have h1:=OV hf.NH ops o;rw[PE (fr:=Mb (reads ops o) fr) (fr':=fr) (ops:=ops) (o:=o) rfl fun t ht=>by rw[JV,if_pos ht]]at h1;rw[←h1];unfold zL;cases hg:o.guard with
 |none=>rfl
 |some jw=>
  obtain⟨j,want⟩:=jw;simp only;congr 1;unfold yielded;cases hb:(ops[j]?).bind (·.dst)with
  |none=>rfl
  |some t=>
   simp only[Option.bind_some];have ht:t∈reads ops o:=zy _ (by simp[hg,hb]);have:=JQ (reads ops o) a t;rw[if_pos ht]at this;by_cases hlt:t<a.tmps.size
   ·have e1:a.tmps[t]?=some (a.tmps.getD t undef):=by simp[hlt]
    have e2:(G4 (reads ops o) a).tmps[t]?=some ((G4 (reads ops o) a).tmps.getD t undef):=by simp[G4,hlt]
    rw[e1,e2,this]
   ·rw[zn (zu hlt),zn (by simpa [G4]using zu hlt)]
end
def DI(o:Oper):Bool:=
 match o.op with
 | .move _| .assign _| .pick .. | .build .. | .load .. | .nilCheck _| .binOp .. | .unOp .. | .convert .. | .makeInterface .. | .makeFunc .. | .slice .. | .fieldAddr .. | .field .. | .indexAddr .. | .index .. | .lookup .. | .extract .. =>true
 | .call { callee:=.builtin .len,.. }| .call { callee:=.builtin .max,.. }| .call { callee:=.builtin .min,.. }=>true
 |_=>false
def M6(o:Oper):Bool:=
 match o.op with
 | .load .. | .convert .. | .lookup .. =>true
 | .call { callee:=.builtin .len,.. }=>true
 |_=>false
def B3(o:Oper):Bool:=
 match o.op with
 | .alloc _| .box .. | .buildSlice .. =>true
 |_=>false
theorem Fk{h:H}{v:Option V}{r:OR}(hd:Bj h v=some r):∃x,v=some x∧r=.val x h:=by
 cases v with
 |none=>cases hd
 |some x=>cases hd;exact⟨x,rfl,rfl⟩
theorem rd_val{C:Ctx}{fr:Fr}{h:H}{o:Oper}(hk:DI o=true){r:OR}(hd:FC C fr h o=some r):∃v,r=.val v h:=by
 obtain⟨dst,op,type,pos,after,guard⟩:=o;cases op<;>simp only[DI]at hk<;>simp only[CC,FU]at hd<;>try (cases hk;done)
 case call c=>
  obtain⟨callee,args,ts⟩:=c;cases callee with
  |builtin b=>
   cases he:Pb C fr args.toList with
   |none=>simp[he]at hd
   |some qB=>
    simp only[he]at hd;cases b<;>first|(cases hk;done)|(simp only[DJ]at hd;obtain⟨x,_,rfl⟩:=Fk hd;exact⟨x,rfl⟩)
  |value f=>cases hk
  |invoke=>cases hk
 all_goals
  repeat' split at hd
  all_goals first
   |(cases hd;done)
   |(obtain⟨x,_,rfl⟩:=Fk hd;exact⟨x,rfl⟩)
theorem XW{C:Ctx}{fr:Fr}{h:H}{o:Oper}(hk:DI o=true)(hn:M6 o=false){v:V}(hd:FC C fr h o=some (.val v h))(h':H):FC C fr h' o=some (.val v h'):=by
 have key:∀ {x:Option V},Bj h x=some (.val v h)→Bj h' x=some (.val v h'):=by
  intro x hx;obtain⟨y,rfl,e⟩:=Fk hx;cases e;rfl
 obtain⟨dst,op,type,pos,after,guard⟩:=o;cases op<;>simp only[DI]at hk<;>simp only[M6]at hn<;>simp only[CC,FU]at hd ⊢<;>try (first|(cases hk;done)|(cases hn;done))
 case call c=>
  obtain⟨callee,args,ts⟩:=c;cases callee with
  |builtin b=>
   cases he:Pb C fr args.toList with
   |none=>simp[he]at hd
   |some qB=>
    simp only[he]at hd ⊢;cases b<;>first|(cases hk;done)|(cases hn;done)|(simp only[DJ]at hd ⊢;exact key hd)
  |value f=>cases hk
  |invoke=>cases hk
 all_goals
  repeat' split at hd
  all_goals first
   |(cases hd;done)
   |exact key hd
   |(simp only[*];exact key hd)
end
end Go.Det
end
section
namespace Go.Det
noncomputable section
section
variable {C:Ctx}{P:Program}{p:Pl}{h:H}{w:World}{fr:Fr}{a:Act}
def S4(T:BZ)(t:TypeId)(len:Nat)(parts:List (Nat×V)):Option (List V×TypeId):=
 match T.und t with
 |some (.slice e)=>match T.inf e with
  |some i=>
   bif Nat.ble (len*i.size) 16777216&&zB 0 (i.zero.length)&&zS i.zero.length i.size then
    (HB (fun k=>some (k*i.size,i.size)) (Ea i.zero (len*i.size)) parts).map fun cs=>(cs,e)
   else none
  |none=>none
 |_=>none
def Wk(C:Ctx)(fr:Fr)(o:Oper):Option (O×(Nat→V)):=
 match o.op with
 | .alloc t=>match C.T.inf t with
  |some i=>some (.cells i.zero t (0,0),fun b=>.ptr b 0)
  |none=>none
 | .box t x=>match ev C fr x with
  |some v=>some (.cells v.cells t (0,0),fun b=>.ptr b 0)
  |none=>none
 | .buildSlice t n parts=>match Sy C fr parts.toList with
  |some ps=>match S4 C.T t n ps with
   |some (cs,e)=>some (.cells cs e (0,0),fun b=>.sl b 0 n n 0)
   |none=>none
  |none=>none
 |_=>none
theorem W4{o:Oper}{r:O×(Nat→V)}(hd:Wk C fr o=some r):B3 o=true:=by
 unfold Wk at hd;unfold B3;split at hd<;>simp_all
theorem gJ(hC:C.Ok P)(hg:Gl C p){ops:Array Oper}{o:Oper}(hf:kD p fr a (reads ops o)){ob:O}{f:Nat→V}(hd:Wk C fr o=some (ob,f)):
  ∃x n v',(execOp a.eval o).run P w=.ok (.value v') { w with heap:=w.heap.push x }∧Gg p n ob x∧∀(q:Pl) b,q[b]?=some (w.heap.size,n)→Aa q (f b) v':=by
 have hsel:∀cs b,o.op≠ .select cs b:=by
  intro cs b e;have:=W4 hd;simp[B3,e]at this
 have hE:∀(P:Program) (w:World),(execOp (G4 (reads ops o) a).eval o).run P w=(execOp a.eval o).run P w:=fun P w=>by rw[execOp_congr o hsel fun x hx=>H4 hx]
 have hk:=hf.NH;have cellsO:∀(t:TypeId) (cs:List V) (c:Array Value),Aq p cs c.toList→Gg p c.size (.cells cs t (0,0)) (.cells c t):=by
  intro t cs c hx;refine⟨c,(0,0),rfl,rfl,by have:=hx.length;simp at this;omega,?_,fun i _ h1 h2=>⟨h1,h2⟩⟩;have:=hx.length;rw[List.take_of_length_le (by simp at this ⊢;omega)];exact hx.lR
 unfold Wk at hd;split at hd
 case h_4=>cases hd
 case h_1=>
  rename_i t ho;split at hd
  case h_2=>cases hd
  rename_i i hi;cases hd;obtain⟨z,hz,hzr⟩:=DO hC.T hi;refine⟨.cells z.cells t,_,.pointer (some ⟨w.heap.size,0,none⟩),?_,cellsO _ _ _ (hzr p),fun q b hb=>by simp only[Aa];exact⟨_,_,hb,rfl⟩⟩;unfold execOp;simp only[ho];unfold Instr.alloc newVar;simp only[zd,hz,zc,B1,zg]
 case h_2=>
  rename_i t x ho;split at hd
  case h_2=>cases hd
  rename_i v hv;cases hd;have hx:Aa p v (a.eval x):=by
   have:=AZ (C:=C) hg hk (x:=x) (v:=v) (by rw[Qw (by simp[ho,zH])];exact hv);rwa [H4 (by simp[ho,zH])]at this
  refine⟨.cells (a.eval x).cells t,_,.pointer (some ⟨w.heap.size,0,none⟩),?_,cellsO _ _ _ hx.cells,fun q b hb=>by simp only[Aa];exact⟨_,_,hb,rfl⟩⟩;unfold execOp;simp only[ho];unfold Instr.box newVar;simp only[zd,zc,B1,zg]
 case h_3=>
  rename_i t len parts ho;split at hd
  case h_2=>cases hd
  rename_i ps hps;split at hd
  case h_2=>cases hd
  rename_i cs e hcs;cases hd;have hp:RG p ps (parts.map fun(i,x)=>(i,a.eval x)).toList:=by
   have:=La (C:=C) (fr:=Mb (reads ops o) fr) hg hk (xs:=parts.toList) (vs:=ps) (by
    rw[HU (fr':=fr) fun x hx=>Qw (by rw[ho];simp[zH];exact⟨x.1,by simpa using hx⟩)];exact hps)
   have e2:(parts.toList.map fun(i,x)=>(i,(G4 (reads ops o) a).eval x))=(parts.map fun(i,x)=>(i,a.eval x)).toList:=by
    rw[Array.toList_map];apply List.map_congr_left;rintro⟨i,x⟩ hm;simp only;rw[H4 (by rw[ho];simp[zH];exact⟨i,by simpa using hm⟩)]
   rwa [e2]at this
  unfold S4 at hcs;split at hcs
  case h_2=>cases hcs
  rename_i e' hu;split at hcs
  case h_2=>cases hcs
  rename_i i hi;cases hcond:(Nat.ble (len*i.size) 16777216&&zB 0 (i.zero.length)&&zS i.zero.length i.size)with
  |false=>simp[hcond]at hcs
  |true=>
   simp only[hcond,cond_true,zh,zI]at hcs;obtain⟨cs',hcs',rfl,rfl⟩:=hcs;simp only[zA,Nat.ble_eq,Nat.blt_eq,Be,decide_eq_true_eq]at hcond;obtain⟨⟨c1,c2⟩,c3⟩:=hcond;obtain⟨z,hz,hzr⟩:=DO hC.T hi;have hzl:=(hzr p).length;simp at hzl;obtain⟨oo,h1,h2⟩:=Je (p:=p) (place:=fun k=>some (k*i.size,i.size)) hp (HW (hzr p) c2 (len*i.size)) hcs';refine⟨.cells oo e',_,.slice (some ⟨w.heap.size,0,none⟩) len len,?_,cellsO _ _ _ h2,fun q b hb=>by simp only[Aa];exact⟨_,_,len,hb,rfl,zE _,zE _,fun _=>rfl,by simp⟩⟩;unfold execOp;simp only[ho];unfold Instr.buildSlice;simp only[zd,Au hC.T hu,zc,Bg hC.T hi];rw[if_neg (by omega)];by_cases h0:len*i.size=0
   ·rw[if_pos h0];simp only[zd,zg,zc];have e1:(Array.map (fun x=>(#[]:Array Value)[x % (#[]:Array Value).size]!) (Array.range (len*i.size)))=Array.map (fun i_1=>z.cells[i_1 % z.cells.size]!) (Array.range (len*i.size)):=by simp[h0]
    rw[e1,h1];simp only[zd,B1,zc,zg]
   ·simp only[h0,if_false,zd,hz,zc,zg,h1,B1]
theorem Ext.Xt{p₀ p:Pl}{h₀ h:H}{w₀ w:World}(he:Ext p₀ h₀ w₀ p h w){r n:Nat}{o:O}{x:Obj}(hx:w.heap[r]?=some x)(ho:Gg p n o x)(hi:¬Im p h r)(hnew:w₀.heap.size≤r):
  Ext p₀ h₀ w₀ (p++[(r,n)]) (h.push o) w:=by
 have hr:=he.rel;have hnewp:(p++[(r,n)])[h.nx]?=some (r,n):=by rw[←hr.len];simp
 have hold:∀b,b<h.nx→(p++[(r,n)])[b]?=p[b]?:=fun b hb=>zj (by rw[hr.len];exact hb)
 have get':∀c oc,(h.push o).get c=some oc→(c=h.nx∧oc=o)∨(c<h.nx∧h.get c=some oc):=by
  intro c oc hc;rw[H.BS]at hc;by_cases e:c=h.nx
  ·rw[if_pos e]at hc;cases hc;exact .inl ⟨e,rfl⟩
  ·rw[if_neg e]at hc;exact .inr ⟨hr.lt hc,hc⟩
 refine⟨?_,⟨by simp[hr.len],fun c oc hc=>?_,fun c c' oc oc' s m m' hc hc' h1 h2=>?_⟩,he.size,he.same,fun s hs=>?_,he.os,he.out,he.tape,fun s hs hl=>?_⟩
 ·obtain⟨q,rfl⟩:=he.pre;exact⟨q++[(r,n)],by simp⟩
 ·rcases get' c oc hc with⟨rfl,rfl⟩|⟨e1,e2⟩
  ·exact⟨r,n,x,hnewp,hx,ho.mono _⟩
  ·obtain⟨s,m,y,k1,k2,k3⟩:=hr.obj c oc e2;exact⟨s,m,y,by rw[hold c e1];exact k1,k2,k3.mono _⟩
 ·rcases get' c oc hc with⟨rfl,rfl⟩|⟨e1,e2⟩<;>rcases get' c' oc' hc' with⟨rfl,rfl⟩|⟨f1,f2⟩
  ·rfl
  ·rw[hnewp]at h1;cases h1;rw[hold c' f1]at h2;exact absurd ⟨c',oc',m',f2,h2⟩ hi
  ·rw[hnewp]at h2;cases h2;rw[hold c e1]at h1;exact absurd ⟨c,oc,m,e2,h1⟩ hi
  ·rw[hold c e1]at h1;rw[hold c' f1]at h2;exact hr.inj c c' oc oc' s m m' e2 f2 h1 h2
 ·obtain⟨c,oc,m,k1,k2⟩:=hs;rcases get' c oc k1 with⟨rfl,rfl⟩|⟨e1,e2⟩
  ·rw[hnewp]at k2;cases k2;exact .inr hnew
  ·rw[hold c e1]at k2;exact he.im s ⟨c,oc,m,e2,k2⟩
 ·obtain⟨e1,h1⟩:=he.lock s hs hl;refine⟨e1,?_⟩;rcases h1 with⟨c,m,cs,t,fz,k1,k2,k3⟩|h1
  ·have hlc:=hr.lt k1;exact .inl ⟨c,m,cs,t,fz,by rw[H.BS,if_neg (by omega)];exact k1,by rw[hold c hlc];exact k2,k3⟩
  ·refine .inr ?_;rintro⟨c,oc,m,k1,k2⟩;rcases get' c oc k1 with⟨rfl,rfl⟩|⟨f1,f2⟩
   ·rw[hnewp]at k2;cases k2;omega
   ·rw[hold c f1]at k2;exact h1 ⟨c,oc,m,f2,k2⟩
theorem Ext.aside{p₀ p:Pl}{h₀ h:H}{w₀ w:World}(he:Ext p₀ h₀ w₀ p h w)(x:Obj):Ext p₀ h₀ w₀ p h { w with heap:=w.heap.push x }:=by
 have hr:=he.rel;refine⟨he.pre,⟨hr.len,fun b o hb=>?_,hr.inj⟩,by have:=he.size;simp;omega,fun r hlt hn=>?_,he.im,he.os,he.out,he.tape,fun r hlt hl=>?_⟩
 ·obtain⟨r,n,y,h1,h2,h3⟩:=hr.obj b o hb;have:=(ze.1 h2).1;exact⟨r,n,y,h1,by simp[zw,Nat.ne_of_lt this,h2],h3⟩
 ·have h1:=he.same r hlt hn;have:=he.size;simp only[zw];rw[if_neg (by omega)];exact h1
 ·obtain⟨h1,h2⟩:=he.lock r hlt hl;have:=he.size;refine⟨?_,h2⟩;simp only[zw];rw[if_neg (by omega)];exact h1
end
end
end Go.Det
end
section
namespace Go.Det
noncomputable section
def BJ(C:Ctx)(call:C3)(fr:Fr)(h:H)(o:Oper):Option (V×H):=
 match FC C fr h o with
 |some (.val v h')=>some (v,h')
 |some (.skip h')=>some (.tup [],h')
 |some (.enter f args)=>match call (.fn f args) h with
  |some [x]=>some x
  |_=>none
 |_=>none
def Ci(o:Oper):Bool:= !DI o&& !B3 o
structure Stat(ops:Array Oper)(anc:Nat→Nat→Bool)(ord pos:Nat→Nat)(sc:Nat→Option Nat):Prop where
 sel:Region.noSelect ops=true
 ordp:∀q,q<ops.size→ord q<ops.size∧pos (ord q)=q
 posp:∀i,i<ops.size→pos i<ops.size∧ord (pos i)=i
 edge:∀j i,anc j i=true→∃(o:Oper) (e:Edge),ops[j]?=some o∧e∈o.after∧Region.binds .any e=true∧(e.on=i∨anc e.on i=true)
 dir:∀(j:Nat) (o:Oper) (e:Edge),ops[j]?=some o→e∈o.after→Region.binds .any e=true→anc j e.on=true∧e.on<ops.size
 apos:∀j i,anc j i=true→pos i<pos j
 s1:∀(i j:Nat) (o o':Oper),ops[i]?=some o→ops[j]?=some o'→Ci o=true→Ci o'=true→i≠j→anc i j=true∨anc j i=true
 s2:∀(i j:Nat) (o o':Oper),ops[i]?=some o→ops[j]?=some o'→Ci o=true→DI o'=true→anc j i=true∨pos j<pos i
 q1:∀(i k:Nat),sc i=some k→∃(o ok:Oper) (t:Tmp),ops[i]?=some o∧ops[k]?=some ok∧(o.op=.assign (.tmp t)∨o.op=.move (.tmp t))∧o.guard=none∧B3 ok=true∧ok.dst=some t∧anc i k=true
 s3:∀(j k:Nat) (o o':Oper) (t:Tmp),ops[j]?=some o→ops[k]?=some o'→(B3 o=true∨(sc j).isSome=true)→Ci o'=false→o.dst=some t→t∈reads ops o'→anc k j=true→
  sc k=some j∨∃(i:Nat) (oi:Oper),ops[i]?=some oi∧Ci oi=true∧anc i j=true∧anc k i=true
 s4:∀(i j:Nat) (o o':Oper),ops[i]?=some o→ops[j]?=some o'→Ci o=true→B3 o'=true→anc i j=true∨pos i<pos j
 s5:∀(i j:Nat) (o o':Oper),ops[i]?=some o→ops[j]?=some o'→DI o=true→M6 o=true→B3 o'=true→pos j<pos i→∃(k:Nat) (ok:Oper),ops[k]?=some ok∧Ci ok=true∧pos j<pos k∧pos k<pos i
 s6:∀(i j:Nat) (o o':Oper) (t:Tmp),ops[i]?=some o→ops[j]?=some o'→i≠j→o.dst=some t→o'.dst≠some t∧(t∈reads ops o'→anc j i=true∨anc i j=true)
structure Canon(C:Ctx)(call:C3)(ops:Array Oper)(anc:Nat→Nat→Bool)(ord pos:Nat→Nat)(fr0:Fr)(h0:H)(v:Nat→V)(Hh:Nat→H)(F:Nat→Fr):Prop where
 h0:Hh 0=h0
 f0:F 0=fr0
 fn:∀q,q≤ops.size→(F q).n=fr0.n
 fget:∀q,q<ops.size→∀(o:Oper),ops[ord q]?=some o→∀t,(F (q+1)).get t=if o.dst=some t then v (ord q)else(F q).get t
 dst:∀(i:Nat) (o:Oper) (t:Tmp),ops[i]?=some o→o.dst=some t→t<fr0.n
 step:∀(i:Nat) (o:Oper),ops[i]?=some o→
  (A2 (F (pos i)) ops o=false∧v i=.tup []∧Hh (pos i+1)=Hh (pos i))∨
  (A2 (F (pos i)) ops o=true∧
   ((DI o=true∧FC C (F (pos i)) (Hh (pos i)) o=some (.val (v i) (Hh (pos i)))∧Hh (pos i+1)=Hh (pos i))∨
    (B3 o=true∧∃ob f,Wk C (F (pos i)) o=some (ob,f)∧v i=f (Hh (pos i)).nx∧Hh (pos i+1)=(Hh (pos i)).push ob)∨
    (Ci o=true∧BJ C call (F (pos i)) (Hh (pos i)) o=some (v i,Hh (pos i+1)))))
 stable:∀(i j:Nat) (o oj:Oper),ops[i]?=some o→ops[j]?=some oj→Ci o=true→DI oj=true→M6 oj=true→A2 (F (pos j)) ops oj=true→pos j<pos i→anc i j=false→
  FC C (F (pos j)) (Hh (pos i+1)) oj=some (.val (v j) (Hh (pos i+1)))
theorem kinds(o:Oper):DI o=true∨B3 o=true∨Ci o=true:=by
 unfold Ci;cases DI o<;>cases B3 o<;>simp
theorem H2{o:Oper}(h:DI o=true):B3 o=false:=by
 unfold DI at h;unfold B3;split at h<;>simp_all
theorem Nu{o:Oper}(h:Ci o=true):DI o=false∧B3 o=false:=by
 unfold Ci at h;simpa using h
section
variable {C:Ctx}{P:Program}{call:C3}{ops:Array Oper}{anc:Nat→Nat→Bool}{ord pos:Nat→Nat}{sc:Nat→Option Nat}{fr0:Fr}{h0:H}{v:Nat→V}{Hh:Nat→H}{F:Nat→Fr}
theorem Fw(st:Stat ops anc ord pos sc)(cn:Canon C call ops anc ord pos fr0 h0 v Hh F){k:Nat}{o:Oper}{t:Tmp}(hk:ops[k]?=some o)(ht:o.dst=some t):
  ∀q,q≤ops.size→pos k<q→(F q).get t=v k
 |0,_,h=>by omega
 |q+1,hq,h=>by
  have hqn:q<ops.size:=by omega
  obtain⟨h1,h2⟩:=st.ordp q hqn;rw[cn.fget q hqn (ops[ord q]) (by simp[h1]) t];have hkn:=(ze.1 hk).1;by_cases e:pos k=q
  ·have e2:ord q=k:=by rw[←e];exact(st.posp k hkn).2
   have e3:ops[ord q]=o:=by have:=(ze.1 hk).2;simp only[e2];exact this
   rw[e3,if_pos ht,e2]
  ·have hne:ord q≠k:=fun e2=>e (by rw[←e2,h2])
   have:=(st.s6 k (ord q) o (ops[ord q]) t hk (by simp[h1]) (Ne.symm hne) ht).1;rw[if_neg this];exact Fw st cn hk ht q (by omega) (by omega)
theorem Fz(st:Stat ops anc ord pos sc)(cn:Canon C call ops anc ord pos fr0 h0 v Hh F){t:Tmp}:
  ∀q,q≤ops.size→(∀k o,ops[k]?=some o→o.dst=some t→¬pos k<q)→(F q).get t=fr0.get t
 |0,_,_=>by rw[cn.f0]
 |q+1,hq,h=>by
  have hqn:q<ops.size:=by omega
  obtain⟨h1,h2⟩:=st.ordp q hqn;rw[cn.fget q hqn (ops[ord q]) (by simp[h1]) t,if_neg]
  ·exact Fz st cn q (by omega) fun k o hk ht hlt=>h k o hk ht (by omega)
  ·intro ht;exact h (ord q) _ (by simp[h1]) ht (by omega)
theorem fC(st:Stat ops anc ord pos sc)(cn:Canon C call ops anc ord pos fr0 h0 v Hh F){i k:Nat}(h:sc i=some k):v i=v k:=by
 obtain⟨o,ok,t,h1,h2,h3,h4,h5,h6,h7⟩:=st.q1 i k h;have hin:=(ze.1 h1).1;have hg:=Fw st cn h2 h6 (pos i) (Nat.le_of_lt (st.posp i hin).1) (st.apos i k h7);have hw:A2 (F (pos i)) ops o=true:=by unfold A2;rw[h4]
 have hrd:DI o=true:=by unfold DI;rcases h3 with h3|h3<;>rw[h3]
 rcases cn.step i o h1 with⟨u,_⟩|⟨_,⟨_,u,_⟩|⟨u,_⟩|⟨u,_⟩⟩
 ·rw[hw]at u;cases u
 ·have:FC C (F (pos i)) (Hh (pos i)) o=some (.val ((F (pos i)).get t) (Hh (pos i))):=by
   rw[CC];unfold FU;rcases h3 with h3|h3<;>simp only[h3,ev,Bj]
  rw[this,hg]at u;simp only[zf,OR.val.injEq]at u;exact u.1.symm
 ·rw[H2 hrd]at u;cases u
 ·rw[(Nu u).1]at hrd;cases hrd
structure Inv(C:Ctx)(ops:Array Oper)(pos:Nat→Nat)(sc:Nat→Option Nat)(fr0:Fr)(v:Nat→V)(Hh:Nat→H)(F:Nat→Fr)(p0:Pl)(h0:H)(w0:World)(df:List Deferred)
  (S:Nat→Prop) (m:Nat) (fl:Nat→Nat) (p:Pl) (a:Act) (w:World):Prop where
 ext:Ext p0 h0 w0 p (Hh m) w
 gl:Gl C p
 mn:m≤ops.size
 mh:∀(k:Nat) (o:Oper),ops[k]?=some o→Ci o=true→(S k↔pos k<m)
 ma:∀(k:Nat) (o:Oper),ops[k]?=some o→B3 o=true→pos k<m→S k
 sz:a.tmps.size=fr0.n
 df:a.defers=df
 slot:∀t,(∀(i:Nat) (o:Oper),S i→ops[i]?=some o→o.dst≠some t)→Aa p (fr0.get t) (a.tmps.getD t undef)
 slotw:∀(i:Nat) (o:Oper) (t:Tmp),S i→ops[i]?=some o→o.dst=some t→((B3 o=true∨(sc i).isSome=true)→A2 (F (pos i)) ops o=true→pos i<m)→Aa p (v i) (a.tmps.getD t undef)
 flt:∀(i:Nat) (o:Oper),S i→ops[i]?=some o→B3 o=true→A2 (F (pos i)) ops o=true→m≤pos i→
  ∃n x ob f v',Wk C (F (pos i)) o=some (ob,f)∧w.heap[fl i]?=some x∧w0.heap.size≤fl i∧¬Im p (Hh m) (fl i)∧Gg p n ob x∧
   (∀(q:Pl) b,q[b]?=some (fl i,n)→Aa q (f b) v')∧(∀t,o.dst=some t→a.tmps.getD t undef=v')
 inj:∀(i j:Nat) (o o':Oper),S i→S j→ops[i]?=some o→ops[j]?=some o'→B3 o=true→B3 o'=true→A2 (F (pos i)) ops o=true→A2 (F (pos j)) ops o'=true→
  m≤pos i→m≤pos j→fl i=fl j→i=j
structure Kb(ops:Array Oper)(pos:Nat→Nat)(sc:Nat→Option Nat)(S:Nat→Prop)(m:Nat)(a:Act):Prop where
 eq:∀(i k:Nat) (o ok:Oper) (t tk:Tmp),S i→ops[i]?=some o→sc i=some k→ops[k]?=some ok→o.dst=some t→ok.dst=some tk→m≤pos i→a.tmps.getD t undef=a.tmps.getD tk undef∧S k
theorem Inv.oM(st:Stat ops anc ord pos sc)(cn:Canon C call ops anc ord pos fr0 h0 v Hh F){p0:Pl}{w0:World}{df:List Deferred}{S:Nat→Prop}{fl:Nat→Nat}{a:Act}{w:World}:
  ∀(d m:Nat) {p:Pl},Inv C ops pos sc fr0 v Hh F p0 h0 w0 df S m fl p a w→Kb ops pos sc S m a→m+d≤ops.size→
  (∀q,m≤q→q<m+d→∀(o:Oper),ops[ord q]?=some o→Ci o=false∧(B3 o=true→S (ord q)))→
  ∃p',Inv C ops pos sc fr0 v Hh F p0 h0 w0 df S (m+d) fl p' a w
 |0,m,p,hi,_,_,_=>⟨p,hi⟩
 |d+1,m,p,hi,h2f,hn,hq=>by
  have hm:m<ops.size:=by omega
  obtain⟨g1,g2⟩:=st.ordp m hm;obtain⟨o0,hj⟩:∃o0,ops[ord m]?=some o0:=⟨ops[ord m],by simp[g1]⟩;obtain⟨q1,q2⟩:=hq m (zE _) (by omega) _ hj;have one:∃p',Inv C ops pos sc fr0 v Hh F p0 h0 w0 df S (m+1) fl p' a w:=by
   have hmh:∀(k:Nat) (o:Oper),ops[k]?=some o→Ci o=true→(S k↔pos k<m+1):=by
    intro k o hk hv;rw[hi.mh k o hk hv];constructor
    ·intro h;omega
    ·intro h;by_cases e:pos k=m
     ·have hkn:=(ze.1 hk).1;have e2:ord m=k:=by rw[←e];exact(st.posp k hkn).2
      subst e2;rw[hj]at hk;cases hk;simp[q1]at hv
     ·omega
   have hma:∀(k:Nat) (o:Oper),ops[k]?=some o→B3 o=true→pos k<m+1→S k:=by
    intro k o hk hal hlt;by_cases e:pos k=m
    ·have hkn:=(ze.1 hk).1;have e2:ord m=k:=by rw[←e];exact(st.posp k hkn).2
     subst e2;rw[hj]at hk;cases hk;exact q2 hal
    ·exact hi.ma k o hk hal (by omega)
   have same:Hh (m+1)=Hh m→(B3 o0=true→A2 (F (pos (ord m))) ops o0=false)→(A2 (F (pos (ord m))) ops o0=false→v (ord m)=.tup [])→
     Inv C ops pos sc fr0 v Hh F p0 h0 w0 df S (m+1) fl p a w:=by
    intro hh hal _;refine⟨by rw[hh];exact hi.ext,hi.gl,by omega,hmh,hma,hi.sz,hi.df,hi.slot,fun i o t hs hi' ht hc=>?_,fun i o hs hi' ha hw hle=>?_,fun i j o o' hs hs' hi' hj' ha ha' hw hw' hle hle' he=>?_⟩
    ·by_cases hcp:(sc i).isSome=true∧pos i=m
     ·obtain⟨k,hk⟩:=Option.isSome_iff_exists.1 hcp.1;obtain⟨o2,ok,tk,h1,h2,h3,h4,h5,h6,h7⟩:=st.q1 i k hk;rw[hi']at h1;cases h1;obtain⟨e1,e2⟩:=h2f.eq i k o ok t tk hs hi' hk h2 ht h6 (by omega);rw[fC st cn hk,e1];have:=st.apos _ _ h7;exact hi.slotw k ok tk e2 h2 h6 fun _ _=>by omega
     ·refine hi.slotw i o t hs hi' ht fun ha hw=>?_
      have h1:=hc ha hw;by_cases e:pos i=m
      ·have hin:=(ze.1 hi').1;have e2:ord m=i:=by rw[←e];exact(st.posp i hin).2
       subst e2;rw[hj]at hi';cases hi';rcases ha with ha|ha
       ·rw[hal ha]at hw;cases hw
       ·exact absurd ⟨ha,e⟩ hcp
      ·omega
    ·obtain⟨n,x,ob,f,v',k1,k2,k3,k4,k5⟩:=hi.flt i o hs hi' ha hw (by omega);exact⟨n,x,ob,f,v',k1,k2,k3,by rw[hh];exact k4,k5⟩
    ·exact hi.inj i j o o' hs hs' hi' hj' ha ha' hw hw' (by omega) (by omega) he
   rcases cn.step (ord m) _ hj with⟨u1,u2,u3⟩|⟨u1,⟨u2,u3,u4⟩|⟨u2,ob,f,u3,u4,u5⟩|⟨u2,u3⟩⟩
   ·rw[g2]at u3;exact⟨p,same u3 (fun _=>u1) (fun _=>u2)⟩
   ·rw[g2]at u4;exact⟨p,same u4 (fun h=>by rw[H2 u2]at h;cases h) (fun h=>by rw[u1]at h;cases h)⟩
   ·
    obtain⟨n,x,ob',f',v',k1,k2,k3,k4,k5,k6,k7⟩:=hi.flt (ord m) _ (q2 u2) hj u2 u1 (by omega);rw[u3]at k1;cases k1;rw[g2]at u4 u5;have hx:=hi.ext.Xt k2 k5 k4 k3;rw[←u5]at hx;have hnew:(p++[(fl (ord m),n)])[(Hh m).nx]?=some (fl (ord m),n):=by rw[←hi.ext.rel.len];simp
    have hv:Aa (p++[(fl (ord m),n)]) (v (ord m)) v':=by rw[u4];exact k6 _ _ hnew
    refine⟨p++[(fl (ord m),n)],hx,?_,by omega,hmh,hma,hi.sz,hi.df,fun t ht=>(hi.slot t ht).mono _,fun i o t hs hi' ht hc=>?_,fun i o hs hi' ha hw hle=>?_,fun i j o o' hs hs' hi' hj' ha ha' hw hw' hle hle' he=>?_⟩
    ·intro g hlt;obtain⟨n',hn'⟩:=hi.gl g hlt;exact⟨n',by rw[zj (zo.1 hn').1];exact hn'⟩
    ·by_cases e:i=ord m
     ·subst e;rw[hj]at hi';cases hi';rw[k7 t ht];exact hv
     ·refine(hi.slotw i o t hs hi' ht fun ha hw=>?_).mono _;have h1:=hc ha hw;have hin:=(ze.1 hi').1;have:pos i≠m:=fun e2=>e (by rw[←e2];exact(st.posp i hin).2.symm)
      omega
    ·obtain⟨n',x',ob',f',v'',l1,l2,l3,l4,l5,l6,l7⟩:=hi.flt i o hs hi' ha hw (by omega);refine⟨n',x',ob',f',v'',l1,l2,l3,?_,l5.mono _,l6,l7⟩;rintro⟨b,ob2,n2,m1,m2⟩;rw[u5,H.BS]at m1;by_cases e:b=(Hh m).nx
     ·subst e;rw[hnew]at m2;have:fl (ord m)=fl i:=(Prod.mk.inj (Option.some.inj m2)).1;have:=hi.inj (ord m) i _ o (q2 u2) hs hj hi' u2 ha u1 hw (by omega) (by omega) this;subst this;omega
     ·rw[if_neg e]at m1;have hb:=hi.ext.rel.lt m1;rw[zj (by rw[hi.ext.rel.len];exact hb)]at m2;exact l4 ⟨b,ob2,n2,m1,m2⟩
    ·exact hi.inj i j o o' hs hs' hi' hj' ha ha' hw hw' (by omega) (by omega) he
   ·rw[q1]at u2;cases u2
  obtain⟨p',hi'⟩:=one;obtain⟨p'',hi''⟩:=Inv.oM st cn d (m+1) hi' ⟨fun i k o ok t tk g1 g2 g3 g4 g5 g6 g7=>h2f.eq i k o ok t tk g1 g2 g3 g4 g5 g6 (by omega)⟩ (by omega) (fun q h1 h2=>hq q (by omega) (by omega));exact⟨p'',by rw[show m+(d+1)=m+1+d from by omega];exact hi''⟩
end
end
end Go.Det
end
section
namespace Go.Det
noncomputable section
section
variable {C:Ctx}{P:Program}{call:C3}{ops:Array Oper}{anc:Nat→Nat→Bool}{ord pos:Nat→Nat}{sc:Nat→Option Nat}{fr0:Fr}{h0:H}{v:Nat→V}{Hh:Nat→H}{F:Nat→Fr}
 {p0:Pl} {w0:World} {df:List Deferred} {S:Nat→Prop} {m:Nat} {fl:Nat→Nat} {p:Pl} {a:Act} {w:World}
structure Oy(anc:Nat→Nat→Bool)(S:Nat→Prop)(i:Nat):Prop where
 fresh:¬S i
 all:∀k,anc i k=true→S k
def Down(anc:Nat→Nat→Bool)(S:Nat→Prop):Prop:=∀i k,S i→anc i k=true→S k
theorem operands(st:Stat ops anc ord pos sc)(cn:Canon C call ops anc ord pos fr0 h0 v Hh F)(hi:Inv C ops pos sc fr0 v Hh F p0 h0 w0 df S m fl p a w)(hd:Down anc S){i:Nat}{o:Oper}(ho:ops[i]?=some o)(hr:Oy anc S i)
  (hfl:∀(k:Nat) (ok:Oper) (t:Tmp),ops[k]?=some ok→(B3 ok=true∨(sc k).isSome=true)→ok.dst=some t→t∈reads ops o→anc i k=true→pos k<m):kD p (F (pos i)) a (reads ops o):=by
 have hin:=(ze.1 ho).1;have hpn:=(st.posp i hin).1;refine⟨by rw[cn.fn _ (by omega),hi.sz],fun t ht=>?_⟩;by_cases hw:∃(k:Nat) (ok:Oper),k≠i∧ops[k]?=some ok∧ok.dst=some t
 ·obtain⟨k,ok,hne,hk,hkt⟩:=hw;rcases(st.s6 k i ok o t hk ho hne hkt).2 ht with h1|h1
  ·have hkS:=hr.all k h1;rw[Fw st cn hk hkt (pos i) (by omega) (st.apos i k h1)];exact hi.slotw k ok t hkS hk hkt fun ha _=>hfl k ok t hk ha hkt ht h1
  ·have hkS:¬S k:=fun h=>hr.fresh (hd k i h h1)
   have hno:∀(j:Nat) (oj:Oper),ops[j]?=some oj→oj.dst=some t→j=k:=by
    intro j oj hj hjt;by_cases e:j=k
    ·exact e
    ·exact absurd hjt (st.s6 k j ok oj t hk hj (fun h=>e h.symm) hkt).1
   rw[Fz st cn (pos i) (by omega) fun j oj hj hjt hlt=>by
    have:=hno j oj hj hjt;subst this;have:=st.apos _ _ h1;omega]
   refine hi.slot t fun j oj hS hj hjt=>?_
   have:=hno j oj hj hjt;subst this;exact hkS hS
 ·have hno:∀(j:Nat) (oj:Oper),ops[j]?=some oj→oj.dst=some t→j=i:=by
   intro j oj hj hjt;by_cases e:j=i
   ·exact e
   ·exact absurd ⟨j,oj,e,hj,hjt⟩ hw
  rw[Fz st cn (pos i) (by omega) fun j oj hj hjt hlt=>by
   have:=hno j oj hj hjt;subst this;omega]
  refine hi.slot t fun j oj hS hj hjt=>?_
  have:=hno j oj hj hjt;subst this;exact hr.fresh hS
def Rest(ops:Array Oper)(pos:Nat→Nat)(S:Nat→Prop)(m:Nat):Prop:=m=0∨∃(k:Nat) (o:Oper),ops[k]?=some o∧Ci o=true∧S k∧m=pos k+1
theorem Nh(st:Stat ops anc ord pos sc)(hd:Down anc S)(hi:Inv C ops pos sc fr0 v Hh F p0 h0 w0 df S m fl p a w)(hrest:Rest ops pos S m){k:Nat}{o:Oper}(hk:ops[k]?=some o)(hr:¬S k):
  m≤pos k∨∃(i:Nat) (oi:Oper),ops[i]?=some oi∧Ci oi=true∧S i∧m=pos i+1∧pos k<pos i∧anc i k=false:=by
 by_cases hlt:m≤pos k
 ·exact .inl hlt
 ·right;rcases hrest with rfl|⟨i,oi,h1,h2,h3,h4⟩
  ·omega
  ·refine⟨i,oi,h1,h2,h3,h4,?_,?_⟩
   ·have hne:k≠i:=fun e=>hr (e▸h3)
    have hkn:=(ze.1 hk).1;have hin:=(ze.1 h1).1;have:pos k≠pos i:=fun e=>hne (by rw[←(st.posp k hkn).2,e,(st.posp i hin).2])
    omega
   ·cases hc:anc i k with
    |false=>rfl
    |true=>exact absurd (hd i k h3 hc) hr
theorem MF(st:Stat ops anc ord pos sc)(hi:Inv C ops pos sc fr0 v Hh F p0 h0 w0 df S m fl p a w){i:Nat}{o:Oper}(ho:ops[i]?=some o)(hr:Oy anc S i)(hnal:B3 o=false){k:Nat}{ok:Oper}(hk:ops[k]?=some ok)
  (hv:Ci ok=true) (h1:m≤pos k) (h2:pos k<pos i):False:=by
 have hkS:¬S k:=fun h=>by have:=(hi.mh k ok hk hv).1 h;omega
 have hne:k≠i:=fun e=>by subst e;omega
 rcases kinds o with h|h|h
 ·rcases st.s2 k i ok o hk ho hv h with h3|h3
  ·exact hkS (hr.all k h3)
  ·omega
 ·rw[hnal]at h;cases h
 ·rcases st.s1 k i ok o hk ho hv h hne with h3|h3
  ·have:=st.apos _ _ h3;omega
  ·exact hkS (hr.all k h3)
theorem Sv(st:Stat ops anc ord pos sc)(cn:Canon C call ops anc ord pos fr0 h0 v Hh F)(hd:Down anc S)(hi:Inv C ops pos sc fr0 v Hh F p0 h0 w0 df S m fl p a w)(hrest:Rest ops pos S m){i:Nat}{o:Oper}(ho:ops[i]?=some o)
  (hr:Oy anc S i) (hk:DI o=true) (hwd:A2 (F (pos i)) ops o=true) (hdop:FC C (F (pos i)) (Hh (pos i)) o=some (.val (v i) (Hh (pos i)))):FC C (F (pos i)) (Hh m) o=some (.val (v i) (Hh m)):=by
 have hnal:=H2 hk;cases hhd:M6 o with
 |false=>exact XW hk hhd hdop _
 |true=>
  rcases Nh st hd hi hrest ho hr.fresh with hle|⟨k,ok,h1,h2,h3,h4,h5,h6⟩
  ·have hin:=(ze.1 ho).1;have hpn:=(st.posp i hin).1;have key:∀d,m+d≤pos i→Hh (m+d)=Hh m:=by
    intro d;induction d with
    |zero=>intro _;rfl
    |succ d ih=>
     intro hle';have h7:=ih (by omega);obtain⟨g1,g2⟩:=st.ordp (m+d) (by omega);obtain⟨oq,hq⟩:∃oq,ops[ord (m+d)]?=some oq:=⟨ops[ord (m+d)],by simp[g1]⟩;rw[←h7,show m+(d+1)=m+d+1 from by omega];rcases cn.step _ oq hq with⟨_,_,u⟩|⟨_,⟨_,_,u⟩|⟨u1,_⟩|⟨u1,_⟩⟩
     ·rwa [g2]at u
     ·rwa [g2]at u
     ·obtain⟨k,ok,k1,k2,k3,k4⟩:=st.s5 i _ o oq ho hq hk hhd u1 (by rw[g2];omega);rw[g2]at k3;exact(MF st hi ho hr hnal k1 k2 (by omega) k4).elim
     ·exact(MF st hi ho hr hnal hq u1 (by rw[g2];omega) (by rw[g2];omega)).elim
   have:=key (pos i-m) (by omega);rw[show m+(pos i-m)=pos i from by omega]at this;rw[this]at hdop;exact hdop
  ·rw[h4];exact cn.stable k i ok o h1 ho h2 hk hhd hwd h5 h6
theorem Dg{a:Act}{d:Option Tmp}{x:Value}{t:Tmp}(h:d≠some t):(a.put d x).tmps.getD t undef=a.tmps.getD t undef:=by
 cases d with
 |none=>rfl
 |some s=>
  have:s≠t:=fun e=>h (by rw[e])
  simp only[zV,zi];rw[zp this]
theorem Ey{a:Act}{x:Value}{t:Tmp}(h:t<a.tmps.size):(a.put (some t) x).tmps.getD t undef=x:=by
 simp[zV,h]
theorem Np{a:Act}{d:Option Tmp}{x:Value}:(a.put d x).tmps.size=a.tmps.size:=by cases d<;>simp[zV]
theorem Mr{a:Act}{d:Option Tmp}{x:Value}:(a.put d x).defers=a.defers:=by cases d<;>rfl
theorem Kb.put(st:Stat ops anc ord pos sc){S:Nat→Prop}{m m':Nat}{a:Act}(h2:Kb ops pos sc S m a){i:Nat}{o:Oper}(ho:ops[i]?=some o)(hfresh:¬S i)(hr:Oy anc S i){x:Value}(hm:m≤m')
  (hc:∀(k:Nat) (ok:Oper) (t tk:Tmp),sc i=some k→ops[k]?=some ok→o.dst=some t→ok.dst=some tk→m'≤pos i→(a.put o.dst x).tmps.getD t undef=a.tmps.getD tk undef):
  Kb ops pos sc (fun k=>S k∨k=i) m' (a.put o.dst x):=by
 refine⟨fun j k oj ok t tk g1 g2 g3 g4 g5 g6 g7=>?_⟩;obtain⟨o1,o2,t2,q1,q2,q3,q4,q5,q6,q7⟩:=st.q1 j k g3;rw[g4]at q2;cases q2;rw[g6]at q6;cases q6;by_cases e:j=i
 ·subst e;rw[ho]at g2;cases g2;have hk:S k:=hr.all k q7;refine⟨?_,.inl hk⟩;rw[hc k ok t tk g3 g4 g5 g6 g7];have hne:k≠j:=fun e=>hfresh (e▸hk)
  have:o.dst≠some tk:=(st.s6 k j ok o tk g4 ho hne g6).1;rw[Dg this]
 ·have hj:=g1.resolve_right e;obtain⟨e1,e2⟩:=h2.eq j k oj ok t tk hj g2 g3 g4 g5 g6 (by omega);have hki:k≠i:=fun h=>hfresh (h▸e2)
  have d1:o.dst≠some t:=(st.s6 j i oj o t g2 ho e g5).1;have d2:o.dst≠some tk:=(st.s6 k i ok o tk g4 ho hki g6).1;rw[Dg d1,Dg d2];exact⟨e1,.inl e2⟩
theorem Inv.quiet(st:Stat ops anc ord pos sc)(cn:Canon C call ops anc ord pos fr0 h0 v Hh F)(hi:Inv C ops pos sc fr0 v Hh F p0 h0 w0 df S m fl p a w){i:Nat}{o:Oper}(ho:ops[i]?=some o)(hfresh:¬S i)(hnhv:Ci o=false)
  (hna:B3 o=true→A2 (F (pos i)) ops o=false) {x:Value} (hx:((sc i).isSome=true→A2 (F (pos i)) ops o=true→pos i<m)→Aa p (v i) x):Inv C ops pos sc fr0 v Hh F p0 h0 w0 df (fun k=>S k∨k=i) m fl p (a.put o.dst x) w:=by
 have hdst:∀(k:Nat) (ok:Oper) (t:Tmp),k≠i→ops[k]?=some ok→ok.dst=some t→o.dst≠some t:=fun k ok t hne hk ht=>(st.s6 k i ok o t hk ho hne ht).1
 refine⟨hi.ext,hi.gl,hi.mn,fun k ok hk hv=>?_,fun k ok hk hal hlt=>.inl (hi.ma k ok hk hal hlt),by rw[Np,hi.sz],by rw[Mr,hi.df],fun t ht=>?_,fun k ok t hS hk ht hc=>?_,fun k ok hS hk ha hw hle=>?_,
  fun k j ok oj hS hS' hk hj ha ha' hw hw' hle hle' he=>?_⟩
 ·rw[←hi.mh k ok hk hv];refine⟨fun h=>h.elim id fun e=>?_,.inl⟩;subst e;rw[ho]at hk;cases hk;rw[hnhv]at hv;cases hv
 ·have h1:o.dst≠some t:=ht i o (.inr rfl) ho;rw[Dg h1];exact hi.slot t fun k ok hS hk=>ht k ok (.inl hS) hk
 ·by_cases e:k=i
  ·subst e;rw[ho]at hk;cases hk;rw[ht,Ey (by rw[hi.sz];exact cn.dst k o t ho ht)];exact hx fun h1 h2=>hc (.inr h1) h2
  ·rw[Dg (hdst k ok t e hk ht)];exact hi.slotw k ok t (hS.resolve_right e) hk ht hc
 ·have e:k≠i:=by
   rintro rfl;rw[ho]at hk;cases hk;rw[hna ha]at hw;cases hw
  obtain⟨n,y,ob,f,v',k1,k2,k3,k4,k5,k6,k7⟩:=hi.flt k ok (hS.resolve_right e) hk ha hw hle;exact⟨n,y,ob,f,v',k1,k2,k3,k4,k5,k6,fun t ht=>by rw[Dg (hdst k ok t e hk ht)];exact k7 t ht⟩
 ·have e:k≠i:=by
   rintro rfl;rw[ho]at hk;cases hk;rw[hna ha]at hw;cases hw
  have e':j≠i:=by
   rintro rfl;rw[ho]at hj;cases hj;rw[hna ha']at hw';cases hw'
  exact hi.inj k j ok oj (hS.resolve_right e) (hS'.resolve_right e') hk hj ha ha' hw hw' hle hle' he
theorem Inv.made(st:Stat ops anc ord pos sc)(hi:Inv C ops pos sc fr0 v Hh F p0 h0 w0 df S m fl p a w){i:Nat}{o:Oper}(ho:ops[i]?=some o)(hal:B3 o=true)(hwd:A2 (F (pos i)) ops o=true)(hle:m≤pos i)
  (cn:Canon C call ops anc ord pos fr0 h0 v Hh F) {ob:O} {f:Nat→V} (hdal:Wk C (F (pos i)) o=some (ob,f)) {x:Obj} {n:Nat} {v':Value} (hx:Gg p n ob x) (hv:∀(q:Pl) b,q[b]?=some (w.heap.size,n)→Aa q (f b) v'):
  Inv C ops pos sc fr0 v Hh F p0 h0 w0 df (fun k=>S k∨k=i) m (fun k=>if k=i then w.heap.size else fl k) p (a.put o.dst v') { w with heap:=w.heap.push x }:=by
 have hdst:∀(k:Nat) (ok:Oper) (t:Tmp),k≠i→ops[k]?=some ok→ok.dst=some t→o.dst≠some t:=fun k ok t hne hk ht=>(st.s6 k i ok o t hk ho hne ht).1
 have hnhv:Ci o=false:=by simp[Ci,hal]
 refine⟨hi.ext.aside x,hi.gl,hi.mn,fun k ok hk hv=>?_,fun k ok hk hal hlt=>.inl (hi.ma k ok hk hal hlt),by rw[Np,hi.sz],by rw[Mr,hi.df],fun t ht=>?_,fun k ok t hS hk ht hc=>?_,fun k ok hS hk ha hw hle=>?_,
  fun k j ok oj hS hS' hk hj ha ha' hw hw' hle hle' he=>?_⟩
 ·rw[←hi.mh k ok hk hv];refine⟨fun h=>h.elim id fun e=>?_,.inl⟩;subst e;rw[ho]at hk;cases hk;rw[hnhv]at hv;cases hv
 ·have h1:o.dst≠some t:=ht i o (.inr rfl) ho;rw[Dg h1];exact hi.slot t fun k ok hS hk=>ht k ok (.inl hS) hk
 ·by_cases e:k=i
  ·subst e;rw[ho]at hk;cases hk;have:=hc (.inl hal) hwd;omega
  ·rw[Dg (hdst k ok t e hk ht)];exact hi.slotw k ok t (hS.resolve_right e) hk ht hc
 ·by_cases e:k=i
  ·subst e;rw[ho]at hk;cases hk;refine⟨n,x,ob,f,v',hdal,by simp,by simpa using hi.ext.size,fun hIm=>?_,hx,by simpa using hv,fun t ht=>?_⟩
   ·have:=hi.ext.rel.UF hIm;simp at this
   ·rw[ht,Ey (by rw[hi.sz];exact cn.dst k o t ho ht)]
  ·obtain⟨n',y,ob',f',v'',k1,k2,k3,k4,k5,k6,k7⟩:=hi.flt k ok (hS.resolve_right e) hk ha hw hle;have hlt:=(ze.1 k2).1;refine⟨n',y,ob',f',v'',k1,?_,by simpa [e]using k3,by simpa [e]using k4,k5,by simpa [e]using k6,fun t ht=>by rw[Dg (hdst k ok t e hk ht)];exact k7 t ht⟩;simp only[e,if_false,zw];rw[if_neg (by omega)];exact k2
 ·by_cases e:k=i<;>by_cases e':j=i
  ·rw[e,e']
  ·obtain⟨_,_,_,_,_,_,k2,_⟩:=hi.flt j oj (hS'.resolve_right e') hj ha' hw' hle';have hlt:=(ze.1 k2).1;simp only[e,if_true,e',if_false]at he;omega
  ·obtain⟨_,_,_,_,_,_,k2,_⟩:=hi.flt k ok (hS.resolve_right e) hk ha hw hle;have hlt:=(ze.1 k2).1;simp only[e,if_false,e',if_true]at he;omega
  ·simp only[e,if_false,e']at he;exact hi.inj k j ok oj (hS.resolve_right e) (hS'.resolve_right e') hk hj ha ha' hw hw' hle hle' he
end
end
end Go.Det
end
