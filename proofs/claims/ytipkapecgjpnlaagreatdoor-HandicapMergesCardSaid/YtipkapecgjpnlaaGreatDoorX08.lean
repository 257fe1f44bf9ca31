import Derived.Test.YtipkapecgjpnlaaGreatDoorX07
/- A part of a proof; no law is stated here. -/
noncomputable section
open Bool renaming and_eq_true -> zc, and_self -> yf
open Go.Pe.OK renaming pure -> zd
open Nat renaming eq_of_beq_eq_true -> ze, beq -> zf, le_refl -> zg, mul_le_mul_right -> zh, ble -> zl, ble_eq_true_of_le -> zn, blt -> zp, add_mul -> zt, zero_mul -> zw, beq_refl -> z7, succ_mul -> z8
open Option renaming map_eq_some_iff -> zi, getD_some -> zx, map_some -> yd
open Option.some renaming injEq -> zj
open List renaming replicate -> zk, mem_singleton -> zm, drop_eq_getElem_cons -> zo, length_eq_zero_iff -> zu, length_nil -> zy, drop_zero -> zz, ext_getElem? -> z6, getElem_cons_zero -> yb, take_of_length_le -> yc
open Prod.mk renaming injEq -> zq
open Go.Pe.Le renaming refl -> zr
open List.cons renaming injEq -> ye
open Int renaming ofNat -> yg
open Go.Pe renaming BL -> yh
namespace Go.Pe
open Go.Det
section
variable {B:Nat}{h0:H0}{F:Fz}{ρ:DU}{N:Nat}{C:Ctx}{st st':AI}{fr:Fr}{h:H}
theorem QA:∀ {ks:List FK} {ps s:List PV} {e f:List V} {r:Bool},BC F ρ N ps e->BC F ρ N s f->Hd ks ps s=some r->fit ks e=true/\fit ks f=true/\BO e f=some r
 |[],[],[],e,f,r,g,i,d=>by
  subst g i;simp only[Hd,zj]at d;subst d;exact⟨rfl,rfl,rfl⟩
 |[],_::_,_,e,f,r,g,i,d=>by simp[Hd]at d
 |[],[],_::_,e,f,r,g,i,d=>by simp[Hd]at d
 |k::ks,[],_,e,f,r,g,i,d=>by grind [Hd]
 |k::ks,_::_,[],e,f,r,g,i,d=>by grind [Hd]
 |k::ks,p::ps,q::s,e,f,r,g,i,d=>by
  obtain⟨x,e,rfl,j,t⟩:=g;obtain⟨y,f,rfl,hy1,hy2⟩:=i;have key:∀ {c:Bool},k.ok x=true->k.ok y=true->D2 x y=some c->(Hd ks ps s).map (fun r=>c&&r)=some r->fit (k::ks) (x::e)=true/\fit (k::ks) (y::f)=true/\BO (x::e) (y::f)=some r:=by
   intro c G I O u;rw[zi]at u;obtain⟨M,K,rfl⟩:=u;obtain⟨g1,g2,g3⟩:=QA t hy2 K;refine⟨by simp[fit,G,g1],by simp[fit,I,g2],?_⟩;have P:e.length=f.length:=by rw[<-RW g1, <-RW g2]
   cases c with
   |true=>simp_all [BO]
   |false=>simp_all [BO]
  unfold Hd at d;split at d
  case h_1=>grind
  case h_2=>
   rename_i v z J a L A b w o l m;cases l;cases m;cases R:(v==J&&v==A)with
   |false=>grind
   |true=>
    obtain rfl:=Cw j;obtain rfl:=Cw hy1;grind [FK.ok,D2]
  case h_3=>
   rename_i o l m;cases o;cases l;cases m;obtain rfl:=E1 j;obtain rfl:=E1 hy1;exact key rfl rfl (by rfl) d
  case h_4=>
   rename_i o l m;cases o;cases l;cases m;split at d
   case h_2=>cases d
   rename_i a b D E;obtain rfl:=HH D j;obtain rfl:=HH E hy1;exact key rfl rfl rfl d
  grind
theorem YQ(q:SR B h0 F ρ st.nx st.ob h){op:BinOp}{t e:TypeId}(j:C.T.und t=some (.slice e)){p:PV}{x:V}(d:PR F ρ st.nx p x){ng:Bool}{v:PV}(a:(R5 st ng p).To v st'):
  (∀(_:x=.nili),False)/\∃b,Bq C.T t x .nils=some b/\PR F ρ st.nx v (.bool<|b !=ng)/\Kh C.T op t x .nils=(match op with| .eql=>(Bq C.T t x .nils).map fun b=>.bool b| .neq=>(Bq C.T t x .nils).map fun b=>.bool !b|_=>none)/\st'=st:=by
 have dq:∀ {x:V},x=.nils\/x=.esl\/x=.es0\/(∃b off len cap o,x=.sl b off len cap o)->Kh C.T op t x .nils=(match op with| .eql=>(Bq C.T t x .nils).map fun b=>.bool b| .neq=>(Bq C.T t x .nils).map fun b=>.bool !b|_=>none):=by
  rintro x (rfl|rfl|rfl|⟨b,off,len,cap,o,rfl⟩)<;>cases op<;>rfl
 have no:∀ {x:V},x=.esl\/x=.es0\/(∃b off len cap o,x=.sl b off len cap o)->Bq C.T t x .nils=some false:=by
  rintro x (rfl|rfl|⟨b,off,len,cap,o,rfl⟩)<;>simp[Bq,j]
 have yes:Bq C.T t .nils .nils=some true:=by simp[Bq,j]
 unfold R5 at a;split at a
 case h_1=>
  simp only[B1]at a;obtain⟨rfl,rfl⟩:=a;simp only[PR]at d;subst d;exact⟨(by simp),true,yes,by simp[PR],dq<|.inl rfl,rfl⟩
 case h_2=>
  rename_i id sz off len cap;cases g:Ia (st.obj id)with
  |false=>rw[g]at a;simp at a
  |true=>
   rw[g]at a;simp only[we,B1]at a;obtain⟨rfl,rfl⟩:=a;obtain⟨o,ho⟩:=IB g;obtain⟨b,n,_,h1,_⟩:=q.at ho;simp only[PR]at d;have:x=.esl\/x=.es0\/(∃b off len cap o,x=.sl b off len cap o):=by
    grind
   exact⟨ah,false,no this,by simp[PR],dq<|.inr this,rfl⟩
 case h_3=>
  rename_i s l;simp only[PR,DC]at d;obtain⟨u,i,d⟩:=d;obtain rfl:x=u:=ah
  have f:(decide (0<(l:List s.T).length)=true/\v=.bl ng/\st'=st)\/(v=.ub/\st'=st):=by
   generalize decide (0<(l:List s.T).length)=c at a;cases a with
   |tt a=>simp only[B1]at a;grind
   |ff a=>grind [B1]
  rcases f with⟨r,rfl,rfl⟩|⟨rfl,rfl⟩
  ·rcases d with⟨rfl,_⟩|⟨b,off,cap,o,k,rfl,_⟩
   ·grind
   ·exact⟨(by simp),false,ah,by simp[PR],ah,rfl⟩
  ·rcases d with⟨rfl,rfl|rfl|rfl⟩|⟨b,off,cap,o,k,rfl,_⟩
   ·exact⟨(by simp),true,yes,by simp[PR],dq<|.inl rfl,rfl⟩
   ·exact⟨(by simp),false,no<|.inl rfl,by simp[PR],ah,rfl⟩
   ·exact⟨(by simp),false,ah,by simp[PR],ah,rfl⟩
   ·exact⟨(by simp),false,ah,by simp[PR],ah,rfl⟩
 case h_4=>
  rename_i s l;simp only[B1]at a;obtain⟨rfl,rfl⟩:=a;simp only[PR,DC]at d;obtain⟨u,i,d⟩:=d;obtain rfl:x=u:=ah
  rcases d with⟨rfl,rfl⟩|⟨h0,b,off,cap,o,k,rfl,_⟩
  ·exact⟨(by simp),true,yes,by cases ng<;>simp[PR,DC],dq<|.inl rfl,rfl⟩
  ·have m:0<(l:List s.T).length:=ah;exact⟨(by simp),false,ah,by grind [PR,DC],ah,rfl⟩
 case h_5=>simp at a
theorem Vs{o:Option Obj}(h:Ia o=true):∃x,o=some x:=by
 cases o with
 |none=>cases h
 |some x=>simp
theorem Qx(u:SR B h0 F ρ st.nx st.ob h){t e:TypeId}{p q:PV}{x y:V}(g:C.T.und t=some (.pointer e))(f:PR F ρ st.nx p x)(k:PR F ρ st.nx q y){r:Bool}(c:ptrEq C.T e st p q=some r):
  Bq C.T t x y=some r/\x≠ .nili/\∀op,Kh C.T op t x y=(match op with| .eql=>(Bq C.T t x y).map .bool| .neq=>(Bq C.T t x y).map fun b=>.bool !b|_=>none):=by
 have live:∀ {id off:Nat} {v:V},PR F ρ st.nx (.ptr id off) v->Ia (st.obj id)=true->∃b n,ρ id=some (b,n)/\v=.ptr b off:=by
  intro id off v D d;obtain⟨o,z⟩:=Vs d;obtain⟨b,n,_,h1,_⟩:=u.at z;grind [PR]
 unfold ptrEq at c;split at c
 case h_5=>cases c
 case h_1=>
  cases c;subst f k;exact⟨by unfold Bq;rw[g],(by simp),fun op=>by cases op<;>rfl⟩
 case h_2=>
  rename_i id off;cases d:Ia (st.obj id)with
  |false=>grind
  |true=>
   rw[d]at c;cases c;obtain⟨b,n,_,rfl⟩:=live f d;subst k;exact⟨by unfold Bq;rw[g],(by simp),fun op=>by cases op<;>rfl⟩
 case h_3=>
  rename_i id off;cases d:Ia (st.obj id)with
  |false=>grind
  |true=>
   rw[d]at c;cases c;obtain⟨b,n,_,rfl⟩:=live k d;subst f;exact⟨by unfold Bq;rw[g],(by simp),fun op=>by cases op<;>rfl⟩
 case h_4=>
  rename_i a i b j;cases d:(zf a b&&Ia (st.obj a))with
  |false=>grind
  |true=>
   rw[d]at c;rw[zc]at d;have l:=ze d.1;subst l;split at c
   case h_2=>cases c
   rename_i w m;cases s:zp 0 w.size with
   |false=>grind
   |true=>
    rw[s]at c;cases c;rw[Nat.blt_eq]at s;obtain⟨b,n,A,rfl⟩:=live f d.2;obtain⟨b',n',g2,rfl⟩:=live k d.2;rw[A]at g2;cases g2;refine⟨?_,(by simp),fun op=>by cases op<;>rfl⟩;unfold Bq;rw[g];simp only[wm,m];rw[wd ae];congr 1;rw[Bo,Bool.eq_iff_iff];simp
theorem Ack(f:SR B h0 F ρ st.nx st.ob h){op:BinOp}{t:TypeId}{A D:Operand}{p q:PV}{x y:V}(g:PR F ρ st.nx p x)(j:PR F ρ st.nx q y){v:PV}(c:(vT C.T op t p q st).To v st'):
  OK B h0 F ρ st h [] (Bz h<|JS C.T op t A D x y) v st':=by
 have o:∀ {x y:V},(∀(e:x=.nili),False)->JS C.T op t A D x y=Kh C.T op t x y:=by
  simp_all [JS,pJ]
 unfold vT at c;split at c
 case h_1=>
  rename_i k a K b;obtain rfl:=Cw g;obtain rfl:=Cw j;rw[o<|by simp];cases i:oW op with
  |true=>
   rw[i]at c;have:=Adf f c;unfold Kh;grind [oW]
  |false=>
   rw[i]at c;cases m:(k==K)with
   |false=>simp_all
   |true=>
    rw[m]at c;have:=AbS f c;have m:=wk.1 m;subst m;unfold Kh;cases op<;>simp only[oW]at i<;>first|(cases i;done)|(simp only[wm];exact this)
 case h_2=>
  obtain rfl:=E1 g;obtain rfl:=E1 j;grind [Abs,Kh]
 case h_3=>
  rename_i ps E;obtain⟨u,rfl,g⟩:=g;obtain⟨ys,rfl,j⟩:=j;split at c
  case h_2=>simp at c
  rename_i ks L;have eq:∀ {r:Bool},Hd ks ps E=some r->Bq C.T t (.agg u) (.agg ys)=some r:=by
   intro r d;obtain⟨P,O,M⟩:=QA g j d;simp_all [OD,Bq]
  split at c
  case h_1=>
   rename_i r d;obtain⟨rfl,rfl⟩:=c;exact zd f (by show Bz h ((Bq C.T t (.agg u)<|.agg ys).map _)=_;rw[eq d];rfl)<|DE _
  case h_2=>
   rename_i r d;obtain⟨rfl,rfl⟩:=c;exact zd f (by show Bz h ((Bq C.T t (.agg u)<|.agg ys).map _)=_;rw[eq d];rfl) (DE _)
  simp_all
 case h_4=>
  split at c
  case h_4=>simp at c
  case h_3=>
   split at c
   case h_3=>simp at c
   case h_1=>
    simp only[B1]at c;grind [Qx,zd,Bz,JS,PR,Kh]
   case h_2=>
    simp only[B1]at c;grind [Qx,zd,Bz,JS,PR,Kh]
  case h_2=>
   rename_i e _ _ l;unfold gJ at c;split at c
   case h_3=>simp at c
   case h_1=>
    have i:=YQ (op:=.eql) f l g c;obtain⟨z,b,w,J,s,e⟩:=i;subst e;subst j;rw[o z,s];exact zd f (v':=.bool b) (by simp only[w];rfl) (by simp_all)
   case h_2=>
    have i:=YQ (op:=.neq) f l g c;obtain⟨z,b,w,J,s,e⟩:=i;subst e;subst j;rw[o z,s];exact zd f (v':=.bool<|!b) (by simp only[w];rfl) (by simp_all)
  rename_i a b G I l;obtain rfl:=HH G g;obtain rfl:=HH I j;have eq:Bq C.T t (.bool a) (.bool b)=some (a==b):=by unfold Bq;rw[l]
  split at c
  case h_1=>
   obtain⟨rfl,rfl⟩:=c;exact zd f (by show Bz h ((Bq C.T t (.bool a)<|.bool b).map _)=_;rw[eq];rfl)<|DE _
  case h_2=>
   obtain⟨rfl,rfl⟩:=c;exact zd f (by show Bz h ((Bq C.T t (.bool a)<|.bool b).map _)=_;rw[eq];rfl) (DE _)
  simp_all
theorem AcQ(d:SR B h0 F ρ st.nx st.ob h){op:UnOp}{p:PV}{x:V}(c:PR F ρ st.nx p x){v:PV}(a:(pun op p st).To v st'):OK B h0 F ρ st h [] (Bz h<|dun op x) v st':=by
 unfold pun at a;split at a<;>simp only[LR,B1]at a
 ·obtain⟨rfl,rfl⟩:=a;obtain rfl:=Cw c;exact zd d rfl (Dq _ _)
 ·obtain⟨rfl,rfl⟩:=a;obtain rfl:=Pd c;exact zd d rfl (jY _)
 ·obtain⟨rfl,rfl⟩:=a;obtain⟨b,rfl⟩:=c;exact zd d (v':=.bool<|!b) rfl (by simp[PR])
 ·obtain⟨rfl,rfl⟩:=a;obtain rfl:=Lf c;exact zd d rfl (DE _)
theorem yE(c:SR B h0 F ρ st.nx st.ob h){s d:TypeId}{p:PV}{x:V}(b:PR F ρ st.nx p x){v:PV}(a:(kP C.T s d p st).To v st'):OK B h0 F ρ st h [] (Bz h<|FG C.T h s d x) v st':=by
 unfold kP at a;split at a<;>simp only[LR,B1]at a
 ·obtain⟨rfl,rfl⟩:=a;obtain rfl:=Cw b;simp_all [zd,FG,Bz,Dq]
 ·obtain rfl:=E1 b;simp_all [zd,FG,Bz]
theorem zU(e:SR B h0 F ρ st.nx st.ob h){c a b:PV}{x y z:V}(g:PR F ρ st.nx c x)(i:PR F ρ st.nx a y)(f:PR F ρ st.nx b z){v:PV}(d:(iT c a b st).To v st'):
  ∃t,x=.bool t/\OK B h0 F ρ st h [] (Bz h<|some<|if t then y else z) v st':=by
 unfold iT at d;split at d
 case h_3=>simp at d
 case h_1=>
  rename_i t;obtain⟨rfl,rfl⟩:=d;refine⟨t,Pd g,zd e rfl ?_⟩;grind
 case h_2=>
  rename_i t;refine⟨t,Lf g,?_⟩;split at d
  case h_1=>
   obtain⟨rfl,rfl⟩:=d;obtain rfl:=Pd f;refine zd e rfl ?_;grind [DE]
  case h_2=>
   obtain⟨rfl,rfl⟩:=d;obtain rfl:=Pd i;refine zd e rfl ?_;grind [DE]
  case h_3=>
   cases d with
   |tt h=>obtain⟨rfl,rfl⟩:=h;exact zd e rfl i
   |ff h=>obtain⟨rfl,rfl⟩:=h;exact zd e rfl f
theorem nD(o:SR B h0 F ρ st.nx st.ob h){t:TypeId}{p:PV}{x:V}(j:PR F ρ st.nx p x){f:Nat}{v:PV}(a:(Wu C.T t p f st).To v st'):OK B h0 F ρ st h [] (Bz h<|J8 C.T t x f) v st':=by
 unfold Wu at a;split at a
 case h_2=>simp at a
 split at a
 case h_2=>simp at a
 rename_i c g;split at a
 case h_2=>simp at a
 simp only[Rf]at a;obtain⟨b,rfl⟩:=a;obtain⟨cs,rfl,hps⟩:=j;rw[LF]at b;have i:=hps.drop c.offset;rcases Pt i b with⟨k,_,m,d⟩|⟨k,u,l,e,d⟩
 ·simp_all [zd,J8,KM,Bz]
 ·have:cs[c.offset]?=some u:=by
   have:=wi (·[0]?) e;grind
  simp_all [zd,J8,KM,Bz]
theorem nG(k:SR B h0 F ρ st.nx st.ob h){t:TypeId}{p:PV}{x:V}(l:PR F ρ st.nx p x){f:Nat}{v:PV}(a:(Wd C.T t p f st).To v st'):
  OK B h0 F ρ st h [] (Bz h<|Ki C.T t x f) v st':=by
 have live:∀ {id},Ia (st.obj id)=true->∃b n,ρ id=some (b,n):=by
  intro id m;obtain⟨o,r⟩:=IB m;obtain⟨b,n,_,h1,_⟩:=k.at r;grind
 unfold Wd at a;split at a
 case h_2=>simp at a
 split at a
 case h_2=>simp at a
 rename_i u s;split at a
 case h_2=>simp at a
 rename_i i m;cases q:zf i.size 0 with
 |true=>simp_all
 |false=>
  have w:i.size≠0:=by intro e;simp_all
  rw[q]at a;have c:∀b off,Ki C.T t (.ptr b off) f=some (.ptr b<|off+u.offset):=by
   simp_all [Ki]
  split at a
  ·rename_i id off;cases g:Ia (st.obj id)with
   |false=>simp_all
   |true=>
   rw[g]at a;obtain⟨rfl,rfl⟩:=a;have d:=l;obtain⟨b,n,h1⟩:=live g;obtain rfl:=d.2 b n h1;refine zd k (by rw[c];rfl) ?_;grind [PR]
  ·rename_i id sz j off;cases g:Ia (st.obj id)with
   |false=>simp_all
   |true=>
   rw[g]at a;obtain⟨rfl,rfl⟩:=a;have d:=l;obtain⟨b,n,h1⟩:=live g;obtain rfl:=d.2 b n h1;refine zd k (by rw[c];rfl) ?_;grind [PR]
  ·obtain⟨rfl,rfl⟩:=a;obtain⟨b,o,cs,rfl,h1,h2⟩:=l;refine zd k (by rw[c];rfl) ?_;grind [PR]
  simp_all
theorem SR.live(d:SR B h0 F ρ st.nx st.ob h){id:Nat}(a:Ia (st.obj id)=true):∃b n,ρ id=some (b,n):=by
 obtain⟨o,c⟩:=IB a;obtain⟨b,n,_,h1,_⟩:=d.at c;grind
theorem D3{i:Int}(h:0<=i):∃n:Nat,i=yg n/\i.toNat=n:=ah
theorem Ds{a b:Nat}(h:a<b):zp a b=true:=zn h
theorem cL(f:SR B h0 F ρ st.nx st.ob h){t:TypeId}{p q:PV}{x y:V}(z:PR F ρ st.nx p x)(M:PR F ρ st.nx q y){v:PV}(a:(Sa C.T t p q st).To v st'):
  OK B h0 F ρ st h [] (Bz h<|E2 C.T t x y) v st':=by
 unfold Sa at a;split at a
 case h_3=>simp at a
 case h_2=>
  rename_i K e k i Z;obtain rfl:=Cw M;split at a
  case h_2=>simp at a
  rename_i g J;split at a
  case h_4=>simp at a
  case h_1=>
   rename_i id off;simp only[PR]at z;split at a
   case h_3=>simp_all
   case h_1=>
    rename_i P Y s l I;cases w:(zf off 0&&zf g.size s.sz)with
    |false=>simp_all
    |true=>
     rw[w]at a;rw[zc]at w;have D:=ze w.1;have O:=ze w.2;subst D;simp only[we,B2,zc,w5]at a;obtain⟨⟨c,d⟩,rfl,rfl⟩:=a;obtain⟨n,rfl,hn⟩:=D3 c;obtain⟨b,m,_,A,_⟩:=f.at I;refine zd f (v':=.ptr b<|0+n*g.size) ?_ ?_
     ·simp_all [Bz,E2,Ds]
     simp_all [PR]
   case h_2=>
    rename_i o _ I;simp only[B2,zc,w5]at a;obtain⟨⟨c,d⟩,rfl,rfl⟩:=a;obtain⟨n,rfl,hn⟩:=D3 c;obtain⟨b,m,_,A,_⟩:=f.at I;refine zd f (v':=.ptr b<|off+n*g.size) ?_ ?_
    ·simp_all [Bz,E2,Ds]
    grind [PR]
  case h_2=>
   rename_i id sz j off;cases G:Ia (st.obj id)with
   |false=>simp_all
   |true=>
    rw[G]at a;simp only[we,B2,zc,w5]at a;obtain⟨⟨c,d⟩,rfl,rfl⟩:=a;obtain⟨n,rfl,hn⟩:=D3 c;obtain⟨b,m,A⟩:=f.live G;simp only[PR]at z;refine zd f (v':=.ptr b<|j*sz+off+n*g.size) ?_ ?_
    ·simp_all [Bz,E2,Ds]
    grind [PR]
  case h_3=>
   rename_i s y off;simp only[B2,zc,w5]at a;obtain⟨⟨c,d⟩,rfl,rfl⟩:=a;obtain⟨n,rfl,hn⟩:=D3 c;obtain⟨b,o,cs,rfl,A,L,R⟩:=z;refine zd f (v':=.ptr b<|o+off+n*g.size) ?_ ?_
   ·simp_all [Bz,E2,Ds]
   grind [PR]
 case h_1=>
 obtain rfl:=Cw M;split at a
 case h_2=>simp at a
 rename_i g J;split at a
 case h_3=>simp at a
 case h_1=>
  rename_i s l;cases r:zf g.size s.sz with
  |false=>simp_all
  |true=>
   rw[r]at a;have r:=ze r;simp only[we,B2,zc,w5]at a;obtain⟨⟨c,d⟩,rfl,rfl⟩:=a;obtain⟨n,rfl,hn⟩:=D3 c;have E:n<l.length:=ah
   obtain⟨u,U,z⟩:=z;rcases z with⟨rfl,_⟩|⟨b,off,cap,o,S,rfl,A,L,R,_,W⟩
   ·grind
   ·refine zd f (v':=.ptr b<|off+n*g.size) ?_ ?_
    ·simp_all [Bz,E2,Ds]
    ·refine⟨b,off+n*s.sz,S,by grind,L,?_,?_⟩
     ·have:(n+1)*s.sz<=l.length*s.sz:=zh _ E;grind
     grind
 case h_2=>
  rename_i id sz off len cap;cases r:(zf g.size sz&&Ia (st.obj id))with
  |false=>simp_all
  |true=>
   rw[r]at a;simp only[zc]at r;obtain⟨r,G⟩:=r;have r:=ze r;simp only[we,B2,zc,w5]at a;obtain⟨⟨c,d⟩,rfl,rfl⟩:=a;obtain⟨n,rfl,hn⟩:=D3 c;have E:n<len:=ah
   obtain⟨b,m,A⟩:=f.live G;rcases z.2 b m A with⟨_,_,o,_,rfl⟩|⟨e0,_⟩
   ·refine zd f (v':=.ptr b<|off*sz+n*g.size) ?_ ?_
    ·simp_all [Bz,E2,Ds]
    grind [PR]
   ·omega
theorem mW(G:SR B h0 F ρ st.nx st.ob h){t:TypeId}{p q:PV}{x y:V}(m:PR F ρ st.nx p x)(l:PR F ρ st.nx q y){v:PV}(a:(Xb C.T t p q st).To v st'):
  OK B h0 F ρ st h [] (Bz h<|IL C.T t x y) v st':=by
 unfold Xb at a;split at a
 case h_3=>simp at a
 case h_2=>
  rename_i j e ps k i D;obtain rfl:=Cw l;split at a
  case h_2=>simp at a
  rename_i d g I s;simp only[WQ,zc,w5]at a;obtain⟨⟨b,f⟩,c,rfl⟩:=a;obtain⟨n,rfl,hn⟩:=D3 b;obtain⟨cs,rfl,hps⟩:=m;rw[LF,hn]at c;have z:=hps.drop<|n*g.size;have A:IL C.T t (.agg cs) (.int k<|yg n)=KM C.T e cs (n*g.size):=by simp_all [IL,Ds]
  rcases Pt z c with⟨w,_,_,r⟩|⟨w,u,E,o,r⟩
  ·simp_all [zd,KM,Bz]
  ·have:cs[n*g.size]?=some u:=by
    have:=wi (·[0]?) o;grind
   simp_all [zd,KM,Bz]
 case h_1=>
 obtain rfl:=E1 m;obtain rfl:=Cw l;simp only[B2,zc,w5]at a;obtain⟨⟨b,f⟩,rfl,rfl⟩:=a;obtain⟨n,rfl,hn⟩:=D3 b;simp_all [zd,Bz,IL,Dq]
theorem ZO(e:SR B h0 F ρ st.nx st.ob h){p:PV}{x:V}(d:PR F ρ st.nx p x){i:Nat}{v:PV}(a:(PW p i st).To v st'):OK B h0 F ρ st h [] (Bz h<|GP x i) v st':=by
 unfold PW at a;split at a
 case h_2=>simp at a
 split at a
 case h_2=>simp at a
 rename_i q c;simp only[B1]at a;obtain⟨cs,rfl,b⟩:=d;obtain⟨u,h1,h2⟩:=b.get c;grind [zd,GP,Bz]
def Vk(F:Fz)(ρ:DU)(N:Nat):Option PV->Option V->Prop
 |none,x=>x=none
 |some p,x=>∃v,x=some v/\PR F ρ N p v
theorem DL{o:Option PV}{x:Option V}{d:Nat}{c:Bool}{n:Nat}(b:Vk F ρ N o x)(a:pb o d=some (c,n))(g:c=true){y:Nat}(f:n<=y):Jo x y d=some n:=by
 unfold pb at a;split at a
 ·cases a;subst b;rfl
 ·obtain⟨v,rfl,e⟩:=b;obtain rfl:=Cw e;grind [zn,Jo]
 grind
theorem Vk.isNone{o:Option PV}{x:Option V}(a:Vk F ρ N o x):(o=none↔x=none):=by
 cases o with
 |none=>grind [Vk]
 |some p=>simp only[Vk]at a;grind
theorem LC{T:BV}{t e:TypeId}{d:TI}{b off len cap o m a l:Nat}{f c mx:Option V}(j:T.und t=some (.slice e))(g:T.inf e=some d)(q:Jo mx cap cap=some m)(k:Jo c m len=some a)
  (p:Jo f a 0=some l) (i:c=none->mx=none):
  DH T t (.sl b off len cap o) f c mx=bif zf m l then(bif zf (Ms mx o) 0 then some (.sl b off (a-l) (m-l) 0)else some .esl)
   else bif zf (Ms mx o) 0||zf (Ms mx o) d.size then some (.sl b (off+l*d.size) (a-l) (m-l)<|Ms mx o)else none:=by
 simp_all [DH]
theorem gU(y:SR B h0 F ρ st.nx st.ob h){t:TypeId}{p:PV}{x:V}{lo hi mx:Option PV}{a b c:Option V}(K:PR F ρ st.nx p x)(I:Vk F ρ st.nx lo a)(k:Vk F ρ st.nx hi b)(j:Vk F ρ st.nx mx c)
  {v:PV} (d:(SS C.T t p lo hi mx st).To v st'):OK B h0 F ρ st h [] (Bz h<|DH C.T t x a b c) v st':=by
 unfold SS at d;split at d
 case h_3=>simp at d
 case h_1=>
  rename_i hu;split at d
  case h_2=>simp at d
  rename_i s;obtain rfl:=E1 K;split at d
  case h_2=>simp at d
  rename_i c1 l c2 r f g;simp only[B2,zc,w5]at d;obtain⟨⟨⟨⟨J,G⟩,M⟩,E⟩,rfl,rfl⟩:=d;simp only[Vk]at j;subst j;have P:=DL I f J M;have D:=DL k g G E;simp_all [zd,DH,Bz,LH]
 case h_2=>
  rename_i e hu;split at d
  case h_2=>simp at d
  rename_i R U;split at d
  case h_4=>simp at d
  case h_1=>
   rename_i s xs;cases A:zf R.size s.sz with
   |false=>simp_all
   |true=>
    rw[A]at d;have A:=ze A;simp only[we]at d;split at d
    case h_2=>simp at d
    rename_i c1 l c2 r f g;simp only[B2,zc,w5]at d;obtain⟨⟨⟨⟨J,G⟩,M⟩,E⟩,rfl,rfl⟩:=d;simp only[Vk]at j;subst j;have P:=DL I f J M;simp only[PR,DC]at K;obtain⟨u,hu1,K⟩:=K;obtain rfl:x=u:=ah
    rcases K with⟨rfl,rfl|rfl|rfl⟩|⟨bb,off,cap,o,bs,rfl,h1,h2,h3,h5,h4⟩
    ·have D:=DL k g G E;simp only[zy]at D E;refine zd y (v':=.nils) (by simp_all [DH,Jo,iI,Bz]) ?_;simp[PR,DC]
    ·have D:=DL k g G E;simp only[zy]at D E;refine zd y (v':=.esl) (by simp_all [DH,Jo,iI,Bz,ON]) ?_;simp[PR,DC]
    ·have D:=DL k g G E;simp only[zy]at D E;refine zd y (v':=.es0) (by simp_all [DH,Jo,iI,Bz]) ?_;simp[PR,DC]
    ·have D:Jo b cap xs.length=some r:=(by grind [DL]);have w:=LC (b:=bb) (off:=off) (len:=xs.length) (cap:=cap) (o:=o) (mx:=none) hu U rfl D P (fun _=>rfl);have O:((xs.drop l).take<|Nat.sub r l).length=r-l:=by
      grind
     by_cases hcl:cap=l
     ·have hhl:r=l:=ae
      have Z:(xs.drop l).take (Nat.sub r l)=[]:=by
       grind
      rw[Z];by_cases L:o=0
      ·refine zd y (v':=.sl bb off (r-l) (cap-l) 0) ?_ ?_
       ·have:Ms none o=0:=L;rw[w,this,hcl,z7];rfl
       ·simp only[PR,DC];exact⟨_,rfl,.inr ⟨bb,off,cap-l,0,bs,by grind,by simp,h2,by grind,.inl rfl,(by simp)⟩⟩
      ·refine zd y (v':=.esl) ?_ ?_
       ·have h1:zf (Ms none o) 0=false:=by rw[Bo];simp[Ms,L]
        rw[w,h1,hcl,z7];rfl
       ·simp[PR,DC]
     ·refine zd y (v':=.sl bb (off+l*R.size) (r-l) (cap-l) o) ?_ ?_
      ·have f:zf cap l=false:=by rw[Bo];grind
       have L:(zf (Ms none o) 0||zf (Ms none o) R.size)=true:=by
        rcases h5 with rfl|rfl
        ·rfl
        ·rw[A];show(zf s.sz 0||zf s.sz s.sz)=true;simp
       rw[w,f,L];rfl
      ·simp only[PR,DC];refine⟨_,rfl,.inr ⟨bb,off+l*R.size,cap-l,o,bs,by rw[O],by omega,h2,?_,h5,fun i hi=>?_⟩⟩
       ·rw[O,A];have:(l+(r-l))*s.sz<=xs.length*s.sz:=zh _ ae;grind
       grind
  case h_2=>
   rename_i id sz off len cap;cases A:(zf R.size sz&&Ia (st.obj id))with
   |false=>rw[A]at d;simp at d
   |true=>
    rw[A]at d;simp only[zc]at A;obtain⟨A,hl⟩:=A;have A:=ze A;simp only[we]at d;have hno:¬(hi=none/\mx≠none):=by
     rintro⟨rfl,hm⟩;cases mx with
     |none=>grind
     |some _=>simp at d
    split at d
    case h_1=>grind
    split at d
    case h_2=>simp at d
    rename_i c1 l c2 r c3 m f g S;simp only[B2,zc,w5]at d;obtain⟨⟨⟨⟨⟨⟨⟨J,G⟩,M⟩,E⟩,k5⟩,k6⟩,k7⟩,rfl,rfl⟩:=d;have P:=DL I f J E;have e3:=DL j S M k6;have D:=DL k g G k5;have Y:b=none->c=none:=by
     intro hbn;cases hcc:c with
     |none=>rfl
     |some z=>
      exfalso;apply hno;exact⟨k.isNone.2 hbn,fun e=>by have:=j.isNone.1 e;grind⟩
    obtain⟨b0,n0,h1⟩:=y.live hl;simp only[PR]at K;rcases K.2 b0 n0 h1 with⟨g1,g2,o,g3,rfl⟩|⟨rfl,rfl,g2,g3⟩
    ·have w:=LC (b:=b0) (off:=off*sz) (len:=len) (cap:=cap.getD len) (o:=o) hu U e3 D P Y;have hoz:Ms c o=0\/Ms c o=sz:=by
      unfold Ms;grind
     by_cases hml:m=l
     ·have hhl:r-l=0:=ae
      by_cases L:Ms c o=0
      ·refine zd y (v':=.sl b0 (off*sz) (r-l) (m-l) 0) ?_ ?_
       ·rw[w,L,hml,z7];rfl
       ·unfold PR;grind
      ·refine zd y (v':=.esl) ?_ ?_
       ·have hb0:zf (Ms c o) 0=false:=by rw[Bo];simp[L]
        rw[w,hb0,hml,z7];rfl
       ·unfold PR;grind
     ·refine zd y (v':=.sl b0 (off*sz+l*R.size) (r-l) (m-l)<|Ms c o) ?_ ?_
      ·have f:zf m l=false:=by rw[Bo];grind
       have L:(zf (Ms c o) 0||zf (Ms c o) R.size)=true:=by
        simp_all
       rw[w,f,L];rfl
      grind [PR,zt]
    ·simp only[zx]at k6 k7 e3;obtain rfl:m=0:=ae
     obtain rfl:r=0:=ae
     obtain rfl:l=0:=ae
     have hc:c=none:=by
      cases mx with
      |none=>exact j
      |some _=>simp[has]at k7
     subst hc;rcases g3 with rfl|⟨W,rfl,g4⟩
     ·refine zd y (v':=.esl) (by simp_all [DH,iI,Bz,ON]) ?_;simp_all [PR]
     ·refine zd y (v':=.sl b0 W 0 0 0) ?_ ?_
      ·rw[LC (mx:=none) hu U rfl D P (fun _=>rfl)];rfl
      simp_all [PR]
  case h_3=>
   split at d
   case h_3=>simp at d
   case h_2=>
    rename_i c1 l c2 r q f g;split at d
    case h_2=>simp at d
    rename_i p' c3 m S;simp only[B2,zc,w5]at d;obtain⟨⟨⟨⟨⟨⟨J,G⟩,k5⟩,M⟩,E⟩,k6⟩,rfl,rfl⟩:=d;have P:=DL I f J M;have D:=DL k g G ae;have e3:=DL j S k5 k6;simp only[PR]at K;cases b with
    |none=>simp[Vk]at k
    |some b=>exact zd y (v':=.nils) (by simp_all [DH,iI,Bz]) (by simp[PR])
   rename_i c1 l c2 r f g;simp only[B2,zc,w5]at d;obtain⟨⟨⟨⟨J,G⟩,M⟩,E⟩,rfl,rfl⟩:=d;simp only[Vk]at j;have P:=DL I f J M;have D:=DL k g G E;simp only[PR]at K;exact zd y (v':=.nils) (by simp_all [DH,Jo,iI,Bz]) (by simp[PR])
theorem pL(d:SR B h0 F ρ st.nx st.ob h){t:TypeId}{p q:PV}{x y:V}(c:PR F ρ st.nx p x)(b:PR F ρ st.nx q y){v:PV}(a:(lR C.T t p q st).To v st'):
  OK B h0 F ρ st h [] (Bz h<|E2 C.T t x y) v st':=cL d c.lz b a
theorem qJ(l:SR B h0 F ρ st.nx st.ob h){t:TypeId}{p:PV}{x:V}{i g mx:Option PV}{a b c:Option V}(k:PR F ρ st.nx p x)(e:Vk F ρ st.nx i a)(f:Vk F ρ st.nx g b)(d:Vk F ρ st.nx mx c)
  {v:PV} (j:(kS C.T t p i g mx st).To v st'):OK B h0 F ρ st h [] (Bz h<|DH C.T t x a b c) v st':=gU l k.lz e f d j
theorem MR.len{ks vs:Sh}{l:List (ks.T×vs.T)}{es:List (V×V×Nat)}(h:MR F ks vs l es):l.length=es.length:=by
 induction h with
 |nil=>rfl
 |cons _ _ _ a=>simp[a]
theorem zL(e:SR B h0 F ρ st.nx st.ob h){ts:Array TypeId}{ps:List PV}{i:List V}(f:BC F ρ st.nx ps i){v:PV}(c:(Va C.T ts ps st).To v st'):OK B h0 F ρ st h [] (Bz h<|Fu C.T h ts i) v st':=by
 unfold Va at c;split at c
 case h_2=>simp at c
 rename_i t p a;obtain⟨x,k,rfl,f,rfl⟩:=f;split at c
 case h_6=>simp at c
 case h_1=>
  rename_i s d;obtain⟨rfl,rfl⟩:=c;obtain rfl:=E1 f;exact zd e (by simp only[Fu,a,d,Bz];rfl)<|Dq _ _
 case h_2=>
  rename_i s l d;obtain⟨rfl,rfl⟩:=c;obtain⟨u,hu1,f⟩:=f;obtain rfl:x=u:=ah
  rcases f with⟨rfl,rfl|rfl|rfl⟩|⟨b,off,cap,o,m,rfl,_⟩
  ·exact zd e (by simp only[Fu,a,d,Bz];rfl)<|Dq _ _
  ·exact zd e (by simp only[Fu,a,d,Bz];rfl)<|Dq _ _
  ·exact zd e (by simp only[Fu,a,d,Bz];rfl)<|Dq _ _
  ·exact zd e (by simp only[Fu,a,d,Bz];rfl)<|Dq _ _
 case h_3=>
  rename_i id sz off len cap d;cases g:Ia (st.obj id)with
  |false=>simp_all
  |true=>
   rw[g]at c;obtain⟨rfl,rfl⟩:=c;obtain⟨b,n,h1⟩:=e.live g;rcases f.2 b n h1 with⟨_,_,o,_,rfl⟩|⟨rfl,_,_,rfl|⟨_,rfl,_⟩⟩
   ·exact zd e (by simp only[Fu,a,d,Bz];rfl)<|Dq _ _
   ·exact zd e (by simp only[Fu,a,d,Bz];rfl)<|Dq _ _
   ·exact zd e (by simp only[Fu,a,d,Bz];rfl)<|Dq _ _
 case h_4=>
  rename_i d;obtain⟨rfl,rfl⟩:=c;subst f;exact zd e (by simp only[Fu,a,d,Bz];rfl)<|Dq _ _
 case h_5=>
  split at c
  case h_2=>simp at c
  rename_i ks vs l j;obtain⟨rfl,rfl⟩:=c;obtain⟨b,n,y,h1,h2,⟨es,clk,rfl,h3⟩,_⟩:=e.at j;simp only[PR]at f;have g:l.length=es.length:=h3.len;refine zd e (v':=i64 es.length) (by simp_all [Fu,Bz]) ?_;rw[<-g];rfl
theorem Acm(d:SR B h0 F ρ st.nx st.ob h){ts:Array TypeId}{ps:List PV}{a:List V}(b:BC F ρ st.nx ps a){v:PV}(c:(nV C.T ts ps st).To v st'):OK B h0 F ρ st h [] (Bz h<|Fu C.T h ts a) v st':=zL d b.lz c
theorem AaF(q:SR B h0 F ρ st.nx st.ob h){f:Int->Int->Int}{g:V->V->Option V}(r:∀k x y,g (.int k x) (.int k y)=some (.int k<|f x y)){ps:List PV}{a:List V}(d:BC F ρ st.nx ps a){v:PV}
  (b:(Nl f ps st).To v st'):OK B h0 F ρ st h [] (Bz h<|Ge g a) v st':=by
 have key:∀(ps:List PV) (a:List V) (k:IntKind) (x z:Int),BC F ρ st.nx ps a->pmm f k x ps=some z->dfold g (.int k x) a=some (.int k z):=by
  intro ps;induction ps with
  |nil=>grind [pmm,BC,dfold]
  |cons p ps o=>
   intro a k x z d i;obtain⟨u,j,rfl,c,m⟩:=d;unfold pmm at i;split at i
   case h_1=>grind
   case h_2=>
    rename_i e;cases e;rename_i l y;cases s:(k==l)with
    |false=>grind
    |true=>
     obtain rfl:=Cw c;grind [dfold]
   grind
 unfold Nl at b;split at b
 case h_2=>simp at b
 split at b
 case h_2=>simp at b
 simp only[B1]at b;obtain⟨u,j,rfl,c,m⟩:=d;obtain rfl:=Cw c;grind [zd,Ge,Bz,Dq]
theorem OK.new(e:SR B h0 F ρ st.nx st.ob h){o:Obj}{x:O}{n:Nat}(c:o.frozen=false)(d:VE F (Bs ρ st.nx<|some (h.nx,n)) (st.nx+1) n o x){v:PV}{v':V}
  (a:PR F (Bs ρ st.nx<|some (h.nx,n)) (st.nx+1) v v'):OK B h0 F ρ st h [] (E0<|some (v',h.push x)) v (st.push o):=by
 refine⟨v',h.push x,F,_,.inl rfl,a,e.push c d,Le.new _,rfl,rfl,Nat.le_succ _,fun b f=>.inl ?_⟩;rw[H.Cq,wc ae]
theorem KQ{n:Nat}:PR F (Bs ρ N<|some (h.nx,n)) (N+1) (.ptr N 0) (.ptr h.nx 0):=by
 simp_all [PR,Bs]
theorem xI{F:Fz}:∀ {s:Sh} {v:V},isZ s v=true->DC F s s.HA [v]
 | .bool,.bool b,h=>by
  grind [isZ,DC,Sh.HA]
 | .int k,.int a n,h=>by
  simp_all [isZ,DC,Sh.HA]
theorem nX{T:BV}{t:TypeId}{s:Sh}{n:Nat}(h:xX T t=some (s,n)):∃i,T.inf t=some i/\n=i.zero.length/\(∀v∈i.zero,isZ s v=true)/\s.sz=1:=by
 unfold xX at h;split at h
 case h_2=>cases h
 rename_i i e c;split at h
 case h_2=>cases h
 rename_i d a;cases b:(zl 32 (Det.Fm i.zero)&&Det.Lt (isZ d) i.zero)with
 |false=>grind
 |true=>
  rw[b]at h;cases h;rw[zc,Fp]at b;refine⟨i,c,DF ..,ah,?_⟩;unfold zsh at a;split at a<;>first|(cases a;rfl)|cases a
theorem qT(e:SR B h0 F ρ st.nx st.ob h){t:TypeId}{v:PV}(c:(RB t C.T st).To v st'):OK B h0 F ρ st h [] (E0<|Gy C.T h t) v st':=by
 unfold RB iK at c;split at c
 case h_1=>
  rename_i s n g;obtain⟨rfl,rfl⟩:=c;obtain⟨i,f,rfl,hall,hs⟩:=nX g;have:Gy C.T h t=some (.ptr h.nx 0,h.push<|.cells i.zero t (0,0)):=by simp[Gy,f,IV]
  rw[this];refine OK.new e (o:=.arr false t s<|zk i.zero.length s.HA) (n:=i.zero.length) rfl ⟨_,_,rfl,⟨by grind,fun j k=>?_⟩,zg _,(by simp)⟩ KQ;have d:j<i.zero.length:=ah
  have:=hall i.zero[j] (by simp);rw[List.getElem_replicate,hs,Nat.mul_one,zo d];exact xI this
 split at c
 case h_2=>simp_all
 rename_i cs a;rw[Option.bind_eq_some_iff]at a;obtain⟨i,f,a⟩:=a;cases b:Lt V.ok i.zero with
 |false=>grind
 |true=>
 rw[b]at a;cases a;rw[Fp]at b;obtain⟨rfl,rfl⟩:=c;have:Gy C.T h t=some (.ptr h.nx 0,h.push<|.cells i.zero t (0,0)):=by simp[Gy,f,IV]
 rw[this];cases tE C.T t with
 |true=>exact OK.new e (o:=.tbox t<|i.zero.map W6) (n:=0) rfl ⟨_,_,rfl,D1 _,zg _,ah⟩ KQ
 |false=>exact OK.new e (o:=.box<|i.zero.map W6) (n:=0) rfl ⟨_,_,_,rfl,D1 _,zg _,ah⟩ KQ
theorem Aaz(b:SR B h0 F ρ st.nx st.ob h){t:TypeId}{p:PV}{x:V}(d:PR F ρ st.nx p x){cs:List PV}(a:pcs st p=some cs)(e:cs.all (KN st)=true):OK B h0 F ρ st h [] (E0<|some<|Zh h t x) (.ptr st.nx 0) (st.push<|.box cs):=
 OK.new b (o:=.box cs) (n:=0) rfl ⟨_,_,_,rfl,(Nr b d a).mono<|Le.new _,zg _,fun u c=>V.Ml<|List.all_eq_true.1 (by grind [Ka,Nr]) u c⟩ KQ
theorem Jx(k:SR B h0 F ρ st.nx st.ob h){place:Nat->Option (Nat×Nat)}:∀ {l:List (Nat×PV)} {l':List (Nat×V)},yD F ρ st.nx l l'->∀ {cs:List PV} {b:List V},BC F ρ st.nx cs b->∀ {out:List PV},Q3 st place cs l=some out->
  ∃f,Iz place b l'=some f/\BC F ρ st.nx out f:=by
 intro l l' g;induction g with
 |nil=>intro cs b c out a;cases a;exact⟨b,rfl,c⟩
 |@cons i p v l l' m _ q=>
  intro cs b c out a;unfold Q3 at a;unfold Iz;split at a
  case h_1=>cases a
  rename_i off size j;split at a
  case h_2=>cases a
  rename_i vs d;cases o:(zf (Det.Fm vs) size&&zl (Nat.add off size) (Det.Fm cs))with
  |false=>grind
  |true=>
   have e:=Nr k m d;rw[DF,DF,e.len,c.len]at o;have:=e.Ch off c;grind [Jb]
theorem pN(b:SR B h0 F ρ st.nx st.ob h){t:TypeId}{l:List (Nat×PV)}{l':List (Nat×V)}(d:yD F ρ st.nx l l'){v:PV}(f:(ov st<|Vu C.T st t l).To v st'):OK B h0 F ρ st h [] (Bz h<|Kb C.T t l') v st':=by
 simp only[Rf]at f;obtain⟨a,rfl⟩:=f;unfold Vu at a;split at a
 case h_3=>cases a
 case h_1=>
  rename_i i fs j g;split at a
  case h_2=>cases a
  rw[zi]at a;obtain⟨out,c,rfl⟩:=a;obtain⟨ys,g1,g2⟩:=Jx b d (D1 i.zero) c;exact zd b (v':=.agg ys) (by grind [Kb,Bz]) (by simp_all [PR])
 case h_2=>
  rename_i i k e j g;split at a
  case h_2=>cases a
  rw[zi]at a;obtain⟨out,c,rfl⟩:=a;obtain⟨ys,g1,g2⟩:=Jx b d (D1 i.zero) c;exact zd b (v':=.agg ys) (by grind [Kb,Bz]) (by simp_all [PR])
theorem J0(z:List V):∀n,BC F ρ N (NN (z.map W6) n)<|(zk n z).flatten
 |0=>by rfl
 |n+1=>by
  exact(D1 z).append<|J0 z n
theorem Ho(z:List V):∀n,E7 z (n*z.length)=(zk n z).flatten:=by
 intro n;apply z6;intro i;unfold E7;by_cases b:z.length=0
 ·simp_all
 ·induction n generalizing i with
  |zero=>simp
  |succ n a=>
   rw[List.replicate_succ,List.flatten_cons];by_cases c:i<z.length
   ·grind [Nat.mod_eq_of_lt]
   ·rw[List.getElem?_append_right ae, <-a (i-z.length)];grind [Nat.mod_eq_sub_mod]
theorem PL{sz n:Nat}{o:Nat}(a:o=0\/o=sz):PR F (Bs ρ N<|some (h.nx,n)) (N+1) (.sl N sz 0 n none) (.sl h.nx 0 n n o):=by
 simp_all [PR,Bs]
theorem Mf{place:Nat->Option (Nat×Nat)}:∀ {l:List (Nat×V)} {a b:List V},Iz place a l=some b->b.length=a.length
 |[],a,b,h=>by cases h;rfl
 |(i,v)::l,a,b,h=>by
  unfold Iz at h;split at h
  ·cases h
  ·rename_i off size _;cases c:(zf v.cells.length size&&zl (off+size) a.length)with
   |false=>grind
   |true=>
    rw[c]at h;rw[Mf h,Ip]
end
section
variable {B:Nat}{h0:H0}{F:Fz}{ρ:DU}{N:Nat}{C:Ctx}{st st':AI}{fr:Fr}{h h':H}
theorem C9.nil{s:Sh}:C9 F s [] []:=⟨by simp,(by simp)⟩
theorem C9.cons{s:Sh}{x:s.T}{l:List s.T}{a b:List V}(c:DC F s x a)(d:C9 F s l b):C9 F s (x::l) (a++b):=by
 refine⟨by rw[List.length_append,c.len,d.1,List.length_cons,z8];omega,fun i f=>?_⟩;cases i with
 |zero=>
  simp only[zw,zz,yb];rw[<-c.len,List.take_left];exact c
 |succ i=>
  have e:(a++b).drop ((i+1)*s.sz)=b.drop (i*s.sz):=by
   rw[z8,Nat.add_comm,FB, <-c.len,List.drop_left]
  rw[e];exact d.2 i ah
theorem C9.iU{s:Sh}{x:s.T}{l:List s.T}{cs:List V}(h:C9 F s (x::l) cs):∃a b,cs=a++b/\DC F s x a/\C9 F s l b:=by
 have h0:=h.2 0 (by simp);simp only[zw,zz,yb]at h0;refine⟨cs.take s.sz,cs.drop s.sz,(by simp),h0,?_,fun i c=>?_⟩
 ·grind [z8,C9]
 ·have:=h.2 (i+1) ah;grind [FB,z8]
theorem C9.append{s:Sh}:∀ {l m:List s.T} {a b:List V},C9 F s l a->C9 F s m b->C9 F s (l++m) (a++b)
 |[],m,a,b,h,h'=>by
  have:a=[]:=zu.1 (by rw[h.1];simp);grind
 |x::l,m,a,b,h,h'=>by
  obtain⟨c,d,rfl,e,f⟩:=h.iU;rw[List.append_assoc,List.cons_append];exact C9.cons e<|f.append h'
theorem C9.replicate{s:Sh}{z:s.T}{c:List V}(a:DC F s z c):∀n,C9 F s (zk n z)<|(zk n c).flatten
 |0=>C9.nil
 |n+1=>by
  exact C9.cons a<|C9.replicate a n
theorem C9.UZ{s:Sh}:∀ {l:List s.T} {a:List V},C9 F s l a->a.all V.one=true
 |[],a,h=>by
  grind [C9]
 |x::l,a,h=>by
  obtain⟨c,d,rfl,b,e⟩:=h.iU;rw[List.all_append,e.UZ,Bool.and_true];exact List.all_eq_true.2 b.UZ
theorem C9.part{s:Sh}{l:List s.T}{cs:List V}(h:C9 F s l cs){off len:Nat}(b:off+len<=l.length):C9 F s ((l.drop off).take len) ((cs.drop<|off*s.sz).take<|len*s.sz):=by
 have d:(off+len)*s.sz<=l.length*s.sz:=zh _ b;have f:=h.1;refine⟨by grind,fun i e=>?_⟩;have a:i<len:=ah
 have c:(i+1)*s.sz<=len*s.sz:=zh _ a;grind [List.drop_take,List.drop_drop,zt,C9]
theorem yK(E:SR B h0 F ρ st.nx st.ob h){t:TypeId}{p q:PV}{x y:V}(I:PR F ρ st.nx p x)(w:PR F ρ st.nx q y){v:PV}(a:(kJ C.T t p q st).To v st'):OK B h0 F ρ st h [] (E0<|Pr C.T h t x y) v st':=by
 unfold kJ at a;split at a
 case h_2=>simp at a
 rename_i e k l K c J;obtain rfl:=Cw I;obtain rfl:=Cw w;split at a
 case h_2=>simp at a
 rename_i i s L O;cases f:(zp 0 i.zero.length&&zf i.zero.length i.size&&zf i.size s.sz)with
 |false=>simp_all
 |true=>
  rw[f]at a;simp only[zc]at f;obtain⟨⟨A,g⟩,P⟩:=f;simp only[we]at a;split at a
  case h_2=>simp at a
  rename_i z m;simp only[B2,zc,w5]at a;obtain⟨⟨⟨⟨r,j⟩,D⟩,R⟩,rfl,rfl⟩:=a;have d:l=c:=j;subst d;obtain⟨n,rfl,hn⟩:=D3 r;have M:=ze g;have G:Pr C.T h t (.int k<|yg n) (.int K<|yg n)=some (.sl h.nx 0 n n 0,h.push<|.cells (E7 i.zero<|n*i.size) e (0,0)):=by
   have a1:zl n n=true:=(by simp);have a2:zp n 9223372036854775808=true:=(by grind [Ds]);have a3:zl (i.bytes*n) 281474976710656=true:=zn D;simp only[Pr,J,L,a1,a2,a3,A,g,yf,we,IV]
  rw[G];have u:=CI (D1 (F:=F) (ρ:=ρ) (N:=st.nx) i.zero) m;have b:C9 F s (zk n z) (E7 i.zero<|n*i.size):=by
   grind [Ho,C9.replicate]
  exact OK.new E (o:=.arr false e s<|zk n z) (n:=n) rfl ⟨_,_,rfl,b,zg _,by simp⟩ (PL<|.inl rfl)
theorem Vw(I:SR B h0 F ρ st.nx st.ob h){s:Sh}{p:PV}{x:V}(k:PR F ρ st.nx p x){c:Bool}{l:List s.T}(a:HL st s p=some (c,l))(E:c=true):
  Pa x=some l.length/\(s.sz=1\/OJ x=true)/\∃cs,src h s.sz x l.length=some cs/\C9 F s l cs:=by
 unfold HL at a;split at a
 case h_1=>
  cases a;subst k;exact⟨rfl,.inr rfl,[],rfl,C9.nil⟩
 case h_2=>
  rename_i d l';rw[zi]at a;obtain⟨r,w,z⟩:=a;obtain⟨e,he⟩:=Cp w;have v:d=s:=ah
  subst v;have:r=l':=ah
  subst this;cases z;obtain⟨u,Y,k⟩:=k;obtain rfl:x=u:=ah
  rcases k with⟨rfl,rfl|rfl|rfl⟩|⟨b,off,cap,o,J,rfl,K,D,g,P,O⟩
  ·exact⟨rfl,.inr rfl,[],rfl,C9.nil⟩
  ·exact⟨rfl,.inr rfl,[],rfl,C9.nil⟩
  ·exact⟨rfl,.inr rfl,[],rfl,C9.nil⟩
  ·obtain⟨R,fz,S⟩:=I.frz b J D;suffices hD:C9 F d l ((J.drop off).take<|l.length*d.sz)from⟨rfl,.inr rfl,_,rd_some S g hD.ok,hD⟩
   refine⟨?_,fun i Z=>?_⟩
   ·grind
   ·have hi2:(i+1)*d.sz<=l.length*d.sz:=zh _ Z;grind [List.drop_take,List.drop_drop]
 case h_3=>
  rename_i id sz off len cap;split at a
  case h_2=>cases a
  rename_i M R d l' U;cases f:zf sz d.sz with
  |false=>grind
  |true=>
   rw[f]at a;have f:=ze f;simp only[we,zi]at a;obtain⟨r,w,z⟩:=a;obtain⟨e,he⟩:=Cp w;have v:d=s:=ah
   subst v;have:r=l':=ah
   subst this;cases z;simp only[w5]at E;obtain⟨b,n,y,K,D,⟨cs,fz,rfl,g,O,P⟩,_⟩:=I.at U;have q:((r.drop off).take len).length=len:=ah
   have A:(off+len)*d.sz<=r.length*d.sz:=zh _ E;rw[zt]at A;rw[q];rcases k.2 b n K with⟨_,_,o,_,rfl⟩|⟨rfl,_,W,rfl|⟨G,rfl,m⟩⟩
   ·refine⟨rfl,.inr rfl,_,rd_some D ?_ ?_,?_⟩
    ·rw[f,g.1];exact A
    ·rw[f];exact(g.part E).ok
    ·rw[f];exact g.part E
   ·refine⟨rfl,.inr rfl,[],rfl,?_⟩;simpa using C9.nil
   ·refine⟨rfl,.inr rfl,_,rd_some D ?_ ?_,?_⟩
    ·rw[f]at m;rw[g.1];omega
    ·simp
    ·simp;exact C9.nil
 case h_5=>cases a
 case h_4=>
  rename_i t;rw[zi]at a;obtain⟨r,w,z⟩:=a;obtain⟨e,he⟩:=Cp w;have v:s=.int .u8:=ah
  subst v;have:r=List.map (fun b:UInt8=>(b.toNat:Int)) t:=ah
  subst this;cases z;obtain rfl:=E1 k;refine⟨by simp[Pa],.inl rfl,_,rfl,?_⟩;refine⟨by simp[Sh.sz],fun j hj=>?_⟩;have L:j<t.length:=ah
  have e1:((t.map fun b=>V.int .u8 (b.toNat:Int)).drop<|j*1).take 1=[V.int .u8 ((t[j]).toNat:Int)]:=by
   simp_all [zo]
  grind [DC,Sh.sz]
theorem ZK(e:SR B h0 F ρ st.nx st.ob h){s:Sh}{p:PV}{x:V}(d:PR F ρ st.nx p x){c:Bool}{l:List s.T}(a:OI st s p=some (c,l))(b:c=true):
  Pa x=some l.length/\(s.sz=1\/OJ x=true)/\∃cs,src h s.sz x l.length=some cs/\C9 F s l cs:=Vw e d.lz a b
theorem SR.congr(a:SR B h0 F ρ N st.ob h)(j:∀c,h'.get c=h.get c)(e:h'.nx=h.nx):SR B h0 F ρ N st.ob h':=
 ⟨fun id o i=>by obtain⟨b,n,x,g,l,r⟩:=a.obj id o i;grind,a.inj,fun b cs d=>by obtain⟨t,fz,g⟩:=a.frz b cs d;grind,a.own,a.dead,
  fun b d f=>(j b).trans<|a.old b d f,fun b o d=>by rw[e];exact a.lt b o ah,by rw[e];exact a.le,a.fo,a.gl,fun c k=>by obtain⟨q,p,m⟩:=a.pn c k;grind⟩
theorem SR.gM{ob:Ob}(a:SR B h0 F ρ N ob h){o:Obj}{x:O}{b n:Nat}(M:h.get b=some x)(g:∀id o m,AM ob id=some o->ρ id≠some (b,m))(T:F b=none)(S:h0.Zn B b)(L:b∉h0.pin)(W:o.frozen=false)
  (R:VE F (Bs ρ N<|some (b,n)) (N+1) n o x):SR B h0 F (Bs ρ N<|some (b,n)) (N+1) ((N,o)::ob) h:=by
 have E:Le F ρ N F (Bs ρ N<|some (b,n)) (N+1):=Le.new _;have d:∀j,AM ((N,o)::ob) j=if j=N then some o else AM ob j:=by
  simp only[AM,Bo];grind
 refine⟨fun j oj f=>?_,fun i j oi oj c m u v f q r=>?_,a.frz,fun id c m p=>?_,fun j f=>?_,a.old,a.lt,a.le,a.fo,a.gl,fun c I=>?_⟩
 ·rw[d]at f;by_cases e:j=N
  ·grind [Bs]
  ·rw[wc e]at f;obtain⟨c,m,y,q,r,D,w⟩:=a.obj j oj f;exact⟨c,m,y,by simp[Bs,e,q],r,D.mono E,w⟩
 ·rw[d]at v f;have key:∀k ok m,(if k=N then some o else AM ob k)=some ok->Bs ρ N (some (b,n)) k=some (c,m)->(k=N/\c=b)\/(k≠N/\AM ob k=some ok/\ρ k=some (c,m)/\c≠b):=by
   intro k ok m Y l;by_cases e:k=N
   ·simp_all [Bs]
   ·simp only[Bs,e,vf]at l;grind
  rcases key i oi m v q with⟨A,t⟩|⟨A,t,G,U⟩<;>rcases key j oj u f r with⟨J,s⟩|⟨J,s,z,V⟩
  ·omega
  ·omega
  ·omega
  ·exact a.inj i j oi oj c m u t s G z
 ·unfold Bs at p;split at p
  ·grind
  ·have:=a.own id c m p;grind
 ·rw[d]at f;by_cases e:j=N
  ·grind
  ·rw[wc e]at f;simp[Bs,e,a.dead j f]
 ·obtain⟨Z,P,K⟩:=a.pn c I;grind [Bs]
theorem OA{off:Nat}{cs:List V}(h:off<=cs.length):Ch off [] cs=cs:=by
 apply z6;simp_all [GQ,wc]
theorem TT{off:Nat}{vs cs:List V}(h:off+vs.length<=cs.length):Ch off vs cs=cs.take off++(vs++cs.drop (off+vs.length)):=by
 apply z6;intro j;rw[GQ h];grind
theorem C9.gZ{s:Sh}{l new:List s.T}{cs b:List V}{a:Nat}(h:C9 F s l cs)(c:C9 F s new b)(i:a+new.length<=l.length):
  C9 F s (l.take a++(new++l.drop (a+new.length))) (Ch (a*s.sz) b cs):=by
 have j:=h.1;have f:=c.1;have g:(a+new.length)*s.sz<=l.length*s.sz:=zh _ i;rw[TT ah];have e:=h.part (off:=0) (len:=a) ae;have d:=h.part (off:=a+new.length) (len:=l.length-(a+new.length)) ae;rw[zw,zz,zz]at e;rw[yc (by simp),yc<|by simp_all [Nat.sub_mul]]at d;rw[f, <-zt];exact e.append<|c.append d
def Fg:List PV->List Nat
 | .sl id _ _ _ _::_=>[id]
 |_=>[]
theorem ZG{s b:Sh}{x:b.T}{c:Bool}{l:List s.T}(d:OI st s (.dat b x)=some (c,l)):c=true:=by
 unfold OI at d;cases b with
 |list a=>
  grind [zi,HL,lz]
 |nlist a=>
  grind [zi,HL,lz]
 |str=>
  grind [zi,HL,lz]
 |_=>cases d
theorem bM(J:SR B h0 F ρ st.nx st.ob h){ts:Array TypeId}{ps:List PV}{xs:List V}(M:BC F ρ st.nx ps xs){v:PV}(d:(RK C.T ts ps st).To v st'):OK B h0 F ρ st h (Fg ps) (E0<|Gc C.T h ts xs) v st':=by
 unfold RK at d;split at d
 case h_2=>simp at d
 rename_i t tx p q hts htx;simp only[BC]at M;obtain⟨x,_,rfl,M,y,_,rfl,hy,rfl⟩:=M;split at d
 case h_2=>simp at d
 rename_i e ex hu hux;have hss:Sk ex=true:=by
  cases hq:Sk ex with
  |true=>rfl
  |false=>simp_all
 rw[hss]at d;simp only[we]at d;split at d
 case h_2=>simp at d
 rename_i i s hi hs;cases hc:(zp 0 i.bytes&&zp 0 i.size&&zf i.zero.length i.size&&zf i.size s.sz)with
 |false=>simp_all
 |true=>
  rw[hc]at d;simp only[zc]at hc;obtain⟨⟨⟨c1,c2⟩,c3⟩,c4⟩:=hc;have e4:=ze c4;simp only[we]at d;split at d
  case h_2=>simp at d
  rename_i c new hel;have head:c=true->∃cs,src h i.size y new.length=some cs/\C9 F s new cs/\Gc C.T h ts [x,y]=(match x with
      | .nils=>bif zf new.length 0 then some (.nils,h)
       else bif zl ((3*new.length+2000)*i.bytes) 562949953421312 then some (.sl h.nx 0 new.length new.length i.size,IV h e cs)else none
      | .es0=>bif zf new.length 0 then some (.es0,h)
       else bif zl ((3*new.length+2000)*i.bytes) 562949953421312 then some (.sl h.nx 0 new.length new.length i.size,IV h e cs)else none
      | .esl=>bif zf new.length 0 then some (.esl,h)else none
      | .sl b off len cap o=>
       bif zl (len+new.length) cap then(wr h b (off+len*i.size) cs).map fun h'=>(.sl b off (len+new.length) cap o,h')
       else bif zl ((3*(len+new.length)+2000)*i.bytes) 562949953421312 then
        match src h i.size x len with
        |some old=>
         bif zf o 0 then some (.sl h.nx 0 (len+new.length) (len+new.length) i.size,IV h e<|old++cs)
         else
          match h.get b with
          |some (.cells _ te fz)=>
           bif zf off 0&&zf o i.size&&zf te e&&zl fz.2 fz.1&&cs.all V.one then some (.sl h.nx 0 (len+new.length) (len+new.length) i.size,(h.kill b).push<|.cells (old++cs) e (0,0))
           else none
          |_=>none
        |none=>none
       else none
      |_=>none):=by
   intro hc;obtain⟨g1,D,cs,I,g4⟩:=ZK J hy hel hc;rw[<-e4]at I;refine⟨cs,I,g4,?_⟩;have Y:(zp 0 i.bytes&&zp 0 i.size&&zf i.zero.length i.size&&(zf i.size 1||OJ y))=true:=by
    grind
   have hint:isInt ex=false:=by cases ex<;>first|rfl|cases hss
   simp only[Gc,hts,htx,hu,hux,g1,hi,hint,Y,we,I];cases x<;>rfl
  split at d
  case h_3=>simp at d
  case h_1=>
   simp only[PR]at M;subst M;have grow:c=true->0<new.length->(3*new.length+2000)*i.bytes<=lZ->OK B h0 F ρ st h (Fg [PV.nil,q]) (E0<|Gc C.T h ts [.nils,y]) (.sl st.nx s.sz 0 new.length none) (st.push<|.arr false e s new):=by
    intro k1 k2 k3;obtain⟨cs,g1,D,I⟩:=head k1;have O:zf new.length 0=false:=by grind [Bo]
    have b2:zl ((3*new.length+2000)*i.bytes) 562949953421312=true:=zn k3;rw[I];simp only[O,b2,wg,we];exact OK.new J (o:=.arr false e s new) (n:=new.length) rfl ⟨_,_,rfl,D,zg _,rfl⟩ (PL<|.inr e4)
   have same:c=true->new.length=0->OK B h0 F ρ st h (Fg [PV.nil,q]) (E0<|Gc C.T h ts [.nils,y]) .nil st:=by
    intro k1 k2;obtain⟨cs,g1,D,I⟩:=head k1;have O:zf new.length 0=true:=by rw[k2];rfl
    rw[I];simp only[O,we];exact⟨.nils,h,F,ρ,.inl rfl,by simp[PR],J,zr,rfl,rfl,zg _,(by simp)⟩
   split at d
   case h_1=>
    simp_all [OI,HL,lz]
   case h_2=>
    have hc':c=true:=by
     exact ZG hel
    by_cases hn:0<new.length
    ·rw[w4 hn]at d;cases d with
     |tt d=>
      simp_all
    ·rw[w8 hn]at d;cases d with
     |ff d=>
      simp_all
   case h_3=>
    by_cases hn:0<new.length
    ·rw[w4 hn]at d;cases d with
     |tt d=>
      simp_all
    ·rw[w8 hn]at d;cases d with
     |ff d=>
      simp_all
   simp_all
  case h_2=>
   rename_i id sz off len cap;split at d
   case h_2=>simp at d
   rename_i e' f l ho;split at d
   case h_2=>simp at d
   rename_i l' hl';obtain⟨ecast,hcast⟩:=Cp hl';have es:f=s:=ah
   subst es;have:l'=l:=ah
   subst this;cases P:(zf e e'&&zf sz f.sz)with
   |false=>simp_all
   |true=>
    rw[P]at d;simp only[zc]at P;have ee:=ze P.1;have esz:=ze P.2;subst ee;subst esz;simp only[we]at d;split at d
    case h_2=>
     rename_i k;simp only[B2,zc,w5]at d;obtain⟨⟨⟨k1,k2⟩,k3⟩,rfl,rfl⟩:=d;obtain⟨cs,g1,D,I⟩:=head k1;obtain⟨b,n,z,h1,h2,⟨bs,fz,rfl,h3,h4,h5⟩,h6,_⟩:=J.at ho;simp only[PR]at M;rw[I];have hone:cs.all V.one=true:=D.UZ;have hcl:cs.length=new.length*f.sz:=D.1;have hbl:=h3.1;have hle:(off+len+new.length)*f.sz<=l'.length*f.sz:=zh _ ae;have hexp:(off+len+new.length)*f.sz=off*f.sz+len*f.sz+new.length*f.sz:=ah
     have hsp:=C9.gZ h3 D (a:=off+len) ae;have A:(l'.take (off+len)++(new++l'.drop (off+len+new.length))).length=l'.length:=by simp;omega
     rcases M.2 b n h1 with⟨_,g6,o,g5,rfl⟩|⟨e0,ek,g6,g7⟩
     ·simp only[zx]at g6;have hw:wr h b (off*f.sz+len*i.size) cs=some (h.put b<|.cells (Ch ((off+len)*f.sz) cs bs) e fz):=by
       grind [Mz,zt]
      have O:zl (len+new.length) k=true:=(by simp_all);refine⟨.sl b (off*f.sz) (len+new.length) k o,h.put b<|.cells (Ch ((off+len)*f.sz) cs bs) e fz,F,ρ,.inl ?_,?_,J.set ho h1 h2 rfl rfl (o':=.arr false e f _) ⟨_,fz,rfl,hsp,h4,A.trans h5⟩,zr,rfl,rfl,zg _,fun c _=>?_⟩
      ·simp only[zx,O,we,hw,yd,E0]
      ·simp only[PR];refine⟨M.1,fun b' n' hb'=>.inl ?_⟩;grind
      ·rw[H.BT];by_cases e:c=b
       ·grind [Fg]
       grind
     ·cases ek;subst e0;have hn0:new.length=0:=ae
      have U:new=[]:=ah;subst U;have W:cs=[]:=(by grind [zu]);subst W;have hlp:Ch ((off+0)*f.sz) [] bs=bs:=(by grind [OA]);have R:∀c,(h.put b<|.cells (Ch ((off+0)*f.sz) [] bs) e fz).get c=h.get c:=by
       intro c;rw[hlp,H.BT];grind
      have hset:=J.set ho h1 h2 rfl rfl (o':=.arr false e f _) (x':=.cells (Ch ((off+0)*f.sz) [] bs) e fz) ⟨_,fz,rfl,hsp,h4,A.trans h5⟩;have E:SR B h0 F ρ st.nx (DS st.ob id<|.arr false e f<|l'.take (off+0)++([]++l'.drop (off+0+0))) h:=
       SR.congr (st:=⟨st.n,st.fr,DS st.ob id _,st.nx⟩) hset ah rfl
      have hpr:∀w,(w=.esl\/∃r,w=.sl b r 0 0 0/\r<=off*f.sz)->PR F ρ st.nx (.sl id f.sz off (Nat.add 0 0)<|some 0) w:=by
       grind [PR]
      rcases g7 with rfl|⟨r,rfl,Z⟩
      ·exact⟨.esl,h,F,ρ,.inl rfl,hpr _<|.inl rfl,E,zr,rfl,rfl,zg _,(by simp)⟩
      ·have hob:r<=bs.length:=by
        omega
       have hw:wr h b (r+0*i.size) []=some (h.put b<|.cells (Ch (r+0*i.size) [] bs) e fz):=Mz h2 ae h4 rfl;have hput2:∀c,(h.put b<|.cells (Ch (r+0*i.size) [] bs) e fz).get c=h.get c:=by
        simp_all [OA]
       refine⟨.sl b r 0 0 0,h.put b<|.cells (Ch (r+0*i.size) [] bs) e fz,F,ρ,.inl ?_,hpr _<|.inr ⟨r,rfl,Z⟩,SR.congr (st:=⟨st.n,st.fr,DS st.ob id _,st.nx⟩) E hput2 rfl,zr,rfl,rfl,zg _,ah⟩;simp_all [zl,E0]
    simp only[B2,zc,w5]at d;obtain⟨⟨⟨⟨k1,k2⟩,k3⟩,k4⟩,rfl,rfl⟩:=d;subst k2;obtain⟨cs,g1,D,I⟩:=head k1;obtain⟨b,n,z,h1,h2,⟨bs,fz,rfl,h3,h4,h5⟩,h6,_⟩:=J.at ho;have hFb:=h6 rfl;simp only[PR]at M;have hB:=(J.own id b n h1).2;have hPb:b∉h0.pin:=fun hp=>(J.pn b hp).2.2 id n h1
    have hidN:=ae;obtain⟨_,_,o,g5,rfl⟩:len<=len/\0+len<=n/\∃o,(o=0\/o=f.sz)/\x=.sl b (0*f.sz) len len o:=by
     rcases M.2 b n h1 with g|⟨_,e,_⟩
     ·exact g
     grind
    have hbl:bs.length=len*i.size:=by rw[h3.1,k3,e4]
    have G:∀j oj m,AM (F6 st.ob id) j=some oj->Bs ρ id none j≠some (b,m):=by
     intro j oj m hj hjr;rw[Dh]at hj;split at hj
     ·cases hj
     ·rename_i hne;simp only[Bs,hne,vf]at hjr;exact hne<|J.inj j id oj _ b m n hj ho hjr h1
    have L:=J.del id;have S:Le F ρ st.nx F (Bs ρ id none) st.nx:=Le.Jj id;have hnew:C9 F f (l'++new) (bs++cs):=h3.append D;have A:(l'++new).length=len+new.length:=ah
    have hone:cs.all V.one=true:=D.UZ;rw[I];simp only;by_cases hn:new.length=0
    ·
     have U:new=[]:=ah;have W:cs=[]:=zu.1 (by rw[D.1,hn,zw]);subst W;have O:zl (len+new.length) len=true:=(by simp_all);have hw:wr h b (0*f.sz+len*i.size) []=some (h.put b<|.cells (Ch (0*f.sz+len*i.size) [] bs) e fz):=Mz h2 ah h4 rfl;have R:∀c,(h.put b<|.cells (Ch (0*f.sz+len*i.size) [] bs) e fz).get c=h.get c:=by
      simp_all [OA]
     refine⟨.sl b (0*f.sz) (len+new.length) len o,h.put b<|.cells (Ch (0*f.sz+len*i.size) [] bs) e fz,F,Bs (Bs ρ id none) st.nx<|some (b,n),.inl ?_,?_,?_,S.trans<|Le.new _,rfl,rfl,zg _,ah⟩
     ·simp only[O,we,hw,yd,E0]
     ·unfold PR;refine⟨Nat.lt_succ_self _,fun b' n' hb=>.inl ?_⟩;simp_all [Bs]
     ·refine SR.gM (ob:=F6 st.ob id) ?_ (x:=.cells bs e fz) ah G hFb hB hPb rfl ⟨bs,fz,rfl,?_,h4,?_⟩
      ·exact SR.congr (st:=⟨st.n,st.fr,F6 st.ob id,st.nx⟩) L R rfl
      ·grind
      omega
    ·
     have O:zl (len+new.length) len=false:=by
      cases hb:zl (len+new.length) len with
      |false=>rfl
      |true=>have:=Nat.le_of_ble_eq_true hb;omega
     have b2:zl ((3*(len+new.length)+2000)*i.bytes) 562949953421312=true:=zn k4;have hsrc:src h i.size (.sl b (0*f.sz) len len o) len=some bs:=by
      show rd h b (0*f.sz) (len*i.size)=_;rw[rd_some h2 ae<|fun u hu=>h3.ok u ah];grind
     simp only[O,b2,wg,we,hsrc];have fin:∀ {K:H},SR B h0 F (Bs ρ id none) st.nx (F6 st.ob id) K->K.nx=h.nx->(∀c,c≠b->K.get c=h.get c)->
       OK B h0 F ρ st h [id] (E0<|some (.sl h.nx 0 (len+new.length) (len+new.length) i.size,K.push<|.cells (bs++cs) e (0,0))) (.sl st.nx f.sz 0 (Nat.add len new.length) none) ((st.FM id).push<|.arr false e f<|l'++new):=by
      intro K hr1 hnx hg;have hp:=hr1.push (o:=.arr false e f<|l'++new) (x:=.cells (bs++cs) e (0,0)) (n:=len+new.length) rfl ⟨_,_,rfl,hnew,zg _,A⟩;refine⟨_,_,F,_,.inl rfl,?_,hp,S.trans<|Le.new _,rfl,rfl,by simp_all,fun c hc=>?_⟩
      ·rw[<-hnx];exact PL<|.inr e4
      ·rw[H.Cq,wc ae];grind
     rcases g5 with rfl|rfl
     ·exact fin L rfl (fun _ _=>rfl)
     ·have b3:zf f.sz 0=false:=by
       rw[<-e4];cases hb:zf i.size 0 with
       |false=>rfl
       |true=>simp_all
      have b4:(zf (0*f.sz) 0&&zf f.sz i.size&&zf e e&&zl fz.2 fz.1&&cs.all V.one)=true:=by
       simp_all
      simp only[b3,wg,h2,b4,we];exact fin (L.kill G hFb hB hPb) rfl (by simp_all)
theorem ED:∀ {s:Sh} {x:s.T} {v:V},DV F s x v->PR F ρ N (BL s x) v
 | .pair a b,x,v,h=>by obtain⟨cs,rfl,c⟩:=h.1 rfl;simp_all [BL,PR,CB]
 | .unit,x,v,h=>by obtain⟨cs,rfl,c⟩:=h.1 rfl;simp_all [DC,BL,PR]
 | .int _,x,v,h=>by have:=h.2 rfl;unfold BL PR;omega
 | .bool,x,v,h=>by have:=h.2 rfl;unfold BL PR;omega
 | .str,x,v,h=>by have:=h.2 rfl;unfold BL PR;omega
 | .list _,x,v,h=>by have:=h.2 rfl;unfold BL PR;omega
 | .nlist _,x,v,h=>by have:=h.2 rfl;unfold BL PR;omega
 | .fnv,x,v,h=>by
  have:=h.2 rfl;simp only[DC,ye,ve]at this;subst this;unfold BL;cases (x:Option Fn)<;>simp[PR]
 | .ptr s,x,v,h=>by
  have:=h.2 rfl;grind [DC,BL,PR]
theorem pE{s:Sh}{p:PV}{x:s.T}{v:V}(c:PR F ρ N p v)(b:asV s p=some x):DV F s x v:=by
 unfold asV at b;cases a:(M0 p==s.MZ)with
 |false=>grind
 |true=>
  rw[a]at b;refine⟨fun e=>?_,fun e=>?_⟩
  ·rw[e]at a;cases p<;>simp only[M0]at a<;>try (cases a;done)
   obtain⟨cs,rfl,d⟩:=c;exact⟨cs,rfl,CI d b⟩
  ·rw[e]at a;have:p.cells=[p]:=by cases p<;>first|rfl|(simp[M0]at a)
   rw[this]at b;exact CI (by simpa using c) b
theorem fG{T:BV}{t:TypeId}{s:Sh}(h:sL T t=some s):(∃k,s=.int k/\T.und t=some (.int k))\/(s=.str/\T.und t=some .string)\/(s=.bool/\T.und t=some .bool):=by
 unfold sL at h;grind
theorem Ws{T:BV}{t:TypeId}{s:Sh}(b:sL T t=some s){p:PV}{x:s.T}{v:V}(a:PR F ρ N p v)(c:nB s p=some x):DV F s x v:=by
 have:=Gb a c;rcases fG b with⟨k,rfl,_⟩|⟨rfl,_⟩|⟨rfl,_⟩<;>exact⟨fun e=>(by cases e),fun _=>this⟩
theorem S8{T:BV}{t:TypeId}{s:Sh}(c:sL T t=some s){x:s.T}{v:V}(e:DV F s x v):∃d,T.und t=some d/\IP T t d v=true/\(∀es,JZ T t v es=KK T t v es 0)/\∀y u,DV F s y u->jA T t v u=some (Wa s x y):=by
 rcases fG c with⟨k,rfl,a⟩|⟨rfl,a⟩|⟨rfl,a⟩<;>
 ·have b:=e.2 rfl;simp only[DC,ye,ve]at b;subst b;refine⟨_,a,rfl,fun _=>rfl,fun y u f=>?_⟩;have g:=f.2 rfl;simp_all [DC,jA,Wa]
theorem OP{T:BV}{t:TypeId}{ks vs:Sh}(J:sL T t=some ks){k:ks.T}{m:V}(w:DV F ks k m):∀ {l:List (ks.T×vs.T)} {es:List (V×V×Nat)},MR F ks vs l es->∀i,∃r,KK T t m es i=some r/\
  (match r with
   |none=>D9 ks vs k l=none/\SB ks vs k l=l/\∀x f c,DV F vs x f->MR F ks vs (JH ks vs k x l) (es++[(m,f,c)])
   |some (j,u)=>(∃v,D9 ks vs k l=some v/\DV F vs v u)/\i<=j/\MR F ks vs (SB ks vs k l) (es.eraseIdx<|j-i)/\∀x f,DV F vs x f->MR F ks vs (JH ks vs k x l) (WG es (j-i) m f)):=by
 intro l es E;induction E with
 |nil=>intro i;exact⟨none,rfl,rfl,rfl,fun x f c g=>.cons w g .nil⟩
 |@cons a b l A M n es p s I K=>
  intro i;obtain⟨d,_,_,_,q⟩:=S8 J w;have q:=q a A p;unfold KK;rw[q];cases o:Wa ks k a with
  |true=>
   refine⟨some (i,M),rfl,(by grind [D9]),zg _,?_,fun x f g=>?_⟩
   ·simp_all [SB]
   ·simp only[Nat.sub_self,JH,o,we,WG,List.modify_zero_cons];exact .cons w g I
  |false=>
   obtain⟨r,O,z⟩:=K<|i+1;refine⟨r,O,?_⟩;cases r with
   |none=>
    obtain⟨L,G,y⟩:=z;refine⟨by simp_all [D9],by simp_all [SB],fun x f c g=>?_⟩;simp only[JH,o,wg,List.cons_append];exact .cons p s<|y x f c g
   |some D=>
    obtain⟨j,u⟩:=D;obtain⟨⟨v,L,G⟩,y,k4,k5⟩:=z;have e:j-i=(j-(i+1))+1:=ae
    refine⟨(by simp_all [D9]),by omega,?_,fun x f g=>?_⟩
    ·rw[e];simp only[List.eraseIdx_cons_succ,SB,o,wg];exact .cons p s k4
    ·rw[e];simp only[JH,o,wg,WG,List.modify_succ_cons];exact .cons p s<|k5 x f g
theorem pU(b:SR B h0 F ρ st.nx st.ob h){t:TypeId}{v:PV}(a:(WR C.T t st).To v st'):OK B h0 F ρ st h [] (E0<|IY h none) v st':=by
 unfold WR at a;split at a
 case h_2=>simp at a
 split at a
 case h_2=>simp at a
 rename_i ks vs d c;obtain⟨rfl,rfl⟩:=a;refine OK.new b (o:=.map ks vs []) (x:=.map [] 0) (n:=0) rfl ⟨[],0,rfl,.nil⟩ ?_;simp_all [PR,Bs]
theorem Zi(i:SR B h0 F ρ st.nx st.ob h){ks vs:Sh}{m:PV}{l:List (ks.T×vs.T)}{x:V}(g:PR F ρ st.nx m x)(a:cX st ks vs m=some l):∃es,entries h x=some es/\MR F ks vs l es:=by
 unfold cX at a;split at a
 ·cases a;subst g;exact⟨[],rfl,.nil⟩
 ·split at a
  case h_2=>cases a
  rename_i d c l' f;obtain⟨e,j⟩:=Cp a;obtain⟨rfl,rfl⟩:=e;obtain⟨b,n,o,h1,h2,⟨es,clk,rfl,h4⟩,_⟩:=i.at f;simp_all [PR,entries]
 grind
theorem kQ{ks vs:Sh}{ok:Bool}{z:vs.T}{x:ks.T}:∀ {l:List (ks.T×vs.T)} {v:PV},(plk ks vs ok z x st l).To v st'->st=st'/\((D9 ks vs x l=none/\v=bif ok then .tup [BL vs z,.bl false]else BL vs z)\/∃w,D9 ks vs x l=some w/\v=bif ok then .tup [BL vs w,.bl true]else BL vs w)
 |[],v,d=>by
  unfold plk at d;simp only[B1]at d;exact⟨d.2,.inl ⟨rfl,d.1.symm⟩⟩
 |(a,b)::l,v,d=>by
  unfold plk at d;generalize g:Wa ks x a=c at d;cases d with
  |tt d=>
   grind [B1,D9]
  |ff d=>
   obtain⟨e,f⟩:=kQ d;grind [D9]
theorem dH(b:SR B h0 F ρ st.nx st.ob h){t:TypeId}{p q:PV}{x y:V}(K:PR F ρ st.nx p x)(U:PR F ρ st.nx q y){ok:Bool}{v:PV}(a:(SQ C.T t p q ok st).To v st'):OK B h0 F ρ st h [] (Bz h<|Es C.T h t x y ok) v st':=by
 unfold SQ at a;split at a
 case h_2=>simp at a
 rename_i Y e L;split at a
 case h_2=>simp at a
 rename_i ks vs i f S E;split at a
 case h_2=>simp at a
 rename_i k l z W M O;cases c:(vAg i.zv==vs.MZ)with
 |false=>simp_all
 |true=>
  rw[c]at a;have j:=Ws f U W;obtain⟨es,I,J⟩:=Zi b K M;obtain⟨kd,g1,g2,g3,_⟩:=S8 f j;obtain⟨r,r1,r2⟩:=OP f j J 0;have o:DV F vs z i.zv:=by
   have D:DC F vs z i.zv.cells:=CI (D1 (F:=F) (ρ:=ρ) (N:=st.nx) i.zero) O;refine⟨fun e=>?_,fun e=>?_⟩
   ·rw[e]at c;cases d:i.zv<;>rw[d]at c<;>simp only[vAg]at c<;>try (cases c;done)
    rw[d]at D;exact⟨_,rfl,D⟩
   ·rw[e]at c;have:i.zv.cells=[i.zv]:=by cases d:i.zv<;>rw[d]at c<;>first|rfl|(simp[vAg]at c)
    grind
  unfold Es;simp only[L,g1,I,g2,we,g3,r1];cases G:vs.sU with
  |true=>
   rw[G]at a;have s:=kQ a;obtain⟨P,u⟩:=s;subst P;rcases u with⟨Z,d⟩|⟨w,R,d⟩
   ·cases r with
    |none=>
     simp only[E];cases ok with
     |true=>exact zd b rfl (by simp_all [PR,ED])
     |false=>exact zd b rfl (by grind [ED])
    |some A=>
     grind
   ·cases r with
    |none=>grind
    |some A=>
     obtain⟨⟨v',g,m⟩,_⟩:=r2;rw[R]at g;cases g;cases ok with
     |true=>exact zd b rfl (by simp_all [PR,ED])
     |false=>exact zd b rfl (by rw[d];exact ED m)
  |false=>
  rw[G]at a;obtain⟨rfl,rfl⟩:=a;cases r with
  |none=>
   obtain⟨g,_⟩:=r2;simp only[E,g,Option.getD_none,Option.isSome_none];cases ok with
   |true=>exact zd b rfl (by simp only[we,PR];simp_all [ED,DE])
   |false=>exact zd b rfl (ED o)
  |some A=>
   obtain⟨⟨v,g,m⟩,_⟩:=r2;simp only[g,zx,Option.isSome_some];cases ok with
   |true=>exact zd b rfl (by simp only[we,PR];simp_all [ED,DE])
   |false=>exact zd b rfl (ED m)
theorem dQ(u:SR B h0 F ρ st.nx st.ob h){t:TypeId}{p q r:PV}{x y z:V}(K:PR F ρ st.nx p x)(J:PR F ρ st.nx q y)(G:PR F ρ st.nx r z){v:PV}(g:(Rw C.T t p q r st).To v st'):
  ∃id,p=.mp id/\OK B h0 F ρ st h [id] (dR<|Hs C.T h t x y z) v st':=by
 unfold Rw at g;split at g
 case h_2=>simp at g
 rename_i P e id S;split at g
 case h_2=>simp at g
 rename_i ks d vs l i A;split at g
 case h_2=>simp at g
 rename_i k U w M E L;obtain⟨s,O⟩:=Cp E;simp only[Sh.list.injEq,Sh.pair.injEq,ve]at s;subst s;simp only[B1]at g;have j:=Ws i J M;have I:=pE G L;obtain⟨b,n,o,h1,h2,⟨es,clk,rfl,h4⟩,_⟩:=u.at A;have m:=K;simp only[PR]at m;obtain⟨kd,g1,g2,g3,_⟩:=S8 i j;obtain⟨r',r1,r2⟩:=OP i j h4 0;have fin:∀f a,MR F d vs (JH d vs k w l) f->OK B h0 F ρ st h [id] (dR<|some<|h.put b<|.map f a) (.tup []) (st.setObj id<|.map d vs<|JH d vs k w l):=by
  intro f a D;refine⟨.tup [],_,F,ρ,.inr ⟨rfl,rfl⟩,by simp[PR],u.set A h1 h2 rfl rfl ⟨f,a,rfl,D⟩,zr,rfl,rfl,zg _,fun c _=>?_⟩;by_cases R:c=b
  ·grind
  simp_all
 unfold Hs;grind
theorem bO(m:SR B h0 F ρ st.nx st.ob h){ts:Array TypeId}{ps:List PV}{i:List V}(A:BC F ρ st.nx ps i){v:PV}(a:(S9 C.T ts ps st).To v st'):
  ∃id z,ps=.mp id::z/\OK B h0 F ρ st h [id] (E0<|KJ C.T h ts i) v st':=by
 unfold S9 at a;split at a
 case h_2=>simp at a
 rename_i t id q u;split at a
 case h_2=>simp at a
 split at a
 case h_2=>simp at a
 rename_i ks d vs l f j;split at a
 case h_2=>simp at a
 rename_i k E w r;obtain⟨p,D⟩:=Cp r;simp only[Sh.list.injEq,Sh.pair.injEq,ve]at p;subst p;simp only[B1]at a;obtain⟨x,xs',rfl,hx1,y,xs'',rfl,hy,rfl⟩:=A;have g:=Ws f hy w;obtain⟨b,n,o,h1,h2,⟨es,clk,rfl,h4⟩,_⟩:=m.at j;obtain rfl:=hx1.2 b n h1;obtain⟨kd,g1,g2,g3,_⟩:=S8 f g;obtain⟨r',r1,r2⟩:=OP f g h4 0;have fin:∀e,MR F d vs (SB d vs k l) e->OK B h0 F ρ st h [id] (E0<|some (.tup [],h.put b<|.map e clk)) (.tup []) (st.setObj id<|.map d vs<|SB d vs k l):=by
  intro e s;refine⟨.tup [],_,F,ρ,.inl rfl,by simp[PR],m.set j h1 h2 rfl rfl ⟨e,clk,rfl,s⟩,zr,rfl,rfl,zg _,fun c _=>?_⟩;by_cases G:c=b
  ·grind
  simp_all
 unfold KJ;grind
theorem SR.same(k:SR B h0 F ρ st.nx st.ob h){id b n:Nat}{o o':Obj}{x:O}(f:st.obj id=some o)(e:ρ id=some (b,n))(g:h.get b=some x)(i:o.frozen=false)(d:o'.frozen=false)
  (j:VE F ρ st.nx n o' x):SR B h0 F ρ st.nx (DS st.ob id o') h:=by
 have a:∀c,h.get c=(h.put b x).get c:=by
  simp_all
 exact SR.congr (st:=⟨st.n,st.fr,DS st.ob id o',st.nx⟩) (k.set f e g i d j) a rfl
theorem mY(m:SR B h0 F ρ st.nx st.ob h){ts:Array TypeId}{ps:List PV}{G:List V}(q:BC F ρ st.nx ps G){v:PV}(d:(Vz C.T ts ps st).To v st'):OK B h0 F ρ st h (Fg ps) (E0<|FT C.T h ts G) v st':=by
 unfold Vz at d;split at d
 case h_2=>simp at d
 rename_i t p u;obtain⟨x,_,rfl,q,rfl⟩:=q;split at d
 case h_2=>simp at d
 rename_i e L;split at d
 case h_3=>simp at d
 case h_1=>
  obtain⟨rfl,rfl⟩:=d;simp only[PR]at q;exact⟨.tup [],h,F,ρ,(by simp_all [FT,E0]),by simp[PR],m,zr,rfl,rfl,zg _,(by simp)⟩
 rename_i id sz off len cap;split at d
 case h_2=>simp at d
 rename_i i k s l R r;cases D:(zf sz s.sz&&zp 0 i.zero.length&&zf i.zero.length s.sz&&Det.Lt V.one i.zero)with
 |false=>simp_all
 |true=>
  rw[D]at d;simp only[zc,Fp]at D;obtain⟨⟨⟨w,I⟩,Z⟩,c4⟩:=D;have w:=ze w;subst w;simp only[we]at d;split at d
  case h_2=>simp at d
  rename_i z M;simp only[B2,w5]at d;obtain⟨P,rfl,rfl⟩:=d;obtain⟨b,n,y,h1,h2,⟨bs,fz,rfl,h3,h4,h5⟩,h6,_⟩:=m.at r;have A:DC F s z i.zero:=CI (D1 (F:=F) (ρ:=ρ) (N:=st.nx) i.zero) M;have f:=C9.replicate A len;have g:=C9.gZ h3 f (a:=off) ah;rw[List.length_replicate]at g;have j:(l.take off++(zk len z++l.drop (off+len))).length=l.length:=ah
  have skip:FT C.T h ts [x]=some (.tup [],h)->len=0->OK B h0 F ρ st h (Fg [.sl id s.sz off len cap]) (E0<|FT C.T h ts [x]) (.tup []) (st.setObj id<|.arr false k s<|l.take off++(zk len z++l.drop (off+len))):=by
   intro J h0;subst h0;have el:l.take off++(zk 0 z++l.drop (off+0))=l:=by simp
   refine⟨.tup [],h,F,ρ,.inl (by rw[J];rfl),by simp[PR],m.same r h1 h2 rfl rfl (o':=.arr false k s _) ⟨bs,fz,rfl,?_,h4,?_⟩,zr,rfl,rfl,zg _,(by simp)⟩
   ·grind
   omega
  rcases q.2 b n h1 with⟨_,K,o,W,rfl⟩|⟨Y,U,K,rfl|⟨E,rfl,_⟩⟩
  ·by_cases h0:len=0
   ·simp_all [FT]
   ·have O:wr h b (off*s.sz) (E7 i.zero<|len*i.zero.length)=some (h.put b<|.cells (Ch (off*s.sz) ((zk len i.zero).flatten) bs) k fz):=by
     rw[Ho];refine Mz h2 ?_ h4 ?_
     ·rw[f.1,List.length_replicate, <-zt,h3.1];exact zh _ P
     grind
    have S:zf len 0=false:=by rw[Bo];simp[h0]
    refine⟨.tup [],h.put b<|.cells (Ch (off*s.sz) ((zk len i.zero).flatten) bs) k fz,F,ρ,.inl ?_,by simp[PR],m.set r h1 h2 rfl rfl (o':=.arr false k s _) ⟨_,fz,rfl,g,h4,j.trans h5⟩,zr,rfl,rfl,zg _,fun c _=>?_⟩
    ·simp only[FT,u,L,S,wg,R,I,we,O,yd,E0]
    ·rw[H.BT];by_cases e:c=b
     ·grind [Fg]
     grind
  ·simp_all [FT]
  simp_all [FT]
theorem nQ(e:SR B h0 F ρ st.nx st.ob h){t:TypeId}{p:PV}{x:V}(d:PR F ρ st.nx p x){v:PV}(a:(V3 C.T t p st).To v st'):OK B h0 F ρ st h [] (E0<|HD C.T h t x) v st':=by
 unfold V3 at a;split at a
 case h_2=>simp at a
 rename_i s b;obtain⟨rfl,rfl⟩:=a;obtain rfl:=E1 d;have c:HD C.T h t (.str s)=some (.ptr h.nx 0,h.push<|.siter s 0):=by simp[HD,Sb,b]
 rw[c];exact OK.new e (o:=.siter s 0) (n:=0) rfl rfl KQ
theorem yJ(d:SR B h0 F ρ st.nx st.ob h){p:PV}{x:V}(l:PR F ρ st.nx p x){i:Bool}{v:PV}(a:(fA p i st).To v st'):i=true/\∃id off,p=.ptr id off/\OK B h0 F ρ st h [id] (E0<|MT h x i) v st':=by
 unfold fA at a;split at a
 case h_2=>simp at a
 rename_i id;split at a
 case h_2=>simp at a
 rename_i s pos g;obtain⟨b,n,y,f,j,m,o,_⟩:=d.at g;subst m;obtain rfl:=l.2 b n f;refine⟨rfl,id,0,rfl,?_⟩;by_cases e:pos<s.length
 ·rw[w4 e]at a;cases a with
  |tt a=>
   obtain⟨rfl,rfl⟩:=a;have k:MT h (.ptr b 0) true=some (.tup [.bool true,i64 pos,.int .i32<|rune s pos],h.put b<|.siter s<|pos+tG s pos):=by
    simp only[MT,j,Gf,w4 e,we];rfl
   refine⟨_,_,F,ρ,.inl (by rw[k];rfl),?_,d.set g f j rfl rfl (o':=.siter s _) rfl,zr,rfl,rfl,zg _,fun c _=>?_⟩
   ·simp[PR,DC,i64]
   ·rw[H.BT];grind
 ·rw[w8 e]at a;cases a with
  |ff a=>
   obtain⟨rfl,rfl⟩:=a;refine⟨.tup [.bool false],h,F,ρ,.inl ?_,by simp[PR],d,zr,rfl,rfl,zg _,(by simp)⟩;simp_all [MT,Gf,w8,E0]
end
section
variable {B:Nat}{h0:H0}{F:Fz}{ρ:DU}{N:Nat}{C:Ctx}{st st':AI}{h:H}
def vX:List PV->List Nat
 | .eptr id _ _ _::_=>[id]
 |_=>[]
theorem pV(f:SR B h0 F ρ st.nx st.ob h){ps:List PV}{d:List V}(c:BC F ρ st.nx ps d){v:PV}(a:(VN ps st).To v st'):OK B h0 F ρ st h [] (Bz h<|Oh d) v st':=by
 unfold VN at a;split at a
 case h_2=>simp at a
 rename_i id sz off len;cases e:Ia (st.obj id)with
 |false=>simp_all
 |true=>
  rw[e]at a;simp only[we,B2,w5]at a;obtain⟨g,rfl,rfl⟩:=a;obtain⟨o,ho⟩:=Vs e;obtain⟨b,n,z,g1,_⟩:=f.at ho;obtain⟨x,_,rfl,c,rfl⟩:=c;simp only[PR]at c;obtain⟨_,_,o',_,rfl⟩:len<=len/\off+len<=n/\∃o,(o=0\/o=sz)/\x=.sl b (off*sz) len len o:=by
   grind
  refine zd f (v':=.ptr b<|off*sz) ?_ ?_
  ·have:zp 0 len=true:=by simp_all
   simp only[Oh,this,we];rfl
  grind [PR]
theorem lN{k:IntKind}:∀ {l:List Int} {cs:List V},C9 F (.int k) l cs->cs=l.map (V.int k):=by
 intro l cs a;have d:cs.length=l.length:=by rw[a.1];simp[Sh.sz]
 apply List.ext_getElem
 ·grind
 ·intro i b f;have c:i<l.length:=ae
  have:=a.2 i c;have e:(cs.drop<|i*Sh.sz (.int k)).take (Sh.sz<|.int k)=[cs[i]]:=by
   rw[show Sh.sz (.int k)=1 from rfl,Nat.mul_one,zo b];rfl
  grind [DC]
theorem Pw:∀ {l:List Int},QV l=true->HF (l.map<|V.int .u8)=some (SV l)
 |[],_=>rfl
 |x::l,h=>by
  unfold QV at h;rw[List.all_cons,zc,zc,w5,w5]at h;have a:=Pw (l:=l) h.2;grind [Nat.blt_eq,Rz,HF,SV]
theorem W3{l:List Int}(h:QV l=true)(n:Nat):QV (l.take n)=true:=by
 grind [QV]
theorem wS(f:SR B h0 F ρ st.nx st.ob h){ts:Array TypeId}{ps:List PV}{E:List V}(r:BC F ρ st.nx ps E){v:PV}(a:(fQ C.T ts.toList ps st).To v st'):OK B h0 F ρ st h (vX ps) (E0<|Tg C.T h ts.toList E) v st':=by
 unfold fQ at a;split at a
 case h_2=>simp at a
 rename_i U it id sz i n w;split at a
 case h_2=>simp at a
 rename_i e t s l hu G;split at a
 case h_2=>simp at a
 rename_i O u hi q;cases Z:(zf O.size 1&&zf e t)with
 |false=>simp_all
 |true=>
  rw[Z]at a;simp only[we,B2,zc,w5]at a;obtain⟨⟨⟨⟨⟨W,K⟩,k3⟩,k4⟩,R⟩,rfl,rfl⟩:=a;subst W;obtain⟨es,he⟩:=Cp q;have S:s=.int .u8:=ah
  subst S;have:u=l:=ah
  subst this;obtain⟨m,rfl⟩:=Int.eq_ofNat_of_zero_le<|Int.le_of_lt K;obtain⟨b,n',z,h1,h2,⟨cs,fz,rfl,h3,h4,h5⟩,h6,_⟩:=f.at G;have D:=h6 rfl;obtain⟨x,_,rfl,r,y,_,rfl,hy,rfl⟩:=r;obtain rfl:=Cw hy;obtain rfl:=r.2 b n' h1;have M:=(f.own id b n' h1).2;have A:b∉h0.pin:=fun Y=>(f.pn b Y).2.2 id n' h1
  have d:∀j oj m,AM (F6 st.ob id) j=some oj->Bs ρ id none j≠some (b,m):=by
   intro j oj m p g;rw[Dh]at p;split at p
   ·cases p
   ·rename_i o;simp only[Bs,o,vf]at g;exact o<|f.inj j id oj _ b m n' p G g h1
  have k:=f.del id;have I:=lN h3;have P:cs.take m=(u.take m).map (V.int .u8):=by simp_all
  have hb:=Pw<|W3 R m;have L:Tg C.T h ts.toList [.ptr b<|0*sz+0,.int .i64 (m:Int)]=some (.str<|SV<|u.take m,h.kill b):=by
   rw[zw];rw[w];show(match C.T.und U,h.get b with
    |some (.pointer e),some (.cells cs t fz)=>(match C.T.inf e,HF (cs.take m)with
     |some i,some l=>bif zf i.size 1&&zf e t&&zp 0 m&&zl m cs.length&&zl m 9223372036854775807&&zl fz.2 fz.1 then some (V.str l,h.kill b)else none
     |_,_=>none)
    |_,_=>none)=_
   have c1:zp 0 m=true:=by simp_all
   have c2:zl m cs.length=true:=(by simp_all);have c3:zl m 9223372036854775807=true:=(by simp_all);have c4:zl fz.2 fz.1=true:=(by simp_all);grind
  rw[L];refine⟨_,_,F,Bs ρ id none,.inl rfl,LH _,k.kill d D M A,Le.Jj id,rfl,rfl,zg _,fun c _=>?_⟩;rw[H.Dv];by_cases J:c=b
  ·exact .inr ⟨id,zm.2 rfl,n',J▸h1⟩
  grind
end
section
variable {B:Nat}{h0:H0}{C:Ctx}{F F1 F':Fz}{ρ:DU}{N:Nat}{st st':AI}{fr:Fr}{h h':H}
def PC(F:Fz)(p:PV)(v:V):Prop:=∀ρ N,PR F ρ N p v
def J1(F:Fz)(ps:List PV)(vs:List V):Prop:=∀ρ N,BC F ρ N ps vs
theorem Le.Zs(a:∀b cs,F b=some cs->F1 b=some cs):Le F ρ N F1 ρ N:=⟨a,(by simp),zg _⟩
theorem PC.mono(c:∀b cs,F b=some cs->F1 b=some cs){p:PV}{v:V}(a:PC F p v):PC F1 p v:=fun ρ N=>(a ρ N).mono<|Le.Zs c
theorem J1.cons{p:PV}{ps:List PV}{v:V}{vs:List V}(a:PC F p v)(b:J1 F ps vs):J1 F (p::ps) (v::vs):=fun ρ N=>(BF ..).2 ⟨a ρ N,b ρ N⟩
theorem J1.dc{s:Sh}{ps:List PV}{vs:List V}{x:s.T}(a:J1 F ps vs)(b:Dg s ps=some x):DC F s x vs:=CI (a (fun _=>none) 0) b
theorem PC.BL:∀ {s:Sh} {x:s.T} {cs:List V},DC F s x cs->(s.MZ=true->PC F (BL s x) (.agg cs))/\(s.MZ=false->∀v,cs=[v]->PC F (BL s x) v)
 | .pair a b,x,cs,h=>⟨fun _ ρ N=>by simp_all [yh,PR,CB],fun e=>by cases e⟩
 | .unit,x,cs,h=>⟨fun _ ρ N=>by simp_all [DC,yh,PR],fun e=>by cases e⟩
 | .int _,x,cs,h=>(by grind [yh,PR,Sh.MZ,PC])
 | .bool,x,cs,h=>(by grind [yh,PR,Sh.MZ,PC])
 | .str,x,cs,h=>(by grind [yh,PR,Sh.MZ,PC])
 | .list _,x,cs,h=>(by grind [yh,PR,Sh.MZ,PC])
 | .nlist _,x,cs,h=>(by grind [yh,PR,Sh.MZ,PC])
 | .fnv,x,cs,h=>⟨fun e=>(by cases e),fun _ v c ρ N=>by
   subst c;simp only[DC,ye,ve]at h;subst h;unfold yh;cases (x:Option Fn)<;>simp[PR]⟩
 | .ptr s,x,cs,h=>(by grind [DC,yh,PR,Sh.MZ,PC])
theorem SR.AaR{ob c:Ob}(a:SR B h0 F ρ N ob h)(d:∀j,AM c j=AM ob j):SR B h0 F ρ N c h:=
 ⟨fun id o f=>a.obj id o<|d id▸f,fun id id' o o' b n n' e i=>a.inj id id' o o' b n n' (d id▸e) ah,a.frz,a.own,fun id g=>a.dead id ah,a.old,a.lt,a.le,a.fo,a.gl,a.pn⟩
theorem wE{s:Sh}{l:List s.T}{cs:List V}{b:Nat}(g:F b=some cs)(e:C9 F s l cs){off len:Nat}(f:off+len<=l.length){cap o:Nat}(c:len<=cap)(d:o=0\/o=s.sz):
  DC F (.list s) ((l.drop off).take len) [.sl b (off*s.sz) len cap o]:=by
 have a:((l.drop off).take len).length=len:=ah
 refine⟨_,rfl,.inr ⟨b,off*s.sz,cap,o,cs,by rw[a],by omega,g,?_,d,fun i j=>?_⟩⟩
 ·rw[a,e.1, <-zt];simp_all [zh]
 grind [C9]
theorem KP(st:AI)(p:PV):(Bx st p).nx=st.nx/\(Bx st p).fr=st.fr/\(Bx st p).n=st.n:=by
 unfold Bx;split
 ·split<;>exact⟨rfl,rfl,rfl⟩
 simp
theorem Db:∀(ps:List PV) (st:AI),(Bl ps st).nx=st.nx/\(Bl ps st).fr=st.fr/\(Bl ps st).n=st.n
 |[],_=>⟨rfl,rfl,rfl⟩
 |p::ps,st=>by
  obtain⟨a,b,c⟩:=Db ps<|Bx st p;grind [KP,Bl]
theorem IJ:∀(ps a:List PV) (st:AI),Bl (ps++a) st=Bl a (Bl ps st)
 |[],_,_=>rfl
 |p::ps,a,st=>IJ ps a<|Bx st p
def DT:Option Obj->Option Obj->Prop
 |some (.arr _ e s l),o=>∃fz,o=some (.arr fz e s l)
 |a,b=>b=a
theorem DT.refl(o:Option Obj):DT o o:=by
 cases o with
 |none=>rfl
 |some o=>cases o<;>first|rfl|exact⟨_,rfl⟩
theorem MP(st:AI)(p:PV)(j:Nat):DT (st.obj j) ((Bx st p).obj j):=by
 unfold Bx;split
 case h_2=>exact DT.refl _
 split
 case h_2=>exact DT.refl _
 rename_i id _ _ _ _ _ fz e s l b;show DT (AM st.ob j)<|AM (DS st.ob id<|.arr true e s l) j;rw[Hg _ _ _ _<|by show(st.obj id).isSome=true;grind];split
 ·rename_i a;subst a;show DT (st.obj j) _;rw[b];exact⟨_,rfl⟩
 ·exact DT.refl _
theorem eL{st st':AI}(h:∀id,DT (st.obj id)<|st'.obj id)(p:PV):Cb st' p=Cb st p:=by
 cases p<;>try rfl
 case fn f a c=>cases a<;>cases c<;>rfl
 unfold Cb;rename_i id sz off len cap;have:=h id;cases b:st.obj id with
 |none=>rw[b]at this;simp only[b,show st'.obj id=none from this]
 |some o=>
  rw[b]at this;cases o with
  |arr fz e s l=>
   obtain⟨fz',d⟩:=this;grind
  |box _=>simp only[b,show st'.obj id=_ from this]
  |tbox _ _=>simp only[b,show st'.obj id=_ from this]
  |map _ _ _=>simp only[b,show st'.obj id=_ from this]
  |siter _ _=>simp only[b,show st'.obj id=_ from this]
  |lp _ _ _ _ _ _ _ _=>simp only[b,show st'.obj id=_ from this]
theorem Me{st st':AI}(h:∀id,DT (st.obj id)<|st'.obj id):∀ps:List PV,Dr st' ps=Dr st ps
 |[]=>rfl
 |p::ps=>by unfold Dr;rw[eL h p,Me h ps]
theorem DT.trans{a b c:Option Obj}(d:DT a b)(f:DT b c):DT a c:=by
 cases a with
 |none=>have:b=none:=d;grind
 |some o=>
  cases o with
  |arr fz e s l=>obtain⟨fz',rfl⟩:=d;exact f
  |box _=>have:b=_:=d;grind
  |tbox _ _=>have:b=_:=d;grind
  |map _ _ _=>have:b=_:=d;grind
  |siter _ _=>have:b=_:=d;grind
  |lp _ _ _ _ _ _ _ _=>have:b=_:=d;grind
theorem MI:∀(ps:List PV) (st:AI) (id:Nat),DT (st.obj id)<|(Bl ps st).obj id
 |[],_,_=>DT.refl _
 |p::ps,st,id=>(MP st p id).trans<|MI ps (Bx st p) id
theorem TR{st st':AI}(h:∀id,DT (st.obj id)<|st'.obj id)(s:Sh)(p:PV):GZ st' s p=GZ st s p:=by
 grind [GZ,Me]
theorem LN{st st':AI}(h:∀id,DT (st.obj id)<|st'.obj id):∀(l:List Sh) (ps:List PV),C8 st' l ps=C8 st l ps
 |[],[]=>rfl
 |[],_::_=>rfl
 |[a],[p]=>TR h a p
 |[a],[]=>rfl
 |[a],_::_::_=>rfl
 |a::b::l,[]=>rfl
 |a::b::l,p::ps=>by unfold C8;rw[TR h a p,LN h (b::l) ps]
theorem MF(r:SR B h0 F ρ st.nx st.ob h){p:PV}{v:V}(hp:PR F ρ st.nx p v):
  ∃F1,SR B h0 F1 ρ (Bx st p).nx (Bx st p).ob h/\(∀b cs,F b=some cs->F1 b=some cs)/\∀x,Cb st p=some (true,x)->PC F1 x v:=by
 have same:∀ {q:PV},(∀x,Cb st q=some (true,x)->PC F x v)->Bx st q=st->∃F1,SR B h0 F1 ρ (Bx st q).nx (Bx st q).ob h/\(∀b cs,F b=some cs->F1 b=some cs)/\∀x,Cb st q=some (true,x)->PC F1 x v:=
  fun E Z=>⟨F,by grind,fun _ _ h=>h,E⟩
 cases p with
 |sl id sz off len cap=>
  cases J:st.obj id with
  |none=>grind [Cb,Bx]
  |some o=>
   cases o with
   |box _=>grind [Cb,Bx]
   |tbox _ _=>grind [Cb,Bx]
   |map _ _ _=>grind [Cb,Bx]
   |siter _ _=>grind [Cb,Bx]
   |lp _ _ _ _ _ _ _ _=>grind [Cb,Bx]
   |arr fz e s l=>
    obtain⟨b,n,x,E,Z,⟨cs,fz',rfl,O,h5,h6⟩,h7,h8⟩:=r.at J;have T:Bx st (.sl id sz off len cap)=st.setObj id (.arr true e s l):=by simp[Bx,J]
    have A:∀j,AM (DS st.ob id<|.arr true e s l) j=if j=id then some (.arr true e s l)else AM st.ob j:=(by grind [Hg,AI.obj])
    have fin:∀ {G:Fz},G b=some cs->(∀b cs,F b=some cs->G b=some cs)->∀x,Cb st (.sl id sz off len cap)=some (true,x)->PC G x v:=by
     intro G hG Y x t ρ' N';simp only[Cb,J]at t;cases w:zf sz s.sz with
     |false=>grind
     |true=>
      rw[w]at t;simp only[we,zj,zq,w5]at t;obtain⟨D,rfl⟩:=t;have w:=ze w;subst w;unfold PR;rcases hp.2 b n E with⟨L,P,o,k3,rfl⟩|⟨rfl,rfl,k3,rfl|⟨I,rfl,k4⟩⟩
      ·exact wE hG (O.mono Y) D L k3
      ·simp[DC]
      ·simp only[List.take_zero,DC];refine⟨_,rfl,.inr ⟨b,I,0,0,cs,rfl,zg _,hG,?_,.inl rfl,(by simp)⟩⟩;simp only[zy,zw,Nat.add_zero];rw[O.1];exact Nat.le_trans k4 (by simp_all [zh])
    cases U:fz with
    |true=>
     subst U;obtain⟨cs',t',fz2,L,P⟩:=h8 rfl;refine⟨F,?_,fun _ _ h=>h,ah⟩;grind [SR.AaR,AI.setObj,AI.obj]
    |false=>
     have g:∀c cs',F c=some cs'->(fun c=>if c=b then some cs else F c) c=some cs':=by
      grind
     refine⟨fun c=>if c=b then some cs else F c,?_,g,ah⟩;rw[T];have D:Le F ρ st.nx (fun c=>if c=b then some cs else F c) ρ st.nx:=Le.Zs g;have z:∀k ok,AM (DS st.ob id<|.arr true e s l) k=some ok->∃o2,AM st.ob k=some o2:=by
      intro k ok hk;by_cases ek:k=id
      ·exact⟨_,ek▸J⟩
      grind
     refine⟨fun j oj d=>?_,fun i j oi oj c m m' hi d M R=>?_,fun c cs' K=>?_,r.own,fun j d=>?_,r.old,r.lt,r.le,fun c cs' K=>?_,r.gl,r.pn⟩
     ·have d:AM (DS st.ob id<|.arr true e s l) j=some oj:=d;rw[A]at d;by_cases S:j=id
      ·subst S;simp only[wm,zj]at d;subst d;refine⟨b,n,_,E,Z,⟨cs,fz',rfl,O.mono g,h5,h6⟩,fun e=>(by cases e),(by simp)⟩
      ·rw[wc S]at d;obtain⟨c,m,y,M,R,g3,g4,g5⟩:=r.obj j oj d;have hne:c≠b:=fun W=>S<|r.inj j id oj _ c m n d J M<|W▸E
       exact⟨c,m,y,M,R,g3.mono D,ah,ah⟩
     ·obtain⟨_,L⟩:=z i oi hi;obtain⟨_,P⟩:=z j oj d;exact r.inj i j _ _ c m m' L P M R
     ·split at K
      ·grind
      ·exact r.frz c cs' K
     ·have d:AM (DS st.ob id<|.arr true e s l) j=none:=d;rw[A]at d;split at d
      ·cases d
      ·exact r.dead j d
     ·split at K
      ·rename_i W;subst W;exact .inr (r.own id c n E).2
      ·exact r.fo c cs' K
 |dat s x=>exact same (fun y u ρ' N'=>by simp only[Cb,zj,zq,true_and]at u;grind [PR]) rfl
 |bl b=>exact same (fun y u ρ' N'=>by simp only[Cb,zj,zq,true_and]at u;grind [PR]) rfl
 |nil=>exact same (fun y u ρ' N'=>by simp only[Cb,zj,zq,true_and]at u;grind [PR]) rfl
 |Ef s x off=>exact same (fun y u ρ' N'=>by simp only[Cb,zj,zq,true_and]at u;grind [PR]) rfl
 |any|ub|yl _|nilp|nilm|nilf|nili|agg _|tup _|ptr _ _|eptr _ _ _ _|mp _=>exact same (fun x t=>by simp[Cb]at t) rfl
 |fn f a c=>cases a with
  |cons _ _=>exact same (fun x t=>by simp[Cb]at t) rfl
  |nil=>cases c with
   |cons _ _=>exact same (fun x t=>by simp[Cb]at t) rfl
   |nil=>exact same (fun y u ρ' N'=>by simp only[Cb,zj,zq,true_and]at u;grind [PR,BC]) rfl
theorem Ig:∀ {ps:List PV} {vs:List V} {st:AI} {F:Fz},SR B h0 F ρ st.nx st.ob h->BC F ρ st.nx ps vs->
  ∃F1,SR B h0 F1 ρ (Bl ps st).nx (Bl ps st).ob h/\(∀b cs,F b=some cs->F1 b=some cs)/\∀e,Dr st ps=some (true,e)->J1 F1 e vs
 |[],vs,st,F,g,i=>⟨F,g,fun _ _ h=>h,(by grind [Dr,J1,BC])⟩
 |p::ps,vs,st,F,g,i=>by
  obtain⟨v,vs,rfl,j,k⟩:=i;obtain⟨F1,g1,g2,g3⟩:=MF g j;have f:BC F1 ρ (Bx st p).nx ps vs:=by rw[(KP st p).1];exact k.mono<|Le.Zs g2
  obtain⟨m,l,q,t⟩:=Ig g1 f;refine⟨m,l,ah,fun e a=>?_⟩;unfold Dr at a;split at a
  case h_2=>cases a
  rename_i c x d r o s;simp only[zj,zq,zc]at a;obtain⟨⟨rfl,rfl⟩,rfl⟩:=a;exact J1.cons ((g3 x o).mono q) (by grind [Me,MP])
theorem iS(m:SR B h0 F ρ st.nx st.ob h){t:TypeId}{n:Nat}{l:List (Nat×PV)}{l':List (Nat×V)}(G:yD F ρ st.nx l l'){v:PV}(a:(Ss C.T t n l st).To v st'):OK B h0 F ρ st h [] (E0<|Ey C.T h t n l') v st':=by
 unfold Ss at a;split at a
 case h_2=>simp at a
 rename_i e E;split at a
 case h_2=>simp at a
 rename_i i s I Z;cases q:(zl (Nat.mul n i.size) 16777216&&zp 0 i.zero.length&&zf i.zero.length i.size&&zf i.size s.sz)with
 |false=>rw[q]at a;simp at a
 |true=>
  rw[q]at a;simp only[zc]at q;obtain⟨⟨⟨J,D⟩,p⟩,K⟩:=q;simp only[we]at a;split at a
  case h_2=>simp at a
  rename_i cs j;split at a
  case h_2=>
   split at a
   case h_2=>simp at a
   rename_i c cs' W;split at a
   case h_2=>simp at a
   rename_i el d;simp only[B2]at a;obtain⟨rfl,rfl,rfl⟩:=a;have Y:=ze p;have w:=ze K;have y:BC F ρ st.nx (NN (i.zero.map W6) n) (E7 i.zero<|n*i.size):=by
    grind [Ho,J0]
   obtain⟨g,k,u⟩:=Jx m G y j;have b:g.length=n*s.sz:=by
    rw[<-w];rw[Mf k];simp[E7]
   obtain⟨F1,M,U,P⟩:=Ig m u;obtain⟨z,S⟩:=Ja (P cs' W ρ st.nx) d b;have r:Ey C.T h t n l'=some (.sl h.nx 0 n n 0,h.push<|.cells g e (0,0)):=by
    have f:zl (n*i.size) 16777216=true:=J;simp only[Ey,E,I,f,D,p,yf,we,k,IV]
   rw[r];obtain⟨L,R,O⟩:=Db cs st;have A:=OK.new (F:=F1) (ρ:=ρ) (st:=Bl cs st) M (o:=.arr false e s el) (x:=.cells g e (0,0)) (n:=n) (v:=.sl (Bl cs st).nx s.sz 0 n none) (v':=.sl h.nx 0 n n 0) rfl ⟨_,_,rfl,ae,zg _,z⟩ (PL<|.inl rfl);obtain⟨v',h',F',ρ',q1,q2,q3,q4,q5,q6,q7,q8⟩:=A;rw[L]at q2;exact⟨v',h',F',ρ',q1,q2,q3,(by rw[L]at q4;exact(Le.Zs U).trans q4),q5.trans R,q6.trans O,q7,q8⟩
  rename_i el d;obtain⟨rfl,rfl⟩:=a;have Y:=ze p;have w:=ze K;have y:BC F ρ st.nx (NN (i.zero.map W6) n) (E7 i.zero<|n*i.size):=by
   grind [Ho,J0]
  obtain⟨g,k,u⟩:=Jx m G y j;have b:g.length=n*s.sz:=by
   rw[<-w];rw[Mf k];simp[E7]
  obtain⟨z,S⟩:=Ja u d b;have r:Ey C.T h t n l'=some (.sl h.nx 0 n n 0,h.push<|.cells g e (0,0)):=by
   have f:zl (n*i.size) 16777216=true:=J;simp only[Ey,E,I,f,D,p,yf,we,k,IV]
  rw[r];exact OK.new m (o:=.arr false e s el) (n:=n) rfl ⟨_,_,rfl,ae,zg _,z⟩ (PL<|.inl rfl)
end
section
variable {B:Nat}{h0:H0}{F:Fz}{ρ:DU}{N:Nat}{C:Ctx}{st st':AI}{fr:Fr}{h h':H}
theorem DO{x:Operand}{k:PV->PO}{v:PV}:(v1 st x k).To v st'↔∃p,Qa st x=some p/\(k p).To v st':=by
 unfold v1;cases Qa st x with
 |none=>simp
 |some p=>simp
theorem bX(d:FP F ρ N st fr){x:Option Operand}{k:Option PV->PO}{v:PV}(a:(o1 st x k).To v st'):∃p y,Vm C fr x=some y/\Vk F ρ N p y/\(k p).To v st':=by
 cases x with
 |none=>exact⟨none,none,rfl,rfl,a⟩
 |some x=>
  obtain⟨p,b,c⟩:=DO.1 a;obtain⟨y,g1,g2⟩:=BY (C:=C) d b;exact⟨some p,some y,by simp[Vm,g1],⟨y,rfl,g2⟩,c⟩
theorem ZP(c:SR B h0 F ρ st.nx st.ob h){b:Builtin}{ts:Array TypeId}{ps:List PV}{e:List V}(d:BC F ρ st.nx ps e){v:PV}(a:(I3 C.T b ts ps st).To v st'):
  OK B h0 F ρ st h (match b with| .append| .clear=>Fg ps| .unsafeString=>vX ps|_=>[]) (EU C h b ts e) v st':=by
 unfold I3 at a;split at a
 case h_8=>simp at a
 case h_7=>exact wS c d a
 case h_6=>exact pV c d a
 case h_5=>exact mY c d a
 case h_1=>exact Acm c d a
 case h_2=>exact bM c d a
 case h_3=>exact AaF (g:=dJ) c (by grind [dJ,imax]) d a
 case h_4=>exact AaF (g:=rQ) c (fun k x y=>by rfl) d a
theorem pC(E:Rel B h0 F ρ st fr h){o:Oper}{v:PV}(e:(pop o.op C.T st).To v st'):
  ∃L,OK B h0 F ρ st h L (GL C fr h o) v st'/\∀sp K,GY sp st o.op=some K->∀i∈L,i∈K:=by
 have nil:∀ {d:Option OR} {op:Op},OK B h0 F ρ st h [] d v st'->∃L,OK B h0 F ρ st h L d v st'/\∀sp K,GY sp st op=some K->∀i∈L,i∈K:=ah;have g:∀ {x p},Qa st x=some p->∃y,ev C fr x=some y/\PR F ρ st.nx p y:=fun hp=>BY E.fp hp
 unfold pop at e;rw[CR];unfold GG;cases W:o.op<;>rw[W]at e<;>simp only[JG,LR]at e<;>simp only
 case move x|assign x=>
  simp only[WB,Rf]at e;obtain⟨G,rfl⟩:=e;obtain⟨y,D,A⟩:=g G;refine nil ?_;rw[D];exact zd E.sr rfl A
 case pick c a b=>
  simp only[iO,DO]at e;obtain⟨p,G,q,J,r,V,e⟩:=e;obtain⟨x,D,A⟩:=g G;obtain⟨y,g3,g4⟩:=g J;obtain⟨z,g5,g6⟩:=g V;obtain⟨t,rfl,S⟩:=zU E.sr A g4 g6 e;grind
 case alloc t=>exact nil<|qT E.sr e
 case box t x=>
  simp only[vC,DO]at e;obtain⟨p,G,e⟩:=e;obtain⟨y,D,A⟩:=g G;split at e
  case h_2=>simp at e
  rename_i cs U;cases Y:Det.Lt (KN st) cs with
  |false=>simp_all
  |true=>
  rw[Y]at e;simp only[we,B1]at e;obtain⟨rfl,rfl⟩:=e;refine nil ?_;rw[D];exact Aaz E.sr A U (by rw[<-Fp];exact Y)
 case build t ps=>
  simp only[Yk]at e;split at e
  case h_2=>simp at e
  rename_i l M;obtain⟨l',D,A⟩:=Pp (C:=C) E.fp M;refine nil ?_;rw[D];exact pN E.sr A e
 case buildSlice t n ps=>
  simp only[Uq]at e;split at e
  case h_2=>simp at e
  rename_i l M;obtain⟨l',D,A⟩:=Pp (C:=C) E.fp M;refine nil ?_;rw[D];exact iS E.sr A e
 case load t x=>
  simp only[fR,DO]at e;obtain⟨p,G,e⟩:=e;obtain⟨y,D,A⟩:=g G;refine nil ?_;rw[D];exact jL E.sr A e
 case store t x y=>
  simp only[Yv,DO]at e;obtain⟨p,G,q,J,e⟩:=e;obtain⟨a,D,A⟩:=g G;obtain⟨b,g3,g4⟩:=g J;obtain⟨id,hid,S⟩:=sO E.sr A g4 e;refine⟨[id],by grind,fun sp K O=>?_⟩;simp only[GY,G]at O;grind
 case nilCheck x=>
  simp only[OG,DO]at e;obtain⟨p,G,e⟩:=e;obtain⟨y,D,A⟩:=g G;rw[D];split at e
  case h_4=>simp at e
  case h_1=>
   rename_i id off;cases M:Ia (st.obj id)with
   |false=>simp_all
   |true=>
    rw[M]at e;simp only[we,B1]at e;obtain⟨rfl,rfl⟩:=e;obtain⟨b,n,k1⟩:=E.sr.live M;have I:=A;simp only[PR]at I;obtain rfl:=I.2 b n k1;exact nil<|zd E.sr rfl A
  case h_2=>
   rename_i id sz j off;cases M:Ia (st.obj id)with
   |false=>simp_all
   |true=>
    rw[M]at e;simp only[we,B1]at e;obtain⟨rfl,rfl⟩:=e;obtain⟨b,n,k1⟩:=E.sr.live M;have I:=A;simp only[PR]at I;obtain rfl:=I.2 b n k1;exact nil<|zd E.sr rfl A
  case h_3=>
   simp only[B1]at e;obtain⟨rfl,rfl⟩:=e;have I:=A;simp only[PR]at I;obtain⟨b,o',cs,rfl,_⟩:=I;exact nil<|zd E.sr rfl A
 case binOp op t x y t2=>
  simp only[uD,DO]at e;obtain⟨p,G,q,J,e⟩:=e;obtain⟨a,D,A⟩:=g G;obtain⟨b,g3,g4⟩:=g J;refine nil ?_;rw[D,g3];split at e
  case h_2=>exact Ack E.sr A g4 e
  rename_i r R;simp only[B1]at e;obtain⟨rfl,rfl⟩:=e;unfold tV at R;split at R
  case h_3=>cases R
  all_goals
   rename_i m hu;cases Z:(XJ x||XJ y)with
   |false=>grind
   |true=>
    rw[Z]at R;cases R;simp only[PR]at A g4;subst A g4;exact zd E.sr (by simp only[JS,pJ,hu,Z,we,Bz])<|jY _
 case unOp op t x=>
  simp only[AbX,DO]at e;obtain⟨p,G,e⟩:=e;obtain⟨y,D,A⟩:=g G;refine nil ?_;rw[D];exact AcQ E.sr A e
 case convert s d x=>
  simp only[lG,DO]at e;obtain⟨p,G,e⟩:=e;obtain⟨y,D,A⟩:=g G;refine nil ?_;rw[D];exact yE E.sr A e
 case makeFunc f a b=>
  simp only[cW]at e;split at e
  case h_2=>simp at e
  rename_i x y hx hy;simp only[B1]at e;obtain⟨rfl,rfl⟩:=e;obtain⟨u,D,A⟩:=EG (C:=C) E.fp hx;obtain⟨w,g3,g4⟩:=EG (C:=C) E.fp hy;refine nil ?_;rw[D,g3];exact zd E.sr rfl (by unfold PR;grind)
 case makeMap t r=>
  simp only[Yl]at e;split at e
  case h_2=>simp at e
  refine nil ?_;exact pU E.sr e
 case lookup t x i ok=>
  simp only[UP,DO]at e;obtain⟨p,G,q,J,e⟩:=e;obtain⟨a,D,A⟩:=g G;obtain⟨b,g3,g4⟩:=g J;refine nil ?_;rw[D,g3];exact dH E.sr A g4 e
 case mapUpdate t m k x|insert t m k x=>
  simp only[OX,DO]at e;obtain⟨p,G,q,J,r,V,e⟩:=e;obtain⟨a,D,A⟩:=g G;obtain⟨b,g3,g4⟩:=g J;obtain⟨c,g5,g6⟩:=g V;obtain⟨id,rfl,S⟩:=dQ E.sr A g4 g6 e;grind [GY]
 case makeSlice t l c=>
  simp only[bU,DO]at e;obtain⟨p,G,q,J,e⟩:=e;obtain⟨a,D,A⟩:=g G;obtain⟨b,g3,g4⟩:=g J;refine nil ?_;rw[D,g3];exact yK E.sr A g4 e
 case slice t x lo hi mx=>
  simp only[Yw,DO]at e;obtain⟨p,G,e⟩:=e;obtain⟨a,D,A⟩:=g G;obtain⟨l,l',k1,k2,e⟩:=bX (C:=C) E.fp e;obtain⟨m,m',k3,k4,e⟩:=bX (C:=C) E.fp e;obtain⟨n,n',k5,k6,e⟩:=bX (C:=C) E.fp e;refine nil ?_;rw[D,k1,k3,k5];exact qJ E.sr A k2 k4 k6 e
 case fieldAddr t x f=>
  simp only[Xn,DO]at e;obtain⟨p,G,e⟩:=e;obtain⟨y,D,A⟩:=g G;refine nil ?_;rw[D];exact nG E.sr A e
 case field t x f=>
  simp only[YA,DO]at e;obtain⟨p,G,e⟩:=e;obtain⟨y,D,A⟩:=g G;refine nil ?_;rw[D];exact nD E.sr A e
 case indexAddr t x i=>
  simp only[Yy,DO]at e;obtain⟨p,G,q,J,e⟩:=e;obtain⟨a,D,A⟩:=g G;obtain⟨b,g3,g4⟩:=g J;refine nil ?_;rw[D,g3];exact pL E.sr A g4 e
 case index t x i=>
  simp only[Yj,DO]at e;obtain⟨p,G,q,J,e⟩:=e;obtain⟨a,D,A⟩:=g G;obtain⟨b,g3,g4⟩:=g J;refine nil ?_;rw[D,g3];exact mW E.sr A g4 e
 case extract x i=>
  simp only[QQ,DO]at e;obtain⟨p,G,e⟩:=e;obtain⟨y,D,A⟩:=g G;refine nil ?_;rw[D];exact ZO E.sr A e
 case range t x=>
  simp only[XB,DO]at e;obtain⟨p,G,e⟩:=e;obtain⟨y,D,A⟩:=g G;refine nil ?_;rw[D];exact nQ E.sr A e
 case next x i=>
  simp only[kN,DO]at e;obtain⟨p,G,e⟩:=e;obtain⟨y,D,A⟩:=g G;obtain⟨rfl,id,off,rfl,S⟩:=yJ E.sr A e;grind [GY]
 case call c=>
  simp only[RE]at e;split at e
  case h_1=>simp at e
  rename_i args P;obtain⟨args',D,A⟩:=EG (C:=C) E.fp P;split at e
  case h_2=>simp at e
  case h_1=>
   rename_i b hb;split at e
   case h_1=>
    obtain⟨id,qs,rfl,S⟩:=bO E.sr A e;refine⟨[id],by rw[hb,D];exact S,fun sp K O=>?_⟩;grind [GY]
   case h_2=>
   have:=ZP E.sr A e;grind [GY,Fg,vX]
end
section
variable {B:Nat}{h0:H0}{F:Fz}{ρ:DU}{N:Nat}{X:AR}{st st':AI}{fr:Fr}{h h':H}{Q:PV->Ob->Prop}{n:Nat}
@[simp] theorem Cz(st:AI)(t:Nat)(p:PV)(s:Nat):(st.set t p).get s=if s=t then p else st.get s:=by
 unfold AI.get AI.set;grind [PM.Cz]
theorem Rel.set(a:Rel B h0 F ρ st fr h){t:Nat}{p:PV}{x:V}(b:PR F ρ st.nx p x):Rel B h0 F ρ (st.set t p) ⟨fr.n,fr.m.set t<|some x⟩ h:=by
 refine⟨⟨a.fp.n,fun s=>?_⟩,a.sr⟩;rw[Cz];unfold Fr.get;simp only[PM.Cz];split
 ·exact b
 ·exact a.fp.slot s
theorem Rel.note(a:Rel B h0 F ρ st fr h){t:Nat}{p:PV}(b:PR F ρ st.nx p (fr.get t)):Rel B h0 F ρ (st.set t p) fr h:=by
 refine⟨⟨a.fp.n,fun s=>?_⟩,a.sr⟩;rw[Cz];split
 ·rename_i e;subst e;exact b
 ·exact a.fp.slot s
theorem Rel.put(b:Rel B h0 F ρ st fr h){d:Option Nat}{p:PV}{x:V}(f:PR F ρ st.nx p x)(a:st.put d p=some st'):∃fr',fr.put d x=some fr'/\Rel B h0 F ρ st' fr' h/\st'.nx=st.nx/\st'.ob=st.ob:=by
 unfold AI.put at a;unfold Fr.put;cases d with
 |none=>grind
 |some t=>
  simp only at a ⊢;have e:st.n=fr.n:=b.fp.n;rw[e]at a;cases c:zp t fr.n with
  |false=>grind
  |true=>
   rw[c]at a;simp only[we,zj]at a;subst a;exact⟨_,rfl,b.set f,rfl,rfl⟩
structure C0(B:Nat)(h0:H0)(F:Fz)(ρ:DU)(N:Nat)(h:H)(st':AI)(fr':Fr)(h':H)(F':Fz)(ρ':DU):Prop where
 rel:Rel B h0 F' ρ' st' fr' h'
 le:Le F ρ N F' ρ' st'.nx
 nx:h.nx<=h'.nx
theorem C0.refl(a:Rel B h0 F ρ st fr h):C0 B h0 F ρ st.nx h st fr h F ρ:=⟨a,zr,zg _⟩
theorem C0.trans{F' g:Fz}{ρ' d:DU}{c:AI}{fr' e:Fr}{f:H}(a:C0 B h0 F ρ N h st' fr' h' F' ρ')(b:C0 B h0 F' ρ' st'.nx h' c e f g d):C0 B h0 F ρ N h c e f g d:=
 ⟨b.rel,a.le.trans b.le,Nat.le_trans a.nx b.nx⟩
def Abm(X:AR)(ρ:DU)(h:H)(args':List V):xJ->Cl->Prop
 | .fn g,c=>c=.fn g args'/\X.C.prim g=none/\∃i,X.C.fn g=some i
 | .rnd id,c=>∃b n ls,ρ id=some (b,n)/\h.get b=some (.loop ls)/\args'.length=ls.ps.size/\c=.rnd b ls (GX ls.ps.toList args' ls.fr)
inductive My (X:AR) (ρ:DU) (h:H) (args':List V):xJ->List (V×H)->Prop where
 |AZ {g:xJ} {c:Cl} {l:List (V×H)} {M:Nat}:Abm X ρ h args' g c->(∀m,M<=m->Det.AZ X.C m c h=some l)->My X ρ h args' g l
 |prim {g:FuncId} {q:List V->H->Option (V×H)} {x:V×H}:X.C.prim g=some q->q args' h=some x->My X ρ h args' (.fn g) [x]
def EZ(B:Nat)(h0:H0)(X:AR)(nd:Bool)(call:Fv):Prop:=
 ∀ {Q:PV->Ob->Prop} {n:Nat} {g:xJ} {args:List PV} {st:AI} {k:PV->AI->Tr},Ev X Q n (call g args st k)->∀ {F:Fz} {ρ:DU} {fr:Fr} {h:H} {args':List V},Rel B h0 F ρ st fr h->BC F ρ st.nx args args'->
  ∃l,My X ρ h args' g l/\(nd=false->∃x,l=[x])/\
   ∀x∈l,∃n',n'<=n/\∃r st',Ev X Q n' (k r st')/\∃F' ρ',PR F' ρ' st'.nx r x.1/\C0 B h0 F ρ st.nx h st' fr x.2 F' ρ'/\(∀a,g=.fn a->∀sp,X.sp a=some sp->∀b,b<h.nx->x.2.get b=h.get b)
theorem Ev.Ez{c:Bool}{a b:Tr}(d:Ev X Q n (.ite c a b)):(c=true/\Ev X Q n a)\/(c=false/\Ev X Q n b):=by
 cases d with
 |ite e f=>
  grind
theorem Ev.UR{a b:Tr}(c:Ev X Q n (.both a b)):Ev X Q n a/\Ev X Q n b:=by
 cases c with
 |both d e=>grind
theorem Ev.AA:¬Ev X Q n .fail:=fun h=>by cases h
theorem Ev.Yi{v:PV}{ob:Ob}(a:Ev X Q n (.leaf v ob)):Q v ob:=by
 cases a with
 |leaf h=>exact h
theorem MU(k:Rel B h0 F ρ st fr h){ops:Array Oper}{o:Oper}{yes no:AI->Tr}(a:Ev X Q n (guarded ops o st yes no)):
  ∃f,Rel B h0 F ρ f fr h/\f.nx=st.nx/\f.ob=st.ob/\((Ba fr ops o=true/\Ev X Q n (yes f))\/(Ba fr ops o=false/\Ev X Q n (no f))):=by
 unfold guarded at a;unfold Ba;cases v:o.guard with
 |none=>grind
 |some u=>
  obtain⟨j,g⟩:=u;rw[v]at a;simp only at a ⊢;cases q:(ops[j]?).bind (·.dst)with
  |none=>grind [Ev.AA]
  |some t=>
   rw[q]at a;simp only at a ⊢;rw[show st.n=fr.n from k.fp.n]at a;cases p:zp t fr.n with
   |false=>grind [Ev.AA]
   |true=>
    rw[p]at a;have i:=k.fp.slot t;split at a
    case h_1=>
     rename_i b d;rw[d]at i;rw[Pd i];grind
    case h_2=>
     rename_i b d;rw[d]at i;have m:=Lf i;have note:∀c:Bool,b=c->Rel B h0 F ρ (st.set t<|.bl c) fr h:=by
      rintro c rfl;exact k.note (by rw[m];rfl)
     cases g with
     |true=>
      rcases a.Ez with⟨e,a⟩|⟨e,a⟩
      ·exact⟨_,note true e,rfl,rfl,ah⟩
      ·exact⟨_,note false e,rfl,rfl,ah⟩
     |false=>
      rcases a.Ez with⟨e,a⟩|⟨e,a⟩
      ·exact⟨_,note true e,rfl,rfl,ah⟩
      ·exact⟨_,note false e,rfl,rfl,ah⟩
    case h_5=>grind [Ev.AA]
    case h_4=>
     rename_i d;rw[d]at i;obtain⟨b,m⟩:=i;have note:∀c:Bool,b=c->Rel B h0 F ρ (st.set t<|.bl c) fr h:=by
      rintro c rfl;exact k.note (by rw[m];rfl)
     obtain⟨r,s⟩:=a.UR;cases b with
     |true=>
      cases g with
      |true=>exact⟨_,note true rfl,rfl,rfl,ah⟩
      |false=>exact⟨_,note true rfl,rfl,rfl,ah⟩
     |false=>
      cases g with
      |true=>exact⟨_,note false rfl,rfl,rfl,ah⟩
      |false=>exact⟨_,note false rfl,rfl,rfl,ah⟩
    case h_3=>
     rename_i l d;rw[d]at i;simp only[PR]at i;grind
theorem Je{d:Option Nat}{k:AI->Tr}:∀ {l:PO},Ev X Q n (QU d k l)->∃u s g,l.To u s/\s.put d u=some g/\Ev X Q n (k g)
 | .bad,e=>wh e Ev.AA
 | .val u s,e=>by
  simp only[QU]at e;split at e
  ·rename_i s1 m;exact⟨u,s,s1,.val,m,e⟩
  grind [Ev.AA]
 | .ite c a b,e=>by
  rcases e.Ez with⟨rfl,f⟩|⟨rfl,f⟩
  ·obtain⟨u,s,s1,i,j⟩:=Je f;exact⟨u,s,s1,.tt i,j⟩
  ·obtain⟨u,s,s1,i,j⟩:=Je f;exact⟨u,s,s1,.ff i,j⟩
inductive qH (X:AR) (fr:Fr) (h:H) (o:Oper):List (V×H)->Prop where
 |val {x:V} {h':H}:GL X.C fr h o=some (.val x h')->qH X fr h o [(x,h')]
 |skip {h':H}:GL X.C fr h o=some (.skip h')->qH X fr h o [(.tup [],h')]
 |alts {l:List (V×H)}:GL X.C fr h o=some (.alts l)->qH X fr h o l
 |call {g:FuncId} {args:List V} {l:List (V×H)} {M:Nat}:GL X.C fr h o=some (.enter g args)->(∀m,M<=m->AZ X.C m (.fn g args) h=some l)->qH X fr h o l
 |round {b:Nat} {ls:LS} {f:Fr} {l:List (V×H)} {M:Nat}:GL X.C fr h o=some (.round b ls f)->(∀m,M<=m->AZ X.C m (.rnd b ls f) h=some l)->qH X fr h o l
theorem HS{nd:Bool}{call:Fv}(v:EZ B h0 X nd call)(D:Rel B h0 F ρ st fr h){o:Oper}{k:AI->Tr}(M:Ev X Q n (HN X.C.T call o st k)):
  ∃l,qH X fr h o l/\((nd=false->(∃x,l=[x])/\∀l',GL X.C fr h o≠some (.alts l'))/\((∀id a,Mp st o.op≠ .yes (.rnd id) a)->∀b ls f,GL X.C fr h o≠some (.round b ls f)))/\∀x∈l,∃n',n'<=n/\∃d,Ev X Q n' (k d)/\∃F' ρ' fr',fr.put o.dst x.1=some fr'/\C0 B h0 F ρ st.nx h d fr' x.2 F' ρ'/\
   ∀p,GY X.sp st o.op=some p->∀b,b<h.nx->x.2.get b=h.get b\/∃id∈p,∃m,ρ id=some (b,m):=by
 unfold HN at M;split at M
 case h_2=>grind [Ev.AA]
 case h_1=>
  rename_i g args z;unfold Mp at z;split at z
  case h_2=>cases z
  rename_i c W;split at z
  case h_2=>cases z
  rename_i f K;split at z
  case h_3=>cases z
  case h_2=>
   rename_i id ps S I;cases z;obtain⟨fv,f1,R⟩:=BY (C:=X.C) D.fp S;obtain⟨av,a1,a2⟩:=EG (C:=X.C) D.fp I;simp only[PR]at R;obtain⟨l,hcd,hnd,hall⟩:=v M D a2;obtain⟨hcd1,V⟩:=hcd;obtain⟨b,m,ls,c1,c2,c3,rfl⟩:=hcd1;have e:GL X.C fr h o=some (.round b ls<|GX ls.ps.toList av ls.fr):=by
    simp_all [CR,GG,H4]
   refine⟨l,.round e V,⟨ah,fun hno=>?_⟩,fun x J=>?_⟩
   ·grind [Mp]
   obtain⟨n',hn,r,st',y,F',ρ',hp,G,Y⟩:=hall x J;split at y
   case h_2=>grind [Ev.AA]
   rename_i d j;obtain⟨fr',A,L,O,Z⟩:=G.rel.put hp j;refine⟨n',hn,d,y,F',ρ',fr',A,⟨L,by rw[O];exact G.le,G.nx⟩,fun p w b hb=>?_⟩;grind [GY]
  rename_i g' first cap ps S I
  cases z;obtain⟨fv,f1,R⟩:=BY (C:=X.C) D.fp S;obtain⟨av,a1,a2⟩:=EG (C:=X.C) D.fp I;simp only[PR]at R;obtain⟨fa,fb,rfl,f3,f4⟩:=R;have E:BC F ρ st.nx (first++ps++cap) (fa++av++fb):=(f3.append a2).append f4;obtain⟨l,hcd,hnd,hall⟩:=v M D E;have P:qH X fr h o l/\(∀l',GL X.C fr h o≠some (.alts l'))/\∀b ls f,GL X.C fr h o≠some (.round b ls f):=by
   cases hcd with
   |AZ z V=>
    obtain⟨rfl,U,i,hfn⟩:=z;have e:GL X.C fr h o=some (.enter g'<|fa++av++fb):=by
     simp_all [CR,GG,H4]
    exact⟨.call e V,ah,ah⟩
   |prim hq J=>
    rename_i q x;have e:GL X.C fr h o=some (.val x.1 x.2):=by
     grind [CR,GG,H4,E0]
    exact⟨.val e,ah,ah⟩
  refine⟨l,P.1,ah,fun x J=>?_⟩;obtain⟨n',hn,r,st',y,F',ρ',hp,G,Y⟩:=hall x J;split at y
  case h_2=>grind [Ev.AA]
  rename_i d j;obtain⟨fr',A,L,O,Z⟩:=G.rel.put hp j;refine⟨n',hn,d,y,F',ρ',fr',A,⟨L,by rw[O];exact G.le,G.nx⟩,fun p w b hb=>?_⟩;simp only[W,GY,K,S]at w;grind
 case h_3=>
  obtain⟨u,s,d,h1,h2,h3⟩:=Je M;obtain⟨tch,⟨v',h',F',ρ',A,L,O,Z,g5,g6,g7,g8⟩,htch⟩:=pC (C:=X.C) D h1;have hrs:Rel B h0 F' ρ' s fr h':=⟨⟨by rw[g6];exact D.fp.n,fun t=>by
   have:s.get t=st.get t:=by unfold AI.get;rw[g5]
   rw[this];exact(D.fp.slot t).mono Z⟩,O⟩
  obtain⟨fr',k1,k2,k3,k4⟩:=hrs.put L h2;refine⟨[(v',h')],?_,ah,fun x J=>?_⟩
  ·rcases A with A|⟨A,rfl⟩
   ·exact .val A
   ·exact .skip A
  ·cases zm.1 J;refine⟨n,zg _,d,h3,F',ρ',fr',k1,⟨k2,by grind,g7⟩,fun p w b hb=>?_⟩;grind
theorem zS{α a:Type}{f:α->Option (List a)}{x:α}:bl [x] f=f x:=by
 grind [bl]
theorem Jf{α d:Type}{f:Nat->Nat->α->Option (List d)}{P:d->Prop}{nd:Bool}{l:List α}(c:nd=false->∃x,l=[x])(h:∀a∈l,∃r M,(∀m,M<=m->∀q,M<=q->f m q a=some r)/\(nd=false->∃x,r=[x])/\∀y∈r,P y):
  ∃r M,(∀m,M<=m->∀q,M<=q->bl l (f m q)=some r)/\(nd=false->∃x,r=[x])/\∀y∈r,P y:=by
 cases nd with
 |false=>
  obtain⟨x,rfl⟩:=c rfl;simp_all [zS]
 |true=>
  clear c;suffices hs:∃r M,(∀m,M<=m->∀q,M<=q->bl l (f m q)=some r)/\∀y∈r,P y by
   simp_all
  induction l with
  |nil=>exact⟨[],0,fun _ _ _ _=>rfl,(by simp)⟩
  |cons a l e=>
   obtain⟨r,M,i,_,g⟩:=h a (by simp);obtain⟨r2,M2,h3,h4⟩:=e (by simp_all);cases l with
   |nil=>exact⟨r,M,(by grind [bl]),g⟩
   |cons b l=>
    refine⟨r++r2,max M M2,fun m j q k=>?_,fun y o=>?_⟩
    ·grind [bl]
    grind
theorem Pk{d:Option Nat}{P:Fr×H->Prop}:∀ {l:List (V×H)},(∀x∈l,∃fr',fr.put d x.1=some fr'/\P (fr',x.2))->∃r,Hz fr d l=some r/\(∀y∈r,P y)/\((∃x,l=[x])->∃y,r=[y])
 |[],_=>⟨[],rfl,(by simp),(by simp)⟩
 |x::l,h=>by
  obtain⟨fr',c,e⟩:=h x (by simp);obtain⟨r,h3,h4,_⟩:=Pk (l:=l) (fun y b=>h y ah);refine⟨(fr',x.2)::r,?_,fun y b=>?_,fun⟨z,a⟩=>?_⟩
  ·grind [Hz]
  ·grind
  ·cases a;cases h3;simp
theorem qH.Ac1{l:List (V×H)}{o:Oper}{ops:Array Oper}(a:qH X fr h o l)(p:Ba fr ops o=true){P:Fr×H->Prop}(e:∀x∈l,∃fr',fr.put o.dst x.1=some fr'/\P (fr',x.2)):
  ∃r M,(∀m,M<=m->step1 X.C (AZ X.C m) ops o fr h=some r)/\((∃x,l=[x])->∃y,r=[y])/\∀y∈r,P y:=by
 obtain⟨r,q,c,d⟩:=Pk e;cases a with
 |@val x h' a=>
  obtain⟨fr',j,k⟩:=e _<|zm.2 rfl;exact⟨[(fr',h')],0,(by simp_all [step1,Ih]),(by simp),ah⟩
 |@skip h' a=>
  obtain⟨fr',j,k⟩:=e _<|zm.2 rfl;exact⟨[(fr',h')],0,(by simp_all [step1,Ih]),(by simp),ah⟩
 |alts a=>exact⟨r,0,(by simp_all [step1,Ih]),d,c⟩
 |@call g args l M a i=>exact⟨r,M,(by simp_all [step1,Ih]),d,c⟩
 |@round b ls f l M a i=>exact⟨r,M,(by simp_all [step1,Ih]),d,c⟩
theorem Z9{T:BV}{h:H}{s d:TypeId}{b off:Nat}:FG T h s d (.ptr b off)=none:=by
 simp_all [FG]
theorem eX(g:Rel B h0 F ρ st fr h){o:Oper}{v:PV}(a:xM X.C.T st o.op=some v):OK B h0 F ρ st h [] (Ih X.C fr h o) v st:=by
 have fin:∀ {s d:TypeId} {x:Operand} {b off:Nat} {u:V},o.op=.convert s d x->ev X.C fr x=some (.ptr b off)->Ef X.C.T h s d (.ptr b off)=some u->PR F ρ st.nx v u->OK B h0 F ρ st h [] (Ih X.C fr h o) v st:=by
  intro s d x b off u c j f w;have q:GL X.C fr h o=none:=by
   rw[CR];unfold GG;rw[c];simp only[j,Z9];rfl
  refine zd g.sr (v':=u) ?_ w;grind [Ih]
 unfold xM at a;split at a
 case h_2=>cases a
 rename_i s d x c;split at a
 case h_3=>cases a
 case h_1=>
  rename_i t id off r D p;split at a
  case h_2=>cases a
  rename_i i tb cs A l;cases k:(zp 0 i.size&&zp off (Det.Fm cs))with
  |false=>grind
  |true=>
   rw[k]at a;cases a;obtain⟨y,j,f⟩:=BY (C:=X.C) g.fp p;obtain⟨b,n,z,k1,k2,⟨bs,fz,rfl,k4,_⟩,_⟩:=g.sr.at l;have m:=f;obtain rfl:=m.2 b n k1;refine fin c j ?_ f;unfold Ef;rw[DF,k4.len]at k;grind
 case h_2=>
  rename_i u id off r D p;split at a
  case h_2=>cases a
  rename_i i e cs A l;cases k:(zp 0 i.size&&zl i.size (Det.Fm cs)&&zf e u&&zf off 0)with
  |false=>grind
  |true=>
   rw[k]at a;cases a;obtain⟨y,j,f⟩:=BY (C:=X.C) g.fp p;obtain⟨b,n,z,k1,k2,⟨bs,fz,rfl,k4,_⟩,_⟩:=g.sr.at l;have m:=f;obtain rfl:=m.2 b n k1;have h0:off=0:=by
    simp_all
   subst h0;refine fin c j (u:=.ptr b 0) ?_ f;unfold Ef;rw[DF,k4.len]at k;grind
theorem TU(k:Rel B h0 F ρ st fr h){o:Oper}{v:PV}{c:AI}(a:Sn X.C.T st o.op=some (v,c)):OK B h0 F ρ st h [] (Ih X.C fr h o) v c:=by
 unfold Sn at a;split at a
 case h_2=>cases a
 rename_i s d x g;split at a
 case h_2=>cases a
 rename_i e l p q f;split at a
 case h_2=>cases a
 cases a;obtain⟨y,t,r⟩:=BY (C:=X.C) k.fp f;obtain rfl:=E1 r;have i:GL X.C fr h o=none:=by
  rw[CR];unfold GG;rw[g];simp only[t,FG,p,q];rfl
 have f:Ih X.C fr h o=E0 (some (.sl h.nx 0 l.length l.length 1,h.push<|.cells (l.map fun b=>.int .u8<|.ofNat b.toNat) e (0,0))):=by
  simp_all [Ef,Ih,SN]
 rw[f];refine OK.new k.sr (o:=.arr false e (.int .u8)<|l.map fun b=>(b.toNat:Int)) (n:=l.length) rfl ⟨l.map fun b=>V.int .u8<|.ofNat b.toNat,(0,0),rfl,⟨by simp[Sh.sz],fun j w=>?_⟩,zg _,by simp⟩ ?_
 ·have m:j<l.length:=ah
  have u:((l.map fun b=>V.int .u8<|.ofNat b.toNat).drop<|j*1).take 1=[V.int .u8<|.ofNat (l[j]).toNat]:=by
   simp_all [zo]
  grind [DC,Sh.sz]
 simp_all [PR,Bs]
theorem Vn(c:Rel B h0 F ρ st fr h){o:Oper}{v:PV}{a:AI}(b:VB X.C.T st o.op=some (v,a)):OK B h0 F ρ st h [] (Ih X.C fr h o) v a:=by
 grind [VB,TU,eX]
theorem U1{nd:Bool}{call:Fv}(i:EZ B h0 X nd call){ops:Array Oper}:∀ {l:List Oper} {n:Nat} {st:AI} {F:Fz} {ρ:DU} {fr:Fr} {h:H} {k:AI->Tr},Rel B h0 F ρ st fr h->Ev X Q n (prun X.C.T call ops l st k)->
  ∃r M,(∀m,M<=m->Sz X.C (AZ X.C m) ops l fr h=some r)/\(nd=false->∃x,r=[x])/\∀x∈r,∃n',n'<=n/\∃b,Ev X Q n' (k b)/\∃F' ρ',C0 B h0 F ρ st.nx h b x.1 x.2 F' ρ'
 |[],n,st,F,ρ,fr,h,k,V,d=>⟨[(fr,h)],0,fun _ _=>rfl,(by simp),fun x hx=>by cases zm.1 hx;exact⟨n,zg _,st,d,F,ρ,C0.refl V⟩⟩
 |o::c,n,st,F,ρ,fr,h,k,V,d=>by
  unfold prun at d;obtain⟨b,e,e1,e2,s⟩:=MU V d;have fin:∀ {l:List (Fr×H)},(∃M,∀m,M<=m->step1 X.C (AZ X.C m) ops o fr h=some l)->(nd=false->∃x,l=[x])->
    (∀y∈l,∃n',n'<=n/\∃a,Ev X Q n' (prun X.C.T call ops c a k)/\∃F' ρ',C0 B h0 F ρ st.nx h a y.1 y.2 F' ρ')->
    ∃r M,(∀m,M<=m->Sz X.C (AZ X.C m) ops (o::c) fr h=some r)/\(nd=false->∃x,r=[x])/\∀x∈r,∃n',n'<=n/\∃b,Ev X Q n' (k b)/\∃F' ρ',C0 B h0 F ρ st.nx h b x.1 x.2 F' ρ':=by
   rintro l ⟨M1,S⟩ A hl;obtain⟨r,M,L,w,J⟩:=Jf (f:=fun m _ (x:Fr×H)=>Sz X.C (AZ X.C m) ops c x.1 x.2) (P:=fun x=>∃n',n'<=n/\∃b,Ev X Q n' (k b)/\∃F' ρ',C0 B h0 F ρ st.nx h b x.1 x.2 F' ρ') A fun y D=>by
    obtain⟨n1,hn1,a,U,F1,ρ1,j⟩:=hl y D;obtain⟨r,M,L,J,w⟩:=U1 i j.rel U;refine⟨r,M,ah,J,fun z hz=>?_⟩;obtain⟨n2,hn2,st3,he3,F2,ρ2,hwent2⟩:=w z hz;exact⟨n2,ae,st3,he3,F2,ρ2,j.trans hwent2⟩
   refine⟨r,max M M1,fun m hm=>?_,w,J⟩;simp only[Sz,S m ae];exact L m ae m ae
  rcases s with⟨G,d⟩|⟨G,d⟩
  ·unfold tN at d;split at d
   case h_1=>
    rename_i v p hb;split at d
    case h_2=>grind [Ev.AA]
    rename_i a g;obtain⟨v',h',F',ρ',q,I,R,g4,g5,g6,g7,g8⟩:=Vn e hb;have W:Rel B h0 F' ρ' p fr h':=⟨⟨by rw[g6];exact e.fp.n,fun t=>by
     have:p.get t=b.get t:=by unfold AI.get;rw[g5]
     rw[this];exact(e.fp.slot t).mono g4⟩,R⟩
    have O:∃u,PR F' ρ' p.nx v u/\∀fr',fr.put o.dst u=some fr'->∀m,step1 X.C (AZ X.C m) ops o fr h=some [(fr',h')]:=by
     rcases q with q|⟨q,rfl⟩
     ·exact⟨v',I,fun fr' K m=>by simp only[step1,G,we,q,K]⟩
     ·exact⟨.tup [],I,fun fr' K m=>by simp only[step1,G,we,q,K]⟩
    obtain⟨u,hu,DN⟩:=O;obtain⟨fr',K,k2,k3,k4⟩:=W.put hu g;refine fin (l:=[(fr',h')]) ⟨0,ah⟩ (by simp) fun y D=>?_
    cases zm.1 D;exact⟨n,zg _,a,d,F',ρ',k2,by grind,g7⟩
   obtain⟨l,E,hnd,Z⟩:=HS i e d;obtain⟨r,M,L,J,w⟩:=E.Ac1 (ops:=ops) (P:=fun y=>∃n',n'<=n/\∃a,Ev X Q n' (prun X.C.T call ops c a k)/\∃F' ρ',C0 B h0 F ρ st.nx h a y.1 y.2 F' ρ') G ah;exact fin ⟨M,L⟩ ah w
  ·unfold LI at d;split at d
   case h_2=>grind [Ev.AA]
   rename_i a g;obtain⟨Y,q,I,R,g4⟩:=e.put (x:=.tup []) (by simp[PR]) g;refine fin (l:=[(Y,h)]) ⟨0,fun m _=>by simp only[step1,G,wg,q]⟩ (by simp) fun y D=>?_
   cases zm.1 D;exact⟨n,zg _,a,d,F,ρ,I,by rw[R,e1];exact zr,zg _⟩
end
end Go.Pe
