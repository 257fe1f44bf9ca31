import Derived.Test.YtbmofcgiokkikaaGreatDoorX17
import Derived.ChangeShapes
import Derived.OpenShut
import Derived.Test.YtbmofcgiokkikaaGreatDoorRows
import Derived.LaidByTextLater
import Derived.SevenTiedAt
import Derived.LaidSub
import Derived.LaidOnce
/- A part of a proof; no law is stated here. -/
noncomputable section
open Go.Pe.Ends renaming tt -> zc, leaf -> zh, Ah -> zj, ite -> zo, ff -> zt, eq -> z7
open Bool renaming and_eq_true -> zd
open Nat renaming eq_of_beq_eq_true -> ze, beq -> zx
open Go.DataW renaming weightsEach -> zf, weights -> zp, trod -> zr, trod_int -> yd
open List renaming getElem?_eq_getElem -> zg, mem_cons_self -> zk, getD_eq_getElem?_getD -> zl, map_cons -> zn, mem_append -> zq, take_succ_eq_append_getElem -> zu, length_cons -> zw, mem_of_mem_drop -> zz, length_map -> z6, all_eq_true -> ya, take_of_length_le -> yc, mem_cons -> yf, map_take -> yg, map_drop -> yh
open Int renaming toNat_natCast -> zi
open Go.Value renaming okWide -> zm
open Go.Sp renaming Nu -> zy
open Prod renaming snd -> z8
open Option renaming bind_eq_some_iff -> yb
open Go.Pe.Ac renaming of -> ye
open Rat renaming add_zero -> yi
namespace Go.Pe
open Sp
open Go.Det
section
open List Int Prod
namespace T62
def T[Srt](c:AF)(t h l:Int):Tr:=tree AdP false 9 62<|Ag ([Ba,Sh.int IntKind.i64,Sh.int IntKind.i64,Sh.int IntKind.i64]) (c,t,h,l)
def L1[Srt](v1 v2 v3:Int)(v4:AF):Tr:=re ((T ([],([],[])) 0 0 0))<|Ax 26 [(1,.dat i64 v1),(2,.dat i64 v2),(3,.dat i64 v3),(4,PV.A8 Ba v4 0)] [] 0
theorem Aj[Srt](c:AF)(t h l:Int):T c t h l=L1 t h l c:=by kernel_rfl
theorem Ak[Srt](v1 v2 v3:Int)(v4:AF):stepT AdP (L1 v1 v2 v3 v4)=let a:=fst<|snd<|snd<|snd<|getD (snd<|snd v4) (toNat v3) ([],[],[],[],[]);let b':=Sp.efR v4 v1 v2 v3;.ck (decide (0<=v3)&&decide (v3<(↑(length<|snd<|snd v4):Int))) (.ck (XO v4 v1 v2 v3)<|.ck (decide (length a<=1000)&&GY 100 a&&decide (Y7 a b'=0))<|.ck (Sp.okO v4 v2 v3)<|.ck (AU (sL a b')&&AU (Sp.obR v4 v2 v3))<|.leaf (.dat Sh.str<|B0 (sL a b')<|Sp.obR v4 v2 v3) []):=by kernel_rfl
end T62
end
open Go.Sp (AF Bs Bq AW Ey Bf)
theorem T126.okW[Srt]:Af AY 126 Vx:=by
 refine BA AaP<|fun(i:List AW×Bf) b=>?_;obtain⟨t,x⟩:=i;have b:(decide (t.length<=1000)&&GY 100 t&&decide (Y7 t x=0))=true:=b;rw[zd,zd,w5,w5]at b;obtain⟨⟨_,hl⟩,he⟩:=b;obtain⟨ht,hcx⟩:=iZ he;obtain⟨hne,h64,h0⟩:=Er ht;have nx:=LR hcx;have d:∀ob,Ac Vx (t,x) (.dat .str<|AO<|LY t x) ob:=fun ob=>ye rfl rfl rfl
 obtain⟨p,r,rfl⟩:∃p r,t=p::r:=by
  cases t with
  |nil=>exact wh rfl hne
  |cons p r=>exact⟨p,r,rfl⟩
 obtain⟨k,j,g⟩:=Jo h0;obtain⟨l1,l2⟩:=MY hl p<|zk ..;have e:=HZ k l1 af;have f:=HZ j l2 af;have a:LY (p::r) x=if Ao p.1<Ao x then O7 (some<|Sp.pt p) (r.map Sp.pt) (Ao x)else Ao p.2:=by
  rw[oV,zn,PT];rfl
 refine z7 (T126.Aj (p::r) x) ?_;conv=>zeta
 rw[show(p::r).getD 0 ([],[])=p from rfl];refine zc (w4<|by rw[zw];omega) (zc (Ab (nx.num af)<|e.C0 af) (zo (fun c=>zc (w4<|by rw[zw];omega)<|zh ?_)<|fun c=>?_))
 ·have c:=(Sp.Ik _ _).1<|w6 c;rw[wc c]at a;rw[a, <-f.t]at d;exact d _
 ·have c:Ao p.1<Ao x:=by
   have:=w7 c;rw[Sp.Ik]at this;exact Classical.not_not.1 this
  rw[wd c]at a;exact T126.Au (p::r) x h64 hl nx d r 1 p rfl af (by rw[zw];omega) rfl e f g a
theorem tS[Srt]:Cv ON:=Aa T81.ok<|Aa T74.ok<|Aa T30.ok AB
theorem Wq{n:Int}(h:0<=n/\n<=10):zy 2 (CT n 10) ((n:Rat)/10):=by
 have e:Rat.divInt n 10=(n:Rat)/10:=by rw[Rat.divInt_eq_div];rfl
 exact⟨by unfold CT;rw[e],(M7 h).z⟩
namespace T128
variable {Q:PV->Ob->Prop}
def step(ws:List AW)(o:Ey)(v:Bf):Bf:=match ws.find? fun w=>decide (w.1=o.1)with
 |some w=>B0 v<|DR w.2<|CT o.2 10
 |none=>v
theorem skip[Srt]{v:Bf}{s:Bs}{lv:Bq}{i:Nat}{o:Ey}(p:i<s.2.2.2.2.length)(g:s.2.2.2.2.getD i ([],0)=o)(a:lv.2.2.2.2.length<=16)(e:Ends ON (L2 v s lv<|IntKind.wrap .i64<|(i:Int)+1) Q):∀(r:List AW) (k:Nat),lv.2.2.2.2.drop k=r->k<=lv.2.2.2.2.length->(∀w∈r,w.1≠o.1)->Ends ON (L3 v s lv (i:Int) (k:Int)) Q
 |[],k,h,f,b=>by
  have:=drop_nil h f;exact zj (Be ..) (zt (w8 ae) e)
 |w::r,k,h,f,b=>by
  obtain⟨m,q,j⟩:=drop_cons (d:=(([],[]):AW)) h;have u:=wn (i:=k) ae;have n:=b w<|zk ..;refine zj (Be ..) ?_;conv=>zeta
  rw[zi,zi,q,g,u];exact zc (w4 ae) (zc (G8 ae)<|zc (G8 ae)<|zt (by simpa using n)<|skip p g a e r (k+1) j m fun x y=>b x<|List.mem_cons_of_mem _ y)
set_option maxRecDepth 100000 in
theorem inner[Srt]{v:Bf}{s:Bs}{lv:Bq}{i K:Nat}{o:Ey}{q:Rat}(j:i<s.2.2.2.2.length)(f:s.2.2.2.2.getD i ([],0)=o)(z:0<=o.2/\o.2<=10)(y:zy K v q)(F:K<=1990)(a:lv.2.2.2.2.length<=16)(A:∀w∈lv.2.2.2.2,zy 20 w.2<|Ao w.2):∀(r:List AW) (k:Nat),lv.2.2.2.2.drop k=r->k<=lv.2.2.2.2.length->(r.map Prod.fst).Nodup->Ends ON (L2 (step r o v) s lv<|IntKind.wrap .i64<|(i:Int)+1) Q->Ends ON (L3 v s lv (i:Int) (k:Int)) Q
 |[],k,h,C,g,b=>skip j f a b [] k h C fun x n=>by cases n
 |w::r,k,h,C,g,b=>by
  obtain⟨B,D,u⟩:=drop_cons (d:=(([],[]):AW)) h;have p:=wn (i:=k) ae;have E:=A w (zz<|by rw[h];exact zk ..);rw[zn,List.nodup_cons]at g;by_cases c:w.1=o.1
  ·have es:step (w::r) o v=B0 v (DR w.2<|CT o.2 10):=by
    unfold step;rw[List.find?_cons,w4 c]
   rw[es]at b;have t:=Wq z;have m:=E.DR t;have n1:Cn o.2=true:=ad ae ae;refine zj (Be ..) ?_;conv=>zeta
   rw[zi,zi,D,f,p];refine zc (w4 ae) (zc (G8 ae)<|zc (G8 ae)<|zc (by simpa using c) (zc (G8 ae)<|zc (G8 ae)<|zc (Ab (Ab n1 rfl) rfl)<|zc (Ab (E.num af)<|t.num af)<|zc (Ab (y.num ae)<|m.num af) ?_));exact skip j f a b r (k+1) u B fun x n e=>g.1 (by rw[c, <-e];exact List.mem_map.2 ⟨x,n,rfl⟩)
  ·have es:step (w::r) o v=step r o v:=by
    unfold step;rw[List.find?_cons,w8 c]
   rw[es]at b;refine zj (Be ..) ?_;conv=>zeta
   rw[zi,zi,D,f,p];exact zc (w4 ae) (zc (G8 ae)<|zc (G8 ae)<|zt (by simpa using c)<|inner j f z y F a A r (k+1) u B g.2 b)
theorem zS{ws:List AW}(d:∀w∈ws,zy 20 w.2<|Ao w.2){o:Ey}(b:0<=o.2/\o.2<=10){K:Nat}{v:Bf}{q:Rat}(a:zy K v q):zy (K+23) (step ws o v) (q+Sp.lookW ws o.1*((o.2:Rat)/10)):=by
 unfold step;rw[Kd];cases e:ws.find? fun w=>decide (w.1=o.1)with
 |none=>
  show zy _ v<|q+0*_;rw[Rat.zero_mul,yi];exact a.mono ae
 |some w=>
  exact(a.B0<|(d w<|List.mem_of_find?_eq_some e).DR<|Wq b).mono ae
theorem outer[Srt]{s:Bs}{lv:Bq}(k:s.2.2.2.2.length<=16)(a:lv.2.2.2.2.length<=16)(j:∀w∈lv.2.2.2.2,zy 20 w.2<|Ao w.2)(b:(lv.2.2.2.2.map Prod.fst).Nodup)(m:∀o∈s.2.2.2.2,0<=o.2/\o.2<=10)(F:Rat)(g:∀ob,Q (.dat .str<|AO F) ob):∀(r:List Ey) (i K:Nat) (v:Bf) (q:Rat),s.2.2.2.2.drop i=r->i<=s.2.2.2.2.length->zy K v q->K+23*r.length<=1990->q+Sp.obV lv.2.2.2.2 r=F->Ends ON (L2 v s lv (i:Int)) Q
 |[],i,K,v,q,h,x,f,u,e=>by
  have:=drop_nil h x;have e:q+0=F:=e;rw[yi]at e;rw[<-e, <-f.t]at g;exact zj (Az ..) (zt (w8 ae)<|zh<|g _)
 |o::r,i,K,v,q,h,x,f,u,e=>by
  obtain⟨p,z,y⟩:=drop_cons (d:=(([],0):Ey)) h;have A:=wn (i:=i) ae;have n:=m o (zz<|by rw[h];exact zk ..);rw[zw]at u;rw[P4, <-Rat.add_assoc]at e;have nx:=outer k a j b m F g r (i+1) _ _ _ y p (zS j n f) ae e;rw[<-A]at nx;exact zj (Az ..) (zc (w4 ae)<|inner p z n f ae a j lv.2.2.2.2 0 rfl (Nat.zero_le _) b nx)
theorem ok[Srt]:Af AY 128 Ag1:=by
 refine BA tS<|fun(i:AF×Int×Int) hi=>?_;obtain⟨c,h,l⟩:=i;obtain⟨L,h0,S,_⟩:=No (c:=c) (h:=h) (l:=l) hi;refine z7 (Aj c h l)<|zc (G8 h0)<|zc (G8 L.l0)<|zj (Ak ..) ?_;exact outer (s:=BE c h) (lv:=CU c l) S.len L.lv.wlen (fun w a=>GA (L.lv.wts w a).1 (L.ls.wts w a).2) L.lv.one S.obs (vV c h l) (fun ob=>ye rfl rfl rfl) (BE c h).2.2.2.2 0 1 [48] 0 rfl (Nat.zero_le _) My (by have:=S.len;omega) (Rat.zero_add _)
end T128
theorem rB[Srt]:Cv AdP:=Aa T126.okW<|Aa T127.ok<|Aa T128.ok<|Aa T30.ok AB
theorem T62.ok[Srt]:Af AY 62 Afx:=by
 refine BA rB<|fun(i:AF×Int×Int×Int) hi=>?_;obtain⟨c,t,h,l⟩:=i;obtain⟨P,L,kp,ko,h0,n0⟩:=Qj (c:=c) (t:=t) (h:=h) (l:=l) hi;have b:=pP (c:=c) (t:=t) (h:=h) (l:=l) hi;have v:=uU b af L.lv.tab L.ls.tab;have o:=Zx ko;have d:zy 194 (Sp.efR c t h l) (Si c t h l):=⟨rfl,b.z⟩;have no:zy 369 (Sp.obR c h l) (vV c h l):=⟨rfl,o.z⟩;have a:zy (194+145) (sL (CU c l).2.2.2.1<|Sp.efR c t h l) (O7 none (AeP (CU c l).2.2.2.1)<|Si c t h l):=⟨by unfold sL LY;rw[d.rat];rfl,v.z⟩;have lp:GY 100 (CU c l).2.2.2.1=true:=by
  unfold GY;rw[ya];intro p hp;have:=L.ls.tab p hp;exact ad ae ae
 have ev:Y7 (CU c l).2.2.2.1 (Sp.efR c t h l)=0:=by
  unfold Y7;rw[wc<|by rw[L.lv.tab];decide];exact d.check af
 have tl:=L.ls.tl;refine z7 (T62.Aj c t h l) (zj (T62.Ak ..)<|zc (G8 L.l0) (zc hi<|zc (Ab (Ab (w4<|show(CU c l).2.2.2.1.length<=1000 by omega) lp)<|w4 ev)<|zc ko (zc (Ab (a.num af)<|no.num af)<|zh<|ye rfl rfl ?_)));exact(a.B0 no).t
open Go.Sp (AF)
theorem uH[Srt]:Cv AbI:=Aa T62.ok<|Aa T30.ok AB
namespace T18
theorem loop[Srt]{Q:PV->Ob->Prop}{c:AF}{t l:Int}(h:LD c t l=true){m:Nat}(d:m<=c.1.length)(F:Rat)(b:∀ob,Q (.dat .str<|AO F) ob):∀(k i K:Nat) (s:Bf) (q:Rat),i+k=m->zy K s q->K+123*k<=1000->q+Sp.suQ c t l i k=F->Ends AbI (L1 t l (m:Int) s (i:Int) c.1 c.2.1 c.2.2) Q
 |0,i,K,s,q,g,a,f,e=>by
  have e:q+0=F:=e;rw[yi]at e;rw[<-e, <-a.t]at b;simp_all [zj,Ak]
 |k+1,i,K,s,q,g,a,f,e=>by
  have n:=LN h;have j:IntKind.wrap .i64 ((i:Int)+1)=((i+1:Nat):Int):=by grind [wr]
  have r:zy 122 (Sp.hoR c t (i:Int) l) (Oo c t (i:Int) l):=⟨rfl,AcL h ae⟩;have e:q+(Oo c t (i:Int) l+Sp.suQ c t l (i+1) k)=F:=e;rw[<-Rat.add_assoc]at e;refine zj (Ak ..) ?_;conv=>zeta
  rw[j];exact zc ah (zc (bO h ae) (zc (Ab (a.num ae)<|r.num af) (loop h d F b k (i+1) _ _ _ ae (a.B0 r) ae e)))
theorem ok[Srt]:Af AY 18 AcQ:=by
 refine BA uH<|fun(i:AF×Int×Int×Int×Int) a=>?_;obtain⟨c,t,l,i,k⟩:=i;have a:(LD c t l&&nV c i k)=true:=a;unfold nV at a;simp only[zd,w5]at a;obtain⟨h,⟨h0,h1⟩,h2⟩:=a;have n:=LN h;obtain⟨i,rfl⟩:∃j:Nat,i=(j:Int):=⟨i.toNat,by omega⟩;obtain⟨k,rfl⟩:∃j:Nat,k=(j:Int):=⟨k.toNat,by omega⟩;refine z7 (Aj c t l i k) (loop h (m:=k) ae (Sp.suQ c t l i<|k-i) (fun ob=>ye rfl rfl ?_) (k-i) i 1 [48] 0 ae My ae ah);show AO _=AO (Sp.suQ c t l (i:Int).toNat ((k:Int)-(i:Int)).toNat);simp
end T18
theorem qL[Srt]:Cv Ag5:=Aa T18.ok AB
theorem T19.ok[Srt]:Af AY 19 AfF:=by
 refine BA qL<|fun(i:AF×Int×Int) hi=>?_;obtain⟨c,t,l⟩:=i;have p:nV c 0 (c.1.length:Int)=true:=Ab (by rfl) (by simp);refine z7 (T19.Aj c t l)<|zc (Ab hi p)<|zh<|ye rfl rfl ?_;rfl
theorem lF[Srt]:Cv Af8:=Aa T130.ok (by grind [Aa,T30.ok,T129.ok,T74.ok,Md])
theorem T63.ok[Srt]:Af AY 63 dX:=by
 refine BA lF<|fun(i:Rd×Rd) b=>?_;obtain⟨a,u⟩:=i;have b:(AU a&&Wf u&&AU (FF a u)&&AU (B0 (FF a u) [49,47,50])&&AU (GG<|B0 (FF a u) [49,47,50]))=true:=b;simp only[zd]at b;obtain⟨⟨⟨⟨h1,h2⟩,h3⟩,h4⟩,h5⟩:=b;exact z7 (T63.Aj a u) (zc (Ab h1 h2)<|zc (Ab h3<|Mj.num af) (zc h4<|zc (by grind [Is,ZE])<|zh<|ye rfl rfl rfl))
theorem uO[Srt]:Cv Agb:=Aa T19.ok<|Aa T63.ok AB
theorem T20.ok[Srt]:Af AY 20 Ag6:=by
 refine BA uO<|fun(i:AF×Int×Int) hi=>?_;obtain⟨c,t,l⟩:=i;have x:zy 740 (Sp.exR c t l) (Sp.exQ c t l):=⟨rfl,(Z5 hi).z⟩;obtain⟨a,b⟩:=Ade x af;exact z7 (T20.Aj c t l)<|zc hi<|zc a<|zh<|ye rfl rfl b
open Go.Sp (AF Bf)
theorem Acn{s:List Int}(k:K8 s=0):C3 20 (vZ s):=by
 obtain⟨a,_,_⟩:=DE k;have m:=AcD (K:=9) af (by unfold MM;rw[z6];exact List.length_pos_iff.2 a)<|lJ k;rw[aS k]at m;exact m.z
def ZD(s:List Int):List Bf:=s.map Nr
theorem tO{s:List Int}(k:K8 s=0){n:Int}(h:n∈s):zy 9 (Nr n) (n:Rat):=by
 have:=(DE k).2.2 n h;exact T3 ae af
theorem Ae5{s:List Int}(k:K8 s=0):zy 20 (yS<|ZD s) (vZ s):=by
 have e:(ZD s).map Ao=s.map fun(n:Int)=>(n:Rat):=by
  unfold ZD;rw[List.map_map];exact List.map_congr_left fun n a=>(tO k a).rat
 refine⟨?_,Acn k⟩;unfold yS vZ;rw[e]
theorem mF:Cv R8:=Aa T93.ok<|Aa T94.ok<|Aa T20.ok<|Aa T31.ok AB
namespace T36
variable {Q:PV->Ob->Prop}{c:AF}{t l:Int}{s:List Int}
theorem fin(h:LD c t l=true)(k:K8 s=0)(b:∀ob,Q (.dat .str<|Sp.drR c t l s) ob):Ends R8 (L3 t l c<|ZD s) Q:=by
 obtain⟨d,s1,_⟩:=DE k;have a:qT (ZD s)=true:=Abo ⟨(fun e=>d<|List.map_eq_nil_iff.1 e),by unfold ZD;rw[z6];omega,fun x g=>by
  obtain⟨n,f,rfl⟩:=List.mem_map.1 g;exact⟨_,(tO k f).mono af⟩⟩
 have m:=Ae5 k;have r:zy 746 (Sp.raR c t l) (Xf<|Sp.exQ c t l):=⟨rfl,rK (Z5 h).z⟩;refine zj (Be ..) (zc a<|zc h<|zc (Ab (m.num af)<|r.C0 af)<|zh ?_);rw[(m.Gz r).t];exact b _
theorem loop(g:s.length<=256)(k:K8 s=0)(d:Ends R8 (L3 t l c<|ZD s) Q):∀(j i:Nat),i+j=s.length->Ends R8 (L2 t l s i (i:Int) (ZD<|s.take i) c.1 c.2.1 c.2.2) Q
 |0,i,b=>by
  have b:i=s.length:=b;subst b;refine zj (Az ..) (zt (w8 ae) ?_);rw[List.take_length,yc<|by unfold ZD;rw[z6];exact Nat.le_refl _];exact d
 |j+1,i,b=>by
  have n:=wn (i:=i) ae;have nx:=loop g k d j (i+1) ae;have a:i<s.length:=ae
  have f:s.getD i 0∈s:=by rw[zl,zg a];exact List.getElem_mem a
  have m:Lt (s.getD i 0)=true:=by
   have:=(DE k).2.2 _ f;exact w4 ae
  have fl:(ZD<|s.take i).length=i:=by unfold ZD;rw[z6,List.length_take];omega
  have e:ZD (s.take<|i+1)=ZD (s.take i)++[Nr<|s.getD i 0]:=by
   unfold ZD;rw[zu a,List.map_append,zl,zg a];rfl
  rw[e]at nx;refine zj (Az ..) ?_;conv=>zeta
  rw[zi,n];exact zc (w4 ae) (zc (G8 ae) (zc m<|zc (Ab (Ab rfl (w4 fl.symm))<|w4 ae) nx))
theorem ok:Af AY 36 Afd:=by
 refine BA mF<|fun(i:AF×Int×Int×List Int) a=>?_;obtain⟨c,t,l,s⟩:=i;have a:(LD c t l&&decide (K8 s=0))=true:=a;rw[zd,w5]at a;obtain⟨h,k⟩:=a;obtain⟨s0,s1,s2⟩:=DE k;have n0:0<s.length:=List.length_pos_iff.2 s0;have lp:=loop (t:=t) (l:=l) (c:=c) (Q:=Ac Afd (c,t,l,s)) s1 k (fin h k<|fun ob=>ye rfl rfl rfl) (s.length-1) 1 ae;have b:ZD (s.take 1)=[Nr<|s.getD 0 0]:=by
  cases s with
  |nil=>exact wh rfl s0
  |cons x s=>rfl
 have d:s.getD 0 0∈s:=by rw[zl,zg n0];exact List.getElem_mem n0
 have e:Lt (s.getD (Int.toNat 0) 0)=true:=by
  have:=s2 _ d;exact w4 (by rw[show Int.toNat 0=0 from rfl];omega)
 rw[b]at lp;exact z7 (Aj c t l s) (zj (Ak ..)<|zc (w4 ae)<|zc (G8 ae)<|zc e<|zc rfl lp)
end T36
theorem uX:Cv xY:=fun g sp h=>by cases h
namespace T35
theorem loop{Q:PV->Ob->Prop}{s:List Int}(q:s.length<=1000000)(j:s.any JC=true->∀ob,Q (.dat i64 3) ob)(p:s.any JC=false->∀ob,Q (.dat i64 0) ob):∀(r:List Int) (i:Nat),s.drop i=r->i<=s.length->(∀n∈s.take i,JC n=false)->Ends xY (L1 s (i:Int)) Q:=by
 intro r;induction r with
 |nil=>
  intro i hr g h;have:=drop_nil hr g;refine zj (Ak ..) (zt (w8 ae)<|zh<|p ?_ _);refine List.any_eq_false.2 fun n a=>?_
  rw[this,List.take_length]at h;rw[h n a];decide
 |cons x r k=>
  intro i hr g h;obtain⟨b,e,m⟩:=drop_cons (d:=(0:Int)) hr;have o:=wn (i:=i) ae;have f:x∈s:=zz (by rw[hr];exact zk);refine zj (Ak ..) (zc (w4 ae) (zc (G8 ae) ?_));rw[zi,e,o];refine zo (fun z=>zh<|j (List.any_eq_true.2 ⟨x,f,?_⟩) _) (fun z=>zc (G8 ae)<|zo (fun z2=>zh<|j (List.any_eq_true.2 ⟨x,f,?_⟩) _)<|fun z2=>k (i+1) m b fun n a=>?_)
  ·unfold JC;rw[z];rfl
  ·have z2:decide (999999999<x)=true:=z2;unfold JC;rw[z2,Bool.or_true]
  ·have z2:decide (999999999<x)=false:=z2;have z:decide (x<1)=false:=z;rw[zu b]at a;rcases zq.1 a with a|a
   ·exact h n a
   ·have:s[i]=x:=by
     rw[zl,zg b]at e;exact e
    rw[List.mem_singleton.1 a,this];unfold JC;rw[z,z2];rfl
theorem ok:Af AY 35 Adc:=by
 refine BA uX<|fun(s:List Int) b=>?_;have b:s.length<=1000000:=w6 b;have a:∀v ob,v=K8 s->Ac Adc s (.dat i64 v) ob:=fun v ob e=>ye rfl rfl e
 refine z7 (Aj s)<|zo (fun z=>zh<|a _ _ ?_)<|fun z=>zo (fun y=>zh<|a _ _ ?_)<|fun y=>?_
 ·have z:(s.length:Int)=0:=by simpa using z
  have:s=[]:=List.length_eq_zero_iff.1 ae;rw[this];rfl
 ·have z:¬(s.length:Int)=0:=by simpa using z
  have y:(s.length:Int)>256:=w6 y;unfold K8;rw[wc (fun e=>z<|by rw[e];rfl),wd ae]
 ·have z:¬(s.length:Int)=0:=by simpa using z
  have y:¬(s.length:Int)>256:=w7 y;have e:K8 s=if s.any JC=true then 3 else 0:=by
   unfold K8;rw[wc (fun e=>z<|by rw[e];rfl),wc ae]
  exact loop b (fun f ob=>a _ _<|by rw[e,wd f]) (fun f ob=>a _ _<|by rw[e,f];rfl) s 0 rfl (Nat.zero_le _) (fun n d=>by simp at d)
end T35
theorem rS:Cv Vs:=Aa qS<|Aa T7.ok<|Aa T9.ok<|Aa T10.ok<|Aa T11.ok<|Aa T34.ok<|Aa T16.ok<|Aa T15.ok<|Aa T35.ok<|Aa T17.ok<|Aa T36.ok AB
abbrev KS:Am:=NY
namespace T6
variable {Q:PV->Ob->Prop}{c:AF}{t h l:Int}{s:List Int}
theorem bad{e:Int}(a:e≠0)(b:GQ c t l s=e)(d:∀ob,Q (.dat .bool true) ob):Ends Vs (L3 s (t,h,l) c e (Xq c t l s)<|W2 c t l s) Q:=by
 have t1:HC (Xq c t l s) (W2 c t l s) [] e=true:=by
  unfold Xq W2;rw[b];exact rJ a _ _
 refine zj (Be ..) (zc (by simpa using a)<|zc rfl (zh ?_));rw[t1];exact d _
theorem Ai6(k:K8 s=0)(ok:LD c t l=true)(a:∀ob,Q (.dat .bool true) ob)(b:∀ob,Q (.bl true) ob):Ends Vs (L3 s (t,h,l) c 0 (Xq c t l s)<|W2 c t l s) Q:=by
 have e:GQ c t l s=0:=by
  unfold GQ;rw[wc (by rw[show I1 c t l=0 from w6 ((zd _ _).mp ((zd _ _).mp ok).1).2];decide),k]
 have t1:HC (Xq c t l s) (W2 c t l s) (Sp.drR c t l s) 0=true:=by
  unfold Xq W2;rw[e];exact yW _
 have z:=(Acn k).sub<|rK (Z5 ok).z;refine zj (Be ..) (zt rfl (zo (fun _=>zh<|b _)<|fun _=>zc (Ab ok<|w4 k)<|zc (w4<|WO z af)<|zh ?_));rw[show HC (Xq c t l s) (W2 c t l s) (Sp.drR c (t,h,l).1 (t,h,l).2.2 s) 0=true from t1];exact a _
theorem ok:Af AY 6 KS:=by
 refine BA rS<|fun(i:AF×(Int×Int×Int)×List Int) n=>?_;obtain⟨c,⟨t,h,l⟩,s⟩:=i;have n:(Sp.smC c&&c.2.1.all Ve)=true:=n;rw[zd]at n;obtain⟨hc,hT⟩:=n;have g:∀ob,Ac NY (c,(t,h,l),s) (.dat .bool true) ob:=fun ob=>ye rfl rfl rfl
 have j:∀ob,Ac NY (c,(t,h,l),s) (.bl true) ob:=fun ob=>ye rfl rfl rfl
 refine z7 (Aj c (t,h,l) s)<|zc hc<|zj (Ak ..)<|zc rfl (zt rfl (zc rfl (zo (fun _=>zc rfl (zh<|g _))<|fun sc=>zo (fun _=>zc rfl (zh<|g _))<|fun p=>?_)));have sc:Ki c=true:=by
  have sc:(!Ki c)=false:=sc;simpa using sc
 have p:¬(s.length:Int)>260:=w7 p;have sl:decide (s.length<=1000000)=true:=w4 ae;refine zc sc<|zo (fun k=>zc (Ab rfl hT)<|zo (fun _=>zh<|j _)<|fun f=>?_)<|fun k=>?_
 ·have f:(!XQ c 6 4)=false:=f;have f:XQ c 6 4=true:=by simpa using f
  have m:X9 c=true:=Ab sc (by rw[f,Bool.or_true]);have d:N6 c=0:=by simpa using k
  have r:∀b:Bool,b=true->Jq c b=10:=fun b j=>by rw[j];unfold Jq;rw[wc<|by rw[d];decide];rfl
  have u:∀b:Bool,b=false->Jq c b=0:=fun b j=>by rw[j];unfold Jq;rw[wc<|by rw[d];decide];rfl
  have o:I1 c t l=10->GQ c t l s=10:=fun e=>by unfold GQ;rw[e];rfl
  refine zj (Az ..)<|zc (Ab m sl)<|zc k<|zc rfl (zo (fun a=>zc rfl (zt rfl ?_))<|fun a=>zc rfl (zc rfl ?_))
  ·have a:WV c t=true:=a;exact bad (e:=10) af (o<|r _<|by rw[a];rfl) g
  ·have a:WV c t=false:=a;by_cases b:R5 c l=true
   ·have e:Cb (Jg (z8<|z8 (t,h,l)) (↑(List.length<|z8<|z8 c):Int)) 10=10:=by
     show Cb (R5 c l) 10=10;rw[b];rfl
    rw[e];exact zt rfl (bad af (o<|r _<|by rw[a,b];rfl) g)
   ·have b:R5 c l=false:=by simpa using b
    have e:Cb (Jg (z8<|z8 (t,h,l)) (↑(List.length<|z8<|z8 c):Int)) 10=0:=by
     show Cb (R5 c l) 10=0;rw[b];rfl
    rw[e];have z:I1 c t l=0:=u _ (by rw[a,b];rfl);refine zc rfl (zc sl ?_);by_cases q:K8 s=0
    ·rw[q];exact Ai6 q ((cR m).2 t l z) g j
    ·exact bad q (by unfold GQ;rw[wc<|by rw[z];decide]) g
 ·have d:N6 c≠0:=by simpa using k
  have m:X9 c=true:=Ab sc (by rw[w4 d,Bool.true_or]);have z:I1 c t l=N6 c:=by unfold I1 Jq;rw[wd d]
  exact zj (Az ..) (zc (Ab m sl)<|zt k<|zt k<|bad d (by unfold GQ;rw[z,wd d]) g)
end T6
open Go.Det Go.RowKit Go.ChangeShapes
def OL(k:Nat):Value->V
 | .agg cs=>.agg<|cs.toList.map<|KP k
 |v=>KP k v
def vU(P:Program)(k:Nat)(t:TypeId):Option Sh:=
 match shP P k t with
 |some s=>match P.underlying t with
  |some (.struct _)=>bif s.OP then some s else none
  |some (.int _)|some .bool|some .string|some (.slice _)=>bif s.OP then none else some s
  |_=>none
 |none=>none
def sI(P:Program)(t:TypeId):Option Sh:=
 match P.underlying t with
 |some (.array 2 e)=>match P.underlying e with
  |some (.int q)=>bif zx (P.cellsOf t) 2&&zx (P.cellsOf e) 1 then some (.pair (.int q)<|.int q)else none
  |_=>none
 |_=>none
def tW(P:Program)(k:Nat)(t:TypeId):Option Sh:=
 match sI P t with
 |some s=>some s
 |none=>vU P k t
def Ty(P:Program)(k:Nat):List TypeId->Option (List Sh)
 |[]=>some []
 |t::ts=>match tW P k t,Ty P k ts with
  |some s,some a=>some (s::a)
  |_,_=>none
def wfL:(l:List Sh)->(By l).T->Prop
 |[],_=>True
 |[a],x=>UL a x
 |a::b::l,x=>UL a x.1/\wfL (b::l) x.2
section
variable {H:Type}{enc:TypeId×Value->H}{P:Program}{W:World}{base:Nat}
theorem one_cell{t:TypeId}{v:Value}(a:(∃k,P.underlying t=some (.int k))\/P.underlying t=some .bool\/P.underlying t=some .string\/∃e,P.underlying t=some (.slice e))(h:zm P W .any base t v):v.cells.toList=[v]/\∀cs,v≠ .agg cs:=by
 rcases a with⟨k,a⟩|a|a|⟨e,a⟩<;>
 (simp only[zm,a]at h
  unfold Cell.okWide at h;simp only[a]at h;unfold Cell.ok at h;simp only[a]at h;cases v<;>first|(exact⟨rfl,fun _ e=>by cases e⟩)|(exfalso;exact h))
theorem xZ{t:TypeId}{s:Sh}{v:Value}{d:DataW H}{p:List MemPlace}(g:sI P t=some s)(y:zm P W .any base t v)(h:DataW.Trod enc P W 0 (fun _=>true) true t v d p):
  (∃q,s=.pair (.int q) (.int q))/\∃x:s.T,PC (FW W) (Ce s x) (OL W.heap.size v)/\UL s x/\Ae (pW W) (OL W.heap.size v) v:=by
 unfold sI at g;split at g
 case h_2=>cases g
 rename_i e r;split at g
 case h_2=>cases g
 rename_i q u;cases j:(zx (P.cellsOf t) 2&&zx (P.cellsOf e) 1)with
 |false=>rw[j]at g;cases g
 |true=>
 rw[j]at g;cases g;refine⟨⟨q,rfl⟩,?_⟩;rw[zd]at j;have E:=ze j.1;have A:=ze j.2;simp only[zm,r]at y;obtain⟨cs,rfl,k,_⟩:=y;obtain⟨fuel,f⟩:=h;have B:(Value.agg cs).cells.toList=cs.toList:=rfl;rw[B]at f;rw[E]at k;obtain⟨o,m,hl⟩:∃o m,cs.toList=[o,m]:=by
  match hh:cs.toList,(show cs.toList.length=2 by rw[Array.length_toList];exact k)with
  |[a,b],_=>exact⟨a,b,rfl⟩
 rw[hl]at f;cases fuel with
 |zero=>simp[zr]at f
 |succ n=>
  unfold zr at f;rw[r]at f;have F:List.range 2=[0,1]:=rfl;simp[F,A]at f;obtain⟨_,f⟩:=f;cases h0:zr enc P W 0 (fun _=>true) true n e [o]with
  |none=>simp[h0]at f
  |some G=>
   cases z:zr enc P W 0 (fun _=>true) true n e [m]with
   |none=>simp[h0,z]at f
   |some I=>
    obtain⟨n0,z0,_,w0⟩:=yd u h0;obtain⟨n1,z1,_,w1⟩:=yd u z;cases z0;cases z1;have w:DC (FW W) (.pair (.int q)<|.int q) ((n0:Int),(n1:Int)) (cs.toList.map<|KP W.heap.size):=by
     rw[hl];simp only[DC];exact⟨[KP W.heap.size<|.int q n0],[KP W.heap.size<|.int q n1],rfl,by simp[KP],by simp[KP]⟩
    refine⟨((n0:Int),(n1:Int)),(PC.Ce w).1 rfl,⟨by simpa [UL,Lit.wf]using w0,by simpa [UL,Lit.wf]using w1⟩,?_⟩;simp only[OL,Ae];refine⟨cs,rfl,?_⟩;have i:=w.ok;generalize cs.toList=l at i;induction l with
    |nil=>simp
    |cons a l C=>
     simp only[zn,Bm];exact⟨Mu (i _ (by simp)),C fun v D=>i v<|by simp only[zn,yf];exact .inr D⟩
theorem JL:∀ {ts:List TypeId} {args:List Value} {ds:List (DataW H)} {p:List MemPlace},DataW.TrodAll enc P W 0 (fun _=>true) true ts args ds p->ds.length=ts.length
 |[],_,_,_,h=>by obtain⟨_,rfl,_⟩:=trodAll_nil h;rfl
 |t::ts,_,_,_,h=>by
  obtain⟨v0,b,e,a,p0,q0,rfl,rfl,rfl,h0,d⟩:=trodAll_cons h;simp[JL d]
theorem Aht{α:Type}{l:List α}(h:l.length=3):∃a b c,l=[a,b,c]:=by
 match l,h with
 |[a,b,c],_=>exact⟨a,b,c,rfl⟩
end
def tK:Sh->Nat
 | .str=>16
 | .list _=>24
 | .pair a b=>tK a+tK b
 | .unit=>0
 |_=>8
def Wt{H:Type}(P:Program)(t:TypeId)(d:DataW H):Prop:=∀n∈zp P t d,n<=reachBytes
def Ux(P:Program):Nat->TypeId->Bool
 |0,_=>false
 |f+1,t=>match P.underlying t with
  |some (.slice e)=>Ux P f e&&(match shP P f e with|some s=>zx (P.bytesOf e) (tK s)|none=>false)
  |some (.struct fs)=>fs.toList.all fun x=>Ux P f x.type
  |_=>true
def Sl:(s:Sh)->s.T->Prop
 | .list s,l=>(l:List s.T).length*tK s<=reachBytes/\∀x∈(l:List s.T),Sl s x
 | .pair a b,x=>Sl a x.1/\Sl b x.2
 |_,_=>True
def Ac6:(l:List Sh)->(By l).T->Prop
 |[],_=>True
 |[a],x=>Sl a x
 |a::b::l,x=>Sl a x.1/\Ac6 (b::l) x.2
section
variable {H:Type}{enc:TypeId×Value->H}{P:Program}{W:World}{base:Nat}
theorem AgD{e:TypeId}{n:Nat}:∀ {l:List (DataW H)} {d:DataW H},d∈l->n∈zp P e d->n∈DataW.weightsAll P e l
 |x::l,d,a,b=>by
  rw[DataW.weightsAll,zq];rcases yf.1 a with rfl|a
  ·grind
  ·exact .inr<|AgD a b
theorem Ach{n:Nat}:∀ {ts:List TypeId} {l:List (DataW H)} {i:Nat} {t:TypeId} {d:DataW H},ts[i]?=some t->l[i]?=some d->n∈zp P t d->n∈zf P ts l
 |u::ts,x::l,0,t,d,b,a,e=>by
  grind [zf]
 |u::ts,x::l,i+1,t,d,b,a,e=>by
  rw[zf,zq];exact .inr (Ach (i:=i) ah ah e)
 |[],_,_,_,_,b,_,_=>by grind
 |_::_,[],_,_,_,_,a,_=>by grind
theorem Ahm{n:Nat}:∀ {ts b:List TypeId} {ds es:List (DataW H)},ts.length=ds.length->n∈zf P ts ds->n∈zf P (ts++b) (ds++es)
 |t::ts,b,d::ds,es,h,a=>by
  rw[zf,zq]at a;rw[List.cons_append,List.cons_append,zf,zq];exact a.imp id fun x=>Ahm ah x
 |[],_,_,_,_,a=>by grind [zf]
 |_::_,_,[],_,h,_=>by simp at h
theorem Ad5{t e:TypeId}{el sp:List (DataW H)}(a:P.underlying t=some (.slice e))(h:Wt P t (.slice el sp)):(el.length+sp.length)*P.bytesOf e<=reachBytes:=by
 grind [zp,zk,Wt]
theorem Acs{t e:TypeId}{el sp:List (DataW H)}{d:DataW H}(a:P.underlying t=some (.slice e))(h:Wt P t (.slice el sp))(b:d∈el\/d∈sp):Wt P e d:=fun n f=>by
 refine h n ?_;grind [zp,AgD]
theorem AbS{t:TypeId}{fs:Array Field}{l:List (DataW H)}{i:Nat}{f:Field}{d:DataW H}(a:P.underlying t=some (.struct fs))(h:Wt P t (.agg l))(e:fs[i]?=some f)(b:l[i]?=some d):Wt P f.type d:=fun n g=>by
 refine h n ?_;rw[zp,a];exact Ach (i:=i) (t:=f.type) (by simp[e]) b g
theorem Qq{G:TypeId->DataW H->Prop}{f:TypeId->Option Sh}{n:Nat}{cs:List Value}
  (p:∀(t:TypeId) (s:Sh) (cs:List Value) (y:DataW H×List MemPlace),f t=some s->zr enc P W 0 (fun _=>true) true n t cs=some y->G t y.1->∃x:s.T,DC (FW W) s x (cs.map<|KP W.heap.size)/\UL s x/\Sl s x):
  ∀(fs:List Field) (o:Nat) (s:Sh),tF P f o fs=some s->(∀x∈fs,∃z,zr enc P W 0 (fun _=>true) true n x.type ((cs.drop x.offset).take<|P.cellsOf x.type)=some z/\G x.type z.1)->
   ∃x:s.T,DC (FW W) s x (((cs.map<|KP W.heap.size).drop o).take s.sz)/\UL s x/\Sl s x
 |[],o,s,d,_=>by
  cases d;exact⟨(),by rfl,trivial,trivial⟩
 |[x],o,s,d,k=>by
  unfold tF at d;split at d
  case h_2=>cases d
  rename_i j e;cases g:(zx x.offset o&&zx (P.cellsOf x.type) j.sz)with
  |false=>grind
  |true=>
  obtain⟨z,m,i⟩:=k x (by simp);grind [ze,yg,yh]
 |x::x'::l,o,s,d,k=>by
  unfold tF at d;split at d
  case h_2=>cases d
  rename_i j e;cases g:(zx x.offset o&&zx (P.cellsOf x.type) j.sz)with
  |false=>grind
  |true=>
  rw[g]at d;simp only[we,Option.map_eq_some_iff]at d;obtain⟨s2,q,rfl⟩:=d;simp only[zd]at g;obtain⟨z,m,i⟩:=k x (by simp);rw[ze g.1,ze g.2]at m;obtain⟨a,a1,a2,a3⟩:=p _ _ _ _ e m i;obtain⟨b,b1,b2,b3⟩:=Qq p (x'::l) (o+j.sz) s2 q (fun u r=>k u ah);refine⟨(a,b),?_,⟨a2,b2⟩,a3,b3⟩;refine⟨_,_,?_,a1,b1⟩;rw[yg,yh, <-List.drop_drop];exact List.take_add
theorem P1:∀(k u:Nat) (t:TypeId) (s:Sh) (cs:List Value) (y:DataW H×List MemPlace),shP P k t=some s->zr enc P W 0 (fun _=>true) true u t cs=some y->Ux P k t=true->Wt P t y.1->
  ∃x:s.T,DC (FW W) s x (cs.map<|KP W.heap.size)/\UL s x/\Sl s x
 |0,_,_,_,_,_,m,_,_,_=>by cases m
 |k+1,u,t,s,cs,y,m,h,C,D=>by
  have Z:=P1 k;unfold shP at m;split at m
  case h_1 q g=>
   cases m;obtain⟨n,rfl,_,V⟩:=yd g h;exact⟨(n:Int),by rfl,by grind [UL,Lit.wf],trivial⟩
  case h_2 g=>
   cases m;obtain⟨b,rfl,_⟩:=DataW.trod_bool g h;exact⟨b,by rfl,trivial,trivial⟩
  case h_3 g=>
   cases m;obtain⟨b,rfl,_,V⟩:=DataW.trod_string g h;exact⟨b.data.toList,by rfl,by show b.data.toList.length<=maxLen;simp_all,trivial⟩
  case h_4 e g=>
   split at m
   case h_2=>cases m
   rename_i f A;cases E:(zx (P.cellsOf e) f.sz&&Nat.blt 0 f.sz)with
   |false=>grind
   |true=>
   rw[E]at m;cases m;simp only[zd]at E;have L:=ze E.1;have J:=Nat.le_of_ble_eq_true E.2;rcases DataW.trod_slice g h with⟨rfl,_⟩|⟨a,len,cap,w,K,n,rfl,rfl,X,_,hlc,hcm,hel,U,hr,_⟩
   ·exact⟨[],by simp[DC,KP],by simp[UL],by simp[Sl]⟩
   ·obtain⟨hrl,hr⟩:=hr rfl;rw[X]at D;have D:Wt P t (.slice (w.map (·.1)) (K.map (·.1))):=D;unfold Ux at C;rw[g]at C;simp only[A,zd]at C;obtain⟨C,I⟩:=C;have I:=ze I;rw[L]at U hr;by_cases h0:cap=0
    ·obtain rfl:len=0:=ae
     subst h0;exact⟨[],by simp[DC,KP],by simp[UL],by simp[Sl]⟩
    ·
     have all:∀i,i<cap->∃v z,W.cells? 0 (a.add<|i*f.sz) f.sz=some v/\zr enc P W 0 (fun _=>true) true n e v=some z/\Wt P e z.1:=by
      intro i M;by_cases hl:i<len
      ·have j:=U i hl;rw[zg ae]at j;rw[yb]at j;obtain⟨v,B,o⟩:=j;exact⟨v,_,B,o,Acs g D ah⟩
      ·have j:=hr (i-len) ae;rw[show len+(i-len)=i by omega,zg ae]at j;rw[yb]at j;obtain⟨v,B,o⟩:=j;exact⟨v,_,B,o,Acs g D ah⟩
     obtain⟨c0,z0,S,_,_⟩:=all 0 ae;rw[Nat.zero_mul,show a.add 0=a from by rfl]at S;obtain⟨c,tc,fz,hb,hsp,hoff,_⟩:=Ts S J;have N:a.block<W.heap.size:=ah;have Y:=vS hb ae;obtain⟨ab,ao,ax⟩:=a;simp only at hsp hb hoff N Y;subst hsp;have r:∀i,i<cap->ao+i*f.sz+f.sz<=c.size/\∃x:f.T,DC (FW W) f x (((c.toList.map<|KP W.heap.size).drop<|ao+i*f.sz).take f.sz)/\UL f x/\Sl f x:=by
      intro i M;obtain⟨v,z,j,B,hz⟩:=all i M;rw[Addr.NT]at j;obtain⟨c',tc',fz',hb',_,ho',rfl⟩:=Ts j ae;grind [yg,yh]
     obtain⟨l,F,hl2⟩:=cB (p:=fun i (x:f.T)=>DC (FW W) f x (((c.toList.map<|KP W.heap.size).drop<|ao+i*f.sz).take f.sz)/\UL f x/\Sl f x) len fun i M=>(r i ae).2
     refine⟨l,?_,?_,?_⟩
     ·simp only[DC];refine⟨.sl ab ao len cap 0,?_,.inr ⟨ab,ao,cap,0,_,by rw[F],by omega,Y,?_,.inl rfl,ah⟩⟩
      ·simp_all [KP]
      ·rw[F];have:=(r (cap-1) ae).1;have o:cap*f.sz=(cap-1)*f.sz+f.sz:=by rw[<-Nat.succ_mul];grind
       grind
     ·refine⟨by omega,fun x O=>?_⟩;obtain⟨i,M,rfl⟩:=List.mem_iff_getElem.1 O;grind
     ·refine⟨?_,fun x O=>?_⟩
      ·have V:=Ad5 g D;grind
      ·obtain⟨i,M,rfl⟩:=List.mem_iff_getElem.1 O;grind
  case h_5 fs g=>
   split at m
   case h_2=>cases m
   rename_i f A;cases E:zx (P.cellsOf t) f.sz with
   |false=>grind
   |true=>
   have L:=ze E;obtain⟨xs,n,rfl,X,R,hxl,hf⟩:=DataW.trod_struct g h;unfold Ux at C;obtain⟨x,j,B,o⟩:=Qq (G:=fun t d=>Ux P k t=true/\Wt P t d) (cs:=cs) (fun t s cs y j B o=>Z n t s cs y j B o.1 o.2) fs.toList 0 _ A (by grind [List.mem_iff_getElem?,AbS]);grind [yc]
  grind
theorem kZ{k:Nat}{t:TypeId}{s:Sh}{v:Value}{d:DataW H}{p:List MemPlace}(f:shP P k t=some s)(hp:s.OP=false)(i:v.cells.toList=[v])(h:DataW.Trod enc P W 0 (fun _=>true) true t v d p)(e:Ux P k t=true)(g:Wt P t d):
  ∃x:s.T,PC (FW W) (Ce s x) (KP W.heap.size v)/\(UL s x/\Sl s x)/\Ae (pW W) (KP W.heap.size v) v:=by
 obtain⟨a,b⟩:=h;rw[i]at b;obtain⟨x,h1,h2⟩:=P1 k a t s [v] (d,p) f b e g;exact⟨x,(PC.Ce h1).2 hp _ rfl,h2,Mu<|h1.ok _<|by simp⟩
theorem vT{k:Nat}{t:TypeId}{s:Sh}{v:Value}{d:DataW H}{p:List MemPlace}(b:tW P k t=some s)(j:zm P W .any base t v)(h:DataW.Trod enc P W 0 (fun _=>true) true t v d p)(r:Ux P k t=true)(w:Wt P t d):
  ∃x:s.T,PC (FW W) (Ce s x) (OL W.heap.size v)/\(UL s x/\Sl s x)/\Ae (pW W) (OL W.heap.size v) v:=by
 unfold tW at b;split at b
 case h_1=>
  rename_i s1 f;cases b;obtain⟨⟨q,rfl⟩,x,a1,a2,a3⟩:=xZ f j h;exact⟨x,a1,⟨a2,trivial,trivial⟩,a3⟩
 unfold vU at b;split at b
 case h_2=>cases b
 rename_i i m;have plain:((∃k,P.underlying t=some (.int k))\/P.underlying t=some .bool\/P.underlying t=some .string\/∃e,P.underlying t=some (.slice e))->(bif i.OP then none else some i)=some s->∃x:s.T,PC (FW W) (Ce s x) (OL W.heap.size v)/\(UL s x/\Sl s x)/\Ae (pW W) (OL W.heap.size v) v:=by
  intro u z;cases hp:i.OP with
  |true=>grind
  |false=>
   obtain⟨f,n⟩:=one_cell u j;have e:OL W.heap.size v=KP W.heap.size v:=by
    simp_all [OL]
   grind [kZ]
 split at b
 case h_1=>
  rename_i fs o;cases hp:i.OP with
  |false=>grind
  |true=>
   rw[hp]at b;cases b;simp only[zm,o]at j;obtain⟨cs,rfl,_,_⟩:=j;obtain⟨fuel,hf⟩:=h;obtain⟨x,f,n⟩:=P1 k fuel t s _ (d,p) m hf r w;refine⟨x,(PC.Ce f).1 hp,n,?_⟩;refine⟨cs,rfl,?_⟩;have g:=f.ok;have e:(Value.agg cs).cells.toList=cs.toList:=rfl;rw[e]at g;generalize cs.toList=l at g;induction l with
   |nil=>simp
   |cons a l y=>
    grind [Bm,Mu]
 case h_2=>simp_all
 case h_3=>grind
 case h_4=>grind
 case h_5=>simp_all
 grind
theorem S0{k:Nat}:∀ {ts:List TypeId} {a:List Sh} {args:List Value} {ds:List (DataW H)} {p:List MemPlace},Ty P k ts=some a->(∀(j:Nat) t v,ts[j]?=some t->args[j]?=some v->zm P W .any base t v)->
  DataW.TrodAll enc P W 0 (fun _=>true) true ts args ds p->(ts.all<|Ux P k)=true->(∀n∈zf P ts ds,n<=reachBytes)->∃x:(By a).T,Lr (FW W) (Ag a x) (args.map<|OL W.heap.size)/\(wfL a x/\Ac6 a x)/\Ay (pW W) (args.map<|OL W.heap.size) args
 |[],a,args,ds,p,b,_,h,_,_=>by
  cases b;obtain⟨rfl,rfl,rfl⟩:=trodAll_nil h;exact⟨(),fun ρ N=>by rfl,⟨trivial,trivial⟩,by simp⟩
 |t::ts,a,args,ds,p,b,i,h,e,q=>by
  unfold Ty at b;split at b
  case h_2=>cases b
  rename_i s f m w;cases b;obtain⟨v0,d,A,z,p0,q0,rfl,rfl,rfl,h0,u⟩:=trodAll_cons h;rw[List.all_cons,zd]at e;rw[zf]at q;obtain⟨x,a1,a2,a3⟩:=vT m (i 0 t v0 rfl rfl) h0 e.1 (fun n B=>(by simp_all));obtain⟨y,b1,b2,b3⟩:=S0 w (fun j t v o g=>i (j+1) t v o g) u e.2 (by simp_all);have hr:Ay (pW W) ((v0::d).map<|OL W.heap.size) (v0::d):=by simp_all
  cases f with
  |nil=>exact⟨x,fun ρ N=>by
    have:=b1 ρ N;simp only[Ag,D8]at this;simp only[zn,Ag,this,BY,D8,vf];exact a1 ρ N,a2,hr⟩
  |cons s2 r=>exact⟨(x,y),fun ρ N=>by
    simp only[zn,Ag,BY];exact⟨a1 ρ N,b1 ρ N⟩,⟨⟨a2.1,b2.1⟩,a2.2,b2.2⟩,hr⟩
end
open Go.Sp (AF Bs Bq AW Ey Bf B7)
theorem Ada{l:Bq}(h:Sl Bk l):Sp.jN l=true:=by
 obtain⟨_,_,_,_,a,_⟩:=h;have a:l.2.2.2.2.length*32<=140737488351232:=a;exact w4 ae
theorem AeL{c:AF}(h:Sl Ba c):Sp.smC c=true:=by
 obtain⟨⟨s1,s2⟩,⟨t1,_⟩,l1,a⟩:=h;have s1:c.1.length*88<=140737488351232:=s1;have t1:c.2.1.length*40<=140737488351232:=t1;have l1:c.2.2.length*96<=140737488351232:=l1;have s2:∀x∈c.1,Sl Bw x:=s2;have a:∀x∈c.2.2,Sl Bk x:=a;unfold Sp.smC;refine Ab (Ab (Ab (ad ae ae)<|w4 ae)<|ya.2 fun x b=>?_)<|ya.2 fun x b=>Ada<|a x b;obtain⟨_,_,_,_,d,_⟩:=s2 x b;have d:x.2.2.2.2.length*24<=140737488351232:=d;exact w4 ae
open Go.Sp (AF B7)
theorem zC{c:AF}(h:Sl Ba c):c.2.1.all Sp.Ve=true:=by
 grind [Sp.Ve,Sl,tK,reachBytes]
open Go.Sp (AF B7)
theorem AfA{x:(By NY.ins).T}(h:Ac6 NY.ins x):NY.pre x=true:=Ab (AeL h.1)<|zC h.1
end Go.Pe
namespace Go.Proofs.YtbmofcgiokkikaaGreatDoor
open Go
set_option maxRecDepth 100000
theorem seatTie1:Tryz.prog.laidByTextLater [("math/bits.deBruijn32tab",Rows.laid_math_bits_deBruijn32tab),("math/bits.deBruijn64tab",Rows.laid_math_bits_deBruijn64tab),("internal/strconv.uint64pow10",Rows.laid_internal_strconv_uint64pow10),("unicode/utf8.acceptRanges",Rows.laid_unicode_utf8_acceptRanges),("strconv.ErrRange",Rows.laid_strconv_ErrRange),("strconv.ErrSyntax",Rows.laid_strconv_ErrSyntax)] [.data,.data,.data,.data,.sentinel,.sentinel] true:=
 Program.laidByTextLater_by_one 72 8 65 ag ag ag ag ag ag (fun _ _=>by kernel_rfl)
theorem noOwnUnsafe:Tryz.pinned.checked.prog.headLifts.contains "ownunsafe"=false:=by kernel_rfl
theorem fits1:Tryz.pinned.checked.prog.listedFits Rows.ratingDriftsRow.laid=true:=by
 unfold Program.listedFits;rw[noOwnUnsafe];kernel_rfl
theorem ratingDrifts_row_tie:Rows.ratingDriftsRow.laidByTextAt .later Tryz.pinned [.data,.data,.data,.data,.sentinel,.sentinel,.pinned] true:=by
 refine OpenClaim.laidByTextAt_pinned rfl rfl seatTie1 rfl rfl rfl rfl (fun y a _e=>?_) fits1;simp only[Rows.ratingDriftsRow,List.zip_cons_cons,List.zip_nil_right,yf,List.mem_nil_iff,or_false]at a;rcases a with rfl|rfl|rfl|rfl|rfl|rfl|rfl
 ·cases _e
 ·cases _e
 ·cases _e
 ·cases _e
 ·cases _e
 ·cases _e
 ·exact⟨by kernel_rfl,by kernel_rfl⟩
end Go.Proofs.YtbmofcgiokkikaaGreatDoor
