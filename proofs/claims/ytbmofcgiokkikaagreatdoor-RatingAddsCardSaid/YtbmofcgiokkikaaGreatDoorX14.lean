import Derived.Test.YtbmofcgiokkikaaGreatDoorX13
/- A part of a proof; no law is stated here. -/
noncomputable section
open Go.IntKind renaming wrap -> zc, i64 -> zh, u64 -> zt
open Go.Pe.Sh renaming list -> zd, str -> ze, pair -> zf, int -> zl, bool -> zu, nlist -> yh
open Classical renaming propDecidable -> zi
open Nat renaming add -> zj
open Go.Sp renaming first -> zk, isName -> zn, letter -> zo, mark -> z7, pt -> yd, Ce -> ye, BJ -> yg
open Bool renaming and_eq_true -> zm, or_eq_false_iff -> zq, not_eq_true' -> zy, and_eq_false_iff -> zz
open Go.Pe.Ends renaming leaf -> zp, tt -> z6, eq -> yj
open Go.Fn renaming func -> zr
open List renaming mem_cons_of_mem -> z8, pairwise_append -> ya, mem_cons_self -> yc, all_cons -> yf, headD_cons -> yi
open Go.Pe.PV renaming agg -> yb
open Rat renaming zero_add -> yk
open Go.Pe.Ac renaming of -> ym
namespace Go.Sp
theorem ZR(s:Bi)(n:Int):plV s n=if (n:Rat)+(Ax s.1+Ax s.2.1+Ax s.2.2.1)<0 then 0 else(n:Rat)+(Ax s.1+Ax s.2.1+Ax s.2.2.1):=rfl
theorem SI(ws:List AZ)(o:EJ)(l:List EJ):obV ws (o::l)=lookW ws o.1*((o.2:Rat)/10)+obV ws l:=by rw[obV]
theorem K0(k:Bm):∀ws:List AZ,lookW ws k=match ws.find? fun w=>decide (w.1=k)with
  |some w=>Ax w.2
  |none=>0
 |[]=>rfl
 |w::l=>by
  rw[lookW,List.find?_cons];by_cases h:w.1=k
  ·rw[wd h,w4 h]
  ·rw[wc h,w8 h];exact K0 k l
end Go.Sp
namespace Go.Pe
open Sp
open Go.Det
open Go.Sp (At Bi Be AZ EJ Bm)
structure HoR(s:Bi):Prop where
 rise:RS 20 (CC s.1) (Ax s.1)
 wind:RS 20 (CC s.2.1) (Ax s.2.1)
 lay:RS 20 (CC s.2.2.1) (Ax s.2.2.1)
 roll:RS 20 (CC s.2.2.2.1) (Ax s.2.2.2.1)
theorem xX{s:Bi}(h:jJ s)(k:Sp.Bg s=true):HoR s:=by
 obtain⟨c,a,d,b,_⟩:=PY k;exact⟨Er h.rise c af,Er h.wind a af,Er h.lay d af,Er h.roll b af⟩
structure LvR(l:Be):Prop where
 head:RS 20 (CC l.2.1) (Ax l.2.1)
 next:RS 20 (CC l.2.2.1) (Ax l.2.2.1)
 hp:0<Ax l.2.1
 np:0<Ax l.2.2.1
 wts:∀w∈l.2.2.2.2,RS 20 (CC w.2) (Ax w.2)
theorem Xc:(0:Rat)<1:=by decide+kernel
theorem AfU{l:Be}(h:nJ l)(k:AaB l):LvR l:=
 ⟨Er h.head k.head af,Er h.next k.next af,Std.lt_of_lt_of_le Xc h.headB.1,Std.lt_of_lt_of_le Xc h.nextB.1,fun w a=>Er (h.wts w a).1 (k.wts w a).2 af⟩
structure AtP(c:At)(t h:Int):Prop where
 co:Zx c
 sh:Gc c=true
 t0:0<=t/\t<(c.2.1.length:Int)
 h0:0<=h/\h<(c.1.length:Int)
 te:1<=HH c t h/\HH c t h<=10000
 tl:(c.2.1.getD t.toNat ([],[])).2.length=c.1.length
 st:jJ (BC c h)
 hr:HoR (BC c h)
theorem Uz{c:At}{t h:Int}(k:Sp.okP c t h=true):AtP c t h:=by
 unfold Sp.okP at k;rw[zm,w5]at k;obtain⟨sh,e⟩:=k;obtain⟨e1,e2⟩:=Iu e;rw[zq]at e2;have co:=GV e1;obtain⟨s1,s2⟩:=VV co sh e2.2;obtain⟨t1,t2,t3⟩:=Aar co e2.1 e2.2;exact⟨co,sh,DN e2.1,DN e2.2,⟨t1,t2⟩,t3,s1,xX s1 s2⟩
structure AtL(c:At)(l:Int):Prop where
 co:Zx c
 sh:Gc c=true
 l0:0<=l/\l<(c.2.2.length:Int)
 lv:nJ (CQ c l)
 ls:AaB (CQ c l)
 lr:LvR (CQ c l)
theorem aI{c:At}{t h l:Int}(k:Nf c t h l=true):Sp.okP c t h=true/\Sp.okO c h l=true:=by
 unfold Nf at k;rw[zm,w5]at k;obtain⟨sh,e⟩:=k;obtain⟨e1,e2⟩:=Iu e;rw[zq,zq]at e2;have mk:∀b:Bool,b=false->GD c b=0:=fun b a=>by
  unfold GD;rw[wc (by simpa using e1),a];rfl
 exact⟨Ab sh (w4<|mk _<|by rw[e2.1,e2.2.1];rfl),Ab sh<|w4<|mk _<|by rw[e2.2.1,e2.2.2];rfl⟩
theorem OC{c:At}{h l:Int}(k:Sp.okO c h l=true):AtL c l/\(0<=h/\h<(c.1.length:Int))/\jJ (BC c h)/\HoR (BC c h):=by
 unfold Sp.okO at k;rw[zm,w5]at k;obtain⟨sh,e⟩:=k;obtain⟨e1,e2⟩:=Iu e;rw[zq]at e2;have co:=GV e1;obtain⟨l1,l2⟩:=Ab5 co sh e2.2;obtain⟨s1,s2⟩:=VV co sh e2.1;exact⟨⟨co,sh,DN e2.2,l1,l2,AfU l1 l2⟩,DN e2.1,s1,xX s1 s2⟩
theorem yX{n:Int}(h:1<=n/\n<=10000):RS 5 (Sp.iF n) (n:Rat):=Mb ae af af
theorem sF{c:At}{t h:Int}(k:AtP c t h):RS 70 (zR c t h) ((HH c t h:Rat)+(Ax (BC c h).1+Ax (BC c h).2.1+Ax (BC c h).2.2.1)):=by
 have z:RS 1 Sp.zF 0:=Gu;have a1:=z.add k.hr.rise af af;have a2:=a1.add k.hr.wind af af;have a3:=a2.add k.hr.lay af af;have a4:=(yX k.te).add a3 af af;rw[yk]at a4;exact a4.mono af
theorem tV{c:At}{t h:Int}(k:AtP c t h):RS 70 (V1 c t h) (My c t h):=by
 have a:=sF k;unfold V1 My;rw[ZR];by_cases s:Rl (zR c t h)<0
 ·rw[wd s,wd<|a.Pm.1.1 s];exact(Gu).mono af
 ·rw[wc s,wc fun x=>s<|a.Pm.1.2 x];exact a
theorem Qc{a b:Rat}(d:0<a)(c:0<=b):0<a+b:=ah
theorem tU{c:At}{t h l:Int}(k:Nf c t h l=true):RS 194 (eH c t h l) (S4 c t h l):=by
 obtain⟨kp,ko⟩:=aI k;have P:=Uz kp;obtain⟨L,_,_,_⟩:=OC ko;have p:=tV P;have r:=P.hr.roll;have a:=P.st.rollB.1;have reach:=L.lr.head.add r af af;have b:=L.lr.next.add r af af;have h0:Ax (CQ c l).2.1+Ax (BC c h).2.2.2.1≠0:=Rat.ne_of_gt<|Qc L.lr.hp a;have n0:Ax (CQ c l).2.2.1+Ax (BC c h).2.2.2.1≠0:=Rat.ne_of_gt<|Qc L.lr.np a;unfold eH S4 iS Jc Yy Lu;by_cases s:DD (V1 c t h) (B4 (CC (CQ c l).2.1)<|CC (BC c h).2.2.2.1)<=0
 ·rw[wd s,wd<|(p.IZ reach).1 s];exact((p.mul L.lr.head af af).div reach af af h0).mono af
 ·rw[wc s,wc fun x=>s<|(p.IZ reach).2 x];have d:=p.sub reach af af;have m:=d.mul L.lr.next af af;have q:=m.div b af af n0;exact(L.lr.head.add q af af).mono af
theorem Ni{n:Int}(h:0<=n/\n<=10):RS 2 (TW (n,BA n) (10,BA 10)) ((n:Rat)/10):=by
 have a:Cn n=true:=by
  unfold Cn;exact ad ae ae
 obtain⟨a1,a2⟩:=FF a;obtain⟨b1,b2⟩:=FF (n:=10) rfl;have r:=KY a1 b1 (by rw[b2];decide);rw[a2,b2]at r;have e:Rat.divInt n 10=(n:Rat)/10:=by rw[Rat.divInt_eq_div];rfl
 rw[e]at r;exact⟨r,by rw[<-e];exact I5 af ae af⟩
theorem zN{ws:List AZ}(d:∀w∈ws,RS 20 (CC w.2)<|Ax w.2):∀ {l:List EJ} {K:Nat} {f:Ad} {q:Rat},(∀o∈l,0<=o.2/\o.2<=10)->RS K f q->K+23*l.length<=4000->RS (K+23*l.length) (YJ ws f l) (q+Sp.obV ws l)
 |[],K,f,q,_,b,_=>by
  show RS K f<|q+0;rw[Rat.add_zero];exact b
 |o::l,K,f,q,e,b,h=>by
  rw[List.length_cons]at h ⊢;have j:=e o<|yc ..;have g:=fun x i=>e x<|z8 _ i
  rw[SI,K0,YJ];cases c:ws.find? fun w=>decide (w.1=o.1)with
  |none=>
   simp only;rw[Rat.zero_mul,yk];exact(zN d g b ae).mono ae
  |some w=>
   simp only;have k:=List.mem_of_find?_eq_some c;have m:=(d w k).mul (Ni j) af af;have a:=b.add m ae af;have:=zN d (l:=l) g a ae;rw[<-Rat.add_assoc];exact this.mono ae
theorem Y2{c:At}{h l:Int}(k:Sp.okO c h l=true):RS 369 (Sp.obF c h l) (rM c h l):=by
 obtain⟨L,_,S,_⟩:=OC k;have:=zN L.lr.wts (K:=1) (f:=Sp.zF) (q:=0) S.obs Gu (by have:=S.len;omega);rw[yk]at this;exact this.mono (by have:=S.len;omega)
theorem Af4{u v a b:Rat}(h:a<b):u+(v-u)*(b-a)/(b-a)=v:=by
 have h0:b-a≠0:=OG h;rw[Rat.mul_div_cancel h0];grind
theorem xE{x:Ad}{X:Rat}{K:Nat}(a:RS K x X)(r:K<=2000):∀(l:List AZ) (o:Option AZ),(o=none->l≠[])->(∀q,o=some q->RS 20 (CC q.1) (Ax q.1)/\RS 20 (CC q.2) (Ax q.2))->(∀p∈l,p.1.length<=20/\p.2.length<=20)->D0 o l=0->RS (K+145) (Sp.cvF o l x) (Qj (o.map yd) (l.map yd) X)
 |[],none,h,_,_,_=>wh rfl (h rfl)
 |[],some q,_,b,_,_=>by
  rw[Sp.cvF];show RS _ _<|Qj (some<|yd q) [] X;rw[gE];exact(b q rfl).2.mono ae
 |p::l,none,_,_,f,i=>by
  obtain⟨k,n,j⟩:=JN i;obtain⟨l1,l2⟩:=f p<|yc ..;have p1:=Er k l1 af;have p2:=Er n l2 af;show RS _ _<|Qj none (yd p::l.map yd) X;rw[Su,Sp.cvF];by_cases c:DD x (CC p.1)>0
  ·rw[wd c,wd<|show(yd p).1<X from(a.OE p1).1 c];exact xE a r l (some p) (fun h=>by cases h) (fun q b=>by cases b;exact⟨p1,p2⟩) (fun y m=>f y<|z8 _ m) j
  ·rw[wc c,wc<|show ¬(yd p).1<X from fun h=>c<|(a.OE p1).2 h];exact p2.mono ae
 |p::l,some q,_,b,f,i=>by
  obtain⟨k,n,g,j⟩:=Ia i;obtain⟨l1,l2⟩:=f p<|yc ..;obtain⟨q1,q2⟩:=b q rfl;have p1:=Er k l1 af;have p2:=Er n l2 af;show RS _ _<|Qj (some<|yd q) (yd p::l.map yd) X;rw[Q1,Sp.cvF];by_cases c:DD x (CC p.1)>0
  ·rw[wd c,wd<|show(yd p).1<X from(a.OE p1).1 c];exact xE a r l (some p) (fun h=>by cases h) (fun q b=>by cases b;exact⟨p1,p2⟩) (fun y m=>f y<|z8 _ m) j
  ·rw[wc c,wc<|show ¬(yd p).1<X from fun h=>c<|(a.OE p1).2 h];by_cases d:DD x (CC p.1)=0
   ·rw[wd d];have e:X=(yd p).1:=(a.cmp_eq p1).1 d;rw[e,Af4<|show(yd q).1<(yd p).1 from g];exact p2.mono ae
   ·rw[wc d];have s1:=p2.sub q2 af af;have s2:=a.sub q1 ae af;have s3:=s1.mul s2 af ae;have s4:=p1.sub q1 af af;have s5:=s3.div s4 ae af<|OG g;exact(q2.add s5 af ae).mono ae
theorem oY{t:List AZ}{x:Ad}{X:Rat}{K:Nat}(c:RS K x X)(e:K<=2000)(b:BL t=0)(d:∀p∈t,p.1.length<=20/\p.2.length<=20):RS (K+145) (Sp.vlF t x) (Qj none (Agk t) X):=by
 obtain⟨g,_,a⟩:=DK b;exact xE c e t none (fun _=>g) (fun q f=>by cases f) d a
theorem AdQ{c:At}{t h l:Int}(k:Nf c t h l=true):RS 709 (UQ c t h l) (CA c t h l):=by
 obtain⟨_,ko⟩:=aI k;obtain⟨L,_,_,_⟩:=OC ko;exact((oY (tU k) af L.lv.SQ L.ls.SQ).add (Y2 ko) af af).mono af
end Go.Pe
namespace Go.Sp
def OkY(t:List AZ)(x:Ad):Prop:=BL t=0/\(∀p∈t,p.1.length<=20/\p.2.length<=20)/\∃X,Go.Pe.RS 300 x X
def okY(t:List AZ)(x:Ad):Bool:=@decide (OkY t x) (zi _)
theorem Af8{t:List AZ}{x:Ad}(h:okY t x=true):OkY t x:=@w6 _ (zi _) h
theorem Aex{t:List AZ}{x:Ad}(h:OkY t x):okY t x=true:=@w4 _ (zi _) h
end Go.Sp
namespace Go.Pe
open Sp
open Go.Det
def Ahs:Am:=⟨[.list Cf,Aq],fun i=>Sp.okY i.1 i.2,[Aq],fun i=>((AiW i.1 i.2,AjD i.1 i.2),(Ajn i.1 i.2,Ajs i.1 i.2)),false⟩
def VZ:Am:=⟨[.list Cf,.str],fun i=>decide (List.length (α:=AZ) i.1<=1000)&&He 100 i.1&&decide (ZK i.1 i.2=0),[.str],fun i=>wF i.1 i.2,false⟩
def uW:Am:=⟨[Aq,Aq],fun i=>yg (i.1:Ad)&&yg (i.2:Ad),[.bool],fun i=>decide (DD (i.1:Ad) (i.2:Ad)=0),false⟩
def Ahc:AG:=X7 [(73,OW)]
def Pz:AG:=SV [(100,[2,13])] [(100,[(2,[(3,AT)]),(13,[(12,Vk),(13,Aq)])])] [(100,[(14,[6,7,10,40,41,42]),(13,[6,7,10,12,13,40,41,42]),(10,[6,7,10,40,41,42]),(9,[6,7,10,40,41,42]),(4,[1,3,6,7,21,22,23]),(3,[1,3,6,7,21,22,23]),(2,[1,2,3,6,7])])] [(96,M7),(57,cF),(68,Sy),(120,dK),(65,QR),(59,JG)]
def S5:AG:=SV [(135,[1,8,9])] [(135,[(1,[(3,Aq)]),(8,[(7,Aq),(8,Aq)]),(9,[(9,Aq),(10,Aq)])])] [(135,[(10,[0,3,4,11,12,13]),(8,[0,3,4,5,7,8]),(6,[0,3,4,5,7,8]),(3,[0,3,4,11,12,13]),(2,[0,3,4,11,12,13]),(1,[0,3,4]),(9,[3,4,7,8,9,10])])] [(96,M7),(73,OW),(185,uW),(59,JG),(64,W9),(65,QR),(97,tS)]
def AeF:AG:=SV [(70,[1])] [(70,[(1,[(4,AT)])])] [(70,[(1,[1,2,3,4,8])])] [(99,cEf),(100,cOb),(135,Ahs),(59,JG)]
def Ag3:AG:=X7 [(52,TC),(79,qO),(53,K5),(51,Hk),(54,Nk),(100,cOb),(70,cRt)]
def Py:AG:=SV [(128,[3])] [(128,[(3,[(8,Bg),(9,Ba)])])] [(128,[(8,[7,8,9,10,11]),(9,[7,8,9,10,11]),(7,[7,8,9,10,11]),(6,[7,8,9,10]),(4,[7,8,9,10]),(3,[7,8,9])])] [(81,cN),(74,Na),(30,Jg)]
def Agv:AG:=SV [(62,[1])] [(62,[(1,[(4,AT)])])] [(62,[(1,[1,2,3,4])])] [(126,VZ),(127,AhW),(128,Aim),(30,Jg)]
end Go.Pe
namespace Go.Sp
def En(c:At)(t l:Int):Int:=GD c<|ME c t||Hc c l
def Nc(c:At)(t l:Int):Nat->Nat->Rat
 |_,0=>0
 |i,k+1=>CA c t (i:Int) l+Nc c t l (i+1) k
def HY(c:At)(t l:Int):Rat:=Nc c t l 0 c.1.length
def suF(c:At)(t l:Int):Ad->Nat->Nat->Ad
 |f,_,0=>f
 |f,i,k+1=>suF c t l (B4 f<|UQ c t (i:Int) l) (i+1) k
def Hj(c:At)(t l:Int):Ad:=suF c t l zF 0 c.1.length
def AjB(c:At)(t l:Int):Int:=nS<|Hj c t l
def Ajm(c:At)(t l:Int):List Int:=nW<|Hj c t l
def Ajy(c:At)(t l:Int):Int:=dS<|Hj c t l
def Aj5(c:At)(t l:Int):List Int:=dW<|Hj c t l
def GQ(q:Rat):Int:=(q+1/2).floor
def Iz(q:Rat):Rat:=(GQ (q*10):Rat)/10
def hfF:Ad:=((1,BA 1),(2,BA 2))
def mU(f:Ad):AL:=Hb (B4 f hfF).1 (B4 f hfF).2
def rnS(f:Ad):Int:=(mU f).1
def rnW(f:Ad):List Int:=(mU f).2
def Mf(f:Ad):Ad:=TW (mU<|Ed f<|iF 10) (10,BA 10)
def Aj8(f:Ad):Int:=nS<|Mf f
def Ai3(f:Ad):List Int:=nW<|Mf f
def Ai6(f:Ad):Int:=dS<|Mf f
def Aj3(f:Ad):List Int:=dW<|Mf f
def OkT(x:Ad):Prop:=∃X,Go.Pe.RS 3000 x X
def okT(x:Ad):Bool:=@decide (OkT x) (zi _)
theorem Afw{x:Ad}(h:okT x=true):OkT x:=@w6 _ (zi _) h
theorem vW{x:Ad}(h:OkT x):okT x=true:=@w4 _ (zi _) h
def OkV(x:Ad):Prop:=∃X,Go.Pe.RS 2000 x X
def okV(x:Ad):Bool:=@decide (OkV x) (zi _)
theorem Aem{x:Ad}(h:okV x=true):OkV x:=@w6 _ (zi _) h
theorem Us{x:Ad}(h:OkV x):okV x=true:=@w4 _ (zi _) h
def GM(c:At):Bool:=Gc c&&(decide (HR c≠0)||KS c 6 4)
def DG(c:At)(t l:Int):Bool:=Gc c&&decide (En c t l=0)&&KS c 6 4
def exT(c:At)(t l:Int):Bm:=jR (En c t l)<|HY c t l
def exE(c:At)(t l:Int):Int:=lQ (En c t l)<|HY c t l
def raT(c:At)(t l:Int):Bm:=jR (En c t l)<|Iz<|HY c t l
def raE(c:At)(t l:Int):Int:=lQ (En c t l)<|Iz<|HY c t l
def Oo(c:At):Nat:=c.1.length/2
def SP(c:At)(t l:Int):Rat:=Nc c t l 0<|Oo c
def SY(c:At)(t l:Int):Rat:=Nc c t l (Oo c)<|c.1.length-Oo c
def niA(c:At)(t l:Int):Bm:=if En c t l≠0 then[]else Az<|SP c t l
def niB(c:At)(t l:Int):Bm:=if En c t l≠0 then[]else Az<|SY c t l
def paR(c:At)(t l i k:Int):Bm:=Az<|Nc c t l i.toNat (k-i).toNat
def NL(c:At)(t l:Int):Bm:=Az<|HY c t l
def fO(c:At)(t l:Int):Bm:=Az<|Iz<|HY c t l
def wZ(c:At)(i k:Int):Bool:=decide (0<=i)&&decide (i<=k)&&decide (k<=(c.1.length:Int))
end Go.Sp
namespace Go.Pe
open Sp
open Go.Det
def cEx:Am:=⟨[AT,i64,i64],fun i=>DG i.1 i.2.1 i.2.2,[Aq],fun i=>((AjB i.1 i.2.1 i.2.2,Ajm i.1 i.2.1 i.2.2),(Ajy i.1 i.2.1 i.2.2,Aj5 i.1 i.2.1 i.2.2)),false⟩
def nI:Am:=⟨[Aq],fun a=>Sp.okT a,[A4],fun a=>(Sp.rnS a,Sp.rnW a),false⟩
def Agy:Am:=⟨[Aq],fun a=>Sp.okV a,[Aq],fun a=>((Aj8 a,Ai3 a),(Ai6 a,Aj3 a)),false⟩
def uU:Am:=⟨[AT,i64,i64],fun i=>GM i.1,[.str,i64],fun i=>(Sp.exT i.1 i.2.1 i.2.2,Sp.exE i.1 i.2.1 i.2.2),false⟩
def eF:Am:=⟨[AT,i64,i64],fun i=>GM i.1,[.str,i64],fun i=>(Sp.raT i.1 i.2.1 i.2.2,Sp.raE i.1 i.2.1 i.2.2),false⟩
def tP:Am:=⟨[AT,i64,i64],fun i=>GM i.1,[.str,.str,i64],fun i=>(Sp.niA i.1 i.2.1 i.2.2,Sp.niB i.1 i.2.1 i.2.2,En i.1 i.2.1 i.2.2),false⟩
def AdY:Am:=⟨[AT,i64,i64,i64,i64],fun i=>DG i.1 i.2.1 i.2.2.1&&wZ i.1 i.2.2.2.1 i.2.2.2.2,[.str],fun i=>Sp.paR i.1 i.2.1 i.2.2.1 i.2.2.2.1 i.2.2.2.2,false⟩
def AeX:Am:=⟨[AT,i64,i64],fun i=>DG i.1 i.2.1 i.2.2,[.str],fun i=>NL i.1 i.2.1 i.2.2,false⟩
def AgT:Am:=⟨[AT,i64,i64],fun i=>DG i.1 i.2.1 i.2.2,[.str],fun i=>fO i.1 i.2.1 i.2.2,false⟩
def PA:AG:=X7 [(70,cRt),(57,cF),(59,JG)]
def Af0:AG:=X7 [(68,Sy),(59,JG),(132,oN)]
def Afl:AG:=X7 [(57,cF),(65,QR),(66,nI),(68,Sy),(120,dK)]
def sT:AG:=X7 [(52,TC),(53,K5),(51,Hk),(54,Nk),(55,cEx),(56,Agy)]
def Mj:AG:=X7 [(52,TC),(53,K5),(51,Hk),(54,Nk),(70,cRt),(57,cF),(59,JG),(60,G6)]
def uS:AG:=X7 [(62,Agb),(30,Jg)]
def AeC:AG:=X7 [(18,AdY)]
def AeH:AG:=X7 [(130,gX),(30,Jg),(129,V6),(74,Na)]
def Ago:AG:=X7 [(19,AeX),(63,Wq)]
end Go.Pe
namespace Go.Sp
def DW(c:At)(t g w:Int):Int:=GD c<|ME c t||(Hc c g||Hc c w)
def Wy(c:At)(t g w:Int):Rat:=(HY c t w-HY c t g)*5
def tQ(n:Int):Int:=if n<55 then 55 else if 155<n then 155 else n
def Vr(c:At)(t g w:Int):Int:=if DW c t g w≠0 then 0 else tQ<|GQ<|Wy c t g w
def slR(c:At)(t g w:Int):Int:=tQ<|GQ<|Wy c t g w
def jB(c:At)(t g w:Int):Bool:=Gc c&&decide (DW c t g w=0)&&KS c 6 4
end Go.Sp
namespace Go.Pe
open Go.Det
def Wj:Am:=⟨[AT,i64,i64,i64],fun i=>Sp.GM i.1,[i64,i64],fun i=>(Sp.Vr i.1 i.2.1 i.2.2.1 i.2.2.2,Sp.DW i.1 i.2.1 i.2.2.1 i.2.2.2),false⟩
def Aeh:Am:=⟨[AT,i64,i64,i64],fun i=>Sp.jB i.1 i.2.1 i.2.2.1 i.2.2.2,[i64],fun i=>Sp.slR i.1 i.2.1 i.2.2.1 i.2.2.2,false⟩
def AfG:AG:=X7 [(52,TC),(53,K5),(51,Hk),(55,cEx),(57,cF),(64,W9),(65,QR),(66,nI),(68,Sy),(67,dZ),(69,wK)]
def Afv:AG:=X7 [(19,AeX),(31,R5),(74,Na),(63,Wq),(32,Lp),(77,Wo)]
end Go.Pe
namespace Go.Sp
def S9(R:Int->Int->Bool)(x:Int):List Int->List Int->List Int
 |[],P=>x::P
 |y::r,P=>if R x y=true then S9 R x r (y::P)else(y::r).reverse++x::P
def Zn(R:Int->Int->Bool)(o:List Int)(x:Int):List Int:=S9 R x o.reverse []
def Bf(g:Int->Rat)(a b:Int):Prop:=g b<g a\/(g a=g b/\a<b)
theorem W8{g:Int->Rat}{a b c:Int}(h:Bf g a b)(k:Bf g b c):Bf g a c:=by
 unfold Bf at*;grind
theorem Nj{g:Int->Rat}{a b:Int}(h:Bf g a b):¬Bf g b a:=by
 unfold Bf at*;grind
theorem TD{R:Int->Int->Bool}{x:Int}:∀ {r P:List Int},(S9 R x r P).Perm (x::(r.reverse++P))
 |[],P=>by rfl
 |y::r,P=>by
  unfold S9;split
  ·refine(TD (r:=r) (P:=y::P)).trans ?_;simp
  grind
theorem jP(R:Int->Int->Bool)(o:List Int)(x:Int):(Zn R o x).Perm (o++[x]):=by
 refine TD.trans ?_;grind
theorem TK{g:Int->Rat}{R:Int->Int->Bool}(hR:∀a b,R a b=true↔g b<g a){x:Int}:∀ {r P:List Int},(r.reverse++P).Pairwise (Bf g)->(∀y∈r,y<x)->(∀y∈P,Bf g x y)->(S9 R x r P).Pairwise (Bf g)
 |[],P,h,_,i=>by
  grind [S9]
 |y::r,P,h,hr,i=>by
  unfold S9;have h':(r.reverse++y::P).Pairwise (Bf g):=ah
  split
  ·next c=>
   refine TK hR h' ah fun z e=>?_
   rcases List.mem_cons.1 e with rfl|e
   ·exact .inl<|(hR _ _).1 c
   grind
  ·next c=>
   have q:=ya.1 h;rw[ya,List.pairwise_cons];refine⟨q.1,ah,fun a f b k=>?_⟩;have d:Bf g y x:=by
    grind [Bf]
   have j:Bf g a x:=by
    rcases List.mem_cons.1 (List.mem_reverse.1 f)with rfl|f
    ·exact d
    grind [W8]
   grind
theorem iW{g:Int->Rat}{R:Int->Int->Bool}(hR:∀a b,R a b=true↔g b<g a){o:List Int}{x:Int}(h:o.Pairwise (Bf g))(c:∀y∈o,y<x):(Zn R o x).Pairwise (Bf g):=by
 grind [Zn,TK]
def BN(n:Nat):List Int:=(List.range n).map fun(i:Nat)=>(i:Int)
theorem EC(n:Nat):BN (n+1)=BN n++[(n:Int)]:=by
 grind [BN,List.range_succ]
theorem ER{n:Nat}{x:Int}:x∈BN n↔0<=x/\x<(n:Int):=by
 unfold BN;rw[List.mem_map];constructor
 ·grind
 ·intro h;exact⟨x.toNat,ah,by omega⟩
theorem Rp{g:Int->Rat}{R:Int->Int->Bool}(hR:∀a b,R a b=true↔g b<g a):∀n:Nat,(((BN n).foldl (Zn R) []).Pairwise<|Bf g)/\(((BN n).foldl (Zn R) []).Perm<|BN n)
 |0=>⟨List.Pairwise.nil,(by rfl)⟩
 |n+1=>by
  obtain⟨a,b⟩:=Rp hR n;grind [EC,iW,ER,jP]
theorem ahead{g:Int->Rat}{l:List Int}(h:l.Pairwise (Bf g)){i:Nat}(d:i<l.length)(p:Int->Bool)(hp:∀a,p a=true↔Bf g a (l.getD i 0)):l.countP p=i:=by
 have e:l=l.take i++l.getD i 0::l.drop (i+1):=by
  simp_all
 generalize l.getD i 0=x at*;rw[e]at h;obtain⟨_,b,c⟩:=ya.1 h;rw[List.pairwise_cons]at b;rw[e,List.countP_append,List.countP_cons,List.countP_eq_length.2,List.countP_eq_zero.2]
 ·have:¬Bf g x x:=fun k=>Nj k k
  grind
 ·grind [Nj]
 grind
def Uq(c:At)(t g w i:Int):Rat:=CA c t i w-CA c t i g
def mX(c:At)(t g w i:Int):Ad:=D7 (UQ c t i w)<|UQ c t i g
def zZ(c:At)(t g w a b:Int):Bool:=decide (Uq c t g w b<Uq c t g w a)
def Ip(c:At)(t g w:Int)(n:Nat):List Int:=(BN n).foldl (Zn<|zZ c t g w) []
def Wd(c:At)(t g w i k:Int):Bool:=decide (Uq c t g w i<Uq c t g w k)||(decide (Uq c t g w k=Uq c t g w i)&&decide (k<i))
def NH(c:At)(t g w:Int)(n:Nat)(i:Int):Int:=1+(((BN n).countP (Wd c t g w i):Nat):Int)
def O5(c:At)(t g w:Int):List Int:=(BN c.1.length).map<|NH c t g w c.1.length
def cZ:Nat->List Int->List Int->List Int
 |_,[],out=>out
 |i,h::r,out=>cZ (i+1) r<|out.set h.toNat<|(i:Int)+1
def ixI(c:At)(t g w:Int):List Int:=cZ 0 (Ip c t g w c.1.length)<|List.replicate c.1.length 0
def Wx(c:At)(t g w:Int):List Int:=if DW c t g w≠0 then[]else ixI c t g w
end Go.Sp
namespace Go.Pe
open Go.Det
def Jz:Am:=⟨[AT,i64,i64,i64],fun i=>Sp.GM i.1,[jT,i64],fun i=>(Sp.Wx i.1 i.2.1 i.2.2.1 i.2.2.2,Sp.DW i.1 i.2.1 i.2.2.1 i.2.2.2),false⟩
def Afe:Am:=⟨[AT,i64,i64,i64],fun i=>Sp.jB i.1 i.2.1 i.2.2.1 i.2.2.2,[jT],fun i=>Sp.O5 i.1 i.2.1 i.2.2.1 i.2.2.2,false⟩
def Ai2:Am:=⟨[i64],fun _=>false,[i64],fun _=>0,false⟩
def GB:AG:=X7 [(62,Agb),(31,R5),(32,Lp)]
def Dq:AG:=SV [(22,[11])] [(22,[(11,[(12,.list Aq)])])] [(22,[(11,[11,12]),(15,[15,59,60,61]),(14,[15,59,60,61]),(9,[4,5,6,11,12]),(4,[3,4,5,6,13,14])])] [(52,TC),(53,K5),(51,Hk),(70,cRt),(64,W9),(73,OW),(187,Ai2)]
open Sp
section
open List Int Prod
namespace T27
def T(c:At)(t g w:Int):Tr:=tree GB false 9 27<|Af ([AT,zl zh,zl zh,zl zh]) (c,t,g,w)
def L1(v1 v2 v3 c:Int)(d:List Bi)(a:List Bw)(b:List Be):Tr:=re ((T ([],([],[])) 0 0 0))<|Ap 76 [(1,.dat i64 v1),(2,.dat i64 v2),(3,.dat i64 v3),(4,.ptr 0 0),(9,.nil),(10,.dat i64 c)] [(0,.box [.dat (zd Bg) d,.dat (zd BU) a,.dat (zd Ba) b])] 1
theorem Ai(c:At)(t g w:Int):T c t g w=L1 t g w 0 (fst c) (fst<|snd c) (snd<|snd c):=by kernel_rfl
def L2(v1 v2 v3:Int)(c:Nat)(d:Int)(o1:List Z)(e:List Bi)(b:List Bw)(a:List Be):Tr:=re ((stepT GB<|L1 0 0 0 0 [] [] []).L.L.L.L.L)<|Ap 76 [(1,.dat i64 v1),(2,.dat i64 v2),(3,.dat i64 v3),(4,.ptr 0 0),(9,.sl 1 1 0 c none),(10,.dat i64 d)] [(1,.arr false 39 ze o1),(0,.box [.dat (zd Bg) e,.dat (zd BU) b,.dat (zd Ba) a])] 2
def L3(a:Int):Tr:=re ((stepT GB<|L1 0 0 0 0 [] [] []).R)<|Ap 76 [(9,.nil),(11,.nil),(12,.dat i64 a)] [] 0
theorem Al(v1 v2 v3 c:Int)(d:List Bi)(b:List Bw)(a:List Be):stepT GB (L1 v1 v2 v3 c d b a)=let e:=NG (d,b,a) v1 c v3;let b':=NG (d,b,a) v1 c v2;.di (c<(length d:Int)) (.ck (Nf (d,b,a) v1 c v3)<|.ck (Nf (d,b,a) v1 c v2)<|.ck (AR e&&BV b')<|.ck (aa 16)<|L2 v1 v2 v3 1 (zc .i64<|c+1) ([DS e b']) d b a) (L3 0):=by kernel_rfl
def L4(b:Nat)(a:Int)(c:List Z):Tr:=re ((stepT GB<|L2 0 0 0 0 0 [] [] [] []).R)<|Ap 76 [(9,.sl 0 1 0 b none),(11,.nil),(12,.dat i64 a)] [(0,.arr false 39 ze c)] 1
theorem AA(v1 v2 v3:Int)(d:Nat)(c:Int)(o1:List Z)(e:List Bi)(b:List Bw)(a:List Be):stepT GB (L2 v1 v2 v3 d c o1 e b a)=let f:=NG (e,b,a) v1 c v3;let b':=NG (e,b,a) v1 c v2;.di (c<(length e:Int)) (.ck (Nf (e,b,a) v1 c v3)<|.ck (Nf (e,b,a) v1 c v2)<|.ck (AR f&&BV b')<|.ck (ac d (length o1) 16)<|L2 v1 v2 v3 (zj d 1) (zc .i64<|c+1) (o1++[DS f b']) e b a) (L4 d 0 o1):=by kernel_rfl
def L6(d:Nat)(b a c:Int)(e:List Z):Tr:=re ((stepT GB<|L4 0 0 []).L)<|Ap 76 [(9,.sl 0 1 0 d none),(11,.nil),(12,.dat i64 b),(13,.dat i64 a),(14,.dat i64 c)] [(0,.arr false 39 ze e)] 1
theorem BX(b:Nat)(a:Int)(c:List Z):stepT GB (L4 b a c)=.di (a<(↑b:Int)) (L6 b a 1 0 c) (.leaf .nil []):=by kernel_rfl
def L8(c a:Nat)(b:Int)(o1:List Int)(d:List Z):Tr:=re ((stepT GB<|L6 0 0 0 0 []).R.L)<|Ap 76 [(9,.sl 0 1 0 c none),(11,.sl 1 1 0 a none),(12,.dat i64 b)] [(1,.arr false 3 i64 o1),(0,.arr false 39 ze d)] 2
theorem CL(c:Nat)(a d b:Int)(e:List Z):stepT GB (L6 c a d b e)=let g:=zc .i64<|b+1;let b':=getD e (toNat b) [];let f:=getD e (toNat a) [];let h:=L6 c a (zc .i64<|d+1) g e;.di (b<(↑c:Int)) (.ck (decide (0<=b)&&decide (b<(↑c:Int)))<|.cd (toNat b<length e)<|.ck (decide (0<=a)&&decide (a<(↑c:Int)))<|.cd (toNat a<length e)<|.ck (AR b'&&BV f)<|.di (CW b' f>0) h<|.ite (CW b' f==0) (.di (b<a) h<|L6 c a d g e)<|L6 c a d g e) (.ck (aa 8)<|L8 c 1 (zc .i64<|a+1) [d] e):=by kernel_rfl
def NI(e a:Nat)(c b d:Int)(o1:List Int)(f:List Z):Tr:=re ((stepT GB<|L8 0 0 0 [] []).L)<|Ap 76 [(9,.sl 0 1 0 e none),(11,.sl 1 1 0 a none),(12,.dat i64 c),(13,.dat i64 b),(14,.dat i64 d)] [(1,.arr false 3 i64 o1),(0,.arr false 39 ze f)] 2
theorem DM(c a:Nat)(b:Int)(o1:List Int)(d:List Z):stepT GB (L8 c a b o1 d)=.di (b<(↑c:Int)) (NI c a b 1 0 o1 d) (.leaf (.sl 1 1 0 a none)<|[(1,.arr false 3 i64 o1),(0,.arr false 39 ze d)]):=by kernel_rfl
theorem G2(d a:Nat)(b e c:Int)(o1:List Int)(f:List Z):stepT GB (NI d a b e c o1 f)=let g:=getD f (toNat c) [];let h:=getD f (toNat b) [];let j:=zc .i64<|c+1;let i:=NI d a b (zc .i64<|e+1) j o1 f;let b':=NI d a b e j o1 f;.di (c<(↑d:Int)) (.ck (decide (0<=c)&&decide (c<(↑d:Int)))<|.cd (toNat c<length f)<|.ck (decide (0<=b)&&decide (b<(↑d:Int)))<|.cd (toNat b<length f)<|.ck (AR g&&BV h)<|.di (CW g h>0) i<|.ite (CW g h==0) (.di (c<b) i b') b') (.ck (ac a (length o1) 8)<|L8 d (zj a 1) (zc .i64<|b+1) (o1++[e]) f):=by kernel_rfl
end T27
namespace T22
def T(c:At)(t g w:Int):Tr:=tree Dq false 9 22<|Af ([AT,zl zh,zl zh,zl zh]) (c,t,g,w)
def L1(c:At)(t g w i v9 h j:Int)(l:List Bi)(d:List Bw)(a:List Be)(m:List (Int×Int))(k o1:Int)(f:List Bi)(e:List Bw)(b:List Be):Tr:=re ((T c t g w).L.L.L.L.R)<|Ap 22 [(0,PV.yl 9),(1,.ptr 6 0),(2,.ptr 7 0),(3,.ptr 8 0),(8,.dat i64 i),(9,.dat i64 v9)] [(9,Obj.lp 22 9 (jX (AG.C Dq) 22 9) (T2 (AG.C Dq) 22 9) (N7 (AG.C Dq) 22 9) LpS.ready 73 [(4,.ptr 0 0),(5,.ptr (zj 0 1) 0),(6,.ptr (zj (zj 0 1) 1) 0),(11,.ptr (zj (zj (zj (zj 0 1) 1) 1) 1) 0),(12,.ptr (zj (zj (zj (zj (zj 0 1) 1) 1) 1) 1) 0)]),(8,.box [.dat i64 h]),(7,.box [.dat i64 j]),(6,.box [.dat (zd Bg) l,.dat (zd BU) d,.dat (zd Ba) a]),(5,.box [.nil]),(4,.box [.nil]),(3,.arr false 110 (zf i64 i64) m),(2,.box [.dat i64 k]),(1,.box [.dat i64 o1]),(0,.box [.dat (zd Bg) f,.dat (zd BU) e,.dat (zd Ba) b])] 10
theorem Ai(c:At)(t g w:Int):T c t g w=.ck true (.ck true<|.ck true<|.ck (decide (3<=3)&&true&&(Gc c&&decide (3<=1000)))<|.ite (Fp c [(t,Vz c),(g,OY c),(w,OY c)] !=0) (.leaf (.tup [.nil,.dat i64<|Fp c [(t,Vz c),(g,OY c),(w,OY c)]]) [])<|L1 c t g w ((↑(length<|fst c):Int)) 0 w t (fst c) (fst<|snd c) (snd<|snd c) ([(t,Vz c),(g,OY c),(w,OY c)]) g t (fst c) (fst<|snd c)<|snd<|snd c):=by kernel_rfl
def L2(c:At)(t g w o v9:Int)(h:List Int)(i:List Ad)(k l:Int)(p:List Bi)(b:List Bw)(e:List Be)(j f:Nat)(q:List (Int×Int))(m o1:Int)(n:List Bi)(d:List Bw)(a:List Be):Tr:=re ((stepT Dq<|L1 c t g w 0 0 0 0 [] [] [] [] 0 0 [] [] []).L.L.L.L.L.L)<|Ap 22 [(0,PV.yl 9),(1,.ptr 6 0),(2,.ptr 7 0),(3,.ptr 8 0),(8,.dat i64 o),(9,.dat i64 v9)] [(11,.arr false 3 i64 h),(10,.arr false 117 Aq i),(9,Obj.lp 22 9 (jX (AG.C Dq) 22 9) (T2 (AG.C Dq) 22 9) (N7 (AG.C Dq) 22 9) LpS.ready 73 [(4,.ptr 0 0),(5,.ptr 1 0),(6,.ptr 2 0),(11,.ptr 4 0),(12,.ptr 5 0)]),(8,.box [.dat i64 k]),(7,.box [.dat i64 l]),(6,.box [.dat (zd Bg) p,.dat (zd BU) b,.dat (zd Ba) e]),(5,.box [.sl 10 4 0 j none]),(4,.box [.sl 11 1 0 f none]),(3,.arr false 110 (zf i64 i64) q),(2,.box [.dat i64 m]),(1,.box [.dat i64 o1]),(0,.box [.dat (zd Bg) n,.dat (zd BU) d,.dat (zd Ba) a])] 12
def L3(a:List Ad):Tr:=re ((stepT Dq<|L1 ([],([],[])) 0 0 0 0 0 0 0 [] [] [] [] 0 0 [] [] []).R)<|Ap 73 [(11,.ptr 0 0),(12,PV.AV (zd Aq) a 0)] [(0,.box [.nil])] 1
theorem Al(c:At)(t g w l v9 f h:Int)(k:List Bi)(a:List Bw)(b:List Be)(m:List (Int×Int))(i o1:Int)(j:List Bi)(e:List Bw)(d:List Be):stepT Dq (L1 c t g w l v9 f h k a b m i o1 j e d)=let n:=UQ (k,a,b) h v9 f;let b':=UQ (j,e,d) o1 v9 i;.di (v9<l) (.ck (Nf (k,a,b) h v9 f)<|.ck (aa 8)<|.ck (Nf (j,e,d) o1 v9 i)<|.ck (ye n&&ye b')<|.ck (aa 64)<|L2 c t g w l (zc .i64<|v9+1) [v9] ([(D7 n b')]) f h k a b 1 1 m i o1 j e d) (L3 []):=by kernel_rfl
def L4(d:List Ad)(c:List Int)(a b:Nat):Tr:=re ((stepT Dq<|L2 ([],([],[])) 0 0 0 0 0 [] [] 0 0 [] [] [] 0 0 [] 0 0 [] [] []).R)<|Ap 73 [(11,.ptr 0 0),(12,.ptr 1 0)] [(3,.arr false 117 Aq d),(2,.arr false 3 i64 c),(1,.box [.sl 3 4 0 a none]),(0,.box [.sl 2 1 0 b none])] 4
theorem AA(c:At)(t g w p v9:Int)(i:List Int)(j:List Ad)(k l:Int)(o:List Bi)(b:List Bw)(e:List Be)(h f:Nat)(r:List (Int×Int))(m o1:Int)(n:List Bi)(d:List Bw)(a:List Be):stepT Dq (L2 c t g w p v9 i j k l o b e h f r m o1 n d a)=let q:=UQ (o,b,e) l v9 k;let b':=UQ (n,d,a) o1 v9 m;.di (v9<p) (.ck (Nf (o,b,e) l v9 k)<|.ck (ac f (length i) 8)<|.ck (Nf (n,d,a) o1 v9 m)<|.ck (ye q&&ye b')<|.ck (ac h (length j) 64)<|L2 c t g w p (zc .i64<|v9+1) (i++[v9]) (j++[(D7 q b')]) k l o b e (zj h 1) (zj f 1) r m o1 n d a) (L4 j i h f):=by kernel_rfl
def L6(l:List Ad)(i:List Int)(c f e:Nat)(v1 k j h:Int)(g:List Ad)(d:List Int)(a:Nat)(b:Nat):Tr:=re ((stepT Dq<|L4 l i c f))<|Ap 63 [(0,.sl 2 1 0 e none),(1,.dat i64 v1),(2,PV.fn (zr 72) [] [.ptr 1 0]),(6,.dat i64 k),(7,.dat i64 j),(8,.dat i64 h)] [(3,.arr false 117 Aq g),(2,.arr false 3 i64 d),(1,.box [.sl 3 4 0 a none]),(0,.box [.sl 2 1 0 b none])] 4
theorem BX(d:List Ad)(c:List Int)(b a:Nat):stepT Dq (L4 d c b a)=L6 d c b a a ((↑a:Int)) 20 0 20 d c b a:=by kernel_rfl
def L9(r:List Ad)(o:List Int)(h i k:Nat)(v1 q p s:Int)(l:List Ad)(j:List Int)(f:Nat)(g:Nat)(e:Nat)(m:Int)(v2:Int)(n:Int)(c:List Ad)(d:List Int)(b:Nat)(a:Nat):Tr:=re ((stepT Dq<|L6 r o h i k v1 q p s l j f g).L)<|Ap 53 [(0,.sl 2 1 0 e none),(1,.dat i64 m),(2,.dat i64 v2),(3,PV.fn (zr 72) [] [.ptr 1 0]),(8,.dat i64 n)] [(3,.arr false 117 Aq c),(2,.arr false 3 i64 d),(1,.box [.sl 3 4 0 b none]),(0,.box [.sl 2 1 0 a none])] 4
def NI(r:List Ad)(o:List Int)(h i k:Nat)(v1 q p s:Int)(l:List Ad)(j:List Int)(f:Nat)(g:Nat)(e:Nat)(m:Int)(v2:Int)(n:Int)(c:List Ad)(d:List Int)(b:Nat)(a:Nat):Tr:=re ((stepT Dq<|L6 r o h i k v1 q p s l j f g).R)<|Ap 53 [(0,.sl 2 1 0 e none),(1,.dat i64 m),(2,.dat i64 v2),(3,PV.fn (zr 72) [] [.ptr 1 0]),(8,.dat i64 n)] [(3,.arr false 117 Aq c),(2,.arr false 3 i64 d),(1,.box [.sl 3 4 0 b none]),(0,.box [.sl 2 1 0 a none])] 4
theorem CL(l:List Ad)(j:List Int)(f g d:Nat)(v1 k h i:Int)(e:List Ad)(c:List Int)(a:Nat)(b:Nat):stepT Dq (L6 l j f g d v1 k h i e c a b)=let m:=zc .i64<|h+1;.di (i<=v1) (L9 l j f g d v1 k h i e c a b d h i m e c a b) (NI l j f g d v1 k h i e c a b d h v1 m e c a b):=by kernel_rfl
def xD(r:List Ad)(o:List Int)(h i k:Nat)(v1 q p s:Int)(l:List Ad)(j:List Int)(f:Nat)(g:Nat)(e:Nat)(m:Int)(v2:Int)(n:Int)(v9:Int)(c:List Ad)(d:List Int)(b:Nat)(a:Nat):Tr:=re ((stepT Dq<|NI r o h i k v1 q p s l j f g 0 0 0 0 [] [] 0 0).L)<|Ap 53 [(0,.sl 2 1 0 e none),(1,.dat i64 m),(2,.dat i64 v2),(3,PV.fn (zr 72) [] [.ptr 1 0]),(8,.dat i64 n),(9,.dat i64 v9)] [(3,.arr false 117 Aq c),(2,.arr false 3 i64 d),(1,.box [.sl 3 4 0 b none]),(0,.box [.sl 2 1 0 a none])] 4
def wR(j:List Ad)(h:List Int)(c g e:Nat)(v1 i:Int)(f:List Ad)(d:List Int)(a:Nat)(b:Nat):Tr:=re ((stepT Dq<|NI j h c g 0 0 0 0 0 [] [] 0 0 0 0 0 0 [] [] 0 0).R)<|Ap 63 [(0,.sl 2 1 0 e none),(1,.dat i64 v1),(2,PV.fn (zr 72) [] [.ptr 1 0]),(6,.dat i64 i)] [(3,.arr false 117 Aq f),(2,.arr false 3 i64 d),(1,.box [.sl 3 4 0 a none]),(0,.box [.sl 2 1 0 b none])] 4
theorem G2(q:List Ad)(o:List Int)(i j k:Nat)(v1 p r s:Int)(m:List Ad)(l:List Int)(g:Nat)(h:Nat)(f:Nat)(n:Int)(v2:Int)(e:Int)(c:List Ad)(d:List Int)(b:Nat)(a:Nat):stepT Dq (NI q o i j k v1 p r s m l g h f n v2 e c d b a)=.di (e<v2) (xD q o i j k v1 p r s m l g h f n v2 e e c d b a) (wR q o i j k v1 p c d b a):=by kernel_rfl
theorem QJ(u:List Ad)(q:List Int)(i j m:Nat)(v1 t r v:Int)(n:List Ad)(l:List Int)(f:Nat)(g:Nat)(d:Nat)(h:Int)(v2:Int)(o:Int)(v9:Int)(b:List Ad)(a:List Int)(c:Nat)(e:Nat):stepT Dq (xD u q i j m v1 t r v n l f g d h v2 o v9 b a c e)=let k:=zc .i64<|v9-1;let b':=decide (0<=zc .i64 (v9-1))&&decide (zc .i64 (v9-1)<(↑d:Int));let z:=NI u q i j m v1 t r v n l f g d h v2 (zc .i64<|o+1) b a c e;let w:=decide (0<=v9)&&decide (v9<(↑d:Int));let s:=getD a (toNat v9) 0;let p:=decide (toNat v9<length a);let x:=getD a (toNat k) 0;let A:=getD b (toNat s) ((0,[]),0,[]);let B:=decide (toNat k<length a);let h':=getD b (toNat x) ((0,[]),0,[]);let y:=set a (toNat v9) x;.di (v9>h) (.ck w<|.ck p<|.ck b'<|.ck B<|.ck (decide (0<=getD a (toNat k) 0)&&decide (getD a (toNat k) 0<(↑c:Int)))<|.cd (toNat x<length b)<|.ck (decide (0<=getD a (toNat v9) 0)&&decide (getD a (toNat v9) 0<(↑c:Int)))<|.cd (toNat s<length b)<|.ck (yg h'&&yg A)<|.di (DD h' A<0) (.ck b'<|.ck B<|.ck w<|.ck p<|.ck w<|.ck p<|.ck b'<|.cd (toNat k<length y)<|xD u q i j m v1 t r v n l f g d h v2 o k b (set y (toNat k) s) c e) z) z:=by kernel_rfl
def L19(l:List Ad)(i:List Int)(c f e:Nat)(v1 k j h:Int)(g:List Ad)(d:List Int)(a:Nat)(b:Nat):Tr:=re ((stepT Dq<|wR l i c f 0 0 0 [] [] 0 0).L)<|Ap 63 [(0,.sl 2 1 0 e none),(1,.dat i64 v1),(2,PV.fn (zr 72) [] [.ptr 1 0]),(6,.dat i64 k),(7,.dat i64 j),(8,.dat i64 h)] [(3,.arr false 117 Aq g),(2,.arr false 3 i64 d),(1,.box [.sl 3 4 0 a none]),(0,.box [.sl 2 1 0 b none])] 4
def L20(b a:Nat)(d c:Int)(o1 e:List Int):Tr:=re ((stepT Dq<|wR [] [] 0 0 0 0 0 [] [] 0 0).R.L)<|Ap 73 [(15,.sl 0 1 0 b none),(59,.sl 1 1 0 a none),(60,.dat i64 d),(61,.dat i64 c)] [(1,.arr false 3 i64 o1),(0,.arr false 3 i64 e)] 2
theorem Vv(j:List Ad)(i:List Int)(d g e:Nat)(v1 h:Int)(f:List Ad)(c:List Int)(b:Nat)(a:Nat):stepT Dq (wR j i d g e v1 h f c b a)=.di (h<v1) (L19 j i d g e v1 h 0 (zc .i64<|2*h) f c b a) (.ck (decide (0<=(↑a:Int))&&decide ((↑a:Int)=(↑a:Int))&&decide (8*toNat (↑a:Int)<=281474976710656)&&decide ((↑a:Int)<9223372036854775808))<|L20 (toNat (↑a:Int)) a ((↑a:Int)) 0 c<|replicate (toNat (↑a:Int)) 0):=by kernel_rfl
theorem pJ(b c:Nat)(d a:Int)(o1 e:List Int):stepT Dq (L20 b c d a o1 e)=let f:=zc .i64<|a+1;.di (a<d) (.ck (decide (0<=a)&&decide (a<(↑c:Int)))<|.cd (toNat a<length o1)<|.ck (decide (0<=getD o1 (toNat a) 0)&&decide (getD o1 (toNat a) 0<(↑b:Int)))<|.cd (toNat (getD o1 (toNat a) 0)<length e)<|L20 b c d f o1<|set e (toNat<|getD o1 (toNat a) 0) f) (.leaf (.tup [.sl 0 1 0 b none,.dat i64 (0:Int)])<|[(1,.arr false 3 i64 o1),(0,.arr false 3 i64 e)]):=by kernel_rfl
end T22
namespace T21
def T(c:At)(t g w:Int):Tr:=tree AfG false 9 21<|Af ([AT,zl zh,zl zh,zl zh]) (c,t,g,w)
theorem Ai(c:At)(t g w:Int):T c t g w=let b':=D7 (Hj c t w)<|Hj c t g;let b:=((5,BA 5),1,BA 1);let a:=Ed b' b;.ck true (.ck true<|.ck true<|.ck (decide (3<=3)&&true&&(Gc c&&decide (3<=1000)))<|.ite (Fp c [(t,Vz c),(g,OY c),(w,OY c)] !=0) (.leaf (.tup [.dat i64 (0:Int),.dat i64<|Fp c [(t,Vz c),(g,OY c),(w,OY c)]]) [])<|.ck (DG c t w)<|.ck (DG c t g)<|.ck (ye (Hj c t w)&&ye (Hj c t g))<|.ck true<|.ck (ye b'&&ye b)<|.ck (Sp.okT a)<|.ck true<|.ck (Bk (Sp.rnS a,Sp.rnW a)&&Bk (55,BA 55))<|.di (XI (Sp.rnS a,Sp.rnW a) (55,BA 55)<0) (.leaf (.tup [.dat i64 (55:Int),.dat i64 (0:Int)]) [])<|.ck true<|.ck (Bk (Sp.rnS a,Sp.rnW a)&&Bk (155,BA 155))<|.di (XI (Sp.rnS a,Sp.rnW a) (155,BA 155)>0) (.leaf (.tup [.dat i64 (155:Int),.dat i64 (0:Int)]) [])<|.ck true<|.leaf (.tup [.dat i64<|Sp.rnS a,.dat i64 (0:Int)]) []):=by kernel_rfl
end T21
namespace T55
def T(c:At)(t l:Int):Tr:=tree PA false 9 55<|Af ([AT,zl zh,zl zh]) (c,t,l)
def L1(c:At)(t l n v9 o j:Int)(p:List Bi)(b:List Bw)(h:List Be)(k:Int)(a:List Int)(i:Int)(d:List Int)(o1 f:Int)(m:List Bi)(g:List Bw)(e:List Be):Tr:=re ((T c t l).L)<|Ap 22 [(0,PV.yl 6),(1,.ptr 3 0),(2,.ptr 4 0),(3,.ptr 5 0),(8,.dat i64 n),(9,.dat i64 v9)] [(6,Obj.lp 55 4 (jX (AG.C PA) 55 4) (T2 (AG.C PA) 55 4) (N7 (AG.C PA) 55 4) LpS.ready 21 [(7,.ptr (zj (zj 0 1) 1) 0)]),(5,.box [.dat i64 o]),(4,.box [.dat i64 j]),(3,.box [.dat (zd Bg) p,.dat (zd BU) b,.dat (zd Ba) h]),(2,.box [.dat i64 k,.dat (yh<|zl zt) a,.dat i64 i,.dat (yh<|zl zt) d]),(1,.box [.dat i64 o1,.nil,.dat i64 f,.nil]),(0,.box [.dat (zd Bg) m,.dat (zd BU) g,.dat (zd Ba) e])] 7
theorem Ai(c:At)(t l:Int):T c t l=.ck true (L1 c t l ((↑(length<|fst c):Int)) 0 l t (fst c) (fst<|snd c) (snd<|snd c) 0 (BA 0) 1 (BA 1) 0 0 (fst c) (fst<|snd c)<|snd<|snd c):=by kernel_rfl
def L2(c:At)(t l n v9 o j:Int)(p:List Bi)(b:List Bw)(h:List Be)(k:Int)(a:List Int)(i:Int)(d:List Int)(o1 f:Int)(m:List Bi)(g:List Bw)(e:List Be):Tr:=re ((stepT PA<|L1 c t l 0 0 0 0 [] [] [] 0 [] 0 [] 0 0 [] [] []).L.L.L)<|Ap 22 [(0,PV.yl 6),(1,.ptr 3 0),(2,.ptr 4 0),(3,.ptr 5 0),(8,.dat i64 n),(9,.dat i64 v9)] [(6,Obj.lp 55 4 (jX (AG.C PA) 55 4) (T2 (AG.C PA) 55 4) (N7 (AG.C PA) 55 4) LpS.ready 21 [(7,.ptr 2 0)]),(5,.box [.dat i64 o]),(4,.box [.dat i64 j]),(3,.box [.dat (zd Bg) p,.dat (zd BU) b,.dat (zd Ba) h]),(2,.box [.dat i64 k,.dat (yh<|zl zt) a,.dat i64 i,.dat (yh<|zl zt) d]),(1,.box [.dat i64 o1,.nil,.dat i64 f,.nil]),(0,.box [.dat (zd Bg) m,.dat (zd BU) g,.dat (zd Ba) e])] 7
theorem AA(c:At)(t l p v9 m k:Int)(n:List Bi)(a:List Bw)(b:List Be)(o:Int)(d:List Int)(f:Int)(e:List Int)(o1 h:Int)(r:List Bi)(i:List Bw)(g:List Be):stepT PA (L2 c t l p v9 m k n a b o d f e o1 h r i g)=let j:=UQ (n,a,b) k v9 m;let b':=((o,d),f,e);let q:=yh<|zl zt;.di (v9<p) (.ck (Nf (n,a,b) k v9 m)<|.ck (ye b'&&ye j)<|L2 c t l p (zc .i64<|v9+1) m k n a b (JY b' j) (Jy b' j) (Kg b' j) (J2 b' j) o1 h r i g) (.leaf (yb [.dat i64 o,.dat q d,.dat i64 f,.dat q e]) []):=by kernel_rfl
end T55
namespace T66
def T(a:Ad):Tr:=tree Af0 false 9 66<|Af ([Aq]) a
theorem Ai(a:Ad):T a=let b':=((1,BA 1),2,BA 2);let b:=B4 a b';.ck true (.ck true<|.ck (ye a&&ye b')<|.ck (ye b)<|.leaf (yb [.dat i64<|Sp.flS b,.dat (yh<|zl zt)<|Sp.flW b]) []):=by kernel_rfl
end T66
namespace T56
def T(a:Ad):Tr:=tree Afl false 9 56<|Af ([Aq]) a
theorem Ai(a:Ad):T a=let b':=((10,BA 10),1,BA 1);let d:=yh<|zl zt;let c:=Ed a b';let b:=(Sp.rnS c,Sp.rnW c);.ck true (.ck (ye a&&ye b')<|.ck (Sp.okT c)<|.ck true<|.ck (JU b (10,BA 10))<|.leaf (yb [.dat i64<|rY b (10,BA 10),.dat d<|qI b (10,BA 10),.dat i64<|zH b (10,BA 10),.dat d<|xO b (10,BA 10)]) []):=by kernel_rfl
end T56
namespace T12
def T(c:At)(t l:Int):Tr:=tree sT false 9 12<|Af ([AT,zl zh,zl zh]) (c,t,l)
theorem Ai(c:At)(t l:Int):T c t l=let a:=Hj c t l;.ck true (.ck true<|.ck (decide (2<=2)&&true&&(Gc c&&decide (2<=1000)))<|.ite (Fp c [(t,Vz c),(l,OY c)] !=0) (.leaf (.tup [.dat ze [],.dat i64<|Fp c [(t,Vz c),(l,OY c)]]) [])<|.ck (DG c t l)<|.ck (yg a)<|.leaf (.tup [.dat ze<|H8 a,.dat i64<|EO a]) []):=by kernel_rfl
end T12
namespace T13
def T(c:At)(t l:Int):Tr:=tree sT false 9 13<|Af ([AT,zl zh,zl zh]) (c,t,l)
theorem Ai(c:At)(t l:Int):T c t l=let a:=Mf<|Hj c t l;.ck true (.ck true<|.ck (decide (2<=2)&&true&&(Gc c&&decide (2<=1000)))<|.ite (Fp c [(t,Vz c),(l,OY c)] !=0) (.leaf (.tup [.dat ze [],.dat i64<|Fp c [(t,Vz c),(l,OY c)]]) [])<|.ck (DG c t l)<|.ck (Sp.okV<|Hj c t l)<|.ck (yg a)<|.leaf (.tup [.dat ze<|H8 a,.dat i64<|EO a]) []):=by kernel_rfl
end T13
namespace T50
def T(l:Z×Z×Z×List (Z×Z)×List (Z×Z))(n d:Int):Tr:=tree ZZ false 9 50<|Af ([zf ze<|zf ze<|zf ze<|zf (zd<|zf ze ze)<|zd<|zf ze ze,zl zh,zl zh]) (l,n,d)
def L1(v2 e:Int)(f a c:Z)(d:List (Z×Z))(b:List (Z×Z)):Tr:=re ((T ([],([],([],([],[])))) 0 0).R.R.R.L.R.L.R)<|Ap 84 [(2,.dat i64 v2),(3,.ptr 0 0),(7,.dat i64 e)] [(0,.box [.dat ze f,.dat ze a,.dat ze c,.dat (zd<|zf ze ze) d,.dat (zd<|zf ze ze) b])] 1
theorem Ai(l:Z×Z×Z×List (Z×Z)×List (Z×Z))(n d:Int):T l n d=let a:Tr:=.leaf (.bl false) [];let b':=snd<|snd<|snd l;let b:=decide (0<=d)&&decide (d<=1000);.di ((↑(length<|fst l):Int)>30) a (.di ((↑(length<|fst b'):Int)>n) a<|.di ((↑(length<|snd b'):Int)>n) a<|.ck b<|.ite (!Sp.Cp (fst<|snd l) d) a<|.ck b<|.ite (!Sp.Cp (fst<|snd<|snd l) d) a<|L1 d 0 (fst l) (fst<|snd l) (fst<|snd<|snd l) (fst b')<|snd b'):=by kernel_rfl
def L2(v2 e:Int)(f a c:Z)(d:List (Z×Z))(b:List (Z×Z)):Tr:=re ((stepT ZZ<|L1 0 0 [] [] [] [] []).R)<|Ap 84 [(2,.dat i64 v2),(3,.ptr 0 0),(8,.dat i64 e)] [(0,.box [.dat ze f,.dat ze a,.dat ze c,.dat (zd<|zf ze ze) d,.dat (zd<|zf ze ze) b])] 1
theorem Al(v2 e:Int)(f c b:Z)(a:List (Z×Z))(d:List (Z×Z)):stepT ZZ (L1 v2 e f c b a d)=let g:=decide (e<(length a:Int));let b':=decide (0<=v2)&&decide (v2<=1000);let h:=getD a (toNat e) ([],[]);.ite g (.ck (decide (0<=e)&&g)<|.ck b'<|.ite (!Sp.Cp (fst h) v2) (.leaf (.bl false) [])<|.ck (decide (0<=e)&&g)<|.ck b'<|.ite (!Sp.Cp (snd h) v2) (.leaf (.bl false) [])<|L1 v2 (zc .i64<|e+1) f c b a d) (L2 v2 0 f c b a d):=by kernel_rfl
theorem AA(v2 e:Int)(f d b:Z)(c:List (Z×Z))(a:List (Z×Z)):stepT ZZ (L2 v2 e f d b c a)=let g:=decide (e<(length a:Int));.ite g (.ck (decide (0<=e)&&g)<|.ck (decide (0<=v2)&&decide (v2<=1000))<|.ite (!Sp.Cp (snd<|getD a (toNat e) ([],[])) v2) (.leaf (.bl false) [])<|L2 v2 (zc .i64<|e+1) f d b c a) (.leaf (.bl true) []):=by kernel_rfl
end T50
namespace T11
def T(c:List (Z×Z×Z×Z×List (Z×Int))×List (Z×List Int)×List (Z×Z×Z×List (Z×Z)×List (Z×Z)))(n d:Int):Tr:=tree Z2 false 9 11<|Af ([zf (zd<|zf ze<|zf ze<|zf ze<|zf ze<|zd<|zf ze i64)<|zf (zd<|zf ze<|zd i64)<|zd<|zf ze<|zf ze<|zf ze<|zf (zd<|zf ze ze)<|zd<|zf ze ze,zl zh,zl zh]) (c,n,d)
def L1(v1 v2 c:Int)(d:List (Z×Z×Z×Z×List (Z×Int)))(a:List (Z×List Int))(b:List (Z×Z×Z×List (Z×Z)×List (Z×Z))):Tr:=re ((T ([],([],[])) 0 0).R.R.R)<|Ap 93 [(1,.dat i64 v1),(2,.dat i64 v2),(3,.ptr 0 0),(7,.dat i64 c)] [(0,.box [.dat (zd<|zf ze<|zf ze<|zf ze<|zf ze<|zd<|zf ze i64) d,.dat (zd<|zf ze<|zd i64) a,.dat (zd<|zf ze<|zf ze<|zf ze<|zf (zd<|zf ze ze)<|zd<|zf ze ze) b])] 1
theorem Ai(c:List (Z×Z×Z×Z×List (Z×Int))×List (Z×List Int)×List (Z×Z×Z×List (Z×Z)×List (Z×Z)))(n d:Int):T c n d=let a:Tr:=.leaf (.bl false) [];.di ((↑(length<|fst c):Int)>n) a (.di ((↑(length<|fst<|snd c):Int)>n) a<|.di ((↑(length<|snd<|snd c):Int)>n) a<|L1 n d 0 (fst c) (fst<|snd c)<|snd<|snd c):=by kernel_rfl
def L2(v1 v2 v9:Int)(c:List (Z×Z×Z×Z×List (Z×Int)))(a:List (Z×List Int))(b:List (Z×Z×Z×List (Z×Z)×List (Z×Z))):Tr:=re ((stepT Z2<|L1 0 0 0 [] [] []).R)<|Ap 93 [(1,.dat i64 v1),(2,.dat i64 v2),(3,.ptr 0 0),(9,.dat i64 v9)] [(0,.box [.dat (zd<|zf ze<|zf ze<|zf ze<|zf ze<|zd<|zf ze i64) c,.dat (zd<|zf ze<|zd i64) a,.dat (zd<|zf ze<|zf ze<|zf ze<|zf (zd<|zf ze ze)<|zd<|zf ze ze) b])] 1
theorem Al(v1 v2 c:Int)(e:List (Z×Z×Z×Z×List (Z×Int)))(b:List (Z×List Int))(a:List (Z×Z×Z×List (Z×Z)×List (Z×Z))):stepT Z2 (L1 v1 v2 c e b a)=let f:=getD e (toNat c) ([],[],[],[],[]);let b':=decide (0<=v2)&&decide (v2<=1000);let d:Tr:=.leaf (.bl false) [];let h:=decide (c<(length e:Int));let g:=snd<|snd f;.ite h (.ck (decide (0<=c)&&h)<|.di ((↑(length<|snd<|snd g):Int)>v1) d<|.ck b'<|.ite (!Cp (fst f) v2) d<|.ck b'<|.ite (!Cp (fst<|snd f) v2) d<|.ck b'<|.ite (!Cp (fst g) v2) d<|.ck b'<|.ite (!Cp (fst<|snd g) v2) d<|L1 v1 v2 (zc .i64<|c+1) e b a) (L2 v1 v2 0 e b a):=by kernel_rfl
theorem AA(v1 v2 v9:Int)(c:List (Z×Z×Z×Z×List (Z×Int)))(b:List (Z×List Int))(a:List (Z×Z×Z×List (Z×Z)×List (Z×Z))):stepT Z2 (L2 v1 v2 v9 c b a)=let d:=getD a (toNat v9) ([],[],[],[],[]);let b':=decide (v9<(length a:Int));let e:=snd<|snd d;.ite b' (.ck (decide (0<=v9)&&b')<|.ck (YZ v1 v2)<|.ite (!EH (fst d,fst<|snd d,fst e,fst<|snd e,snd<|snd e) v1 v2) (.leaf (.bl false) [])<|L2 v1 v2 (zc .i64<|v9+1) c b a) (.ck (iO (c,b,a))<|.leaf (.dat zu<|HR (c,b,a)==0) []):=by kernel_rfl
end T11
namespace T45
def T(l:Be):Tr:=tree E6 false 9 45<|Af ([Ba]) l
def L1(v3:Int)(e a c:Z)(b d:List AZ):Tr:=re ((T ([],([],([],([],[]))))).R.R.R.R.R)<|Ap 83 [(1,.ptr 0 0),(3,.dat i64 v3)] [(0,.box [.dat ze e,.dat ze a,.dat ze c,.dat (zd Cf) b,.dat (zd Cf) d])] 1
theorem Ai(l:Be):T l=let a:Tr:=.leaf (.bl false) [];let b':=snd<|snd<|snd l;.di ((↑(length<|fst l):Int)>40) a (.di ((↑(length<|fst<|snd l):Int)>20) a<|.di ((↑(length<|fst<|snd<|snd l):Int)>20) a<|.di ((↑(length<|fst b'):Int)>70) a<|.di ((↑(length<|snd b'):Int)>20) a<|L1 0 (fst l) (fst<|snd l) (fst<|snd<|snd l) (fst b')<|snd b'):=by kernel_rfl
def L2(v4:Int)(e a c:Z)(b d:List AZ):Tr:=re ((stepT E6<|L1 0 [] [] [] [] []).R)<|Ap 83 [(1,.ptr 0 0),(4,.dat i64 v4)] [(0,.box [.dat ze e,.dat ze a,.dat ze c,.dat (zd Cf) b,.dat (zd Cf) d])] 1
theorem Al(v3:Int)(f c b:Z)(a d:List AZ):stepT E6 (L1 v3 f c b a d)=let e:=decide (v3<(length a:Int));let b':=getD a (toNat v3) ([],[]);.ite e (.ck (decide (0<=v3)&&e)<|.di ((↑(length<|fst b'):Int)>20) (.leaf (.bl false) [])<|.ck (decide (0<=v3)&&e)<|.di ((↑(length<|snd b'):Int)>20) (.leaf (.bl false) [])<|L1 (zc .i64<|v3+1) f c b a d) (L2 0 f c b a d):=by kernel_rfl
theorem AA(v4:Int)(f c b:Z)(d a:List AZ):stepT E6 (L2 v4 f c b d a)=let e:=decide (v4<(length a:Int));let b':=getD a (toNat v4) ([],[]);.ite e (.ck (decide (0<=v4)&&e)<|.di ((↑(length<|fst b'):Int)>40) (.leaf (.bl false) [])<|.ck (decide (0<=v4)&&e)<|.di ((↑(length<|snd b'):Int)>20) (.leaf (.bl false) [])<|L2 (zc .i64<|v4+1) f c b d a) (.leaf (.bl true) []):=by kernel_rfl
end T45
namespace T9
def T(c:At):Tr:=tree Tg false 9 9<|Af ([AT]) c
def L1(v3:Int)(c:List Bi)(a:List Bw)(b:List Be):Tr:=re ((T ([],([],[]))).R.R.R)<|Ap 102 [(1,.ptr 0 0),(3,.dat i64 v3)] [(0,.box [.dat (zd Bg) c,.dat (zd BU) a,.dat (zd Ba) b])] 1
theorem Ai(c:At):T c=let a:Tr:=.leaf (.bl false) [];.di ((↑(length<|fst c):Int)>38) a (.di ((↑(length<|fst<|snd c):Int)>10) a<|.di ((↑(length<|snd<|snd c):Int)>10) a<|L1 0 (fst c) (fst<|snd c)<|snd<|snd c):=by kernel_rfl
def L2(v5:Int)(c:List Bi)(a:List Bw)(b:List Be):Tr:=re ((stepT Tg<|L1 0 [] [] []).R)<|Ap 102 [(1,.ptr 0 0),(5,.dat i64 v5)] [(0,.box [.dat (zd Bg) c,.dat (zd BU) a,.dat (zd Ba) b])] 1
theorem Al(v3:Int)(c:List Bi)(b:List Bw)(a:List Be):stepT Tg (L1 v3 c b a)=let d:=getD c (toNat v3) ([],[],[],[],[]);let b':Tr:=.leaf (.bl false) [];let f:=decide (v3<(length c:Int));let e:=snd<|snd d;.ite f (.ck (decide (0<=v3)&&f)<|.di ((↑(length<|fst d):Int)>20) b'<|.di ((↑(length<|fst<|snd d):Int)>20) b'<|.di ((↑(length<|fst e):Int)>20) b'<|.di ((↑(length<|fst<|snd e):Int)>20) b'<|.di ((↑(length<|snd<|snd e):Int)>20) b'<|L1 (zc .i64<|v3+1) c b a) (L2 0 c b a):=by kernel_rfl
def L3(d:Int)(c:List Bi)(a:List Bw)(b:List Be):Tr:=re ((stepT Tg<|L2 0 [] [] []).R)<|Ap 102 [(1,.ptr 0 0),(6,.dat i64 d)] [(0,.box [.dat (zd Bg) c,.dat (zd BU) a,.dat (zd Ba) b])] 1
theorem AA(v5:Int)(c:List Bi)(a:List Bw)(b:List Be):stepT Tg (L2 v5 c a b)=let d:=decide (v5<(length a:Int));let b':=getD a (toNat v5) ([],[]);.ite d (.ck (decide (0<=v5)&&d)<|.di ((↑(length<|fst b'):Int)>40) (.leaf (.bl false) [])<|.ck (decide (0<=v5)&&d)<|.di ((↑(length<|snd b'):Int)>40) (.leaf (.bl false) [])<|L2 (zc .i64<|v5+1) c a b) (L3 0 c a b):=by kernel_rfl
theorem Bo(c:Int)(d:List Bi)(b:List Bw)(a:List Be):stepT Tg (L3 c d b a)=let e:=decide (c<(length a:Int));.ite e (.ck (decide (0<=c)&&e)<|.ck true<|.ite (!Sp.Ba (getD a (toNat c) ([],[],[],[],[]))) (.leaf (.bl false) [])<|L3 (zc .i64<|c+1) d b a) (.leaf (.bl true) []):=by kernel_rfl
end T9
namespace T37
def T(l:Be):Tr:=tree E6 false 9 37<|Af ([Ba]) l
def L1(v4:Int)(k a b:Z)(c:List AZ)(o1 f i j g d:Z)(e h:List AZ):Tr:=re ((T ([],([],([],([],[]))))))<|Ap 40 [(1,.ptr 0 0),(2,.ptr 1 0),(3,.ptr 2 0),(4,.dat i64 v4)] [(2,.box [.dat ze k,.dat ze a,.dat ze b,.dat (zd Cf) c,.nil]),(1,.box [.dat ze o1,.dat ze f,.dat ze i,.nil,.nil]),(0,.box [.dat ze j,.dat ze g,.dat ze d,.dat (zd Cf) e,.dat (zd Cf) h])] 3
theorem Ai(l:Be):T l=L1 0 (fst l) (fst<|snd l) (fst<|snd<|snd l) (fst<|snd<|snd<|snd l) [] [] [] (fst l) (fst<|snd l) (fst<|snd<|snd l) (fst<|snd<|snd<|snd l) (snd<|snd<|snd<|snd l):=by kernel_rfl
def L2(v4:Int)(m:List AZ)(l a b:Z)(c:List AZ)(j:Nat)(o1 f i k g d:Z)(e h:List AZ):Tr:=re ((stepT E6<|L1 0 [] [] [] [] [] [] [] [] [] [] [] []).L.L.L.L)<|Ap 40 [(1,.ptr 0 0),(2,.ptr 1 0),(3,.ptr 2 0),(4,.dat i64 v4)] [(3,.arr false 157 Cf m),(2,.box [.dat ze l,.dat ze a,.dat ze b,.dat (zd Cf) c,.sl 3 2 0 j none]),(1,.box [.dat ze o1,.dat ze f,.dat ze i,.nil,.nil]),(0,.box [.dat ze k,.dat ze g,.dat ze d,.dat (zd Cf) e,.dat (zd Cf) h])] 4
theorem Al(v4:Int)(j b c:Z)(d:List AZ)(o1 g i l h e:Z)(f a:List AZ):stepT E6 (L1 v4 j b c d o1 g i l h e f a)=let k:=decide (v4<(length a:Int));.ite k (.ck (decide (0<=v4)&&k)<|.ck (decide (0<=v4)&&k)<|.ck (aa 32)<|L2 (zc .i64<|v4+1) ([(getD a (toNat v4) ([],[]))]) j b c d 1 o1 g i l h e f a) (.leaf (yb [.dat ze j,.dat ze b,.dat ze c,.dat (zd Cf) d,.nil]) []):=by kernel_rfl
theorem AA(v4:Int)(l:List AZ)(k a b:Z)(c:List AZ)(e:Nat)(o1 i j m h f:Z)(g d:List AZ):stepT E6 (L2 v4 l k a b c e o1 i j m h f g d)=let n:=decide (v4<(length d:Int));let b':=zd Cf;.ite n (.ck (decide (0<=v4)&&n)<|.ck (decide (0<=v4)&&n)<|.ck (ac e (length l) 32)<|L2 (zc .i64<|v4+1) (l++[(getD d (toNat v4) ([],[]))]) k a b c (zj e 1) o1 i j m h f g d) (.leaf (yb [.dat ze k,.dat ze a,.dat ze b,.dat b' c,.sl 3 2 0 e none])<|[(3,.arr false 157 Cf l),(2,.box [.dat ze k,.dat ze a,.dat ze b,.dat b' c,.sl 3 2 0 e none]),(1,.box [.dat ze k,.dat ze a,.dat ze b,.dat b' c,.sl 3 2 0 e none]),(0,.box [.dat ze m,.dat ze h,.dat ze f,.dat b' g,.dat b' d])]):=by kernel_rfl
end T37
namespace T7
def T(c:At):Tr:=tree B2 false 9 7<|Af ([AT]) c
def L1(v1:At):Tr:=re ((T ([],([],[]))))<|Ap 128 [(1,PV.AV AT v1 0),(2,.ptr 0 0),(3,.ptr 1 0)] [(1,.box [.nil,.nil,.nil]),(0,.box [.nil,.nil,.nil])] 2
theorem Ai(c:At):T c=L1 c:=by kernel_rfl
def L2(v1:At)(v4:Int):Tr:=re ((stepT B2<|L1 ([],([],[]))))<|Ap 128 [(1,PV.AV AT v1 0),(2,.ptr 0 0),(3,.ptr 1 0),(4,.dat i64 v4)] [(1,.box [.nil,.nil,.nil]),(0,.box [.nil,.nil,.nil])] 2
theorem Al(v1:At):stepT B2 (L1 v1)=L2 v1 0:=by kernel_rfl
def L3(v1:At)(v4 e:Int)(d a b c:Z):Tr:=re ((stepT B2<|L2 ([],([],[])) 0).L.L.L.L.L)<|Ap 128 [(1,PV.AV AT v1 0),(2,.ptr 0 0),(3,.ptr 1 0),(4,.dat i64 v4),(5,.ptr 2 0),(6,.dat i64 e)] [(2,.box [.dat ze d,.dat ze a,.dat ze b,.dat ze c,.nil]),(1,.box [.nil,.nil,.nil]),(0,.box [.nil,.nil,.nil])] 3
def L4(v1:At)(a:Int):Tr:=re ((stepT B2<|L2 ([],([],[])) 0).R)<|Ap 128 [(1,PV.AV AT v1 0),(2,.ptr 0 0),(3,.ptr 1 0),(7,.dat i64 a)] [(1,.box [.nil,.nil,.nil]),(0,.box [.nil,.nil,.nil])] 2
theorem AA(v1:At)(v4:Int):stepT B2 (L2 v1 v4)=let b':=getD (fst v1) (toNat v4) ([],[],[],[],[]);let b:=decide (v4<(↑(length<|fst v1):Int));let a:=decide (0<=v4)&&b;.ite b (.ck a<|.ck a<|.ck a<|.ck a<|L3 v1 v4 0 (fst b') (fst<|snd b') (fst<|snd<|snd b')<|fst<|snd<|snd<|snd b') (L4 v1 0):=by kernel_rfl
def L5(v1:At)(v4 f:Int)(g:List EJ)(e a b c:Z)(d:Nat):Tr:=re ((stepT B2<|L3 ([],([],[])) 0 0 [] [] [] []).L.L.L.L.L.L.L)<|Ap 128 [(1,PV.AV AT v1 0),(2,.ptr 0 0),(3,.ptr 1 0),(4,.dat i64 v4),(5,.ptr 2 0),(6,.dat i64 f)] [(3,.arr false 84 Vk g),(2,.box [.dat ze e,.dat ze a,.dat ze b,.dat ze c,.sl 3 2 0 d none]),(1,.box [.nil,.nil,.nil]),(0,.box [.nil,.nil,.nil])] 4
def L6(v1:At)(v4:Int)(b:List Bi)(a:Nat):Tr:=re ((stepT B2<|L3 ([],([],[])) 0 0 [] [] [] []).L.R.L)<|Ap 128 [(1,PV.AV AT v1 0),(2,.ptr 0 0),(3,.ptr 1 0),(4,.dat i64 v4)] [(2,.arr false 81 Bg b),(1,.box [.sl 2 5 0 a none,.nil,.nil]),(0,.box [.nil,.nil,.nil])] 3
theorem Bo(v1:At)(v4 d:Int)(e a c b:Z):stepT B2 (L3 v1 v4 d e a c b)=let g:=snd<|snd<|snd<|snd<|getD (fst v1) (toNat v4) ([],[],[],[],[]);let b':=decide (0<=v4)&&decide (v4<(↑(length<|fst v1):Int));let f:=decide (d<(↑(length g):Int));.ck b' (.ite f (.ck b'<|.ck (decide (0<=d)&&f)<|.ck b'<|.ck (decide (0<=d)&&f)<|.ck (aa 24)<|L5 v1 v4 (zc .i64<|d+1) ([(getD g (toNat d) ([],0))]) e a c b 1)<|.ck (aa 88)<|L6 v1 (zc .i64<|v4+1) ([(e,a,c,b,[])]) 1):=by kernel_rfl
def L7(v1:At)(b:Int)(c:List Bw)(a:Nat):Tr:=re ((stepT B2<|L4 ([],([],[])) 0).L.L.L.L)<|Ap 128 [(1,PV.AV AT v1 0),(2,.ptr 0 0),(3,.ptr 1 0),(7,.dat i64 b)] [(2,.arr false 87 BU c),(1,.box [.nil,.sl 2 2 0 a none,.nil]),(0,.box [.nil,.nil,.nil])] 3
def L8(v1:At)(a:Int):Tr:=re ((stepT B2<|L4 ([],([],[])) 0).R)<|Ap 128 [(1,PV.AV AT v1 0),(2,.ptr 0 0),(3,.ptr 1 0),(8,.dat i64 a)] [(1,.box [.nil,.nil,.nil]),(0,.box [.nil,.nil,.nil])] 2
theorem BX(v1:At)(a:Int):stepT B2 (L4 v1 a)=let b:=decide (a<(↑(length<|fst<|snd v1):Int));.ite b (.ck (decide (0<=a)&&b)<|.ck (decide (0<=a)&&b)<|.ck (aa 40)<|L7 v1 (zc .i64<|a+1) ([(getD (fst<|snd v1) (toNat a) ([],[]))]) 1) (L8 v1 0):=by kernel_rfl
theorem Dl(v1:At)(v4 e:Int)(f:List EJ)(h b c d:Z)(a:Nat):stepT B2 (L5 v1 v4 e f h b c d a)=let i:=snd<|snd<|snd<|snd<|getD (fst v1) (toNat v4) ([],[],[],[],[]);let b':=decide (0<=v4)&&decide (v4<(↑(length<|fst v1):Int));let g:=decide (e<(↑(length i):Int));.ck b' (.ite g (.ck b'<|.ck (decide (0<=e)&&g)<|.ck b'<|.ck (decide (0<=e)&&g)<|.ck (ac a (length f) 24)<|L5 v1 v4 (zc .i64<|e+1) (f++[(getD i (toNat e) ([],0))]) h b c d<|zj a 1)<|.ck (decide (0+a<=length f)&&true)<|.ck (aa 88)<|L6 v1 (zc .i64<|v4+1) ([(h,b,c,d,take a f)]) 1):=by kernel_rfl
def L9(v1:At)(v4 f:Int)(g:List Bi)(e a b c:Z)(d:Nat):Tr:=re ((stepT B2<|L6 ([],([],[])) 0 [] 0).L.L.L.L.L)<|Ap 128 [(1,PV.AV AT v1 0),(2,.ptr 0 0),(3,.ptr 1 0),(4,.dat i64 v4),(5,.ptr 2 0),(6,.dat i64 f)] [(3,.arr false 81 Bg g),(2,.box [.dat ze e,.dat ze a,.dat ze b,.dat ze c,.nil]),(1,.box [.sl 3 5 0 d none,.nil,.nil]),(0,.box [.nil,.nil,.nil])] 4
def NI(v1:At)(b:Int)(c:List Bi)(a:Nat):Tr:=re ((stepT B2<|L6 ([],([],[])) 0 [] 0).R)<|Ap 128 [(1,PV.AV AT v1 0),(2,.ptr 0 0),(3,.ptr 1 0),(7,.dat i64 b)] [(2,.arr false 81 Bg c),(1,.box [.sl 2 5 0 a none,.nil,.nil]),(0,.box [.nil,.nil,.nil])] 3
theorem CL(v1:At)(v4:Int)(c:List Bi)(a:Nat):stepT B2 (L6 v1 v4 c a)=let b':=getD (fst v1) (toNat v4) ([],[],[],[],[]);let d:=decide (v4<(↑(length<|fst v1):Int));let b:=decide (0<=v4)&&d;.ite d (.ck b<|.ck b<|.ck b<|.ck b<|L9 v1 v4 0 c (fst b') (fst<|snd b') (fst<|snd<|snd b') (fst<|snd<|snd<|snd b') a) (NI v1 0 c a):=by kernel_rfl
def L11(v1:At)(b:Int)(c:List Bw)(a:Nat):Tr:=re ((stepT B2<|L7 ([],([],[])) 0 [] 0).R)<|Ap 128 [(1,PV.AV AT v1 0),(2,.ptr 0 0),(3,.ptr 1 0),(8,.dat i64 b)] [(2,.arr false 87 BU c),(1,.box [.nil,.sl 2 2 0 a none,.nil]),(0,.box [.nil,.nil,.nil])] 3
theorem C6(v1:At)(b:Int)(c:List Bw)(a:Nat):stepT B2 (L7 v1 b c a)=let d:=decide (b<(↑(length<|fst<|snd v1):Int));.ite d (.ck (decide (0<=b)&&d)<|.ck (decide (0<=b)&&d)<|.ck (ac a (length c) 40)<|L7 v1 (zc .i64<|b+1) (c++[(getD (fst<|snd v1) (toNat b) ([],[]))])<|zj a 1) (L11 v1 0 c a):=by kernel_rfl
def L12(v1:At)(b:Int)(c:List Be)(a:Nat):Tr:=re ((stepT B2<|L8 ([],([],[])) 0).L.L.L.L)<|Ap 128 [(1,PV.AV AT v1 0),(2,.ptr 0 0),(3,.ptr 1 0),(8,.dat i64 b)] [(2,.arr false 91 Ba c),(1,.box [.nil,.nil,.sl 2 5 0 a none]),(0,.box [.nil,.nil,.nil])] 3
theorem DM(v1:At)(a:Int):stepT B2 (L8 v1 a)=let b:=getD (snd<|snd v1) (toNat a) ([],[],[],[],[]);let b':=decide (a<(↑(length<|snd<|snd v1):Int));.ite b' (.ck (decide (0<=a)&&b')<|.ck (mY b)<|.ck (aa 96)<|L12 v1 (zc .i64<|a+1) ([b]) 1) (.leaf (yb [.nil,.nil,.nil]) []):=by kernel_rfl
def L13(v1:At)(v4 h:Int)(f:List EJ)(i:List Bi)(g a b c:Z)(e d:Nat):Tr:=re ((stepT B2<|L9 ([],([],[])) 0 0 [] [] [] [] [] 0).L.L.L.L.L.L.L)<|Ap 128 [(1,PV.AV AT v1 0),(2,.ptr 0 0),(3,.ptr 1 0),(4,.dat i64 v4),(5,.ptr 2 0),(6,.dat i64 h)] [(4,.arr false 84 Vk f),(3,.arr false 81 Bg i),(2,.box [.dat ze g,.dat ze a,.dat ze b,.dat ze c,.sl 4 2 0 e none]),(1,.box [.sl 3 5 0 d none,.nil,.nil]),(0,.box [.nil,.nil,.nil])] 5
theorem sS(v1:At)(v4 e:Int)(f:List Bi)(h b c d:Z)(a:Nat):stepT B2 (L9 v1 v4 e f h b c d a)=let i:=snd<|snd<|snd<|snd<|getD (fst v1) (toNat v4) ([],[],[],[],[]);let b':=decide (0<=v4)&&decide (v4<(↑(length<|fst v1):Int));let g:=decide (e<(↑(length i):Int));.ck b' (.ite g (.ck b'<|.ck (decide (0<=e)&&g)<|.ck b'<|.ck (decide (0<=e)&&g)<|.ck (aa 24)<|L13 v1 v4 (zc .i64<|e+1) ([(getD i (toNat e) ([],0))]) f h b c d 1 a)<|.ck (ac a (length f) 88)<|L6 v1 (zc .i64<|v4+1) (f++[(h,b,c,d,[])])<|zj a 1):=by kernel_rfl
def L14(v1:At)(d:Int)(e:List Bw)(c:List Bi)(b a:Nat):Tr:=re ((stepT B2<|NI ([],([],[])) 0 [] 0).L.L.L.L)<|Ap 128 [(1,PV.AV AT v1 0),(2,.ptr 0 0),(3,.ptr 1 0),(7,.dat i64 d)] [(3,.arr false 87 BU e),(2,.arr false 81 Bg c),(1,.box [.sl 2 5 0 b none,.sl 3 2 0 a none,.nil]),(0,.box [.nil,.nil,.nil])] 4
def xD(v1:At)(b:Int)(c:List Bi)(a:Nat):Tr:=re ((stepT B2<|NI ([],([],[])) 0 [] 0).R)<|Ap 128 [(1,PV.AV AT v1 0),(2,.ptr 0 0),(3,.ptr 1 0),(8,.dat i64 b)] [(2,.arr false 81 Bg c),(1,.box [.sl 2 5 0 a none,.nil,.nil]),(0,.box [.nil,.nil,.nil])] 3
theorem G2(v1:At)(b:Int)(c:List Bi)(a:Nat):stepT B2 (NI v1 b c a)=let d:=decide (b<(↑(length<|fst<|snd v1):Int));.ite d (.ck (decide (0<=b)&&d)<|.ck (decide (0<=b)&&d)<|.ck (aa 40)<|L14 v1 (zc .i64<|b+1) ([(getD (fst<|snd v1) (toNat b) ([],[]))]) c a 1) (xD v1 0 c a):=by kernel_rfl
def wR(v1:At)(c:Int)(e:List Be)(d:List Bw)(b a:Nat):Tr:=re ((stepT B2<|L11 ([],([],[])) 0 [] 0).L.L.L.L)<|Ap 128 [(1,PV.AV AT v1 0),(2,.ptr 0 0),(3,.ptr 1 0),(8,.dat i64 c)] [(3,.arr false 91 Ba e),(2,.arr false 87 BU d),(1,.box [.nil,.sl 2 2 0 b none,.sl 3 5 0 a none]),(0,.box [.nil,.nil,.nil])] 4
theorem vG(v1:At)(b:Int)(c:List Bw)(a:Nat):stepT B2 (L11 v1 b c a)=let d:=getD (snd<|snd v1) (toNat b) ([],[],[],[],[]);let b':=decide (b<(↑(length<|snd<|snd v1):Int));.ite b' (.ck (decide (0<=b)&&b')<|.ck (mY d)<|.ck (aa 96)<|wR v1 (zc .i64<|b+1) ([d]) c a 1) (.leaf (yb [.nil,.sl 2 2 0 a none,.nil])<|[(2,.arr false 87 BU c),(1,.box [.nil,.sl 2 2 0 a none,.nil]),(0,.box [.nil,.sl 2 2 0 a none,.nil])]):=by kernel_rfl
theorem rX(v1:At)(b:Int)(c:List Be)(a:Nat):stepT B2 (L12 v1 b c a)=let d:=getD (snd<|snd v1) (toNat b) ([],[],[],[],[]);let b':=decide (b<(↑(length<|snd<|snd v1):Int));.ite b' (.ck (decide (0<=b)&&b')<|.ck (mY d)<|.ck (ac a (length c) 96)<|L12 v1 (zc .i64<|b+1) (c++[d])<|zj a 1) (.leaf (yb [.nil,.nil,.sl 2 5 0 a none])<|[(2,.arr false 91 Ba c),(1,.box [.nil,.nil,.sl 2 5 0 a none]),(0,.box [.nil,.nil,.sl 2 5 0 a none])]):=by kernel_rfl
theorem zQ(v1:At)(v4 f:Int)(g:List EJ)(h:List Bi)(j c d e:Z)(a b:Nat):stepT B2 (L13 v1 v4 f g h j c d e a b)=let k:=snd<|snd<|snd<|snd<|getD (fst v1) (toNat v4) ([],[],[],[],[]);let b':=decide (0<=v4)&&decide (v4<(↑(length<|fst v1):Int));let i:=decide (f<(↑(length k):Int));.ck b' (.ite i (.ck b'<|.ck (decide (0<=f)&&i)<|.ck b'<|.ck (decide (0<=f)&&i)<|.ck (ac a (length g) 24)<|L13 v1 v4 (zc .i64<|f+1) (g++[(getD k (toNat f) ([],0))]) h j c d e (zj a 1) b)<|.ck (decide (0+a<=length g)&&true)<|.ck (ac b (length h) 88)<|L6 v1 (zc .i64<|v4+1) (h++[(j,c,d,e,take a g)])<|zj b 1):=by kernel_rfl
def L17(v1:At)(c:Int)(e:List Bw)(d:List Bi)(b a:Nat):Tr:=re ((stepT B2<|L14 ([],([],[])) 0 [] [] 0 0).R)<|Ap 128 [(1,PV.AV AT v1 0),(2,.ptr 0 0),(3,.ptr 1 0),(8,.dat i64 c)] [(3,.arr false 87 BU e),(2,.arr false 81 Bg d),(1,.box [.sl 2 5 0 b none,.sl 3 2 0 a none,.nil]),(0,.box [.nil,.nil,.nil])] 4
theorem nY(v1:At)(c:Int)(d:List Bw)(e:List Bi)(b a:Nat):stepT B2 (L14 v1 c d e b a)=let f:=decide (c<(↑(length<|fst<|snd v1):Int));.ite f (.ck (decide (0<=c)&&f)<|.ck (decide (0<=c)&&f)<|.ck (ac a (length d) 40)<|L14 v1 (zc .i64<|c+1) (d++[(getD (fst<|snd v1) (toNat c) ([],[]))]) e b<|zj a 1) (L17 v1 0 d e b a):=by kernel_rfl
def L18(v1:At)(c:Int)(e:List Be)(d:List Bi)(b a:Nat):Tr:=re ((stepT B2<|xD ([],([],[])) 0 [] 0).L.L.L.L)<|Ap 128 [(1,PV.AV AT v1 0),(2,.ptr 0 0),(3,.ptr 1 0),(8,.dat i64 c)] [(3,.arr false 91 Ba e),(2,.arr false 81 Bg d),(1,.box [.sl 2 5 0 b none,.nil,.sl 3 5 0 a none]),(0,.box [.nil,.nil,.nil])] 4
theorem QJ(v1:At)(b:Int)(c:List Bi)(a:Nat):stepT B2 (xD v1 b c a)=let d:=getD (snd<|snd v1) (toNat b) ([],[],[],[],[]);let b':=decide (b<(↑(length<|snd<|snd v1):Int));.ite b' (.ck (decide (0<=b)&&b')<|.ck (mY d)<|.ck (aa 96)<|L18 v1 (zc .i64<|b+1) ([d]) c a 1) (.leaf (yb [.sl 2 5 0 a none,.nil,.nil])<|[(2,.arr false 81 Bg c),(1,.box [.sl 2 5 0 a none,.nil,.nil]),(0,.box [.sl 2 5 0 a none,.nil,.nil])]):=by kernel_rfl
theorem Vv(v1:At)(c:Int)(d:List Be)(e:List Bw)(b a:Nat):stepT B2 (wR v1 c d e b a)=let f:=getD (snd<|snd v1) (toNat c) ([],[],[],[],[]);let b':=decide (c<(↑(length<|snd<|snd v1):Int));.ite b' (.ck (decide (0<=c)&&b')<|.ck (mY f)<|.ck (ac a (length d) 96)<|wR v1 (zc .i64<|c+1) (d++[f]) e b<|zj a 1) (.leaf (yb [.nil,.sl 2 2 0 b none,.sl 3 5 0 a none])<|[(3,.arr false 91 Ba d),(2,.arr false 87 BU e),(1,.box [.nil,.sl 2 2 0 b none,.sl 3 5 0 a none]),(0,.box [.nil,.sl 2 2 0 b none,.sl 3 5 0 a none])]):=by kernel_rfl
def L19(v1:At)(d:Int)(e:List Be)(g:List Bw)(f:List Bi)(c a b:Nat):Tr:=re ((stepT B2<|L17 ([],([],[])) 0 [] [] 0 0).L.L.L.L)<|Ap 128 [(1,PV.AV AT v1 0),(2,.ptr 0 0),(3,.ptr 1 0),(8,.dat i64 d)] [(4,.arr false 91 Ba e),(3,.arr false 87 BU g),(2,.arr false 81 Bg f),(1,.box [.sl 2 5 0 c none,.sl 3 2 0 a none,.sl 4 5 0 b none]),(0,.box [.nil,.nil,.nil])] 5
theorem wD(v1:At)(c:Int)(e:List Bw)(d:List Bi)(b a:Nat):stepT B2 (L17 v1 c e d b a)=let f:=getD (snd<|snd v1) (toNat c) ([],[],[],[],[]);let b':=decide (c<(↑(length<|snd<|snd v1):Int));.ite b' (.ck (decide (0<=c)&&b')<|.ck (mY f)<|.ck (aa 96)<|L19 v1 (zc .i64<|c+1) ([f]) e d b a 1) (.leaf (yb [.sl 2 5 0 b none,.sl 3 2 0 a none,.nil])<|[(3,.arr false 87 BU e),(2,.arr false 81 Bg d),(1,.box [.sl 2 5 0 b none,.sl 3 2 0 a none,.nil]),(0,.box [.sl 2 5 0 b none,.sl 3 2 0 a none,.nil])]):=by kernel_rfl
theorem nE(v1:At)(c:Int)(d:List Be)(e:List Bi)(b a:Nat):stepT B2 (L18 v1 c d e b a)=let f:=getD (snd<|snd v1) (toNat c) ([],[],[],[],[]);let b':=decide (c<(↑(length<|snd<|snd v1):Int));.ite b' (.ck (decide (0<=c)&&b')<|.ck (mY f)<|.ck (ac a (length d) 96)<|L18 v1 (zc .i64<|c+1) (d++[f]) e b<|zj a 1) (.leaf (yb [.sl 2 5 0 b none,.nil,.sl 3 5 0 a none])<|[(3,.arr false 91 Ba d),(2,.arr false 81 Bg e),(1,.box [.sl 2 5 0 b none,.nil,.sl 3 5 0 a none]),(0,.box [.sl 2 5 0 b none,.nil,.sl 3 5 0 a none])]):=by kernel_rfl
theorem sX(v1:At)(d:Int)(e:List Be)(g:List Bw)(f:List Bi)(c b a:Nat):stepT B2 (L19 v1 d e g f c b a)=let h:=getD (snd<|snd v1) (toNat d) ([],[],[],[],[]);let b':=decide (d<(↑(length<|snd<|snd v1):Int));.ite b' (.ck (decide (0<=d)&&b')<|.ck (mY h)<|.ck (ac a (length e) 96)<|L19 v1 (zc .i64<|d+1) (e++[h]) g f c b<|zj a 1) (.leaf (yb [.sl 2 5 0 c none,.sl 3 2 0 b none,.sl 4 5 0 a none])<|[(4,.arr false 91 Ba e),(3,.arr false 87 BU g),(2,.arr false 81 Bg f),(1,.box [.sl 2 5 0 c none,.sl 3 2 0 b none,.sl 4 5 0 a none]),(0,.box [.sl 2 5 0 c none,.sl 3 2 0 b none,.sl 4 5 0 a none])]):=by kernel_rfl
end T7
namespace T110
def T(a:Z)(lo b:Int):Tr:=tree Aid false 9 110<|Af ([ze,zl zh,zl zh]) (a,lo,b)
theorem Ai(a:Z)(lo b:Int):T a lo b=let d:Tr:=.leaf (.dat i64<|Ao a) [];let b':=Gt (Sp.rN lo,Sp.rW lo);let c:=Gt (Sp.rN b,Sp.rW b);let e:Tr:=.leaf (.dat i64 (3:Int)) [];.cd (length a<=1000000) (.ite (Ao a==0) (.ck (Cn lo)<|.ck (CP (Sp.rN lo,Sp.rW lo))<|.ck (AR a&&BV b')<|.di (CW a b'<0) e<|.ck (Cn b)<|.ck (CP (Sp.rN b,Sp.rW b))<|.ck (AR a&&BV c)<|.di (CW a c>0) e d) d):=by kernel_rfl
end T110
namespace T47
def T(s:Z)(l:List Z):Tr:=tree Aba false 9 47<|Af ([ze,zd ze]) (s,l)
def L1(v0:Z)(v1:List Z)(v5:Int):Tr:=re ((T [] []).L.R)<|Ap 21 [(0,.dat ze v0),(1,.dat (zd ze) v1),(5,.dat i64 v5)] [] 0
theorem Ai(s:Z)(l:List Z):T s l=.ck true (.ite (!zn s) (.leaf (.dat i64 (8:Int)) [])<|L1 s l 0):=by kernel_rfl
theorem Al(v0:Z)(v1:List Z)(v5:Int):stepT Aba (L1 v0 v1 v5)=let a:=decide (v5<(length v1:Int));.ite a (.ck (decide (0<=v5)&&a)<|.ite (getD v1 (toNat v5) []==v0) (.leaf (.dat i64 (9:Int)) [])<|L1 v0 v1<|zc .i64<|v5+1) (.leaf (.dat i64 (0:Int)) []):=by kernel_rfl
end T47
namespace T48
def T(l:Be):Tr:=tree Tc false 9 48<|Af ([Ba]) l
def L1(v4:Int)(e a c:Z)(b d:List AZ):Tr:=re ((T ([],([],([],([],[]))))).L.R.L.L.L.L.L.R)<|Ap 101 [(1,.ptr 0 0),(4,.dat i64 v4)] [(0,.box [.dat ze e,.dat ze a,.dat ze c,.dat (zd Cf) b,.dat (zd Cf) d])] 1
theorem Ai(l:Be):T l=let a:=fst<|snd<|snd<|snd l;let b:=fst<|snd<|snd l;let c:=BQ (fst<|snd l) 1 10000==0;let b':=L1 1 (fst l) (fst<|snd l) b a<|snd<|snd<|snd<|snd l;let d:Tr:=.ck (decide (length a<=1000)&&He 1000000 a)<|.ite (BL a !=0) (.leaf (.dat i64<|BL a) []) b';.ck true (.ite (!zn (fst l)) (.leaf (.dat i64 (8:Int)) [])<|.ck (decide (length (fst<|snd l)<=1000000)&&HE 1&&HE 10000)<|.ite c (.ck (decide (length b<=1000000)&&HE 1&&HE 10000)<|.ite (BQ b 1 10000==0) d<|.ite (BQ b 1 10000 !=0) (.leaf (.dat i64<|BQ b 1 10000) []) b')<|.ite c d<|.ite (BQ (fst<|snd l) 1 10000 !=0) (.leaf (.dat i64<|BQ (fst<|snd l) 1 10000) []) b'):=by kernel_rfl
def L2(f:Int)(e a c:Z)(b d:List AZ):Tr:=re ((stepT Tc<|L1 0 [] [] [] [] []).R.R)<|Ap 101 [(1,.ptr 0 0),(5,.nil),(6,.dat i64 f)] [(0,.box [.dat ze e,.dat ze a,.dat ze c,.dat (zd Cf) b,.dat (zd Cf) d])] 1
theorem Al(v4:Int)(f d c:Z)(a b:List AZ):stepT Tc (L1 v4 f d c a b)=let g:=snd<|getD a (toNat<|zc .i64<|v4-1) ([],[]);let b':=snd<|getD a (toNat v4) ([],[]);let e:=(length a:Int);.di (v4<e) (.ck (decide (0<=v4)&&decide (v4<e))<|.ck (decide (0<=zc .i64 (v4-1))&&decide (zc .i64 (v4-1)<e))<|.ck (AR b'&&BV g)<|.di (CW b' g<0) (.leaf (.dat i64 (11:Int)) [])<|L1 (zc .i64<|v4+1) f d c a b) (.di ((length b:Int)>16) (.leaf (.dat i64 (5:Int)) [])<|L2 0 f d c a b):=by kernel_rfl
def L3(e:Nat)(g:Int)(o1:List Z)(f b a:Z)(c d:List AZ):Tr:=re ((stepT Tc<|L2 0 [] [] [] [] []).L.L.L.L.L.L.L.L.L.L.R.L.L)<|Ap 101 [(1,.ptr 0 0),(5,.sl 1 1 0 e none),(6,.dat i64 g)] [(1,.arr false 9 ze o1),(0,.box [.dat ze f,.dat ze b,.dat ze a,.dat (zd Cf) c,.dat (zd Cf) d])] 2
theorem AA(e:Int)(l c b:Z)(d a:List AZ):stepT Tc (L2 e l c b d a)=let b':=getD a (toNat e) ([],[]);let k:=decide (e<(length a:Int));let f:=decide (0<=e)&&k;let g:=decide (length (snd b')<=1000000);let h':=decide (Gr (snd b')<0);let h:Tr:=.ck f<|.ck (aa 16)<|L3 1 (zc .i64<|e+1) ([fst b']) l c b d a;let m:Tr:=.ite (Ao (snd b') !=0) (.leaf (.dat i64<|Ao<|snd b') []) h;let i:Tr:=.ite (Lg (fst b') [] !=0) (.leaf (.dat i64<|Lg (fst b') []) []) h;let j:Tr:=.ite true (.leaf (.dat i64 (3:Int)) []) h;.ite k (.ck f<|.cd (0<=1000)<|.ite (Lg (fst b') []==0) (.ck f<|.ck g<|.ite (Ao (snd b')==0) (.ck f<|.ck g<|.ite h' j m) m)<|.ite (Lg (fst b') []==0) (.ck f<|.ck g<|.ite h' j i) i) (.leaf (.dat i64 (0:Int)) []):=by kernel_rfl
theorem Bo(a:Nat)(g:Int)(o1:List Z)(o e d:Z)(c b:List AZ):stepT Tc (L3 a g o1 o e d c b)=let b':=getD b (toNat g) ([],[]);let k:=decide (g<(length b:Int));let f:=decide (0<=g)&&k;let h:=decide (length (snd b')<=1000000);let h':=Lg (fst b') (take a o1)==0;let j:=decide (Gr (snd b')<0);let i:Tr:=.ck f<|.ck (ac a (length o1) 16)<|L3 (zj a 1) (zc .i64<|g+1) (o1++[fst b']) o e d c b;let m:Tr:=.ite (Lg (fst b') (take a o1) !=0) (.leaf (.dat i64<|Lg (fst b')<|take a o1) []) i;let l:Tr:=.ite (Ao (snd b') !=0) (.leaf (.dat i64<|Ao<|snd b') []) i;let n:Tr:=.ite true (.leaf (.dat i64 (3:Int)) []) i;.ite k (.ck f<|.ck (decide (0+a<=length o1)&&true&&decide (length (take a o1)<=1000))<|.ite h' (.ck f<|.ck h<|.ite (Ao (snd b')==0) (.ck f<|.ck h<|.ite j n l) l)<|.ite h' (.ck f<|.ck h<|.ite j n m) m) (.leaf (.dat i64 (0:Int)) []):=by kernel_rfl
end T48
namespace T46
def T(s:Bi):Tr:=tree AaG false 9 46<|Af ([Bg]) s
def L1(v4:Int)(e a c d:Z)(b:List EJ):Tr:=re ((T ([],([],([],([],[]))))).L.L.L.L.L.L.L.R.R)<|Ap 61 [(1,.ptr 0 0),(4,.dat i64 v4)] [(0,.box [.dat ze e,.dat ze a,.dat ze c,.dat ze d,.dat (zd Vk) b])] 1
theorem Ai(s:Bi):T s=let a:=snd<|snd<|snd s;let b:=fst<|snd<|snd s;let d:=BQ (fst s) (-10000) 10000==0;let e:=BQ (fst<|snd s) (-10000) 10000==0;let c:Tr:=.di ((↑(length<|snd a):Int)>16) (.leaf (.dat i64 (5:Int)) [])<|L1 0 (fst s) (fst<|snd s) b (fst a)<|snd a;let b':Tr:=.ck (decide (length (fst a)<=1000000)&&HE 0&&HE 10000)<|.ite (BQ (fst a) 0 10000 !=0) (.leaf (.dat i64<|BQ (fst a) 0 10000) []) c;let f:Tr:=.ck (decide (length b<=1000000)&&HE 0&&HE 10000)<|.ite (BQ b 0 10000==0) b'<|.ite (BQ b 0 10000 !=0) (.leaf (.dat i64<|BQ b 0 10000) []) c;.ck (decide (length (fst s)<=1000000)&&HE (-10000)&&HE 10000) (.ite d (.ck (decide (length (fst<|snd s)<=1000000)&&HE (-10000)&&HE 10000)<|.ite e f<|.ite e b'<|.ite (BQ (fst<|snd s) (-10000) 10000 !=0) (.leaf (.dat i64<|BQ (fst<|snd s) (-10000) 10000) []) c)<|.ite d f<|.ite d b'<|.ite (BQ (fst s) (-10000) 10000 !=0) (.leaf (.dat i64<|BQ (fst s) (-10000) 10000) []) c):=by kernel_rfl
theorem Al(v4:Int)(g c b d:Z)(a:List EJ):stepT AaG (L1 v4 g c b d a)=let b':=getD a (toNat v4) ([],0);let f:=decide (v4<(length a:Int));let h:Tr:=.leaf (.dat i64 (3:Int)) [];let e:=decide (0<=v4)&&f;.ite f (.ck e<|.ck true<|.ite (!zn (fst b')) (.leaf (.dat i64 (8:Int)) [])<|.ck e<|.di (snd b'<0) h<|.ck e<|.di (snd b'>10) h<|L1 (zc .i64<|v4+1) g c b d a) (.leaf (.dat i64 (0:Int)) []):=by kernel_rfl
end T46
namespace T10
def T(c:At):Tr:=tree Fk false 9 10<|Af ([AT]) c
def L1(v3:Int)(c:List Bi)(a:List Bw)(b:List Be):Tr:=re ((T ([],([],[]))).R.R)<|Ap 147 [(1,.ptr 0 0),(3,.dat i64 v3)] [(0,.box [.dat (zd Bg) c,.dat (zd BU) a,.dat (zd Ba) b])] 1
theorem Ai(c:At):T c=.ite ((↑(length<|fst c):Int)==0) (.leaf (.dat i64 (12:Int)) []) (.di ((↑(length<|fst c):Int)>36) (.leaf (.dat i64 (5:Int)) [])<|L1 0 (fst c) (fst<|snd c)<|snd<|snd c):=by kernel_rfl
def L2(d:Int)(c:List Bi)(a:List Bw)(b:List Be):Tr:=re ((stepT Fk<|L1 0 [] [] []).R.R.R)<|Ap 147 [(1,.ptr 0 0),(5,.nil),(6,.dat i64 d)] [(0,.box [.dat (zd Bg) c,.dat (zd BU) a,.dat (zd Ba) b])] 1
theorem Al(v3:Int)(c:List Bi)(a:List Bw)(b:List Be):stepT Fk (L1 v3 c a b)=let d:=getD c (toNat v3) ([],[],[],[],[]);let b':=decide (v3<(length c:Int));.ite b' (.ck (decide (0<=v3)&&b')<|.ck (Sp.Bg d)<|.ite (Oe d !=0) (.leaf (.dat i64<|Oe d) [])<|L1 (zc .i64<|v3+1) c a b) (.ite ((length a:Int)==0) (.leaf (.dat i64 (12:Int)) [])<|.di ((length a:Int)>8) (.leaf (.dat i64 (5:Int)) [])<|L2 0 c a b):=by kernel_rfl
def L3(f d v9:Int)(o1:Z)(b:List Int)(e:List Bi)(c:List Bw)(a:List Be):Tr:=re ((stepT Fk<|L2 0 [] [] []).L.L.L.L.L)<|Ap 147 [(1,.ptr 0 0),(5,.nil),(6,.dat i64 f),(7,.ptr 1 0),(8,.dat i64 d),(9,.dat i64 v9)] [(1,.box [.dat ze o1,.dat (zd i64) b]),(0,.box [.dat (zd Bg) e,.dat (zd BU) c,.dat (zd Ba) a])] 2
def L4(c:Int)(d:List Bi)(a:List Bw)(b:List Be):Tr:=re ((stepT Fk<|L2 0 [] [] []).R.R.R)<|Ap 147 [(1,.ptr 0 0),(5,.nil),(10,.dat i64 c)] [(0,.box [.dat (zd Bg) d,.dat (zd BU) a,.dat (zd Ba) b])] 1
theorem AA(d:Int)(e:List Bi)(a:List Bw)(b:List Be):stepT Fk (L2 d e a b)=let c:=getD a (toNat d) ([],[]);let f:=decide (d<(length a:Int));let b':=L3 d (Lg (fst c) []) 0 (fst c) (snd c) e a b;.ite f (.ck (decide (0<=d)&&f)<|.cd (0<=1000)<|.ite (Lg (fst c) []==0) (.ite ((↑(length<|snd c):Int) !=(length e:Int)) (L3 d 2 0 (fst c) (snd c) e a b) b') b') (.ite ((length b:Int)==0) (.leaf (.dat i64 (12:Int)) [])<|.di ((length b:Int)>8) (.leaf (.dat i64 (5:Int)) [])<|L4 0 e a b):=by kernel_rfl
def L5(c:Nat)(e:Int)(o1:List Z)(d:List Bi)(b:List Bw)(a:List Be):Tr:=re ((stepT Fk<|L3 0 0 0 [] [] [] [] []).L.R.R.L)<|Ap 147 [(1,.ptr 0 0),(5,.sl 1 1 0 c none),(6,.dat i64 e)] [(1,.arr false 9 ze o1),(0,.box [.dat (zd Bg) d,.dat (zd BU) b,.dat (zd Ba) a])] 2
theorem Bo(e d v9:Int)(o1:Z)(a:List Int)(f:List Bi)(c:List Bw)(b:List Be):stepT Fk (L3 e d v9 o1 a f c b)=let h:Tr:=.ite (d !=0) (.leaf (.dat i64 d) [])<|.ck (aa 16)<|L5 1 (zc .i64<|e+1) [o1] f c b;let g:=decide (v9<(length a:Int));let i:=zc .i64<|v9+1;let b':=L3 e 3 i o1 a f c b;.ite g (.ite (d==0) (.ck (decide (0<=v9)&&g)<|.di (getD a (toNat v9) 0<1) b'<|.ck (decide (0<=v9)&&g)<|.di (getD a (toNat v9) 0>10000) b'<|L3 e d i o1 a f c b) h) h:=by kernel_rfl
def L6(d:Nat)(c:Int)(o1:List Z)(e:List Bi)(a:List Bw)(b:List Be):Tr:=re ((stepT Fk<|L4 0 [] [] []).L.L.L.L.L.L.R.L.L)<|Ap 147 [(1,.ptr 0 0),(5,.sl 1 1 0 d none),(10,.dat i64 c)] [(1,.arr false 9 ze o1),(0,.box [.dat (zd Bg) e,.dat (zd BU) a,.dat (zd Ba) b])] 2
theorem BX(b:Int)(f:List Bi)(c:List Bw)(a:List Be):stepT Fk (L4 b f c a)=let d:=getD a (toNat b) ([],[],[],[],[]);let g:=decide (b<(length a:Int));let e:=decide (0<=b)&&g;let b':Tr:=.ck e<|.ck (aa 16)<|L6 1 (zc .i64<|b+1) ([fst d]) f c a;.ite g (.ck e<|.ck (LN d)<|.ite (KU d==0) (.ck e<|.cd (0<=1000)<|.ite (Lg (fst d) [] !=0) (.leaf (.dat i64<|Lg (fst d) []) []) b')<|.ite (KU d !=0) (.leaf (.dat i64<|KU d) []) b') (.leaf (.dat i64 (0:Int)) []):=by kernel_rfl
def L7(d:Nat)(e g v9:Int)(h:Z)(a:List Int)(o1:List Z)(f:List Bi)(c:List Bw)(b:List Be):Tr:=re ((stepT Fk<|L5 0 0 [] [] [] []).L.L.L.L.L)<|Ap 147 [(1,.ptr 0 0),(5,.sl 1 1 0 d none),(6,.dat i64 e),(7,.ptr 2 0),(8,.dat i64 g),(9,.dat i64 v9)] [(2,.box [.dat ze h,.dat (zd i64) a]),(1,.arr false 9 ze o1),(0,.box [.dat (zd Bg) f,.dat (zd BU) c,.dat (zd Ba) b])] 3
theorem Dl(c:Nat)(e:Int)(o1:List Z)(f:List Bi)(b:List Bw)(a:List Be):stepT Fk (L5 c e o1 f b a)=let d:=getD b (toNat e) ([],[]);let g:=decide (e<(length b:Int));let b':=L7 c e (Lg (fst d)<|take c o1) 0 (fst d) (snd d) o1 f b a;.ite g (.ck (decide (0<=e)&&g)<|.ck (decide (0+c<=length o1)&&true&&decide (length (take c o1)<=1000))<|.ite (Lg (fst d) (take c o1)==0) (.ite ((↑(length<|snd d):Int) !=(length f:Int)) (L7 c e 2 0 (fst d) (snd d) o1 f b a) b') b') (.ite ((length a:Int)==0) (.leaf (.dat i64 (12:Int)) [])<|.di ((length a:Int)>8) (.leaf (.dat i64 (5:Int)) [])<|L4 0 f b a):=by kernel_rfl
theorem CL(a:Nat)(c:Int)(o1:List Z)(g:List Bi)(d:List Bw)(b:List Be):stepT Fk (L6 a c o1 g d b)=let b':=getD b (toNat c) ([],[],[],[],[]);let h:=decide (c<(length b:Int));let e:=decide (0<=c)&&h;let f:Tr:=.ck e<|.ck (ac a (length o1) 16)<|L6 (zj a 1) (zc .i64<|c+1) (o1++[fst b']) g d b;.ite h (.ck e<|.ck (LN b')<|.ite (KU b'==0) (.ck e<|.ck (decide (0+a<=length o1)&&true&&decide (length (take a o1)<=1000))<|.ite (Lg (fst b') (take a o1) !=0) (.leaf (.dat i64<|Lg (fst b')<|take a o1) []) f)<|.ite (KU b' !=0) (.leaf (.dat i64<|KU b') []) f) (.leaf (.dat i64 (0:Int)) []):=by kernel_rfl
theorem C6(d:Nat)(f e v9:Int)(h:Z)(a:List Int)(o1:List Z)(g:List Bi)(c:List Bw)(b:List Be):stepT Fk (L7 d f e v9 h a o1 g c b)=let j:Tr:=.ite (e !=0) (.leaf (.dat i64 e) [])<|.ck (ac d (length o1) 16)<|L5 (zj d 1) (zc .i64<|f+1) (o1++[h]) g c b;let i:=decide (v9<(length a:Int));let k:=zc .i64<|v9+1;let b':=L7 d f 3 k h a o1 g c b;.ite i (.ite (e==0) (.ck (decide (0<=v9)&&i)<|.di (getD a (toNat v9) 0<1) b'<|.ck (decide (0<=v9)&&i)<|.di (getD a (toNat v9) 0>10000) b'<|L7 d f e k h a o1 g c b) j) j:=by kernel_rfl
end T10
namespace T115
def T(c:At):Tr:=tree NB false 9 115<|Af ([AT]) c
def L1(c:List Bi)(e d:Int)(f:List Bi)(a:List Bw)(b:List Be):Tr:=re ((T ([],([],[]))).L.R)<|Ap 116 [(1,.ptr 0 0),(26,.dat (zd Bg) c),(27,.dat i64 e),(28,.dat i64 d)] [(0,.box [.dat (zd Bg) f,.dat (zd BU) a,.dat (zd Ba) b])] 1
theorem Ai(c:At):T c=let a:=(↑(length<|fst c):Int);.ck true (.ite (Dc a 36 !=0) (.leaf (.dat i64<|Dc a 36) [])<|L1 (fst c) a 0 (fst c) (fst<|snd c)<|snd<|snd c):=by kernel_rfl
def L2(d:List Bw)(c e:Int)(o1:List (Z×Bool))(f:List Bi)(a:List Bw)(b:List Be):Tr:=re ((stepT NB<|L1 [] 0 0 [] [] []).R.L.R)<|Ap 116 [(1,.ptr 0 0),(8,PV.mp 1),(47,.dat (zd BU) d),(48,.dat i64 c),(49,.dat i64 e)] [(1,Obj.map ze zu o1),(0,.box [.dat (zd Bg) f,.dat (zd BU) a,.dat (zd Ba) b])] 2
theorem Al(d:List Bi)(e b:Int)(f:List Bi)(a:List Bw)(c:List Be):stepT NB (L1 d e b f a c)=let g:=getD d (toNat b) ([],[],[],[],[]);let b':=(length a:Int);.di (b<e) (.ck (decide (0<=b)&&decide (b<(length d:Int)))<|.ck (Sp.Bg g)<|.ite (Oe g !=0) (.leaf (.dat i64<|Oe g) [])<|L1 d e (zc .i64<|b+1) f a c) (.ck true<|.ite (Dc b' 8 !=0) (.leaf (.dat i64<|Dc b' 8) [])<|L2 a b' 0 [] f a c):=by kernel_rfl
def L3(g:List Bw)(j h:Int)(o1:List (Z×Bool))(k:List Bi)(e:List Bw)(d:List Be)(v0:List Int)(n l:Int)(m:Z)(c:List Int)(f:List (Z×Bool))(i:List Bi)(b:List Bw)(a:List Be):Tr:=re ((stepT NB<|L2 g j h o1 k e d).L.L)<|Ap 19 [(0,.dat (zd i64) v0),(1,PV.fn (zr 165) [] []),(7,.dat i64 n),(8,.dat i64 l)] [(2,.box [.dat ze m,.dat (zd i64) c]),(1,Obj.map ze zu f),(0,.box [.dat (zd Bg) i,.dat (zd BU) b,.dat (zd Ba) a])] 3
def L4(b:List Be)(a c:Int)(d:List (Z×Bool)):Tr:=re ((stepT NB<|L2 [] 0 0 [] [] [] []).R.L.R)<|Ap 116 [(14,PV.mp 0),(94,.dat (zd Ba) b),(95,.dat i64 a),(96,.dat i64 c)] [(0,Obj.map ze zu d)] 1
theorem AA(d:List Bw)(e b:Int)(o1:List (Z×Bool))(g:List Bi)(c:List Bw)(a:List Be):stepT NB (L2 d e b o1 g c a)=let f:=getD d (toNat b) ([],[]);let b':=(length a:Int);.di (b<e) (.ck (decide (0<=b)&&decide (b<(length d:Int)))<|L3 d e b o1 g c a (snd f) ((↑(length<|snd f):Int)) 0 (fst f) (snd f) o1 g c a) (.ck true<|.ite (Dc b' 8 !=0) (.leaf (.dat i64<|Dc b' 8) [])<|L4 a b' 0 []):=by kernel_rfl
theorem Bo(i:List Bw)(k j:Int)(o1:List (Z×Bool))(r:List Bi)(h:List Bw)(g:List Be)(v0:List Int)(o f:Int)(l:Z)(c:List Int)(d:List (Z×Bool))(e:List Bi)(b:List Bw)(a:List Be):stepT NB (L3 i k j o1 r h g v0 o f l c d e b a)=let b':=Option.getD (Fa ze zu l d) false;let m:=(length c:Int) !=(↑(length e):Int);let s:=L2 i k (zc .i64<|j+1) (Iq ze zu l true d) e b a;let n:=!zn l;let p:=decide (4<=4)&&true&&decide (4<=1000000);let q:Tr:=.ck true<|.ck true<|.ck true<|.ck true<|.ck true<|.ck p<|.ite (zk [CB n 8,CB b' 9,CB m 2,CB (decide (f>=0)) 3] !=0) (.leaf (.dat i64<|zk [CB n 8,CB b' 9,CB m 2,CB (decide (f>=0)) 3]) []) s;.di (f<o) (.ck (decide (0<=f)&&decide (f<(length v0:Int)))<|.di (getD v0 (toNat f) 0<1) q<|.di (getD v0 (toNat f) 0>10000) q<|L3 i k j o1 r h g v0 o (zc .i64<|f+1) l c d e b a) (.ck true<|.ck true<|.ck true<|.ck true<|.ck true<|.ck p<|.ite (zk [CB n 8,CB b' 9,CB m 2,CB false 3] !=0) (.leaf (.dat i64<|zk [CB n 8,CB b' 9,CB m 2,CB false 3]) []) s):=by kernel_rfl
theorem BX(b:List Be)(c a:Int)(e:List (Z×Bool)):stepT NB (L4 b c a e)=let d:=getD b (toNat a) ([],[],[],[],[]);let b':=Option.getD (Fa ze zu (fst d) e) false;.di (a<c) (.ck (decide (0<=a)&&decide (a<(length b:Int)))<|.ck (Sp.Ba d)<|.ck true<|.ck (decide (2<=2)&&true&&decide (2<=1000000))<|.ite (zk [KU d,CB b' 9] !=0) (.leaf (.dat i64<|zk [KU d,CB b' 9]) [])<|L4 b c (zc .i64<|a+1)<|Iq ze zu (fst d) true e) (.leaf (.dat i64 (0:Int)) []):=by kernel_rfl
end T115
namespace T51
def T(c:At)(l:List (Int×Int)):Tr:=tree Ack false 9 51<|Af ([AT,zd<|zf i64 i64]) (c,l)
def L1(c:At)(l:List (Int×Int))(v0:List (Int×Int))(e d:Int)(f:List Bi)(a:List Bw)(b:List Be):Tr:=re ((T c l).L.R)<|Ap 19 [(0,.dat (zd<|zf i64 i64) v0),(1,PV.fn (zr 117) [] []),(7,.dat i64 e),(8,.dat i64 d)] [(0,.box [.dat (zd Bg) f,.dat (zd BU) a,.dat (zd Ba) b])] 1
theorem Ai(c:At)(l:List (Int×Int)):T c l=.ck (Gc c) (.ite (HR c !=0) (.leaf (.dat i64<|HR c) [])<|L1 c l l ((length l:Int)) 0 (fst c) (fst<|snd c)<|snd<|snd c):=by kernel_rfl
theorem Al(c:At)(l:List (Int×Int))(v0:List (Int×Int))(e d:Int)(f:List Bi)(b:List Bw)(a:List Be):stepT Ack (L1 c l v0 e d f b a)=let g:Tr:=.ck true<|.leaf (.dat i64<|CB (decide (d>=0)) 10) [];let b':=getD v0 (toNat d) (0,0);.di (d<e) (.ck (decide (0<=d)&&decide (d<(length v0:Int)))<|.di (fst b'<0) g<|.di (fst b'>=snd b') g<|L1 c l v0 e (zc .i64<|d+1) f b a) (.ck true<|.leaf (.dat i64<|CB false 10) []):=by kernel_rfl
end T51
namespace T204
def T(a:Z)(lo b:Int):Tr:=tree AfC false 9 204<|Af ([ze,zl zh,zl zh]) (a,lo,b)
theorem Ai(a:Z)(lo b:Int):T a lo b=let c:=((lo,BA lo),1,BA 1);let b':=((b,BA b),1,BA 1);.cd (length a<=1000000) (.ite (Ao a !=0) (.leaf (.dat i64<|Ao a) [])<|.ck (D8 a)<|.ck true<|.ck (yg (CC a)&&yg c)<|.di (DD (CC a) c<0) (.ck true<|.leaf (.dat i64<|CB true 3) [])<|.ck true<|.ck (yg (CC a)&&yg b')<|.ck true<|.leaf (.dat i64<|CB (decide (DD (CC a) b'>0)) 3) []):=by kernel_rfl
end T204
namespace T207
def T(l:List AZ):Tr:=tree pN false 9 207<|Af ([zd Cf]) l
def L1(a:List AZ)(c b:Int)(d:List (Z×Bool)):Tr:=re ((T []).R)<|Ap 44 [(3,PV.mp 0),(11,.dat (zd Cf) a),(12,.dat i64 c),(13,.dat i64 b)] [(0,Obj.map ze zu d)] 1
theorem Ai(l:List AZ):T l=.di ((length l:Int)>16) (.leaf (.dat i64 (5:Int)) []) (L1 l ((length l:Int)) 0 []):=by kernel_rfl
theorem Al(c:List AZ)(d a:Int)(e:List (Z×Bool)):stepT pN (L1 c d a e)=let b:=getD c (toNat a) ([],[]);let b':=Option.getD (Fa ze zu (fst b) e) false;.di (a<d) (.ck (decide (0<=a)&&decide (a<(length c:Int)))<|.ck true<|.ck true<|.ck true<|.cd (length (snd b)<=1000000)<|.ck (decide (3<=3)&&true&&decide (3<=1000000))<|.ite (zk [CB (!zn (fst b)) 8,CB b' 9,Ao<|snd b] !=0) (.leaf (.dat i64<|zk [CB (!zn (fst b)) 8,CB b' 9,Ao<|snd b]) [])<|.ck (D8<|snd b)<|.ck (Sp.Dz (S7<|snd b,S0<|snd b))<|.di (Rl (CC<|snd b)<0) (.leaf (.dat i64 (3:Int)) [])<|L1 c d (zc .i64<|a+1)<|Iq ze zu (fst b) true e) (.leaf (.dat i64 (0:Int)) []):=by kernel_rfl
end T207
namespace T167
def T(l:Be):Tr:=tree oX false 9 167<|Af ([Ba]) l
def L1(v4:Int)(e a c:Z)(b d:List AZ):Tr:=re ((T ([],([],([],([],[]))))).L.L.L.L.L.L.R)<|Ap 51 [(1,.ptr 0 0),(4,.dat i64 v4)] [(0,.box [.dat ze e,.dat ze a,.dat ze c,.dat (zd Cf) b,.dat (zd Cf) d])] 1
theorem Ai(l:Be):T l=let a:=fst<|snd<|snd<|snd l;let b':=fst<|snd<|snd l;.ck true (.ck true<|.ck (decide (length (fst<|snd l)<=1000000)&&HE 1&&HE 10000)<|.ck (decide (length b'<=1000000)&&HE 1&&HE 10000)<|.ck (decide (length a<=1000)&&He 1000000 a)<|.ck (decide (4<=4)&&true&&decide (4<=1000000))<|.ite (zk [CB (!zn (fst l)) 8,BQ (fst<|snd l) 1 10000,BQ b' 1 10000,BL a] !=0) (.leaf (.dat i64<|zk [CB (!zn (fst l)) 8,BQ (fst<|snd l) 1 10000,BQ b' 1 10000,BL a]) [])<|L1 1 (fst l) (fst<|snd l) b' a<|snd<|snd<|snd<|snd l):=by kernel_rfl
theorem Al(v4:Int)(g d c:Z)(a b:List AZ):stepT oX (L1 v4 g d c a b)=let f:=snd<|getD a (toNat<|zc .i64<|v4-1) ([],[]);let b':=snd<|getD a (toNat v4) ([],[]);let e:=(length a:Int);.di (v4<e) (.ck (decide (0<=v4)&&decide (v4<e))<|.ck (decide (0<=zc .i64 (v4-1))&&decide (zc .i64 (v4-1)<e))<|.ck (D8 b')<|.ck (D8 f)<|.ck (yg (CC b')&&yg (CC f))<|.di (DD (CC b') (CC f)<0) (.leaf (.dat i64 (11:Int)) [])<|L1 (zc .i64<|v4+1) g d c a b) (.ck (HQ b 40 20)<|.leaf (.dat i64<|OB b) []):=by kernel_rfl
end T167
namespace T164
def T(s:Bi):Tr:=tree oK false 9 164<|Af ([Bg]) s
def L1(b:List EJ)(a c:Int):Tr:=re ((T ([],([],([],([],[]))))).L.L.L.L.L.L.R)<|Ap 56 [(30,.dat (zd Vk) b),(31,.dat i64 a),(32,.dat i64 c)] [] 0
theorem Ai(s:Bi):T s=let a:=snd<|snd<|snd s;let b:=fst<|snd<|snd s;let b':=(↑(length<|snd a):Int);.ck (decide (length (fst s)<=1000000)&&HE (-10000)&&HE 10000) (.ck (decide (length (fst<|snd s)<=1000000)&&HE (-10000)&&HE 10000)<|.ck (decide (length b<=1000000)&&HE 0&&HE 10000)<|.ck (decide (length (fst a)<=1000000)&&HE 0&&HE 10000)<|.ck true<|.ck (decide (5<=5)&&true&&decide (5<=1000000))<|.ite (zk [BQ (fst s) (-10000) 10000,BQ (fst<|snd s) (-10000) 10000,BQ b 0 10000,BQ (fst a) 0 10000,CB (decide (b'>16)) 5] !=0) (.leaf (.dat i64<|zk [BQ (fst s) (-10000) 10000,BQ (fst<|snd s) (-10000) 10000,BQ b 0 10000,BQ (fst a) 0 10000,CB (decide (b'>16)) 5]) [])<|L1 (snd a) b' 0):=by kernel_rfl
theorem Al(b:List EJ)(c a:Int):stepT oK (L1 b c a)=let d:=getD b (toNat a) ([],0);let e:=decide (2<=2)&&true&&decide (2<=1000000);let f:=L1 b c<|zc .i64<|a+1;let b':=!zn (fst d);.di (a<c) (.ck (decide (0<=a)&&decide (a<(length b:Int)))<|.ck true<|.ck true<|.di (snd d<0) (.ck true<|.ck e<|.ite (zk [CB b' 8,CB true 3] !=0) (.leaf (.dat i64<|zk [CB b' 8,CB true 3]) []) f)<|.ck true<|.ck e<|.ite (zk [CB b' 8,CB (decide (snd d>10)) 3] !=0) (.leaf (.dat i64<|zk [CB b' 8,CB (decide (snd d>10)) 3]) []) f) (.leaf (.dat i64 (0:Int)) []):=by kernel_rfl
end T164
namespace T111
def T(s:Z):Tr:=tree YU false 9 111<|Af ([ze]) s
def L1(v0:Z)(v3:Int):Tr:=re ((T []).R.R)<|Ap 56 [(0,.dat ze v0),(3,.dat i64 v3)] [] 0
theorem Ai(s:Z):T s=.di ((length s:Int)<1) (.leaf (.bl false) []) (.di ((length s:Int)>24) (.leaf (.bl false) [])<|L1 s 0):=by kernel_rfl
theorem Al(v0:Z)(v3:Int):stepT YU (L1 v0 v3)=let b':=(↑(UInt8.toNat<|getD v0 (toNat v3) (0:UInt8)):Int);let a:=L1 v0<|zc .i64<|v3+1;let b:Tr:=.leaf (.bl false) [];let c:=decide (v3<(length v0:Int));let d:Tr:=.ite (v3==0) b<|.di (b'>=48) (.di (b'<=57) a<|.ite (!b'==95) b a)<|.ite (!b'==95) b a;let e:Tr:=.di (b'>=65) (.ite (!decide (b'<=90)) d a) d;.ite c (.ck (decide (0<=v3)&&c)<|.di (b'>=97) (.di (b'<=122) a e) e) (.leaf (.bl true) []):=by kernel_rfl
end T111
end
theorem T166.zX:Ae A1 166 iX:=by
 refine C3 Ut<|fun(s:Z) _=>?_;have d:∀v b,v=.bl b\/v=.dat .bool b->b=zn s->∀ob,Ac iX s v ob:=by
  rintro v b (rfl|rfl) j ob
  ·exact ym rfl rfl j
  ·exact ym rfl rfl j
 refine yj (T166.Ai s) ?_;conv=>zeta
 refine Ends.Ah (T166.Al ..) ?_;conv=>zeta
 cases s with
 |nil=>
  refine Ends.ff (by simp) (Ends.ff (by simp) ?_);exact zp<|d _ _ (.inl rfl) rfl _
 |cons x r=>
  refine z6 (by simp) ?_;simp only[FQ,Iv,w5,zy,w9,bne_iff_ne,wm,wk];have step:zo (x.toNat:Int)=true->Ll (x::r) 0=1->Ends YU (T166.L2 (x::r) (x::r)<|zj 0<|Ll (x::r) 0) (Ac iX (x::r)):=by
   intro a n;rw[n];refine T166.loop (x::r) (by simp) r 1 rfl (by simp) ae (fun e=>d _ _ (.inl rfl) ?_) (fun e=>d _ _ (.inr rfl) ?_)
   ·simp[zn,e]
   ·simp only[zn,e,a,Bool.and_true,List.length_cons];congr 1;apply propext;push_cast;omega
  have no:zo (x.toNat:Int)=false->∀ob,Ac iX (x::r) (.bl false) ob:=fun a=>d _ _ (.inl rfl) (by simp[zn,a])
  have l:(x::r).getD 0 0=x:=rfl;by_cases k:((x::r).getD 0 0).toNat<128
  ·obtain⟨o,p⟩:=YC (s:=x::r) (i:=0) (by simp) k;rw[o,l];have g:=LC (x.toNat:Int);generalize ((x.toNat:Nat):Int)=c at g step no ⊢;by_cases a:zo c=true
   ·have:=g.1 a;repeat' split
    all_goals first|exact step a p|(exfalso;omega)
   ·have f:zo c=false:=by simpa using a
    have:¬_:=fun h=>a<|g.2 h
    repeat' split
    all_goals first|exact no f _|(exfalso;omega)
  ·have hr:=Ug (s:=x::r) (i:=0) (by simp) ae;have m:zo (x.toNat:Int)=false:=by
    have:¬zo (x.toNat:Int)=true:=fun h=>by
     have:=(LC _).1 h;rw[l]at k;omega
    simpa using this
   repeat' split
   all_goals first|exact no m _|(exfalso;omega)
namespace T111
variable {Q:PV->Ob->Prop}
theorem loop(s:Z)(p:s.length<=24):∀(r:Z) (i:Nat),s.drop i=r->i<=s.length->
  (((decide (1<=i)||zo ((r.headD 97).toNat:Int))&&(r.all fun c=>z7 (c.toNat:Int)))=false->Q (.bl false) [])->(((decide (1<=i)||zo ((r.headD 97).toNat:Int))&&(r.all fun c=>z7 (c.toNat:Int)))=true->Q (.bl true) [])->Ends YU (L1 s i) Q
 |[],i,h,n,j,g=>by
  have:=drop_nil h n;refine Ends.Ah (Al ..) (Ends.ff (by simp;omega) ?_);exact zp (g (by simp;exact .inr af))
 |x::r,i,h,n,j,g=>by
  obtain⟨o,t,q⟩:=drop_cons (d:=0) h;refine Ends.Ah (Al ..) ?_;conv=>zeta
  simp only[Int.toNat_natCast,t];rw[wr _ ae ae];have l:=RJ (x.toNat:Int);have li:=LC (x.toNat:Int);have step:(1<=i\/zo (x.toNat:Int)=true)->z7 (x.toNat:Int)=true->Ends YU (L1 s<|(i:Int)+1) Q:=by
   intro hm m;have e:((i:Int)+1)=((i+1:Nat):Int):=by push_cast;rfl
   rw[e];refine loop s p r (i+1) q o (fun e=>j ?_)<|fun e=>g ?_
   ·simp only[yf,m,Bool.true_and];have:(r.all fun c=>z7 (c.toNat:Int))=false:=by simpa using e
    rw[this,Bool.and_false]
   ·have:(r.all fun c=>z7 (c.toNat:Int))=true:=by simpa using e
    simp only[yf,m,this,Bool.and_true,Bool.or_eq_true,w5,yi];exact hm
  have no:(¬(1<=i\/zo (x.toNat:Int)=true)\/z7 (x.toNat:Int)=false)->Q (.bl false) []:=by
   intro hm;refine j ?_;simp only[yi,yf];rcases hm with hm|hm
   ·have:(decide (1<=i)||zo (x.toNat:Int))=false:=by
     rw[Bool.eq_false_iff];intro h;apply hm;simpa using h
    rw[this,Bool.false_and]
   ·rw[hm,Bool.false_and,Bool.and_false]
  generalize ((x.toNat:Nat):Int)=c at l li step no ⊢;by_cases hm:z7 c=true
  ·have b:=l.1 hm;by_cases a:1<=i\/zo c=true
   ·have k:1<=i\/(97<=c/\c<=122)\/(65<=c/\c<=90):=a.imp id li.1;repeat' (with_reducible refine Ends.ite (fun _=>?_)<|fun _=>?_)
    all_goals first|with_reducible exact step a hm|(exfalso;simp only[w5,w9,zy,zm,zz,wj,vc,wm]at*;omega)
   ·have k:¬(1<=i\/(97<=c/\c<=122)\/(65<=c/\c<=90)):=fun h=>a<|h.imp id li.2
    repeat' (with_reducible refine Ends.ite (fun _=>?_)<|fun _=>?_)
    all_goals first|with_reducible exact zp (no<|.inl a)|(exfalso;simp only[w5,w9,zy,zm,zz,wj,vc,wm,Bool.not_eq_false']at*;omega)
  ·have f:z7 c=false:=by simpa using hm
   have b:¬_:=fun h=>hm<|l.2 h
   repeat' (with_reducible refine Ends.ite (fun _=>?_)<|fun _=>?_)
   all_goals first|with_reducible exact zp (no<|.inr f)|(exfalso;simp only[w5,w9,zy,zm,zz,wj,vc,wm,Bool.not_eq_false']at*;omega)
theorem ok:Ae A1 111 iX:=by
 refine C3 Ut<|fun(s:Z) _=>?_;have a:∀b,b=zn s->Ac iX s (.bl b) []:=fun b g=>ym rfl rfl g
 refine yj (Ai s) ?_;conv=>zeta
 rw[FQ];cases s with
 |nil=>rw[wd (by simp),Iv];exact a _ rfl
 |cons x r=>
  rw[wc (by simp;omega),FQ];by_cases h:(x::r).length<=24
  ·rw[wc<|by simp at h ⊢;omega];have d:decide (r.length<=23)=true:=by simp at h ⊢;omega
   have key:zn (x::r)=((decide (1<=0)||zo (((x::r).headD 97).toNat:Int))&&((x::r).all fun c=>z7 (c.toNat:Int))):=by
    simp only[zn,d,yi,yf,Bool.true_and];cases f:zo (x.toNat:Int)with
    |false=>simp
    |true=>
     have:z7 (x.toNat:Int)=true:=by unfold z7;rw[f];rfl
     simp[this]
   exact loop (x::r) h (x::r) 0 rfl (by simp) (fun e=>a _<|by rw[key];exact e.symm) (fun e=>a _<|by rw[key];exact e.symm)
  ·rw[wd (by simp at h ⊢;omega),Iv];exact a _ (by simp only[zn];rw[w8<|by simp at h;omega];rfl)
end T111
section
open List Int Prod
namespace T60
def T(l:List Int):Tr:=tree YU false 9 60<|Af ([zd i64]) l
def L1(v5:List Int)(b a:Int):Tr:=re ((T []))<|Ap 15 [(5,.dat (zd i64) v5),(6,.dat i64 b),(7,.dat i64 a)] [] 0
theorem Ai(l:List Int):T l=L1 l ((length l:Int)) 0:=by kernel_rfl
theorem Al(v5:List Int)(b a:Int):stepT YU (L1 v5 b a)=.di (a<b) (.ck (decide (0<=a)&&decide (a<(length v5:Int)))<|.ite (getD v5 (toNat a) 0 !=0) (.leaf (.dat i64<|getD v5 (toNat a) 0) [])<|L1 v5 b<|zc .i64<|a+1) (.leaf (.dat i64 (0:Int)) []):=by kernel_rfl
end T60
namespace T91
def T(c:Bool)(e:Int):Tr:=tree YU false 9 91<|Af ([zu,zl zh]) (c,e)
theorem Ai(c:Bool)(e:Int):T c e=.ite c (.leaf (.dat i64 e) []) (.leaf (.dat i64 (0:Int)) []):=by kernel_rfl
end T91
namespace T90
def T(n m:Int):Tr:=tree Ail false 9 90<|Af ([zl zh,zl zh]) (n,m)
theorem Ai(n m:Int):T n m=.ck true (.ck true<|.ck (decide (2<=2)&&true&&decide (2<=1000000))<|.leaf (.dat i64<|zk [CB (n==0) 12,CB (decide (n>m)) 5]) []):=by kernel_rfl
end T90
namespace T54
def T(a:Ad):Tr:=tree Ain false 9 54<|Af ([Aq]) a
theorem Ai(a:Ad):T a=let b:=((fst a),fst<|snd a,snd<|snd a);.ck (yg b) (.ite (JK b) (.leaf (.tup [.dat ze [],.dat i64 (4:Int)]) [])<|.ck (yg b)<|.leaf (.tup [.dat ze<|Li b,.dat i64 (0:Int)]) []):=by kernel_rfl
end T54
namespace T93
def T(n:Int):Tr:=tree AdH false 9 93<|Af ([zl zh]) n
theorem Ai(n:Int):T n=.ck (Cn n) (.ck (CP (Sp.rN n,Sp.rW n))<|.leaf (.dat ze<|Gt (Sp.rN n,Sp.rW n)) []):=by kernel_rfl
end T93
end
namespace T60
theorem loop{Q:PV->Ob->Prop}(l:List Int)(j:l.length<=1000000)(a:∀ob,Q (.dat i64<|zk l) ob):∀(r:List Int) (i:Nat),l.drop i=r->i<=l.length->zk l=zk r->Ends YU (L1 l ((l.length:Int)) (i:Int)) Q
 |[],i,h,c,e=>by
  have n:=drop_nil h c;refine Ends.Ah (Al ..) (Ends.ff (w8 ae)<|zp ?_);rw[e]at a;exact a _
 |x::r,i,h,c,e=>by
  obtain⟨f,m,g⟩:=drop_cons (d:=0) h;refine Ends.Ah (Al ..) ?_;conv=>zeta
  have k:=wn (i:=i) ae;rw[k,Int.toNat_natCast,m];refine z6 (w4 ae) (z6 (ad ae ae) ?_);by_cases b:x=0
  ·subst b;refine Ends.ff rfl (loop l j a r (i+1) g f ?_);rw[e];rfl
  ·have ex:zk (x::r)=x:=by unfold zk;rw[wd b]
   refine z6 (by simpa using b)<|zp ?_;rw[e,ex]at a;exact a _
theorem ok:Ae A1 60 G6:=by
 refine C3 Ut<|fun(l:List Int) hl=>?_;exact yj (Ai l)<|loop l (w6 hl) (fun ob=>ym rfl rfl rfl) l 0 rfl (Nat.zero_le _) rfl
end T60
theorem T91.ok:Ae A1 91 Hz:=by
 refine C3 Ut<|fun⟨c,e⟩ _=>?_;refine yj (T91.Ai c e)<|Ends.ite (fun h=>zp<|ym rfl rfl ?_)<|fun h=>zp<|ym rfl rfl ?_
 ·show e=CB c e;rw[h];rfl
 ·show(0:Int)=CB c e;rw[h];rfl
theorem pQ:Cr Ail:=Aa T60.ok<|Aa T91.ok AI
theorem count_eq(n m:Int):zk [CB (n==0) 12,CB (decide (n>m)) 5]=Dc n m:=by
 rw[K3,Fl,Fl];unfold Dc;by_cases h:n=0
 ·subst h;rfl
 ·have e:(n==0)=false:=by simpa using h
  rw[e,wc (show ¬(if false=true then(12:Int)else 0)≠0 by decide),wc h];by_cases k:m<n
  ·rw[wd k,w4<|show n>m from k];rfl
  ·rw[wc k,w8<|show ¬n>m from k];rfl
theorem T90.ok:Ae A1 90 qV:=by
 refine C3 pQ<|fun(i:Int×Int) _=>?_;obtain⟨n,m⟩:=i;refine yj (T90.Ai n m) ?_;conv=>zeta
 rw[count_eq];exact z6 rfl (z6 rfl (z6 rfl (zp<|ym rfl rfl rfl)))
end Go.Pe
namespace Go.Sp
theorem RE(n:Int):Gt (rN n,rW n)=Az ((n:Int):Rat):=by rw[Nt,Ub]
theorem OS{n:Int}{k:Nat}(h:n.natAbs<10^k)(a:1<=k):Nu k (Az (n:Rat)) (n:Rat):=by
 have b:10^1<=10^k:=Nat.pow_le_pow_right af a;refine⟨rfl,?_,?_⟩
 ·rw[Rat.num_intCast];exact h
 ·rw[Rat.den_intCast];omega
theorem Nu.nz{k:Nat}{s:Z}{q:Rat}(h:Nu k s q)(a:k<=1400)(h0:q≠0):XC s=true:=tH (h.BV a) fun e=>h0 ((h.J0 ae).1 e)
theorem IV:Nu 1 [48] 0:=by
 refine⟨by decide+kernel,?_⟩;unfold Cz;decide+kernel
theorem qE{s:Z}{n:Nat}(h:Cp s (n:Int)=true):aG s<=n:=by
 unfold Cp at h;rw[zm,zm,zm,w5,w5,w5,w5]at h;obtain⟨⟨_,a⟩,b⟩:=h;unfold aG;omega
end Go.Sp
namespace Go.Pe
open Sp
open Go.Det
theorem uN:Cr Ain:=Aa T118.ok<|Aa T119.ok AI
theorem T54.ok:Ae A1 54 Nk:=by
 refine C3 uN<|fun(a:(Int×List Int)×(Int×List Int)) ha=>?_;refine yj (T54.Ai a)<|z6 ha<|Ends.ite (fun c=>zp<|ym rfl rfl ?_)<|fun c=>z6 ha<|zp<|ym rfl rfl ?_
 ·have c:JK a=true:=c;show([],(4:Int))=(H8 a,EO a);unfold H8 EO;rw[wd c,wd c]
 ·have c:JK a=false:=c;show(Li a,(0:Int))=(H8 a,EO a);unfold H8 EO;rw[wc (by rw[c];decide),wc<|by rw[c];decide]
theorem lZ:Cr AdH:=Aa T143.ok<|Aa T148.ok AI
theorem T93.ok:Ae A1 93 nC:=by
 refine C3 lZ<|fun(n:Int) a=>?_;have a:n.natAbs<9223372036854775808:=w6 a;have b:Cn n=true:=ad ae ae;refine yj (T93.Ai n)<|z6 b<|z6 (Qg b)<|zp<|ym rfl rfl ?_;exact RE n
end Go.Pe
