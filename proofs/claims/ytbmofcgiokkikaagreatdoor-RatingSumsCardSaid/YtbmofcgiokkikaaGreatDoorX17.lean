import Derived.Test.YtbmofcgiokkikaaGreatDoorX16
import Derived.ChangeSame
import Derived.ChangeShapes
import Derived.OpenShut
/- A part of a proof; no law is stated here. -/
noncomputable section
open Go.Pe.Ends renaming tt -> zc, Ai -> zd, leaf -> ze, ff -> zk, eq -> zp, ite -> zu
open Int renaming toNat_natCast -> zf, toNat -> z8
open Go.IntKind renaming wrap -> zg, i64 -> zl
open Bool renaming and_eq_true -> zh
open List renaming mem_cons_self -> zi, length_cons -> zj, take_length -> zm, mem_of_mem_drop -> zn, length_append -> zo, all_eq_true -> zt, mem_cons_of_mem -> ya, mem_flatMap -> yb, mem_of_find?_eq_some -> yd, mem_append_right -> yj, find?_cons -> yk, getElem?_take_of_lt -> yo, getElem?_eq_getElem -> yp, append_nil -> yr, any_cons -> yx, map_cons -> yy, range -> y8, mem_map -> y9
open Go.Pe.Ac renaming of -> zq
open Go.Sp renaming Cq -> zr, Nu -> yc, zF -> yw, ouQ -> y7
open Go.DataW renaming trod -> zw, TrodAll -> yn
open Array renaming getElem?_eq_some_iff -> zx, getElem?_eq_none -> z7
open Go.Pe.Sh renaming int -> zy, str -> yf, list -> yq
open Option renaming bind_some -> zz
open Nat renaming zero_le -> z6, add -> yg, div_le_self -> yt, le_refl -> yu, beq -> qc
open Rat renaming add_assoc -> ye, zero_add -> yh, add_zero -> yi
open Go.Pe.PV renaming agg -> ym
open Go.World renaming cell? -> yv
open Go.Pe.T59 renaming ok -> yz
variable {Q:Go.Pe.PV->Go.Pe.Ob->Prop}
namespace Go.Pe
open Sp
open Go.Det
section
open List Int Prod
namespace T52
def T(c:AF)(n:Int):Tr:=tree GG false 9 52<|Ag ([Bc,zy zl]) (c,n)
theorem Aj(c:AF)(n:Int):T c n=.leaf (ym [.dat i64 n,.dat i64 (↑(length<|fst<|snd c):Int)]) []:=by kernel_rfl
end T52
namespace T53
def T(c:AF)(n:Int):Tr:=tree GG false 9 53<|Ag ([Bc,zy zl]) (c,n)
theorem Aj(c:AF)(n:Int):T c n=.leaf (ym [.dat i64 n,.dat i64 (↑(length<|snd<|snd c):Int)]) []:=by kernel_rfl
end T53
namespace T95
def T(c:AF)(t h:Int):Tr:=tree Ux false 9 95<|Ag ([Bc,zy zl,zy zl]) (c,t,h)
def L1(v1 v2:Int)(v3:AF)(b:Bn)(d a:Int):Tr:=re ((T ([],([],[])) 0 0).L)<|Aw 38 [(1,.dat i64 v1),(2,.dat i64 v2),(3,PV.Bb Bc v3 0),(6,.ptr 0 0),(7,PV.Bb Bt b 0)] [(0,.box [.dat i64 d,.nil,.dat i64 a,.nil])] 1
theorem Aj(c:AF)(t h:Int):T c t h=.ck (decide (0<=h)&&decide (h<(↑(length<|fst c):Int))) (L1 t h c ((getD (fst c) (toNat h) ([],[],[],[],[]))) 0 0):=by kernel_rfl
def L2(v1 v2:Int)(v3:AF)(q:Bn)(r f:Int)(j:Nat)(k i p:Int)(b:List Int)(e:Int)(d:List Int)(n g:Int)(o1:List Z)(m:Int)(a:Int):Tr:=re ((stepT Ux<|L1 v1 v2 v3 q r f).L.L.L.L)<|Aw 22 [(1,PV.fn (Go.Fn.func 96) [] []),(4,.ptr 2 0),(5,.ptr 3 0),(9,.sl 1 1 0 j none),(10,.dat i64 k),(11,.dat i64 i)] [(3,.box [.dat i64 p,.dat wU b,.dat i64 e,.dat wU d]),(2,.box [.dat i64 n,.nil,.dat i64 g,.nil]),(1,.arr false 39 yf o1),(0,.box [.dat i64 m,.nil,.dat i64 a,.nil])] 4
theorem Ak(v1 v2:Int)(v3:AF)(b:Bn)(d a:Int):stepT Ux (L1 v1 v2 v3 b d a)=.ck (decide (0<=v1)&&decide (v1<(↑(length<|fst<|snd v3):Int))) (.ck (decide (0<=v2)&&decide (v2<(↑(length<|snd<|getD (fst<|snd v3) (toNat v1) ([],[])):Int)))<|.ck true<|.ck true<|L2 v1 v2 v3 b d a 3 3 0 0 (BL 0) 1 (BL 1) 0 0 ([fst b,fst<|snd b,fst<|snd<|snd b]) d a):=by kernel_rfl
theorem Az(v1 v2:Int)(v3:AF)(q:Bn)(u d:Int)(j:Nat)(k a w:Int)(g:List Int)(e:Int)(i:List Int)(v f:Int)(o1:List Z)(n:Int)(b:Int):stepT Ux (L2 v1 v2 v3 q u d j k a w g e i v f o1 n b)=let b':=((w,g),e,i);let s:=snd<|getD (fst<|snd v3) (toNat v1) ([],[]);let r:=getD o1 (toNat a) [];let m:=((getD s (toNat v2) 0,BL<|getD s (toNat v2) 0),1,BL 1);let p:=Cw r;.di (a<k) (.ck (decide (0<=a)&&decide (a<(↑j:Int)))<|.cd (toNat a<length o1)<|.ck (DT r)<|.ck (zr b'&&zr p)<|L2 v1 v2 v3 q u d j k (zg .i64<|a+1) (Jw b' p) (Jp b' p) (JI b' p) (JO b' p) v f o1 n b) (.ck (zr m&&zr b')<|.ck (Sp.Dy<|fst<|B0 m b')<|.di (Rz (B0 m b')<0) (.ck true<|.leaf (ym [.dat i64 (0:Int),.dat wU<|BL 0,.dat i64 (1:Int),.dat wU<|BL 1]) [])<|.leaf (ym [.dat i64<|Jw m b',.dat wU<|Jp m b',.dat i64<|JI m b',.dat wU<|JO m b']) []):=by kernel_rfl
end T95
namespace T99
def T(c:AF)(t h l:Int):Tr:=tree sA false 9 99<|Ag ([Bc,zy zl,zy zl,zy zl]) (c,t,h,l)
def L1(b e d f g:Ae)(i a:Int):Tr:=re ((T ([],([],[])) 0 0 0).L.L.L.L.L.L.L)<|Aw 60 [(8,.ptr 0 0),(10,PV.Bb Au b 0),(11,PV.Bb Au e 0),(12,PV.Bb Au d 0),(13,PV.Bb Au f 0),(14,PV.Bb Au g 0)] [(0,.box [.dat i64 i,.nil,.dat i64 a,.nil])] 1
theorem Aj(c:AF)(t h l:Int):T c t h l=let a:=snd<|getD (snd<|snd c) (toNat l) ([],[],[],[],[]);let b':=fst<|snd<|snd<|snd<|getD (fst c) (toNat h) ([],[],[],[],[]);let b:=Cw<|fst a;.ck (decide (0<=l)&&decide (l<(↑(length<|snd<|snd c):Int))) (.ck (decide (0<=h)&&decide (h<(↑(length<|fst c):Int)))<|.ck (DT b')<|.ck (Sp.okP c t h)<|.ck (DT<|fst a)<|.ck (DT<|fst<|snd a)<|.ck (zr b&&zr (Cw b'))<|L1 ((Cw b')) ((Tj c t h)) b ((Cw<|fst<|snd a)) ((B0 b<|Cw b')) 0 0):=by kernel_rfl
def L2(b e d f g:Ae)(i a:Int):Tr:=re ((stepT sA<|L1 ((0,[]),(0,[])) ((0,[]),(0,[])) ((0,[]),(0,[])) ((0,[]),(0,[])) ((0,[]),(0,[])) 0 0).L.R)<|Aw 60 [(8,.ptr 0 0),(10,PV.Bb Au b 0),(11,PV.Bb Au e 0),(12,PV.Bb Au d 0),(13,PV.Bb Au f 0),(14,PV.Bb Au g 0)] [(0,.box [.dat i64 i,.nil,.dat i64 a,.nil])] 1
theorem Ak(f b d i a:Ae)(j e:Int):stepT sA (L1 f b d i a j e)=let g:=FO b d;.ck (Sp.Ch b&&Sp.Ch a) (.di (Ds b a<=0) (.ck (zr b&&zr d)<|.ck (zr g&&zr a&&decide (Sp.vI (fst a)≠0))<|.leaf (ym [.dat i64<|Abx g a,.dat wU<|AaZ g a,.dat i64<|AbI g a,.dat wU<|Abv g a]) [])<|L2 f b d i a j e):=by kernel_rfl
theorem Az(f e b a d:Ae)(k g:Int):stepT sA (L2 f e b a d k g)=let b':=Gs e d;let j:=B0 a f;let i:=Lp (FO b' a) j;.ck (zr e&&zr d) (.ck (zr b'&&zr a)<|.ck (zr a&&zr f)<|.ck (zr (FO b' a)&&zr j&&decide (Sp.vI (fst j)≠0))<|.ck (zr b&&zr i)<|.leaf (ym [.dat i64<|Jw b i,.dat wU<|Jp b i,.dat i64<|JI b i,.dat wU<|JO b i]) []):=by kernel_rfl
end T99
end
open Go.Sp (AF Bn Bm AW EB Bx)
theorem T52.ok:Af A4 52 nU:=by
 refine HN (X:=GG) rfl (fun g sp h=>by cases h) (d:=9) ag ag ag (fun(i:AF×Int) _=>?_) (Bg ag);exact zp (T52.Aj i.1 i.2)<|ze<|zq rfl rfl rfl
theorem T53.ok:Af A4 53 Tx:=by
 refine HN (X:=GG) rfl (fun g sp h=>by cases h) (d:=9) ag ag ag (fun(i:AF×Int) _=>?_) (Bg ag);exact zp (T53.Aj i.1 i.2)<|ze<|zq rfl rfl rfl
theorem Lx{i:Int}{n:Nat}(h:0<=i/\i<(n:Int)):(decide ((0:Int)<=i)&&decide (i<(n:Int)))=true:=Ab (w4 h.1)<|w4 h.2
theorem Ed{s:Bx}(h:An s=0):DT s=true:=(D6 (C0 h).1).2.2.2.2.2.2.1
theorem nK:CE Ux:=Aa T96.ok<|Aa T57.ok<|Aa yz<|Aa T106.ok Ay
namespace T95
theorem ok:Af A4 95 cPl:=by
 refine BD nK<|fun(i:AF×Int×Int) hi=>?_;obtain⟨c,t,h⟩:=i;have P:=Tw hi;have z:RS 1 yw 0:=Gb;have a1:=z.add P.hr.rise af af;have a2:=a1.add P.hr.wind af af;have a3:=a2.add P.hr.lay af af;have b:=(iZ P).Dy;have g:0<=h/\h<((c.2.1.getD t.toNat ([],[])).2.length:Int):=by rw[P.tl];exact P.h0
 obtain⟨s,a⟩:∃s,s=BH c h:=⟨_,rfl⟩;have fin:∀f:Ae,f=B0 (B0 (B0 yw<|Cw s.1)<|Cw s.2.1) (Cw s.2.2.1)->Ends Ux (L2 t h c s 0 0 3 3 3 f.1.1 f.1.2 f.2.1 f.2.2 0 0 [s.1,s.2.1,s.2.2.1] 0 0) (Ac cPl (c,t,h)):=fun f d=>by
  have e:B0 (Sp.iF<|Hk c t h) f=qN c t h:=by rw[d,a];rfl
  refine zd (Az ..) (zk rfl (zc (by rw[a]at d;rw[<-d]at a3;exact(mG P.te).Ph a3 af af)<|zc (by rw[<-e]at b;exact b)<|zu (fun s=>zc rfl (ze<|zq rfl rfl ?_))<|fun s=>ze<|zq rfl rfl ?_))
  ·have s:Rz (B0 (Sp.iF<|Hk c t h) f)<0:=w6 s;rw[e]at s;show yw=Tj c t h;unfold Tj;rw[wd s]
  ·have s:¬Rz (B0 (Sp.iF<|Hk c t h) f)<0:=w7 s;rw[e]at s;show B0 (Sp.iF<|Hk c t h) f=Tj c t h;rw[e];unfold Tj;rw[wc s]
 rw[<-a]at a1 a2 a3;have s2:∀f:Ae,f=B0 (B0 yw<|Cw s.1) (Cw s.2.1)->Ends Ux (L2 t h c s 0 0 3 3 2 f.1.1 f.1.2 f.2.1 f.2.2 0 0 [s.1,s.2.1,s.2.2.1] 0 0) (Ac cPl (c,t,h)):=fun f d=>by
  rw[<-d]at a2 fin;refine zd (Az ..) (zc rfl (zc rfl (zc rfl (zc (by rw[a];exact Ed P.st.lay)<|zc (a2.Ph (by rw[a];exact P.hr.lay) af af) ?_))));exact fin (B0 f<|Cw s.2.2.1) rfl
 have s1:∀f:Ae,f=B0 yw (Cw s.1)->Ends Ux (L2 t h c s 0 0 3 3 1 f.1.1 f.1.2 f.2.1 f.2.2 0 0 [s.1,s.2.1,s.2.2.1] 0 0) (Ac cPl (c,t,h)):=fun f d=>by
  rw[<-d]at a1 s2;refine zd (Az ..) (zc rfl (zc rfl (zc rfl (zc (by rw[a];exact Ed P.st.wind)<|zc (a1.Ph (by rw[a];exact P.hr.wind) af af) ?_))));exact s2 (B0 f<|Cw s.2.1) rfl
 refine zp (Aj c t h)<|zc (Lx P.h0)<|zd (Ak ..)<|zc (Lx P.t0)<|zc (Lx g)<|zc rfl (zc rfl ?_);show Ends Ux (L2 t h c (BH c h) 0 0 3 3 0 0 (BL 0) 1 (BL 1) 0 0 [(BH c h).1,(BH c h).2.1,(BH c h).2.2.1] 0 0) _;rw[<-a];refine zd (Az ..) (zc rfl (zc rfl (zc rfl (zc (by rw[a];exact Ed P.st.rise)<|zc (z.Ph (by rw[a];exact P.hr.rise) af af) ?_))));exact s1 (B0 yw<|Cw s.1) rfl
end T95
theorem oF:CE sA:=Aa T95.ok<|Aa T96.ok<|Aa T73.ok<|Aa yz<|Aa T64.ok<|Aa T65.ok<|Aa T97.ok Ay
structure AtA(c:AF)(t h l:Int):Prop where
 P:AtP c t h
 L:AtL c l
 kp:Sp.okP c t h=true
 ko:Sp.okO c h l=true
 h0:As (CW c l).2.1+As (BH c h).2.2.2.1≠0
 n0:As (CW c l).2.2.1+As (BH c h).2.2.2.1≠0
theorem Qw{c:AF}{t h l:Int}(k:VI c t h l=true):AtA c t h l:=by
 obtain⟨kp,ko⟩:=XD k;have P:=Tw kp;obtain⟨L,_,_,_⟩:=MU ko;have a:=P.st.rollB.1;exact⟨P,L,kp,ko,Rat.ne_of_gt<|OT L.lr.hp a,Rat.ne_of_gt<|OT L.lr.np a⟩
namespace T99
theorem ok:Af A4 99 cEf:=by
 refine BD oF<|fun(i:AF×Int×Int×Int) hi=>?_;obtain⟨c,t,h,l⟩:=i;obtain⟨P,L,kp,ko,h0,n0⟩:=Qw hi;have p:=kF P;have r:=P.hr.roll;have reach:=L.lr.head.add r af af;have a:=L.lr.next.add r af af;have d:=p.sub reach af af;have m:=d.mul L.lr.next af af;have q:=m.div a af af n0;have b:=p.mul L.lr.head af af;refine zp (Aj c t h l) (zc (Lx L.l0) (zc (Lx P.h0)<|zc (Ed P.st.roll)<|zc kp<|zc (Ed L.lv.head)<|zc (Ed L.lv.next)<|zc (L.lr.head.Ph r af af) ?_));refine zd (Ak ..) (zc (Ab (p.Ch af)<|reach.Ch af)<|zu (fun s=>?_)<|fun s=>?_)
 ·have s:Ds (Tj c t h) (B0 (ID c l)<|KV c h)<=0:=w6 s;refine zc (p.Ph L.lr.head af af) (zc (b.ok3 reach af af h0)<|ze<|zq rfl rfl ?_);show Lp (FO (Tj c t h)<|ID c l) (B0 (ID c l)<|KV c h)=bM c t h l;unfold bM;rw[wd s]
 ·have s:¬Ds (Tj c t h) (B0 (ID c l)<|KV c h)<=0:=w7 s;refine zd (Az ..) (zc (p.Ph reach af af)<|zc (d.Ph L.lr.next af af)<|zc (L.lr.next.Ph r af af)<|zc (m.ok3 a af af n0)<|zc (L.lr.head.Ph q af af)<|ze<|zq rfl rfl ?_);show B0 (ID c l) (Lp (FO (Gs (Tj c t h)<|B0 (ID c l)<|KV c h)<|Wh c l)<|B0 (Wh c l)<|KV c h)=bM c t h l;unfold bM;rw[wc s]
end T99
theorem lX:CE Aal:=Aa T115.ok<|Aa T91.ok Ay
namespace T51
theorem loop{Q:PV->Ob->Prop}{v:List Bn}{q:List B3}{n:List Bm}(c:AF)(l:List (Int×Int))(k:l.length<=1000)(f:∀ob,Q (.dat i64<|Cv (Xj l) 10) ob):∀(r:List (Int×Int)) (i:Nat),l.drop i=r->i<=l.length->Xj l=Xj r->Ends Aal (L1 c l l (l.length:Int) (i:Int) v q n) Q
 |[],i,h,j,e=>by
  have:=drop_nil h j;rw[e]at f;exact zd (Ak ..) (zk (w8 ae)<|zc rfl (ze<|f _))
 |p::r,i,h,j,e=>by
  obtain⟨w,s,x⟩:=drop_cons (d:=((0,0):Int×Int)) h;have m:=wn (i:=i) ae;have g:Xj (p::r)=(decide (p.1<0)||decide (p.2<=p.1)||Xj r):=yx;have u:decide ((i:Int)>=0)=true:=w4 ae;refine zd (Ak ..) ?_;conv=>zeta
  rw[zf,s,m,u];refine zc (w4 ae) (zc (Ab rfl (w4 ae))<|zu (fun a=>zc rfl (ze ?_))<|fun a=>zu (fun b=>zc rfl (ze ?_))<|fun b=>?_)
  ·rw[e,g,show decide (p.1<0)=true from a]at f;exact f _
  ·rw[e,g,show decide (p.2<=p.1)=true from b,Bool.or_true]at f;exact f _
  ·exact loop c l k f r (i+1) x w (by rw[e,g,show decide (p.1<0)=false from a,show decide (p.2<=p.1)=false from b];rfl)
theorem ok:Af A4 51 O9:=by
 refine BD lX<|fun(i:AF×List (Int×Int)) a=>?_;obtain⟨c,l⟩:=i;have a:(IS c&&decide (l.length<=1000))=true:=a;rw[zh,w5]at a;have b:∀v ob,v=Ns c l->Ac O9 (c,l) (.dat i64 v) ob:=fun v ob e=>zq rfl rfl e
 refine zp (Aj c l)<|zc a.1<|zu (fun k=>ze<|b _ _ ?_)<|fun k=>?_
 ·have k:NX c≠0:=by simpa using k
  show NX c=Ns c l;unfold Ns JG;rw[wd k]
 ·have k:¬NX c≠0:=by simpa using k
  refine loop c l a.2 (fun ob=>b _ _ ?_) l 0 rfl (z6 _) rfl;unfold Ns JG Cv;rw[wc k];cases Xj l<;>rfl
end T51
end Go.Pe
namespace Go.Sp
theorem cZ{v:Int}(h0:0<v)(h:v<1000000000):BW v=[v]:=by
 have d:AB B9 [v]:=fun x a=>by rw[List.mem_singleton.1 a];exact⟨by omega,h⟩
 have t:=FF d;have e:Ao [v]=v:=by show v+(B9:Int)*0=v;omega
 rw[e]at t;rw[<-t];show(if v=0 then[]else[v])=[v];rw[wc ae]
theorem Nu.GA{k:Nat}{s:Z}{q:Rat}(h:Nu k s q):Nu k (GA s) (q.floor:Rat):=⟨by unfold Sp.GA;rw[h.rat,SL],Rr h.z⟩
theorem GD{s:Z}(h:An s=0)(a:s.length<=20):Nu 20 s (As s):=HG h a af
end Go.Sp
namespace Go.Pe
open Sp
open Go.Det
open Go.Sp (AF Bn Bm AW EB Bx)
theorem iS:CE Aay:=Aa T137.ok<|Aa T138.ok Ay
namespace T77
theorem ok:Af A4 77 Yn:=by
 refine BD iS<|fun(s:Z) a=>?_;have a:AdE s=true:=a;unfold AdE at a;rw[zh,zh,zh,zh,w5,w5,w5]at a;obtain⟨⟨⟨⟨w,l⟩,j⟩,m⟩,g⟩:=a;have k:Gr s=false:=w8 ae;have d:Ah (BS s)=BS s:=by rw[Al];omega
 have f:∀(v:Int) ob,v=BS s->Ac Yn s (.tup [.dat i64 v,.bl true]) ob:=fun v ob e=>zq rfl rfl (by rw[e];rfl)
 refine zp (Aj s) (zc (w4 ae) (zk (by rw[w];rfl)<|zk (w8 ae)<|zc j ?_));rw[k];by_cases h:BS s=0
 ·have b:Ej s=[]:=by
   unfold Ej Sp.rW;rw[d,h];rfl
  rw[b];exact zd (Ak ..)<|zk rfl (ze<|f _ _ h.symm)
 ·have b:Ej s=[BS s]:=by
   unfold Ej Sp.rW;rw[d,cZ ae g]
  rw[b];have i:zg .i64 (zg .i64 ((0:Int)*1000000000)+BS s)=BS s:=by
   rw[show zg .i64 ((0:Int)*1000000000)=0 from rfl,Int.zero_add];exact wr _ ae ae
  refine zd (Ak ..)<|zc rfl (zc rfl (zk rfl (zk rfl (zk rfl (zk rfl (zk rfl ?_))))));show Ends Aay (L1 (zg .i64<|zg .i64 ((0:Int)*1000000000)+BS s) (zg .i64<|(0:Int)-1) false [BS s]) _;rw[i];exact zd (Ak ..)<|zk rfl (ze<|f _ _ rfl)
end T77
theorem sV:CE AeA:=Aa T93.ok<|Aa T30.ok<|Aa T32.ok Ay
structure HoN(c:AF)(t h:Int):Prop where
 rise:yc 20 (BH c h).1 (As (BH c h).1)
 wind:yc 20 (BH c h).2.1 (As (BH c h).2.1)
 lay:yc 20 (BH c h).2.2.1 (As (BH c h).2.2.1)
 roll:yc 20 (BH c h).2.2.2.1 (As (BH c h).2.2.2.1)
 te:yc 5 (Yh (Hk c t h)) (Hk c t h:Rat)
 pl:yc 70 (XA c t h) (MF c t h)
theorem AgK{c:AF}{h:Int}(co:XX c)(sh:IS c=true)(h0:0<=h/\h<(c.1.length:Int)):Sp.Bt (BH c h)=true:=by
 refine(TL co sh ?_).2;unfold VK Lo;rw[w8 ae,w8 ae];rfl
theorem qQ{c:AF}{t h:Int}(P:AtP c t h):HoN c t h:=by
 have s:=P.sh;obtain⟨e,d,b,a,_⟩:=OI<|AgK P.co s P.h0;exact⟨GD P.st.rise e,GD P.st.wind d,GD P.st.lay b,GD P.st.roll a,X8 (by have:=P.te;omega) af,⟨rfl,(kF P).z⟩⟩
theorem T181.ok:Af A4 181 Afx:=by
 refine BD sV<|fun(i:AF×Int×Int) hi=>?_;obtain⟨c,t,h⟩:=i;have P:AtP c t h:=Tw hi;have N:=qQ P;have e:0<=h/\h<((c.2.1.getD t.toNat ([],[])).2.length:Int):=by rw[P.tl];exact P.h0
 have wl:=N.wind.B5 N.lay;have a:=N.rise.B5 wl;have p:=N.te.B5 a;have f:XV (Hk c t h)=true:=w4 (by have:=P.te;omega);have d:=p.cmp LO;have eq:(Hk c t h:Rat)+(As (BH c h).1+(As (BH c h).2.1+As (BH c h).2.2.1))=(Hk c t h:Rat)+(As (BH c h).1+As (BH c h).2.1+As (BH c h).2.2.1):=by rw[ye<|As (BH c h).1]
 have b:MF c t h=_:=Yj _ _;rw[<-eq]at b;refine zp (T181.Aj c t h) (zc (Lx P.h0)<|zc (Lx P.t0)<|zc (Lx e)<|zc f<|zc (Ab (N.wind.num af)<|N.lay.num af)<|zc (Ab (N.rise.num af)<|wl.num af)<|zc (Ab (N.te.num af)<|a.num af)<|zc (Ab (p.num af)<|LO.Di af)<|zu (fun k=>ze<|zq rfl rfl ?_)<|fun k=>ze<|zq rfl rfl ?_)
 ·have k:=w6 k;show B5 (Yh<|Hk c t h) (B5 (BH c h).1<|B5 (BH c h).2.1 (BH c h).2.2.1)=AH (MF c t h);rw[b,wc ?_, <-p.t];intro x;have k:0<=EI (B5 (Yh<|Hk c t h)<|B5 (BH c h).1<|B5 (BH c h).2.1 (BH c h).2.2.1) [48]:=k;rw[d,wd x]at k;exact wh k af
 ·have k:=w7 k;show[48]=AH (MF c t h);rw[b,wd ?_]
  ·exact LO.t
  ·have k:¬0<=EI (B5 (Yh<|Hk c t h)<|B5 (BH c h).1<|B5 (BH c h).2.1 (BH c h).2.2.1) [48]:=k;rw[d]at k;by_cases x:(Hk c t h:Rat)+(As (BH c h).1+(As (BH c h).2.1+As (BH c h).2.2.1))<0
   ·exact x
   ·rw[wc x]at k;exact wh (by split<;>decide) k
theorem mP:CE Ae6:=Aa T181.ok<|Aa T30.ok<|Aa T31.ok<|Aa T74.ok<|Aa T130.ok<|Aa T32.ok<|Aa T87.ok<|Aa T86.ok<|Aa T129.ok<|Aa T77.ok Ay
structure LvN(c:AF)(l:Int):Prop where
 head:yc 20 (CW c l).2.1 (As (CW c l).2.1)
 next:yc 20 (CW c l).2.2.1 (As (CW c l).2.2.1)
theorem AcH{c:AF}{l:Int}(L:AtL c l):LvN c l:=⟨GD L.lv.head L.ls.head,GD L.lv.next L.ls.next⟩
theorem T127.ok:Af A4 127 AeJ:=by
 refine BD mP<|fun(i:AF×Int×Int×Int) hi=>?_;obtain⟨c,t,h,l⟩:=i;obtain⟨P,L,kp,ko,h0,n0⟩:=Qw (c:=c) (t:=t) (h:=h) (l:=l) hi;have N:=qQ P;have V:=AcH L;have fr:=V.head.B5 N.roll;have a:=V.next.B5 N.roll;have b:=N.pl.cmp fr;have e:=N.pl.EH V.head;have q1:=e.FD fr h0;have d:=N.pl.Hl fr;have m:=d.EH V.next;have q:=m.FD a n0;have r:=V.head.B5 q;refine zp (T127.Aj c t h l) (zc (Lx L.l0) (zc (Lx P.h0)<|zc kp<|zc (Ab (V.head.num af)<|N.roll.num af)<|zc (Ab (N.pl.num af)<|fr.Di af)<|zu (fun k=>?_)<|fun k=>?_))
 ·have k:=w6 k;have k:EI (XA c t h) (B5 (CW c l).2.1 (BH c h).2.2.2.1)<=0:=k;refine zc (Ab (N.pl.num af)<|V.head.num af) (zc (Ab (e.num af)<|fr.nz af h0)<|ze<|zq rfl rfl ?_);show FD (EH (XA c t h) (CW c l).2.1) (B5 (CW c l).2.1 (BH c h).2.2.2.1)=AH (R3 c t h l);unfold R3 dV;rw[wd ?_]
  ·exact q1.t
  ·refine Rat.not_lt.1 fun x=>?_
   rw[b,wc<|Rat.not_lt.2<|Rat.le_of_lt x,wd x]at k;exact wh k af
 ·have k:=w7 k;have k:¬EI (XA c t h) (B5 (CW c l).2.1 (BH c h).2.2.2.1)<=0:=k;refine zc (Ab (N.pl.num af)<|fr.Di af) (zc (Ab (d.num af)<|V.next.num af) (zc (Ab (V.next.num af)<|N.roll.num af)<|zc (Ab (m.num af)<|a.nz af n0)<|zc (Ab (V.head.num af)<|q.num af)<|ze<|zq rfl rfl ?_));show B5 (CW c l).2.1 (FD (EH (Hl (XA c t h)<|B5 (CW c l).2.1 (BH c h).2.2.2.1) (CW c l).2.2.1)<|B5 (CW c l).2.2.1 (BH c h).2.2.2.1)=AH (R3 c t h l);unfold R3 dV;rw[wc ?_]
  ·exact r.t
  ·intro x;refine k ?_;rw[b];by_cases y:MF c t h<As (CW c l).2.1+As (BH c h).2.2.2.1
   ·rw[wd y];decide
   ·rw[wc y,wc<|Rat.not_lt.2 x];decide
section
open List Int Prod
namespace T16
def T(i n:Int):Tr:=tree GG false 9 16<|Ag ([zy zl,zy zl]) (i,n)
theorem Aj(i n:Int):T i n=.di (i<0) (.leaf (.bl true) []) (.leaf (.dat Sh.bool<|decide (i>=n)) []):=by kernel_rfl
end T16
namespace T15
def T(b:Bool)(e:Int):Tr:=tree GG false 9 15<|Ag ([Sh.bool,zy zl]) (b,e)
theorem Aj(b:Bool)(e:Int):T b e=.ite b (.leaf (.dat i64 e) []) (.leaf (.dat i64 (0:Int)) []):=by kernel_rfl
end T15
end
open Go.Sp (AF Bn Bm AW EB Bx B3 q0 q1 n0 n1)
theorem AbL{s:Sh}{sz id:Nat}{ob:Ob}{fz:Bool}{t:TypeId}{o:List s.T}(b:s.sz=sz)(a:AS ob id=some (.arr fz t s o)):B4 ⟨0,.leaf,ob,0⟩ (.sl id sz 0 o.length none)=some (true,.dat (.list s) o):=by
 subst b;unfold B4 AQ.obj;simp only[a,Nat.beq_refl,we];simp
theorem Acu{a b nx:Bx}{t w:List AW}{n id:Nat}{ob:Ob}{fz:Bool}{ty:TypeId}(e:AS ob id=some (.arr fz ty Ca w))(g:n=w.length):FG ⟨0,.leaf,ob,0⟩ Bh (.agg [.dat .str a,.dat .str b,.dat .str nx,.dat (.list Ca) t,.sl id 2 0 n none])=some (true,(a,b,nx,t,w)):=by
 subst g;have f:B4 ⟨0,.leaf,ob,0⟩ (.sl id 2 0 w.length none)=some (true,.dat (.list Ca) w):=AbL (s:=Ca) (sz:=2) rfl e;have i:Dr ⟨0,.leaf,ob,0⟩ (PV.cells<|.agg [.dat .str a,.dat .str b,.dat .str nx,.dat (.list Ca) t,.sl id 2 0 w.length none])=some (true,[.dat .str a,.dat .str b,.dat .str nx,.dat (.list Ca) t,.dat (.list Ca) w]):=by
  show(match some (true,PV.dat yf a),(match some (true,PV.dat yf b),(match some (true,PV.dat yf nx),(match some (true,PV.dat (.list Ca) t),(match B4 ⟨0,.leaf,ob,0⟩ (.sl id 2 0 w.length none),some (true,[])with|some (c,x),some (d,xs)=>some (c&&d,x::xs)|_,_=>none)with|some (c,x),some (d,xs)=>some (c&&d,x::xs)|_,_=>none)with|some (c,x),some (d,xs)=>some (c&&d,x::xs)|_,_=>none)with|some (c,x),some (d,xs)=>some (c&&d,x::xs)|_,_=>none)with|some (c,x),some (d,xs)=>some (c&&d,x::xs)|_,_=>none)=_;rw[f];rfl
 unfold FG;rw[i];rfl
theorem AcT{a b nx:Bx}{t w:List AW}{n id:Nat}{ob:Ob}{fz:Bool}{ty:TypeId}(d:AS ob id=some (.arr fz ty Ca w))(e:n=w.length):KQ [Bh] (.agg [.dat .str a,.dat .str b,.dat .str nx,.dat (.list Ca) t,.sl id 2 0 n none]) ob=some (true,(a,b,nx,t,w)):=Acu d e
theorem AfI{n m:Nat}(h:n=m)(a:n<=4398046511104):(decide (1<=1)&&true&&decide (n=m)&&decide ((3*(n+1)+2000)*32<=562949953421312))=true:=Ab (Ab (Ab rfl rfl)<|w4 h) (w4 ae)
namespace T37
theorem C1(g f nx:Bx)(t w:List AW)(u s m:Bx)(v:w.length<=4398046511104):∀(r:List AW) (i n:Nat) (o:List AW),w.drop i=r->i<=w.length->n=o.length->o=w.take i->n=i->Ends GG (L2 (i:Int) o g f nx t n u s m g f nx t w) (Ac oK (g,f,nx,t,w))
 |[],i,n,o,h,q,j,b,a=>by
  have e:=drop_nil h q;have b:o=w:=by rw[b,e,zm]
  subst b;exact zd (Az ..) (zk (w8 ae)<|ze<|zq (AcT rfl j) rfl rfl)
 |p::r,i,n,o,h,q,j,b,a=>by
  have t2:=Sp.Dp h;obtain⟨z,y,A⟩:=drop_cons (d:=(([],[]):AW)) h;have x:=wn (i:=i) ae;have k:=nb (i:=i) (n:=w.length) ae;refine zd (Az ..) ?_;conv=>zeta
  rw[zf,y,x];refine zc (w4 ae) (zc k<|zc k<|zc (AfI j ae) ?_);exact C1 g f nx t w u s m v r (i+1) (yg n 1) (o++[p]) A z (by rw[zo,j];rfl) (by rw[t2,b]) (by rw[a])
theorem ok:Af A4 37 oK:=by
 refine BD V5<|fun(l:Bm) hi=>?_;obtain⟨b,e,nx,t,w⟩:=l;have a:decide (w.length<=4398046511104)=true:=hi;have a:=w6 a;refine zp (Aj (b,e,nx,t,w)) ?_;conv=>zeta
 cases w with
 |nil=>exact zd (Ak ..)<|zk rfl (ze<|zq rfl rfl rfl)
 |cons p r=>
  have g:zg .i64 ((0:Int)+1)=((1:Nat):Int):=rfl;have f:(p::r).getD (z8 0) ([],[])=p:=rfl;have d:(decide ((0:Int)<=(0:Int))&&decide ((0:Int)<((p::r).length:Int)))=true:=Ab rfl (w4<|by rw[zj];omega);refine zd (Ak ..) ?_;conv=>zeta
  show Ends GG (.ite (decide ((0:Int)<((p::r).length:Int))) _ _) _;rw[f,g];refine zc (w4<|by rw[zj];omega) (zc d<|zc d<|zc (Ab (Ab rfl rfl)<|w4 ae) ?_);exact C1 b e nx t (p::r) [] [] [] a r 1 1 [p] rfl (by rw[zj];omega) rfl rfl rfl
end T37
open Go.Sp (AF Bn Bm AW EB Bx B3)
def CV(st:AQ)(s:Sh)(v:PV)(l:List s.T):Prop:=∃x,B4 st v=some (true,x)/\(x=.dat (.list s) l\/x=.nil/\l=[])
theorem FV{st:AQ}{s:Sh}:CV st s .nil []:=⟨.nil,rfl,.inr ⟨rfl,rfl⟩⟩
theorem IL{s:Sh}{sz id:Nat}{ob:Ob}{fz:Bool}{t:TypeId}{l:List s.T}(b:s.sz=sz)(a:AS ob id=some (.arr fz t s l)):CV ⟨0,.leaf,ob,0⟩ s (.sl id sz 0 l.length none) l:=⟨_,AbL b a,.inl rfl⟩
theorem AdO{ob:Ob}{a b d:PV}{S:List Bn}{e:List B3}{V:List Bm}(i:CV ⟨0,.leaf,ob,0⟩ Bt a S)(j:CV ⟨0,.leaf,ob,0⟩ CM b e)(k:CV ⟨0,.leaf,ob,0⟩ Bh d V):FG ⟨0,.leaf,ob,0⟩ Bc (.agg [a,b,d])=some (true,(S,e,V)):=by
 obtain⟨x,g,f⟩:=i;obtain⟨y,hy,cy⟩:=j;obtain⟨z,hz,cz⟩:=k;have m:Dr ⟨0,.leaf,ob,0⟩ (PV.cells<|.agg [a,b,d])=some (true,[x,y,z]):=by
  show(match B4 ⟨0,.leaf,ob,0⟩ a,(match B4 ⟨0,.leaf,ob,0⟩ b,(match B4 ⟨0,.leaf,ob,0⟩ d,some (true,[])with|some (c,x),some (d,xs)=>some (c&&d,x::xs)|_,_=>none)with|some (c,x),some (d,xs)=>some (c&&d,x::xs)|_,_=>none)with|some (c,x),some (d,xs)=>some (c&&d,x::xs)|_,_=>none)=_;rw[g,hy,hz];rfl
 unfold FG;rw[m];rcases f with rfl|⟨rfl,rfl⟩<;>rcases cy with rfl|⟨rfl,rfl⟩<;>rcases cz with rfl|⟨rfl,rfl⟩<;>rfl
theorem FH{ob:Ob}{a b d:PV}{c:AF}(f:CV ⟨0,.leaf,ob,0⟩ Bt a c.1)(g:CV ⟨0,.leaf,ob,0⟩ CM b c.2.1)(e:CV ⟨0,.leaf,ob,0⟩ Bh d c.2.2):Ac Ky c (.agg [a,b,d]) ob:=⟨c,AdO f g e,rfl⟩
theorem RI{n m k:Nat}(h:n=m)(a:(3*(n+1)+2000)*k<=562949953421312):(decide (1<=1)&&true&&decide (n=m)&&decide ((3*(n+1)+2000)*k<=562949953421312))=true:=Ab (Ab (Ab rfl rfl)<|w4 h)<|w4 a
theorem RM{k:Nat}(a:k<=100):(decide (1<=1)&&decide (0<1)&&decide ((3*1+2000)*k<=562949953421312))=true:=Ab (Ab rfl rfl) (w4<|Nat.le_trans (Nat.mul_le_mul_left _ a) af)
structure Vh(c:AF):Prop where
 s:c.1.length<=1599289640401
 t:c.2.1.length<=3518437208883
 l:c.2.2.length<=1466015503701
 so:∀x∈c.1,x.2.2.2.2.length<=5864062014805
 lo:∀x∈c.2.2,hI x=true
theorem Adq{c:AF}(h:Sp.smC c=true):Vh c:=by
 unfold Sp.smC at h;rw[zh,zh,zh,zh,w5,w5,w5,zt,zt]at h;obtain⟨⟨⟨⟨a,g⟩,b⟩,d⟩,f⟩:=h;exact⟨a,g,b,fun x e=>w6<|d x e,f⟩
theorem C4{i n:Nat}(h:i<n):(decide ((0:Int)<=(i:Int))&&decide ((i:Int)<(n:Int)))=true:=ad ae ae
theorem uE{i:Nat}(h:i<=4611686018427387904):zg .i64 ((i:Int)+1)=((i+1:Nat):Int):=by rw[wr _ ae ae];omega
theorem kJ:CE B1:=Aa T37.ok Ay
namespace T7
theorem Ae8(c:AF)(g:Vh c)(j:c.1=[])(q:c.2.1=[]):∀(r:List Bm) (i n:Nat) (o:List Bm),c.2.2.drop i=r->i<=c.2.2.length->n=o.length->o=c.2.2.take i->n=i->Ends B1 (L12 c (i:Int) o n) (Ac Ky c)
 |[],i,n,o,h,k,f,b,a=>by
  have e:=drop_nil h k;have b:o=c.2.2:=by rw[b,e,zm]
  subst b;subst f;exact zd (pP ..) (zk (w8 ae)<|ze (FH (by rw[j];exact FV) (by rw[q];exact FV)<|IL rfl rfl))
 |p::r,i,n,o,h,k,f,b,a=>by
  have t2:=Dp h;obtain⟨m,u,v⟩:=drop_cons (d:=(([],[],[],[],[]):Bm)) h;have s:=g.lo p (zn<|by rw[h];exact zi ..);have w:=g.l;refine zd (pP ..) ?_;conv=>zeta
  rw[zf,u,uE ae];refine zc (w4 ae) (zc (C4 m)<|zc s<|zc (RI f ae) ?_);exact Ae8 c g j q r (i+1) (yg n 1) (o++[p]) v m (by rw[zo,f];rfl) (by rw[t2,b]) (by rw[a])
theorem Ahr(c:AF)(a:Vh c)(d:c.1=[])(e:c.2.1=[]):Ends B1 (L8 c 0) (Ac Ky c):=by
 have j:=a.l;cases hr:c.2.2 with
 |nil=>exact zd (HH ..) (zk (by rw[hr];rfl) (ze<|FH (by rw[d];exact FV) (by rw[e];exact FV)<|by rw[hr];exact FV))
 |cons p r=>
  have b:0<c.2.2.length:=by rw[hr,zj];omega
  have g:c.2.2.getD (z8 0) ([],[],[],[],[])=p:=by rw[hr];rfl
  have f:=a.lo p (by rw[hr];exact zi ..);refine zd (HH ..) ?_;conv=>zeta
  rw[g,show zg .i64 ((0:Int)+1)=((1:Nat):Int)from rfl];refine zc (w4 ae) (zc (C4 (i:=0) b)<|zc f<|zc (RM af) ?_);exact Ae8 c a d e r 1 1 [p] (by rw[hr];rfl) b rfl (by rw[hr];rfl) rfl
theorem AfX(c:AF)(g:Vh c)(j:c.1=[]):∀(r:List Bm) (i n:Nat) (o:List Bm),c.2.2.drop i=r->i<=c.2.2.length->n=o.length->o=c.2.2.take i->n=i->Ends B1 (L16 c (i:Int) o c.2.1 c.2.1.length n) (Ac Ky c)
 |[],i,n,o,h,k,f,b,a=>by
  have e:=drop_nil h k;have b:o=c.2.2:=by rw[b,e,zm]
  subst b;subst f;exact zd (rC ..) (zk (w8 ae)<|ze (FH (by rw[j];exact FV) (IL rfl rfl)<|IL rfl rfl))
 |p::r,i,n,o,h,k,f,b,a=>by
  have t2:=Dp h;obtain⟨m,s,u⟩:=drop_cons (d:=(([],[],[],[],[]):Bm)) h;have q:=g.lo p (zn (by rw[h];exact zi ..));have v:=g.l;refine zd (rC ..) ?_;conv=>zeta
  rw[zf,s,uE ae];refine zc (w4 ae) (zc (C4 m) (zc q<|zc (RI f ae) ?_));exact AfX c g j r (i+1) (yg n 1) (o++[p]) u m (by rw[zo,f];rfl) (by rw[t2,b]) (by rw[a])
theorem Ahs(c:AF)(a:Vh c)(d:c.1=[]):Ends B1 (L11 c 0 c.2.1 c.2.1.length) (Ac Ky c):=by
 have g:=a.l;cases hr:c.2.2 with
 |nil=>exact zd (mX ..) (zk (by rw[hr];rfl) (ze<|FH (by rw[d];exact FV) (IL rfl rfl) (by rw[hr];exact FV)))
 |cons p r=>
  have b:0<c.2.2.length:=by rw[hr,zj];omega
  have f:c.2.2.getD (z8 0) ([],[],[],[],[])=p:=by rw[hr];rfl
  have e:=a.lo p (by rw[hr];exact zi ..);refine zd (mX ..) ?_;conv=>zeta
  rw[f,show zg .i64 ((0:Int)+1)=((1:Nat):Int)from rfl];refine zc (w4 ae) (zc (C4 (i:=0) b)<|zc e<|zc (RM af) ?_);exact AfX c a d r 1 1 [p] (by rw[hr];rfl) b rfl (by rw[hr];rfl) rfl
theorem Af3(c:AF)(g:Vh c)(m:c.2.1=[]):∀(r:List Bm) (i n:Nat) (o:List Bm),c.2.2.drop i=r->i<=c.2.2.length->n=o.length->o=c.2.2.take i->n=i->Ends B1 (L18 c (i:Int) o c.1 c.1.length n) (Ac Ky c)
 |[],i,n,o,h,j,f,b,a=>by
  have e:=drop_nil h j;have b:o=c.2.2:=by rw[b,e,zm]
  subst b;subst f;exact zd (lQ ..) (zk (w8 ae)<|ze (FH (IL rfl rfl) (by rw[m];exact FV)<|IL rfl rfl))
 |p::r,i,n,o,h,j,f,b,a=>by
  have t2:=Dp h;obtain⟨k,s,u⟩:=drop_cons (d:=(([],[],[],[],[]):Bm)) h;have q:=g.lo p (zn<|by rw[h];exact zi ..);have v:=g.l;refine zd (lQ ..) ?_;conv=>zeta
  rw[zf,s,uE ae];refine zc (w4 ae) (zc (C4 k) (zc q<|zc (RI f ae) ?_));exact Af3 c g m r (i+1) (yg n 1) (o++[p]) u k (by rw[zo,f];rfl) (by rw[t2,b]) (by rw[a])
theorem AhF(c:AF)(a:Vh c)(d:c.2.1=[]):Ends B1 (L15 c 0 c.1 c.1.length) (Ac Ky c):=by
 have g:=a.l;cases hr:c.2.2 with
 |nil=>exact zd (oC ..) (zk (by rw[hr];rfl) (ze<|FH (IL rfl rfl) (by rw[d];exact FV) (by rw[hr];exact FV)))
 |cons p r=>
  have b:0<c.2.2.length:=by rw[hr,zj];omega
  have f:c.2.2.getD (z8 0) ([],[],[],[],[])=p:=by rw[hr];rfl
  have e:=a.lo p (by rw[hr];exact zi ..);refine zd (oC ..) ?_;conv=>zeta
  rw[f,show zg .i64 ((0:Int)+1)=((1:Nat):Int)from rfl];refine zc (w4 ae) (zc (C4 (i:=0) b) (zc e<|zc (RM af) ?_));exact Af3 c a d r 1 1 [p] (by rw[hr];rfl) b rfl (by rw[hr];rfl) rfl
theorem AfF(c:AF)(g:Vh c):∀(r:List Bm) (i n:Nat) (o:List Bm),c.2.2.drop i=r->i<=c.2.2.length->n=o.length->o=c.2.2.take i->n=i->Ends B1 (L19 c (i:Int) o c.2.1 c.1 c.1.length c.2.1.length n) (Ac Ky c)
 |[],i,n,o,h,j,f,b,a=>by
  have e:=drop_nil h j;have b:o=c.2.2:=by rw[b,e,zm]
  subst b;subst f;exact zd (nF ..) (zk (w8 ae)<|ze<|FH (IL rfl rfl) (IL rfl rfl)<|IL rfl rfl)
 |p::r,i,n,o,h,j,f,b,a=>by
  have t2:=Dp h;obtain⟨k,q,s⟩:=drop_cons (d:=(([],[],[],[],[]):Bm)) h;have m:=g.lo p (zn<|by rw[h];exact zi ..);have u:=g.l;refine zd (nF ..) ?_;conv=>zeta
  rw[zf,q,uE ae];refine zc (w4 ae) (zc (C4 k) (zc m<|zc (RI f ae) ?_));exact AfF c g r (i+1) (yg n 1) (o++[p]) s k (by rw[zo,f];rfl) (by rw[t2,b]) (by rw[a])
theorem Ahz(c:AF)(a:Vh c):Ends B1 (L17 c 0 c.2.1 c.1 c.1.length c.2.1.length) (Ac Ky c):=by
 have f:=a.l;cases hr:c.2.2 with
 |nil=>exact zd (nP ..) (zk (by rw[hr];rfl) (ze<|FH (IL rfl rfl) (IL rfl rfl) (by rw[hr];exact FV)))
 |cons p r=>
  have b:0<c.2.2.length:=by rw[hr,zj];omega
  have e:c.2.2.getD (z8 0) ([],[],[],[],[])=p:=by rw[hr];rfl
  have d:=a.lo p (by rw[hr];exact zi ..);refine zd (nP ..) ?_;conv=>zeta
  rw[e,show zg .i64 ((0:Int)+1)=((1:Nat):Int)from rfl];refine zc (w4 ae) (zc (C4 (i:=0) b) (zc d<|zc (RM af) ?_));exact AfF c a r 1 1 [p] (by rw[hr];rfl) b rfl (by rw[hr];rfl) rfl
theorem te6(c:AF)(j:Vh c)(k:c.1=[]):∀(r:List B3) (i n:Nat) (o:List B3),c.2.1.drop i=r->i<=c.2.1.length->n=o.length->o=c.2.1.take i->n=i->Ends B1 (L7 c (i:Int) o n) (Ac Ky c)
 |[],i,n,o,h,m,f,b,a=>by
  have e:=drop_nil h m;have b:o=c.2.1:=by rw[b,e,zm]
  subst b;subst f;exact zd (DW ..) (zk (w8 ae)<|Ahs c j k)
 |p::r,i,n,o,h,m,f,b,a=>by
  have t2:=Dp h;obtain⟨g,q,s⟩:=drop_cons (d:=(([],[]):B3)) h;have u:=j.t;refine zd (DW ..) ?_;conv=>zeta
  rw[zf,q,uE ae];refine zc (w4 ae) (zc (C4 g)<|zc (C4 g) (zc (RI f ae) ?_));exact te6 c j k r (i+1) (yg n 1) (o++[p]) s g (by rw[zo,f];rfl) (by rw[t2,b]) (by rw[a])
theorem ts6(c:AF)(b:Vh c)(d:c.1=[]):Ends B1 (L4 c 0) (Ac Ky c):=by
 have f:=b.t;cases hr:c.2.1 with
 |nil=>exact zd (Ck ..) (zk (by rw[hr];rfl)<|Ahr c b d hr)
 |cons p r=>
  have a:0<c.2.1.length:=by rw[hr,zj];omega
  have e:c.2.1.getD (z8 0) ([],[])=p:=by rw[hr];rfl
  refine zd (Ck ..) ?_;conv=>zeta
  rw[e,show zg .i64 ((0:Int)+1)=((1:Nat):Int)from rfl];refine zc (w4 ae) (zc (C4 (i:=0) a) (zc (C4 (i:=0) a)<|zc (RM af) ?_));exact te6 c b d r 1 1 [p] (by rw[hr];rfl) a rfl (by rw[hr];rfl) rfl
theorem Agl(c:AF)(j:Vh c):∀(r:List B3) (i n:Nat) (o:List B3),c.2.1.drop i=r->i<=c.2.1.length->n=o.length->o=c.2.1.take i->n=i->Ends B1 (L14 c (i:Int) o c.1 c.1.length n) (Ac Ky c)
 |[],i,n,o,h,k,f,b,a=>by
  have e:=drop_nil h k;have b:o=c.2.1:=by rw[b,e,zm]
  subst b;subst f;exact zd (lK ..) (zk (w8 ae)<|Ahz c j)
 |p::r,i,n,o,h,k,f,b,a=>by
  have t2:=Dp h;obtain⟨g,m,q⟩:=drop_cons (d:=(([],[]):B3)) h;have s:=j.t;refine zd (lK ..) ?_;conv=>zeta
  rw[zf,m,uE ae];refine zc (w4 ae) (zc (C4 g)<|zc (C4 g)<|zc (RI f ae) ?_);exact Agl c j r (i+1) (yg n 1) (o++[p]) q g (by rw[zo,f];rfl) (by rw[t2,b]) (by rw[a])
theorem Ahk(c:AF)(b:Vh c):Ends B1 (L10 c 0 c.1 c.1.length) (Ac Ky c):=by
 have e:=b.t;cases hr:c.2.1 with
 |nil=>exact zd (Uf ..) (zk (by rw[hr];rfl)<|AhF c b hr)
 |cons p r=>
  have a:0<c.2.1.length:=by rw[hr,zj];omega
  have d:c.2.1.getD (z8 0) ([],[])=p:=by rw[hr];rfl
  refine zd (Uf ..) ?_;conv=>zeta
  rw[d,show zg .i64 ((0:Int)+1)=((1:Nat):Int)from rfl];refine zc (w4 ae) (zc (C4 (i:=0) a) (zc (C4 (i:=0) a)<|zc (RM af) ?_));exact Agl c b r 1 1 [p] (by rw[hr];rfl) a rfl (by rw[hr];rfl) rfl
theorem Agb(c:AF)(v:Vh c)(i n:Nat)(o:List Bn)(p:Bn)(a:i<c.1.length)(u:c.1.getD i ([],[],[],[],[])=p)(z:n=o.length)(x:n=i)(K:Ends B1 (L6 c ((i+1:Nat):Int) (o++[p])<|yg n 1) Q):∀(r:List EB) (j k:Nat) (q:List EB),p.2.2.2.2.drop j=r->j<=p.2.2.2.2.length->k=q.length->q=p.2.2.2.2.take j->k=j->Ends B1 (L13 c (i:Int) (j:Int) q o p.1 p.2.1 p.2.2.1 p.2.2.2.1 k n) Q
 |[],j,k,q,h,y,m,f,g=>by
  have e:=drop_nil h y;have f:q=p.2.2.2.2:=by rw[f,e,zm]
  have B:=v.s;subst f;subst m;refine zd (oU ..) ?_;conv=>zeta
  rw[zf,zf,u,zm,uE (i:=i) ae];refine zc (C4 a) (zk (w8 ae) (zc (Ab (w4 ae) rfl)<|zc (RI z ae) ?_));exact K
 |b::r,j,k,q,h,y,m,f,g=>by
  have t2:=Dp h;obtain⟨w,A,C⟩:=drop_cons (d:=(([],0):EB)) h;have B:=v.s;have D:=v.so p (by rw[<-u];exact Fo a);refine zd (oU ..) ?_;conv=>zeta
  rw[zf,zf,u,A,uE (i:=j) ae];refine zc (C4 a) (zc (w4 ae) (zc (C4 a)<|zc (C4 w) (zc (C4 a) (zc (C4 w)<|zc (RI m ae) ?_))));exact Agb c v i n o p a u z x K r (j+1) (yg k 1) (q++[b]) C w (by rw[zo,m];rfl) (by rw[t2,f]) (by rw[g])
theorem in8(c:AF)(g:Vh c)(i n:Nat)(o:List Bn)(p:Bn)(a:i<c.1.length)(f:c.1.getD i ([],[],[],[],[])=p)(j:n=o.length)(d:n=i)(K:Ends B1 (L6 c ((i+1:Nat):Int) (o++[p])<|yg n 1) Q):Ends B1 (L9 c (i:Int) 0 o p.1 p.2.1 p.2.2.1 p.2.2.2.1 n) Q:=by
 have v:=g.s;obtain⟨u,m,k,q,l⟩:=p;refine zd (kR ..) ?_;conv=>zeta
 rw[zf,f,uE (i:=i) ae];cases l with
 |nil=>
  refine zc (C4 a) (zk rfl (zc (RI j ae) ?_));exact K
 |cons b r=>
  have e:0<(b::r).length:=by rw[zj];omega
  refine zc (C4 a) (zc (w4<|by rw[zj];omega) (zc (C4 a)<|zc (C4 (i:=0) e)<|zc (C4 a)<|zc (C4 (i:=0) e)<|zc (RM af) ?_));exact Agb c g i n o (u,m,k,q,b::r) a f j d K r 1 1 [b] rfl (by show 1<=(b::r).length;omega) rfl rfl rfl
theorem si5(c:AF)(j:Vh c):∀(r:List Bn) (i n:Nat) (o:List Bn),c.1.drop i=r->i<=c.1.length->n=o.length->o=c.1.take i->n=i->Ends B1 (L6 c (i:Int) o n) (Ac Ky c)
 |[],i,n,o,h,m,g,f,a=>by
  have e:=drop_nil h m;have f:o=c.1:=by rw[f,e,zm]
  subst f;subst g;exact zd (E2 ..) (zk (w8 ae)<|Ahk c j)
 |p::r,i,n,o,h,m,g,f,a=>by
  have t2:=Dp h;obtain⟨b,k,s⟩:=drop_cons (d:=(([],[],[],[],[]):Bn)) h;have K:=si5 c j r (i+1) (yg n 1) (o++[p]) s b (by rw[zo,g];rfl) (by rw[t2,f]) (by rw[a]);have q:=in8 c j i n o p b k g a K;refine zd (E2 ..) ?_;conv=>zeta
  rw[zf,k];exact zc (w4 ae)<|zc (C4 b)<|zc (C4 b)<|zc (C4 b)<|zc (C4 b) q
theorem in4(c:AF)(u:Vh c)(p:Bn)(a:0<c.1.length)(n:c.1.getD 0 ([],[],[],[],[])=p)(K:Ends B1 (L6 c ((1:Nat):Int) [p] 1) Q):∀(r:List EB) (j k:Nat) (q:List EB),p.2.2.2.2.drop j=r->j<=p.2.2.2.2.length->k=q.length->q=p.2.2.2.2.take j->k=j->Ends B1 (L5 c 0 (j:Int) q p.1 p.2.1 p.2.2.1 p.2.2.2.1 k) Q
 |[],j,k,q,h,v,m,g,f=>by
  have e:=drop_nil h v;have g:q=p.2.2.2.2:=by rw[g,e,zm]
  subst g;subst m;refine zd (EF ..) ?_;conv=>zeta
  rw[show z8 0=0 from rfl,zf,n,zm,show zg .i64 ((0:Int)+1)=((1:Nat):Int)from rfl];refine zc (C4 (i:=0) a) (zk (w8 ae) (zc (Ab (w4 ae) rfl) (zc (RM af) ?_)));exact K
 |b::r,j,k,q,h,v,m,g,f=>by
  have t2:=Dp h;obtain⟨s,w,x⟩:=drop_cons (d:=(([],0):EB)) h;have y:=u.so p (by rw[<-n];exact Fo a);refine zd (EF ..) ?_;conv=>zeta
  rw[show z8 0=0 from rfl,zf,n,w,uE (i:=j) ae];refine zc (C4 (i:=0) a) (zc (w4 ae)<|zc (C4 (i:=0) a) (zc (C4 s)<|zc (C4 (i:=0) a)<|zc (C4 s)<|zc (RI m ae) ?_));exact in4 c u p a n K r (j+1) (yg k 1) (q++[b]) x s (by rw[zo,m];rfl) (by rw[t2,g]) (by rw[f])
theorem in2(c:AF)(k:Vh c)(p:Bn)(a:0<c.1.length)(d:c.1.getD 0 ([],[],[],[],[])=p)(K:Ends B1 (L6 c ((1:Nat):Int) [p] 1) Q):Ends B1 (L3 c 0 0 p.1 p.2.1 p.2.2.1 p.2.2.2.1) Q:=by
 obtain⟨g,m,f,j,l⟩:=p;refine zd (Bq ..) ?_;conv=>zeta
 rw[show z8 0=0 from rfl,d,show zg .i64 ((0:Int)+1)=((1:Nat):Int)from rfl];cases l with
 |nil=>
  refine zc (C4 (i:=0) a) (zk rfl (zc (RM af) ?_));exact K
 |cons b r=>
  have e:0<(b::r).length:=by rw[zj];omega
  refine zc (C4 (i:=0) a) (zc (w4<|by rw[zj];omega) (zc (C4 (i:=0) a) (zc (C4 (i:=0) e)<|zc (C4 (i:=0) a)<|zc (C4 (i:=0) e)<|zc (RM af) ?_)));exact in4 c k (g,m,f,j,b::r) a d K r 1 1 [b] rfl (by show 1<=(b::r).length;omega) rfl rfl rfl
theorem ok:Af A4 7 Ky:=by
 refine BD kJ<|fun(c:AF) hi=>?_;have b:=Adq hi;refine zp (Aj c)<|zd (Ak ..) ?_;cases hr:c.1 with
 |nil=>exact zd (Az ..) (zk (by rw[hr];rfl)<|ts6 c b hr)
 |cons p r=>
  have a:0<c.1.length:=by rw[hr,zj];omega
  have d:c.1.getD 0 ([],[],[],[],[])=p:=by rw[hr];rfl
  have k:=in2 c b p a d (si5 c b r 1 1 [p] (by rw[hr];rfl) a rfl (by rw[hr];rfl) rfl);refine zd (Az ..) ?_;conv=>zeta
  rw[show z8 0=0 from rfl,d];exact zc (w4 ae)<|zc (C4 (i:=0) a)<|zc (C4 (i:=0) a)<|zc (C4 (i:=0) a)<|zc (C4 (i:=0) a) k
end T7
open Go.Sp (AF)
theorem T16.ok:Af A4 16 AbB:=by
 refine HN (X:=GG) rfl (fun g sp h=>by cases h) (d:=9) ag ag ag (fun(i:Int×Int) _=>?_) (Bg ag);obtain⟨i,n⟩:=i;refine zp (T16.Aj i n)<|zu (fun c=>ze<|zq rfl rfl ?_)<|fun c=>ze<|zq rfl rfl ?_
 ·show true=Sp.Lo i n;unfold Sp.Lo;rw[c];rfl
 ·show decide (n<=i)=Sp.Lo i n;unfold Sp.Lo;rw[c];rfl
theorem T15.ok:Af A4 15 G7:=by
 refine HN (X:=GG) rfl (fun g sp h=>by cases h) (d:=9) ag ag ag (fun(i:Bool×Int) _=>?_) (Bg ag);obtain⟨b,e⟩:=i;refine zp (T15.Aj b e) ?_;conv=>zeta
 cases b
 ·exact zk rfl (ze<|zq rfl rfl rfl)
 ·exact zc rfl (ze<|zq rfl rfl rfl)
end Go.Pe
namespace Go.Sp
theorem Mv{s:Bx}{d:Nat}(h:Ci s (d:Int)=true):CZ d (As s):=by
 have e:An s=0:=by
  unfold Ci at h;simp only[zh,w5]at h;exact h.1.1.2
 exact(lN e).z.mono<|sQ h
theorem Agi{n:Int}(h:1<=n/\n<=10000):CZ 5 (n:Rat):=by
 constructor
 ·rw[Rat.num_intCast];omega
 ·rw[Rat.den_intCast];decide
theorem mE:CZ 1 (0:Rat):=by unfold CZ;decide+kernel
structure StF(s:Bn):Prop where
 rise:CZ 4 (As s.1)
 wind:CZ 4 (As s.2.1)
 lay:CZ 4 (As s.2.2.1)
 roll:CZ 4 (As s.2.2.2.1)
 len:s.2.2.2.2.length<=6
structure LvF(l:Bm):Prop where
 head:CZ 4 (As l.2.1)
 next:CZ 4 (As l.2.2.1)
 tab:∀p∈l.2.2.2.1,CZ 4 (As p.1)/\CZ 4 (As p.2)
 wts:∀p∈l.2.2.2.2,CZ 4 (As p.2)
theorem Acs{s:Bn}{n:Int}(f:n<=6)(h:IN s n 4=true):StF s:=by
 unfold IN at h;simp only[zh,w5]at h;obtain⟨⟨⟨⟨a,b⟩,c⟩,d⟩,e⟩:=h;exact⟨Mv b,Mv c,Mv d,Mv e,by omega⟩
theorem Acr{l:Bm}{n:Int}(h:EX l n 4=true):LvF l:=by
 unfold EX fwP wK at h;simp only[zh,w5,zt]at h;obtain⟨⟨⟨_,b⟩,c⟩,d,e⟩:=h;exact⟨Mv b,Mv c,fun p hp=>⟨Mv (d p hp).1,Mv (d p hp).2⟩,fun p hp=>Mv<|e p hp⟩
theorem Afu{s:Bn}{n:Int}(h:StF s)(a:1<=n/\n<=10000):CZ 20 (plV s n):=by
 rw[Yj];split
 ·exact mE.mono af
 ·exact((Agi a).add<|(h.rise.add h.wind).add h.lay).mono af
theorem Aen{p a n r:Rat}(hp:CZ 20 p)(b:CZ 4 a)(d:CZ 4 n)(hr:CZ 4 r)(h0:a+r≠0)(n0:n+r≠0):CZ 48 (dV p a n r):=by
 unfold dV;split
 ·exact((hp.mul b).div (b.add hr) h0).mono af
 ·exact(b.add<|((hp.sub<|b.add hr).mul d).div (d.add hr) n0).mono af
theorem Ac8{x:Rat}(f:CZ 48 x):∀(l:List AW) (o:Option AW),(∀q,o=some q->CZ 4 (As q.1)/\CZ 4 (As q.2))->(∀p∈l,CZ 4 (As p.1)/\CZ 4 (As p.2))->(o=none->l≠[])->DK o l=0->CZ 77 (OC (o.map pt) (l.map pt) x)
 |[],none,_,_,h,_=>wh rfl (h rfl)
 |[],some q,e,_,_,_=>by
  show CZ 77<|OC (some<|pt q) [] x;rw[TC];exact(e q rfl).2.mono af
 |p::l,none,_,a,_,d=>by
  have k:=a p<|zi ..;show CZ 77<|OC none (pt p::l.map pt) x;rw[Q6];split
  ·exact Ac8 f l (some p) (fun q h=>by cases h;exact k) (fun y g=>a y<|ya _ g) (fun h=>by cases h) (JS d).2.2
  ·exact k.2.mono af
 |p::l,some q,e,a,_,d=>by
  have k:=a p<|zi ..;have j:=e q rfl;obtain⟨_,_,b,i⟩:=HK d;show CZ 77<|OC (some<|pt q) (pt p::l.map pt) x;rw[Qd];split
  ·exact Ac8 f l (some p) (fun q h=>by cases h;exact k) (fun y g=>a y<|ya _ g) (fun h=>by cases h) i
  ·exact(j.2.add<|((k.2.sub j.2).mul<|f.sub j.1).div (k.1.sub j.1)<|Nt b).mono af
theorem yA{n:Int}(h:0<=n/\n<=10):CZ 2 ((n:Rat)/10):=(Go.Pe.LY h).z
theorem AeS{ws:List AW}(a:∀w∈ws,CZ 4<|As w.2):∀ {l:List EB},(∀o∈l,0<=o.2/\o.2<=10)->CZ (1+7*l.length) (obV ws l)
 |[],_=>mE
 |o::l,b=>by
  have i:=AeS a (l:=l) fun x d=>b x<|ya _ d
  rw[P8,Kf,zj];cases e:ws.find? fun w=>decide (w.1=o.1)with
  |none=>
   show CZ _<|0*_+_;rw[Rat.zero_mul,yh];exact i.mono ae
  |some w=>exact(((a w<|yd e).mul<|yA<|b o<|zi ..).add i).mono ae
theorem lR{c:AF}{n:Int}(f:Xr c n 4=true):(∀s∈c.1,IN s n 4=true)/\(∀l∈c.2.2,EX l n 4=true)/\(c.1.length:Int)<=n:=by
 unfold Xr at f;simp only[zh,w5,zt]at f;exact⟨f.2.1,f.2.2.1,f.1.1.1⟩
theorem Adr{c:AF}{t h l n:Int}(a:n<=6)(f:Xr c n 4=true)(k:VI c t h l=true):CZ 122 (Jx c t h l):=by
 obtain⟨P,L,_,ko,h0,n0⟩:=Go.Pe.Qw k;obtain⟨f1,f2,_⟩:=lR f;have S:=Acs a (f1 (BH c h) (Fo (by have:=P.h0;omega)));have V:=Acr (f2 (CW c l) (Fo (by have:=L.l0;omega)));have e:=Aen (Afu S P.te) V.head V.next S.roll h0 n0;obtain⟨h1,_,h3⟩:=Ew L.lv.tab;have v:=Ac8 e (CW c l).2.2.2.1 none (fun q x=>by cases x) V.tab (fun _=>h1) h3;have o:=AeS V.wts P.st.obs;exact(v.add o).mono (by have:=S.len;omega)
theorem NB{c:AF}{t l:Int}(h:Lq c t l=true):IS c=true/\NX c=0/\VP c t=false/\Ox c l=false/\Xr c 6 4=true:=by
 unfold Lq at h;rw[zh,zh,w5]at h;obtain⟨⟨s,e⟩,f⟩:=h;obtain⟨e1,e2⟩:=JL e;rw[Bool.or_eq_false_iff]at e2;exact⟨s,e1,e2.1,e2.2,f⟩
theorem SN{c:AF}{t l:Int}(h:Lq c t l=true){i:Nat}(d:i<c.1.length):VI c t (i:Int) l=true:=by
 obtain⟨s,e,a,b,_⟩:=NB h;have n:VK c (i:Int)=false:=by
  unfold VK Lo;rw[w8 ae,w8 ae];rfl
 unfold VI AfZ JG;rw[s,n,a,b,wc<|by rw[e];decide];rfl
theorem Fi{c:AF}{t l:Int}(h:Lq c t l=true):c.1.length<=6:=by
 have:=(lR (NB h).2.2.2.2).2.2;omega
theorem Abp{c:AF}{t l:Int}(h:Lq c t l=true){i:Nat}(a:i<c.1.length):CZ 122 (Jx c t (i:Int) l):=Adr af (NB h).2.2.2.2<|SN h a
theorem AbJ{q:Rat}{k:Nat}(h:CZ k q):CZ (k+6) (WG q):=by
 have t:CZ 2 (10:Rat):=by unfold CZ;decide+kernel
 exact((Rr<|(h.mul t).add Tk.z).div t<|by decide+kernel).mono ae
theorem AdR{k:Nat}{s:Bx}{q:Rat}(h:Nu k s q)(f:k<=1000):yI s [49,47,49,48]=true/\Ack s [49,47,49,48]=AH (WG q):=by
 have u:Nu 2 [49,47,49,48] (1/10):=by
  refine⟨by decide+kernel,?_⟩;unfold CZ;decide+kernel
 have a:=h.FD u (by decide+kernel);have ad:=a.B5 Tk;have fl:=ad.GA;have b:=fl.EH u;have e:q/(1/10)=q*10:=by
  rw[Rat.div_def,show((1:Rat)/10)⁻¹=10 by decide+kernel]
 have d:((q/(1/10)+1/2).floor:Rat)*(1/10)=WG q:=by
  unfold WG AdW;rw[e,show((1:Rat)/10)=10⁻¹ by decide+kernel, <-Rat.div_def]
 refine⟨?_,?_⟩
 ·unfold yI;rw[h.num ae,a.num ae,ad.num ae,fl.num ae,u.nz af<|by decide+kernel];rfl
 ·show EH (GA<|B5 (FD s [49,47,49,48]) [49,47,50]) [49,47,49,48]=_;rw[b.t,d]
end Go.Sp
namespace Go.Pe
open Sp
open Go.Det
open Go.Sp (AF)
theorem Uu{c:AF}{t l:Int}(h:Lq c t l=true){i:Nat}(a:i<c.1.length):RS 122 (dY c t (i:Int) l) (Jx c t (i:Int) l):=⟨(AfL<|SN h a).r,Abp h a⟩
theorem mY{c:AF}{t l:Int}(h:Lq c t l=true):∀(k i K:Nat) (f:Ae) (q:Rat),RS K f q->i+k<=c.1.length->K+123*k<=3000->RS (K+123*k) (Sp.suF c t l f i k) (q+VV c t l i k)
 |0,i,K,f,q,b,_,_=>by
  show RS K f<|q+0;rw[yi];exact b
 |k+1,i,K,f,q,b,e,d=>by
  have a:=b.add (Uu h (i:=i) ae) ae af;have:=mY h k (i+1) _ _ _ a ae ae;show RS _ (Sp.suF c t l (B0 f<|dY c t (i:Int) l) (i+1) k)<|q+(Jx c t (i:Int) l+VV c t l (i+1) k);rw[<-ye];exact this.mono ae
theorem Zk{c:AF}{t l:Int}(h:Lq c t l=true):RS 740 (kM c t l) (Sp.exQ c t l):=by
 have n:=Fi h;have a:=mY h c.1.length 0 1 yw 0 Gb ae ae;rw[yh]at a;exact a.mono ae
theorem Abo:RS 1 Sp.hfF (1/2):=by
 refine⟨⟨by decide,by decide,by decide+kernel,by decide+kernel⟩,?_⟩;unfold CZ;decide+kernel
theorem Abb{k:Nat}{f:Ae}{q:Rat}(h:RS k f q)(d:k<=3900):zr (B0 f Sp.hfF)=true/\Bd (Sp.rnI f)=true/\Sp.vI (Sp.rnI f)=AdW q:=by
 have a:=h.add Abo ae af;obtain⟨b,c⟩:=eL a.r a.z ae;exact⟨a.Cq ae,b,c⟩
theorem Aa4{k:Nat}{f:Ae}{q:Rat}(h:RS k f q)(a:k<=3800):Jv (Sp.rnI<|FO f<|Sp.iF 10) (10,BL 10)=true/\RS (k+6) (Sp.teF f) (WG q):=by
 have t:RS 2 (Sp.iF 10) ((10:Int):Rat):=NF af af af;have m:=h.mul t ae af;obtain⟨_,b,c⟩:=Abb m ae;obtain⟨b1,b2⟩:=G0 (n:=10) rfl;refine⟨Ab (Ab b b1) (w4<|by rw[b2];decide),?_,AbJ h.z⟩;have r:=Ka b b1 (by rw[b2];decide);rw[b2,c,Rat.divInt_eq_div]at r;exact r
section
open List Int Prod
namespace T68
def T(n:Int):Tr:=tree GG false 9 68<|Ag ([zy zl]) n
theorem Aj(n:Int):T n=.leaf (ym [.dat i64 n,.nil]) []:=by kernel_rfl
end T68
namespace T185
def T(a b:Ae):Tr:=tree Afd false 9 185<|Ag ([Au,Au]) (a,b)
theorem Aj(a b:Ae):T a b=.ck (Sp.Ch a&&Sp.Ch b) (.leaf (.dat Sh.bool<|Ds a b==0) []):=by kernel_rfl
end T185
namespace T100
def T(c:AF)(h l:Int):Tr:=tree Oz false 9 100<|Ag ([Bc,zy zl,zy zl]) (c,h,l)
def L1(v1 v2:Int)(v3:AF)(o1:List (Z×Ae))(b a:Int):Tr:=re ((T ([],([],[])) 0 0))<|Aw 66 [(1,.dat i64 v1),(2,.dat i64 v2),(3,PV.Bb Bc v3 0),(6,.ptr 0 0),(7,PV.mp 1)] [(1,Obj.map yf Au o1),(0,.box [.dat i64 b,.nil,.dat i64 a,.nil])] 2
theorem Aj(c:AF)(h l:Int):T c h l=L1 h l c [] 0 0:=by kernel_rfl
def L2(v1:Int)(v3:AF)(b:List AW)(d e:Int)(o1:List (Z×Ae))(f a:Int):Tr:=re ((stepT Oz<|L1 0 0 ([],([],[])) [] 0 0).L)<|Aw 66 [(1,.dat i64 v1),(3,PV.Bb Bc v3 0),(6,.ptr 0 0),(7,PV.mp 1),(21,.dat (yq Ca) b),(22,.dat i64 d),(23,.dat i64 e)] [(1,Obj.map yf Au o1),(0,.box [.dat i64 f,.nil,.dat i64 a,.nil])] 2
theorem Ak(v1 v2:Int)(v3:AF)(o1:List (Z×Ae))(d a:Int):stepT Oz (L1 v1 v2 v3 o1 d a)=let b:=snd<|snd<|snd<|snd<|getD (snd<|snd v3) (toNat v2) ([],[],[],[],[]);.ck (decide (0<=v2)&&decide (v2<(↑(length<|snd<|snd v3):Int))) (L2 v1 v3 b ((↑(length b):Int)) 0 o1 d a):=by kernel_rfl
def L3(g:List EB)(f i j:Int)(e:List Int)(d:Int)(a:List Int)(o1:List (Z×Ae))(k b:Int):Tr:=re ((stepT Oz<|L2 0 ([],([],[])) [] 0 0 [] 0 0).R.L.L)<|Aw 66 [(6,.ptr 0 0),(7,PV.mp 1),(10,.ptr 2 0),(40,.dat (yq Te) g),(41,.dat i64 f),(42,.dat i64 i)] [(2,.box [.dat i64 j,.dat wU e,.dat i64 d,.dat wU a]),(1,Obj.map yf Au o1),(0,.box [.dat i64 k,.nil,.dat i64 b,.nil])] 3
theorem Az(v1:Int)(v3:AF)(d:List AW)(e a:Int)(o1:List (Z×Ae))(f b:Int):stepT Oz (L2 v1 v3 d e a o1 f b)=let g:=snd<|snd<|snd<|snd<|getD (fst v3) (toNat v1) ([],[],[],[],[]);let b':=getD d (toNat a) ([],[]);.di (a<e) (.ck (decide (0<=a)&&decide (a<(length d:Int)))<|.ck (DT<|snd b')<|L2 v1 v3 d e (zg .i64<|a+1) (HP yf Au (fst b') (Cw<|snd b') o1) f b) (.ck true<|.ck (decide (0<=v1)&&decide (v1<(↑(length<|fst v3):Int)))<|L3 g ((↑(length g):Int)) 0 0 (BL 0) 1 (BL 1) o1 f b):=by kernel_rfl
def L4(g:Z×Int)(i:Ae)(j:List EB)(f k m:Int)(e:List Int)(d:Int)(a:List Int)(o1:List (Z×Ae))(n b:Int):Tr:=re ((stepT Oz<|L3 [] 0 0 0 [] 0 [] [] 0 0).L.L.R)<|Aw 66 [(6,.ptr 0 0),(7,PV.mp 1),(10,.ptr 2 0),(12,PV.Bb Te g 0),(13,PV.Bb Au i 0),(40,.dat (yq Te) j),(41,.dat i64 f),(42,.dat i64 k)] [(2,.box [.dat i64 m,.dat wU e,.dat i64 d,.dat wU a]),(1,Obj.map yf Au o1),(0,.box [.dat i64 n,.nil,.dat i64 b,.nil])] 3
theorem Bq(g:List EB)(i a j:Int)(e:List Int)(d:Int)(b:List Int)(o1:List (Z×Ae))(k f:Int):stepT Oz (L3 g i a j e d b o1 k f)=let b':=getD g (toNat a) ([],0);let m:=Eh yf Au (fst b') o1;.di (a<i) (.ck (decide (0<=a)&&decide (a<(length g:Int)))<|.ite (!Option.isSome m) (L3 g i (zg .i64<|a+1) j e d b o1 k f)<|L4 b' ((Option.getD m ((0,[]),0,[]))) g i a j e d b o1 k f) (.leaf (ym [.dat i64 j,.dat wU e,.dat i64 d,.dat wU b]) []):=by kernel_rfl
theorem Ck(a:Z×Int)(g:Ae)(k:List EB)(j m p:Int)(f:List Int)(e:Int)(b:List Int)(o1:List (Z×Ae))(q d:Int):stepT Oz (L4 a g k j m p f e b o1 q d)=let b':=((p,f),e,b);let n:=SJ (snd a,BL<|snd a) (10,BL 10);let i:=FO g n;.ck true (.ck true<|.ck (Jv (snd a,BL<|snd a) (10,BL 10))<|.ck (zr g&&zr n)<|.ck (zr b'&&zr i)<|L3 k j (zg .i64<|m+1) (Jw b' i) (Jp b' i) (JI b' i) (JO b' i) o1 q d):=by kernel_rfl
end T100
namespace T135
def T(p:List AW)(x:Ae):Tr:=tree R1 false 9 135<|Ag ([yq Ca,Au]) (p,x)
def L1(v0:List AW)(v3:Ae)(b a:Int):Tr:=re ((T [] ((0,[]),(0,[]))))<|Aw 72 [(0,.dat (yq Ca) v0),(3,PV.Bb Au v3 0),(4,.ptr 0 0)] [(0,.box [.dat i64 b,.nil,.dat i64 a,.nil])] 1
theorem Aj(p:List AW)(x:Ae):T p x=L1 p x 0 0:=by kernel_rfl
def L2(v0:List AW)(v3:Ae)(d:List AW)(b e f a:Int):Tr:=re ((stepT R1<|L1 [] ((0,[]),(0,[])) 0 0))<|Aw 72 [(0,.dat (yq Ca) v0),(3,PV.Bb Au v3 0),(4,.ptr 0 0),(11,.dat (yq Ca) d),(12,.dat i64 b),(13,.dat i64 e)] [(0,.box [.dat i64 f,.nil,.dat i64 a,.nil])] 1
theorem Ak(v0:List AW)(v3:Ae)(b a:Int):stepT R1 (L1 v0 v3 b a)=L2 v0 v3 v0 ((length v0:Int)) 0 b a:=by kernel_rfl
def L3(v0:List AW)(v3:Ae)(v5:Int)(b d:Ae)(e a:Int):Tr:=re ((stepT R1<|L2 [] ((0,[]),(0,[])) [] 0 0 0 0).L.L.L.L.L.R.R.L.R)<|Aw 72 [(0,.dat (yq Ca) v0),(3,PV.Bb Au v3 0),(4,.ptr 0 0),(5,.dat i64 v5),(7,PV.Bb Au b 0),(8,PV.Bb Au d 0)] [(0,.box [.dat i64 e,.nil,.dat i64 a,.nil])] 1
theorem Az(v0:List AW)(v3:Ae)(d:List AW)(f a j b:Int):stepT R1 (L2 v0 v3 d f a j b)=let e:=getD d (toNat a) ([],[]);let i:=(length v0:Int);let b':=snd<|getD v0 (toNat<|zg .i64<|i-1) ([],[]);let k:Tr:=.leaf (ym [.dat i64<|RW<|snd e,.dat wU<|RR<|snd e,.dat i64<|P0<|snd e,.dat wU<|Rp<|snd e]) [];let g:=Cw<|fst e;let m:=Sp.Ch v3&&Sp.Ch g;.di (a<f) (.ck (decide (0<=a)&&decide (a<(length d:Int)))<|.ck (DT<|fst e)<|.ck (DT<|snd e)<|.ck m<|.di (Ds v3 g>0) (L2 v0 v3 d f (zg .i64<|a+1) j b)<|.ite (a==0) k<|.ck m<|.di (Ds v3 g=0) k<|L3 v0 v3 a g ((Cw<|snd e)) j b) (.ck (decide (0<=zg .i64 (i-1))&&decide (zg .i64 (i-1)<i))<|.ck (DT b')<|.leaf (ym [.dat i64<|RW b',.dat wU<|RR b',.dat i64<|P0 b',.dat wU<|Rp b']) []):=by kernel_rfl
def L4(v3 e d v9 b:Ae)(f a:Int):Tr:=re ((stepT R1<|L3 [] ((0,[]),(0,[])) 0 ((0,[]),(0,[])) ((0,[]),(0,[])) 0 0).L.L.L.L)<|Aw 72 [(3,PV.Bb Au v3 0),(4,.ptr 0 0),(7,PV.Bb Au e 0),(8,PV.Bb Au d 0),(9,PV.Bb Au v9 0),(10,PV.Bb Au b 0)] [(0,.box [.dat i64 f,.nil,.dat i64 a,.nil])] 1
theorem Bq(v0:List AW)(v3:Ae)(v5:Int)(e d:Ae)(f a:Int):stepT R1 (L3 v0 v3 v5 e d f a)=let b:=getD v0 (toNat<|zg .i64<|v5-1) ([],[]);let b':=decide (0<=zg .i64 (v5-1))&&decide (zg .i64 (v5-1)<(length v0:Int));.ck b' (.ck b'<|.ck (DT<|fst b)<|.ck (DT<|snd b)<|L4 v3 e d ((Cw<|fst b)) ((Cw<|snd b)) f a):=by kernel_rfl
theorem Ck(v3 f e v9 a:Ae)(i b:Int):stepT R1 (L4 v3 f e v9 a i b)=let b':=FO (Gs e a)<|Gs v3 v9;let g:=Gs f v9;let d:=Lp b' g;.ck (zr e&&zr a) (.ck (zr v3&&zr v9)<|.ck (zr (Gs e a)&&zr (Gs v3 v9))<|.ck (zr f&&zr v9)<|.ck (zr b'&&zr g&&decide (Sp.vI (fst g)≠0))<|.ck (zr a&&zr d)<|.leaf (ym [.dat i64<|Jw a d,.dat wU<|Jp a d,.dat i64<|JI a d,.dat wU<|JO a d]) []):=by kernel_rfl
end T135
namespace T70
def T(c:AF)(t h l:Int):Tr:=tree Ace false 9 70<|Ag ([Bc,zy zl,zy zl,zy zl]) (c,t,h,l)
def L1(v1 v2 v3:Int)(v4:AF)(b a:Int):Tr:=re ((T ([],([],[])) 0 0 0))<|Aw 26 [(1,.dat i64 v1),(2,.dat i64 v2),(3,.dat i64 v3),(4,PV.Bb Bc v4 0),(8,.ptr 0 0)] [(0,.box [.dat i64 b,.nil,.dat i64 a,.nil])] 1
theorem Aj(c:AF)(t h l:Int):T c t h l=L1 t h l c 0 0:=by kernel_rfl
theorem Ak(v1 v2 v3:Int)(v4:AF)(e a:Int):stepT Ace (L1 v1 v2 v3 v4 e a)=let b':=fst<|snd<|snd<|snd<|getD (snd<|snd v4) (toNat v3) ([],[],[],[],[]);let d:=Sp.obF v4 v2 v3;let b:=Sp.vlF b'<|bM v4 v1 v2 v3;.ck (decide (0<=v3)&&decide (v3<(↑(length<|snd<|snd v4):Int))) (.ck (VI v4 v1 v2 v3)<|.ck (Sp.okY b'<|bM v4 v1 v2 v3)<|.ck (Sp.okO v4 v2 v3)<|.ck (zr b&&zr d)<|.leaf (ym [.dat i64<|Jw b d,.dat wU<|Jp b d,.dat i64<|JI b d,.dat wU<|JO b d]) []):=by kernel_rfl
end T70
namespace T128
def T(c:AF)(h l:Int):Tr:=tree Oo false 9 128<|Ag ([Bc,zy zl,zy zl]) (c,h,l)
def L1(a:Z)(b:Bn)(v9:Bm):Tr:=re ((T ([],([],[])) 0 0).L.L)<|Aw 66 [(7,.dat yf a),(8,PV.Bb Bt b 0),(9,PV.Bb Bh v9 0)] [] 0
theorem Aj(c:AF)(h l:Int):T c h l=.ck (decide (0<=h)&&decide (h<(↑(length<|fst c):Int))) (.ck (decide (0<=l)&&decide (l<(↑(length<|snd<|snd c):Int)))<|L1 ([(48:UInt8)]) ((getD (fst c) (toNat h) ([],[],[],[],[])))<|(getD (snd<|snd c) (toNat l) ([],[],[],[],[]))):=by kernel_rfl
def L2(b:Z)(d:Bn)(v9:Bm)(a:Int):Tr:=re ((stepT Oo<|L1 [] ([],([],([],([],[])))) ([],([],([],([],[]))))))<|Aw 66 [(7,.dat yf b),(8,PV.Bb Bt d 0),(9,PV.Bb Bh v9 0),(10,.dat i64 a)] [] 0
theorem Ak(a:Z)(b:Bn)(v9:Bm):stepT Oo (L1 a b v9)=L2 a b v9 0:=by kernel_rfl
def L3(e:Z)(d:Bn)(v9:Bm)(a b:Int):Tr:=re ((stepT Oo<|L2 [] ([],([],([],([],[])))) ([],([],([],([],[])))) 0).L)<|Aw 66 [(7,.dat yf e),(8,PV.Bb Bt d 0),(9,PV.Bb Bh v9 0),(10,.dat i64 a),(11,.dat i64 b)] [] 0
theorem Az(b:Z)(d:Bn)(v9:Bm)(a:Int):stepT Oo (L2 b d v9 a)=.di (a<(↑(length<|snd<|snd<|snd<|snd d):Int)) (L3 b d v9 a 0) (.leaf (.dat yf b) []):=by kernel_rfl
theorem Bq(d:Z)(e:Bn)(v9:Bm)(a b:Int):stepT Oo (L3 d e v9 a b)=let k:=zg .i64<|b+1;let m:=snd<|snd<|snd<|snd e;let h':=snd<|snd<|snd<|snd v9;let f:=getD m (toNat a) ([],0);let b':=getD h' (toNat b) ([],[]);let g:=decide (b<(↑(length h'):Int));let j:=decide (0<=a)&&decide (a<(↑(length m):Int));let i:=CT (snd f) 10;.ite g (.ck (decide (0<=b)&&g)<|.ck j<|.ite (fst b'==fst f) (.ck (decide (0<=b)&&g)<|.ck j<|.ck (Ct (snd f)&&Ct 10&&decide (10≠0))<|.ck (A2 (snd b')&&A2 i)<|.ck (A2 d&&A2 (EH (snd b') i))<|L3 (B5 d<|EH (snd b') i) e v9 a k)<|L3 d e v9 a k) (L2 d e v9<|zg .i64<|a+1):=by kernel_rfl
end T128
end
open Go.Sp (AF Bn Bm AW EB Bx)
theorem T68.ok:Af A4 68 R0:=by
 refine HN (X:=GG) rfl (fun g sp h=>by cases h) (d:=9) ag ag ag (fun(n:Int) _=>?_) (Bg ag);refine zp (T68.Aj n)<|ze<|zq rfl rfl ?_;show(n,([]:List Int))=(n,BL n);rw[D7]
theorem jX:CE Afd:=Aa T73.ok Ay
theorem T185.ok:Af A4 185 rS:=by
 refine BD jX<|fun(i:Ae×Ae) hi=>?_;exact zp (T185.Aj i.1 i.2)<|zc hi<|ze<|zq rfl rfl rfl
theorem oS:CE Oz:=Aa T96.ok<|Aa T57.ok<|Aa T68.ok<|Aa T120.ok<|Aa T65.ok<|Aa yz Ay
def fL(m:List (Bx×Ae))(ws:List AW):Prop:=∀k:Bx,Eh .str Au k m=(ws.find? fun w=>decide (w.1=k)).map fun w=>Cw w.2
theorem fL.add{m:List (Bx×Ae)}{ws:List AW}(h:fL m ws)(w:AW)(b:∀v∈ws,v.1≠w.1):fL (HP .str Au w.1 (Cw w.2) m) (ws++[w]):=fun k=>by
 have e:=Hr (v:=Au) k w.1 (Cw w.2) m;rw[e,List.find?_append];by_cases c:k=w.1
 ·rw[wd c,List.find?_eq_none.2 (fun v a=>by rw[c];simpa using b v a),yk,w4 c.symm];rfl
 ·rw[wc c,h k,yk,w8<|fun x=>c x.symm];cases ws.find? fun w=>decide (w.1=k)<;>rfl
namespace T100
theorem Dc{v1:Int}{v3:AF}{q b:Int}(ws:List AW)(k:ws.length<=16)(u:∀w∈ws,An w.2=0)(a:(ws.map Prod.fst).Nodup)(f:0<=v1/\v1<(v3.1.length:Int))(n:∀m,fL m ws->Ends Oz (L3 (BH v3 v1).2.2.2.2 ((BH v3 v1).2.2.2.2.length:Int) 0 0 (BL 0) 1 (BL 1) m q b) Q):∀(r:List AW) (i:Nat) (m:List (Bx×Ae)) (d:List AW),ws.drop i=r->i<=ws.length->ws=d++r->fL m d->Ends Oz (L2 v1 v3 ws (ws.length:Int) (i:Int) m q b) Q
 |[],i,m,d,h,s,g,j=>by
  have:=drop_nil h s;rw[yr]at g;rw[<-g]at j;exact zd (Az ..) (zk (w8 ae)<|zc rfl (zc (Lx f)<|n m j))
 |p::r,i,m,d,h,s,g,j=>by
  obtain⟨B,y,C⟩:=drop_cons (d:=(([],[]):AW)) h;have A:=wn (i:=i) ae;have z:=u p (zn<|by rw[h];exact zi ..);refine zd (Az ..) ?_;conv=>zeta
  rw[zf,y,A];refine zc (w4 ae) (zc (Lx ae)<|zc (Ed z) ?_);refine Dc ws k u a f n r (i+1) _ (d++[p]) C B (by rw[g,List.append_assoc];rfl)<|j.add p fun v x e=>?_;rw[g,List.map_append,List.nodup_append]at a;exact a.2.2 v.1 (y9.2 ⟨v,x,rfl⟩) p.1 (by rw[yy];exact zi ..) e
theorem C1{E u:Int}{m:List (Bx×Ae)}(ws:List AW)(p:∀w∈ws,RS 20 (Cw w.2)<|As w.2)(s:fL m ws)(l:List EB)(b:l.length<=16)(v:∀o∈l,0<=o.2/\o.2<=10)(F:Ae)(j:∀ob,Q (.agg [.dat i64 F.1.1,.dat (.nlist u64) F.1.2,.dat i64 F.2.1,.dat (.nlist u64) F.2.2]) ob):∀(r:List EB) (i K:Nat) (f:Ae) (q:Rat),l.drop i=r->i<=l.length->RS K f q->K+23*r.length<=4000->Wp ws f r=F->Ends Oz (L3 l (l.length:Int) (i:Int) f.1.1 f.1.2 f.2.1 f.2.2 m E u) Q
 |[],i,K,f,q,h,z,k,x,e=>by
  have:=drop_nil h z;have e:f=F:=e;rw[<-e]at j;exact zd (Bq ..) (zk (w8 ae)<|ze<|j _)
 |o::r,i,K,f,q,h,z,k,x,e=>by
  obtain⟨B,D,C⟩:=drop_cons (d:=(([],0):EB)) h;have y:=wn (i:=i) ae;have G:=v o (zn<|by rw[h];exact zi ..);rw[zj]at x;refine zd (Bq ..) ?_;conv=>zeta
  rw[zf,D,y,s o.1];refine zc (w4 ae) (zc (Lx ae) ?_);rw[Wp]at e;cases a:ws.find? fun w=>decide (w.1=o.1)with
  |none=>
   rw[a]at e;exact zc rfl (C1 ws p s l b v F j r (i+1) K f q C B k ae e)
  |some w=>
   rw[a]at e;have e:Wp ws (B0 f<|FO (Cw w.2)<|SJ (o.2,BL o.2) (10,BL 10)) r=F:=e;have g:=p w<|yd a;have t:=LY G;have A:=g.mul t af af;have L:=k.add A ae af;have n1:Ct o.2=true:=ad ae ae;have mk:Jv (o.2,BL o.2) (10,BL 10)=true:=Ab (Ab (G0 n1).1 (G0 (n:=10) rfl).1) (w4<|by rw[(G0 (n:=10) rfl).2];decide);refine zk rfl (zd (Ck ..)<|zc rfl (zc rfl (zc mk<|zc (g.Ph t af af)<|zc (k.Ph A ae af) ?_)));rw[y];exact C1 ws p s l b v F j r (i+1) _ (B0 f<|FO (Cw w.2)<|SJ (o.2,BL o.2) (10,BL 10)) _ C B L ae e
theorem ok:Af A4 100 cOb:=by
 refine BD oS<|fun(i:AF×Int×Int) hi=>?_;obtain⟨c,h,l⟩:=i;obtain⟨L,h0,S,_⟩:=MU (c:=c) (h:=h) (l:=l) hi;refine zp (Aj c h l)<|zd (Ak ..)<|zc (Lx L.l0) ?_;refine Dc (CW c l).2.2.2.2 L.lv.wlen (fun w a=>(L.lv.wts w a).1) L.lv.one h0 (fun m b=>?_) (CW c l).2.2.2.2 0 [] [] rfl (z6 _) rfl (fun k=>rfl);exact C1 (CW c l).2.2.2.2 L.lr.wts b (BH c h).2.2.2.2 S.len S.obs (Sp.obF c h l) (fun ob=>zq rfl rfl rfl) (BH c h).2.2.2.2 0 1 yw 0 rfl (z6 _) Gb (by have:=S.len;omega) rfl
end T100
theorem kO:CE R1:=Aa T96.ok<|Aa T73.ok<|Aa T185.ok<|Aa yz<|Aa T64.ok<|Aa T65.ok<|Aa T97.ok Ay
theorem rH(o:Option AW)(p:AW)(l:List AW)(x:Ae):uD o (p::l) x=if Ds x (Cw p.1)>0 then uD (some p) l x else match o with
  |none=>Cw p.2
  |some q=>if Ds x (Cw p.1)=0 then Cw p.2 else B0 (Cw q.2) (Lp (FO (Gs (Cw p.2)<|Cw q.2)<|Gs x<|Cw q.1)<|Gs (Cw p.1)<|Cw q.1):=by
 cases o<;>rw[uD]
namespace T135
theorem loop{S A:Int}(t:List AW)(B:t.length<=64)(k:t≠[])(G:∀p∈t,p.1.length<=20/\p.2.length<=20)(x:Ae)(X:Rat)(g:RS 300 x X)(F:Ae)(f:∀ob,Q (.agg [.dat i64 F.1.1,.dat (.nlist u64) F.1.2,.dat i64 F.2.1,.dat (.nlist u64) F.2.2]) ob):∀(r:List AW) (i:Nat) (o:Option AW),t.drop i=r->i<=t.length->(o=none->i=0)->(∀q,o=some q->1<=i/\t.getD (i-1) ([],[])=q/\An q.1=0/\An q.2=0/\q.1.length<=20/\q.2.length<=20)->DK o r=0->uD o r x=F->Ends R1 (L2 t x t (t.length:Int) (i:Int) S A) Q
 |[],i,o,h,I,h0,w,n,e=>by
  have Z:=drop_nil h I;cases o with
  |none=>
   have:=h0 rfl;exact wh (List.eq_nil_of_length_eq_zero ae) k
  |some q=>
   obtain⟨s,j,_,O,_,_⟩:=w q rfl;have e:Cw q.2=F:=e;have v:zg .i64 ((t.length:Int)-1)=((i-1:Nat):Int):=by rw[wr _ ae ae];omega
   refine zd (Az ..) (zk (w8 ae) ?_);rw[v,zf,j];rw[<-e]at f;exact zc (Lx ae)<|zc (Ed O)<|ze<|f _
 |p::r,i,o,h,I,h0,w,n,e=>by
  obtain⟨T,D,V⟩:=drop_cons (d:=(([],[]):AW)) h;have K:=wn (i:=i) ae;obtain⟨l1,l2⟩:=G p (zn<|by rw[h];exact zi ..);have M:An p.1=0/\An p.2=0/\DK (some p) r=0:=by
   cases o with
   |none=>exact JS n
   |some q=>obtain⟨a,b,_,c⟩:=HK n;exact⟨a,b,c⟩
  obtain⟨s,j,U⟩:=M;have m:=El s l1 af;have E:=El j l2 af;rw[rH]at e;refine zd (Az ..) ?_;conv=>zeta
  rw[zf,D,K];refine zc (w4 ae) (zc (Lx ae)<|zc (Ed s)<|zc (Ed j)<|zc (Ab (g.Ch af)<|m.Ch af)<|zu (fun c=>?_)<|fun c=>?_)
  ·rw[wd<|w6 c]at e;exact loop t B k G x X g F f r (i+1) (some p) V T (fun y=>by cases y) (fun q y=>by cases y;exact⟨by omega,by rw[Nat.add_sub_cancel];exact D,s,j,l1,l2⟩) U e
  ·rw[wc<|w7 c]at e;cases o with
   |none=>
    have z:=h0 rfl;have e:Cw p.2=F:=e;rw[<-e]at f;exact zc (by rw[z];rfl)<|ze<|f _
   |some q=>
    obtain⟨Y,N,J,C,L,R⟩:=w q rfl;have q1:=El J L af;have u:=El C R af;obtain⟨_,_,hlt,_⟩:=HK n;have e:(if Ds x (Cw p.1)=0 then Cw p.2 else B0 (Cw q.2)<|Lp (FO (Gs (Cw p.2)<|Cw q.2)<|Gs x<|Cw q.1)<|Gs (Cw p.1)<|Cw q.1)=F:=e;refine zk (by simp;omega) (zc (Ab (g.Ch af)<|m.Ch af)<|zu (fun d=>?_)<|fun d=>?_)
    ·rw[wd<|w6 d]at e;rw[<-e]at f;exact ze<|f _
    ·rw[wc<|w7 d]at e;rw[<-e]at f;have v:zg .i64 ((i:Int)-1)=((i-1:Nat):Int):=by rw[wr _ ae ae];omega
     have s1:=E.sub u af af;have s2:=g.sub q1 af af;have s3:=s1.mul s2 af af;have s4:=m.sub q1 af af;have s5:=s3.div s4 af af<|Nt hlt;refine zd (Bq ..) ?_;conv=>zeta
     rw[v,zf,N];refine zc (Lx ae) (zc (Lx ae)<|zc (Ed J)<|zc (Ed C) (zd (Ck ..)<|zc (E.Ph u af af)<|zc (g.Ph q1 af af)<|zc (s1.Ph s2 af af)<|zc (m.Ph q1 af af)<|zc (s3.ok3 s4 af af<|Nt hlt)<|zc (u.Ph s5 af af)<|ze<|f _))
theorem ok:Af A4 135 Af2:=by
 refine BD kO<|fun(i:List AW×Ae) hi=>?_;obtain⟨t,x⟩:=i;obtain⟨ht,hl,X,hx⟩:=Ady (t:=t) (x:=x) hi;obtain⟨hne,h64,h0⟩:=Ew ht;refine zp (Aj t x)<|zd (Ak ..) ?_;exact loop t h64 hne hl x X hx (Sp.vlF t x) (fun ob=>zq rfl rfl rfl) t 0 none rfl (z6 _) (fun _=>rfl) (fun q y=>by cases y) h0 rfl
end T135
theorem lE:CE Ace:=Aa T99.ok<|Aa T100.ok<|Aa T135.ok<|Aa yz Ay
theorem T70.ok:Af A4 70 cRt:=by
 refine BD lE<|fun(i:AF×Int×Int×Int) hi=>?_;obtain⟨c,t,h,l⟩:=i;obtain⟨P,L,kp,ko,h0,n0⟩:=Qw (c:=c) (t:=t) (h:=h) (l:=l) hi;have a:=qB (c:=c) (t:=t) (h:=h) (l:=l) hi;have v:=qT a af L.lv.tab L.ls.tab;have o:=XE ko;have b:Sp.okY (CW c l).2.2.2.1 (bM c t h l)=true:=AcG ⟨L.lv.tab,L.ls.tab,_,a.mono af⟩;exact zp (T70.Aj c t h l) (zd (T70.Ak ..) (zc (Lx L.l0)<|zc hi<|zc b<|zc ko<|zc (v.Ph o af af)<|ze<|zq rfl rfl rfl))
theorem jT:CE PJ:=Aa T70.ok<|Aa T57.ok<|Aa yz Ay
namespace T55
theorem loop{c:AF}{t l:Int}(h:Lq c t l=true)(a:∀ob,Q (.agg [.dat i64 (kM c t l).1.1,.dat (.nlist u64) (kM c t l).1.2,.dat i64 (kM c t l).2.1,.dat (.nlist u64) (kM c t l).2.2]) ob):∀(k i K:Nat) (f:Ae) (q:Rat),i+k=c.1.length->RS K f q->K+123*k<=3000->Sp.suF c t l f i k=kM c t l->Ends PJ (L2 c t l (c.1.length:Int) (i:Int) l t c.1 c.2.1 c.2.2 f.1.1 f.1.2 f.2.1 f.2.2 0 0 c.1 c.2.1 c.2.2) Q
 |0,i,K,f,q,j,b,d,e=>by
  have e:f=kM c t l:=e;rw[<-e]at a;exact zd (Az ..) (zk (w8 ae)<|ze<|a _)
 |k+1,i,K,f,q,j,b,d,e=>by
  have n:=Fi h;have g:=wn (i:=i) ae;have r:=Uu h (i:=i) ae;refine zd (Az ..) ?_;conv=>zeta
  rw[g];exact zc (w4 ae) (zc (SN h ae)<|zc (b.Ph r ae af)<|loop h a k (i+1) _ (B0 f<|dY c t (i:Int) l) _ ae (b.add r ae af) ae e)
theorem ok:Af A4 55 cEx:=by
 refine BD jT<|fun(i:AF×Int×Int) j=>?_;obtain⟨c,t,l⟩:=i;have j:Lq c t l=true:=j;have n:=Fi j;have e:∀(a b:Int) (f:List Bn) (g:List B3) (d:List Bm),L1 c t l a b l t f g d 0 (BL 0) 1 (BL 1) 0 0 f g d=L2 c t l a b l t f g d 0 (BL 0) 1 (BL 1) 0 0 f g d:=fun a b f g d=>by kernel_rfl
 refine zp (Aj c t l)<|zc rfl ?_;rw[e];exact loop j (fun ob=>zq rfl rfl rfl) c.1.length 0 1 yw 0 ae Gb ae rfl
end T55
theorem lD:CE AeY:=Aa T68.ok<|Aa yz<|Aa T132.ok Ay
theorem T66.ok:Af A4 66 Abf:=by
 refine BD lD<|fun(a:Ae) ha=>?_;obtain⟨q,h⟩:=Ab3 ha;exact zp (T66.Aj a) (zc rfl (zc rfl (zc (h.Ph Abo af af)<|zc (Abb h af).1<|ze<|zq rfl rfl rfl)))
theorem jV:CE Aes:=Aa T57.ok<|Aa T65.ok<|Aa T66.ok<|Aa T68.ok<|Aa T120.ok Ay
theorem T56.ok:Af A4 56 Aep:=by
 refine BD jV<|fun(a:Ae) ha=>?_;obtain⟨q,h⟩:=Acx ha;have t:RS 2 (Sp.iF 10) ((10:Int):Rat):=NF af af af;have m:=h.mul t af af;exact zp (T56.Aj a) (zc rfl (zc (h.Ph t af af)<|zc (AcU ⟨_,m.mono af⟩)<|zc rfl (zc (Aa4 h af).1<|ze<|zq rfl rfl rfl)))
theorem Adp(c:AF)(t l:Int):Ns c [(t,xZ c),(l,zK c)]=Em c t l:=by
 unfold Ns Xj Em VP Ox;rw[yx,yx,List.any_nil,Bool.or_false];rfl
theorem OU{c:AF}(h:RZ c=true):IS c=true/\∀t l,Em c t l=0->Lq c t l=true:=by
 unfold RZ at h;rw[zh,Bool.or_eq_true,w5]at h;refine⟨h.1,fun t l e=>?_⟩;rcases h.2 with k|k
 ·exact wh (JL e).1 k
 ·unfold Lq;rw[h.1,e,k];rfl
theorem Vu:CE Ad5:=Aa T52.ok<|Aa T53.ok<|Aa T51.ok<|Aa T54.ok<|Aa T55.ok<|Aa T56.ok Ay
theorem T12.ok:Af A4 12 jO:=by
 refine BD Vu<|fun(i:AF×Int×Int) hi=>?_;obtain⟨c,t,l⟩:=i;obtain⟨sh,ok⟩:=OU (c:=c) hi;refine zp (T12.Aj c t l) ?_;conv=>zeta
 rw[Adp];refine zc rfl (zc rfl (zc (Ab rfl (Ab sh rfl))<|zu (fun k=>ze<|zq rfl rfl ?_)<|fun k=>?_))
 ·have k:Em c t l≠0:=by simpa using k
  show(([]:Bx),Em c t l)=(iI c t l,iE c t l);unfold iI iE XJ Yb;rw[wd k,wd k]
 ·have k:Em c t l=0:=by simpa using k
  have p:=Zk<|ok t l k;exact zc (ok t l k) (zc (p.Ch af)<|ze<|zq rfl rfl (kW p k))
theorem T13.ok:Af A4 13 Z1:=by
 refine BD Vu<|fun(i:AF×Int×Int) hi=>?_;obtain⟨c,t,l⟩:=i;obtain⟨sh,ok⟩:=OU (c:=c) hi;refine zp (T13.Aj c t l) ?_;conv=>zeta
 rw[Adp];refine zc rfl (zc rfl (zc (Ab rfl (Ab sh rfl))<|zu (fun k=>ze<|zq rfl rfl ?_)<|fun k=>?_))
 ·have k:Em c t l≠0:=by simpa using k
  show(([]:Bx),Em c t l)=(iJ c t l,iA c t l);unfold iJ iA XJ Yb;rw[wd k,wd k]
 ·have k:Em c t l=0:=by simpa using k
  have p:=Zk<|ok t l k;have u:=(Aa4 p af).2;exact zc (ok t l k) (zc (AbY ⟨_,p.mono af⟩) (zc (u.Ch af)<|ze<|zq rfl rfl (kW u k)))
section
open List Int Prod
namespace T62
def T(c:AF)(t h l:Int):Tr:=tree Ab4 false 9 62<|Ag ([Bc,zy zl,zy zl,zy zl]) (c,t,h,l)
def L1(v1 v2 v3:Int)(v4:AF):Tr:=re ((T ([],([],[])) 0 0 0))<|Aw 26 [(1,.dat i64 v1),(2,.dat i64 v2),(3,.dat i64 v3),(4,PV.Bb Bc v4 0)] [] 0
theorem Aj(c:AF)(t h l:Int):T c t h l=L1 t h l c:=by kernel_rfl
theorem Ak(v1 v2 v3:Int)(v4:AF):stepT Ab4 (L1 v1 v2 v3 v4)=let a:=fst<|snd<|snd<|snd<|getD (snd<|snd v4) (toNat v3) ([],[],[],[],[]);let b':=Sp.efR v4 v1 v2 v3;.ck (decide (0<=v3)&&decide (v3<(↑(length<|snd<|snd v4):Int))) (.ck (VI v4 v1 v2 v3)<|.ck (decide (length a<=1000)&&GQ 100 a&&decide (Yt a b'=0))<|.ck (Sp.okO v4 v2 v3)<|.ck (A2 (lV a b')&&A2 (Sp.obR v4 v2 v3))<|.leaf (.dat yf<|B5 (lV a b')<|Sp.obR v4 v2 v3) []):=by kernel_rfl
end T62
end
open Go.Sp (AF Bn Bm AW EB Bx)
theorem T126.okW:Af A4 126 UZ:=by
 refine BD uJ<|fun(i:List AW×Bx) b=>?_;obtain⟨t,x⟩:=i;have b:(decide (t.length<=1000)&&GQ 100 t&&decide (Yt t x=0))=true:=b;rw[zh,zh,w5,w5]at b;obtain⟨⟨_,hl⟩,he⟩:=b;obtain⟨ht,hcx⟩:=eB he;obtain⟨hne,h64,h0⟩:=Ew ht;have nx:=Mi hcx;have d:∀ob,Ac UZ (t,x) (.dat .str<|AH<|LI t x) ob:=fun ob=>zq rfl rfl rfl
 obtain⟨p,r,rfl⟩:∃p r,t=p::r:=by
  cases t with
  |nil=>exact wh rfl hne
  |cons p r=>exact⟨p,r,rfl⟩
 obtain⟨k,j,g⟩:=JS h0;obtain⟨l1,l2⟩:=LC hl p<|zi ..;have e:=HG k l1 af;have f:=HG j l2 af;have a:LI (p::r) x=if As p.1<As x then OC (some<|Sp.pt p) (r.map Sp.pt) (As x)else As p.2:=by
  rw[pT,yy,Q6];rfl
 refine zp (T126.Aj (p::r) x) ?_;conv=>zeta
 rw[show(p::r).getD 0 ([],[])=p from rfl];refine zc (w4<|by rw[zj];omega) (zc (Ab (nx.num af)<|e.Di af) (zu (fun c=>zc (w4<|by rw[zj];omega)<|ze ?_)<|fun c=>?_))
 ·have c:=(Sp.HY _ _).1<|w6 c;rw[wc c]at a;rw[a, <-f.t]at d;exact d _
 ·have c:As p.1<As x:=by
   have:=w7 c;rw[Sp.HY]at this;exact Classical.not_not.1 this
  rw[wd c]at a;exact T126.Ar (p::r) x h64 hl nx d r 1 p rfl af (by rw[zj];omega) rfl e f g a
theorem pJ:CE Oo:=Aa T81.ok<|Aa T74.ok<|Aa T30.ok Ay
theorem WE{n:Int}(h:0<=n/\n<=10):yc 2 (CT n 10) ((n:Rat)/10):=by
 have e:Rat.divInt n 10=(n:Rat)/10:=by rw[Rat.divInt_eq_div];rfl
 exact⟨by unfold CT;rw[e],(LY h).z⟩
namespace T128
def step(ws:List AW)(o:EB)(v:Bx):Bx:=match ws.find? fun w=>decide (w.1=o.1)with
 |some w=>B5 v<|EH w.2<|CT o.2 10
 |none=>v
theorem skip{v:Bx}{s:Bn}{lv:Bm}{i:Nat}{o:EB}(p:i<s.2.2.2.2.length)(g:s.2.2.2.2.getD i ([],0)=o)(a:lv.2.2.2.2.length<=16)(f:Ends Oo (L2 v s lv<|zg .i64<|(i:Int)+1) Q):∀(r:List AW) (k:Nat),lv.2.2.2.2.drop k=r->k<=lv.2.2.2.2.length->(∀w∈r,w.1≠o.1)->Ends Oo (L3 v s lv (i:Int) (k:Int)) Q
 |[],k,h,e,b=>by
  have:=drop_nil h e;exact zd (Bq ..) (zk (w8 ae) f)
 |w::r,k,h,e,b=>by
  obtain⟨u,q,y⟩:=drop_cons (d:=(([],[]):AW)) h;have j:=wn (i:=k) ae;have n:=b w<|zi ..;refine zd (Bq ..) ?_;conv=>zeta
  rw[zf,zf,q,g,j];exact zc (w4 ae) (zc (Lx ae) (zc (Lx ae)<|zk (by simpa using n)<|skip p g a f r (k+1) y u fun x m=>b x<|ya _ m))
set_option maxRecDepth 100000 in
theorem inner{v:Bx}{s:Bn}{lv:Bm}{i K:Nat}{o:EB}{q:Rat}(n:i<s.2.2.2.2.length)(f:s.2.2.2.2.getD i ([],0)=o)(C:0<=o.2/\o.2<=10)(u:yc K v q)(F:K<=1990)(a:lv.2.2.2.2.length<=16)(y:∀w∈lv.2.2.2.2,yc 20 w.2<|As w.2):∀(r:List AW) (k:Nat),lv.2.2.2.2.drop k=r->k<=lv.2.2.2.2.length->(r.map Prod.fst).Nodup->Ends Oo (L2 (step r o v) s lv<|zg .i64<|(i:Int)+1) Q->Ends Oo (L3 v s lv (i:Int) (k:Int)) Q
 |[],k,h,p,g,b=>skip n f a b [] k h p fun x j=>by cases j
 |w::r,k,h,p,g,b=>by
  obtain⟨D,B,E⟩:=drop_cons (d:=(([],[]):AW)) h;have z:=wn (i:=k) ae;have A:=y w (zn<|by rw[h];exact zi ..);rw[yy,List.nodup_cons]at g;by_cases c:w.1=o.1
  ·have es:step (w::r) o v=B5 v (EH w.2<|CT o.2 10):=by
    unfold step;rw[yk,w4 c]
   rw[es]at b;have t:=WE C;have m:=A.EH t;have n1:Ct o.2=true:=ad ae ae;refine zd (Bq ..) ?_;conv=>zeta
   rw[zf,zf,B,f,z];refine zc (w4 ae) (zc (Lx ae)<|zc (Lx ae)<|zc (by simpa using c)<|zc (Lx ae) (zc (Lx ae)<|zc (Ab (Ab n1 rfl) rfl)<|zc (Ab (A.num af)<|t.num af)<|zc (Ab (u.num ae)<|m.num af) ?_));exact skip n f a b r (k+1) E D fun x j e=>g.1 (by rw[c, <-e];exact y9.2 ⟨x,j,rfl⟩)
  ·have es:step (w::r) o v=step r o v:=by
    unfold step;rw[yk,w8 c]
   rw[es]at b;refine zd (Bq ..) ?_;conv=>zeta
   rw[zf,zf,B,f,z];exact zc (w4 ae) (zc (Lx ae)<|zc (Lx ae)<|zk (by simpa using c)<|inner n f C u F a y r (k+1) E D g.2 b)
theorem zX{ws:List AW}(e:∀w∈ws,yc 20 w.2<|As w.2){o:EB}(d:0<=o.2/\o.2<=10){K:Nat}{v:Bx}{q:Rat}(a:yc K v q):yc (K+23) (step ws o v) (q+Sp.lookW ws o.1*((o.2:Rat)/10)):=by
 unfold step;rw[Kf];cases b:ws.find? fun w=>decide (w.1=o.1)with
 |none=>
  show yc _ v<|q+0*_;rw[Rat.zero_mul,yi];exact a.mono ae
 |some w=>
  exact(a.B5<|(e w<|yd b).EH<|WE d).mono ae
theorem outer{s:Bn}{lv:Bm}(k:s.2.2.2.2.length<=16)(a:lv.2.2.2.2.length<=16)(g:∀w∈lv.2.2.2.2,yc 20 w.2<|As w.2)(b:(lv.2.2.2.2.map Prod.fst).Nodup)(p:∀o∈s.2.2.2.2,0<=o.2/\o.2<=10)(F:Rat)(j:∀ob,Q (.dat .str<|AH F) ob):∀(r:List EB) (i K:Nat) (v:Bx) (q:Rat),s.2.2.2.2.drop i=r->i<=s.2.2.2.2.length->yc K v q->K+23*r.length<=1990->q+Sp.obV lv.2.2.2.2 r=F->Ends Oo (L2 v s lv (i:Int)) Q
 |[],i,K,v,q,h,n,f,m,e=>by
  have:=drop_nil h n;have e:q+0=F:=e;rw[yi]at e;rw[<-e, <-f.t]at j;exact zd (Az ..) (zk (w8 ae)<|ze<|j _)
 |o::r,i,K,v,q,h,n,f,m,e=>by
  obtain⟨x,z,A⟩:=drop_cons (d:=(([],0):EB)) h;have y:=wn (i:=i) ae;have u:=p o (zn<|by rw[h];exact zi ..);rw[zj]at m;rw[P8, <-ye]at e;have nx:=outer k a g b p F j r (i+1) _ _ _ A x (zX g u f) ae e;rw[<-y]at nx;exact zd (Az ..) (zc (w4 ae) (inner x z u f ae a g lv.2.2.2.2 0 rfl (z6 _) b nx))
theorem ok:Af A4 128 Aeo:=by
 refine BD pJ<|fun(i:AF×Int×Int) hi=>?_;obtain⟨c,h,l⟩:=i;obtain⟨L,h0,S,_⟩:=MU (c:=c) (h:=h) (l:=l) hi;refine zp (Aj c h l)<|zc (Lx h0)<|zc (Lx L.l0)<|zd (Ak ..) ?_;exact outer (s:=BH c h) (lv:=CW c l) S.len L.lv.wlen (fun w a=>GD (L.lv.wts w a).1 (L.ls.wts w a).2) L.lv.one S.obs (tL c h l) (fun ob=>zq rfl rfl rfl) (BH c h).2.2.2.2 0 1 [48] 0 rfl (z6 _) LO (by have:=S.len;omega) (yh _)
end T128
theorem sY:CE Ab4:=Aa T126.okW<|Aa T127.ok<|Aa T128.ok<|Aa T30.ok Ay
theorem T62.ok:Af A4 62 AeI:=by
 refine BD sY<|fun(i:AF×Int×Int×Int) hi=>?_;obtain⟨c,t,h,l⟩:=i;obtain⟨P,L,kp,ko,h0,n0⟩:=Qw (c:=c) (t:=t) (h:=h) (l:=l) hi;have b:=qB (c:=c) (t:=t) (h:=h) (l:=l) hi;have v:=qT b af L.lv.tab L.ls.tab;have o:=XE ko;have a:yc 194 (Sp.efR c t h l) (R3 c t h l):=⟨rfl,b.z⟩;have no:yc 369 (Sp.obR c h l) (tL c h l):=⟨rfl,o.z⟩;have d:yc (194+145) (lV (CW c l).2.2.2.1<|Sp.efR c t h l) (OC none (Adh (CW c l).2.2.2.1)<|R3 c t h l):=⟨by unfold lV LI;rw[a.rat];rfl,v.z⟩;have lp:GQ 100 (CW c l).2.2.2.1=true:=by
  unfold GQ;rw[zt];intro p hp;have:=L.ls.tab p hp;exact ad ae ae
 have ev:Yt (CW c l).2.2.2.1 (Sp.efR c t h l)=0:=by
  unfold Yt;rw[wc<|by rw[L.lv.tab];decide];exact a.check af
 have tl:=L.ls.tl;refine zp (T62.Aj c t h l) (zd (T62.Ak ..)<|zc (Lx L.l0) (zc hi<|zc (Ab (Ab (w4<|show(CW c l).2.2.2.1.length<=1000 by omega) lp)<|w4 ev)<|zc ko<|zc (Ab (d.num af)<|no.num af)<|ze<|zq rfl rfl ?_));exact(d.B5 no).t
theorem cK{k:Nat}{f:Ae}{q:Rat}(h:RS k f q)(a:k<=600):Kv f=AH q/\IM f=0:=by
 have e:=kW h (e:=0) rfl;have o:=Sp.Nu.op h.z a;exact⟨(wi Prod.fst e).trans o.1.t,(wi Prod.snd e).trans o.2⟩
theorem Uz{c:AF}(h:c.1.length<=6):zg .i64 (Int.tdiv (c.1.length:Int) 2)=((N7 c:Nat):Int):=by
 have e:Int.tdiv (c.1.length:Int) 2=((N7 c:Nat):Int):=rfl;rw[e];exact wr _ ae (by unfold N7;omega)
theorem rI:CE Nc:=Aa T52.ok<|Aa T53.ok<|Aa T51.ok<|Aa T54.ok<|Aa T70.ok<|Aa T57.ok<|Aa yz<|Aa T60.ok Ay
namespace T14
variable {Q:PV->Ob->Prop}{o:List (Int×Int)}{c:AF}{t l:Int}
theorem fin{A B:Ae}(a:RS 400 A (tZ c t l))(b:RS 400 B (y7 c t l))(f:∀ob,Q (.tup [.dat .str<|AH<|tZ c t l,.dat .str<|AH<|y7 c t l,.dat i64 0]) ob):Ends Nc (L2 c t l (c.1.length:Int) (c.1.length:Int) l t c.1 c.2.1 c.2.2 A.1.1 A.1.2 A.2.1 A.2.2 B.1.1 B.1.2 B.2.1 B.2.2 o c.1 c.2.1 c.2.2) Q:=by
 obtain⟨a1,a2⟩:=cK a af;obtain⟨d,e⟩:=cK b af;have a1:Kv ((A.1.1,A.1.2),A.2.1,A.2.2)=_:=a1;have a2:IM ((A.1.1,A.1.2),A.2.1,A.2.2)=_:=a2;have d:Kv ((B.1.1,B.1.2),B.2.1,B.2.2)=_:=d;have e:IM ((B.1.1,B.1.2),B.2.1,B.2.2)=_:=e;refine zd (Az ..) (zk (w8 ae) ?_);rw[a1,a2,d,e];exact zc rfl (zc (a.Ch af)<|zc rfl (zc (b.Ch af)<|zc rfl (zk rfl (ze<|f _))))
theorem C1(h:Lq c t l=true){A:Ae}(a:RS 400 A (tZ c t l))(d:∀ob,Q (.tup [.dat .str<|AH<|tZ c t l,.dat .str<|AH<|y7 c t l,.dat i64 0]) ob):∀(k i K:Nat) (f:Ae) (q:Rat),i+k=c.1.length->N7 c<=i->RS K f q->K+123*k<=400->q+VV c t l i k=y7 c t l->Ends Nc (L2 c t l (c.1.length:Int) (i:Int) l t c.1 c.2.1 c.2.2 A.1.1 A.1.2 A.2.1 A.2.2 f.1.1 f.1.2 f.2.1 f.2.2 o c.1 c.2.1 c.2.2) Q
 |0,i,K,f,q,m,_,b,g,e=>by
  have e:q+0=y7 c t l:=e;rw[yi]at e;rw[e]at b;rw[show i=c.1.length by omega];exact fin a (b.mono ae) d
 |k+1,i,K,f,q,m,p,b,g,e=>by
  have n:=Fi h;have j:=wn (i:=i) ae;have r:=Uu h (i:=i) ae;have e:q+(Jx c t (i:Int) l+VV c t l (i+1) k)=y7 c t l:=e;rw[<-ye]at e;refine zd (Az ..) ?_;conv=>zeta
  rw[j,Uz n];exact zc (w4 ae) (zc (SN h ae) (zc rfl (zc (w4 ae)<|zc rfl (zc (b.Ph r ae af)<|zc rfl (C1 h a d k (i+1) _ (B0 f<|dY c t (i:Int) l) _ ae ae (b.add r ae af) ae e)))))
theorem Dc(h:Lq c t l=true)(b:∀ob,Q (.tup [.dat .str<|AH<|tZ c t l,.dat .str<|AH<|y7 c t l,.dat i64 0]) ob):∀(k i K:Nat) (f:Ae) (q:Rat),i+k=N7 c->RS K f q->K+123*k<=400->q+VV c t l i k=tZ c t l->Ends Nc (L2 c t l (c.1.length:Int) (i:Int) l t c.1 c.2.1 c.2.2 f.1.1 f.1.2 f.2.1 f.2.2 0 (BL 0) 1 (BL 1) o c.1 c.2.1 c.2.2) Q
 |0,i,K,f,q,j,a,d,e=>by
  have n:=Fi h;have e:q+0=tZ c t l:=e;rw[yi]at e;rw[e]at a;have m:N7 c<=c.1.length:=yt ..;have p:c.1.length-N7 c<=3:=by unfold N7;omega
  rw[show i=N7 c by omega];exact C1 h (a.mono ae) b (c.1.length-N7 c) _ 1 yw 0 ae (yu _) Gb ae<|yh _
 |k+1,i,K,f,q,j,a,d,e=>by
  have n:=Fi h;have m:N7 c<=c.1.length:=yt ..;have g:=wn (i:=i) ae;have r:=Uu h (i:=i) ae;have e:q+(Jx c t (i:Int) l+VV c t l (i+1) k)=tZ c t l:=e;rw[<-ye]at e;refine zd (Az ..) ?_;conv=>zeta
  rw[g,Uz n];exact zc (w4 ae) (zc (SN h ae) (zc rfl (zk (w8 ae)<|zc rfl (zc (a.Ph r ae af)<|zc rfl (Dc h b k (i+1) _ (B0 f<|dY c t (i:Int) l) _ ae (a.add r ae af) ae e)))))
theorem ok:Af A4 14 oI:=by
 refine BD rI<|fun(i:AF×Int×Int) hi=>?_;obtain⟨c,t,l⟩:=i;obtain⟨sh,ok⟩:=OU (c:=c) hi;refine zp (Aj c t l) ?_;conv=>zeta
 rw[Adp];refine zc rfl (zc rfl (zc (Ab rfl (Ab sh rfl))<|zu (fun k=>ze<|zq rfl rfl ?_)<|fun k=>zc rfl (zc rfl ?_)))
 ·have k:Em c t l≠0:=by simpa using k
  show(([]:Bx),([]:Bx),Em c t l)=(Zp c t l,Yk c t l,Em c t l);unfold Zp Yk;rw[wd k,wd k]
 ·have k:Em c t l=0:=by simpa using k
  have h:=ok t l k;have n:=Fi h;have e:∀(a b:Int) (o:List (Int×Int)) (f:List Bn) (g:List B3) (d:List Bm),L1 c t l a b l t f g d 0 (BL 0) 1 (BL 1) 0 (BL 0) 1 (BL 1) o f g d=L2 c t l a b l t f g d 0 (BL 0) 1 (BL 1) 0 (BL 0) 1 (BL 1) o f g d:=fun a b o f g d=>by kernel_rfl
  rw[e];refine Dc h (fun ob=>zq rfl rfl ?_) (N7 c) 0 1 yw 0 (Nat.zero_add _) Gb (by unfold N7;omega)<|yh _;show(AH<|tZ c t l,AH<|y7 c t l,(0:Int))=(Zp c t l,Yk c t l,Em c t l);unfold Zp Yk;rw[wc<|fun x=>x k,wc<|fun x=>x k,k]
end T14
theorem sS:CE yT:=Aa T62.ok<|Aa T30.ok Ay
namespace T18
theorem loop{Q:PV->Ob->Prop}{c:AF}{t l:Int}(h:Lq c t l=true){m:Nat}(j:m<=c.1.length)(F:Rat)(b:∀ob,Q (.dat .str<|AH F) ob):∀(k i K:Nat) (s:Bx) (q:Rat),i+k=m->yc K s q->K+123*k<=1000->q+VV c t l i k=F->Ends yT (L1 t l (m:Int) s (i:Int) c.1 c.2.1 c.2.2) Q
 |0,i,K,s,q,g,a,d,e=>by
  have e:q+0=F:=e;rw[yi]at e;rw[<-e, <-a.t]at b;exact zd (Ak ..) (zk (w8 ae)<|ze<|b _)
 |k+1,i,K,s,q,g,a,d,e=>by
  have n:=Fi h;have f:=wn (i:=i) ae;have r:yc 122 (Sp.hoR c t (i:Int) l) (Jx c t (i:Int) l):=⟨rfl,Abp h ae⟩;have e:q+(Jx c t (i:Int) l+VV c t l (i+1) k)=F:=e;rw[<-ye]at e;refine zd (Ak ..) ?_;conv=>zeta
  rw[f];exact zc (w4 ae) (zc (SN h ae) (zc (Ab (a.num ae)<|r.num af) (loop h j F b k (i+1) _ _ _ ae (a.B5 r) ae e)))
theorem ok:Af A4 18 qI:=by
 refine BD sS<|fun(i:AF×Int×Int×Int×Int) a=>?_;obtain⟨c,t,l,i,k⟩:=i;have a:(Lq c t l&&Uw c i k)=true:=a;unfold Uw at a;simp only[zh,w5]at a;obtain⟨h,⟨h0,h1⟩,h2⟩:=a;have n:=Fi h;obtain⟨i,rfl⟩:∃j:Nat,i=(j:Int):=⟨i.toNat,by omega⟩;obtain⟨k,rfl⟩:∃j:Nat,k=(j:Int):=⟨k.toNat,by omega⟩;refine zp (Aj c t l i k) (loop h (m:=k) ae (VV c t l i<|k-i) (fun ob=>zq rfl rfl ?_) (k-i) i 1 [48] 0 ae LO ae<|yh _);show AH _=AH (VV c t l (i:Int).toNat ((k:Int)-(i:Int)).toNat);rw[show((k:Int)-(i:Int)).toNat=k-i by omega];rfl
end T18
theorem jI:CE AfE:=Aa T18.ok Ay
theorem T19.ok:Af A4 19 AcP:=by
 refine BD jI<|fun(i:AF×Int×Int) a=>?_;obtain⟨c,t,l⟩:=i;have a:Lq c t l=true:=a;have p:Uw c 0 (c.1.length:Int)=true:=Ab (Ab rfl (w4 ae))<|w4<|Int.le_refl _;refine zp (T19.Aj c t l)<|zc (Ab a p)<|ze<|zq rfl rfl ?_;show AH (VV c t l 0 ((c.1.length:Int)-0).toNat)=AH (VV c t l 0 c.1.length);rw[show((c.1.length:Int)-0).toNat=c.1.length by omega]
theorem tX:CE Ae1:=Aa T130.ok<|Aa T30.ok<|Aa T129.ok<|Aa T74.ok Ay
theorem T63.ok:Af A4 63 bP:=by
 refine BD tX<|fun(i:Z×Z) b=>?_;obtain⟨a,u⟩:=i;have b:(A2 a&&VZ u&&A2 (FD a u)&&A2 (B5 (FD a u) [49,47,50])&&A2 (GA<|B5 (FD a u) [49,47,50]))=true:=b;simp only[zh]at b;obtain⟨⟨⟨⟨h1,h2⟩,h3⟩,h4⟩,h5⟩:=b;exact zp (T63.Aj a u) (zc (Ab h1 h2)<|zc (Ab h3<|Tk.num af)<|zc h4<|zc (Ab h5 (H8 (XF h2).1).1)<|ze<|zq rfl rfl rfl)
theorem pO:CE Afo:=Aa T19.ok<|Aa T63.ok Ay
theorem T20.ok:Af A4 20 AeD:=by
 refine BD pO<|fun(i:AF×Int×Int) d=>?_;obtain⟨c,t,l⟩:=i;have d:Lq c t l=true:=d;have x:yc 740 (Sp.exR c t l) (Sp.exQ c t l):=⟨rfl,(Zk d).z⟩;obtain⟨a,b⟩:=AdR x af;exact zp (T20.Aj c t l)<|zc d<|zc a<|ze<|zq rfl rfl b
theorem oL:CE Qh:=Aa nV<|Aa T7.ok<|Aa T9.ok<|Aa T10.ok<|Aa T11.ok<|Aa T12.ok<|Aa T13.ok<|Aa T14.ok<|Aa T16.ok<|Aa T15.ok<|Aa T17.ok<|Aa T18.ok<|Aa T19.ok<|Aa T20.ok Ay
abbrev N0:Am:=NG
namespace T3
variable {Q:PV->Ob->Prop}{c:AF}{t h l:Int}
theorem bad{e:Int}(b:e≠0)(a:Em c t l=e)(d:∀ob,Q (.dat .bool true) ob):Ends Qh (L3 c (t,h,l) c e (iI c t l) (iE c t l) (iJ c t l) (iA c t l) (Zp c t l) (Yk c t l)<|Em c t l) Q:=by
 have t1:FZ (iI c t l) (iE c t l) [] e=true:=by
  unfold iI iE;rw[a];exact Wu b _ _
 have t2:FZ (iJ c t l) (iA c t l) [] e=true:=by
  unfold iJ iA;rw[a];exact Wu b _ _
 have n1:(Zp c t l==[])=true:=by
  unfold Zp;rw[wd<|by rw[a];exact b];rfl
 have f:(Yk c t l==[])=true:=by
  unfold Yk;rw[wd<|by rw[a];exact b];rfl
 refine zd (Bq ..) (zc (by simpa using b)<|zc rfl (zc t1<|zc rfl (zc t2<|zc n1<|zc f<|ze ?_)));rw[a,beq_self_eq_true];exact d _
theorem Ahy(k:Em c t l=0)(ok:Lq c t l=true)(a:∀ob,Q (.dat .bool true) ob):Ends Qh (L3 c (t,h,l) c 0 (iI c t l) (iE c t l) (iJ c t l) (iA c t l) (Zp c t l) (Yk c t l)<|Em c t l) Q:=by
 have n:=Fi ok;have f:N7 c<=c.1.length:=yt ..;have x:=Zk ok;have t1:FZ (iI c t l) (iE c t l) (Sp.exR c t l) 0=true:=by
  unfold iI iE;rw[k];exact cN _
 have t2:FZ (iJ c t l) (iA c t l) (Sp.raR c t l) 0=true:=by
  unfold iJ iA;rw[k];exact cN _
 have n1:(Zp c t l==wO c t l 0 (N7 c:Int))=true:=by
  unfold Zp wO;rw[wc (by rw[k];decide),show((N7 c:Int)-0).toNat=N7 c by omega];exact beq_self_eq_true _
 have d:(Yk c t l==wO c t l (N7 c:Int) (c.1.length:Int))=true:=by
  unfold Yk wO;rw[wc (by rw[k];decide),show((c.1.length:Int)-(N7 c:Int)).toNat=c.1.length-N7 c by omega];exact beq_self_eq_true _
 have e:Uw c 0 (N7 c:Int)=true:=Ab (Ab rfl (w4 ae)) (w4 ae);have b:Uw c (N7 c:Int) (c.1.length:Int)=true:=Ab (ad ae ae)<|w4<|Int.le_refl _;refine zd (Bq ..) ?_;conv=>zeta
 rw[Uz n];refine zk rfl (zc rfl (zc rfl (zc (Ab ok e)<|zc (Ab ok b)<|zc ok<|zc (w4<|P1 x.z af)<|zc t1<|zc ok<|zc (w4<|P1 (AbJ x.z) af)<|zc t2<|zc (by rw[k];rfl)<|zc n1<|ze ?_)));rw[show(Yk c t l==wO c (t,h,l).1 (t,h,l).2.2 (N7 c:Int) (c.1.length:Int))=true from d];exact a _
theorem ok:Af A4 3 N0:=by
 refine BD oL<|fun(i:AF×Int×Int×Int) n=>?_;obtain⟨c,t,h,l⟩:=i;have n:(Sp.smC c&&c.2.1.all Wd)=true:=n;rw[zh]at n;obtain⟨hc,hT⟩:=n;have j:∀ob,Ac NG (c,(t,h,l)) (.dat .bool true) ob:=fun ob=>zq rfl rfl rfl
 have m:∀ob,Ac NG (c,(t,h,l)) (.bl true) ob:=fun ob=>zq rfl rfl rfl
 refine zp (Aj c (t,h,l))<|zc hc<|zd (Ak ..)<|zc rfl (zk rfl (zc rfl (zu (fun _=>zc rfl (ze<|j _))<|fun s=>?_)));have s:IS c=true:=by
  have s:(!IS c)=false:=s;simpa using s
 refine zc s<|zu (fun k=>zc (Ab rfl hT)<|zu (fun _=>ze<|m _)<|fun f=>?_)<|fun k=>?_
 ·have f:(!Xr c 6 4)=false:=f;have f:Xr c 6 4=true:=by simpa using f
  have d:RZ c=true:=Ab s (by rw[f,Bool.or_true]);have g:NX c=0:=by simpa using k
  have p:∀b:Bool,b=true->JG c b=10:=fun b m=>by rw[m];unfold JG;rw[wc<|by rw[g];decide];rfl
  have q:∀b:Bool,b=false->JG c b=0:=fun b m=>by rw[m];unfold JG;rw[wc<|by rw[g];decide];rfl
  refine zd (Az ..)<|zc d<|zc d<|zc d<|zc k<|zc rfl (zu (fun a=>zc rfl ?_)<|fun a=>zc rfl (zc rfl ?_))
  ·have a:VP c t=true:=a;exact bad (e:=10) af (p _<|by rw[a];rfl) j
  ·have a:VP c t=false:=a;by_cases b:Ox c l=true
   ·have e:Cv (Ox c l) 10=10:=by rw[b];rfl
    show Ends Qh (L3 c (t,h,l) c (Cv (Ox c l) 10) (iI c t l) (iE c t l) (iJ c t l) (iA c t l) (Zp c t l) (Yk c t l)<|Em c t l) _;rw[e];exact bad af (p _<|by rw[a,b];rfl) j
   ·have b:Ox c l=false:=by simpa using b
    have e:Cv (Ox c l) 10=0:=by rw[b];rfl
    show Ends Qh (L3 c (t,h,l) c (Cv (Ox c l) 10) (iI c t l) (iE c t l) (iJ c t l) (iA c t l) (Zp c t l) (Yk c t l)<|Em c t l) _;rw[e];have z:Em c t l=0:=q _ (by rw[a,b];rfl);exact Ahy z ((OU d).2 t l z) j
 ·have g:NX c≠0:=by simpa using k
  have d:RZ c=true:=Ab s (by rw[w4 g,Bool.true_or]);exact zd (Az ..) (zc d<|zc d<|zc d<|zk k<|bad g (by unfold Em JG;rw[wd g]) j)
end T3
end Go.Pe
namespace Go.Det
open Go.ChangeShapes Go.WideShapes Go.RowKit
theorem Cr{α m:Type}{f g:α->Option m}:∀ {l:List α} {d:List m},l.mapM f=some d->(∀a∈l,∀y∈d,f a=some y->g a=some y)->l.mapM g=some d
 |[],d,h,_=>by simpa using h
 |a::l,d,h,k=>by
  rw[List.mapM_cons]at h ⊢;cases i:f a with
  |none=>rw[i]at h;cases h
  |some y=>
   rw[i]at h;cases e:l.mapM f with
   |none=>rw[e]at h;cases h
   |some q=>
    rw[e]at h;cases h;rw[k a (by simp) y (by simp) i,Cr e<|fun b n z p j=>k b (by simp[n]) z (by simp[p]) j];rfl
def kP(P:Program)(L:List TypeId)(t:TypeId):Bool:=match P.underlying t with
 |some (.pointer e)|some (.array _ e)|some (.map _ e)=>L.contains e
 |some (.slice e)=>L.contains e&&Nat.ble 1 (P.cellsOf e)
 |some (.struct fs)=>fs.toList.all fun f=>L.contains f.type
 |_=>true
def Mx(P:Program)(L:List TypeId):Bool:=L.all<|kP P L
section
variable {H:Type}{enc:TypeId×Value->H}{P:Program}{W W':World}
theorem zI{L:List TypeId}(h:Mx P L=true){t:TypeId}(a:t∈L):kP P L t=true:=zt.1 h t a
theorem YQ(d:Below W.heap.size W W'){a:Addr}{v:Value}(h:W.cell? a=some v):W'.cell? a=some v:=by
 have e:a.block<W.heap.size:=by
  unfold yv at h;by_cases b:a.block<W.heap.size
  ·exact b
  ·rw[z7 ae]at h;cases h
 unfold yv at h ⊢;rw[d.block _ e];exact h
theorem WW(d:Below W.heap.size W W'){a:Addr}{n:Nat}{cs:List Value}(h:W.cells? 0 a n=some cs):W'.cells? 0 a n=some cs:=by
 unfold World.cells? at h ⊢;rw[wd<|z6 _]at h ⊢;exact Cr h fun i _ v _ b=>YQ d b
theorem HJ(i:Below W.heap.size W W'){e:Type}{a:Addr}{n:Nat}{f g:List Value->Option e}{y:e}(h:(W.cells? 0 a n).bind f=some y)(d:∀cs,f cs=some y->g cs=some y):(W'.cells? 0 a n).bind g=some y:=by
 cases b:W.cells? 0 a n with
 |none=>rw[b]at h;cases h
 |some cs=>
  rw[b]at h;rw[WW i b];exact d cs h
theorem QE(F:Below W.heap.size W W'){L:List TypeId}(R:Mx P L=true){sp:Nat->Bool}:∀(fuel:Nat) (t:TypeId) (cs:List Value) (x:DataW H×List MemPlace),t∈L->
  zw enc P W 0 (fun _=>true) true fuel t cs=some x->(∀p∈x.2,sp p.block=true)->zw enc P W' 0 sp true fuel t cs=some x
 |0,_,_,_,_,h,_=>by cases h
 |fuel+1,t,cs,x,ht,h,C=>by
  have E:=QE F R (sp:=sp) fuel;have m:=zI R ht;unfold kP at m;unfold zw at h ⊢;split at h<;>try simp only[reduceCtorEq]at h
  all_goals try exact h
  case h_6 e a w=>
   have d:e∈L:=by rw[w]at m;simpa using m
   cases N:(W.cells? 0 a<|P.cellsOf e).bind (zw enc P W 0 (fun _=>true) true fuel e)with
   |none=>rw[N]at h;cases h
   |some y=>
    rw[N]at h;cases h;rw[HJ F N (g:=zw enc P W' 0 sp true fuel e)<|fun cs s=>E e cs y d s<|fun p hp=>C p<|by simp[hp]];rfl
  case h_8 e a len cap w=>
   have d:e∈L/\P.cellsOf e≠0:=by
    rw[w]at m;simp only[zh,List.contains_iff_mem]at m;have:=Nat.le_of_ble_eq_true m.2;exact⟨m.1,by omega⟩
   by_cases s:0<=a.block/\len<=cap/\cap<=maxLen
   ·rw[wd s]at h ⊢;have step:∀(i:Nat) (y:DataW H×List MemPlace),(W.cells? 0 (a.add<|i*P.cellsOf e)<|P.cellsOf e).bind (zw enc P W 0 (fun _=>true) true fuel e)=some y->(∀p∈y.2,sp p.block=true)->
      (W'.cells? 0 (a.add<|i*P.cellsOf e)<|P.cellsOf e).bind (zw enc P W' 0 sp true fuel e)=some y:=fun i y v hp=>HJ F v fun cs s=>E e cs y d.1 s hp
    cases r:(y8 len).mapM (fun i=>(W.cells? 0 (a.add<|i*P.cellsOf e)<|P.cellsOf e).bind<|zw enc P W 0 (fun _=>true) true fuel e)with
    |none=>rw[r]at h;cases h
    |some D=>
     rw[r]at h;simp only[wk,zz]at h;cases J:(y8<|cap-len).mapM (fun j=>(W.cells? 0 (a.add<|(len+j)*P.cellsOf e)<|P.cellsOf e).bind<|zw enc P W 0 (fun _=>true) true fuel e)with
     |none=>rw[J]at h;cases h
     |some K=>
      rw[J]at h;cases h;rw[Cr r fun i _ y v X=>step i y X fun p hp=>C p<|yj _<|yb.2 ⟨y,List.mem_append_left _ v,hp⟩];have O:=Cr J fun j _ y v U=>step (len+j) y U fun p hp=>C p<|yj _<|yb.2 ⟨y,yj _ v,hp⟩
      by_cases B:sp a.block=true
      ·simp only[B,wk,zz];rw[O];rfl
      ·have e0:(D.length+K.length)*P.cellsOf e=0:=by
        rcases Nat.eq_zero_or_pos ((D.length+K.length)*P.cellsOf e)with h0|h0
        ·exact h0
        ·refine wh (C (.cell a.block<|a.off+0)<|List.mem_append_left _ ?_) B;simp only[MemPlace.row,y9,List.mem_range];exact⟨0,h0,rfl⟩
       have T:K=[]:=by
        rcases Nat.mul_eq_zero.1 e0 with h0|h0
        ·exact List.length_eq_zero_iff.1 ae
        ·exact wh h0 d.2
       subst T;simp only[B,zz];rfl
   ·rw[wc s]at h;cases h
  case h_9 cs _ _ fs w=>
   have d:∀f∈fs.toList,f.type∈L:=by
    rw[w]at m;intro f q;have:=zt.1 m f q;simpa using this
   by_cases s:cs.length=P.cellsOf t
   ·rw[wd s]at h ⊢;cases r:fs.toList.mapM (fun f=>zw enc P W 0 (fun _=>true) true fuel f.type<|(cs.drop f.offset).take<|P.cellsOf f.type)with
    |none=>rw[r]at h;cases h
    |some D=>
     rw[r]at h;cases h;rw[Cr r fun f G y v q=>E _ _ y (d f G) q fun p hp=>C p<|yb.2 ⟨y,v,hp⟩];rfl
   ·rw[wc s]at h;cases h
  case h_10 cs _ _ n e w=>
   have d:e∈L:=by rw[w]at m;simpa using m
   by_cases s:cs.length=P.cellsOf t
   ·rw[wd s]at h ⊢;cases r:(y8 n).mapM (fun i=>zw enc P W 0 (fun _=>true) true fuel e<|(cs.drop<|i*P.cellsOf e).take<|P.cellsOf e)with
    |none=>rw[r]at h;cases h
    |some D=>
     rw[r]at h;cases h;rw[Cr r fun f _ y v q=>E _ _ y d q fun p hp=>C p<|yb.2 ⟨y,v,hp⟩];rfl
   ·rw[wc s]at h;cases h
  case h_14 k e b w=>
   have d:e∈L:=by rw[w]at m;simpa using m
   have V:b<W.heap.size:=by
    by_cases Y:b<W.heap.size
    ·exact Y
    ·rw[z7 ae]at h;cases h
   rw[F.block _ V];split at h
   case h_2=>cases h
   rename_i es clock Z;simp only;split at h
   case isFalse=>cases h
   rename_i z;rw[wd z];cases r:(es.toList.mapM fun x=>(keyOf P k x.key).bind fun key=>if x.val.formed P e then(zw enc P W 0 (fun _=>true) true fuel e x.val.cells.toList).map fun y=>((key,y.1),y.2)else none)with
   |none=>rw[r]at h;cases h
   |some D=>
    rw[r]at h;simp only[zz]at h;split at h
    case isFalse=>cases h
    rename_i M;cases h;rw[Cr r fun S _ y v q=>?_]
    ·simp only[zz];rw[wd M]
    ·cases m:keyOf P k S.key with
     |none=>rw[m]at q;cases q
     |some key=>
      rw[m]at q;simp only[zz]at q ⊢;split at q
      case isFalse=>cases q
      rename_i I;rw[wd I];cases A:zw enc P W 0 (fun _=>true) true fuel e S.val.cells.toList with
      |none=>rw[A]at q;cases q
      |some u=>
       rw[A]at q;cases q;rw[E _ _ u d A fun p hp=>C p<|by simp only[List.mem_cons,yb];exact .inr ⟨_,v,hp⟩];rfl
theorem YZ(g:Below W.heap.size W W'){L:List TypeId}(i:Mx P L=true){sp:Nat->Bool}{t:TypeId}{v:Value}{d:DataW H}{p:List MemPlace}
  (e:t∈L) (h:DataW.Trod enc P W 0 (fun _=>true) true t v d p) (f:∀q∈p,sp q.block=true):DataW.Trod enc P W' 0 sp true t v d p:=by
 obtain⟨a,b⟩:=h;exact⟨a,QE g i a t _ _ e b f⟩
theorem Hq(i:Below W.heap.size W W'){L:List TypeId}(j:Mx P L=true){sp:Nat->Bool}:∀ {ts:List TypeId} {vs:List Value} {ds:List (DataW H)} {p:List MemPlace},(∀t∈ts,t∈L)->
  yn enc P W 0 (fun _=>true) true ts vs ds p->(∀q∈p,sp q.block=true)->yn enc P W' 0 sp true ts vs ds p
 |[],vs,ds,p,_,h,_=>by
  obtain⟨rfl,rfl,rfl⟩:=trodAll_nil h;rfl
 |t::ts,vs,ds,p,g,h,f=>by
  obtain⟨v,n,d,m,a,b,rfl,rfl,rfl,k,s⟩:=trodAll_cons h;exact⟨a,b,YZ i j (g t<|by simp) k (fun q e=>f q<|by simp[e]),Hq i j (fun u r=>g u<|by simp[r]) s (fun q e=>f q (by simp[e])),rfl⟩
theorem eX{f:Func}{s:ChangeSpec}{apart fresh d u:Bool}{args:Array Value}{ds K:List (DataW H)}{g:List MemPlace}{tb:TypeId}
  (hW:DataW.Whole enc P f.params.toList s.vars apart W args.toList ds K g) (F:s.vars=[]) (hr:f.resultTypes= #[tb]) (B:P.underlying tb=some .bool)
  (a:s.fn H ds={ results:=[.lit<|.bool true],args:=ds }) (A:Below W.heap.size W W') {L:List TypeId} (G:Mx P L=true) (z:f.params.toList.all L.contains=true):
  s.post enc P f apart fresh d u W args (.bool true) W':=by
 have n:=hW.lt;have z:∀t∈f.params.toList,t∈L:=fun t B=>by have:=zt.1 z t B;simpa using this
 obtain⟨p,q,D,J,rfl,m,k⟩:=hW;have y:=J;rw[F]at y;obtain⟨rfl,rfl⟩:=trodVars_none y;simp only[yr]at n m k ⊢;have w:∀x∈p,(fun b=>decide (b<W.heap.size)) x.block=true:=fun x v=>by simpa using n x v
 have E:DataW.Whole enc P f.params.toList s.vars apart W args.toList ds [] p:=⟨p,[],D,J,by simp,m,k⟩;have i:∀(b:Nat) (sp:Nat->Bool) (I:Bool),yn enc P W' b sp I f.resultTypes.toList ((Value.bool true).resultList f.resultTypes.size) [.lit<|.bool true] []:=by
  intro b sp I;rw[hr];exact⟨[],[],shut_bool B true,rfl,rfl⟩
 have C:∀(j:Nat) (t:TypeId) (r:Value),f.resultTypes[j]?=some t->((Value.bool true).resultList f.resultTypes.size)[j]?=some r->Value.okWide P W' .any 0 t r:=by
  exact ok_one hr rfl (okWide_bool_mk B true)
 have e:∀sp:Nat->Bool,DataW.TrodVars enc P W' sp s.vars [] []:=fun sp=>by rw[F];rfl
 have a:s.fn H (ds++[])={ results:=[.lit<|.bool true],args:=ds }:=by rw[yr];exact a
 refine⟨ds,[],p,[],p,[],E,?_,?_,?_,World.keptBut_mono (fun x v=>⟨v,.inr<|.inl v⟩) (A.frame (· ∈p)),fun _=>?_⟩
 ·rw[a];exact i _ _ _
 ·rw[a];exact Hq A G z D w
 ·rw[a];exact e _
 ·refine⟨C,_,_,([]++p)++[],⟨[]++p,[],trodAll_append (Hq A G z D<|fun _ _=>rfl)<|i _ _ _,e _,rfl,?_,?_⟩,?_⟩
  ·intro b off hp;have hp:MemPlace.cell b off∈p:=by simpa using hp
   rw[A.frozen<|show b<W.heap.size from n _ hp];exact m b off hp
  ·intro M;simpa using k M
  ·intro x v _;simpa using v
end
def OS(k:Nat):Value->V
 | .bool b=>.bool b
 | .int q n=>.int q n
 | .string s=>.str s.data.toList
 | .pointer none=>.nilp
 | .slice none 0 0=>.nils
 | .slice (some _) 0 0=>.es0
 | .slice (some ⟨r,off,none⟩) len cap=>if r<k/\len<=cap then .sl r off len cap 0 else .junk
 | .map none=>.nilm
 | .nilFunc=>.nilf
 | .nilIface=>.nili
 |_=>.junk
def YH(W:World)(r:Nat):Nat:=match W.heap[r]? with
 |some (.cells c _ _)=>c.size
 |_=>0
def pW(W:World):Pl:=(y8 W.heap.size).map fun r=>(r,YH W r)
theorem NI{W:World}{r:Nat}(h:r<W.heap.size):(pW W)[r]?=some (r,YH W r):=by
 simp[pW,h]
def QZ(W:World)(r:Nat):Option O:=match W.heap[r]? with
 |some (.cells c t _)=>if c.size=0 then none else some<|.cells (c.toList.map<|OS W.heap.size) t (0,c.size)
 |_=>none
def gD(W:World):Nat->H
 |0=>⟨.leaf,0⟩
 |n+1=>⟨(gD W n).m.set n<|QZ W n,n+1⟩
theorem xE(W:World):∀n,(gD W n).nx=n
 |0=>rfl
 |_+1=>rfl
theorem Xg(W:World):∀(n b:Nat),(gD W n).get b=if b<n then QZ W b else none
 |0,b=>by simp[gD,H.get]
 |n+1,b=>by
  have a:=Xg W n b;unfold H.get at a ⊢;simp only[gD,PM.Dz];by_cases e:b=n
  ·subst e;simp
  ·rw[wc e,a];by_cases h:b<n
   ·rw[wd h,wd ae]
   ·rw[wc h,wc ae]
def hW(W:World):H:=gD W W.heap.size
theorem Qf(W:World)(b:Nat):(hW W).get b=QZ W b:=by
 unfold hW;rw[Xg];by_cases h:b<W.heap.size
 ·rw[wd h]
 ·rw[wc h];unfold QZ;rw[z7 ae]
theorem UO{W:World}{v:Value}(h:(OS W.heap.size v).ok=true):Ad (pW W) (OS W.heap.size v) v:=by
 revert h;unfold OS;split<;>intro h
 case h_6=>simp only[Ad];exact⟨_,rfl⟩
 case h_7 r off len cap _=>
  split
  ·rename_i a;simp only[Ad];exact⟨r,_,cap,NI a.1,rfl,a.2,yu _,fun _=>rfl,fun e=>wh rfl e⟩
  ·rename_i a;rw[wc a]at h;cases h
 case h_11=>cases h
 all_goals simp only[Ad]
 all_goals rfl
theorem R_W(W:World):R (pW W) (hW W) W:=by
 refine⟨by simp[pW,hW,xE],fun b o a=>?_,fun b b' o o' r n n' a j f q=>?_⟩
 ·rw[Qf]at a;unfold QZ at a;split at a
  case h_2=>cases a
  rename_i c t fz k;split at a
  case isTrue=>cases a
  cases a;have e:b<W.heap.size:=(zx.1 k).1;have s:YH W b=c.size:=by unfold YH;rw[k]
  refine⟨b,c.size,_,by rw[NI e,s],k,c,fz,rfl,rfl,by simp,⟨by simp,fun i d v m g p=>?_⟩,fun i u f q=>⟨z6 _,u⟩⟩;rw[List.getElem?_map]at m;rw[List.length_map,yo (by have:=(List.getElem?_eq_some_iff.1 g).1;simp at this;simpa using this)]at g;rw[g]at m;cases m;exact UO p
 ·have key:∀b o r n,(hW W).get b=some o->(pW W)[b]?=some (r,n)->r=b:=by
   intro b o r n a f;rw[Qf]at a;have e:b<W.heap.size:=by
    unfold QZ at a;by_cases h:b<W.heap.size
    ·exact h
    ·rw[z7 ae]at a;cases a
   rw[NI e]at f;cases f;rfl
  rw[<-key b o r n a f, <-key b' o' r n' j q]
theorem xI{W W':World}{p':Pl}{h':H}(d:Ext (pW W) (hW W) W p' h' W'):RowKit.Below W.heap.size W W':=by
 refine⟨d.os,d.tape,d.out,d.size,fun k f=>?_⟩;by_cases i:Im (pW W) (hW W) k
 ·obtain⟨b,o,n,g,p⟩:=i;have a:=g;rw[Qf]at a;unfold QZ at a;split at a
  case h_2=>cases a
  rename_i c t fz m;split at a
  case isTrue=>cases a
  rename_i h0;cases a;have e:b<W.heap.size:=(zx.1 m).1;have j:YH W b=c.size:=by unfold YH;rw[m]
  rw[NI e,j]at p;cases p;exact(d.lock _ f ⟨_,_,_,_,_,g,by rw[NI e,j],rfl,yu _,Nat.pos_of_ne_zero h0⟩).1
 ·exact d.same k f i
end Go.Det
namespace Go.Pe
open Go.Det
def FW(W:World):Fz:=fun b=>match (hW W).get b with
 |some (.cells cs _ _)=>some cs
 |_=>none
def WS:(s:Sh)->s.T->Prop
 | .int k,x=>k.min<=(x:Int)/\(x:Int)<=k.max
 | .bool,_=>True
 | .str,x=>(x:Z).length<=maxLen
 | .list s,l=>(l:List s.T).length<=maxLen/\∀x∈(l:List s.T),WS s x
 | .pair a b,x=>WS a x.1/\WS b x.2
 | .unit,_=>True
 | .nlist _,_=>True
 | .fnv,_=>True
 | .ptr _,_=>True
def oG(P:Program)(f:TypeId->Option Sh):Nat->List Field->Option Sh
 |_,[]=>some .unit
 |o,[x]=>match f x.type with
  |some s=>bif qc x.offset o&&qc (P.cellsOf x.type) s.sz then some s else none
  |none=>none
 |o,x::y::l=>match f x.type with
  |some s=>bif qc x.offset o&&qc (P.cellsOf x.type) s.sz then(oG P f (o+s.sz) (y::l)).map (.pair s)else none
  |none=>none
def shP(P:Program):Nat->TypeId->Option Sh
 |0,_=>none
 |f+1,t=>match P.underlying t with
  |some (.int k)=>some<|.int k
  |some .bool=>some .bool
  |some .string=>some .str
  |some (.slice e)=>match shP P f e with
   |some s=>bif qc (P.cellsOf e) s.sz&&Nat.blt 0 s.sz then some (.list s)else none
   |none=>none
  |some (.struct fs)=>match oG P (shP P f) 0 fs.toList with
   |some s=>bif qc (P.cellsOf t) s.sz then some s else none
   |none=>none
  |_=>none
section
variable {H:Type}{enc:TypeId×Value->H}{P:Program}{W:World}
theorem sT{r:Nat}{c:Array Value}{t:TypeId}{fz:Nat×Nat}(h:W.heap[r]?=some (.cells c t fz))(h0:c.size≠0):FW W r=some (c.toList.map<|OS W.heap.size):=by
 unfold FW;rw[Qf];unfold QZ;rw[h];simp only[wc h0]
theorem Sg{a:Addr}{n:Nat}{cs:List Value}(h:W.cells? 0 a n=some cs)(s:0<n):
  ∃c t fz,W.heap[a.block]?=some (.cells c t fz)/\a.spot=none/\a.off+n<=c.size/\cs=(c.toList.drop a.off).take n:=by
 unfold World.cells? at h;rw[wd<|z6 _]at h;have r:=mapM_some_length h;have m:=mapM_some_get h;simp only[List.length_range]at r;have h0:=m 0 0 (by simp[s]);have g:a.add 0=a:=by simp[Addr.add]
 rw[g]at h0;obtain⟨v0,j⟩:∃v,cs[0]?=some v:=⟨cs[0],yp ae⟩;rw[j]at h0;unfold yv at h0;split at h0
 case h_2=>cases h0
 rename_i c t fz p;split at h0
 case isTrue=>cases h0
 rename_i d;have d:a.spot=none:=by simpa using d
 have q:∀i,i<n->c[a.off+i]?=cs[i]?:=by
  intro i b;have:=m i i (by simp[b]);unfold yv at this;have e:(a.add i).block=a.block:=by unfold Addr.add;split<;>rfl
  have f:(a.add i).spot=none:=by unfold Addr.add;split<;>simp[d]
  have k:(a.add i).off=a.off+i:=by unfold Addr.add;split<;>simp_all
  rw[e,p]at this;simpa [f,k]using this
 refine⟨c,t,fz,p,d,?_,?_⟩
 ·have:=q (n-1) ae;rw[yp ae]at this;have:=(zx.1 this).1;omega
 ·apply List.ext_getElem?;intro i;by_cases b:i<n
  ·rw[<-q i b,yo b,List.getElem?_drop];simp
  ·rw[List.getElem?_eq_none ae,List.getElem?_eq_none<|by simp;omega]
theorem cG{α:Type}{p:Nat->α->Prop}:∀n:Nat,(∀i,i<n->∃x,p i x)->∃l:List α,l.length=n/\∀i (h:i<l.length),p i l[i]
 |0,_=>⟨[],rfl,fun i h=>wh h<|Nat.not_lt_zero _⟩
 |n+1,h=>by
  obtain⟨l,a,f⟩:=cG n fun i b=>h i ae
  obtain⟨x,d⟩:=h n ae;refine⟨l++[x],by simp[a],fun i b=>?_⟩;by_cases e:i<l.length
  ·rw[List.getElem_append_left e];exact f i e
  ·have:i=n:=by simp at b;omega
   subst this;rw[List.getElem_append_right ae];simpa [a]using d
end
open Go.Det Go.RowKit
section
open Go.Proofs.Tryz (prog)
theorem rQ{F':Fz}{v:V}(h:PC F' (.dat .bool true) v):v=.bool true:=by
 have:=h (fun _=>none) 0;simp only[PR,DC]at this;simpa using this
def GW(W:World):Prop:=∀x∈GP,QZ W x.1=some x.2
theorem GW.h{W:World}(h:GW W):Gh (hW W):=fun x a=>by rw[Qf];exact h x a
theorem GW.p{W:World}(h:GW W):Gp (pW W):=fun x g=>by
 have a:=h x g;unfold QZ at a;split at a
 case h_2=>cases a
 rename_i c t fz e;split at a
 case isTrue=>cases a
 have d:x.1<W.heap.size:=(zx.1 e).1;have f:YH W x.1=c.size:=by unfold YH;rw[e]
 rw[NI d,f];cases b:x.2 with
 |cells cs i fz'=>rw[b]at a;cases a;simp[osz]
 |_=>rw[b]at a;cases a
theorem QS{f:FuncId}{sp:Am}(ok:Af A4 f sp)(i:(BE sp.ins).T)(g:sp.pre i=true){args:List V}{args':Array Value}{W:World}(a:GW W)(m:Na (FW W) (Ag sp.ins i) args)
  (s:Ax (pW W) args args'.toList) (d:∀F' v,PC F' (one<|Ag sp.outs<|sp.f i) v->v=.bool true) (hp:A4.prim f=none:=by kernel_rfl):
  Calls prog f args' W fun e W'=>e=.returned (.bool true)/\Below W.heap.size W W':=by
 obtain⟨l,M,k,_,u⟩:=(ok.zero hp).run (FW W) (hW W) args i (fun b cs h=>by
  unfold FW at h;split at h
  case h_2=>cases h
  rename_i cs' t fz n;cases h;exact⟨t,fz,n⟩) (fun b o h=>(R_W W).lt h) a.h m g
 refine((JP Ac1 dH Ui M).fn f args (hW W) l (k M<|yu _) (pW W) W args' (R_W W) a.p s).mono ?_;rintro e w' ⟨v,h',v',p',r,rfl,j,q⟩;obtain⟨_,_,_,F',_,_,_,hr⟩:=u _ r;obtain rfl:=d F' v hr;refine⟨?_,xI q⟩;simp only[Ad]at j;rw[j]
end
open Go.Det Go.RowKit Go.ChangeShapes
def R5(k:Nat):Value->V
 | .agg cs=>.agg<|cs.toList.map<|OS k
 |v=>OS k v
def nL(P:Program)(k:Nat)(t:TypeId):Option Sh:=
 match shP P k t with
 |some s=>match P.underlying t with
  |some (.struct _)=>bif s.RV then some s else none
  |some (.int _)|some .bool|some .string|some (.slice _)=>bif s.RV then none else some s
  |_=>none
 |none=>none
def T6(P:Program)(k:Nat):List TypeId->Option (List Sh)
 |[]=>some []
 |t::ts=>match nL P k t,T6 P k ts with
  |some s,some a=>some (s::a)
  |_,_=>none
def wfL:(l:List Sh)->(BE l).T->Prop
 |[],_=>True
 |[a],x=>WS a x
 |a::b::l,x=>WS a x.1/\wfL (b::l) x.2
section
variable {H:Type}{enc:TypeId×Value->H}{P:Program}{W:World}{base:Nat}
theorem kK{t:TypeId}{v:Value}(a:(∃k,P.underlying t=some (.int k))\/P.underlying t=some .bool\/P.underlying t=some .string\/∃e,P.underlying t=some (.slice e))(h:Value.okWide P W .any base t v):v.cells.toList=[v]/\∀cs,v≠ .agg cs:=by
 rcases a with⟨k,a⟩|a|a|⟨e,a⟩<;>
 (simp only[Value.okWide,a]at h
  unfold Cell.okWide at h;simp only[a]at h;unfold Cell.ok at h;simp only[a]at h;cases v<;>first|(exact⟨rfl,fun _ e=>by cases e⟩)|(exfalso;exact h))
theorem Jh:∀ {ts:List TypeId} {args:List Value} {ds:List (DataW H)} {p:List MemPlace},yn enc P W 0 (fun _=>true) true ts args ds p->ds.length=ts.length
 |[],_,_,_,h=>by obtain⟨_,rfl,_⟩:=trodAll_nil h;rfl
 |t::ts,_,_,_,h=>by
  obtain⟨v0,b,e,a,p0,q0,rfl,rfl,rfl,h0,d⟩:=trodAll_cons h;simp[Jh d]
theorem Afk{α:Type}{l:List α}(h:l.length=2):∃a b,l=[a,b]:=by
 match l,h with
 |[a,b],_=>exact⟨a,b,rfl⟩
end
end Go.Pe
