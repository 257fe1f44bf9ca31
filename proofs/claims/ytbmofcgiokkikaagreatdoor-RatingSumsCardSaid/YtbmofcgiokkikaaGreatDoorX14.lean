import Derived.Test.YtbmofcgiokkikaaGreatDoorX13
/- A part of a proof; no law is stated here. -/
noncomputable section
set_option maxRecDepth 10000
open Go.IntKind renaming wrap -> zc, i64 -> ye
open Go.Pe.Ends renaming tt -> zd, leaf -> ze, ff -> zk, ite -> zl, eq -> zo, Ai -> zx
open Bool renaming and_eq_true -> zf, true_and -> yh, and_true -> qq
open Go.Pe.Sh renaming str -> zg, list -> zi, bool -> zn, pair -> yq, int -> qj
open Go.Lib renaming decDigits -> zh, decDigits_length -> yw
open Int renaming toNat_natCast -> zj, lt_of_lt_of_le -> zp, mul_le_mul_of_nonneg_left -> zy, eq_ofNat_of_zero_le -> zz, natCast_pow -> ya, le_of_lt -> yb, tmod -> yc, tmod_eq_emod_of_nonneg -> yj, tdiv -> ym, natCast_nonneg -> yn, lt_of_le_of_lt -> yo, ofNat_lt -> yz, natAbs_natCast -> y7, tdiv_eq_ediv_of_nonneg -> y8, mul_add -> y9, mul_neg -> qc, mul_ediv_cancel_left -> qd, mul_zero -> qg, add_zero -> qh, ediv_nonneg -> qi, one_mul -> ql, mul_one -> qm, mul_nonneg -> qn, gcd -> qp, add_assoc -> qt, toNat -> qx
open List renaming length_append -> zm, drop_eq_nil_of_le -> zr, take_of_length_le -> zt, length_eq_zero_iff -> z6, length_drop -> z7, getD_eq_getElem?_getD -> z8, length_cons -> yd, getElem?_eq_none -> yi, length_flatten -> yk, length_pos_iff -> yy, take -> qf, drop -> qy
open Rat renaming divInt -> zq
open Go.Sp renaming vI -> zu, rN -> yr, rW -> yt, AV -> yu, B9 -> yv, first -> qe, Cq -> qw, vR -> qz
open Go.Pe.Ac renaming of -> zw
open Nat renaming le_refl -> yf, sub -> yg, add_sub_cancel -> yp, mod_lt -> qu, add -> qv
open UInt8 renaming ofNat -> yx
open Go.Pe.PV renaming agg -> qk
open Go.Pe.T163 renaming Du -> qo
namespace Go.Sp
def AdE(s:Bx):Bool:=K2 s&&decide (s.length<=20)&&D4 s&&decide (0<=BS s)&&decide (BS s<1000000000)
def xZ(c:AF):Int:=(c.2.1.length:Int)
def zK(c:AF):Int:=(c.2.2.length:Int)
end Go.Sp
variable {Q:Go.Pe.PV->Go.Pe.Ob->Prop}
namespace Go.Pe
open Go.Det
abbrev Afv:Sh:=.pair i64<|.pair i64 i64
def Yn:Am:=⟨[.str],fun s=>Sp.AdE s,[i64,.bool],fun s=>(Sp.BS s,true),false⟩
def nU:Am:=⟨[Bc,i64],fun _=>true,[.pair i64 i64],fun i=>(i.2,Sp.xZ i.1),false⟩
def Tx:Am:=⟨[Bc,i64],fun _=>true,[.pair i64 i64],fun i=>(i.2,Sp.zK i.1),false⟩
def AbB:Am:=⟨[i64,i64],fun _=>true,[.bool],fun i=>Sp.Lo i.1 i.2,false⟩
def Ux:AL:=Ur [(95,[2])] [(95,[(2,[(3,Bc),(7,Bt)])])] [(95,[(2,[1,2,3,6,7])])] [(96,LU),(57,cF),(59,I4),(106,lF)]
def sA:AL:=Ur [(99,[4,6])] [(99,[(4,[(10,Au),(11,Au),(12,Au),(13,Au),(14,Au)])])] [(99,[(4,[8,10,11,12,13,14]),(6,[8,10,11,12,13,14])])] [(95,cPl),(96,LU),(73,QW),(59,I4),(64,tN),(65,SO),(97,jD)]
def Aay:AL:=X7 [(137,U4),(138,O5)]
def AeA:AL:=X7 [(93,pU),(30,JD),(32,PQ)]
def Ae6:AL:=X7 [(181,Afx),(30,JD),(31,cI),(74,Od),(130,ZV),(32,PQ),(87,M6),(86,cE),(129,UG),(77,Yn)]
end Go.Pe
namespace Go.Sp
def fwP(l:List AW)(d:Int):Bool:=l.all fun p=>Ci p.1 d&&Ci p.2 d
def wK(l:List AW)(d:Int):Bool:=l.all fun p=>Ci p.2 d
def EX(l:Bm)(n d:Int):Bool:=decide (l.1.length<=30)&&decide ((l.2.2.2.1.length:Int)<=n)&&decide ((l.2.2.2.2.length:Int)<=n)&&Ci l.2.1 d&&Ci l.2.2.1 d&&(fwP l.2.2.2.1 d&&wK l.2.2.2.2 d)
def IN(s:Bn)(n d:Int):Bool:=decide ((s.2.2.2.2.length:Int)<=n)&&Ci s.1 d&&Ci s.2.1 d&&Ci s.2.2.1 d&&Ci s.2.2.2.1 d
def Xr(c:AF)(n d:Int):Bool:=decide ((c.1.length:Int)<=n)&&decide ((c.2.1.length:Int)<=n)&&decide ((c.2.2.length:Int)<=n)&&(c.1.all (fun s=>IN s n d)&&(c.2.2.all (fun l=>EX l n d)&&decide (NX c=0)))
def iD(n d:Int):Bool:=decide (0<=n)&&decide (n<=8)&&decide (0<=d)&&decide (d<=9)
end Go.Sp
namespace Go.Pe
open Sp
open Go.Det
def ZD:Am:=⟨[Bh,i64,i64],fun i=>iD i.2.1 i.2.2,[.bool],fun i=>EX i.1 i.2.1 i.2.2,false⟩
def wG:Am:=⟨[Bc,i64,i64],fun i=>iD i.2.1 i.2.2&&List.all (α:=B3) (Prod.fst<|Prod.snd (i.1:AF)) Wd,[.bool],fun i=>Xr i.1 i.2.1 i.2.2,false⟩
def YI:AL:=X7 [(49,ZX)]
def Xw:AL:=X7 [(49,ZX),(50,ZD),(10,Adl)]
section
open List Int Prod
namespace T126
def T(l:List AW)(x:Z):Tr:=tree XT5 false 9 126<|Ag ([zi Ca,zg]) (l,x)
def L1(v0:List AW)(v1:Z)(v5:Int):Tr:=re ((T [] []).L.L.R)<|Aw 70 [(0,.dat (zi Ca) v0),(1,.dat zg v1),(5,.dat i64 v5)] [] 0
theorem Aj(l:List AW)(x:Z):T l x=let a:=getD l 0 ([],[]);let b':=decide (0<(length l:Int));.ck b' (.ck (A2 x&&Di (fst a))<|.di (EI x (fst a)<=0) (.ck b'<|.leaf (.dat zg<|snd a) [])<|L1 l x 1):=by kernel_rfl
theorem Ak(v0:List AW)(v1:Z)(v5:Int):stepT XT5 (L1 v0 v1 v5)=let a:=getD v0 (toNat<|zc .i64<|v5-1) ([],[]);let b':=getD v0 (toNat v5) ([],[]);let b:=(length v0:Int);let d:=Hl v1<|fst a;let e:=decide (0<=v5)&&decide (v5<b);let f:=Hl (snd b')<|snd a;let h':=Hl (fst b')<|fst a;let c:=FD f h';.di (v5<b) (.ck e<|.ck (A2 v1&&Di (fst b'))<|.di (EI v1 (fst b')<=0) (.ck (decide (0<=zc .i64 (v5-1))&&decide (zc .i64 (v5-1)<b))<|.ck e<|.ck (A2 (snd b')&&Di (snd a))<|.ck (A2 (fst b')&&Di (fst a))<|.ck (A2 f&&VZ h')<|.ck (A2 v1&&Di (fst a))<|.ck (A2 c&&A2 d)<|.ck (A2 (snd a)&&A2 (EH c d))<|.leaf (.dat zg<|B5 (snd a)<|EH c d) [])<|L1 v0 v1<|zc .i64<|v5+1) (.ck (decide (0<=zc .i64 (b-1))&&decide (zc .i64 (b-1)<b))<|.leaf (.dat zg<|snd<|getD v0 (toNat<|zc .i64<|b-1) ([],[])) []):=by kernel_rfl
end T126
namespace T237
def T(l:List AW):Tr:=tree XT1 false 9 237<|Ag ([zi Ca]) l
def L1(c:List AW)(b a:Int):Tr:=re ((T []).L.L.L.R)<|Aw 66 [(5,.nil),(23,.dat (zi Ca) c),(24,.dat i64 b),(25,.dat i64 a)] [] 0
theorem Aj(l:List AW):T l=let a:=(length l:Int);.ck true (.ck true<|.ck (decide (2<=2)&&true&&decide (2<=1000000))<|.ite (qe [Cv (a==0) 12,Cv (decide (a>64)) 5] !=0) (.leaf (.tup [.nil,.dat i64<|qe [Cv (a==0) 12,Cv (decide (a>64)) 5]]) [])<|L1 l a 0):=by kernel_rfl
def L2(c:Nat)(d:List AW)(b a:Int)(e:List (Ae×Ae)):Tr:=re ((stepT XT1<|L1 [] 0 0).L.L.L.R.L.L.R.L)<|Aw 66 [(5,.sl 0 8 0 c none),(23,.dat (zi Ca) d),(24,.dat i64 b),(25,.dat i64 a)] [(0,.arr false 300 (yq Au Au) e)] 1
theorem Ak(c:List AW)(d a:Int):stepT XT1 (L1 c d a)=let b:=getD c (toNat a) ([],[]);.di (a<d) (.ck (decide (0<=a)&&decide (a<(length c:Int)))<|.ck (decide (2<=2)&&true&&(decide (2<=1000)&&List.all [fst b,snd b] fun s=>decide (length s<=1000000)))<|.ite (Fe [fst b,snd b] !=0) (.leaf (.tup [.nil,.dat i64<|Fe [fst b,snd b]]) [])<|.ck (DT<|fst b)<|.ck (DT<|snd b)<|.di (a>0) .fail<|.ck (aa 128)<|L2 1 c d (zc .i64<|a+1)<|[((Cw<|fst b),(RW<|snd b,RR<|snd b),P0<|snd b,Rp<|snd b)]) (.leaf (.tup [.nil,.dat i64 (0:Int)]) []):=by kernel_rfl
theorem Az(c:Nat)(d:List AW)(e a:Int)(f:List (Ae×Ae)):stepT XT1 (L2 c d e a f)=let b:=getD d (toNat a) ([],[]);let j:=zc .i64<|a-1;let b':=fst<|getD f (toNat j) (((0,[]),0,[]),(0,[]),0,[]);let g:=Cw<|fst b;let i:Tr:=.ck (ac c (length f) 128)<|L2 (qv c 1) d e (zc .i64<|a+1)<|f++[(g,(RW<|snd b,RR<|snd b),P0<|snd b,Rp<|snd b)];let h:=((fst b'),fst<|snd b',snd<|snd b');.di (a<e) (.ck (decide (0<=a)&&decide (a<(length d:Int)))<|.ck (decide (2<=2)&&true&&(decide (2<=1000)&&List.all [fst b,snd b] fun s=>decide (length s<=1000000)))<|.ite (Fe [fst b,snd b] !=0) (.leaf (.tup [.nil,.dat i64<|Fe [fst b,snd b]]) [])<|.ck (DT<|fst b)<|.ck (DT<|snd b)<|.di (a>0) (.ck (decide (0<=zc .i64 (a-1))&&decide (zc .i64 (a-1)<(↑c:Int)))<|.cd (toNat j<length f)<|.ck (Sp.Ch g&&Sp.Ch h)<|.di (Ds g h<=0) (.leaf (.tup [.nil,.dat i64 (11:Int)]) []) i) i) (.leaf (.tup [.sl 0 8 0 c none,.dat i64 (0:Int)])<|[(0,.arr false 300 (yq Au Au) f)]):=by kernel_rfl
end T237
namespace T206
def T(l:List AW):Tr:=tree XT2 false 9 206<|Ag ([zi Ca]) l
theorem Aj(l:List AW):T l=.ck (decide (length l<=1000)&&GQ 1000000 l) (.leaf (.dat i64<|BN l) []):=by kernel_rfl
end T206
namespace T112
def T(l:List AW):Tr:=tree XT4 false 9 112<|Ag ([zi Ca]) l
def L1(v0:List AW)(v3:Int):Tr:=re ((T []).R.R)<|Aw 55 [(0,.dat (zi Ca) v0),(3,.dat i64 v3)] [] 0
theorem Aj(l:List AW):T l=.ite ((length l:Int)==0) (.leaf (.dat i64 (12:Int)) []) (.di ((length l:Int)>64) (.leaf (.dat i64 (5:Int)) [])<|L1 l 0):=by kernel_rfl
theorem Ak(v0:List AW)(v3:Int):stepT XT4 (L1 v0 v3)=let a:=getD v0 (toNat v3) ([],[]);let b':=L1 v0<|zc .i64<|v3+1;let f:=fst<|getD v0 (toNat<|zc .i64<|v3-1) ([],[]);let c:=(length v0:Int);let d:Tr:=.ite (An (snd a) !=0) (.leaf (.dat i64<|An<|snd a) []) b';let e:Tr:=.ite (An (fst a) !=0) (.leaf (.dat i64<|An<|fst a) []) b';let b:=decide (0<=v3)&&decide (v3<c);let i:=decide (0<=zc .i64 (v3-1))&&decide (zc .i64 (v3-1)<c);let h':Tr:=.ite true (.leaf (.dat i64 (11:Int)) []) b';let g:=decide (EI f (fst a)>=0);let h:=A2 f&&Di (fst a);.di (v3<c) (.ck b<|.cd (length (fst a)<=1000000)<|.ite (An (fst a)==0) (.ck b<|.cd (length (snd a)<=1000000)<|.ite (An (snd a)==0) (.di (v3>0) (.ck i<|.ck b<|.ck h<|.ite g h' d) d) d)<|.ite (An (fst a)==0) (.di (v3>0) (.ck i<|.ck b<|.ck h<|.ite g h' e) e) e) (.leaf (.dat i64 (0:Int)) []):=by kernel_rfl
end T112
namespace T57
def T(n:Int):Tr:=tree uC false 9 57<|Ag ([qj ye]) n
theorem Aj(n:Int):T n=.ck true (.ck true<|.leaf (qk [.dat i64 n,.dat wU<|Sp.BL n,.dat i64 (1:Int),.dat wU<|Sp.BL 1]) []):=by kernel_rfl
end T57
namespace T197
def T(s t:Z):Tr:=tree XX0 false 9 197<|Ag ([zg,zg]) (s,t)
theorem Aj(s t:Z):T s t=let a:=(length t:Int);let b':=decide (toNat a<=length s);.di ((length s:Int)>=a) (.ck (decide (0<=a)&&decide (0<=toNat a)&&b')<|.ite (take (toNat a) s==t) (.ck (decide (0<=a)&&true&&b'&&decide (length s<=length s))<|.leaf (.dat zg<|take (yg (length s)<|toNat a)<|drop (toNat a) s) [])<|.leaf (.dat zg s) []) (.leaf (.dat zg s) []):=by kernel_rfl
end T197
namespace T208
def T(a:AM):Tr:=tree XX1 false 9 208<|Ag ([A3]) a
theorem Aj(a:AM):T a=let c:=BF<|Ah<|zu a;let b:=(↑(length c):Int);let b':=getD c (toNat<|zc .i64<|b-1) 0;.ck (Sp.Dy a) (.ite (b==0) (.leaf (.dat i64 (0:Int)) [])<|.ck (decide (0<=zc .i64 (b-1))&&decide (zc .i64 (b-1)<b))<|.ck (Sp.u64 b')<|.leaf (.dat i64<|zc .i64<|zc .i64 (64*zc .i64 (b-1))+Fu b') []):=by kernel_rfl
end T208
namespace T169
def T(a:AM):Tr:=tree Afc false 9 169<|Ag ([A3]) a
theorem Aj(a:AM):T a=.ck (Bd a) (.di (Qa a>1800) (.ck (Bd a)<|.ck (Tn (AZ<|zu a) [(45:UInt8)])<|.leaf (.dat zn<|decide ((↑(length<|A6<|AZ<|zu a):Int)>600)) [])<|.leaf (.bl false) []):=by kernel_rfl
end T169
namespace T118
def T(a:Ae):Tr:=tree XX2 false 9 118<|Ag ([Au]) a
theorem Aj(a:Ae):T a=.ck (Bd<|fst a) (.ite (EL<|fst a) (.leaf (.bl true) [])<|.ck (Bd<|snd a)<|.leaf (.dat zn<|EL<|snd a) []):=by kernel_rfl
end T118
namespace T119
def T(a:Ae):Tr:=tree XX2 false 9 119<|Ag ([Au]) a
theorem Aj(a:Ae):T a=let b:=zu<|fst a;.ck true (.ite (Db<|snd a) (.ck (Bd<|fst a)<|.leaf (.dat zg<|AZ b) [])<|.ck (Bd<|fst a)<|.cd (length (AZ b)+1<=4611686018427387904)<|.ck (Bd<|snd a)<|.cd (length (AZ b++[(47:UInt8)])+length (AZ<|zu<|snd a)<=4611686018427387904)<|.leaf (.dat zg<|AZ b++[(47:UInt8)]++AZ (zu<|snd a)) []):=by kernel_rfl
end T119
namespace T270
def T(l:List Z):Tr:=tree XX3 false 9 270<|Ag ([zi zg]) l
def L1(c:List Z)(a b:Int):Tr:=re ((T []))<|Aw 18 [(6,.dat (zi zg) c),(7,.dat i64 a),(8,.dat i64 b)] [] 0
theorem Aj(l:List Z):T l=L1 l ((length l:Int)) 0:=by kernel_rfl
theorem Ak(b:List Z)(c a:Int):stepT XX3 (L1 b c a)=let d:=getD b (toNat a) [];.di (a<c) (.ck (decide (0<=a)&&decide (a<(length b:Int)))<|.cd (length d<=1000000)<|.ite (An d !=0) (.leaf (.dat i64<|An d) [])<|L1 b c<|zc .i64<|a+1) (.leaf (.dat i64 (0:Int)) []):=by kernel_rfl
end T270
namespace T106
def T(a:Ae):Tr:=tree XX3 false 9 106<|Ag ([Au]) a
theorem Aj(a:Ae):T a=.ck (Sp.Dy<|fst a) (.leaf (.dat i64<|IK<|fst a) []):=by kernel_rfl
end T106
end
namespace T170
theorem Ar(neg:Bool)(V:Nat)(h0:0<V)(h:Small V)(hG:(CF (V+1) V).length<=1000000)(b:Exit neg (CF (V+1) V) Q):Ends RT (L1 neg (BF (V:Int)) 1 [1000000000000000000]) Q:=by
 have d:V % 10^18<10^18:=qu _ af;have k:∀s,s=(if V/10^18=0 then zh (V % 10^18)else GS 18<|V % 10^18)->[s]++(if V/10^18=0 then[]else CF V<|V/10^18)=CF (V+1) V:=by
  rintro s rfl;have j:CF (V+1) V=if V<10^18 then[zh V]else GS 18 (V % 10^18)::CF V (V/10^18):=rfl
  rw[j];by_cases c:V<10^18
  ·rw[wd c,wd ae,wd ae,Nat.mod_eq_of_lt c];rfl
  ·rw[wc c,wc ae,wc ae];rfl
 have next:∀s,s=(if V/10^18=0 then zh (V % 10^18)else GS 18<|V % 10^18)->Ends RT (L2 neg (BF ((V/10^18:Nat):Int)) 1 1 [s] [1000000000000000000]) Q:=
  fun s l=>A5 neg _ hG b V (V/10^18) [s] ae (h.le<|Nat.div_le_self _ _)<|k s l
 refine zx (Ak ..) (zd (w4 (by have:=JY h0;omega))<|zd (Ab rfl h.div) ?_);rw[VF,VE];rcases Nat.eq_zero_or_pos (V % 10^18)with f|f
 ·have q0:V/10^18≠0:=ae
  rw[f,show((0:Nat):Int)=0 from rfl,LD];refine zk rfl (zd (w4 (by have:=JY (V:=V/10^18) ae;omega))<|zd rfl (zd rfl (zd rfl (next _ ?_))));have hp:=Ts 0 af;rw[Lib.decDigits_one ae]at hp;rw[wc q0,f, <-hp];rfl
 ·rw[WA (r:=((V % 10^18:Nat):Int)) ae ae];have g:List.getD [((V % 10^18:Nat):Int)] 0 0=((V % 10^18:Nat):Int):=rfl;rw[g,Ny];have m:=UT d;have e:((V % 10^18:Nat):Int)<1000000000000000000:=ae
  have i:0<(zh<|V % 10^18).length:=by
   rw[yw,Lib.nDigits];split<;>omega
  refine zd rfl (zd rfl (zd (Ab (Ab (w4<|yn _)<|w4 e) rfl) ?_));rw[wr _ ae ae];by_cases q0:V/10^18=0
  ·rw[q0];refine zk (by rw[show((0:Nat):Int)=0 from rfl,LD];rfl)<|zd rfl ?_;have:=next _ rfl;rw[wd q0,q0]at this;exact this
  ·have a:=Ts _ d;refine zd (w4 (by have:=JY (V:=V/10^18) ae;omega)) (zd (Ab (ad ae ae) rfl)<|zd (w4 ?_)<|zd rfl (next _ ?_))
   ·rw[<-zm,a];unfold GS;rw[zm,List.length_replicate];omega
   ·rw[wc q0];exact a
end T170
theorem Ad1(n:Nat):(18446744073709551616:Nat)^n<=10^(20*n):=by
 rw[Nat.pow_mul];exact Nat.pow_le_pow_left af n
theorem fS{V k:Nat}(h:(V:Int)<(Ap:Int)^k):V<18446744073709551616^k:=by
 rw[<-Tp k]at h;exact yz.mp h
theorem gE{V k:Nat}(h:(V:Int)<(Ap:Int)^k)(c:1<=k):(zh V).length<=20*k:=by
 rw[yw];obtain⟨j,b⟩:∃j,20*k=j+1:=⟨20*k-1,by omega⟩;have a:=Nat.lt_of_lt_of_le (fS h)<|Ad1 k;rw[b]at a ⊢;exact ON j V a
theorem IA{V:Nat}(h:Small V):(zh V).length<=180000:=gE (k:=9000) h.h af
theorem Ng:∀(f v:Nat) (s:Z),s∈CF f v->0<s.length
 |0,v,s,h=>by cases h
 |f+1,v,s,h=>by
  have b:CF (f+1) v=if v<10^18 then[zh v]else GS 18 (v % 10^18)::CF f (v/10^18):=rfl
  have a:∀r,0<(zh r).length:=fun r=>by rw[yw,Lib.nDigits];split<;>omega
  rw[b]at h;split at h
  ·rw[List.mem_singleton]at h;subst h;exact a _
  ·rcases List.mem_cons.1 h with rfl|h
   ·unfold GS;rw[zm];have:=a<|v % 10^18;omega
   ·exact Ng f _ s h
theorem PN:∀(l:List Z),(∀s∈l,0<s.length)->l.length<=l.flatten.length
 |[],_=>yf _
 |s::l,h=>by
  have b:=PN l fun x a=>h x<|List.mem_cons_of_mem _ a
  have c:=h s<|List.mem_cons_self ..;rw[List.flatten_cons,zm,yd];omega
theorem cY{V:Nat}(h:0<V):AZ (-(V:Int))=45::zh V:=Lib.itoa_neg V h
theorem zC(a:Af A4 211 VN):CE RT:=Aa zZ<|Aa (T173.ok Ge)<|Aa SI<|Aa a<|Aa fG Ay
namespace T170
theorem dP(neg:Bool){V:Nat}(h:Small V)(b:∀ob,Q (.dat .str (if neg=true then 45::zh V else zh V)) ob):Exit neg (CF (V+1) V) Q:=by
 have a:=Ng (V+1) V;have d:=I3 (V+1) V ae;have k:=IA h;have j:=PN _ a;have hr:(CF (V+1) V).flatten.length=(zh V).length:=by
  rw[<-d,yk,yk,List.map_reverse,List.sum_reverse]
 have e:0<(CF (V+1) V).length:=by
  have g:CF (V+1) V=if V<10^18 then[zh V]else GS 18 (V % 10^18)::CF V (V/10^18):=rfl
  rw[g];split<;>simp
 generalize CF (V+1) V=G at*;unfold Exit;refine zl (fun c=>zd rfl (zd rfl ?_))<|fun c=>?_
 ·rw[wd c]at b;rw[wr _ ae ae];exact Fs G (45::zh V) (by rw[yd];omega) ae b G.length [45] _ 1 (yf _) rfl rfl af (by rw[List.take_length,d];rfl)
 ·rw[wc<|by rw[c];decide]at b;rw[wr _ ae ae];obtain⟨i,f⟩:∃i,i+1=G.length:=⟨G.length-1,by omega⟩;exact F9 G (zh V) ae ae b i f _ ae (a _<|List.getElem_mem _) d
theorem ok(e:Af A4 211 VN):Af A4 170 Ab5:=by
 refine HN (X:=RT) rfl (zC e) (d:=9) ag ag ag (fun(a:Int×List Int) f=>?_) (Bg ag);have f:Bd a=true:=f;have g:=(Cf f).1;have hr:=(Eg g).1;refine zo (Aj a)<|zl (fun c=>zd (D8 hr.1 hr.2)<|ze<|zw rfl rfl ?_)<|fun c=>zd g ?_
 ·have c:a.2=[]:=by simpa using c
  show AZ a.1=AZ (zu a);rw[Bv c]
 ·have c:a.2≠[]:=by rintro k;rw[k]at c;simp at c
  have m:=bounds f;have b:(9223372036854775808:Int)<=Ah (zu a):=by
   obtain⟨_,h⟩:=Eg g;obtain⟨s,w⟩:=a;rcases h with h|⟨_,_,o⟩
   ·exact wh h c
   ·rw[X3 c,Al];have o:9223372036854775808<=Av w:=o;split<;>omega
  obtain⟨V,q⟩:=zz<|AO<|zu a;have j:=Al<|zu a;rw[q]at m b j ⊢;have i:Small V:=⟨m⟩;have t:=IA i;have hp:0<V:=ae
  have r:=PN _<|Ng (V+1) V;have p:=I3 (V+1) V ae;have l:(CF (V+1) V).flatten.length=(zh V).length:=by
   rw[<-p,yk,yk,List.map_reverse,List.sum_reverse]
  refine Ar _ V hp i ae<|dP _ i fun ob=>zw rfl rfl ?_;show(if decide (zu a<0)=true then 45::zh V else zh V)=AZ (zu a);by_cases n:zu a<0
  ·rw[wd<|w4 n,show zu a= -(V:Int)from by omega,cY hp]
  ·rw[wc (by simpa using n),show zu a=(V:Int)from by omega,Ny]
end T170
theorem Zd{k:Nat}{n d:Int}(a:d≠0)(b:Ah n<(Ap:Int)^k)(c:Ah d<(Ap:Int)^k):Mm k (zq n d):=by
 unfold Mm;rw[Rat.num_divInt,Rat.den_divInt,wc a];constructor
 ·refine yo X2 ?_;rw[JZ];have:Ah d.sign=1:=by rw[Al,Int.natAbs_sign_of_ne_zero a];rfl
  rw[this,ql];exact b
 ·refine yo ?_ c;rw[Al];exact Int.ofNat_le.mpr<|Nat.div_le_self _ _
theorem AaP{f:Ae}(h:qw f=true)(h0:zu f.1≠0):qw (Wc f)=true:=by
 obtain⟨a1,a2,a,b,a0⟩:=GO h;exact(Ka a2 a1 h0).Cq<|Zd h0 b a
theorem xO{f:Ae}(h:qw f=true):qw (AcA f)=true:=by
 obtain⟨a1,a2,a,b,a0⟩:=GO h;unfold qw Sp.Ch at*;have c:=XZ (k:=4000) (Cf a1).1 ae ae<|TH (Cf a1).1 a;exact Ab (Ab (G9 c.1<|by show Ah (zu<|DA f.1)<_;rw[IY,Jb];exact a)<|G9 (Cf a2).1 b)<|w4 a0
theorem bU:CE XA3:=Aa T131.ok<|Aa T59.ok<|Aa T65.ok<|Aa T161.ok Ay
theorem T64.ok:Af A4 64 tN:=by
 refine BD bU<|fun(i:((Int×List Int)×(Int×List Int))×((Int×List Int)×(Int×List Int))) c=>?_;obtain⟨a,b⟩:=i;have c:(qw a&&qw b)=true:=c;rw[zf]at c;obtain⟨b1,b2,lb1,lb2,b0⟩:=GO c.2;exact zo (T64.Aj a b)<|zd (Cf b1).1<|zd (Ab c.1<|xO c.2)<|ze<|zw rfl rfl rfl
theorem T97.ok:Af A4 97 jD:=by
 refine BD bU<|fun(i:((Int×List Int)×(Int×List Int))×((Int×List Int)×(Int×List Int))) c=>?_;obtain⟨a,b⟩:=i;have c:(qw a&&qw b&&decide (zu b.1≠0))=true:=c;rw[zf,zf,w5]at c;exact zo (T97.Aj a b)<|zd (Ab c.1.2<|w4 c.2)<|zd (Ab c.1.1<|AaP c.1.2 c.2)<|ze<|zw rfl rfl rfl
theorem T132.ok:Af A4 132 nR:=by
 refine BD GY<|fun(a:(Int×List Int)×(Int×List Int)) h=>?_;obtain⟨a1,a2,b,c,a0⟩:=GO h;exact zo (T132.Aj a)<|zd (Ab (Ab a1 a2)<|w4 a0)<|ze<|zw rfl rfl rfl
end Go.Pe
namespace Go.Sp
theorem Dq{a:Bool×List Int}(h:CD a=true):Ba a.2=true/\a.2.length<=3000/\(a.1=true->a.2≠[]):=by
 unfold CD at h;rw[zf,zf,w5,Bool.or_eq_true,w5,Bool.not_eq_true']at h;refine⟨h.1.1,h.1.2,fun k=>?_⟩;rcases h.2 with x|x
 ·rw[k]at x;cases x
 ·exact x
theorem E7{a:Bool×List Int}(h:CD a=true):Ah (vR a)=Ao a.2/\0<=Ao a.2:=by
 obtain⟨c,e,d⟩:=Dq h;have h0:=AJ (b:=B9) af (By c).2.1;have h0:0<=Ao a.2:=h0;refine⟨?_,h0⟩;unfold vR;rw[Al];split<;>omega
theorem QO{a:Bool×List Int}(h:CD a=true):a.1=rN (vR a):=by
 obtain⟨c,f,d⟩:=Dq h;obtain⟨_,h0⟩:=E7 h;unfold rN vR;cases e:a.1 with
 |false=>rw[wc af];symm;rw[w9];omega
 |true=>
  rw[wd rfl];symm;rw[w5];have:=J9 (b:=B9) af (By c).2.1 (By c).2.2<|d e;have:0<Ao a.2:=this;omega
theorem Ab8{a:Bool×List Int}(h:CD a=true):a.2=rW (vR a):=by
 unfold rW;rw[(E7 h).1];exact Jf (b:=B9) af (By (Dq h).1).2.1 (By (Dq h).1).2.2
theorem AbK{a:Bool×List Int}(h:CD a=true):a=(rN<|vR a,rW<|vR a):=Prod.ext (QO h)<|Ab8 h
theorem XL(k:Nat):(B9:Int)^k=10^(9*k):=by
 have:(B9:Int)=10^9:=af
 rw[this, <-Int.pow_mul]
theorem vF{n:Int}{k:Nat}(h:n.natAbs<10^(9*k)):Ah n<(B9:Int)^k:=by
 rw[Al,XL];have:((10^(9*k):Nat):Int)=(10:Int)^(9*k):=by simp
 rw[<-this];exact yz.mpr h
theorem OQ(n:Int):0<=Ah n:=by rw[Al];omega
theorem Lg(n:Int):Ao (rW n)=Ah n:=Dj (b:=B9) af<|OQ n
theorem FE(n:Int):vR (rN n,rW n)=n:=by
 unfold vR;show(if rN n=true then -Ao (rW n)else Ao<|rW n)=n;rw[Lg,Al];unfold rN;by_cases h:n<0
 ·rw[wd<|w4 h];omega
 ·rw[wc<|by simpa using h];omega
theorem T8{n:Int}(h:n.natAbs<10^27000):CD (rN n,rW n)=true:=by
 have k:27000=9*3000:=rfl;rw[k]at h;obtain⟨c,_,i,d⟩:=Gk (n:=Ah n) (k:=3000) (OQ n) (vF h) af;unfold CD;have g:Ba (rW n)=true:=c;have f:(rW n).length<=3000:=d;rw[g,w4 f];cases b:rN n with
 |false=>rfl
 |true=>
  have:rW n≠[]:=by
   intro e;have a:=Lg n;rw[e]at a;have a:0=Ah n:=a;unfold rN at b;have b:=w6 b;rw[Al]at a;omega
  rw[w4 this];rfl
theorem mW(k:Nat):((10^k:Nat):Int)=(10:Int)^k:=by rw[ya];rfl
theorem AdL{x:Nat}(j k:Nat)(h:j<=k)(a:x<10^j):x<10^k:=Nat.lt_of_lt_of_le a (Nat.pow_le_pow_right af h)
theorem AcR{a:Bool×List Int}(h:CD a=true):(vR a).natAbs<10^27000:=by
 obtain⟨d,g,i⟩:=Dq h;have e:=BC (b:=B9) af (By d).2.1;have f:(B9:Int)^a.2.length<=(B9:Int)^3000:=AP af g;have c:Ah (vR a)<(B9:Int)^3000:=by rw[(E7 h).1];exact zp e f
 rw[Al,XL]at c;have:=mW<|9*3000;rw[<-this]at c;have k:27000=9*3000:=rfl;rw[k];exact yz.mp c
theorem pY{neg:Bool}{w:List Int}{n:Int}(a:AB B9 w)(c:Ao w=Ah n)(b:n≠0->neg=rN n):(CQ neg w,AA w)=(rN n,rW n):=by
 have h:=Go.Pe.MY (neg:=neg) a c;rw[h];have:(if neg=true then -Ah n else Ah n)=n:=by
  by_cases h0:n=0
  ·rw[h0];unfold Ah;split<;>simp
  ·rw[b h0];unfold rN;rw[Al];by_cases h:n<0
   ·rw[wd<|w4 h];omega
   ·rw[wc<|by simpa using h];omega
 rw[this]
theorem D6{s:Z}(h:A2 s=true):CD (BZ s,BT s)=true/\vR (BZ s,BT s)=Be s/\CD (Bz s,Bp s)=true/\vR (Bz s,Bp s)=AR s/\(As s).num=Be s/\((As s).den:Int)=AR s/\DT s=true/\(Be s).natAbs<10^4000/\(AR s).natAbs<10^4000:=by
 obtain⟨a,k⟩:=Gc h;obtain⟨s1,s2⟩:=TD h;have e:(As s).num=Be s/\((As s).den:Int)=AR s:=by
  have:=Lw<|As s;rw[a]at this;exact⟨this.1.symm,this.2.symm⟩
 have l1:(Be s).natAbs<10^4000:=by rw[<-e.1];exact s1
 have f:(AR s).natAbs<10^4000:=by rw[<-e.2,y7];exact s2
 have m:∀x:Nat,x<10^4000->x<10^27000:=fun x i=>AdL 4000 27000 af i
 refine⟨T8<|m _ l1,FE _,T8<|m _ f,FE _,e.1,e.2,?_,l1,f⟩;obtain⟨d,b,g⟩:=FL<|As s;rw[a]at d b g;have l:=Go.Pe.T163.Du s;unfold DT D4;rw[w4 (p:=s.length<=5999) ae,w4 (p:=(AD s).length<=5999) ae,w4 (p:=(AV s).length<=5999) ae,yh,yh,qq,zf];refine⟨?_,?_⟩
 ·obtain⟨j,i2,i3,i4⟩:=DB (As s).num;rw[d];unfold A6 at i2;split at i2
  ·next c=>rw[wd c,i2];exact D9 _
  ·next c=>rw[wc c,i2];exact D9 _
 ·rw[b];split
  ·rfl
  ·rw[wc<|Gi<|D9 _];exact D9 _
end Go.Sp
namespace Go.Pe
open Sp
open Go.Det
theorem S9{x:Int}{k:Nat}(h:x.natAbs<10^k):Ah x<(Ap:Int)^k:=by
 have a:((10^k:Nat):Int)=(10:Int)^k:=ya ..;rw[Al];refine zp ?_<|jP k;rw[<-a];exact yz.mpr h
theorem TP{q:Rat}{k:Nat}(h:CZ k q)(b:k<=4000):Mm 4000 q:=by
 obtain⟨c,d⟩:=h.mono b;have a:=S9 (k:=4000) (x:=(q.den:Int)) (by rw[y7];exact d);rw[Al,y7]at a;exact⟨S9 c,a⟩
def frS(s:Z):Ae:=((RW s,RR s),(P0 s,Rp s))
theorem Jt{s:Z}(h:A2 s=true):Fk (frS s) (As s):=by
 obtain⟨_,_,_,_,b,d,_,l1,a⟩:=D6 h;have m:∀x:Int,x.natAbs<10^4000->Ah x<(Ap:Int)^9000:=fun x c=>zp (S9 c) (AP af af)
 exact⟨(Cf<|Gw<|Eb<|m _ l1).1,(Cf<|Gw<|Eb<|m _ a).1,(Mg _).trans b.symm,(Mg _).trans d.symm⟩
theorem gZ{d:AM}(h:Sp.Dy d=true):Db d=decide (zu d=1):=by
 unfold Db;rw[Bool.eq_iff_iff,zf,w5,w5,w5];refine⟨fun⟨f,g⟩=>by rw[Bv f];exact g,fun e=>?_⟩;by_cases c:d.2=[]
 ·rw[Bv c]at e;exact⟨c,e⟩
 ·obtain⟨_,a⟩:=Eg h;obtain⟨s,w⟩:=d;rcases a with a|⟨_,_,b⟩
  ·exact wh a c
  ·rw[X3 c]at e;have b:9223372036854775808<=Av w:=b;split at e<;>omega
theorem dO{f:Ae}{q:Rat}(h:Fk f q):IW f=Kx q:=by
 unfold IW EL Kx;rw[h.vn,h.vd]
theorem tQ{f:Ae}{q:Rat}(h:Fk f q):KZ f=AH q:=by
 unfold KZ AH;rw[gZ h.d,h.vn,h.vd];have e:decide ((q.den:Int)=1)=true↔q.den=1:=by rw[w5];omega
 by_cases c:q.den=1
 ·rw[wd<|e.2 c,wd c];rfl
 ·rw[wc<|fun k=>c<|e.1 k,wc c];show Lib.itoa q.num++47::Lib.itoa ((q.den:Nat):Int)=_;rw[Lib.itoa_nonneg]
theorem ZR{f:Ae}{q:Rat}(h:Fk f q):Kv f=XJ 0 q/\IM f=Yb 0 q:=by
 unfold Kv IM XJ Yb;rw[dO h,tQ h];exact⟨rfl,rfl⟩
theorem Fk.Ch{f:Ae}{q:Rat}(h:Fk f q)(a:Mm 4000 q):Sp.Ch f=true:=by
 have:=h.Cq a;unfold qw at this;rw[zf]at this;exact this.1
theorem Fk.Jl{f:Ae}{q:Rat}(h:Fk f q):decide (zu f.1≠0)=decide (q≠0):=by
 rw[h.vn,decide_eq_decide,wm,Rat.num_eq_zero]
theorem Fk.cmp{f g:Ae}{p q:Rat}(e:Fk f p)(b:Fk g q):Ds f g=if p<q then -1 else if q<p then 1 else 0:=by
 unfold Ds Cp;rw[e.vn,e.vd,b.vn,b.vd];have a:p<q↔p.num*(q.den:Int)<q.num*(p.den:Int):=Rat.lt_iff ..;have h:q<p↔q.num*(p.den:Int)<p.num*(q.den:Int):=Rat.lt_iff ..;by_cases c:p<q
 ·rw[wd c,wd<|a.1 c]
 ·rw[wc c,wc<|fun k=>c<|a.2 k];by_cases d:q<p
  ·rw[wd d,wd<|h.1 d]
  ·rw[wc d,wc<|fun k=>d<|h.2 k]
end Go.Pe
namespace Go.Sp
theorem lL{n:Int}(h:0<=n):n+1<=2^(Fu n).toNat:=by
 unfold Fu;split
 ·have:n=0:=ae
  subst this;decide
 ·have b:=Nat.lt_log2_self (n:=n.toNat);have e:((n.toNat.log2:Int)+1).toNat=n.toNat.log2+1:=ae
  have a:((2^(n.toNat.log2+1):Nat):Int)=(2:Int)^(n.toNat.log2+1):=ya ..;rw[e, <-a];generalize 2^(n.toNat.log2+1)=P at*;omega
theorem Ad0{w:List Int}(e:AB Ap w){k:Nat}(g:w.length=k+1):val Ap w<(Ap:Int)^k*(w.getD k 0+1):=by
 have a:=CA (Ap:Int) w k ae;have f:=BC (b:=(Ap:Int)) af<|AT e k;rw[List.length_take,Nat.min_eq_left ae]at f;have c:w.drop k=[w.getD k 0]:=by
  rw[CB ae,zr ae]
 rw[c]at a;have d:val Ap [w.getD k 0]=w.getD k 0:=by
  show w.getD k 0+(Ap:Int)*0=_;omega
 rw[d]at a;rw[y9,qm];omega
theorem X1(k:Nat):((10^k:Nat):Int)=(10:Int)^k:=by rw[ya];rfl
theorem qP(k:Nat):2^(3*k)<=10^k:=by rw[Nat.pow_mul];exact Nat.pow_le_pow_left af k
theorem sR(k:Nat):(2:Int)^(3*k)<=10^k:=by
 have a:((2^(3*k):Nat):Int)<=((10^k:Nat):Int):=Int.ofNat_le.2<|qP k;rw[ya,ya]at a;exact a
theorem yW:(2:Int)^1800<=10^600:=by
 have h:=sR 600;have k:3*600=1800:=rfl;rw[k]at h;exact h
theorem zT{a:AM}(h:Qa a<=1800):EL a=false:=by
 have a0:0<=Ah (vI a):=by rw[Al];omega
 have d:=Dj (b:=Ap) af a0;have c:=Gg (b:=Ap) af<|Ah<|vI a;have key:Ah (vI a)<2^1800:=by
  unfold Qa at h;have d:val Ap (BF<|Ah<|vI a)=Ah (vI a):=d;have c:AB Ap (BF<|Ah<|vI a):=c;generalize BF (Ah<|vI a)=w at*;rw[<-d];by_cases f:w=[]
  ·subst f;show(0:Int)<_;exact Int.pow_pos af
  ·rw[wc f]at h;obtain⟨k,j⟩:∃k,w.length=k+1:=⟨w.length-1,by have:=yy.2 f;omega⟩;have m:=Ad0 c j;have g:=Li (b:=(Ap:Int)) af c k;have hp:=lL g.1;have q:=(Go.Pe.UM g.1 (by have:(Ap:Int)=18446744073709551616:=rfl;omega)).1;rw[j,yp,show((k+1:Nat):Int)-1=(k:Int)by omega]at h;have p:(0:Int)<(Ap:Int)^k:=AU af k;have n:=zy hp<|yb p;have l:(Ap:Int)^k=2^(64*k):=by
    have:(Ap:Int)=2^64:=af
    rw[this, <-Int.pow_mul]
   rw[l, <-Int.pow_add]at n;rw[l]at m;have o:(2:Int)^(64*k+(Fu<|w.getD k 0).toNat)<=2^1800:=AP af ae;exact zp m<|Int.le_trans n o
 have i:=zp key yW;unfold EL NU;rw[w9];have:(vI a).natAbs<10^600:=by
  rw[Al]at i;have e:=X1 600;rw[<-e]at i;exact yz.mp i
 have:=Eo this af;omega
end Go.Sp
namespace Go.Pe
open Sp
open Go.Det
theorem AaL:CE XX0:=fun g sp h=>by cases h
theorem T197.ok:Af A4 197 Ve:=by
 refine BD AaL<|fun(i:Z×Z) a=>?_;obtain⟨s,t⟩:=i;have a:(decide (t=[45])&&decide (s.length<=1000000))=true:=a;rw[zf,w5,w5]at a;obtain⟨rfl,hl⟩:=a;have b:∀v ob,v=A6 s->Ac Ve (s,[45]) (.dat .str v) ob:=fun v ob h=>zw rfl rfl h
 refine zo (T197.Aj s [45]) ?_;conv=>zeta
 cases s with
 |nil=>exact zk rfl (ze<|b _ _ rfl)
 |cons c r=>
  have g:qx (([(45:UInt8)].length:Nat):Int)=1:=rfl;have k:qf 1 (c::r)=[c]:=rfl;have j:qf (yg (c::r).length 1) (qy 1 (c::r))=r:=zt<|yf _;have f:(c::r).getD 0 0=c:=rfl;rw[g,k,j];refine zd (w4<|by simp;omega) (zd (by simp) (zl (fun d=>zd (by simp)<|ze<|b _ _ ?_)<|fun d=>ze<|b _ _ ?_))
  ·have e:c=45:=by simpa using d
   unfold A6;rw[f,wd e];rfl
  ·have e:c≠45:=by simpa using d
   unfold A6;rw[f,wc e]
theorem xK:CE XX1:=Aa (T173.ok Ge)<|Aa T229.ok Ay
theorem Aap{a:AM}(h:Bd a=true):(BF<|Ah<|zu a).length<=9000:=by
 have b:=bounds h;have h0:=AO<|zu a;refine OV Ap af 9000 _ _ ?_;have e:((Ap^9000:Nat):Int)=(Ap:Int)^9000:=Tp 9000;rw[<-e]at b;generalize Ap^9000=P at*;omega
theorem T208.ok:Af A4 208 kZ:=by
 refine BD xK<|fun(a:Int×List Int) d=>?_;have d:Bd a=true:=d;have i:=(Cf d).1;have m:=Aap d;have f:=Gg (b:=Ap) af<|Ah<|zu a;have f:AB Ap (BF<|Ah<|zu a):=f;have e:∀v ob,v=Qa a->Ac kZ a (.dat i64 v) ob:=fun v ob h=>zw rfl rfl h
 unfold Qa at e;refine zo (T208.Aj a)<|zd i ?_;generalize BF (Ah<|zu a)=w at*;refine zl (fun c=>ze<|e _ _ ?_)<|fun c=>?_
 ·have:w=[]:=z6.1 (by have:(w.length:Int)=0:=(by simpa using c);omega);rw[wd this]
 ·have c:(w.length:Int)≠0:=by simpa using c
  have k:w≠[]:=by rintro rfl;exact c rfl
  have g:=A0 f<|w.length-1;have j:zc .i64 ((w.length:Int)-1)=((w.length-1:Nat):Int):=by rw[wr _ ae ae];omega
  have l:=UM (Sp.A8 g).1 (Sp.A8 g).2;rw[j,zj,wr (64*_) ae ae,wr _ ae ae];refine zd (ad ae ae)<|zd g<|ze<|e _ _ ?_;rw[wc k];omega
theorem nG:CE Afc:=Aa T208.ok<|Aa (T170.ok kB)<|Aa T197.ok Ay
theorem iO(n:Int):A6 (AZ n)=zh n.natAbs:=(DB n).2.1
theorem Q0{a:AM}(h:Bd a=true):(AZ<|zu a).length<=180001:=by
 have c:=bounds h;have b:=Al<|zu a;have d:(zh (zu a).natAbs).length<=180000:=IA ⟨by rw[<-b];exact c⟩;unfold AZ Lib.itoa;split
 ·rw[yd];omega
 ·rw[show(zu a).toNat=(zu a).natAbs by omega];omega
theorem T169.ok:Af A4 169 Zq:=by
 refine BD nG<|fun(a:Int×List Int) b=>?_;have b:Bd a=true:=b;have f:=Q0 b;have e:∀v ob,v=EL a->Ac Zq a (.dat .bool v) ob:=fun v ob h=>zw rfl rfl h
 have d:∀v ob,v=EL a->Ac Zq a (.bl v) ob:=fun v ob h=>zw rfl rfl h
 refine zo (T169.Aj a) (zd b<|zl (fun c=>zd b<|zd (Ab (w4 rfl)<|w4<|by show(AZ<|zu a).length<=1000000;omega)<|ze<|e _ _ ?_)<|fun c=>ze<|d _ _ ?_)
 ·show decide (((A6<|AZ<|zu a).length:Int)>600)=EL a;rw[iO];unfold EL NU;rw[decide_eq_decide];omega
 ·have c:=w7 c;have c:¬Qa a>1800:=c;exact(zT ae).symm
theorem rP{a:AM}(h:Ou a=true):Bd a=true:=by
 unfold Ou at h;rw[zf,w5]at h;unfold Bd;rw[h.1,yh];exact w4 ae
theorem jL{a:Ae}(h:Sp.Ch a=true):Bd a.1=true/\Bd a.2=true:=by
 unfold Sp.Ch at h;rw[zf]at h;exact⟨rP h.1,rP h.2⟩
theorem Z8:CE XX2:=Aa T169.ok<|Aa T123.ok<|Aa (T170.ok kB) Ay
theorem T118.ok:Af A4 118 aS:=by
 refine BD Z8<|fun(a:(Int×List Int)×(Int×List Int)) ha=>?_;obtain⟨b,d⟩:=jL (a:=a) ha;refine zo (T118.Aj a)<|zd b<|zl (fun c=>ze<|zw rfl rfl ?_)<|fun c=>zd d<|ze<|zw rfl rfl ?_
 ·have c:EL a.1=true:=c;show true=(EL a.1||EL a.2);rw[c];rfl
 ·have c:EL a.1=false:=c;show EL a.2=(EL a.1||EL a.2);rw[c];rfl
theorem T119.ok:Af A4 119 tJ:=by
 refine BD Z8<|fun(a:(Int×List Int)×(Int×List Int)) ha=>?_;obtain⟨b,d⟩:=jL (a:=a) ha;have l1:=Q0 b;have e:=Q0 d;refine zo (T119.Aj a) (zd rfl (zl (fun c=>zd b<|ze<|zw rfl rfl ?_)<|fun c=>zd b<|zd (w4<|by show(AZ<|zu a.1).length+1<=_;omega)<|zd d<|zd (w4<|by rw[zm,List.length_singleton];show(AZ<|zu a.1).length+1+(AZ<|zu a.2).length<=_;omega)<|ze<|zw rfl rfl ?_))
 ·have c:Db a.2=true:=c;show AZ (zu a.1)=KZ a;unfold KZ;rw[wd c]
 ·have c:Db a.2=false:=c;show AZ (zu a.1)++[47]++AZ (zu a.2)=KZ a;unfold KZ;rw[wc (by rw[c];decide),List.append_assoc];rfl
theorem ZU:CE XX3:=Aa T163.ok<|Aa T134.ok Ay
namespace T270
theorem Ar{Q:PV->Ob->Prop}(l:List Z)(g:l.length<=1000)(b:∀s∈l,s.length<=1000000):∀(r:List Z) (i:Nat),l.drop i=r->i<=l.length->(∀ob,Q (.dat i64<|Fe r) ob)->Ends XX3 (L1 l (l.length:Int) (i:Int)) Q
 |[],i,h,e,a=>by
  have:=drop_nil h e;exact zx (Ak ..) (zk (w8 ae)<|ze<|a _)
 |x::r,i,h,e,a=>by
  obtain⟨m,f,n⟩:=drop_cons (d:=([]:Z)) h;have k:x∈l:=List.mem_of_mem_drop (by rw[h];exact List.mem_cons_self ..);have j:=wn (i:=i) ae;unfold Fe at a;refine zx (Ak ..) ?_;conv=>zeta
  rw[zj,f,j];refine zd (w4 ae) (zd (ad ae ae)<|zd (w4<|b x k)<|zl (fun c=>ze ?_)<|fun c=>Ar l g b r (i+1) n m ?_)
  ·have c:An x≠0:=by simpa using c
   rw[wd c]at a;exact a _
  ·have c:An x=0:=by simpa using c
   rw[wc<|by rw[c];decide]at a;exact a
theorem ok:Af A4 270 bO:=by
 refine BD ZU<|fun(l:List Z) a=>?_;have a:(decide (l.length<=1000)&&l.all fun s=>decide (s.length<=1000000))=true:=a;rw[zf,w5,List.all_eq_true]at a;exact zo (Aj l)<|Ar l a.1 (fun s h=>w6<|a.2 s h) l 0 rfl (Nat.zero_le _) (fun ob=>zw rfl rfl rfl)
end T270
theorem T106.ok:Af A4 106 lF:=by
 refine BD ZU<|fun(a:(Int×List Int)×(Int×List Int)) ha=>?_;exact zo (T106.Aj a)<|zd ha<|ze<|zw rfl rfl rfl
theorem T57.ok:Af A4 57 cF:=by
 refine BD GY<|fun(n:Int) _=>?_;exact zo (T57.Aj n)<|zd rfl (zd rfl (ze<|zw rfl rfl rfl))
theorem AcC{f:Ae}{q:Rat}(h:Fk f q){e:Int}(a:e=0):(Kv f,IM f)=(XJ e q,Yb e q):=by
 rw[a,(ZR h).1,(ZR h).2]
theorem Fk.div{f g:Ae}{p q:Rat}(a:Fk f p)(c:Fk g q)(sp:Mm 4000 p)(b:Mm 4000 q)(d:Mm 4000 q⁻¹)(h0:q≠0):Fk (Lp f g) (p/q):=by
 rw[Rat.div_def];exact Fk.mul a (Fk.inv c b h0) sp d
theorem Kk(x y:Int):qe [x,y]=if x≠0 then x else y:=by
 by_cases h:x≠0
 ·rw[wd h];unfold qe
  simp[h]
 ·rw[wc h];have h:x=0:=ae
  subst h;unfold qe qe qe
  simp;intro k;exact k.symm
theorem AaF(n:Int):BL n=[]:=by unfold BL;split<;>rfl
theorem G0{n:Int}(h:Ct n=true):Bd (n,BL n)=true/\zu (n,BL n)=n:=by
 rw[AaF];have hr:=EN h;refine⟨?_,Bv rfl⟩;unfold Bd;rw[show Sp.Dy (n,([]:List Int))=true from Mt h,yh];rfl
theorem Ae4(n:Int)(h:Ct n=true):Fk ((n,BL n),(1,BL 1)) (n:Rat):=by
 obtain⟨a,b⟩:=G0 h;obtain⟨h3,h4⟩:=G0 (n:=1) rfl;exact⟨(Cf a).1,(Cf h3).1,b.trans (Rat.num_intCast n).symm,h4.trans rfl⟩
section
open List Int Prod
namespace T30
def T(a b:Z):Tr:=tree XR6 false 9 30<|Ag ([zg,zg]) (a,b)
def L1(v0 v1:Z):Tr:=re ((T [] []).L.L.L.R)<|Aw 63 [(0,.dat zg v0),(1,.dat zg v1)] [] 0
theorem Aj(a b:Z):T a b=let c:=zc .i64<|zc .i64 (qV a*VS b)+zc .i64 (qV b*VS a);let b':=zc .i64<|VS a*VS b;.ck (A2 a) (.ck (A2 b)<|.ite (Ei a) (.ite (Ei b) (.ck (Ct c&&Ct b'&&decide (zc .i64 (VS a*VS b)≠0))<|.leaf (.dat zg<|CT c b') [])<|L1 a b)<|L1 a b):=by kernel_rfl
theorem Ak(v0 v1:Z):stepT XR6 (L1 v0 v1)=let b':=(Iu (BZ v0,BT v0) (Bz v1,Bp v1),It (BZ v0,BT v0) (Bz v1,Bp v1));let b:=(Iu (BZ v1,BT v1) (Bz v0,Bp v0),It (BZ v1,BT v1) (Bz v0,Bp v0));let a:=(Iu (Bz v0,Bp v0) (Bz v1,Bp v1),It (Bz v0,Bp v0) (Bz v1,Bp v1));let c:=(NT b' b,Om b' b);.ck (DT v0) (.ck (DT v1)<|.ck (CD (BZ v0,BT v0)&&CD (Bz v1,Bp v1))<|.ck (CD (BZ v1,BT v1)&&CD (Bz v0,Bp v0))<|.ck (CD b'&&CD b)<|.ck (CD (Bz v0,Bp v0)&&CD (Bz v1,Bp v1))<|.ck (CD c&&CD a&&decide (qz a≠0))<|.leaf (.dat zg<|IJ c a) []):=by kernel_rfl
end T30
namespace T74
def T(a b:Z):Tr:=tree XR6 false 9 74<|Ag ([zg,zg]) (a,b)
def L1(v0 v1:Z):Tr:=re ((T [] []).L.L.L.R)<|Aw 55 [(0,.dat zg v0),(1,.dat zg v1)] [] 0
theorem Aj(a b:Z):T a b=let c:=zc .i64<|qV a*qV b;let b':=zc .i64<|VS a*VS b;.ck (A2 a) (.ck (A2 b)<|.ite (Ei a) (.ite (Ei b) (.ck (Ct c&&Ct b'&&decide (zc .i64 (VS a*VS b)≠0))<|.leaf (.dat zg<|CT c b') [])<|L1 a b)<|L1 a b):=by kernel_rfl
theorem Ak(v0 v1:Z):stepT XR6 (L1 v0 v1)=let a:=(Iu (Bz v0,Bp v0) (Bz v1,Bp v1),It (Bz v0,Bp v0) (Bz v1,Bp v1));let b':=(Iu (BZ v0,BT v0) (BZ v1,BT v1),It (BZ v0,BT v0) (BZ v1,BT v1));.ck (DT v0) (.ck (DT v1)<|.ck (CD (BZ v0,BT v0)&&CD (BZ v1,BT v1))<|.ck (CD (Bz v0,Bp v0)&&CD (Bz v1,Bp v1))<|.ck (CD b'&&CD a&&decide (qz a≠0))<|.leaf (.dat zg<|IJ b' a) []):=by kernel_rfl
end T74
namespace T183
def T(a:Z):Tr:=tree XR6 false 9 183<|Ag ([zg]) a
theorem Aj(a:Z):T a=.ck (DT a) (.ck (CD (Bz a,Bp a)&&CD (BZ a,BT a)&&decide (qz (BZ a,BT a)≠0))<|.leaf (.dat zg<|IJ (Bz a,Bp a) (BZ a,BT a)) []):=by kernel_rfl
end T183
namespace T31
def T(a b:Z):Tr:=tree XR7 false 9 31<|Ag ([zg,zg]) (a,b)
theorem Aj(a b:Z):T a b=.cd (length b<=1000000) (.ck (A2 a&&A2 (MS b))<|.leaf (.dat zg<|B5 a<|MS b) []):=by kernel_rfl
end T31
namespace T130
def T(a b:Z):Tr:=tree XR7 false 9 130<|Ag ([zg,zg]) (a,b)
theorem Aj(a b:Z):T a b=.ck (VZ b) (.ck (A2 a&&A2 (RL b))<|.leaf (.dat zg<|EH a<|RL b) []):=by kernel_rfl
end T130
namespace T32
def T(a b:Z):Tr:=tree XR8 false 9 32<|Ag ([zg,zg]) (a,b)
theorem Aj(a b:Z):T a b=.ck (A2 a&&Di b) (.cd (length (Hl a b)<=1000000)<|.leaf (.dat i64<|F4<|Hl a b) []):=by kernel_rfl
end T32
namespace T137
def T(a:Z):Tr:=tree XR8 false 9 137<|Ag ([zg]) a
theorem Aj(a:Z):T a=.cd (length a<=1000000) (.leaf (.dat zn<|A1 a==(length a:Int)) []):=by kernel_rfl
end T137
namespace T61
def T(a:Z):Tr:=tree XR8 false 9 61<|Ag ([zg]) a
theorem Aj(a:Z):T a=let b:=decide (length a<=1000000);let b':Tr:=.leaf (.dat i64 (4:Int)) [];.ck b (.cd (length (AD a)<=1000000)<|.di ((↑(length<|A6<|AD a):Int)>600) b'<|.ck b<|.di ((↑(length<|QX a):Int)>600) b'<|.leaf (.dat i64 (0:Int)) []):=by kernel_rfl
end T61
namespace T129
def T(a:Z):Tr:=tree XR9 false 9 129<|Ag ([zg]) a
theorem Aj(a:Z):T a=let b:=(JQ (BZ a,BT a) (Bz a,Bp a),JC (BZ a,BT a) (Bz a,Bp a));.cd (length a<=1000000) (.ite (K2 a) (.leaf (.dat zg a) [])<|.ck (DT a)<|.ck (CD (BZ a,BT a)&&CD (Bz a,Bp a)&&decide (0<qz (Bz a,Bp a)))<|.ck (CD b)<|.leaf (.dat zg<|F7 b) []):=by kernel_rfl
end T129
namespace T192
def T(a:List Int)(i:Int):Tr:=tree XR0 false 9 192<|Ag ([zi i64,qj ye]) (a,i)
theorem Aj(a:List Int)(i:Int):T a i=.di (i<(length a:Int)) (.ck (decide (0<=i)&&decide (i<(length a:Int)))<|.leaf (.dat i64<|getD a (toNat i) 0) []) (.leaf (.dat i64 (0:Int)) []):=by kernel_rfl
end T192
namespace T150
def T(a b:List Int):Tr:=tree Xq false 9 150<|Ag ([zi i64,zi i64]) (a,b)
def L1(v0 v1:List Int)(b a:Int):Tr:=re ((T [] []))<|Aw 42 [(0,.dat (zi i64) v0),(1,.dat (zi i64) v1),(5,.nil),(6,.dat i64 b),(7,.dat i64 a)] [] 0
theorem Aj(a b:List Int):T a b=L1 a b 0 0:=by kernel_rfl
def L2(v0 v1:List Int)(a:Nat)(d b:Int)(c:List Int):Tr:=re ((stepT Xq<|L1 [] [] 0 0).L.L.L.L.L.L)<|Aw 42 [(0,.dat (zi i64) v0),(1,.dat (zi i64) v1),(5,.sl 0 1 0 a none),(6,.dat i64 d),(7,.dat i64 b)] [(0,.arr false 3 i64 c)] 1
theorem Ak(v0 v1:List Int)(b a:Int):stepT Xq (L1 v0 v1 b a)=.di (a<(length v0:Int)) (.cd (0<=a)<|.cd (0<=a)<|.ck true<|.ck (aa 8)<|.ck true<|L2 v0 v1 1 (zc .i64<|ym (zc .i64<|zc .i64 (II v0 a+II v1 a)+b) 1000000000) (zc .i64<|a+1)<|[yc (zc .i64<|zc .i64 (II v0 a+II v1 a)+b) 1000000000]) (.di (a<(length v1:Int)) (.cd (0<=a)<|.cd (0<=a)<|.ck true<|.ck (aa 8)<|.ck true<|L2 v0 v1 1 (zc .i64<|ym (zc .i64<|zc .i64 (II v0 a+II v1 a)+b) 1000000000) (zc .i64<|a+1)<|[yc (zc .i64<|zc .i64 (II v0 a+II v1 a)+b) 1000000000])<|.di (b>0) (.cd (0<=a)<|.cd (0<=a)<|.ck true<|.ck (aa 8)<|.ck true<|L2 v0 v1 1 (zc .i64<|ym (zc .i64<|zc .i64 (II v0 a+II v1 a)+b) 1000000000) (zc .i64<|a+1)<|[yc (zc .i64<|zc .i64 (II v0 a+II v1 a)+b) 1000000000])<|.leaf .nil []):=by kernel_rfl
theorem Az(v0 v1:List Int)(b:Nat)(d a:Int)(c:List Int):stepT Xq (L2 v0 v1 b d a c)=.di (a<(length v0:Int)) (.cd (0<=a)<|.cd (0<=a)<|.ck true<|.ck (ac b (length c) 8)<|.ck true<|L2 v0 v1 (qv b 1) (zc .i64<|ym (zc .i64<|zc .i64 (II v0 a+II v1 a)+d) 1000000000) (zc .i64<|a+1)<|c++[yc (zc .i64<|zc .i64 (II v0 a+II v1 a)+d) 1000000000]) (.di (a<(length v1:Int)) (.cd (0<=a)<|.cd (0<=a)<|.ck true<|.ck (ac b (length c) 8)<|.ck true<|L2 v0 v1 (qv b 1) (zc .i64<|ym (zc .i64<|zc .i64 (II v0 a+II v1 a)+d) 1000000000) (zc .i64<|a+1)<|c++[yc (zc .i64<|zc .i64 (II v0 a+II v1 a)+d) 1000000000])<|.di (d>0) (.cd (0<=a)<|.cd (0<=a)<|.ck true<|.ck (ac b (length c) 8)<|.ck true<|L2 v0 v1 (qv b 1) (zc .i64<|ym (zc .i64<|zc .i64 (II v0 a+II v1 a)+d) 1000000000) (zc .i64<|a+1)<|c++[yc (zc .i64<|zc .i64 (II v0 a+II v1 a)+d) 1000000000])<|.leaf (.sl 0 1 0 b none)<|[(0,.arr false 3 i64 c)]):=by kernel_rfl
end T150
namespace T152
def T(a b:List Int):Tr:=tree Xq false 9 152<|Ag ([zi i64,zi i64]) (a,b)
def L1(v0 v1:List Int)(b a:Int):Tr:=re ((T [] []))<|Aw 35 [(0,.dat (zi i64) v0),(1,.dat (zi i64) v1),(5,.nil),(6,.dat i64 b),(7,.dat i64 a)] [] 0
theorem Aj(a b:List Int):T a b=L1 a b 0 0:=by kernel_rfl
def L2(v0 v1:List Int)(a:Nat)(d b:Int)(c:List Int):Tr:=re ((stepT Xq<|L1 [] [] 0 0).L.L.L.L.L)<|Aw 35 [(0,.dat (zi i64) v0),(1,.dat (zi i64) v1),(5,.sl 0 1 0 a none),(6,.dat i64 d),(7,.dat i64 b)] [(0,.arr false 3 i64 c)] 1
theorem Ak(v0 v1:List Int)(b a:Int):stepT Xq (L1 v0 v1 b a)=.di (a<(length v0:Int)) (.ck (decide (0<=a)&&decide (a<(length v0:Int)))<|.cd (0<=a)<|.di (zc .i64 (zc .i64 (getD v0 (toNat a) 0-II v1 a)-b)<0) (.ck (aa 8)<|L2 v0 v1 1 1 (zc .i64<|a+1)<|[zc .i64<|zc .i64 (zc .i64 (getD v0 (toNat a) 0-II v1 a)-b)+1000000000])<|.ck (aa 8)<|L2 v0 v1 1 0 (zc .i64<|a+1)<|[zc .i64<|zc .i64 (getD v0 (toNat a) 0-II v1 a)-b]) (.ck true<|.leaf (.dat (zi i64)<|AA []) []):=by kernel_rfl
theorem Az(v0 v1:List Int)(a:Nat)(d b:Int)(c:List Int):stepT Xq (L2 v0 v1 a d b c)=.di (b<(length v0:Int)) (.ck (decide (0<=b)&&decide (b<(length v0:Int)))<|.cd (0<=b)<|.di (zc .i64 (zc .i64 (getD v0 (toNat b) 0-II v1 b)-d)<0) (.ck (ac a (length c) 8)<|L2 v0 v1 (qv a 1) 1 (zc .i64<|b+1)<|c++[zc .i64<|zc .i64 (zc .i64 (getD v0 (toNat b) 0-II v1 b)-d)+1000000000])<|.ck (ac a (length c) 8)<|L2 v0 v1 (qv a 1) 0 (zc .i64<|b+1)<|c++[zc .i64<|zc .i64 (getD v0 (toNat b) 0-II v1 b)-d]) (.ck (decide (0+a<=length c)&&true&&decide (length (take a c)<=20000))<|.leaf (.dat (zi i64)<|AA<|take a c) []):=by kernel_rfl
end T152
namespace T84
def T(a b:Bool×List Int):Tr:=tree XR2 false 9 84<|Ag ([yq zn<|zi i64,yq zn<|zi i64]) (a,b)
theorem Aj(a b:Bool×List Int):T a b=.ite (fst a==fst b) (.ck (mZ (snd a)<|snd b)<|.cd (length (Ip (snd a)<|snd b)<=20000)<|.leaf (qk [.dat zn<|CQ (fst a)<|Ip (snd a)<|snd b,.dat (zi i64)<|AA<|Ip (snd a)<|snd b]) []) (.ck (Ba (snd a)&&Ba (snd b))<|.di (Cp (Ao<|snd a) (Ao<|snd b)>=0) (.ck (mZ (snd a) (snd b)&&decide (Ao (snd b)<=Ao (snd a)))<|.cd (length (I2 (snd a)<|snd b)<=20000)<|.leaf (qk [.dat zn<|CQ (fst a)<|I2 (snd a)<|snd b,.dat (zi i64)<|AA<|I2 (snd a)<|snd b]) [])<|.ck (mZ (snd b) (snd a)&&decide (Ao (snd a)<=Ao (snd b)))<|.cd (length (I2 (snd b)<|snd a)<=20000)<|.leaf (qk [.dat zn<|CQ (fst b)<|I2 (snd b)<|snd a,.dat (zi i64)<|AA<|I2 (snd b)<|snd a]) []):=by kernel_rfl
end T84
namespace T85
def T(a b:Bool×List Int):Tr:=tree XR2 false 9 85<|Ag ([yq zn<|zi i64,yq zn<|zi i64]) (a,b)
theorem Aj(a b:Bool×List Int):T a b=.ck (Sp.hR (snd a)&&Sp.hR (snd b)) (.cd (length (BW<|Ao (snd a)*Ao (snd b))<=20000)<|.leaf (qk [.dat zn<|CQ (!fst a==fst b)<|BW<|Ao (snd a)*Ao (snd b),.dat (zi i64)<|AA<|BW<|Ao (snd a)*Ao (snd b)]) []):=by kernel_rfl
end T85
namespace T146
def T(a:Bool×List Int):Tr:=tree XR2 false 9 146<|Ag ([yq zn<|zi i64]) a
theorem Aj(a:Bool×List Int):T a=.cd (length (snd a)<=20000) (.leaf (qk [.dat zn<|CQ (!fst a)<|snd a,.dat (zi i64)<|AA<|snd a]) []):=by kernel_rfl
end T146
namespace T182
def T(a b:Bool×List Int):Tr:=tree XR2 false 9 182<|Ag ([yq zn<|zi i64,yq zn<|zi i64]) (a,b)
theorem Aj(a b:Bool×List Int):T a b=.ck (Ba (snd a)&&Ba (snd b)&&decide (length (snd a)<=9000)&&decide (length (snd b)<=9000)&&decide (0<Ao (snd b))) (.ite (fst a) (.di ((↑(length<|BW<|Ao (snd a) % Ao (snd b)):Int)>0) (.ck (mZ (BW<|Ao (snd a)/Ao (snd b)) [1])<|.cd (length (Ip (BW<|Ao (snd a)/Ao (snd b)) [1])<=20000)<|.leaf (qk [.dat zn<|CQ (fst a)<|Ip (BW<|Ao (snd a)/Ao (snd b)) [1],.dat (zi i64)<|AA<|Ip (BW<|Ao (snd a)/Ao (snd b)) [1]]) [])<|.cd (length (BW<|Ao (snd a)/Ao (snd b))<=20000)<|.leaf (qk [.dat zn<|CQ (fst a)<|BW<|Ao (snd a)/Ao (snd b),.dat (zi i64)<|AA<|BW<|Ao (snd a)/Ao (snd b)]) [])<|.cd (length (BW<|Ao (snd a)/Ao (snd b))<=20000)<|.leaf (qk [.dat zn<|CQ (fst a)<|BW<|Ao (snd a)/Ao (snd b),.dat (zi i64)<|AA<|BW<|Ao (snd a)/Ao (snd b)]) []):=by kernel_rfl
end T182
namespace T148
def T(a:Bool×List Int):Tr:=tree XR3 false 9 148<|Ag ([yq zn<|zi i64]) a
def L1(v3:Z)(v4:Int)(b:Bool)(a:List Int):Tr:=re ((T (false,[])).R.L.L)<|Aw 39 [(1,.ptr 0 0),(3,.dat zg v3),(4,.dat i64 v4)] [(0,.box [.dat zn b,.dat (zi i64) a])] 1
theorem Aj(a:Bool×List Int):T a=.ite ((↑(length<|snd a):Int)==0) (.leaf (.dat zg [(48:UInt8)]) []) (.ck (decide (0<=zc .i64 ((↑(length<|snd a):Int)-1))&&decide (zc .i64 ((↑(length<|snd a):Int)-1)<(↑(length<|snd a):Int)))<|.ck (decide (0<=getD (snd a) (toNat<|zc .i64<|(↑(length<|snd a):Int)-1) 0)&&decide (getD (snd a) (toNat<|zc .i64<|(↑(length<|snd a):Int)-1) 0<9223372036854775808)&&decide (0<=1)&&decide (1<=20))<|L1 (IP (getD (snd a) (toNat<|zc .i64<|(↑(length<|snd a):Int)-1) 0) 1) (zc .i64<|(↑(length<|snd a):Int)-2) (fst a)<|snd a):=by kernel_rfl
theorem Ak(v3:Z)(v4:Int)(b:Bool)(a:List Int):stepT XR3 (L1 v3 v4 b a)=.di (v4>=0) (.ck (decide (0<=v4)&&decide (v4<(length a:Int)))<|.ck (decide (0<=getD a (toNat v4) 0)&&decide (getD a (toNat v4) 0<9223372036854775808)&&decide (0<=9)&&decide (9<=20))<|.cd (length v3+length (IP (getD a (toNat v4) 0) 9)<=4611686018427387904)<|L1 (v3++IP (getD a (toNat v4) 0) 9) (zc .i64<|v4-1) b a) (.ite b (.cd (1+length v3<=4611686018427387904)<|.leaf (.dat zg<|[(45:UInt8)]++v3) [])<|.leaf (.dat zg v3) []):=by kernel_rfl
end T148
namespace T83
def T(a b:Bool×List Int):Tr:=tree uG false 9 83<|Ag ([yq zn<|zi i64,yq zn<|zi i64]) (a,b)
def L1(o1:Bool)(a:List Int)(c:Bool)(b:List Int):Tr:=re ((T (false,[]) (false,[])).L.L.L)<|Aw 57 [(2,.ptr 0 0),(3,.ptr 1 0)] [(1,.box [.dat zn o1,.dat (zi i64) a]),(0,.box [.dat zn c,.dat (zi i64) b])] 2
theorem Aj(a b:Bool×List Int):T a b=.ite (fst b) (.ck (CD a)<|.ck (CD b)<|L1 (TS b) (Vd b) (TS a)<|Vd a) (L1 (fst b) (snd b) (fst a)<|snd a):=by kernel_rfl
def L2(b:List Int)(a:Z):Tr:=re ((stepT uG<|L1 false [] false []).L.L.L.L.L)<|Aw 57 [(8,.dat (zi i64) b),(10,.dat zg a)] [] 0
theorem Ak(o1:Bool)(b:List Int)(c:Bool)(a:List Int):stepT uG (L1 o1 b c a)=.ck (Ba a&&Ba b&&decide (length a<=9000)&&decide (length b<=9000)) (.ck (Ba a&&Ba (CI a b)&&decide (length a<=9000)&&decide (length (CI a b)<=9000)&&decide (0<Ao (CI a b)))<|.ck (Ba b&&Ba (CI a b)&&decide (length b<=9000)&&decide (length (CI a b)<=9000)&&decide (0<Ao (CI a b)))<|.cd (length (BW<|Ao a/Ao (CI a b))<=20000)<|.ck (CD (CQ c<|BW<|Ao a/Ao (CI a b),AA<|BW<|Ao a/Ao (CI a b)))<|L2 (BW<|Ao b/Ao (CI a b))<|F7 (CQ c<|BW<|Ao a/Ao (CI a b),AA<|BW<|Ao a/Ao (CI a b))):=by kernel_rfl
def L3(b:List Int)(a:Z):Tr:=re ((stepT uG<|L2 [] []).L.L.R)<|Aw 57 [(8,.dat (zi i64) b),(10,.dat zg a)] [] 0
theorem Az(b:List Int)(a:Z):stepT uG (L2 b a)=.ite ((length b:Int)==1) (.cd (0<(length b:Int))<|.ite (getD b 0 0==1) (.leaf (.dat zg a) [])<|L3 b a) (L3 b a):=by kernel_rfl
theorem Bq(b:List Int)(a:Z):stepT uG (L3 b a)=.cd (length a+1<=4611686018427387904) (.cd (length b<=20000)<|.ck (CD (CQ false b,AA b))<|.cd (length (a++[(47:UInt8)])+length (F7 (CQ false b,AA b))<=4611686018427387904)<|.leaf (.dat zg<|a++[(47:UInt8)]++F7 (CQ false b,AA b)) []):=by kernel_rfl
end T83
namespace T81
def T(n d:Int):Tr:=tree iG false 9 81<|Ag ([qj ye,qj ye]) (n,d)
def L1(v0 v1:Int):Tr:=re ((T 0 0).R.R.R.R)<|Aw 61 [(0,.dat i64 v0),(1,.dat i64 v1)] [] 0
theorem Aj(n d:Int):T n d=.di (n<(-4000000000000000000)) (.ck (Ct n)<|.ck (Ct d)<|.ck (CD (yr n,yt n)&&CD (yr d,yt d)&&decide (qz (yr d,yt d)≠0))<|.leaf (.dat zg<|IJ (yr n,yt n) (yr d,yt d)) []) (.di (n>4000000000000000000) (.ck (Ct n)<|.ck (Ct d)<|.ck (CD (yr n,yt n)&&CD (yr d,yt d)&&decide (qz (yr d,yt d)≠0))<|.leaf (.dat zg<|IJ (yr n,yt n) (yr d,yt d)) [])<|.di (d<(-4000000000000000000)) (.ck (Ct n)<|.ck (Ct d)<|.ck (CD (yr n,yt n)&&CD (yr d,yt d)&&decide (qz (yr d,yt d)≠0))<|.leaf (.dat zg<|IJ (yr n,yt n) (yr d,yt d)) [])<|.di (d>4000000000000000000) (.ck (Ct n)<|.ck (Ct d)<|.ck (CD (yr n,yt n)&&CD (yr d,yt d)&&decide (qz (yr d,yt d)≠0))<|.leaf (.dat zg<|IJ (yr n,yt n) (yr d,yt d)) [])<|L1 n d):=by kernel_rfl
def L2(v0 v1:Int):Tr:=re ((stepT iG<|L1 0 0).L)<|Aw 61 [(0,.dat i64 v0),(1,.dat i64 v1)] [] 0
theorem Ak(v0 v1:Int):stepT iG (L1 v0 v1)=.di (v1<0) (L2 (zc .i64<|0-v0)<|zc .i64<|0-v1) (L2 v0 v1):=by kernel_rfl
def L3(v0 v1:Int):Tr:=re ((stepT iG<|L2 0 0).L.L.L)<|Aw 61 [(0,.dat i64 v0),(1,.dat i64 v1)] [] 0
theorem Az(v0 v1:Int):stepT iG (L2 v0 v1)=.ck (AfQ (imax v0<|zc .i64<|0-v0) v1) (.cd (Sp.gI (imax v0<|zc .i64<|0-v0) v1≠0)<|.cd (Sp.gI (imax v0<|zc .i64<|0-v0) v1≠0)<|L3 (zc .i64<|ym v0<|Sp.gI (imax v0<|zc .i64<|0-v0) v1)<|zc .i64<|ym v1<|Sp.gI (imax v0<|zc .i64<|0-v0) v1):=by kernel_rfl
def L4(v1:Int)(a:Z):Tr:=re ((stepT iG<|L3 0 0).L.L.L)<|Aw 61 [(1,.dat i64 v1),(6,.dat zg a)] [] 0
theorem Bq(v0 v1:Int):stepT iG (L3 v0 v1)=.di (v0<0) (.ck (decide (0<=imax v0 (zc .i64<|0-v0))&&decide (imax v0 (zc .i64<|0-v0)<9223372036854775808)&&decide (0<=1)&&decide (1<=20))<|.cd (1+length (IP (imax v0<|zc .i64<|0-v0) 1)<=4611686018427387904)<|L4 v1<|[(45:UInt8)]++IP (imax v0<|zc .i64<|0-v0) 1) (.ck (decide (0<=imax v0 (zc .i64<|0-v0))&&decide (imax v0 (zc .i64<|0-v0)<9223372036854775808)&&decide (0<=1)&&decide (1<=20))<|.cd (0+length (IP (imax v0<|zc .i64<|0-v0) 1)<=4611686018427387904)<|L4 v1<|[]++IP (imax v0<|zc .i64<|0-v0) 1):=by kernel_rfl
theorem Ck(v1:Int)(a:Z):stepT iG (L4 v1 a)=.di (v1>1) (.cd (length a+1<=4611686018427387904)<|.ck (decide (0<=v1)&&decide (v1<9223372036854775808)&&decide (0<=1)&&decide (1<=20))<|.cd (length (a++[(47:UInt8)])+length (IP v1 1)<=4611686018427387904)<|.leaf (.dat zg<|a++[(47:UInt8)]++IP v1 1) []) (.leaf (.dat zg a) []):=by kernel_rfl
end T81
namespace T144
def T(a b:Int):Tr:=tree O7 false 9 144<|Ag ([qj ye,qj ye]) (a,b)
def L1(v0 v1:Int):Tr:=re ((T 0 0))<|Aw 12 [(0,.dat i64 v0),(1,.dat i64 v1)] [] 0
theorem Aj(a b:Int):T a b=L1 a b:=by kernel_rfl
theorem Ak(v0 v1:Int):stepT O7 (L1 v0 v1)=.di (v1>0) (.cd (v1≠0)<|L1 v1<|yc v0 v1) (.leaf (.dat i64 v0) []):=by kernel_rfl
end T144
namespace T87
def T(s:Z):Tr:=tree O7 false 9 87<|Ag ([zg]) s
theorem Aj(s:Z):T s=let a:Tr:=.leaf (.dat i64 (1:Int)) [];.ite (s==[(48:UInt8)]) (.leaf (.dat i64 (0:Int)) []) (.di ((length s:Int)>0) (.cd (0<(length s:Int))<|.ite ((↑(UInt8.toNat<|getD s 0 (0:UInt8)):Int)==45) (.leaf (.dat i64 (-1:Int)) []) a) a):=by kernel_rfl
end T87
namespace T86
def T(s:Z):Tr:=tree XO2 false 9 86<|Ag ([zg]) s
theorem Aj(s:Z):T s=let a:=decide (length s<=1000000);.ck a (.di (F4 s<0) (.ck (decide (1<=length s)&&decide (length s<=length s))<|.leaf (.dat zg<|take (yg (length s) 1)<|drop 1 s) [])<|.ck a<|.ite (F4 s==0) (.leaf (.dat zg s) [])<|.cd (1+length s<=4611686018427387904)<|.leaf (.dat zg<|[(45:UInt8)]++s) []):=by kernel_rfl
end T86
namespace T145
def T(n l:Int):Tr:=tree O7 false 9 145<|Ag ([qj ye,qj ye]) (n,l)
def L1(v0 v1:Int)(v5:Z):Tr:=re ((T 0 0))<|Aw 25 [(0,.dat i64 v0),(1,.dat i64 v1),(5,.dat zg v5)] [] 0
theorem Aj(n l:Int):T n l=L1 n l []:=by kernel_rfl
theorem Ak(v0 v1:Int)(v5:Z):stepT O7 (L1 v0 v1 v5)=let a:=zc .i64<|yc v0 10+1;let b:=toNat<|yc v0 10;let b':=drop b [(48:UInt8),49,50,51,52,53,54,55,56,57];let c:Tr:=.ck true<|.ck true<|.ck (decide (0<=yc v0 10)&&decide (0<=zc .i64 (yc v0 10+1))&&decide (toNat (yc v0 10)<=toNat a)&&decide (toNat a<=10))<|.cd (length (take (yg (toNat a) b) b')+length v5<=4611686018427387904)<|.ck true<|L1 (zc .i64<|ym v0 10) v1<|take (yg (toNat a) b) b'++v5;.di (v0>0) c (.di ((length v5:Int)<v1) c<|.leaf (.dat zg v5) []):=by kernel_rfl
end T145
namespace T80
def T(s:Z):Tr:=tree O6 false 9 80<|Ag ([zg]) s
def L1(v5:Z)(a:Bool):Tr:=re ((T []).R.L.L)<|Aw 54 [(5,.dat zg v5),(6,.dat zn a)] [] 0
def L2(v5:Z):Tr:=re ((T []).R.R)<|Aw 54 [(5,.dat zg v5),(6,.bl false)] [] 0
theorem Aj(s:Z):T s=let a:=(length s:Int);.di (a>20) (.leaf (.tup [.dat i64 (0:Int),.dat i64 (0:Int),.bl false]) []) (.di (a>0) (.cd (0<a)<|L1 s<|(↑(UInt8.toNat<|getD s 0 (0:UInt8)):Int)==45)<|L2 s):=by kernel_rfl
def L3(v5:Z)(a:Bool):Tr:=re ((stepT O6<|L1 [] false).L.L)<|Aw 54 [(5,.dat zg v5),(6,.dat zn a)] [] 0
theorem Ak(v5:Z)(a:Bool):stepT O6 (L1 v5 a)=.ite a (.ck (decide (1<=length v5)&&decide (length v5<=length v5))<|L3 (take (yg (length v5) 1)<|drop 1 v5) a) (L3 v5 a):=by kernel_rfl
def L4(v5:Z):Tr:=re ((stepT O6<|L2 []))<|Aw 54 [(5,.dat zg v5),(6,.bl false)] [] 0
theorem Az(v5:Z):stepT O6 (L2 v5)=L4 v5:=by kernel_rfl
def L5(v5:Z)(c:Bool)(b a v9:Int):Tr:=re ((stepT O6<|L3 [] false).L.R.R.L.L)<|Aw 54 [(5,.dat zg v5),(6,.dat zn c),(7,.dat i64 b),(8,.dat i64 a),(9,.dat i64 v9)] [] 0
theorem Bq(v5:Z)(b:Bool):stepT O6 (L3 v5 b)=let a:Tr:=.leaf (.tup [.dat i64 (0:Int),.dat i64 (0:Int),.bl false]) [];let b':=A1 v5;.cd (length v5<=1000000) (.di (A1 v5>9) a<|.di (zc .i64 ((length v5:Int)-A1 v5)>10) a<|.ck (decide (0<=A1 v5)&&decide (0<=toNat b')&&decide (toNat b'<=length v5))<|.ck (Ee<|take (toNat b') v5)<|L5 v5 b b' (B2<|take (toNat b') v5) 1):=by kernel_rfl
def L6(v5:Z)(a b v9:Int):Tr:=re ((stepT O6<|L4 []).L.R.R.L.L)<|Aw 54 [(5,.dat zg v5),(6,.bl false),(7,.dat i64 a),(8,.dat i64 b),(9,.dat i64 v9)] [] 0
theorem Ck(v5:Z):stepT O6 (L4 v5)=let a:Tr:=.leaf (.tup [.dat i64 (0:Int),.dat i64 (0:Int),.bl false]) [];let b':=A1 v5;.cd (length v5<=1000000) (.di (A1 v5>9) a<|.di (zc .i64 ((length v5:Int)-A1 v5)>10) a<|.ck (decide (0<=A1 v5)&&decide (0<=toNat b')&&decide (toNat b'<=length v5))<|.ck (Ee<|take (toNat b') v5)<|L6 v5 b' (B2<|take (toNat b') v5) 1):=by kernel_rfl
def L7(b:Bool)(a v9:Int):Tr:=re ((stepT O6<|L5 [] false 0 0 0).L.L.L)<|Aw 54 [(6,.dat zn b),(8,.dat i64 a),(9,.dat i64 v9)] [] 0
theorem EF(v5:Z)(c:Bool)(a b v9:Int):stepT O6 (L5 v5 c a b v9)=let b':=zc .i64<|a+1;let d:=take (yg (length v5)<|toNat b')<|drop (toNat b') v5;.di (a<(length v5:Int)) (.ck (decide (0<=zc .i64 (a+1))&&true&&decide (toNat b'<=length v5)&&decide (length v5<=length v5))<|.ck (Ee d)<|L7 c b<|B2 d) (L7 c b v9):=by kernel_rfl
def L8(a v9:Int):Tr:=re ((stepT O6<|L6 [] 0 0 0).L.L.L)<|Aw 54 [(6,.bl false),(8,.dat i64 a),(9,.dat i64 v9)] [] 0
theorem E2(v5:Z)(a b v9:Int):stepT O6 (L6 v5 a b v9)=let b':=zc .i64<|a+1;let c:=take (yg (length v5)<|toNat b')<|drop (toNat b') v5;.di (a<(length v5:Int)) (.ck (decide (0<=zc .i64 (a+1))&&true&&decide (toNat b'<=length v5)&&decide (length v5<=length v5))<|.ck (Ee c)<|L8 b<|B2 c) (L8 b v9):=by kernel_rfl
theorem DW(b:Bool)(a v9:Int):stepT O6 (L7 b a v9)=.ite b (.leaf (.tup [.dat i64<|zc .i64<|0-a,.dat i64 v9,.bl true]) []) (.leaf (.tup [.dat i64 a,.dat i64 v9,.bl true]) []):=by kernel_rfl
theorem HH(a v9:Int):stepT O6 (L8 a v9)=.leaf (.tup [.dat i64 a,.dat i64 v9,.bl true]) []:=by kernel_rfl
end T80
namespace T33
def T(a:Z):Tr:=tree O7 false 9 33<|Ag ([zg]) a
theorem Aj(a:Z):T a=let b:Tr:=.ck (decide (1<=length a)&&decide (length a<=length a))<|.leaf (.dat zg<|take (yg (length a) 1)<|drop 1 a) [];let b':Tr:=.ite false b<|.leaf (.dat zg a) [];.ite (a==[(48:UInt8)]) b' (.di ((length a:Int)>0) (.cd (0<(length a:Int))<|.ite ((↑(UInt8.toNat<|getD a 0 (0:UInt8)):Int)==45) (.ite true b<|.leaf (.dat zg a) []) b') b'):=by kernel_rfl
end T33
namespace T113
def T(a:Z):Tr:=tree XM5 false 9 113<|Ag ([zg]) a
theorem Aj(a:Z):T a=.cd (length a<=1000000) (.ck (decide (0<=A1 a)&&decide (0<=toNat (A1 a))&&decide (toNat (A1 a)<=length a))<|.leaf (.dat zg<|take (toNat<|A1 a) a) []):=by kernel_rfl
end T113
namespace T114
def T(a:Z):Tr:=tree XM5 false 9 114<|Ag ([zg]) a
theorem Aj(a:Z):T a=let b:=zc .i64<|A1 a+1;.cd (length a<=1000000) (.ite (A1 a==(length a:Int)) (.leaf (.dat zg [(49:UInt8)]) [])<|.ck (decide (0<=zc .i64 (A1 a+1))&&true&&decide (toNat b<=length a)&&decide (length a<=length a))<|.leaf (.dat zg<|take (yg (length a)<|toNat b)<|drop (toNat b) a) []):=by kernel_rfl
end T114
namespace T49
def T(a:Z)(n:Int):Tr:=tree XM3 false 9 49<|Ag ([zg,qj ye]) (a,n)
theorem Aj(a:Z)(n:Int):T a n=let b:=decide (length a<=1000000);let b':Tr:=.leaf (.bl false) [];.di ((length a:Int)<=zc .i64 (zc .i64 (2*n)+2)) (.ck b<|.ite (An a==0) (.ck b<|.cd (length (AD a)<=1000000)<|.di ((↑(length<|A6<|AD a):Int)<=n) (.ck b<|.leaf (.dat zn<|decide ((↑(length<|QX a):Int)<=n)) []) b') b') b':=by kernel_rfl
end T49
end
theorem aM:CE XM5:=Aa T139.ok Ay
theorem T33.ok:Af A4 33 ZZ:=by
 refine BD Ft<|fun(a:Z) i=>?_;have i:a.length<=1000000:=w6 i;have b:∀s ob,s=A6 a->Ac ZZ a (.dat .str s) ob:=fun s ob h=>zw rfl rfl h
 refine zo (T33.Aj a)<|zl (fun c=>zk rfl (ze<|b _ _ ?_))<|fun c=>?_
 ·have c:a=[48]:=by simpa using c
  subst c;rfl
 ·cases a with
  |nil=>exact zk rfl (zk rfl (ze<|b _ _ rfl))
  |cons x r=>
   have g:(x::r).getD 0 0=x:=rfl;have e:(qy 1 (x::r)).take (yg (x::r).length 1)=r:=by show r.take ((r.length+1)-1)=r;rw[yp];exact List.take_length
   rw[g,e];refine zd (by simp) (zd (by simp)<|zl (fun d=>zd rfl (zd (by simp)<|ze<|b _ _ ?_))<|fun d=>zk rfl (ze<|b _ _ ?_))
   ·have f:x=45:=by
     have:(x.toNat:Int)=45:=by simpa using d
     exact UInt8.toNat_inj.1 (by show _=45;omega)
    unfold A6;rw[g,wd f];rfl
   ·have f:x≠45:=by rintro rfl;exact wh d af
    unfold A6;rw[g,wc f]
theorem T113.ok:Af A4 113 rX:=by
 refine BD aM<|fun(a:Z) hl=>?_;have b:=(qo a).1;refine zo (T113.Aj a)<|zd hl ?_;rw[show A1 a=((AD a).length:Int)from rfl,zj];exact zd (by simp;omega)<|ze<|zw rfl rfl (BY a).1.symm
theorem T114.ok:Af A4 114 cM:=by
 refine BD aM<|fun(a:Z) hl=>?_;have g:a.length<=1000000:=w6 hl;obtain⟨l,e,f⟩:=BY a;have c:∀s ob,s=QX a->Ac cM a (.dat .str s) ob:=fun s ob h=>zw rfl rfl h
 have k:=(qo a).1;have es:A1 a=((AD a).length:Int):=rfl;refine zo (T114.Aj a)<|zd hl ?_;rw[es];cases b:Bw a with
 |false=>
  refine zd (by rw[(f b).1];simp)<|ze<|c _ _ ?_;unfold QX;rw[b];rfl
 |true=>
  obtain⟨m,j⟩:=e b;have i:zc .i64 (((AD a).length:Int)+1)=(((AD a).length+1:Nat):Int):=by rw[wr _ ae ae];omega
  have d:(a.drop<|(AD a).length+1).take (yg a.length<|(AD a).length+1)=a.drop ((AD a).length+1):=zt (by rw[z7];exact yf _);rw[i,zj,d];refine zk (by simp;omega) (zd (by simp;omega)<|ze<|c _ _ ?_);unfold QX;rw[b,j];rfl
theorem wZ:CE XM3:=Aa T78.ok<|Aa T33.ok<|Aa T113.ok<|Aa T114.ok Ay
theorem T49.ok:Af A4 49 ZX:=by
 refine BD wZ<|fun(i:Z×Int) g=>?_;obtain⟨a,n⟩:=i;have g:(decide (0<=n)&&decide (n<=1000))=true:=g;rw[zf,w5,w5]at g;obtain⟨h0,h1⟩:=g;have f:∀v b ob,v=.bl b\/v=.dat .bool b->b=Ci a n->Ac ZX (a,n) v ob:=by
  rintro v b ob (rfl|rfl) j
  ·exact zw rfl rfl j
  ·exact zw rfl rfl j
 have k:zc .i64 (zc .i64 (2*n)+2)=2*n+2:=by rw[wr (2*n) ae ae];exact wr _ ae ae
 have l:=(qo a).1;refine zo (T49.Aj a n) ?_;conv=>zeta
 rw[k];by_cases h:a.length<=1000000
 case neg=>
  have c:decide ((a.length:Int)<=2*n+2)=false:=w8 ae;refine zk c<|ze<|f _ _ _ (.inl rfl) ?_;unfold Ci;rw[c];rfl
 refine zl (fun c=>zd (w4 h)<|zl (fun d=>zd (w4 h)<|zd (w4 ae)<|zl (fun e=>zd (w4 h)<|ze<|f _ _ _ (.inr rfl) ?_)<|fun e=>ze<|f _ _ _ (.inl rfl) ?_)<|fun d=>ze<|f _ _ _ (.inl rfl) ?_)<|fun c=>ze<|f _ _ _ (.inl rfl) ?_
 ·have d:An a=0:=by simpa using d
  unfold Ci;rw[c,e,w4 d];rfl
 ·unfold Ci;rw[e];simp
 ·have d:An a≠0:=by simpa using d
  unfold Ci;rw[w8 d];simp
 ·unfold Ci;rw[c];rfl
namespace T144
theorem Ar(g:Nat)(b:∀ob,Q (.dat i64 (g:Int)) ob):∀(f x y:Nat),y<f->Nat.gcd x y=g->Ends O7 (L1 (x:Int) (y:Int)) Q
 |0,x,y,h,_=>by omega
 |f+1,x,y,d,a=>by
  refine zx (Ak ..) ?_;conv=>zeta
  by_cases h0:y=0
  ·subst h0;rw[Nat.gcd_zero_right]at a;subst a;exact zk rfl (ze<|b _)
  ·have e:yc (x:Int) (y:Int)=((x % y:Nat):Int):=by rw[yj<|yn x];rfl
   rw[e];have c:x % y<y:=qu _ ae;exact zd (by simp;omega) (zd (by simp;omega) (Ar g b f y (x % y) ae<|by rw[Nat.gcd_comm, <-Nat.gcd_rec,Nat.gcd_comm];exact a))
theorem ok:Af A4 144 AbN:=by
 refine BD Ft<|fun(i:Int×Int) c=>?_;obtain⟨a,b⟩:=i;have c:(decide (0<=a)&&decide (a<9223372036854775808)&&decide (0<=b)&&decide (b<9223372036854775808))=true:=c;rw[zf,zf,zf,w5,w5,w5,w5]at c;obtain⟨⟨⟨a0,_⟩,b0⟩,_⟩:=c;obtain⟨x,rfl⟩:=zz a0;obtain⟨y,rfl⟩:=zz b0;refine zo (Aj x y)<|Ar (Nat.gcd x y) (fun ob=>zw rfl rfl ?_) (y+1) x y (Nat.lt_succ_self _) rfl;show((Nat.gcd x y:Nat):Int)=Sp.gI (x:Int) (y:Int);rw[GC];rfl
end T144
namespace T87
theorem ok:Af A4 87 M6:=by
 refine BD Ft<|fun(s:Z) hl=>?_;have a:∀v ob,v=F4 s->Ac M6 s (.dat i64 v) ob:=fun v ob f=>zw rfl rfl f
 refine zo (Aj s)<|zl (fun c=>ze<|a _ _ ?_)<|fun c=>?_
 ·have c:s=[48]:=by simpa using c
  unfold F4;rw[wd c]
 ·have c:¬s=[48]:=by simpa using c
  cases s with
  |nil=>exact zk rfl (ze<|a _ _ rfl)
  |cons x r=>
   have e:(x::r).getD 0 0=x:=rfl;rw[e];refine zd (by simp) (zd (by simp)<|zl (fun d=>ze<|a _ _ ?_)<|fun d=>ze<|a _ _ ?_)
   ·have b:x=45:=by
     have:(x.toNat:Int)=45:=by simpa using d
     exact UInt8.toNat_inj.1 (by show _=45;omega)
    unfold F4;rw[wc c,e,wd b]
   ·have b:x≠45:=by rintro rfl;exact wh d af
    unfold F4;rw[wc c,e,wc b]
end T87
theorem wJ:CE XO2:=Aa T87.ok Ay
theorem T86.ok:Af A4 86 cE:=by
 refine BD wJ<|fun(s:Z) b=>?_;have b:s.length<=1000000:=w6 b;have a:∀v ob,v=MS s->Ac cE s (.dat .str v) ob:=fun v ob e=>zw rfl rfl e
 refine zo (T86.Aj s)<|zd (w4 b) ?_;unfold MS at a;unfold F4;by_cases c:s=[48]
 ·rw[wd c];rw[wd c]at a;exact zk rfl (zd (w4 b)<|zd rfl (ze<|a _ _ rfl))
 ·rw[wc c];rw[wc c]at a;by_cases d:s.getD 0 0=45
  ·rw[wd d];rw[wd d]at a;have f:s≠[]:=by rintro rfl;exact wh d af
   have hp:1<=s.length:=yy.2 f;refine zd rfl (zd (by simp;omega)<|ze<|a _ _ ?_);exact zt (by rw[z7];exact yf _)
  ·rw[wc d];rw[wc d]at a;exact zk rfl (zd (w4 b)<|zk rfl (zd (by simp;omega)<|ze<|a _ _ rfl))
namespace T145
theorem dT:∀k:Fin 10,qf (yg (k.1+1) k.1) (qy k.1 [(48:UInt8),49,50,51,52,53,54,55,56,57])=[yx<|48+k.1]:=af
theorem Ar{Q:PV->Ob->Prop}(l:Nat)(s:l<=20):∀(f n:Nat) (a:Z),n<9223372036854775808->n<10^f->l<=a.length+f->a.length+f<=64->(∀ob,Q (.dat .str<|Ik (f+1) n l a) ob)->Ends O7 (L1 (n:Int) (l:Int) a) Q:=by
 intro f;induction f with
 |zero=>
  intro n a r e i h b;have h0:n=0:=by rw[Nat.pow_zero]at e;omega
  subst h0;unfold Ik at b;rw[wd ⟨rfl,by omega⟩]at b;exact zx (Ak ..) (zk rfl (zk (by simp;omega)<|ze<|b _))
 |succ f q=>
  intro n a r e i h b;have k:yc (n:Int) 10=((n % 10:Nat):Int):=by rw[yj<|yn n];rfl
  have o:zc .i64 (((n % 10:Nat):Int)+1)=((n % 10+1:Nat):Int):=by rw[wr _ ae ae];omega
  have p:zc .i64 (ym (n:Int) 10)=((n/10:Nat):Int):=by rw[y8<|yn n,wr _ ae ae];rfl
  have g:=dT ⟨n % 10,qu _ af⟩;have g:qf (yg (n % 10+1)<|n % 10) (qy (n % 10) [(48:UInt8),49,50,51,52,53,54,55,56,57])=[yx<|48+n % 10]:=g;have t:n % 10<10:=qu _ af;rw[Nat.pow_succ]at e;refine zx (Ak ..) ?_;conv=>zeta
  rw[k,o,p,zj,zj,g];by_cases j:n=0/\l<=a.length
  ·obtain⟨m,z2⟩:=j;subst m;unfold Ik at b;rw[wd ⟨rfl,z2⟩]at b;exact zk rfl (zk (by simp;omega)<|ze<|b _)
  ·have d:∀ob,Q (.dat .str<|Ik (f+1) (n/10) l (yx (48+n % 10)::a)) ob:=by
    intro ob;have:=b ob;unfold Ik at this;rw[wc j]at this;exact this
   have go:Ends O7 (L1 ((n/10:Nat):Int) (l:Int)<|[yx<|48+n % 10]++a) Q:=q (n/10) (yx (48+n % 10)::a) ae ae (by rw[yd];omega) (by rw[yd];omega) d;refine zl (fun _=>?_)<|fun c=>zd ?_ ?_
   ·exact zd rfl (zd rfl (zd (by simp;omega)<|zd (by simp;omega)<|zd rfl go))
   ·have c:=w7 c;exact w4 ae
   ·exact zd rfl (zd rfl (zd (by simp;omega)<|zd (by simp;omega)<|zd rfl go))
theorem ok:Af A4 145 RA:=by
 refine BD Ft<|fun(i:Int×Int) c=>?_;obtain⟨a,b⟩:=i;have c:(decide (0<=a)&&decide (a<9223372036854775808)&&decide (0<=b)&&decide (b<=20))=true:=c;rw[zf,zf,zf,w5,w5,w5,w5]at c;obtain⟨⟨⟨a0,a1⟩,b0⟩,b1⟩:=c;obtain⟨x,rfl⟩:=zz a0;obtain⟨y,rfl⟩:=zz b0;refine zo (Aj x y) (Ar y ae 63 x [] ae ae (by show y<=0+63;omega) af<|fun ob=>zw rfl rfl ?_);show Ik 64 x y []=Ik 64 (x:Int).toNat (y:Int).toNat [];rw[zj,zj]
end T145
theorem vK:CE O6:=Aa T142.ok<|Aa T139.ok Ay
namespace T80
theorem CJ(neg:Bool)(n d:Int)(h0:0<=n)(b:n<1000000000)(a:∀ob,Q (.tup [.dat i64<|if neg=true then -n else n,.dat i64 d,.bl true]) ob):Ends O6 (L7 neg n d) Q:=by
 refine zx (DW ..) ?_;conv=>zeta
 cases neg with
 |true=>
  refine zd rfl (ze ?_);rw[wr _ ae ae,Int.zero_sub];exact a _
 |false=>exact zk rfl (ze<|a _)
theorem CX(s:Z)(neg:Bool)(n:Int)(h0:0<=n)(d:n<1000000000)(l:s.length<=20)(o:(yu s).length<=9)(db:Aq (yu s)=true)(a:∀ob,Q (.tup [.dat i64<|if neg=true then -n else n,.dat i64<|if Bw s=true then AI 0 (yu s)else 1,.bl true]) ob):Ends O6 (L5 s neg (A1 s) n 1) Q:=by
 obtain⟨m,f,i⟩:=BY s;refine zx (EF ..) ?_;conv=>zeta
 have es:A1 s=((AD s).length:Int):=rfl;have k:=(qo s).1;cases b:Bw s with
 |true=>
  rw[b]at a;obtain⟨e,c⟩:=f b;have j:zc .i64 (A1 s+1)=(((AD s).length+1:Nat):Int):=by rw[es,wr _ ae ae];omega
  have h:(yu s).length=s.length-((AD s).length+1):=by rw[c,z7]
  have g:(yu s).take (yg s.length<|(AD s).length+1)=yu s:=zt (by show _<=s.length-_;omega);rw[j,zj, <-c,g];exact zd (by simp[es];omega) (zd (by simp;omega)<|zd (T138.Co db ae)<|CJ neg n _ h0 d a)
 |false=>
  obtain⟨e,c⟩:=i b;rw[b]at a;exact zk (by simp[es,e])<|CJ neg n 1 h0 d a
theorem Dx(s:Z)(neg:Bool)(e:s.length<=20)(k:(AD s).length<=9)(l:(yu s).length<=9)(b:Aq (AD s)=true)(db:Aq (yu s)=true)(f:∀n ob,n=AI 0 (AD s)->Q (.tup [.dat i64<|if neg=true then -n else n,.dat i64<|if Bw s=true then AI 0 (yu s)else 1,.bl true]) ob):Ends O6 (L3 s neg ) Q:=by
 obtain⟨i,d,j⟩:=BY s;have es:A1 s=((AD s).length:Int):=rfl;have m:=(qo s).1;have a:s.length-(AD s).length<=10:=by
  cases c:Bw s with
  |true=>
   obtain⟨o,g⟩:=d c;have:(yu s).length=s.length-((AD s).length+1):=by rw[g,z7]
   omega
  |false=>rw[(j c).1];omega
 have h:qf (qx<|A1 s) s=AD s:=by rw[es,zj];exact i.symm
 obtain⟨v0,v1⟩:=T138.CR b k;refine zx (Bq ..) ?_;conv=>zeta
 rw[h];refine zd (by simp;omega) (zk (by simp[es];omega) (zk ?_<|zd (by simp[es];omega)<|zd (T138.Co b ae) ?_))
 ·rw[es,wr _ ae ae];exact w8 ae
 ·exact CX s neg (AI 0<|AD s) v0 v1 e l db<|fun ob=>f _ ob rfl
theorem F9(n d:Int)(a:∀ob,Q (.tup [.dat i64 n,.dat i64 d,.bl true]) ob):Ends O6 (L8 n d) Q:=by
 refine zx (HH ..) ?_;conv=>zeta
 exact ze<|a _
theorem Fs(s:Z)(n:Int)(l:s.length<=20)(m:(yu s).length<=9)(db:Aq (yu s)=true)(a:∀ob,Q (.tup [.dat i64 n,.dat i64<|if Bw s=true then AI 0 (yu s)else 1,.bl true]) ob):Ends O6 (L6 s (A1 s) n 1) Q:=by
 obtain⟨k,f,g⟩:=BY s;refine zx (E2 ..) ?_;conv=>zeta
 have es:A1 s=((AD s).length:Int):=rfl;have j:=(qo s).1;cases b:Bw s with
 |true=>
  rw[b]at a;obtain⟨d,c⟩:=f b;have i:zc .i64 (A1 s+1)=(((AD s).length+1:Nat):Int):=by rw[es,wr _ ae ae];omega
  have e:(yu s).length=s.length-((AD s).length+1):=by rw[c,z7]
  have h:(yu s).take (yg s.length<|(AD s).length+1)=yu s:=zt (by show _<=s.length-_;omega);rw[i,zj, <-c,h];exact zd (by simp[es];omega) (zd (by simp;omega)<|zd (T138.Co db ae)<|F9 n _ a)
 |false=>
  obtain⟨d,c⟩:=g b;rw[b]at a;exact zk (by simp[es,d])<|F9 n 1 a
theorem Cb(s:Z)(e:s.length<=20)(k:(AD s).length<=9)(l:(yu s).length<=9)(b:Aq (AD s)=true)(db:Aq (yu s)=true)(f:∀n ob,n=AI 0 (AD s)->Q (.tup [.dat i64 n,.dat i64<|if Bw s=true then AI 0 (yu s)else 1,.bl true]) ob):Ends O6 (L4 s ) Q:=by
 obtain⟨i,d,j⟩:=BY s;have es:A1 s=((AD s).length:Int):=rfl;have m:=(qo s).1;have a:s.length-(AD s).length<=10:=by
  cases c:Bw s with
  |true=>
   obtain⟨o,g⟩:=d c;have:(yu s).length=s.length-((AD s).length+1):=by rw[g,z7]
   omega
  |false=>rw[(j c).1];omega
 have h:qf (qx<|A1 s) s=AD s:=by rw[es,zj];exact i.symm
 obtain⟨v0,v1⟩:=T138.CR b k;refine zx (Ck ..) ?_;conv=>zeta
 rw[h];refine zd (by simp;omega) (zk (by simp[es];omega)<|zk ?_<|zd (by simp[es];omega)<|zd (T138.Co b ae) ?_)
 ·rw[es,wr _ ae ae];exact w8 ae
 ·exact Fs s (AI 0<|AD s) e l db<|fun ob=>f _ ob rfl
end T80
end Go.Pe
namespace Go.Sp
theorem Hy(a:List Int)(i:Nat):val B9 (a.drop i)=a.getD i 0+1000000000*val B9 (a.drop<|i+1):=by
 by_cases h:i<a.length
 ·rw[CB h];rfl
 ·rw[zr ae,zr ae,show a.getD i 0=0 by rw[z8,yi ae];rfl];rfl
structure Gx(a b:List Int)(i:Nat)(o:List Int)(c:Int):Prop where
 len:o.length=i
 d:AB B9 o
 c01:0<=c/\c<=1
 v:val B9 o+(B9:Int)^i*(c+val B9 (a.drop i)+val B9 (b.drop i))=Ao a+Ao b
 top:a.length<=i->b.length<=i->i=0\/(B9:Int)^(i-1)<=val B9 o+(B9:Int)^i*c
theorem Gx.start(a b:List Int):Gx a b 0 [] 0:=⟨rfl,(fun x c=>by cases c),by decide,by
 show 0+(B9:Int)^0*(0+val B9 a+val B9 b)=val B9 a+val B9 b;rw[Int.pow_zero,ql];omega,fun _ _=>.inl rfl⟩
theorem BM{a:List Int}(h:Ba a=true)(i:Nat):0<=a.getD i 0/\a.getD i 0<1000000000:=Hp (By h).2.1 i
theorem UA{a:List Int}(h:Ba a=true){i:Nat}(b:i<a.length)(c:a.length<=i+1):1<=a.getD i 0:=by
 have:=(Go.Pe.Hg (By h).2.1 (By h).2.2 (k:=i) ae).1;omega
theorem Gx.step{a b:List Int}{i:Nat}{o:List Int}{c:Int}(h:Gx a b i o c)(n:Ba a=true)(m:Ba b=true)(g:i<a.length\/i<b.length\/0<c):
  Gx a b (i+1) (o++[(a.getD i 0+b.getD i 0+c) % 1000000000]) ((a.getD i 0+b.getD i 0+c)/1000000000):=by
 obtain⟨s,t⟩:=BM n i;obtain⟨y0,y1⟩:=BM m i;obtain⟨c0,c1⟩:=h.c01;have l:=h.v;rw[Hy a i,Hy b i]at l;have j:1<=a.getD i 0+b.getD i 0+c\/¬(a.length<=i+1/\b.length<=i+1):=by
  by_cases k:a.length<=i+1/\b.length<=i+1
  ·refine .inl ?_;rcases g with g|g|g
   ·have:=UA n g k.1;omega
   ·have:=UA m g k.2;omega
   ·omega
  ·exact .inr k
 have u:=AJ (b:=B9) af h.d;have p:=AU (b:=B9) af i;generalize a.getD i 0=x at*;generalize b.getD i 0=y at*;have f:val B9 (o++[(x+y+c) % 1000000000])=val B9 o+(B9:Int)^i*((x+y+c) % 1000000000):=by rw[CC,h.len]
 refine⟨by rw[zm,h.len];rfl,F5 h.d ae,by omega,?_,fun r q=>.inr ?_⟩
 ·rw[f,KW,qt, <-y9, <-l];congr 2;omega
 ·rw[f,KW,qt, <-y9,yp];have e:(x+y+c) % 1000000000+1000000000*((x+y+c)/1000000000)=x+y+c:=ae
  rw[e];rcases j with j|j
  ·have:=zy j<|yb p;rw[qm]at this;omega
  ·exact wh ⟨r,q⟩ j
theorem Agc{o:List Int}(j:AB B9 o)(h:o=[]\/(B9:Int)^(o.length-1)<=val B9 o):nz o:=by
 rcases h with rfl|h
 ·unfold nz;simp
 ·intro e;have c:o≠[]:=by rintro rfl;simp at e
  have f:o=o.dropLast++[0]:=by
   have d:=(List.dropLast_concat_getLast c).symm;rw[List.getLast?_eq_some_getLast c]at e;rw[Option.some.inj e]at d;exact d
  have i:o.length=o.dropLast.length+1:=by rw[List.length_dropLast];have:=yy.2 c;omega
  have g:val B9 o=val B9 o.dropLast:=by
   conv=>lhs;rw[f]
   rw[CC,qg,qh]
  have a:AB B9 o.dropLast:=fun x k=>j x (by rw[f];exact List.mem_append_left _ k)
  have:=BC (b:=B9) af a;rw[g,i,yp]at h;omega
theorem Gx.fin{a b:List Int}{i:Nat}{o:List Int}(h:Gx a b i o 0)(e:a.length<=i)(g:b.length<=i):o=Ip a b:=by
 have c:=h.v;rw[zr e,zr g]at c;have c:val B9 o+(B9:Int)^i*(0+0+0)=Ao a+Ao b:=c;rw[show(0+0+0:Int)=0 from rfl,qg,qh]at c;have f:=h.top e g;rw[qg,qh, <-h.len]at f;have j:nz o:=Agc h.d (by
  rcases f with k|k
  ·exact .inl<|z6.1 k
  ·exact .inr k)
 unfold Ip;rw[<-c];exact Jf (b:=B9) af h.d j
structure Hm(a b:List Int)(i:Nat)(o:List Int)(c:Int):Prop where
 len:o.length=i
 d:AB B9 o
 c01:0<=c/\c<=1
 v:val B9 o+(B9:Int)^i*(val B9 (a.drop i)-val B9 (b.drop i)-c)=Ao a-Ao b
theorem Hm.start(a b:List Int):Hm a b 0 [] 0:=⟨rfl,(fun x c=>by cases c),by decide,by
 show 0+(B9:Int)^0*(val B9 a-val B9 b-0)=val B9 a-val B9 b;rw[Int.pow_zero,ql];omega⟩
theorem Hm.step{a b:List Int}{i:Nat}{o:List Int}{c:Int}(h:Hm a b i o c)(g:Ba a=true)(j:Ba b=true)(d e:Int)(m:(a.getD i 0-b.getD i 0-c<0/\d=a.getD i 0-b.getD i 0-c+1000000000/\e=1)\/(¬a.getD i 0-b.getD i 0-c<0/\d=a.getD i 0-b.getD i 0-c/\e=0)):
  Hm a b (i+1) (o++[d]) e:=by
 obtain⟨l,k⟩:=BM g i;obtain⟨y0,y1⟩:=BM j i;obtain⟨c0,c1⟩:=h.c01;have f:=h.v;rw[Hy a i,Hy b i]at f;generalize a.getD i 0=x at*;generalize b.getD i 0=y at*;refine⟨by rw[zm,h.len];rfl,F5 h.d ae,by omega,?_⟩;rw[CC,h.len,KW,qt, <-y9, <-f];congr 2;omega
theorem Hm.fin{a b:List Int}{o:List Int}{c:Int}(h:Hm a b a.length o c)(i:Ba b=true)(l:Ao b<=Ao a):AA o=I2 a b:=by
 have e:=h.v;rw[List.drop_length]at e;have h0:=AJ (b:=B9) af<|Fg (By i).2.1 a.length;have f:=BC (b:=B9) af h.d;rw[h.len]at f;obtain⟨n,m⟩:=h.c01;have g:=AU (b:=B9) af a.length;have e:val B9 o+(B9:Int)^a.length*(0-val B9 (b.drop a.length)-c)=Ao a-Ao b:=e;generalize val B9 (b.drop a.length)=z at*;have j:0-z-c=0:=by
  rcases Int.lt_or_le (0-z-c) 0 with k|k
  ·have:=zy (show 0-z-c<= -1 by omega)<|yb g;rw[qc,qm]at this;omega
  ·omega
 rw[j,qg,qh]at e;unfold I2;rw[FF h.d, <-e];rfl
open Go.Lib
theorem YW(n:Int):rN n=decide (n<0):=rfl
theorem JJ(a:Bool×List Int):(a.1=true->vR a= -Ao a.2)/\(a.1=false->vR a=Ao a.2):=by
 unfold vR;exact⟨fun h=>by rw[wd h],fun h=>by rw[wc<|by rw[h];decide]⟩
theorem K3{neg:Bool}{w:List Int}{n:Int}(c:AB B9 w)(h0:0<=Ao w)(a:neg=true->n= -Ao w)(b:neg=false->n=Ao w):(CQ neg w,AA w)=(rN n,rW n):=by
 refine pY c ?_<|fun d=>?_
 ·rw[Al];cases neg with
  |true=>have:=a rfl;omega
  |false=>have:=b rfl;omega
 ·rw[YW];cases neg with
  |true=>have:=a rfl;symm;rw[w5];omega
  |false=>have:=b rfl;symm;rw[w9];omega
theorem EE{n:Int}(h:0<=n):Ao (BW n)=n/\AB B9 (BW n):=⟨Dj (b:=B9) af h,Gg (b:=B9) af n⟩
theorem gG{a b:Bool×List Int}(d:CD a=true)(e:CD b=true)(h:a.1=b.1):(CQ a.1<|Ip a.2 b.2,AA<|Ip a.2 b.2)=(NT a b,Om a b):=by
 have a0:=(E7 d).2;have g:=(E7 e).2;obtain⟨c,f⟩:=JJ a;obtain⟨f1,f2⟩:=JJ b;obtain⟨hv,hd⟩:=EE (n:=Ao a.2+Ao b.2) ae;refine K3 hd (by show 0<=Ao (BW _);omega) (fun k=>?_)<|fun k=>?_
 ·rw[c k,f1<|by rw[<-h];exact k];show _= -Ao (BW _);omega
 ·rw[f k,f2<|by rw[<-h];exact k];show _=Ao (BW _);omega
theorem ZP{a b:Bool×List Int}(c:CD b=true)(h:a.1≠b.1)(g:Ao b.2<=Ao a.2):(CQ a.1<|I2 a.2 b.2,AA<|I2 a.2 b.2)=(NT a b,Om a b):=by
 have f:=(E7 c).2;obtain⟨d,e⟩:=JJ a;obtain⟨f1,f2⟩:=JJ b;obtain⟨hv,hd⟩:=EE (n:=Ao a.2-Ao b.2) ae;refine K3 hd (by show 0<=Ao (BW _);omega) (fun k=>?_)<|fun k=>?_
 ·rw[d k,f2 (by rw[k]at h;cases c:b.1 with|true=>exact wh c.symm h|false=>rfl)];show _= -Ao (BW _);omega
 ·rw[e k,f1 (by rw[k]at h;cases c:b.1 with|true=>rfl|false=>exact wh c.symm h)];show _=Ao (BW _);omega
theorem yO{a b:Bool×List Int}(d:CD a=true)(h:a.1≠b.1)(c:Ao a.2<=Ao b.2):(CQ b.1<|I2 b.2 a.2,AA<|I2 b.2 a.2)=(NT a b,Om a b):=by
 have:=ZP d (fun k=>h k.symm) c;rw[this];unfold NT Om;rw[Int.add_comm]
theorem tI{a b:Bool×List Int}(h:CD a=true)(i:CD b=true):(CQ (a.1 !=b.1)<|BW<|Ao a.2*Ao b.2,AA<|BW<|Ao a.2*Ao b.2)=(Iu a b,It a b):=by
 have a0:=(E7 h).2;have g:=(E7 i).2;obtain⟨e,f⟩:=JJ a;obtain⟨f1,f2⟩:=JJ b;have p0:=qn a0 g;obtain⟨hv,hd⟩:=EE p0;refine K3 hd ae (fun k=>?_)<|fun k=>?_
 ·rw[hv];cases c:a.1<;>cases d:b.1<;>rw[c,d]at k
  ·exact wh k af
  ·rw[f c,f1 d,qc]
  ·rw[e c,f2 d,Int.neg_mul]
  ·exact wh k af
 ·rw[hv];cases c:a.1<;>cases d:b.1<;>rw[c,d]at k
  ·rw[f c,f2 d]
  ·exact wh k af
  ·exact wh k af
  ·rw[e c,f1 d,Int.neg_mul,qc,Int.neg_neg]
theorem pD{a:Bool×List Int}(b:CD a=true):(CQ (!a.1) a.2,AA a.2)=(TS a,Vd a):=by
 have a0:=(E7 b).2;obtain⟨c,d⟩:=JJ a;refine K3 (By (Dq b).1).2.1 a0 (fun k=>?_)<|fun k=>?_
 ·rw[d<|by simpa using k]
 ·rw[c (by simpa using k),Int.neg_neg]
theorem Nv{b:Bool×List Int}(c:CD b=true)(h0:0<vR b):b.1=false/\vR b=Ao b.2:=by
 have e:=(E7 c).2;obtain⟨a,d⟩:=JJ b;cases h:b.1 with
 |true=>have:=a h;omega
 |false=>exact⟨rfl,d h⟩
theorem mO{A b:Int}(c:0<b)(hr:A % b≠0): -A/b= -(A/b+1):=by
 have d:=Int.mul_ediv_add_emod A b;have f:=Int.emod_nonneg A (show b≠0 by omega);have e:=Int.emod_lt_of_pos A c;refine((Int.ediv_emod_unique (a:= -A) (b:=b) (r:=b-A % b) (q:= -(A/b+1)) c).2 ⟨?_,by omega,by omega⟩).1;rw[qc,y9,qm];omega
theorem Xv{A b:Int}(c:0<b)(hr:A % b=0): -A/b= -(A/b):=by
 have d:=Int.mul_ediv_add_emod A b;refine((Int.ediv_emod_unique (a:= -A) (b:=b) (r:=0) (q:= -(A/b)) c).2 ⟨?_,by omega,c⟩).1;rw[qc];omega
theorem Qi{a b:Bool×List Int}(c:CD a=true)(d:CD b=true)(h0:0<vR b)(h:a.1=false\/Ao a.2 % Ao b.2=0):(CQ a.1<|BW<|Ao a.2/Ao b.2,AA<|BW<|Ao a.2/Ao b.2)=(JQ a b,JC a b):=by
 have a0:=(E7 c).2;obtain⟨e,g⟩:=JJ a;obtain⟨_,f⟩:=Nv d h0;rw[f]at h0;have q0:=qi a0<|yb h0;obtain⟨hv,hd⟩:=EE q0;refine K3 hd ae (fun k=>?_)<|fun k=>?_
 ·rw[hv,e k,f];rcases h with h|h
  ·rw[k]at h;cases h
  ·exact Xv h0 h
 ·rw[hv,g k,f]
theorem Yf{a b:Bool×List Int}(d:CD a=true)(g:CD b=true)(h0:0<vR b)(h:a.1=true)(hr:Ao a.2 % Ao b.2≠0):(CQ a.1<|Ip (BW<|Ao a.2/Ao b.2) [1],AA<|Ip (BW<|Ao a.2/Ao b.2) [1])=(JQ a b,JC a b):=by
 have a0:=(E7 d).2;obtain⟨i,l⟩:=JJ a;obtain⟨_,f⟩:=Nv g h0;rw[f]at h0;have q0:=qi a0<|yb h0;have e:Ip (BW<|Ao a.2/Ao b.2) [1]=BW (Ao a.2/Ao b.2+1):=by
  unfold Ip;rw[(EE q0).1];rfl
 rw[e];obtain⟨c,j⟩:=EE (n:=Ao a.2/Ao b.2+1) ae;refine K3 j ae (fun k=>?_)<|fun k=>?_
 ·rw[c,i k,f];exact mO h0 hr
 ·rw[h]at k;cases k
theorem zH{w:List Int}{i:Nat}(a:w.length=i+1):val B9 (w.drop i)=w.getD i 0:=by
 rw[Hy,zr ae];show _+1000000000*0=_;omega
theorem Y4{w:List Int}(a:Ba w=true){i:Nat}(b:w.length=i+1):IP (w.getD i 0) 1=decDigits (val B9<|w.drop i).toNat/\0<val B9 (w.drop i):=by
 have g:=BM a i;have t:=UA a (i:=i) ae ae;rw[zH b];exact⟨Rj g.1 ae,by omega⟩
theorem dK{w:List Int}(a:Ba w=true)(i:Nat)(h0:0<val B9 (w.drop<|i+1)):decDigits (val B9<|w.drop<|i+1).toNat++IP (w.getD i 0) 9=decDigits (val B9<|w.drop i).toNat/\0<val B9 (w.drop i):=by
 have g:=BM a i;rw[Hy w i,eI g.1 g.2];generalize val B9 (w.drop<|i+1)=V at*;generalize w.getD i 0=x at*;have h:=U6 9 V.toNat x.toNat af ae ae;refine⟨?_,by omega⟩;rw[<-h];congr 1;omega
theorem oZ{a:Bool×List Int}(d:CD a=true)(c:a.2≠[]):(if a.1=true then 45::decDigits (Ao a.2).toNat else decDigits (Ao a.2).toNat)=F7 a:=by
 obtain⟨e,f⟩:=JJ a;have h0:0<Ao a.2:=J9 (b:=B9) af (By (Dq d).1).2.1 (By (Dq d).1).2.2 c;unfold F7 AZ itoa;by_cases h:a.1=true
 ·rw[wd h,e h,wd ae,show(-Ao a.2).natAbs=(Ao a.2).toNat by omega]
 ·have h:a.1=false:=by simpa using h
  rw[wc (by rw[h];decide),f h,wc ae]
theorem sM{a:Bool×List Int}(h:a.2=[]):[48]=F7 a:=by
 have:vR a=0:=by
  unfold vR;rw[h];split<;>rfl
 unfold F7 AZ itoa;rw[this,wc af,show(0:Int).toNat=0 from rfl,decDigits_one af];rfl
theorem Ie{N D:Int}(b:0<D):0<gI (Ah N) D/\Ah N/gI (Ah N) D=Ah (zq N D).num/\D/gI (Ah N) D=((zq N D).den:Int)/\(N<0↔(zq N D).num<0):=by
 have f:D.sign=1:=Int.sign_eq_one_of_pos b;have i:(zq N D).num=N/(qp N D:Int):=by rw[Rat.num_divInt,f,ql,Int.gcd_comm]
 have l:((zq N D).den:Int)=D/(qp N D:Int):=by
  rw[Rat.den_divInt,wc<|Int.ne_of_gt b,Int.gcd_comm,Int.natCast_ediv];rw[Int.natAbs_of_nonneg<|yb b]
 have e:gI (Ah N) D=(qp N D:Int):=by rw[GC,Al];rfl
 have a:0<qp N D:=Int.gcd_pos_of_ne_zero_right _ ae;obtain⟨k,c⟩:(qp N D:Int)∣N:=Int.gcd_dvd_left ..;rw[e,i,l];have a:(0:Int)<(qp N D:Int):=ae
 generalize (qp N D:Int)=g at*;have d:N/g=k:=by rw[c,qd _ ae]
 have j:Ah N/g=Ah k:=by
  rw[Al,Al,c,Int.natAbs_mul,Int.natCast_mul,show((g.natAbs:Nat):Int)=g by omega,qd _ ae]
 refine⟨a,by rw[d,j],rfl,?_⟩;rw[d];constructor
 ·intro h;rcases Int.lt_or_le k 0 with x|x
  ·exact x
  ·have:=qn (yb a) x;omega
 ·intro h;have:=Int.mul_neg_of_pos_of_neg a h;omega
theorem jW{N D:Int}(c:0<D){neg:Bool}(d:neg=rN N):(CQ neg<|BW<|Ah N/gI (Ah N) D,AA<|BW<|Ah N/gI (Ah N) D)=(rN (zq N D).num,rW (zq N D).num):=by
 obtain⟨_,a,_,b⟩:=Ie (N:=N) c;rw[a];have a0:=OQ (zq N D).num;obtain⟨hv,hd⟩:=EE a0;refine pY hd hv<|fun _=>?_;rw[d,YW,YW,decide_eq_decide];exact b
theorem uW{n:Int}(h0:0<=n):BW n=[1]↔n=1:=by
 constructor
 ·intro h;have:=(EE h0).1;rw[h]at this;exact this.symm
 ·rintro rfl;rfl
theorem Sx{N D:Int}:CT N D=if (zq N D).den=1 then AZ (zq N D).num else AZ (zq N D).num++47::AZ ((zq N D).den:Int):=by
 unfold CT AH;split
 ·rfl
 ·rw[show AZ ((zq N D).den:Int)=decDigits (zq N D).den from Lib.itoa_nonneg _];rfl
theorem Vi(N D:Int):CT (-N) (-D)=CT N D:=by
 unfold CT;rw[Rat.neg_divInt_neg]
theorem Py{s:Z}(h:A2 s=true):Be s=Jj s/\AR s=Tf s/\Aq (AD<|A6 s)=true/\Aq (AV<|A6 s)=true:=by
 obtain⟨t,_⟩:=Gc h;obtain⟨c1,c2,c3⟩:=FL<|As s;obtain⟨p1,p2,p3,p4⟩:=Ty s;obtain⟨i1,i2,i3,i4⟩:=DB (As s).num;rw[t]at c1 c2 c3;have b:Aq (AV s)=true:=by
  rw[c2];split
  ·rfl
  ·exact D9 _
 refine⟨?_,?_,?_,?_⟩
 ·unfold Be Jj BS;rw[p1, <-p4];unfold A6 preB;by_cases a:(AD s).getD 0 0=45
  ·rw[wd a,wd a,wd<|w4 a]
  ·rw[wc a,wc a,wc<|by rw[w8 a];decide]
 ·unfold AR Tf BS;rw[p2,p3,wc<|Gi b]
 ·rw[p1,c1,i2];exact D9 _
 ·rw[p2];exact b
theorem Hb{s:Z}(h:A2 s=true)(a:Ei s=true):qV s=Be s/\VS s=AR s/\ -1000000000<Be s/\Be s<1000000000/\0<AR s/\AR s<1000000000:=by
 obtain⟨b,c,d,e⟩:=Py h;have g:0<AR s:=by
  have:=(D6 h).2.2.2.2.2.1;have:=(As s).den_pos;omega
 unfold qV VS;rw[wd a,wd a];unfold Ei at a;rw[zf,zf,w5,w5,w5]at a;obtain⟨⟨_,l1⟩,f⟩:=a;have j:=Bk d;have k:=Bk e;have l:(10:Int)^(AD<|A6 s).length<=10^9:=AP af l1;have i:(10:Int)^(AV<|A6 s).length<=10^9:=AP af f;refine⟨b.symm,c.symm,?_,?_,g,?_⟩
 ·rw[b];unfold Jj;split<;>omega
 ·rw[b];unfold Jj;split<;>omega
 ·rw[c];unfold Tf;split<;>omega
theorem dZ{a b:Z}(d:A2 a=true)(f:A2 b=true):B5 a b=CT (Be a*AR b+AR a*Be b) (AR a*AR b)/\B5 a b=CT (Be a*AR b+Be b*AR a) (AR a*AR b):=by
 have c:AR a≠0:=by
  have:=(D6 d).2.2.2.2.2.1;have:=(As a).den_pos;omega
 have g:AR b≠0:=by
  have:=(D6 f).2.2.2.2.2.1;have:=(As b).den_pos;omega
 have e:B5 a b=CT (Be a*AR b+Be b*AR a) (AR a*AR b):=by
  unfold B5 CT As;rw[Rat.divInt_add_divInt _ _ c g]
 exact⟨by rw[e,Int.mul_comm (AR a)<|Be b],e⟩
theorem gP{a b:Z}:EH a b=CT (Be a*Be b) (AR a*AR b):=by
 unfold EH CT As;rw[Rat.divInt_mul_divInt]
theorem fF{a:Z}:RL a=CT (AR a) (Be a):=by
 unfold RL CT As;rw[Rat.inv_divInt]
theorem Vl:∀(f n l:Nat) (a:Z),(Ik f n l a).length<=a.length+f
 |0,_,_,a=>yf _
 |f+1,n,l,a=>by
  unfold Ik;split
  ·omega
  ·have:=Vl f (n/10) l (yx (48+n % 10)::a);rw[yd]at this;omega
theorem Pu(n l:Int):(IP n l).length<=64:=by
 have:=Vl 64 n.toNat l.toNat [];rw[List.length_nil,Nat.zero_add]at this;exact this
theorem Xf{v:Int}{k:Nat}(h:v<(B9:Int)^k)(b:1<=k):(zh v.toNat).length<=9*k:=by
 rw[XL]at h;have a:((10^(9*k):Nat):Int)=(10:Int)^(9*k):=ya ..;rw[<-a]at h;refine Eo (k:=9*k) ?_ ae;have hp:0<10^(9*k):=Nat.pow_pos af;generalize 10^(9*k)=P at*;omega
end Go.Sp
namespace Go.Pe
open Sp
open Go.Det
theorem Ac5{s:Sh}(b:s.sz=1){id n:Nat}{tail:Ob}{fz:Bool}{t:TypeId}{o:List s.T}(e:n=o.length):FG ⟨0,.leaf,(id,.arr fz t s o)::tail,0⟩ (.list s) (.sl id 1 0 n none)=some (true,o):=by
 subst e;have a:AS ((id,Obj.arr fz t s o)::tail) id=some (.arr fz t s o):=by unfold AS;rw[Nat.beq_refl];rfl
 unfold FG;have f:Dr ⟨0,.leaf,(id,.arr fz t s o)::tail,0⟩ (PV.cells<|.sl id 1 0 o.length none)=some (true,[.dat (.list s) o]):=by
  show(match B4 ⟨0,.leaf,(id,.arr fz t s o)::tail,0⟩ (.sl id 1 0 o.length none),some (true,[])with|some (c,x),some (d,xs)=>some (c&&d,x::xs)|_,_=>none)=_;have:B4 ⟨0,.leaf,(id,.arr fz t s o)::tail,0⟩ (.sl id 1 0 o.length none)=some (true,.dat (.list s) o):=by
   unfold B4 AQ.obj;simp only[a,b,Nat.beq_refl,we];simp
  rw[this];rfl
 simp only[Ni,Sh.RV];show(match Dr ⟨0,.leaf,(id,.arr fz t s o)::tail,0⟩ (PV.cells<|.sl id 1 0 o.length none)with|some (c,cs)=>_|none=>none)=_;rw[f];have:Dv (.list s) [PV.dat (.list s) o]=some o:=by
  unfold Dv CG asD E4;simp
 simp only[QG,this,yh]
theorem yM{s:Sh}(a:s.sz=1){id n:Nat}{tail:Ob}{fz:Bool}{t:TypeId}{o:List s.T}(b:n=o.length):KQ [.list s] (.sl id 1 0 n none) ((id,.arr fz t s o)::tail)=some (true,o):=Ac5 a b
theorem Iy(a:List Int)(i:Nat):II a (i:Int)=a.getD i 0:=by unfold II;rw[zj]
theorem zY:CE XR0:=fun g sp h=>by cases h
theorem T192.ok:Af A4 192 X9:=by
 refine BD zY<|fun(i:List Int×Int) hi=>?_;obtain⟨a,i⟩:=i;have h0:0<=i:=w6 hi;have b:∀v ob,v=II a i->Ac X9 (a,i) (.dat i64 v) ob:=fun v ob h=>zw rfl rfl h
 refine zo (T192.Aj a i)<|zl (fun c=>zd (Ab (w4 h0) c)<|ze<|b _ _ rfl)<|fun c=>ze<|b _ _ ?_;have c:=w7 c;unfold II;rw[z8,yi ae];rfl
theorem Z4:CE Xq:=Aa T192.ok<|Aa T190.ok Ay
theorem Si{x y c:Int}(a:0<=x/\x<1000000000)(b:0<=y/\y<1000000000)(d:0<=c/\c<=1):
  zc .i64 (zc .i64 (x+y)+c)=x+y+c/\yc (x+y+c) 1000000000=(x+y+c) % 1000000000/\zc .i64 (ym (x+y+c) 1000000000)=(x+y+c)/1000000000:=by
 refine⟨?_,yj ae,?_⟩
 ·rw[wr (x+y) ae ae];exact wr _ ae ae
 ·rw[y8 ae];exact wr _ ae ae
theorem sX{a b:List Int}(h:mZ a b=true):Ba a=true/\Ba b=true/\a.length<=9000/\b.length<=9000:=by
 unfold mZ at h;rw[zf,zf,zf,w5,w5]at h;exact⟨h.1.1.1,h.1.1.2,h.1.2,h.2⟩
theorem YD{a b:List Int}(c:Ba a=true)(f:Ba b=true)(d:a.length<=9000)(e:b.length<=9000):mZ a b=true:=by
 unfold mZ;rw[c,f,w4 d,w4 e];rfl
namespace T150
theorem done(a b o:List Int)(i:Nat)(d:a.length<=i)(e:b.length<=i)(c:Q (.sl 0 1 0 o.length none) [(0,.arr false 3 (.int .i64) o)]):Ends Xq (L2 a b o.length 0 i o) Q:=
 zx (Az ..) (zk (w8 ae)<|zk (w8 ae)<|zk af<|ze c)
theorem A5(a b:List Int)(l:Ba a=true)(g:Ba b=true)(y:a.length<=9000)(z:b.length<=9000)(u:Q (.sl 0 1 0 (Ip a b).length none) [(0,.arr false 3 (.int .i64)<|Ip a b)]):∀(k i:Nat) (o:List Int) (c:Int),i+k=max a.length b.length->Gx a b i o c->Ends Xq (L2 a b o.length c i o) Q:=by
 have d:∀(i:Nat) (o:List Int),a.length<=i->b.length<=i->Gx a b i o 0->Ends Xq (L2 a b o.length 0 i o) Q:=fun i o n e h=>by
  have:=h.fin n e;exact done a b o i n e (by rw[this];exact u)
 have next:∀(i:Nat) (o:List Int) (c:Int),i<=9000->Gx a b i o c->(i<a.length\/i<b.length\/0<c->Ends Xq (L2 a b (o++[(a.getD i 0+b.getD i 0+c) % 1000000000]).length ((a.getD i 0+b.getD i 0+c)/1000000000) ((i+1:Nat):Int)<|o++[(a.getD i 0+b.getD i 0+c) % 1000000000]) Q)->Ends Xq (L2 a b o.length c i o) Q:=fun i o c r h go=>by
  obtain⟨s1,s2,s3⟩:=Si (BM l i) (BM g i) h.c01;have f:=wn (i:=i) ae;have x:=h.len;have cap:(decide ((1:Nat)<=(1:Nat))&&true&&decide (o.length=o.length)&&decide ((3*(o.length+1)+2000)*8<=562949953421312))=true:=by
   rw[w4<|yf 1,w4 (p:=o.length=o.length) rfl,qq,yh];exact w4 ae
  have h0:decide ((0:Int)<=(i:Int))=true:=w4 ae;rw[zm]at go;by_cases j:(i:Int)<(a.length:Int)
  ·refine zx (Az ..) ?_;conv=>zeta
   rw[Iy,Iy,s1,s2,s3,f];exact zd (w4 j) (zd h0<|zd h0<|zd rfl (zd cap<|zd rfl (go<|.inl ae)))
  ·by_cases q:(i:Int)<(b.length:Int)
   ·refine zx (Az ..) ?_;conv=>zeta
    rw[Iy,Iy,s1,s2,s3,f];exact zk (w8 j) (zd (w4 q)<|zd h0 (zd h0<|zd rfl (zd cap<|zd rfl (go<|.inr<|.inl ae))))
   ·by_cases s:c>0
    ·refine zx (Az ..) ?_;conv=>zeta
     rw[Iy,Iy,s1,s2,s3,f];exact zk (w8 j)<|zk (w8 q)<|zd (w4 s)<|zd h0<|zd h0<|zd rfl (zd cap<|zd rfl (go<|.inr<|.inr s))
    ·obtain rfl:c=0:=by have:=h.c01;omega
     exact d i o ae ae h
 intro k;induction k with
 |zero=>
  intro i o c r h;refine next i o c ae h (fun m=>?_);have e:=h.step l g m;have v:a.getD i 0=0:=by rw[z8,yi ae];rfl
  have z2:b.getD i 0=0:=by rw[z8,yi ae];rfl
  have t:=h.c01;have z3:(a.getD i 0+b.getD i 0+c)/1000000000=0:=by rw[v,z2];omega
  rw[z3]at e ⊢;exact d (i+1) _ ae ae e
 |succ k w=>
  intro i o c r h;exact next i o c ae h (fun m=>w (i+1) _ _ ae<|h.step l g m)
theorem ok:Af A4 150 Yo:=by
 refine BD Z4<|fun(i:List Int×List Int) hi=>?_;obtain⟨a,b⟩:=i;obtain⟨ha,hb,la,lb⟩:=sX hi;obtain⟨s1,s2,s3⟩:=Si (BM ha 0) (BM hb 0) (c:=0) af;have h0:=Gx.start a b;have l:(0:Int)=((0:Nat):Int):=rfl;have go:(0<a.length\/0<b.length)->Ends Xq (L2 a b 1 ((a.getD 0 0+b.getD 0 0+0)/1000000000) ((1:Nat):Int) [(a.getD 0 0+b.getD 0 0+0) % 1000000000]) (Ac Yo (a,b)):=fun g=>
  A5 a b ha hb la lb (zw (yM rfl rfl) rfl rfl) (max a.length b.length-1) 1 _ _ ae (h0.step ha hb<|by rcases g with h|h<;>omega)
 refine zo (Aj a b)<|zx (Ak ..) ?_;have f:II a 0=a.getD 0 0:=rfl;have k:II b 0=b.getD 0 0:=rfl;have j:zc .i64 ((0:Int)+1)=((1:Nat):Int):=rfl;rw[f,k,s1,s2,s3,j];refine zl (fun c=>?_)<|fun e=>zl (fun c=>?_)<|fun d=>zk rfl (ze<|zw (y:=[]) rfl rfl ?_)
 ·exact zd rfl (zd rfl (zd rfl (zd rfl (zd rfl (go<|.inl (by have:=w6 c;omega))))))
 ·exact zd rfl (zd rfl (zd rfl (zd rfl (zd rfl (go<|.inr (by have:=w6 c;omega))))))
 ·have e:=w7 e;have d:=w7 d;exact h0.fin ae ae
end T150
namespace T152
theorem HQ{x y c:Int}(a:0<=x/\x<1000000000)(b:0<=y/\y<1000000000)(d:0<=c/\c<=1):
  zc .i64 (zc .i64 (x-y)-c)=x-y-c/\zc .i64 (x-y-c+1000000000)=x-y-c+1000000000:=by
 refine⟨?_,wr _ ae ae⟩;rw[wr (x-y) ae ae];exact wr _ ae ae
theorem A5(a b:List Int)(g:Ba a=true)(f:Ba b=true)(m:a.length<=9000)(e:Ao b<=Ao a)(j:∀ob,Q (.dat li<|I2 a b) ob):∀(k i:Nat) (o:List Int) (c:Int),i+k=a.length->Hm a b i o c->Ends Xq (L2 a b o.length c i o) Q
 |0,i,o,c,l,h=>by
  have l:i=a.length:=ae
  subst l;have n:=h.len;refine zx (Az ..) (zk (w8 ae) ?_);rw[zt<|yf _];refine zd (Ab (Ab (w4 ae) rfl)<|w4 ae)<|ze ?_;rw[h.fin f e];exact j _
 |k+1,i,o,c,l,h=>by
  obtain⟨s1,s2⟩:=HQ (BM g i) (BM f i) h.c01;have q:=wn (i:=i) ae;have n:=h.len;have cap:(decide ((1:Nat)<=(1:Nat))&&true&&decide (o.length=o.length)&&decide ((3*(o.length+1)+2000)*8<=562949953421312))=true:=by
   rw[w4<|yf 1,w4 (p:=o.length=o.length) rfl,qq,yh];exact w4 ae
  refine zx (Az ..) ?_;conv=>zeta
  rw[Iy,zj,s1,s2,q];refine zd (w4 ae) (zd (ad ae ae) (zd (w4 ae)<|zl (fun d=>zd cap ?_)<|fun d=>zd cap ?_))
  ·have:=A5 a b g f m e j k (i+1) _ _ ae<|h.step g f _ 1<|.inl ⟨w6 d,rfl,rfl⟩;rw[zm]at this;exact this
  ·have:=A5 a b g f m e j k (i+1) _ _ ae<|h.step g f _ 0<|.inr ⟨w7 d,rfl,rfl⟩;rw[zm]at this;exact this
theorem ok:Af A4 152 Zi:=by
 refine BD Z4<|fun(i:List Int×List Int) e=>?_;obtain⟨a,b⟩:=i;have e:(mZ a b&&decide (Ao b<=Ao a))=true:=e;rw[zf,w5]at e;obtain⟨e,hle⟩:=e;obtain⟨ha,hb,la,lb⟩:=sX e;have h0:=Hm.start a b;have f:∀ob,Ac Zi (a,b) (.dat li<|I2 a b) ob:=fun ob=>zw rfl rfl rfl
 refine zo (Aj a b)<|zx (Ak ..) ?_;obtain⟨s1,s2⟩:=HQ (BM ha 0) (BM hb 0) (c:=0) af;have h:II b 0=b.getD 0 0:=rfl;have g:zc .i64 ((0:Int)+1)=((1:Nat):Int):=rfl;rw[h,show qx 0=0 from rfl,s1,s2,g];refine zl (fun c=>?_)<|fun c=>?_
 ·have k:=w6 c;refine zd (Ab rfl c)<|zd rfl (zl (fun d=>zd rfl ?_)<|fun d=>zd rfl ?_)
  ·exact A5 a b ha hb la hle f (a.length-1) 1 _ _ ae<|h0.step ha hb _ 1<|.inl ⟨w6 d,rfl,rfl⟩
  ·exact A5 a b ha hb la hle f (a.length-1) 1 _ _ ae<|h0.step ha hb _ 0<|.inr ⟨w7 d,rfl,rfl⟩
 ·have c:=w7 c;have j:a=[]:=z6.1 ae;subst j;refine zd rfl (ze ?_);rw[Hm.fin h0 hb hle];exact f _
end T152
theorem Pb:CE XR2:=Aa T149.ok<|Aa T150.ok<|Aa T151.ok<|Aa T152.ok<|Aa T153.ok<|Aa T147.ok Ay
theorem H5{n:Int}{k:Nat}(h0:0<=n)(h:n<(yv:Int)^k):(BW n).length<=k:=OX h0 h
theorem JT{a:Bool×List Int}(h:CD a=true):0<=Ao a.2/\Ao a.2<(yv:Int)^3000:=by
 obtain⟨c,d,_⟩:=Dq h;refine⟨(E7 h).2,zp (BC (b:=yv) af (By c).2.1)<|AP af d⟩
theorem QF{x y:Int}{k:Nat}(a:x<(yv:Int)^k)(c:y<(yv:Int)^k):x+y<(yv:Int)^(k+1):=by
 have:(yv:Int)^(k+1)=(yv:Int)^k*1000000000:=Int.pow_succ ..;have hp:=AU (b:=(yv:Int)) af k;rw[this];omega
theorem T84.ok:Af A4 84 jQ:=by
 refine BD Pb<|fun(i:(Bool×List Int)×(Bool×List Int)) f=>?_;obtain⟨a,b⟩:=i;have f:(CD a&&CD b)=true:=f;rw[zf]at f;obtain⟨ha,hb⟩:=f;obtain⟨a1,a2,_⟩:=Dq ha;obtain⟨b1,b2,_⟩:=Dq hb;obtain⟨va,wa⟩:=JT ha;obtain⟨vb,wb⟩:=JT hb;have pl:=YD a1 b1 ae ae;have g:=YD b1 a1 ae ae;refine zo (T84.Aj a b)<|zl (fun c=>?_)<|fun c=>zd (Ab a1 b1)<|zl (fun d=>?_)<|fun d=>?_
 ·have h:(Ip a.2 b.2).length<=3001:=H5 ae<|QF wa wb;exact zd pl (zd (w4 ae)<|ze<|zw rfl rfl (gG ha hb<|by simpa using c))
 ·have e:Ao b.2<=Ao a.2:=by
   have d:=w6 d;unfold Cp at d;split at d
   ·omega
   ·omega
  have h:(I2 a.2 b.2).length<=3000:=H5 ae ae;exact zd (Ab pl<|w4 e) (zd (w4 ae)<|ze (zw rfl rfl (ZP hb (by simpa using c) e)))
 ·have e:Ao a.2<=Ao b.2:=by
   have d:=w7 d;unfold Cp at d;split at d
   ·omega
   ·split at d<;>omega
  have h:(I2 b.2 a.2).length<=3000:=H5 ae ae;exact zd (Ab g<|w4 e) (zd (w4 ae)<|ze<|zw rfl rfl (yO ha (by simpa using c) e))
theorem T85.ok:Af A4 85 cP:=by
 refine BD Pb<|fun(i:(Bool×List Int)×(Bool×List Int)) c=>?_;obtain⟨a,b⟩:=i;have c:(CD a&&CD b)=true:=c;rw[zf]at c;obtain⟨ha,hb⟩:=c;obtain⟨a1,a2,_⟩:=Dq ha;obtain⟨b1,b2,_⟩:=Dq hb;obtain⟨va,wa⟩:=JT ha;obtain⟨vb,wb⟩:=JT hb;have d:Ao a.2*Ao b.2<(yv:Int)^(3000+3000):=by
  rw[Int.pow_add];have hp:(0:Int)<(yv:Int)^3000:=AU af 3000;exact yo (zy (yb wb) va)<|Int.mul_lt_mul_of_pos_right wa hp
 have e:=H5 (qn va vb) d;exact zo (T85.Aj a b) (zd (Ab (Sl ae (By a1).2.1)<|Sl ae (By b1).2.1) (zd (w4 ae)<|ze<|zw rfl rfl (tI ha hb)))
theorem T146.ok:Af A4 146 ZO:=by
 refine BD Pb<|fun(a:Bool×List Int) b=>?_;have b:CD a=true:=b;have:=(Dq b).2.1;exact zo (T146.Aj a) (zd (w4 ae)<|ze<|zw rfl rfl (pD b))
theorem T182.ok:Af A4 182 ZG:=by
 refine BD Pb<|fun(i:(Bool×List Int)×(Bool×List Int)) f=>?_;obtain⟨a,b⟩:=i;have f:(CD a&&CD b&&decide (0<qz b))=true:=f;rw[zf,zf,w5]at f;obtain⟨⟨ha,hb⟩,h0⟩:=f;obtain⟨a1,a2,_⟩:=Dq ha;obtain⟨b1,b2,_⟩:=Dq hb;obtain⟨va,wa⟩:=JT ha;have j:=(Nv hb h0).2;have hp:0<Ao b.2:=by rw[<-j];exact h0
 have q0:=qi va<|yb hp;have q1:Ao a.2/Ao b.2<(yv:Int)^3000:=yo (Int.ediv_le_self _ va) wa;have l:=Int.emod_nonneg (Ao a.2) (show Ao b.2≠0 by omega);have m:=H5 q0 q1;have k:=(Gk q0 q1 af).1;have g:(BW<|Ao a.2 % Ao b.2).length=0↔Ao a.2 % Ao b.2=0:=by
  rw[z6];exact rM (b:=yv) af l
 refine zo (T182.Aj a b) (zd (Ab (Ab (Ab (Ab a1 b1)<|w4 ae)<|w4 ae)<|w4 hp)<|zl (fun c=>zl (fun d=>?_)<|fun d=>?_)<|fun c=>?_)
 ·have d:=w6 d;have hr:Ao a.2 % Ao b.2≠0:=fun e=>by have:=g.2 e;omega
  have h:(Ip (BW<|Ao a.2/Ao b.2) [1]).length<=3001:=by
   refine H5 ?_ ?_
   ·rw[(EE q0).1];show 0<=_+(1:Int);omega
   ·rw[(EE q0).1];exact QF q1 (zp (show(1:Int)<(yv:Int)^1 by decide) (AP af af))
  exact zd (YD k rfl ae af) (zd (w4 ae)<|ze<|zw rfl rfl (Yf ha hb h0 c hr))
 ·have d:=w7 d;exact zd (w4 ae) (ze<|zw rfl rfl (Qi ha hb h0<|.inr<|g.1 ae))
 ·exact zd (w4 ae)<|ze<|zw rfl rfl (Qi ha hb h0<|.inl c)
theorem xB:CE XR3:=Aa T145.ok Ay
namespace T148
theorem Ar(neg:Bool)(w:List Int)(f:Ba w=true)(l:w.length<=3000)(e:∀ob,Q (.dat .str (if neg=true then 45::zh (Ao w).toNat else zh (Ao w).toNat)) ob):∀(i:Nat),i<=w.length->0<Sp.val yv (w.drop i)->Ends XR3 (L1 (zh (Sp.val yv<|w.drop i).toNat) ((i:Int)-1) neg w) Q:=by
 have a:∀i,(zh (Sp.val yv<|w.drop i).toNat).length<=27000:=fun i=>by
  have h:=BC (b:=yv) af<|Fg (By f).2.1 i;have n:(yv:Int)^(w.drop i).length<=(yv:Int)^3000:=AP af (by rw[z7];omega);exact Xf (k:=3000) (zp h n) af
 intro i;induction i with
 |zero=>
  intro _ _;have d:=a 0;rw[List.drop_zero]at d ⊢;have d:(zh (Ao w).toNat).length<=27000:=d;refine zx (Ak ..) (zk af (zl (fun c=>zd (w4<|by show 1+(zh (Ao w).toNat).length<=_;omega)<|ze ?_)<|fun c=>ze ?_))
  ·rw[wd c]at e;exact e _
  ·rw[wc<|by rw[c];decide]at e;exact e _
 |succ i m=>
  intro o h0;have g:=BM f i;have j:(((i+1:Nat):Int)-1)=(i:Int):=ae
  have d:=a<|i+1;have p:(IP (w.getD i 0) 9).length<=64:=by
   have:=Pu (w.getD i 0) 9;exact this
  obtain⟨s1,s2⟩:=dK f i h0;rw[j];refine zx (Ak ..) ?_;conv=>zeta
  rw[zj,s1,wr ((i:Int)-1) ae ae];exact zd (w4 ae) (zd (ad ae ae)<|zd (Ab (Ab (Ab (w4 g.1)<|w4 ae) rfl) rfl) (zd (w4 ae)<|m ae s2))
theorem ok:Af A4 148 Qn:=by
 refine BD xB<|fun(a:Bool×List Int) b=>?_;have b:CD a=true:=b;obtain⟨a1,a2,_⟩:=Dq b;refine zo (Aj a)<|zl (fun c=>ze<|zw rfl rfl (sM ?_))<|fun c=>?_
 ·exact z6.1 (by have:(a.2.length:Int)=0:=(by simpa using c);omega)
 ·have c:(a.2.length:Int)≠0:=by simpa using c
  obtain⟨i,d⟩:∃i,a.2.length=i+1:=⟨a.2.length-1,by omega⟩;have g:=BM a1 i;obtain⟨s1,s2⟩:=Y4 a1 d;have e:zc .i64 ((a.2.length:Int)-1)=(i:Int):=by rw[wr _ ae ae];omega
  have f:zc .i64 ((a.2.length:Int)-2)=(i:Int)-1:=by rw[wr _ ae ae];omega
  rw[e,f,zj,s1];refine zd (ad ae ae) (zd (Ab (Ab (Ab (w4 g.1)<|w4 ae) rfl) rfl)<|Ar a.1 a.2 a1 a2 (fun ob=>zw rfl rfl ?_) i ae s2);exact oZ b (by intro h;rw[h]at d;cases d)
end T148
end Go.Pe
