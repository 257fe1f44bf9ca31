import Derived.Test.YtbmofcgiokkikaaGreatDoorX15
import Derived.ChangeSame
import Derived.ChangeShapes
import Derived.OpenShut
import Derived.Test.YtbmofcgiokkikaaGreatDoorRows
import Derived.LaidByTextLater
import Derived.SevenTiedAt
import Derived.LaidSub
import Derived.LaidOnce
/- A part of a proof; no law is stated here. -/
noncomputable section
set_option maxRecDepth 100000
open Go.Pe.Ends renaming tt -> zc, Ah -> zh, leaf -> zi, eq -> zq, ite -> zt, ff -> zz
open Go.IntKind renaming wrap -> zd, i64 -> ze, u64 -> yb
open Int renaming toNat_natCast -> zf, toNat -> yi
open Bool renaming and_eq_true -> zj
open Go.DataW renaming trod -> zk, weightsEach -> zn, weights -> yf, TrodAll -> yk, Trod -> y7, trod_int -> qc
open List renaming mem_cons_self -> zl, mem_of_mem_drop -> zu, map_cons -> z8, replicate -> ya, length_cons -> yc, range -> yg, all_eq_true -> yh, any_cons -> yj, find?_cons -> yn, mem_append -> yo, mem_of_find?_eq_some -> yr, mem_cons -> yv, getElem?_eq_getElem -> yw, getD -> yx, map_take -> qe, map_drop -> qf, mem_map -> qh
open Nat renaming eq_of_beq_eq_true -> zm, beq -> z6, zero_le -> yt
open Go.Pe.Sh renaming int -> zo, list -> zp, str -> zr, nlist -> yq
open Go.Pe.Ac renaming of -> zy
open Go.Value renaming okWide -> z7
open Go.Sp renaming Ce -> yd, Nu -> ye, vI -> y8, iF -> qg, BJ -> qi
open Go.OpenClaim renaming laidByTextAt_pinned -> ym
open Rat renaming add_zero -> yp, add_assoc -> yu, zero_add -> yz
open Option renaming bind_eq_some_iff -> yy
open Go.World renaming cell? -> y9
open Go.Pe.Obj renaming arr -> qd
namespace Go.Sp
theorem Ey{c:At}{t l:Int}(h:DG c t l=true):Gc c=true/\HR c=0/\ME c t=false/\Hc c l=false/\KS c 6 4=true:=by
 unfold DG at h;grind [Iu,En]
theorem Fg{c:At}{t l:Int}(h:DG c t l=true){i:Nat}(d:i<c.1.length):Nf c t (i:Int) l=true:=by
 obtain⟨s,e,a,b,_⟩:=Ey h;simp_all [XU,HS,Nf,SX,GD]
theorem B6{c:At}{t l:Int}(h:DG c t l=true):c.1.length<=6:=by
 have:=(LO (Ey h).2.2.2.2).2.2;omega
theorem MG{c:At}{t l:Int}(h:DG c t l=true){i:Nat}(a:i<c.1.length):Cz 122 (CA c t (i:Int) l):=AfO af (Ey h).2.2.2.2<|Fg h a
theorem oA{q:Rat}{k:Nat}(h:Cz k q):Cz (k+6) (Iz q):=by
 have t:Cz 2 (10:Rat):=by unfold Cz;simp
 exact((R2<|(h.mul t).add P4.z).div t<|by simp).mono ae
theorem AfS{k:Nat}{s:Bm}{q:Rat}(h:Nu k s q)(e:k<=1000):Zh s [49,47,49,48]=true/\YS s [49,47,49,48]=Az (Iz q):=by
 have u:Nu 2 [49,47,49,48] (1/10):=by
  refine⟨by decide+kernel,?_⟩;unfold Cz;decide+kernel
 have a:=h.Fj u ah;have ad:=a.BW P4;have fl:=ad.Gd;have d:=fl.DI u;have b:((q/(1/10)+1/2).floor:Rat)*(1/10)=Iz q:=by
  grind [Iz,GQ]
 refine⟨?_,?_⟩
 ·unfold Zh;rw[h.num ae,a.num ae,ad.num ae,fl.num ae,u.nz af ah];rfl
 ·show DI (Gd<|BW (Fj s [49,47,49,48]) [49,47,50]) [49,47,49,48]=_;rw[d.t,b]
end Go.Sp
variable {Q:Go.Pe.PV->Go.Pe.Ob->Prop}
namespace Go.Pe
open Sp
open Go.Det
open Go.Sp (At)
theorem HJ{c:At}{t l:Int}(h:DG c t l=true){i:Nat}(a:i<c.1.length):RS 122 (UQ c t (i:Int) l) (CA c t (i:Int) l):=⟨(AdQ<|Fg h a).r,MG h a⟩
theorem rZ{c:At}{t l:Int}(h:DG c t l=true):∀(k i K:Nat) (f:Ad) (q:Rat),RS K f q->i+k<=c.1.length->K+123*k<=3000->RS (K+123*k) (Sp.suF c t l f i k) (q+Nc c t l i k)
 |0,i,K,f,q,b,_,_=>by
  show RS K f<|q+0;grind
 |k+1,i,K,f,q,b,e,d=>by
  have a:=b.add (HJ h (i:=i) ae) ae af;have:=rZ h k (i+1) _ _ _ a ae ae;grind [Sp.suF,Nc]
theorem Ly{c:At}{t l:Int}(h:DG c t l=true):RS 740 (Hj c t l) (HY c t l):=by
 have n:=B6 h;have a:=rZ h c.1.length 0 1 Sp.zF 0 Gu ae ae;rw[yz]at a;exact a.mono ae
theorem Aec:RS 1 Sp.hfF (1/2):=by
 refine⟨⟨by decide,by decide,by decide+kernel,by decide+kernel⟩,?_⟩;unfold Cz;decide+kernel
theorem sJ{k:Nat}{f:Ad}{q:Rat}(h:RS k f q)(d:k<=3900):yd (B4 f Sp.hfF)=true/\Bk (mU f)=true/\y8 (mU f)=GQ q:=by
 have a:=h.add Aec ae af;obtain⟨b,c⟩:=iL a.r a.z ae;exact⟨a.Ce ae,b,c⟩
theorem X5{k:Nat}{f:Ad}{q:Rat}(h:RS k f q)(a:k<=3800):JU (mU<|Ed f<|qg 10) (10,BA 10)=true/\RS (k+6) (Mf f) (Iz q):=by
 have t:RS 2 (qg 10) ((10:Int):Rat):=Mb af af af;have m:=h.mul t ae af;obtain⟨_,b,c⟩:=sJ m ae;obtain⟨b1,b2⟩:=FF (n:=10) rfl;refine⟨Ab (Ab b b1) (by rfl),?_,oA h.z⟩;have r:=KY b b1 ae;rw[b2,c,Rat.divInt_eq_div]at r;exact r
section
open List Int Prod
namespace T68
def T(n:Int):Tr:=tree E6 false 9 68<|Af ([zo ze]) n
theorem Ai(n:Int):T n=.leaf (PV.agg [.dat i64 n,.nil]) []:=by kernel_rfl
end T68
namespace T185
def T(a b:Ad):Tr:=tree Ahc false 9 185<|Af ([Aq,Aq]) (a,b)
theorem Ai(a b:Ad):T a b=.ck (qi a&&qi b) (.leaf (.dat Sh.bool<|DD a b==0) []):=by kernel_rfl
end T185
namespace T100
def T(c:At)(h l:Int):Tr:=tree Pz false 9 100<|Af ([AT,zo ze,zo ze]) (c,h,l)
def L1(v1 v2:Int)(v3:At)(o1:List (Z×Ad))(b a:Int):Tr:=re ((T ([],([],[])) 0 0))<|Ap 66 [(1,.dat i64 v1),(2,.dat i64 v2),(3,PV.AV AT v3 0),(6,.ptr 0 0),(7,PV.mp 1)] [(1,Obj.map zr Aq o1),(0,.box [.dat i64 b,.nil,.dat i64 a,.nil])] 2
theorem Ai(c:At)(h l:Int):T c h l=L1 h l c [] 0 0:=by kernel_rfl
def L2(v1:Int)(v3:At)(e:List AZ)(b d:Int)(o1:List (Z×Ad))(f a:Int):Tr:=re ((stepT Pz<|L1 0 0 ([],([],[])) [] 0 0).L)<|Ap 66 [(1,.dat i64 v1),(3,PV.AV AT v3 0),(6,.ptr 0 0),(7,PV.mp 1),(21,.dat (zp Cf) e),(22,.dat i64 b),(23,.dat i64 d)] [(1,Obj.map zr Aq o1),(0,.box [.dat i64 f,.nil,.dat i64 a,.nil])] 2
theorem Al(v1 v2:Int)(v3:At)(o1:List (Z×Ad))(b a:Int):stepT Pz (L1 v1 v2 v3 o1 b a)=let d:=snd<|snd<|snd<|snd<|getD (snd<|snd v3) (toNat v2) ([],[],[],[],[]);.ck (decide (0<=v2)&&decide (v2<(↑(length<|snd<|snd v3):Int))) (L2 v1 v3 d ((↑(length d):Int)) 0 o1 b a):=by kernel_rfl
def L3(h:List EJ)(i f k:Int)(a:List Int)(b:Int)(d:List Int)(o1:List (Z×Ad))(j e:Int):Tr:=re ((stepT Pz<|L2 0 ([],([],[])) [] 0 0 [] 0 0).R.L.L)<|Ap 66 [(6,.ptr 0 0),(7,PV.mp 1),(10,.ptr 2 0),(40,.dat (zp Vk) h),(41,.dat i64 i),(42,.dat i64 f)] [(2,.box [.dat i64 k,.dat wU a,.dat i64 b,.dat wU d]),(1,Obj.map zr Aq o1),(0,.box [.dat i64 j,.nil,.dat i64 e,.nil])] 3
theorem AA(v1:Int)(v3:At)(d:List AZ)(e a:Int)(o1:List (Z×Ad))(f b:Int):stepT Pz (L2 v1 v3 d e a o1 f b)=let h:=snd<|snd<|snd<|snd<|getD (fst v3) (toNat v1) ([],[],[],[],[]);let b':=getD d (toNat a) ([],[]);.di (a<e) (.ck (decide (0<=a)&&decide (a<(length d:Int)))<|.ck (D8<|snd b')<|L2 v1 v3 d e (zd .i64<|a+1) (Iq zr Aq (fst b') (CC<|snd b') o1) f b) (.ck true<|.ck (decide (0<=v1)&&decide (v1<(↑(length<|fst v3):Int)))<|L3 h ((↑(length h):Int)) 0 0 (BA 0) 1 (BA 1) o1 f b):=by kernel_rfl
def L4(h:Z×Int)(j:Ad)(i:List EJ)(k f n:Int)(a:List Int)(b:Int)(d:List Int)(o1:List (Z×Ad))(m e:Int):Tr:=re ((stepT Pz<|L3 [] 0 0 0 [] 0 [] [] 0 0).L.L.R)<|Ap 66 [(6,.ptr 0 0),(7,PV.mp 1),(10,.ptr 2 0),(12,PV.AV Vk h 0),(13,PV.AV Aq j 0),(40,.dat (zp Vk) i),(41,.dat i64 k),(42,.dat i64 f)] [(2,.box [.dat i64 n,.dat wU a,.dat i64 b,.dat wU d]),(1,Obj.map zr Aq o1),(0,.box [.dat i64 m,.nil,.dat i64 e,.nil])] 3
theorem Bo(f:List EJ)(i a j:Int)(b:List Int)(d:Int)(e:List Int)(o1:List (Z×Ad))(k h:Int):stepT Pz (L3 f i a j b d e o1 k h)=let b':=getD f (toNat a) ([],0);let m:=Fa zr Aq (fst b') o1;.di (a<i) (.ck (decide (0<=a)&&decide (a<(length f:Int)))<|.ite (!Option.isSome m) (L3 f i (zd .i64<|a+1) j b d e o1 k h)<|L4 b' ((Option.getD m ((0,[]),0,[]))) f i a j b d e o1 k h) (.leaf (PV.agg [.dat i64 j,.dat wU b,.dat i64 d,.dat wU e]) []):=by kernel_rfl
theorem BX(a:Z×Int)(h:Ad)(j:List EJ)(m i p:Int)(b:List Int)(d:Int)(e:List Int)(o1:List (Z×Ad))(n f:Int):stepT Pz (L4 a h j m i p b d e o1 n f)=let b':=((p,b),d,e);let q:=TW (snd a,BA<|snd a) (10,BA 10);let k:=Ed h q;.ck true (.ck true<|.ck (JU (snd a,BA<|snd a) (10,BA 10))<|.ck (yd h&&yd q)<|.ck (yd b'&&yd k)<|L3 j m (zd .i64<|i+1) (JY b' k) (Jy b' k) (Kg b' k) (J2 b' k) o1 n f):=by kernel_rfl
end T100
namespace T135
def T(p:List AZ)(x:Ad):Tr:=tree S5 false 9 135<|Af ([zp Cf,Aq]) (p,x)
def L1(v0:List AZ)(v3:Ad)(b a:Int):Tr:=re ((T [] ((0,[]),(0,[]))))<|Ap 72 [(0,.dat (zp Cf) v0),(3,PV.AV Aq v3 0),(4,.ptr 0 0)] [(0,.box [.dat i64 b,.nil,.dat i64 a,.nil])] 1
theorem Ai(p:List AZ)(x:Ad):T p x=L1 p x 0 0:=by kernel_rfl
def L2(v0:List AZ)(v3:Ad)(b:List AZ)(e d f a:Int):Tr:=re ((stepT S5<|L1 [] ((0,[]),(0,[])) 0 0))<|Ap 72 [(0,.dat (zp Cf) v0),(3,PV.AV Aq v3 0),(4,.ptr 0 0),(11,.dat (zp Cf) b),(12,.dat i64 e),(13,.dat i64 d)] [(0,.box [.dat i64 f,.nil,.dat i64 a,.nil])] 1
theorem Al(v0:List AZ)(v3:Ad)(b a:Int):stepT S5 (L1 v0 v3 b a)=L2 v0 v3 v0 ((length v0:Int)) 0 b a:=by kernel_rfl
def L3(v0:List AZ)(v3:Ad)(v5:Int)(d b:Ad)(e a:Int):Tr:=re ((stepT S5<|L2 [] ((0,[]),(0,[])) [] 0 0 0 0).L.L.L.L.L.R.R.L.R)<|Ap 72 [(0,.dat (zp Cf) v0),(3,PV.AV Aq v3 0),(4,.ptr 0 0),(5,.dat i64 v5),(7,PV.AV Aq d 0),(8,PV.AV Aq b 0)] [(0,.box [.dat i64 e,.nil,.dat i64 a,.nil])] 1
theorem AA(v0:List AZ)(v3:Ad)(d:List AZ)(f a j b:Int):stepT S5 (L2 v0 v3 d f a j b)=let e:=getD d (toNat a) ([],[]);let h:=(length v0:Int);let b':=snd<|getD v0 (toNat<|zd .i64<|h-1) ([],[]);let k:Tr:=.leaf (PV.agg [.dat i64<|S7<|snd e,.dat wU<|S0<|snd e,.dat i64<|Qt<|snd e,.dat wU<|SD<|snd e]) [];let i:=CC<|fst e;let m:=qi v3&&qi i;.di (a<f) (.ck (decide (0<=a)&&decide (a<(length d:Int)))<|.ck (D8<|fst e)<|.ck (D8<|snd e)<|.ck m<|.di (DD v3 i>0) (L2 v0 v3 d f (zd .i64<|a+1) j b)<|.ite (a==0) k<|.ck m<|.di (DD v3 i=0) k<|L3 v0 v3 a i ((CC<|snd e)) j b) (.ck (decide (0<=zd .i64 (h-1))&&decide (zd .i64 (h-1)<h))<|.ck (D8 b')<|.leaf (PV.agg [.dat i64<|S7 b',.dat wU<|S0 b',.dat i64<|Qt b',.dat wU<|SD b']) []):=by kernel_rfl
def L4(v3 e d v9 b:Ad)(f a:Int):Tr:=re ((stepT S5<|L3 [] ((0,[]),(0,[])) 0 ((0,[]),(0,[])) ((0,[]),(0,[])) 0 0).L.L.L.L)<|Ap 72 [(3,PV.AV Aq v3 0),(4,.ptr 0 0),(7,PV.AV Aq e 0),(8,PV.AV Aq d 0),(9,PV.AV Aq v9 0),(10,PV.AV Aq b 0)] [(0,.box [.dat i64 f,.nil,.dat i64 a,.nil])] 1
theorem Bo(v0:List AZ)(v3:Ad)(v5:Int)(f e:Ad)(d a:Int):stepT S5 (L3 v0 v3 v5 f e d a)=let b:=getD v0 (toNat<|zd .i64<|v5-1) ([],[]);let b':=decide (0<=zd .i64 (v5-1))&&decide (zd .i64 (v5-1)<(length v0:Int));.ck b' (.ck b'<|.ck (D8<|fst b)<|.ck (D8<|snd b)<|L4 v3 f e ((CC<|fst b)) ((CC<|snd b)) d a):=by kernel_rfl
theorem BX(v3 f e v9 a:Ad)(i b:Int):stepT S5 (L4 v3 f e v9 a i b)=let b':=Ed (D7 e a)<|D7 v3 v9;let h:=D7 f v9;let d:=LJ b' h;.ck (yd e&&yd a) (.ck (yd v3&&yd v9)<|.ck (yd (D7 e a)&&yd (D7 v3 v9))<|.ck (yd f&&yd v9)<|.ck (yd b'&&yd h&&decide (y8 (fst h)≠0))<|.ck (yd a&&yd d)<|.leaf (PV.agg [.dat i64<|JY a d,.dat wU<|Jy a d,.dat i64<|Kg a d,.dat wU<|J2 a d]) []):=by kernel_rfl
end T135
namespace T70
def T(c:At)(t h l:Int):Tr:=tree AeF false 9 70<|Af ([AT,zo ze,zo ze,zo ze]) (c,t,h,l)
def L1(v1 v2 v3:Int)(v4:At)(b a:Int):Tr:=re ((T ([],([],[])) 0 0 0))<|Ap 26 [(1,.dat i64 v1),(2,.dat i64 v2),(3,.dat i64 v3),(4,PV.AV AT v4 0),(8,.ptr 0 0)] [(0,.box [.dat i64 b,.nil,.dat i64 a,.nil])] 1
theorem Ai(c:At)(t h l:Int):T c t h l=L1 t h l c 0 0:=by kernel_rfl
theorem Al(v1 v2 v3:Int)(v4:At)(e a:Int):stepT AeF (L1 v1 v2 v3 v4 e a)=let b':=fst<|snd<|snd<|snd<|getD (snd<|snd v4) (toNat v3) ([],[],[],[],[]);let b:=Sp.obF v4 v2 v3;let d:=Sp.vlF b'<|eH v4 v1 v2 v3;.ck (decide (0<=v3)&&decide (v3<(↑(length<|snd<|snd v4):Int))) (.ck (Nf v4 v1 v2 v3)<|.ck (Sp.okY b'<|eH v4 v1 v2 v3)<|.ck (Sp.okO v4 v2 v3)<|.ck (yd d&&yd b)<|.leaf (PV.agg [.dat i64<|JY d b,.dat wU<|Jy d b,.dat i64<|Kg d b,.dat wU<|J2 d b]) []):=by kernel_rfl
end T70
namespace T29
def T(c:At)(t h l:Int):Tr:=tree Ag3 false 9 29<|Af ([AT,zo ze,zo ze,zo ze]) (c,t,h,l)
theorem Ai(c:At)(t h l:Int):T c t h l=let a:=UQ c t h l;.ck true (.ck true<|.ck true<|.ck (decide (3<=3)&&true&&(Gc c&&decide (3<=1000)))<|.ite (Fp c [(t,Vz c),(h,Sp.nHo c),(l,OY c)] !=0) (.leaf (.tup [.dat zr [],.dat i64<|Fp c [(t,Vz c),(h,Sp.nHo c),(l,OY c)]]) [])<|.ck (Nf c t h l)<|.ck (qi a)<|.leaf (.tup [.dat zr<|H8 a,.dat i64<|EO a]) []):=by kernel_rfl
end T29
namespace T128
def T(c:At)(h l:Int):Tr:=tree Py false 9 128<|Af ([AT,zo ze,zo ze]) (c,h,l)
def L1(a:Z)(b:Bi)(v9:Be):Tr:=re ((T ([],([],[])) 0 0).L.L)<|Ap 66 [(7,.dat zr a),(8,PV.AV Bg b 0),(9,PV.AV Ba v9 0)] [] 0
theorem Ai(c:At)(h l:Int):T c h l=.ck (decide (0<=h)&&decide (h<(↑(length<|fst c):Int))) (.ck (decide (0<=l)&&decide (l<(↑(length<|snd<|snd c):Int)))<|L1 ([(48:UInt8)]) ((getD (fst c) (toNat h) ([],[],[],[],[])))<|(getD (snd<|snd c) (toNat l) ([],[],[],[],[]))):=by kernel_rfl
def L2(b:Z)(d:Bi)(v9:Be)(a:Int):Tr:=re ((stepT Py<|L1 [] ([],([],([],([],[])))) ([],([],([],([],[]))))))<|Ap 66 [(7,.dat zr b),(8,PV.AV Bg d 0),(9,PV.AV Ba v9 0),(10,.dat i64 a)] [] 0
theorem Al(a:Z)(b:Bi)(v9:Be):stepT Py (L1 a b v9)=L2 a b v9 0:=by kernel_rfl
def L3(e:Z)(d:Bi)(v9:Be)(b a:Int):Tr:=re ((stepT Py<|L2 [] ([],([],([],([],[])))) ([],([],([],([],[])))) 0).L)<|Ap 66 [(7,.dat zr e),(8,PV.AV Bg d 0),(9,PV.AV Ba v9 0),(10,.dat i64 b),(11,.dat i64 a)] [] 0
theorem AA(b:Z)(d:Bi)(v9:Be)(a:Int):stepT Py (L2 b d v9 a)=.di (a<(↑(length<|snd<|snd<|snd<|snd d):Int)) (L3 b d v9 a 0) (.leaf (.dat zr b) []):=by kernel_rfl
theorem Bo(d:Z)(e:Bi)(v9:Be)(a b:Int):stepT Py (L3 d e v9 a b)=let k:=zd .i64<|b+1;let j:=snd<|snd<|snd<|snd e;let h':=snd<|snd<|snd<|snd v9;let f:=getD j (toNat a) ([],0);let b':=getD h' (toNat b) ([],[]);let h:=decide (b<(↑(length h'):Int));let m:=decide (0<=a)&&decide (a<(↑(length j):Int));let i:=CZ (snd f) 10;.ite h (.ck (decide (0<=b)&&h)<|.ck m<|.ite (fst b'==fst f) (.ck (decide (0<=b)&&h)<|.ck m<|.ck (Cn (snd f)&&Cn 10&&decide (10≠0))<|.ck (AR (snd b')&&AR i)<|.ck (AR d&&AR (DI (snd b') i))<|L3 (BW d<|DI (snd b') i) e v9 a k)<|L3 d e v9 a k) (L2 d e v9<|zd .i64<|a+1):=by kernel_rfl
end T128
end
open Go.Sp (At Bi Be AZ EJ Bm)
theorem T68.ok:Ae A1 68 Sy:=by
 refine AX (X:=E6) rfl (fun g sp h=>by cases h) (d:=9) ag ag ag (fun(n:Int) _=>?_) (Ak ag);refine zq (T68.Ai n)<|zi<|zy rfl rfl ?_;show(n,([]:List Int))=(n,BA n);rw[Gy]
theorem nZ:Cr Ahc:=Aa T73.ok AI
theorem T185.ok:Ae A1 185 uW:=by
 refine C3 nZ<|fun(i:Ad×Ad) hi=>?_;exact zq (T185.Ai i.1 i.2)<|zc hi<|zi<|zy rfl rfl rfl
theorem oZ:Cr Pz:=Aa T96.ok<|Aa T57.ok<|Aa T68.ok<|Aa T120.ok<|Aa T65.ok<|Aa T59.ok AI
def lV(m:List (Bm×Ad))(ws:List AZ):Prop:=∀k:Bm,Fa .str Aq k m=(ws.find? fun w=>decide (w.1=k)).map fun w=>CC w.2
theorem lV.add{m:List (Bm×Ad)}{ws:List AZ}(h:lV m ws)(w:AZ)(a:∀v∈ws,v.1≠w.1):lV (Iq .str Aq w.1 (CC w.2) m) (ws++[w]):=fun k=>by
 have e:=HK (v:=Aq) k w.1 (CC w.2) m;rw[e,List.find?_append];by_cases c:k=w.1
 ·rw[wd c,List.find?_eq_none.2 (fun v b=>by rw[c];simpa using a v b),yn,w4 c.symm];rfl
 ·rw[wc c,h k,yn,w8<|fun x=>c x.symm];cases ws.find? fun w=>decide (w.1=k)<;>rfl
namespace T100
theorem Dk{v1:Int}{v3:At}{s b:Int}(ws:List AZ)(n:ws.length<=16)(x:∀w∈ws,Ao w.2=0)(a:(ws.map Prod.fst).Nodup)(f:0<=v1/\v1<(v3.1.length:Int))(q:∀m,lV m ws->Ends Pz (L3 (BC v3 v1).2.2.2.2 ((BC v3 v1).2.2.2.2.length:Int) 0 0 (BA 0) 1 (BA 1) m s b) Q):∀(r:List AZ) (i:Nat) (m:List (Bm×Ad)) (d:List AZ),ws.drop i=r->i<=ws.length->ws=d++r->lV m d->Ends Pz (L2 v1 v3 ws (ws.length:Int) (i:Int) m s b) Q
 |[],i,m,d,h,u,j,k=>by
  have:=drop_nil h u;rw[List.append_nil]at j;rw[<-j]at k;exact zh (AA ..) (zz (w8 ae)<|zc rfl (zc (Hv f)<|q m k))
 |p::r,i,m,d,h,u,j,k=>by
  obtain⟨y,z,D⟩:=drop_cons (d:=(([],[]):AZ)) h;have C:=wn (i:=i) ae;have B:=x p (zu<|by rw[h];exact zl ..);refine zh (AA ..) ?_;conv=>zeta
  rw[zf,z,C];refine zc (w4 ae) (zc (Hv ae)<|zc (Ek B) ?_);refine Dk ws n x a f q r (i+1) _ (d++[p]) D y (by rw[j,List.append_assoc];rfl)<|k.add p fun v A e=>?_;rw[j,List.map_append,List.nodup_append]at a;exact a.2.2 v.1 (qh.2 ⟨v,A,rfl⟩) p.1 (by rw[z8];exact zl ..) e
theorem C5{J v:Int}{m:List (Bm×Ad)}(ws:List AZ)(s:∀w∈ws,RS 20 (CC w.2)<|Ax w.2)(x:lV m ws)(l:List EJ)(b:l.length<=16)(u:∀o∈l,0<=o.2/\o.2<=10)(F:Ad)(p:∀ob,Q (.agg [.dat i64 F.1.1,.dat (.nlist u64) F.1.2,.dat i64 F.2.1,.dat (.nlist u64) F.2.2]) ob):∀(r:List EJ) (i K:Nat) (f:Ad) (q:Rat),l.drop i=r->i<=l.length->RS K f q->K+23*r.length<=4000->YJ ws f r=F->Ends Pz (L3 l (l.length:Int) (i:Int) f.1.1 f.1.2 f.2.1 f.2.2 m J v) Q
 |[],i,K,f,q,h,D,k,A,e=>by
  have:=drop_nil h D;have e:f=F:=e;rw[<-e]at p;exact zh (Bo ..) (zz (w8 ae)<|zi<|p _)
 |o::r,i,K,f,q,h,D,k,A,e=>by
  obtain⟨z,I,C⟩:=drop_cons (d:=(([],0):EJ)) h;have B:=wn (i:=i) ae;have G:=u o (zu<|by rw[h];exact zl ..);rw[yc]at A;refine zh (Bo ..) ?_;conv=>zeta
  rw[zf,I,B,x o.1];refine zc (w4 ae) (zc (Hv ae) ?_);rw[YJ]at e;cases a:ws.find? fun w=>decide (w.1=o.1)with
  |none=>
   rw[a]at e;exact zc rfl (C5 ws s x l b u F p r (i+1) K f q C z k ae e)
  |some w=>
   rw[a]at e;have e:YJ ws (B4 f<|Ed (CC w.2)<|TW (o.2,BA o.2) (10,BA 10)) r=F:=e;have j:=s w<|yr a;have t:=Ni G;have E:=j.mul t af af;have y:=k.add E ae af;have n1:Cn o.2=true:=ad ae ae;have mk:JU (o.2,BA o.2) (10,BA 10)=true:=Ab (Ab (FF n1).1 (FF (n:=10) rfl).1) (w4<|by rw[(FF (n:=10) rfl).2];decide);refine zz rfl (zh (BX ..)<|zc rfl (zc rfl (zc mk<|zc (j.NF t af af)<|zc (k.NF E ae af) ?_)));rw[B];exact C5 ws s x l b u F p r (i+1) _ (B4 f<|Ed (CC w.2)<|TW (o.2,BA o.2) (10,BA 10)) _ C z y ae e
theorem ok:Ae A1 100 cOb:=by
 refine C3 oZ<|fun(i:At×Int×Int) hi=>?_;obtain⟨c,h,l⟩:=i;obtain⟨L,h0,S,_⟩:=OC (c:=c) (h:=h) (l:=l) hi;refine zq (Ai c h l)<|zh (Al ..)<|zc (Hv L.l0) ?_;refine Dk (CQ c l).2.2.2.2 L.lv.wlen (fun w b=>(L.lv.wts w b).1) L.lv.one h0 (fun m a=>?_) (CQ c l).2.2.2.2 0 [] [] rfl (yt _) rfl (fun k=>rfl);exact C5 (CQ c l).2.2.2.2 L.lr.wts a (BC c h).2.2.2.2 S.len S.obs (Sp.obF c h l) (fun ob=>zy rfl rfl rfl) (BC c h).2.2.2.2 0 1 Sp.zF 0 rfl (yt _) Gu (by have:=S.len;omega) rfl
end T100
theorem nU:Cr S5:=Aa T96.ok<|Aa T73.ok<|Aa T185.ok<|Aa T59.ok<|Aa T64.ok<|Aa T65.ok<|Aa T97.ok AI
theorem uO(o:Option AZ)(p:AZ)(l:List AZ)(x:Ad):Sp.cvF o (p::l) x=if DD x (CC p.1)>0 then Sp.cvF (some p) l x else match o with
  |none=>CC p.2
  |some q=>if DD x (CC p.1)=0 then CC p.2 else B4 (CC q.2) (LJ (Ed (D7 (CC p.2)<|CC q.2)<|D7 x<|CC q.1)<|D7 (CC p.1)<|CC q.1):=by
 cases o<;>rw[Sp.cvF]
namespace T135
theorem loop{T A:Int}(t:List AZ)(C:t.length<=64)(m:t≠[])(D:∀p∈t,p.1.length<=20/\p.2.length<=20)(x:Ad)(X:Rat)(k:RS 300 x X)(F:Ad)(f:∀ob,Q (.agg [.dat i64 F.1.1,.dat (.nlist u64) F.1.2,.dat i64 F.2.1,.dat (.nlist u64) F.2.2]) ob):∀(r:List AZ) (i:Nat) (o:Option AZ),t.drop i=r->i<=t.length->(o=none->i=0)->(∀q,o=some q->1<=i/\t.getD (i-1) ([],[])=q/\Ao q.1=0/\Ao q.2=0/\q.1.length<=20/\q.2.length<=20)->D0 o r=0->Sp.cvF o r x=F->Ends S5 (L2 t x t (t.length:Int) (i:Int) T A) Q
 |[],i,o,h,J,h0,v,n,e=>by
  have Z:=drop_nil h J;cases o with
  |none=>
   have:=h0 rfl;exact wh (List.eq_nil_of_length_eq_zero ae) m
  |some q=>
   obtain⟨s,j,_,M,_,_⟩:=v q rfl;have e:CC q.2=F:=e;have B:zd .i64 ((t.length:Int)-1)=((i-1:Nat):Int):=by rw[wr _ ae ae];omega
   refine zh (AA ..) (zz (w8 ae) ?_);rw[B,zf,j];rw[<-e]at f;exact zc (Hv ae)<|zc (Ek M)<|zi<|f _
 |p::r,i,o,h,J,h0,v,n,e=>by
  obtain⟨K,G,N⟩:=drop_cons (d:=(([],[]):AZ)) h;have L:=wn (i:=i) ae;obtain⟨l1,l2⟩:=D p (zu<|by rw[h];exact zl ..);have V:Ao p.1=0/\Ao p.2=0/\D0 (some p) r=0:=by
   cases o with
   |none=>exact JN n
   |some q=>obtain⟨a,b,_,c⟩:=Ia n;exact⟨a,b,c⟩
  obtain⟨s,j,R⟩:=V;have p1:=Er s l1 af;have p2:=Er j l2 af;rw[uO]at e;refine zh (AA ..) ?_;conv=>zeta
  rw[zf,G,L];refine zc (w4 ae) (zc (Hv ae)<|zc (Ek s)<|zc (Ek j)<|zc (Ab (k.BJ af)<|p1.BJ af)<|zt (fun c=>?_)<|fun c=>?_)
  ·rw[wd<|w6 c]at e;exact loop t C m D x X k F f r (i+1) (some p) N K (fun y=>by cases y) (fun q y=>by cases y;exact⟨by omega,by rw[Nat.add_sub_cancel];exact G,s,j,l1,l2⟩) R e
  ·rw[wc<|w7 c]at e;cases o with
   |none=>
    have z:=h0 rfl;have e:CC p.2=F:=e;rw[<-e]at f;exact zc (by rw[z];rfl)<|zi<|f _
   |some q=>
    obtain⟨Y,S,E,I,O,U⟩:=v q rfl;have q1:=Er E O af;have u:=Er I U af;obtain⟨_,_,hlt,_⟩:=Ia n;have e:(if DD x (CC p.1)=0 then CC p.2 else B4 (CC q.2)<|LJ (Ed (D7 (CC p.2)<|CC q.2)<|D7 x<|CC q.1)<|D7 (CC p.1)<|CC q.1)=F:=e;refine zz (by simp;omega) (zc (Ab (k.BJ af)<|p1.BJ af)<|zt (fun d=>?_)<|fun d=>?_)
    ·rw[wd<|w6 d]at e;rw[<-e]at f;exact zi<|f _
    ·rw[wc<|w7 d]at e;rw[<-e]at f;have B:zd .i64 ((i:Int)-1)=((i-1:Nat):Int):=by rw[wr _ ae ae];omega
     have s1:=p2.sub u af af;have s2:=k.sub q1 af af;have s3:=s1.mul s2 af af;have s4:=p1.sub q1 af af;have s5:=s3.div s4 af af<|OG hlt;refine zh (Bo ..) ?_;conv=>zeta
     rw[B,zf,S];refine zc (Hv ae) (zc (Hv ae)<|zc (Ek E)<|zc (Ek I) (zh (BX ..)<|zc (p2.NF u af af)<|zc (k.NF q1 af af)<|zc (s1.NF s2 af af)<|zc (p1.NF q1 af af)<|zc (s3.ok3 s4 af af<|OG hlt)<|zc (u.NF s5 af af)<|zi<|f _))
theorem ok:Ae A1 135 Ahs:=by
 refine C3 nU<|fun(i:List AZ×Ad) hi=>?_;obtain⟨t,x⟩:=i;obtain⟨ht,hl,X,hx⟩:=Af8 (t:=t) (x:=x) hi;obtain⟨hne,h64,h0⟩:=DK ht;refine zq (Ai t x)<|zh (Al ..) ?_;exact loop t h64 hne hl x X hx (Sp.vlF t x) (fun ob=>zy rfl rfl rfl) t 0 none rfl (yt _) (fun _=>rfl) (fun q y=>by cases y) h0 rfl
end T135
theorem sK:Cr AeF:=Aa T99.ok<|Aa T100.ok<|Aa T135.ok<|Aa T59.ok AI
theorem T70.ok:Ae A1 70 cRt:=by
 refine C3 sK<|fun(i:At×Int×Int×Int) hi=>?_;obtain⟨c,t,h,l⟩:=i;obtain⟨P,L,kp,ko,h0,n0⟩:=Ou (c:=c) (t:=t) (h:=h) (l:=l) hi;have a:=tU (c:=c) (t:=t) (h:=h) (l:=l) hi;have v:=oY a af L.lv.SQ L.ls.SQ;have o:=Y2 ko;have b:Sp.okY (CQ c l).2.2.2.1 (eH c t h l)=true:=Aex ⟨L.lv.SQ,L.ls.SQ,_,a.mono af⟩;exact zq (T70.Ai c t h l) (zh (T70.Al ..) (zc (Hv L.l0)<|zc hi<|zc b<|zc ko<|zc (v.NF o af af)<|zi<|zy rfl rfl rfl))
theorem tJ:Cr Ag3:=Aa T52.ok<|Aa T79.ok<|Aa T53.ok<|Aa T51.ok<|Aa T54.ok<|Aa T100.ok<|Aa T70.ok AI
theorem T29.ok:Ae A1 29 cHo:=by
 refine C3 tJ<|fun(i:At×Int×Int×Int) a=>?_;obtain⟨c,t,h,l⟩:=i;have a:Gc c=true:=a;refine zq (T29.Ai c t h l) ?_;conv=>zeta
 rw[AiX];refine zc rfl (zc rfl (zc rfl (zc (Ab rfl (Ab a rfl))<|zt (fun k=>zi<|zy rfl rfl ?_)<|fun k=>?_)))
 ·have k:SX c t h l≠0:=by simpa using k
  show(([]:Bm),SX c t h l)=(VB c t h l,wT c t h l);unfold VB wT jR lQ;rw[wd k,wd k]
 ·have k:SX c t h l=0:=by simpa using k
  have kp:Nf c t h l=true:=Ab a<|w4 k;have p:=AdQ kp;exact zc kp (zc (p.BJ af)<|zi<|zy rfl rfl (bY p k))
theorem nA:Cr PA:=Aa T70.ok<|Aa T57.ok<|Aa T59.ok AI
namespace T55
theorem loop{c:At}{t l:Int}(h:DG c t l=true)(d:∀ob,Q (.agg [.dat i64 (Hj c t l).1.1,.dat (.nlist u64) (Hj c t l).1.2,.dat i64 (Hj c t l).2.1,.dat (.nlist u64) (Hj c t l).2.2]) ob):∀(k i K:Nat) (f:Ad) (q:Rat),i+k=c.1.length->RS K f q->K+123*k<=3000->Sp.suF c t l f i k=Hj c t l->Ends PA (L2 c t l (c.1.length:Int) (i:Int) l t c.1 c.2.1 c.2.2 f.1.1 f.1.2 f.2.1 f.2.2 0 0 c.1 c.2.1 c.2.2) Q
 |0,i,K,f,q,m,a,b,e=>by
  have e:f=Hj c t l:=e;simp_all [zh,AA]
 |k+1,i,K,f,q,m,a,b,e=>by
  have n:=B6 h;have j:zd .i64 ((i:Int)+1)=((i+1:Nat):Int):=by grind [wr]
  have r:=HJ h (i:=i) ae;refine zh (AA ..) ?_;conv=>zeta
  rw[j];exact zc ah (zc (Fg h ae) (zc (a.NF r ae af)<|loop h d k (i+1) _ (B4 f<|UQ c t (i:Int) l) _ ae (a.add r ae af) ae e))
theorem ok:Ae A1 55 cEx:=by
 refine AX (X:=PA) rfl nA (d:=9) (by rfl) (by rfl) (by rfl) (fun(i:At×Int×Int) k=>?_) (Ak ag);obtain⟨c,t,l⟩:=i;have k:DG c t l=true:=k;have n:=B6 k;have e:∀(a b:Int) (h:List Bi) (f:List Bw) (j:List Be),L1 c t l a b l t h f j 0 (BA 0) 1 (BA 1) 0 0 h f j=L2 c t l a b l t h f j 0 (BA 0) 1 (BA 1) 0 0 h f j:=fun a b h f j=>by kernel_rfl
 refine zq (Ai c t l)<|zc rfl ?_;rw[e];exact loop k (fun ob=>zy rfl rfl rfl) c.1.length 0 1 Sp.zF 0 ae Gu ae rfl
end T55
theorem pG:Cr Af0:=Aa T68.ok<|Aa T59.ok<|Aa T132.ok AI
theorem T66.ok:Ae A1 66 nI:=by
 refine AX (X:=Af0) rfl pG (d:=9) (by rfl) (by rfl) (by rfl) (fun(a:Ad) ha=>?_) (Ak ag);obtain⟨q,h⟩:=Afw ha;exact zq (T66.Ai a) (zc rfl (zc rfl (zc (h.NF Aec af af)<|zc (sJ h af).1<|zi<|zy rfl rfl rfl)))
theorem qH:Cr Afl:=Aa T57.ok (by grind [Aa,T65.ok,T66.ok,T68.ok,T120.ok,FM])
theorem T56.ok:Ae A1 56 Agy:=by
 refine AX (X:=Afl) rfl qH (d:=9) (by rfl) (by rfl) (by rfl) (fun(a:Ad) ha=>?_) (Ak ag);obtain⟨q,h⟩:=Aem ha;have t:RS 2 (qg 10) ((10:Int):Rat):=Mb af af af;have m:=h.mul t af af;exact zq (T56.Ai a) (zc rfl (zc (h.NF t af af)<|zc (vW ⟨_,m.mono af⟩)<|zc rfl (zc (X5 h af).1<|zi<|zy rfl rfl rfl)))
theorem AeZ(c:At)(t l:Int):Fp c [(t,Vz c),(l,OY c)]=En c t l:=by
 unfold Fp RN En ME Hc;rw[yj,yj,List.any_nil,Bool.or_false];rfl
theorem Hu{c:At}(h:GM c=true):Gc c=true/\∀t l,En c t l=0->DG c t l=true:=by
 unfold GM at h;grind [Iu,DG,En]
theorem XZ:Cr sT:=Aa T52.ok (by grind [Aa,T53.ok,T51.ok,T54.ok,T55.ok,T56.ok,FM])
theorem T12.ok:Ae A1 12 uU:=by
 refine AX (X:=sT) rfl XZ (d:=9) (by rfl) (by rfl) (by rfl) (fun(i:At×Int×Int) hi=>?_) (Ak ag);obtain⟨c,t,l⟩:=i;obtain⟨sh,ok⟩:=Hu (c:=c) hi;refine zq (T12.Ai c t l) ?_;conv=>zeta
 rw[AeZ];refine zc rfl (zc rfl (zc ah<|zt (fun k=>zi<|zy rfl rfl ?_)<|fun k=>?_))
 ·show(([]:Bm),En c t l)=(Sp.exT c t l,Sp.exE c t l);simp_all [Sp.exT,Sp.exE,jR,lQ]
 ·have k:En c t l=0:=ah
  have p:=Ly<|ok t l k;exact zc (ok t l k) (zc (p.BJ af)<|zi<|zy rfl rfl (bY p k))
theorem T13.ok:Ae A1 13 eF:=by
 refine AX (X:=sT) rfl XZ (d:=9) (by rfl) (by rfl) (by rfl) (fun(i:At×Int×Int) hi=>?_) (Ak ag);obtain⟨c,t,l⟩:=i;obtain⟨sh,ok⟩:=Hu (c:=c) hi;refine zq (T13.Ai c t l) ?_;conv=>zeta
 rw[AeZ];refine zc rfl (zc rfl (zc ah<|zt (fun k=>zi<|zy rfl rfl ?_)<|fun k=>?_))
 ·show(([]:Bm),En c t l)=(Sp.raT c t l,Sp.raE c t l);simp_all [Sp.raT,Sp.raE,jR,lQ]
 ·have k:En c t l=0:=ah
  have p:=Ly<|ok t l k;have u:=(X5 p af).2;exact zc (ok t l k) (zc (Us ⟨_,p.mono af⟩) (zc (u.BJ af)<|zi<|zy rfl rfl (bY u k)))
theorem Ais(c:At)(t g w:Int):Fp c [(t,Vz c),(g,OY c),(w,OY c)]=DW c t g w:=by
 unfold Fp RN DW ME Hc;rw[yj,yj,yj,List.any_nil,Bool.or_false];rfl
theorem Ol{c:At}{t g w:Int}(h:DW c t g w=0):En c t g=0/\En c t w=0:=by
 obtain⟨e,k⟩:=Iu h;have mk:∀b:Bool,b=false->GD c b=0:=(by simp_all [GD]);grind [En]
theorem UF{a b:Int}:Cd a b<0↔a<b:=by
 grind [Cd]
theorem fG{a b:Int}:Cd a b>0↔b<a:=by
 grind [Cd]
theorem tX:Cr AfG:=Aa T52.ok (Aa T53.ok<|Aa T51.ok<|Aa T55.ok (Aa T57.ok<|Aa T64.ok<|by grind [Aa,T65.ok,T66.ok,T68.ok,T67.ok,T69.ok,FM]))
theorem T21.ok:Ae A1 21 Wj:=by
 refine AX (X:=AfG) rfl tX (d:=9) (by rfl) (by rfl) (by rfl) (fun(i:At×Int×Int×Int) hi=>?_) (Ak ag);obtain⟨c,t,g,w⟩:=i;obtain⟨sh,ok⟩:=Hu (c:=c) hi;refine zq (T21.Ai c t g w) ?_;conv=>zeta
 rw[Ais];refine zc rfl (zc rfl (zc rfl (zc ah<|zt (fun k=>zi<|zy rfl rfl ?_)<|fun k=>?_)))
 ·show((0:Int),DW c t g w)=(Vr c t g w,DW c t g w);simp_all [Vr]
 ·have k:DW c t g w=0:=ah
  obtain⟨h,s⟩:=Ol k;have p:=Ly<|ok t w s;have q:=Ly<|ok t g h;have v:RS 1 (qg 5) ((5:Int):Rat):=Mb af af af;have d:=p.sub q af af;have m:=d.mul v af af;obtain⟨_,j,a⟩:=sJ m af;have r:=FF (n:=55) rfl;have f:=FF (n:=155) rfl;have b:∀(n:Int) ob,n=tQ (GQ<|Wy c t g w)->Ac Wj (c,t,g,w) (.tup [.dat i64 n,.dat i64 0]) ob:=fun n ob e=>zy rfl rfl (by
   show(n,(0:Int))=(Vr c t g w,DW c t g w);grind [Vr])
  have a:y8 (mU<|Ed (D7 (Hj c t w)<|Hj c t g)<|qg 5)=GQ (Wy c t g w):=a;have A:=fun z u=>mQ (Cg j).1 z u
  refine zc (ok t w s) (zc (ok t g h)<|zc (p.NF q af af)<|zc rfl (zc (d.NF v af af)<|zc (vW ⟨_,m.mono af⟩)<|zc rfl (zc (Ab j r.1)<|zt (fun x=>zi<|b _ _ ?_)<|fun x=>zc rfl (zc (Ab j f.1)<|zt (fun y=>zi<|b _ _ ?_)<|fun y=>zc rfl (zi<|b _ _ ?_)))))
  ·have x:Cd (y8<|mU<|Ed (D7 (Hj c t w)<|Hj c t g)<|qg 5) (y8 (55,BA 55))<0:=w6 x;simp_all [UF,tQ]
  ·have x:¬Cd (y8<|mU<|Ed (D7 (Hj c t w)<|Hj c t g)<|qg 5) (y8 (55,BA 55))<0:=w7 x;have y:Cd (y8<|mU<|Ed (D7 (Hj c t w)<|Hj c t g)<|qg 5) (y8 (155,BA 155))>0:=w6 y;simp_all [UF,fG,tQ]
  ·have x:¬Cd (y8<|mU<|Ed (D7 (Hj c t w)<|Hj c t g)<|qg 5) (y8 (55,BA 55))<0:=w7 x;have y:¬Cd (y8<|mU<|Ed (D7 (Hj c t w)<|Hj c t g)<|qg 5) (y8 (155,BA 155))>0:=w7 y;rw[a,r.2,UF]at x;rw[a,f.2,fG]at y;unfold tQ;rw[wc x,wc y];exact(A ae ae).trans a
end Go.Pe
namespace Go.Sp
theorem Dw(n:Nat):(BN n).length=n:=by grind [BN]
theorem kY(c:At)(t g w:Int)(i:Nat):Ip c t g w (i+1)=Zn (zZ c t g w) (Ip c t g w i) (i:Int):=by
 grind [Ip,EC]
theorem cV(c:At)(t g w a b:Int):zZ c t g w a b=true↔Uq c t g w b<Uq c t g w a:=decide_eq_true_iff
theorem LL(c:At)(t g w:Int)(n:Nat):(Ip c t g w n).Pairwise (Bf<|Uq c t g w)/\(Ip c t g w n).Perm (BN n):=Rp (cV c t g w) n
theorem YI(c:At)(t g w:Int)(n:Nat):(Ip c t g w n).length=n:=(LL c t g w n).2.length_eq.trans<|Dw n
theorem QV{c:At}{t g w:Int}{n:Nat}{x:Int}(h:x∈Ip c t g w n):0<=x/\x<(n:Int):=ER.1<|(LL c t g w n).2.mem_iff.1 h
theorem TZ{n i:Nat}(h:i<n):(BN n).drop i=(i:Int)::(BN n).drop (i+1):=by
 grind [BN,List.drop_eq_getElem_cons]
theorem Uy:∀(r:List Int) (i:Nat) (o:List Int),(cZ i r o).length=o.length
 |[],_,_=>rfl
 |h::r,i,o=>by rw[cZ,Uy,List.length_set]
end Go.Sp
namespace Go.Pe
open Sp
open Go.Det
open Go.Sp (At)
theorem nG{s:Sh}(d:s.sz=1){n:Nat}{x:Obj}{fz:Bool}{t:TypeId}{o:List s.T}{e:Int}(a:n=o.length):Jf [.list s,i64] (.tup [.sl 0 1 0 n none,.dat i64 e]) [(1,x),(0,.arr fz t s o)]=some (true,(o,e)):=by
 subst a;have b:AU [(1,x),(0,qd fz t s o)] 0=some (.arr fz t s o):=rfl;have h0:E8 ⟨0,.leaf,[(1,x),(0,.arr fz t s o)],0⟩ (.list s) (.sl 0 1 0 o.length none)=some (true,o):=by
  unfold E8;simp_all [Dt,PV.cells,CE,AP.obj,Oj,Sh.Ps,D1,CJ,asD,EX]
 unfold Jf Hw;unfold Ds;rw[h0];rfl
theorem wW:Cr Dq:=Aa T52.ok (Aa T53.ok<|Aa T51.ok<|Aa T70.ok (Aa T64.ok<|Aa T73.ok<|Aa (G4 (by rfl)<|Ak ag) AI))
theorem AdI{c:At}{t g w:Int}(d:DG c t g=true)(b:DG c t w=true){i:Nat}(a:i<c.1.length):RS 245 (mX c t g w (i:Int)) (Uq c t g w (i:Int)):=(HJ b a).sub (HJ d a) af af
def Lv(c:At)(t g w:Int)(n:Nat):List Ad:=(yg n).map fun i=>mX c t g w ((i:Nat):Int)
theorem iA(c:At)(t g w:Int)(n:Nat):(Lv c t g w n).length=n:=by grind [Lv]
theorem nO(c:At)(t g w:Int)(n:Nat):Lv c t g w (n+1)=Lv c t g w n++[mX c t g w (n:Int)]:=by
 grind [Lv,List.range_succ]
theorem yA{c:At}{t g w:Int}{n:Nat}{x:Int}(h:0<=x/\x<(n:Int)):(Lv c t g w n).getD x.toNat ((0,[]),0,[])=mX c t g w x:=by
 grind [Lv]
namespace T22
variable {Q:PV->Ob->Prop}{c:At}{t g w:Int}
theorem out(n:Nat)(k:n<=6)(o:List Int)(b:∀x∈o,0<=x/\x<(n:Int))(j:o.length=n)(F:List Int)(q:∀ob,ob=[(1,qd false 3 i64 o),(0,qd false 3 i64 F)]->Q (.tup [.sl 0 1 0 n none,.dat i64 0]) ob):∀(r:List Int) (i:Nat) (out:List Int),o.drop i=r->i<=o.length->out.length=n->cZ i r out=F->Ends Dq (L20 n n (n:Int) (i:Int) o out) Q
 |[],i,out,h,a,m,e=>by
  have:=drop_nil h a;have e:out=F:=e;simp_all [zh,pJ]
 |x::r,i,out,h,a,m,e=>by
  obtain⟨f,v,p⟩:=drop_cons (d:=(0:Int)) h;have u:zd .i64 ((i:Int)+1)=((i+1:Nat):Int):=by grind [wr]
  have s:=b x ah;have nx:=T22.out n k o b j F q r (i+1) (out.set x.toNat<|(i:Int)+1) p f ah e;refine zh (pJ ..) ?_;conv=>zeta
  simp_all
theorem back(b:DG c t g=true)(d:DG c t w=true)(n:Nat)(E:n=c.1.length)(i:Nat)(J:i<n)(x y:Int)(h:0<=x/\x<(n:Int))(r:0<=y/\y<(n:Int))(k:Nat)(A:k+1<n)(arr a:List Int)(p:arr.getD (k+1) 0=x)(u:arr.getD k 0=y)(m:arr.length=n)(s1:(arr.set (k+1) y).set k x=a)
  (D:zZ c t g w x y=true->Ends Dq (xD (Lv c t g w n) (BN n) n n n (n:Int) 20 0 20 (Lv c t g w n) (BN n) n n n 0 (n:Int) (i:Int) (k:Int) (Lv c t g w n) a n n) Q)
  (z:¬zZ c t g w x y=true->Ends Dq (NI (Lv c t g w n) (BN n) n n n (n:Int) 20 0 20 (Lv c t g w n) (BN n) n n n 0 (n:Int) ((i+1:Nat):Int) (Lv c t g w n) arr n n) Q):
  Ends Dq (xD (Lv c t g w n) (BN n) n n n (n:Int) 20 0 20 (Lv c t g w n) (BN n) n n n 0 (n:Int) (i:Int) ((k+1:Nat):Int) (Lv c t g w n) arr n n) Q:=by
 have I:=B6 b;have s:zd .i64 ((i:Int)+1)=((i+1:Nat):Int):=by grind [wr]
 have v:zd .i64 (((k+1:Nat):Int)-1)=(k:Int):=by grind [wr]
 have j:mX c t g w y=mX c t g w ((y.toNat:Nat):Int):=by rfl
 have q:mX c t g w x=mX c t g w ((x.toNat:Nat):Int):=by rfl
 have e:=AdI b d (i:=y.toNat) ae;have f:=AdI b d (i:=x.toNat) ae;have F:DD (mX c t g w y) (mX c t g w x)<0↔zZ c t g w x y=true:=by
  rw[j,q,e.bS f,cV,show((y.toNat:Nat):Int)=y by omega,show((x.toNat:Nat):Int)=x by omega]
 have B:(qi (mX c t g w y)&&qi (mX c t g w x))=true:=by exact Ab (e.BJ af) (f.BJ af)
 have G:=Hv (i:=((k+1:Nat):Int)) (n:=n) ae;have C:=Hv (i:=(k:Int)) (n:=n) ae;refine zh (QJ ..) ?_;conv=>zeta
 rw[s,v,zf,zf,p,u,yA r,yA h,s1,List.length_set,m,iA];simp_all
theorem inner(d:DG c t g=true)(f:DG c t w=true)(n:Nat)(q:n=c.1.length)(i:Nat)(p:i<n)(x:Int)(e:0<=x/\x<(n:Int))(S:List Int)(a:List Int):∀(P:List Int),(∀y∈a,0<=y/\y<(n:Int))->a.length+1+P.length+S.length=n->Ends Dq (NI (Lv c t g w n) (BN n) n n n (n:Int) 20 0 20 (Lv c t g w n) (BN n) n n n 0 (n:Int) ((i+1:Nat):Int) (Lv c t g w n) (S9 (zZ c t g w) x a P++S) n n) Q->Ends Dq (xD (Lv c t g w n) (BN n) n n n (n:Int) 20 0 20 (Lv c t g w n) (BN n) n n n 0 (n:Int) (i:Int) (a.length:Int) (Lv c t g w n) (a.reverse++x::(P++S)) n n) Q:=by
 induction a with
 |nil=>
  intro P hr k b;have s:=B6 d;have j:zd .i64 ((i:Int)+1)=((i+1:Nat):Int):=by grind [wr]
  refine zh (QJ ..) (zz (by rfl) ?_);rw[j];exact b
 |cons y r h=>
  intro P hr k b;have m:r.length+1+1+P.length+S.length=n:=ae
  have a1:(y::r).reverse++x::(P++S)=r.reverse++y::x::(P++S):=by simp
  have s1:((r.reverse++y::x::(P++S)).set (r.length+1) y).set r.length x=r.reverse++x::((y::P)++S):=by
   simp
  have u:S9 (zZ c t g w) x (y::r) P=if zZ c t g w x y=true then S9 (zZ c t g w) x r (y::P)else(y::r).reverse++x::P:=rfl
  rw[u]at b;rw[a1];refine back d f n q i p x y e (hr y<|by simp) r.length ae _ _ (by simp) (by simp) ah s1 (fun z=>?_)<|fun z=>?_
  ·rw[wd z]at b;exact h (y::P) ah ah b
  grind
theorem outer(b:DG c t g=true)(a:DG c t w=true)(n:Nat)(d:n=c.1.length)(e:Ends Dq (wR (Lv c t g w n) (BN n) n n n (n:Int) 20 (Lv c t g w n) (Ip c t g w n) n n) Q):∀(k i:Nat),i+k=n->Ends Dq (NI (Lv c t g w n) (BN n) n n n (n:Int) 20 0 20 (Lv c t g w n) (BN n) n n n 0 (n:Int) (i:Int) (Lv c t g w n) (Ip c t g w i++(BN n).drop i) n n) Q
 |0,i,f=>by
  simp_all [List.drop_eq_nil_of_le,Dw,zh,G2]
 |k+1,i,f=>by
  have nx:=outer b a n d e k (i+1) ae;rw[kY]at nx;refine zh (G2 ..) (zc ah ?_);rw[TZ ae];have l:=YI c t g w i;have:=inner (Q:=Q) b a n d i ae (i:Int) ae ((BN n).drop<|i+1) (Ip c t g w i).reverse [] (fun y h=>by have:=QV<|List.mem_reverse.1 h;omega) (by grind [Dw]) nx;grind
theorem loop(a:DG c t g=true)(b:DG c t w=true)(d:List (Int×Int))(e:Ends Dq (L4 (Lv c t g w c.1.length) (BN c.1.length) c.1.length c.1.length) Q):∀(k i:Nat),i+k=c.1.length->Ends Dq (L2 c t g w (c.1.length:Int) (i:Int) (BN i) (Lv c t g w i) w t c.1 c.2.1 c.2.2 i i d g t c.1 c.2.1 c.2.2) Q
 |0,i,h=>by
  simp_all [zh,AA]
 |k+1,i,h=>by
  have j:=B6 a;have f:zd .i64 ((i:Int)+1)=((i+1:Nat):Int):=by grind [wr]
  have nx:=loop a b d e k (i+1) ae;rw[EC,nO]at nx;refine zh (AA ..) ?_;conv=>zeta
  rw[f,Dw,iA];exact zc ah (zc (Fg b ae)<|zc ah (zc (Fg a ae)<|zc ((HJ b ae).NF (HJ a ae) af af)<|zc ah nx))
theorem fin(i:DG c t g=true)(f:∀ob,ob=[(1,qd false 3 i64<|Ip c t g w c.1.length),(0,qd false 3 i64<|Sp.ixI c t g w)]->Q (.tup [.sl 0 1 0 c.1.length none,.dat i64 0]) ob):Ends Dq (wR (Lv c t g w c.1.length) (BN c.1.length) c.1.length c.1.length c.1.length (c.1.length:Int) 20 (Lv c t g w c.1.length) (Ip c t g w c.1.length) c.1.length c.1.length) Q:=by
 have j:=B6 i;have h:=YI c t g w c.1.length;have e:cZ 0 (Ip c t g w c.1.length) (ya c.1.length 0)=Sp.ixI c t g w:=rfl;have a:∀x∈Ip c t g w c.1.length,0<=x/\x<(c.1.length:Int):=fun x d=>QV d
 generalize Sp.ixI c t g w=F at*;generalize Ip c t g w c.1.length=o at*;generalize c.1.length=n at*;have b:(decide ((0:Int)<=(n:Int))&&decide ((n:Int)=(n:Int))&&decide (8*n<=281474976710656)&&decide ((n:Int)<9223372036854775808))=true:=Ab (Ab (by simp) ah) ah;have nx:=out n j o a h F f o 0 (ya n 0) rfl ae (by simp) e;refine zh (Vv ..) (zz ah ?_);simp_all
theorem ok:Ae A1 22 Jz:=by
 refine AX (X:=Dq) rfl wW (d:=9) (by rfl) (by rfl) (by rfl) (fun(i:At×Int×Int×Int) hi=>?_) (Ak<|by rfl);obtain⟨c,t,g,w⟩:=i;obtain⟨sh,ok⟩:=Hu (c:=c) hi;refine zq (Ai c t g w) ?_;conv=>zeta
 rw[Ais];refine zc rfl (zc rfl (zc rfl (zc ah<|zt (fun k=>zi<|zy rfl rfl ?_)<|fun k=>?_)))
 ·show(([]:List Int),DW c t g w)=(Wx c t g w,DW c t g w);simp_all [Wx]
 ·have k:DW c t g w=0:=ah
  obtain⟨j,r⟩:=Ol k;have a:=ok t g j;have b:=ok t w r;have u:=B6 a;have n1:0<c.1.length:=List.length_pos_iff.2 (GV (Ey a).2.1).s1.1;have v:zd .i64 ((0:Int)+1)=((1:Nat):Int):=rfl;have fl:c.1.length=(Sp.ixI c t g w).length:=by
   grind [Sp.ixI,Uy]
  have e:(Sp.ixI c t g w,(0:Int))=(Wx c t g w,DW c t g w):=by
   simp_all [Wx]
  have fin:=fin (Q:=Ac Jz (c,t,g,w)) a fun ob h=>by
   rw[h];exact zy (nG rfl fl) rfl e
  have p:=outer a b c.1.length rfl fin (c.1.length-1) 1 ae;have u0:Ip c t g w 1++(BN c.1.length).drop 1=BN c.1.length:=by
   have:=TZ (n:=c.1.length) (i:=0) ae;rw[List.drop_zero]at this;conv=>rhs;rw[this]
   rfl
  have m:Ends Dq (L4 (Lv c t g w c.1.length) (BN c.1.length) c.1.length c.1.length) (Ac Jz (c,t,g,w)):=by
   refine zh (BX ..) ?_;conv=>zeta
   exact zh (CL ..) (by grind [zz])
  have lp:=loop a b [(t,Vz c),(g,OY c),(w,OY c)] m (c.1.length-1) 1 ae;have f:=Fg b n1;have s:=Fg a n1;have q:=(HJ b n1).NF (HJ a n1) af af;refine zh (Al ..) (zc ah<|zc f<|zc rfl (zc s<|zc q<|zc rfl ?_));exact lp
end T22
section
open List Int Prod
namespace T25
def T(c:At)(t g w:Int):Tr:=tree Afv false 9 25<|Af ([AT,zo ze,zo ze,zo ze]) (c,t,g,w)
theorem Ai(c:At)(t g w:Int):T c t g w=let b':=([49,53,53]:Z);let e:=DS (NL c t w)<|NL c t g;let b:=([53,53]:Z);let f:Tr:=.ck true<|.leaf (.dat i64<|Bu b') [];let d:=DI [(53:UInt8)] e;let a:=YS d [(49:UInt8)];.ck (DG c t w) (.ck (DG c t g)<|.ck (AR (NL c t w)&&BV (NL c t g))<|.ck (AR [(53:UInt8)]&&AR e)<|.ck (Zh d [(49:UInt8)])<|.ck (AR b&&BV a)<|.di (CW b a>=0) (.ck true<|.ite false f<|.ck true<|.leaf (.dat i64<|Bu b) [])<|.ck (AR b'&&BV a)<|.di (CW b' a<=0) f<|.ck (Zb a)<|.leaf (.dat i64<|Bu a) []):=by kernel_rfl
end T25
namespace T14
def T(c:At)(t l:Int):Tr:=tree Mj false 9 14<|Af ([AT,zo ze,zo ze]) (c,t,l)
def L1(c:At)(t l s v9 u p:Int)(v:List Bi)(b:List Bw)(k:List Be)(q:Int)(a:List Int)(m:Int)(d:List Int)(n:Int)(i:List Int)(e:Int)(j:List Int)(o1:List (Int×Int))(r:List Bi)(h:List Bw)(f:List Be):Tr:=re ((T c t l).L.L.L.R.L.L)<|Ap 22 [(0,PV.yl 6),(1,.ptr 3 0),(2,.ptr 4 0),(3,.ptr 5 0),(8,.dat i64 s),(9,.dat i64 v9)] [(6,Obj.lp 14 8 (jX (AG.C Mj) 14 8) (T2 (AG.C Mj) 14 8) (N7 (AG.C Mj) 14 8) LpS.ready 74 [(3,.ptr 0 0),(10,.ptr (Nat.add (Nat.add 0 1) 1) 0)]),(5,.box [.dat i64 u]),(4,.box [.dat i64 p]),(3,.box [.dat (zp Bg) v,.dat (zp BU) b,.dat (zp Ba) k]),(2,.box [.dat i64 q,.dat (yq<|zo yb) a,.dat i64 m,.dat (yq<|zo yb) d,.dat i64 n,.dat (yq<|zo yb) i,.dat i64 e,.dat (yq<|zo yb) j]),(1,.arr false 110 (Sh.pair i64 i64) o1),(0,.box [.dat (zp Bg) r,.dat (zp BU) h,.dat (zp Ba) f])] 7
theorem Ai(c:At)(t l:Int):T c t l=.ck true (.ck true<|.ck (decide (2<=2)&&true&&(Gc c&&decide (2<=1000)))<|.ite (Fp c [(t,Vz c),(l,OY c)] !=0) (.leaf (.tup [.dat zr [],.dat zr [],.dat i64<|Fp c [(t,Vz c),(l,OY c)]]) [])<|.ck true<|.ck true<|L1 c t l ((↑(length<|fst c):Int)) 0 l t (fst c) (fst<|snd c) (snd<|snd c) 0 (BA 0) 1 (BA 1) 0 (BA 0) 1 (BA 1) ([(t,Vz c),(l,OY c)]) (fst c) (fst<|snd c)<|snd<|snd c):=by kernel_rfl
def L2(c:At)(t l s v9 u p:Int)(v:List Bi)(b:List Bw)(k:List Be)(q:Int)(a:List Int)(m:Int)(d:List Int)(n:Int)(i:List Int)(e:Int)(j:List Int)(o1:List (Int×Int))(r:List Bi)(h:List Bw)(f:List Be):Tr:=re ((stepT Mj<|L1 c t l 0 0 0 0 [] [] [] 0 [] 0 [] 0 [] 0 [] [] [] [] []).L.L.L.L.L.L.L)<|Ap 22 [(0,PV.yl 6),(1,.ptr 3 0),(2,.ptr 4 0),(3,.ptr 5 0),(8,.dat i64 s),(9,.dat i64 v9)] [(6,Obj.lp 14 8 (jX (AG.C Mj) 14 8) (T2 (AG.C Mj) 14 8) (N7 (AG.C Mj) 14 8) LpS.ready 74 [(3,.ptr 0 0),(10,.ptr 2 0)]),(5,.box [.dat i64 u]),(4,.box [.dat i64 p]),(3,.box [.dat (zp Bg) v,.dat (zp BU) b,.dat (zp Ba) k]),(2,.box [.dat i64 q,.dat (yq<|zo yb) a,.dat i64 m,.dat (yq<|zo yb) d,.dat i64 n,.dat (yq<|zo yb) i,.dat i64 e,.dat (yq<|zo yb) j]),(1,.arr false 110 (Sh.pair i64 i64) o1),(0,.box [.dat (zp Bg) r,.dat (zp BU) h,.dat (zp Ba) f])] 7
theorem AA(c:At)(t l x v9 s r:Int)(u:List Bi)(a:List Bw)(b:List Be)(y:Int)(d:List Int)(m:Int)(e:List Int)(n:Int)(j:List Int)(f:Int)(k:List Int)(o1:List (Int×Int))(v:List Bi)(i:List Bw)(h:List Be):stepT Mj (L2 c t l x v9 s r u a b y d m e n j f k o1 v i h)=let p:=UQ (u,a,b) r v9 s;let b':=((n,j),f,k);let q:=((y,d),m,e);let z:=zd .i64<|v9+1;.di (v9<x) (.ck (Nf (u,a,b) r v9 s)<|.ck true<|.di (v9>=zd .i64 (Int.tdiv (length v:Int) 2)) (.ck true<|.ck (yd b'&&yd p)<|.ck true<|L2 c t l x z s r u a b y d m e (JY b' p) (Jy b' p) (Kg b' p) (J2 b' p) o1 v i h)<|.ck true<|.ck (yd q&&yd p)<|.ck true<|L2 c t l x z s r u a b (JY q p) (Jy q p) (Kg q p) (J2 q p) n j f k o1 v i h) (.ck true<|.ck (qi q)<|.ck true<|.ck (qi b')<|.ck (decide (2<=2)&&true&&decide (2<=1000000))<|.ite (Sp.first [EO q,EO b'] !=0) (.leaf (.tup [.dat zr [],.dat zr [],.dat i64<|Sp.first [EO q,EO b']]) [])<|.leaf (.tup [.dat zr<|H8 q,.dat zr<|H8 b',.dat i64 (0:Int)]) []):=by kernel_rfl
end T14
namespace T18
def T(c:At)(t l i k:Int):Tr:=tree uS false 9 18<|Af ([AT,zo ze,zo ze,zo ze,zo ze]) (c,t,l,i,k)
def L1(v1 v2 v4:Int)(d:Z)(e:Int)(f:List Bi)(a:List Bw)(b:List Be):Tr:=re ((T ([],([],[])) 0 0 0 0))<|Ap 27 [(1,.dat i64 v1),(2,.dat i64 v2),(4,.dat i64 v4),(5,.ptr 0 0),(11,.dat zr d),(12,.dat i64 e)] [(0,.box [.dat (zp Bg) f,.dat (zp BU) a,.dat (zp Ba) b])] 1
theorem Ai(c:At)(t l i k:Int):T c t l i k=L1 t l k ([(48:UInt8)]) i (fst c) (fst<|snd c) (snd<|snd c):=by kernel_rfl
theorem Al(v1 v2 v4:Int)(e:Z)(d:Int)(f:List Bi)(b:List Bw)(a:List Be):stepT uS (L1 v1 v2 v4 e d f b a)=let h:=NG (f,b,a) v1 d v2;.di (d<v4) (.ck (Nf (f,b,a) v1 d v2)<|.ck (AR e&&AR h)<|L1 v1 v2 v4 (BW e h) (zd .i64<|d+1) f b a) (.leaf (.dat zr e) []):=by kernel_rfl
end T18
namespace T19
def T(c:At)(t l:Int):Tr:=tree AeC false 9 19<|Af ([AT,zo ze,zo ze]) (c,t,l)
theorem Ai(c:At)(t l:Int):T c t l=.ck (DG c t l&&wZ c 0 (↑(length<|fst c):Int)) (.leaf (.dat zr<|Sp.paR c t l 0 (↑(length<|fst c):Int)) []):=by kernel_rfl
end T19
namespace T20
def T(c:At)(t l:Int):Tr:=tree Ago false 9 20<|Af ([AT,zo ze,zo ze]) (c,t,l)
theorem Ai(c:At)(t l:Int):T c t l=let a:=([49,47,49,48]:Z);.ck (DG c t l) (.ck (Zh (NL c t l) a)<|.leaf (.dat zr<|YS (NL c t l) a) []):=by kernel_rfl
end T20
namespace T63
def T(a u:Z):Tr:=tree AeH false 9 63<|Af ([zr,zr]) (a,u)
theorem Ai(a u:Z):T a u=let b':=([49,47,50]:Z);let b:=BW (Fj a u) b';.ck (AR a&&XC u) (.ck (AR (Fj a u)&&AR b')<|.ck (AR b)<|.ck (AR (Gd b)&&AR u)<|.leaf (.dat zr<|DI (Gd b) u) []):=by kernel_rfl
end T63
namespace T62
def T(c:At)(t h l:Int):Tr:=tree Agv false 9 62<|Af ([AT,zo ze,zo ze,zo ze]) (c,t,h,l)
def L1(v1 v2 v3:Int)(v4:At):Tr:=re ((T ([],([],[])) 0 0 0))<|Ap 26 [(1,.dat i64 v1),(2,.dat i64 v2),(3,.dat i64 v3),(4,PV.AV AT v4 0)] [] 0
theorem Ai(c:At)(t h l:Int):T c t h l=L1 t h l c:=by kernel_rfl
theorem Al(v1 v2 v3:Int)(v4:At):stepT Agv (L1 v1 v2 v3 v4)=let a:=fst<|snd<|snd<|snd<|getD (snd<|snd v4) (toNat v3) ([],[],[],[],[]);let b':=Sp.efR v4 v1 v2 v3;.ck (decide (0<=v3)&&decide (v3<(↑(length<|snd<|snd v4):Int))) (.ck (Nf v4 v1 v2 v3)<|.ck (decide (length a<=1000)&&He 100 a&&decide (ZK a b'=0))<|.ck (Sp.okO v4 v2 v3)<|.ck (AR (wF a b')&&AR (Sp.obR v4 v2 v3))<|.leaf (.dat zr<|BW (wF a b')<|Sp.obR v4 v2 v3) []):=by kernel_rfl
end T62
end
open Go.Sp (At Bi Be AZ EJ Bm)
theorem T126.okW:Ae A1 126 VZ:=by
 refine C3 Abb<|fun(i:List AZ×Bm) b=>?_;obtain⟨t,x⟩:=i;have b:(decide (t.length<=1000)&&He 100 t&&decide (ZK t x=0))=true:=b;rw[zj,zj,w5,w5]at b;obtain⟨⟨_,hl⟩,he⟩:=b;obtain⟨ht,hcx⟩:=kH he;obtain⟨hne,h64,h0⟩:=DK ht;have nx:=MP hcx;have d:∀ob,Ac VZ (t,x) (.dat .str<|Az<|MS t x) ob:=fun ob=>zy rfl rfl rfl
 obtain⟨p,r,rfl⟩:∃p r,t=p::r:=by
  cases t with
  |nil=>exact wh rfl hne
  |cons p r=>exact⟨p,r,rfl⟩
 obtain⟨k,j,h⟩:=JN h0;obtain⟨l1,l2⟩:=Mq hl p<|zl ..;have f:=Ih k l1 af;have e:=Ih j l2 af;have a:MS (p::r) x=if Ax p.1<Ax x then Qj (some<|Sp.pt p) (r.map Sp.pt) (Ax x)else Ax p.2:=by
  rw[vU,z8,Su];rfl
 refine zq (T126.Ai (p::r) x) ?_;conv=>zeta
 rw[show(p::r).getD 0 ([],[])=p from rfl];refine zc (w4<|by rw[yc];omega) (zc (Ab (nx.num af)<|f.BV af) (zt (fun c=>zc (w4<|by rw[yc];omega)<|zi ?_)<|fun c=>?_))
 ·have c:=(Sp.IZ _ _).1<|w6 c;rw[wc c]at a;rw[a, <-e.t]at d;exact d _
 ·have c:Ax p.1<Ax x:=by
   have:=w7 c;rw[Sp.IZ]at this;exact Classical.not_not.1 this
  rw[wd c]at a;exact T126.As (p::r) x h64 hl nx d r 1 p rfl af (by rw[yc];omega) rfl f e h a
theorem tA:Cr Py:=Aa T81.ok<|Aa T74.ok<|Aa T30.ok AI
theorem Yu{n:Int}(h:0<=n/\n<=10):ye 2 (CZ n 10) ((n:Rat)/10):=by
 have e:Rat.divInt n 10=(n:Rat)/10:=by rw[Rat.divInt_eq_div];rfl
 exact⟨by unfold CZ;rw[e],(Ni h).z⟩
namespace T128
def step(ws:List AZ)(o:EJ)(v:Bm):Bm:=match ws.find? fun w=>decide (w.1=o.1)with
 |some w=>BW v<|DI w.2<|CZ o.2 10
 |none=>v
theorem skip{v:Bm}{s:Bi}{lv:Be}{i:Nat}{o:EJ}(y:i<s.2.2.2.2.length)(j:s.2.2.2.2.getD i ([],0)=o)(a:lv.2.2.2.2.length<=16)(f:Ends Py (L2 v s lv<|zd .i64<|(i:Int)+1) Q):∀(r:List AZ) (k:Nat),lv.2.2.2.2.drop k=r->k<=lv.2.2.2.2.length->(∀w∈r,w.1≠o.1)->Ends Py (L3 v s lv (i:Int) (k:Int)) Q
 |[],k,h,e,b=>by
  have:=drop_nil h e;exact zh (Bo ..) (zz (w8 ae) f)
 |w::r,k,h,e,b=>by
  obtain⟨m,z,u⟩:=drop_cons (d:=(([],[]):AZ)) h;have q:=wn (i:=k) ae;have n:=b w<|zl ..;refine zh (Bo ..) ?_;conv=>zeta
  rw[zf,zf,z,j,q];exact zc (w4 ae) (zc (Hv ae) (zc (Hv ae)<|zz (by simpa using n)<|skip y j a f r (k+1) u m fun x p=>b x<|List.mem_cons_of_mem _ p))
theorem inner{v:Bm}{s:Bi}{lv:Be}{i K:Nat}{o:EJ}{q:Rat}(p:i<s.2.2.2.2.length)(f:s.2.2.2.2.getD i ([],0)=o)(C:0<=o.2/\o.2<=10)(A:ye K v q)(F:K<=1990)(a:lv.2.2.2.2.length<=16)(z:∀w∈lv.2.2.2.2,ye 20 w.2<|Ax w.2):∀(r:List AZ) (k:Nat),lv.2.2.2.2.drop k=r->k<=lv.2.2.2.2.length->(r.map Prod.fst).Nodup->Ends Py (L2 (step r o v) s lv<|zd .i64<|(i:Int)+1) Q->Ends Py (L3 v s lv (i:Int) (k:Int)) Q
 |[],k,h,y,j,b=>skip p f a b [] k h y fun x n=>by cases n
 |w::r,k,h,y,j,b=>by
  obtain⟨u,E,D⟩:=drop_cons (d:=(([],[]):AZ)) h;have B:=wn (i:=k) ae;have nw:=z w (zu<|by rw[h];exact zl ..);rw[z8,List.nodup_cons]at j;by_cases c:w.1=o.1
  ·have es:step (w::r) o v=BW v (DI w.2<|CZ o.2 10):=by
    unfold step;rw[yn,w4 c]
   rw[es]at b;have t:=Yu C;have m:=nw.DI t;have n1:Cn o.2=true:=ad ae ae;refine zh (Bo ..) ?_;conv=>zeta
   rw[zf,zf,E,f,B];refine zc (w4 ae) (zc (Hv ae)<|zc (Hv ae)<|zc (by simpa using c)<|zc (Hv ae) (zc (Hv ae)<|zc (Ab (Ab n1 rfl) rfl)<|zc (Ab (nw.num af)<|t.num af)<|zc (Ab (A.num ae)<|m.num af) ?_));exact skip p f a b r (k+1) D u fun x n e=>j.1 (by rw[c, <-e];exact qh.2 ⟨x,n,rfl⟩)
  ·have es:step (w::r) o v=step r o v:=by
    unfold step;rw[yn,w8 c]
   rw[es]at b;refine zh (Bo ..) ?_;conv=>zeta
   rw[zf,zf,E,f,B];exact zc (w4 ae) (zc (Hv ae)<|zc (Hv ae)<|zz (by simpa using c)<|inner p f C A F a z r (k+1) D u j.2 b)
theorem Adc{ws:List AZ}(d:∀w∈ws,ye 20 w.2<|Ax w.2){o:EJ}(e:0<=o.2/\o.2<=10){K:Nat}{v:Bm}{q:Rat}(a:ye K v q):ye (K+23) (step ws o v) (q+Sp.lookW ws o.1*((o.2:Rat)/10)):=by
 unfold step;rw[K0];cases b:ws.find? fun w=>decide (w.1=o.1)with
 |none=>
  show ye _ v<|q+0*_;rw[Rat.zero_mul,yp];exact a.mono ae
 |some w=>
  exact(a.BW<|(d w<|yr b).DI<|Yu e).mono ae
theorem outer{s:Bi}{lv:Be}(m:s.2.2.2.2.length<=16)(a:lv.2.2.2.2.length<=16)(j:∀w∈lv.2.2.2.2,ye 20 w.2<|Ax w.2)(b:(lv.2.2.2.2.map Prod.fst).Nodup)(u:∀o∈s.2.2.2.2,0<=o.2/\o.2<=10)(F:Rat)(k:∀ob,Q (.dat .str<|Az F) ob):∀(r:List EJ) (i K:Nat) (v:Bm) (q:Rat),s.2.2.2.2.drop i=r->i<=s.2.2.2.2.length->ye K v q->K+23*r.length<=1990->q+Sp.obV lv.2.2.2.2 r=F->Ends Py (L2 v s lv (i:Int)) Q
 |[],i,K,v,q,h,y,f,p,e=>by
  have:=drop_nil h y;have e:q+0=F:=e;rw[yp]at e;rw[<-e, <-f.t]at k;exact zh (AA ..) (zz (w8 ae)<|zi<|k _)
 |o::r,i,K,v,q,h,y,f,p,e=>by
  obtain⟨n,B,A⟩:=drop_cons (d:=(([],0):EJ)) h;have z:=wn (i:=i) ae;have x:=u o (zu<|by rw[h];exact zl ..);rw[yc]at p;rw[SI, <-yu]at e;have nx:=outer m a j b u F k r (i+1) _ _ _ A n (Adc j x f) ae e;rw[<-z]at nx;exact zh (AA ..) (zc (w4 ae) (inner n B x f ae a j lv.2.2.2.2 0 rfl (yt _) b nx))
theorem ok:Ae A1 128 Aim:=by
 refine C3 tA<|fun(i:At×Int×Int) hi=>?_;obtain⟨c,h,l⟩:=i;obtain⟨L,h0,S,_⟩:=OC (c:=c) (h:=h) (l:=l) hi;refine zq (Ai c h l)<|zc (Hv h0)<|zc (Hv L.l0)<|zh (Al ..) ?_;exact outer (s:=BC c h) (lv:=CQ c l) S.len L.lv.wlen (fun w a=>G8 (L.lv.wts w a).1 (L.ls.wts w a).2) L.lv.one S.obs (rM c h l) (fun ob=>zy rfl rfl rfl) (BC c h).2.2.2.2 0 1 [48] 0 rfl (yt _) IV (by have:=S.len;omega) (yz _)
end T128
theorem wG:Cr Agv:=Aa T126.okW<|Aa T127.ok<|Aa T128.ok<|Aa T30.ok AI
theorem T62.ok:Ae A1 62 Agb:=by
 refine C3 wG<|fun(i:At×Int×Int×Int) hi=>?_;obtain⟨c,t,h,l⟩:=i;obtain⟨P,L,kp,ko,h0,n0⟩:=Ou (c:=c) (t:=t) (h:=h) (l:=l) hi;have b:=tU (c:=c) (t:=t) (h:=h) (l:=l) hi;have v:=oY b af L.lv.SQ L.ls.SQ;have o:=Y2 ko;have d:ye 194 (Sp.efR c t h l) (S4 c t h l):=⟨rfl,b.z⟩;have no:ye 369 (Sp.obR c h l) (rM c h l):=⟨rfl,o.z⟩;have a:ye (194+145) (wF (CQ c l).2.2.2.1<|Sp.efR c t h l) (Qj none (Agk (CQ c l).2.2.2.1)<|S4 c t h l):=⟨by unfold wF MS;rw[d.rat];rfl,v.z⟩;have lp:He 100 (CQ c l).2.2.2.1=true:=by
  unfold He;rw[yh];intro p hp;have:=L.ls.SQ p hp;exact ad ae ae
 have ev:ZK (CQ c l).2.2.2.1 (Sp.efR c t h l)=0:=by
  unfold ZK;rw[wc<|by rw[L.lv.SQ];decide];exact d.check af
 have tl:=L.ls.tl;refine zq (T62.Ai c t h l) (zh (T62.Al ..)<|zc (Hv L.l0) (zc hi<|zc (Ab (Ab (w4<|show(CQ c l).2.2.2.1.length<=1000 by omega) lp)<|w4 ev)<|zc ko<|zc (Ab (a.num af)<|no.num af)<|zi<|zy rfl rfl ?_));exact(a.BW no).t
theorem M0{k:Nat}{f:Ad}{q:Rat}(h:RS k f q)(a:k<=600):H8 f=Az q/\EO f=0:=by
 have e:=bY h (e:=0) rfl;have o:=Sp.Nu.op h.z a;exact⟨(wi Prod.fst e).trans o.1.t,ah⟩
theorem dO{c:At}(h:c.1.length<=6):zd .i64 (Int.tdiv (c.1.length:Int) 2)=((Oo c:Nat):Int):=by
 have e:Int.tdiv (c.1.length:Int) 2=((Oo c:Nat):Int):=rfl;grind [wr]
theorem yS:Cr Mj:=Aa T52.ok (Aa T53.ok (Aa T51.ok (by grind [Aa,T54.ok,T70.ok,T57.ok,T59.ok,T60.ok,FM])))
namespace T14
variable {Q:PV->Ob->Prop}{o:List (Int×Int)}{c:At}{t l:Int}
theorem fin{A B:Ad}(a:RS 400 A (SP c t l))(b:RS 400 B (SY c t l))(d:∀ob,Q (.tup [.dat .str<|Az<|SP c t l,.dat .str<|Az<|SY c t l,.dat i64 0]) ob):Ends Mj (L2 c t l (c.1.length:Int) (c.1.length:Int) l t c.1 c.2.1 c.2.2 A.1.1 A.1.2 A.2.1 A.2.2 B.1.1 B.1.2 B.2.1 B.2.2 o c.1 c.2.1 c.2.2) Q:=by
 obtain⟨a1,a2⟩:=M0 a af;obtain⟨b1,b2⟩:=M0 b af;refine zh (AA ..) (zz (by simp) ?_);rw[a1,a2,b1,b2];exact zc rfl (zc (a.BJ af)<|zc rfl (zc (b.BJ af)<|zc rfl (zz rfl (by simp_all))))
theorem C5(h:DG c t l=true){A:Ad}(a:RS 400 A (SP c t l))(d:∀ob,Q (.tup [.dat .str<|Az<|SP c t l,.dat .str<|Az<|SY c t l,.dat i64 0]) ob):∀(k i K:Nat) (f:Ad) (q:Rat),i+k=c.1.length->Oo c<=i->RS K f q->K+123*k<=400->q+Nc c t l i k=SY c t l->Ends Mj (L2 c t l (c.1.length:Int) (i:Int) l t c.1 c.2.1 c.2.2 A.1.1 A.1.2 A.2.1 A.2.2 f.1.1 f.1.2 f.2.1 f.2.2 o c.1 c.2.1 c.2.2) Q
 |0,i,K,f,q,p,_,b,j,e=>by
  have e:q+0=SY c t l:=e;rw[yp]at e;rw[e]at b;rw[show i=c.1.length by omega];exact fin a (b.mono ae) d
 |k+1,i,K,f,q,p,s,b,j,e=>by
  have n:=B6 h;have m:zd .i64 ((i:Int)+1)=((i+1:Nat):Int):=by grind [wr]
  have r:=HJ h (i:=i) ae;have e:q+(CA c t (i:Int) l+Nc c t l (i+1) k)=SY c t l:=e;rw[<-yu]at e;refine zh (AA ..) ?_;conv=>zeta
  rw[m,dO n];exact zc ah (zc (Fg h ae)<|zc rfl (zc ah<|zc rfl (zc (b.NF r ae af)<|zc rfl (C5 h a d k (i+1) _ (B4 f<|UQ c t (i:Int) l) _ ae ae (b.add r ae af) ae e))))
theorem Dk(h:DG c t l=true)(b:∀ob,Q (.tup [.dat .str<|Az<|SP c t l,.dat .str<|Az<|SY c t l,.dat i64 0]) ob):∀(k i K:Nat) (f:Ad) (q:Rat),i+k=Oo c->RS K f q->K+123*k<=400->q+Nc c t l i k=SP c t l->Ends Mj (L2 c t l (c.1.length:Int) (i:Int) l t c.1 c.2.1 c.2.2 f.1.1 f.1.2 f.2.1 f.2.2 0 (BA 0) 1 (BA 1) o c.1 c.2.1 c.2.2) Q
 |0,i,K,f,q,p,a,d,e=>by
  have n:=B6 h;have e:q+0=SP c t l:=e;rw[yp]at e;rw[e]at a;have j:Oo c<=c.1.length:=Nat.div_le_self ..;have s:c.1.length-Oo c<=3:=by unfold Oo;omega
  rw[show i=Oo c by omega];exact C5 h (a.mono ae) b (c.1.length-Oo c) _ 1 Sp.zF 0 ae ae Gu ae<|yz _
 |k+1,i,K,f,q,p,a,d,e=>by
  have n:=B6 h;have j:Oo c<=c.1.length:=Nat.div_le_self ..;have m:zd .i64 ((i:Int)+1)=((i+1:Nat):Int):=by grind [wr]
  have r:=HJ h (i:=i) ae;have e:q+(CA c t (i:Int) l+Nc c t l (i+1) k)=SP c t l:=e;rw[<-yu]at e;refine zh (AA ..) ?_;conv=>zeta
  rw[m,dO n];exact zc ah (zc (Fg h ae)<|zc rfl (zz ah<|zc rfl (zc (a.NF r ae af)<|zc rfl (Dk h b k (i+1) _ (B4 f<|UQ c t (i:Int) l) _ ae (a.add r ae af) ae e))))
theorem ok:Ae A1 14 tP:=by
 refine AX (X:=Mj) rfl yS (d:=9) (by rfl) (by rfl) (by rfl) (fun(i:At×Int×Int) hi=>?_) (Ak ag);obtain⟨c,t,l⟩:=i;obtain⟨sh,ok⟩:=Hu (c:=c) hi;refine zq (Ai c t l) ?_;conv=>zeta
 rw[AeZ];refine zc rfl (zc rfl (zc ah<|zt (fun k=>zi<|zy rfl rfl ?_)<|fun k=>zc rfl (zc rfl ?_)))
 ·show(([]:Bm),([]:Bm),En c t l)=(Sp.niA c t l,Sp.niB c t l,En c t l);simp_all [Sp.niA,Sp.niB]
 ·have k:En c t l=0:=ah
  have h:=ok t l k;have n:=B6 h;have e:∀(a b:Int) (o:List (Int×Int)) (j:List Bi) (f:List Bw) (m:List Be),L1 c t l a b l t j f m 0 (BA 0) 1 (BA 1) 0 (BA 0) 1 (BA 1) o j f m=L2 c t l a b l t j f m 0 (BA 0) 1 (BA 1) 0 (BA 0) 1 (BA 1) o j f m:=fun a b o j f m=>by kernel_rfl
  rw[e];refine Dk h (fun ob=>zy rfl rfl ?_) (Oo c) 0 1 Sp.zF 0 ae Gu (by unfold Oo;omega)<|yz _;show(Az<|SP c t l,Az<|SY c t l,(0:Int))=(Sp.niA c t l,Sp.niB c t l,En c t l);simp_all [Sp.niA,Sp.niB]
end T14
theorem rO:Cr uS:=Aa T62.ok<|Aa T30.ok AI
namespace T18
theorem loop{Q:PV->Ob->Prop}{c:At}{t l:Int}(h:DG c t l=true){m:Nat}(p:m<=c.1.length)(F:Rat)(b:∀ob,Q (.dat .str<|Az F) ob):∀(k i K:Nat) (s:Bm) (q:Rat),i+k=m->ye K s q->K+123*k<=1000->q+Nc c t l i k=F->Ends uS (L1 t l (m:Int) s (i:Int) c.1 c.2.1 c.2.2) Q
 |0,i,K,s,q,j,a,d,e=>by
  have e:q+0=F:=e;rw[yp]at e;rw[<-e, <-a.t]at b;simp_all [zh,Al]
 |k+1,i,K,s,q,j,a,d,e=>by
  have n:=B6 h;have f:zd .i64 ((i:Int)+1)=((i+1:Nat):Int):=by grind [wr]
  have r:ye 122 (NG c t (i:Int) l) (CA c t (i:Int) l):=⟨rfl,MG h ae⟩;have e:q+(CA c t (i:Int) l+Nc c t l (i+1) k)=F:=e;rw[<-yu]at e;refine zh (Al ..) ?_;conv=>zeta
  rw[f];exact zc ah (zc (Fg h ae)<|zc (Ab (a.num ae)<|r.num af)<|loop h p F b k (i+1) _ _ _ ae (a.BW r) ae e)
theorem ok:Ae A1 18 AdY:=by
 refine AX (X:=uS) rfl rO (d:=9) (by rfl) (by rfl) (by rfl) (fun(i:At×Int×Int×Int×Int) a=>?_) (Ak ag);obtain⟨c,t,l,i,k⟩:=i;have a:(DG c t l&&wZ c i k)=true:=a;unfold wZ at a;simp only[zj,w5]at a;obtain⟨h,⟨h0,h1⟩,h2⟩:=a;have n:=B6 h;obtain⟨i,rfl⟩:∃j:Nat,i=(j:Int):=⟨i.toNat,by omega⟩;obtain⟨k,rfl⟩:∃j:Nat,k=(j:Int):=⟨k.toNat,by omega⟩;refine zq (Ai c t l i k) (loop h (m:=k) ae (Nc c t l i<|k-i) (fun ob=>zy rfl rfl ?_) (k-i) i 1 [48] 0 ae IV ae ah);show Az _=Az (Nc c t l (i:Int).toNat ((k:Int)-(i:Int)).toNat);simp
end T18
theorem rJ:Cr AeC:=Aa T18.ok AI
theorem T19.ok:Ae A1 19 AeX:=by
 refine AX (X:=AeC) rfl rJ (d:=9) (by rfl) (by rfl) (by rfl) (fun(i:At×Int×Int) hi=>?_) (Ak ag);obtain⟨c,t,l⟩:=i;have p:wZ c 0 (c.1.length:Int)=true:=Ab (by rfl) (by simp);refine zq (T19.Ai c t l)<|zc (Ab hi p)<|zi<|zy rfl rfl ?_;rfl
theorem pK:Cr AeH:=Aa T130.ok (by grind [Aa,T30.ok,T129.ok,T74.ok,FM])
theorem T63.ok:Ae A1 63 Wq:=by
 refine AX (X:=AeH) rfl pK (d:=9) (by rfl) (by rfl) (by rfl) (fun(i:Z×Z) b=>?_) (Ak ag);obtain⟨a,u⟩:=i;have b:(AR a&&XC u&&AR (Fj a u)&&AR (BW (Fj a u) [49,47,50])&&AR (Gd<|BW (Fj a u) [49,47,50]))=true:=b;simp only[zj]at b;obtain⟨⟨⟨⟨h1,h2⟩,h3⟩,h4⟩,h5⟩:=b;exact zq (T63.Ai a u) (zc (Ab h1 h2) (zc (Ab h3<|P4.num af)<|zc h4<|zc (by grind [I4,ZM])<|zi<|zy rfl rfl rfl))
theorem xI:Cr Ago:=Aa T19.ok<|Aa T63.ok AI
theorem T20.ok:Ae A1 20 AgT:=by
 refine AX (X:=Ago) rfl xI (d:=9) (by rfl) (by rfl) (by rfl) (fun(i:At×Int×Int) hi=>?_) (Ak ag);obtain⟨c,t,l⟩:=i;have x:ye 740 (NL c t l) (HY c t l):=⟨rfl,(Ly hi).z⟩;obtain⟨a,b⟩:=AfS x af;exact zq (T20.Ai c t l)<|zc hi<|zc a<|zi<|zy rfl rfl b
end Go.Pe
namespace Go.Sp
theorem Agx{k:Nat}{s:Bm}{q:Rat}(h:Nu k s q)(f:k<=1500)(d:AR s=true):Zh s [49]=true/\Nu (k+6) (YS s [49]) ((GQ q:Int):Rat):=by
 have u:Nu 1 [49] 1:=by
  refine⟨by decide+kernel,?_⟩;unfold Cz;simp
 have a:=h.Fj u (by simp);have ad:=a.BW P4;have fl:=ad.Gd;have b:=fl.DI u;have e:((q/1+1/2).floor:Rat)*1=((GQ q:Int):Rat):=by
  unfold GQ;grind
 rw[e]at b;refine⟨?_,b.mono ae⟩;unfold Zh;rw[d,a.num ae,ad.num ae,fl.num ae,u.nz af<|by simp];rfl
theorem Agh{k:Nat}{q:Rat}(h:Cz k q):q<=((10^k:Nat):Rat)/\ -((10^k:Nat):Rat)<=q:=by
 obtain⟨a,_⟩:=h;generalize 10^k=N at*;have d:=Nat.le_mul_of_pos_right N q.den_pos;constructor
 ·grind [Rat.le_iff,Rat.num_natCast,Rat.den_natCast]
 ·rw[Rat.le_iff,Rat.neg_num,Rat.neg_den,Rat.num_natCast,Rat.den_natCast,Int.neg_mul];omega
theorem Qi{c:At}{t l:Int}(h:DG c t l=true):∀(k i:Nat),i+k<=c.1.length->Nc c t l i k<=(k:Rat)*((10^122:Nat):Rat)/\ -((k:Rat)*((10^122:Nat):Rat))<=Nc c t l i k
 |0,i,_=>by
  show(0:Rat)<=((0:Nat):Rat)*_/\ -(((0:Nat):Rat)*_)<=(0:Rat);simp
 |k+1,i,d=>by
  have a:=Agh (MG h (i:=i) ae);have b:=Qi h k (i+1) ae;show CA c t (i:Int) l+Nc c t l (i+1) k<=_/\_<=CA c t (i:Int) l+Nc c t l (i+1) k;grind
theorem Aby{c:At}{t g w:Int}(d:DG c t g=true)(e:DG c t w=true):(GQ<|Wy c t g w).natAbs<10^130:=by
 have h:=B6 d;have a:=Qi d c.1.length 0 ae;have b:=Qi e c.1.length 0 ae;have k:(c.1.length:Rat)<=6:=by exact_mod_cast h
 obtain⟨T,f⟩:∃T:Nat,T=10^122:=⟨_,rfl⟩;rw[<-f]at a b;have t1:1<=T:=ae
 have p:(1:Rat)<=(T:Rat):=by exact_mod_cast t1
 have m:=Rat.mul_le_mul_of_nonneg_right k (c:=(T:Rat)) ah;have j:=Rat.floor_le<|Wy c t g w+1/2;have i:=Rat.lt_floor_add_one<|Wy c t g w+1/2;have r:GQ (Wy c t g w)=(Wy c t g w+1/2).floor:=rfl;generalize GQ (Wy c t g w)=n at*;have u:(n:Rat)<=((62*T:Nat):Rat):=by
  grind [Wy,HY]
 have v: -((62*T:Nat):Rat)<=(n:Rat):=by
  grind [Wy,HY]
 have u:n<=((62*T:Nat):Int):=by exact_mod_cast u
 have v: -((62*T:Nat):Int)<=n:=Rat.intCast_le_intCast.1 (by simp_all);omega
theorem v55:Bu [53,53]=55:=by rfl
theorem Ajf:Bu [49,53,53]=155:=by rfl
theorem n55:Nu 2 [53,53] ((55:Int):Rat):=by
 refine⟨by decide+kernel,?_⟩;unfold Cz;simp
theorem n155:Nu 3 [49,53,53] ((155:Int):Rat):=by
 refine⟨by decide+kernel,?_⟩;unfold Cz;simp
end Go.Sp
namespace Go.Pe
open Sp
open Go.Det
open Go.Sp (At)
theorem Wc{c:At}{t g w:Int}(h:jB c t g w=true):DG c t g=true/\DG c t w=true/\DW c t g w=0/\GM c=true:=by
 unfold jB at h;rw[zj,zj,w5]at h;obtain⟨⟨s,e⟩,f⟩:=h;have a:GM c=true:=Ab s ah;grind [Ol,Hu]
theorem xN:Cr Afv:=Aa T19.ok (by grind [Aa,T31.ok,T74.ok,T63.ok,T32.ok,T77.ok,FM])
theorem T25.ok:Ae A1 25 Aeh:=by
 refine AX (X:=Afv) rfl xN (d:=9) (by rfl) (by rfl) (by rfl) (fun(i:At×Int×Int×Int) hi=>?_) (Ak ag);obtain⟨c,t,g,w⟩:=i;obtain⟨hg,hw,_,_⟩:=Wc (c:=c) (t:=t) (g:=g) (w:=w) hi;have x:ye 740 (NL c t w) (HY c t w):=⟨rfl,(Ly hw).z⟩;have y:ye 740 (NL c t g) (HY c t g):=⟨rfl,(Ly hg).z⟩;have f:ye 1 [53] 5:=by
  refine⟨by decide+kernel,?_⟩;simp_all [Cz]
 have d:=x.DS y;have m:=f.DI d;rw[Rat.mul_comm]at m;obtain⟨A,h⟩:=Agx m af (m.num af);have p:∀(n:Int) ob,n=tQ (GQ<|Wy c t g w)->Ac Aeh (c,t,g,w) (.dat i64 n) ob:=fun n ob e=>zy rfl rfl e
 have h:ye 130 (YS (DI [53]<|DS (NL c t w)<|NL c t g) [49]) ((GQ (Wy c t g w):Int):Rat):=⟨h.t,(OS (Aby hg hw) af).z⟩;have u:=Sp.n55.cmp h;have q:=Sp.n155.cmp h;have r:55<GQ (Wy c t g w)->GQ (Wy c t g w)<155->Zb (YS (DI [53]<|DS (NL c t w)<|NL c t g) [49])=true/\Bu (YS (DI [53]<|DS (NL c t w)<|NL c t g) [49])=GQ (Wy c t g w):=fun a b=>by
  rw[h.t];grind [AbD]
 generalize GQ (Wy c t g w)=n at*;simp only[Rat.intCast_lt_intCast]at u q;refine zq (T25.Ai c t g w) (zc hw<|zc hg<|zc (Ab (x.num af)<|y.BV af)<|zc (Ab (f.num af)<|d.num af) (zc A<|zc (Ab (Sp.n55.num af)<|h.BV af)<|zt (fun k=>zc rfl (zz rfl (zc rfl (zi<|p _ _ ?_))))<|fun k=>zc (Ab (Sp.n155.num af)<|h.BV af)<|zt (fun j=>zc rfl (zi<|p _ _ ?_))<|fun j=>?_))
 ·grind [Sp.v55,tQ]
 ·grind [Ajf,tQ]
 ·have v:55<n:=ah
  have s:n<155:=ah
  obtain⟨t1,t2⟩:=r v s;refine zc t1<|zi<|p _ _ ?_;unfold tQ;omega
end Go.Pe
namespace Go.Sp
theorem Ei{c:At}{t g w i k:Int}:Wd c t g w i k=true↔Bf (Uq c t g w) k i:=by
 simp_all [Wd,Bf]
def gtT(c:At)(t g w i:Int):Bm:=DS (NG c t i w)<|NG c t i g
def O9(c:At)(t g w:Int)(n:Nat):List Bm:=(yg n).map fun i=>gtT c t g w ((i:Nat):Int)
theorem Qs(c:At)(t g w:Int)(n:Nat):(O9 c t g w n).length=n:=by grind [O9]
theorem R8(c:At)(t g w:Int)(n:Nat):O9 c t g w (n+1)=O9 c t g w n++[gtT c t g w (n:Int)]:=by
 grind [O9,List.range_succ]
theorem Vc{c:At}{t g w:Int}{n i:Nat}(h:i<n):(O9 c t g w n).getD i []=gtT c t g w (i:Int):=by
 grind [O9]
theorem cH{c:At}{t g w:Int}(d:DG c t g=true)(b:DG c t w=true){i:Nat}(a:i<c.1.length):Nu 245 (gtT c t g w (i:Int)) (Uq c t g w (i:Int)):=
 Nu.DS (i:=122) (j:=122) ⟨rfl,MG b a⟩ ⟨rfl,MG d a⟩
theorem qD(c:At)(t g w i:Int)(j:Nat):(BN<|j+1).countP (Wd c t g w i)=(BN j).countP (Wd c t g w i)+if Wd c t g w i (j:Int)=true then 1 else 0:=by
 simp_all [EC]
theorem AfI(c:At)(t g w i:Int)(j:Nat):(BN j).countP (Wd c t g w i)<=j:=by
 grind [Dw]
end Go.Sp
namespace Go.Pe
open Sp
open Go.Det
open Go.Sp (At)
theorem uF:Cr GB:=Aa T62.ok<|Aa T31.ok<|Aa T32.ok AI
namespace T27
variable {Q:PV->Ob->Prop}{c:At}{t g w:Int}
theorem Ag8(p q:Rat):((if p<q then -1 else if q<p then 1 else 0:Int)>0↔q<p)/\((if p<q then -1 else if q<p then 1 else 0:Int)=0↔p=q):=ah
theorem inner(e:DG c t g=true)(f:DG c t w=true)(n i:Nat)(G:n=c.1.length)(r:i<n)(F:Int->Int->Tr)(E:Int->Tr)
  (m:∀b a:Int,stepT GB (F b a)=.ite (decide (a<(n:Int))) (.ite (decide ((0:Int)<=a)&&decide (a<(n:Int))) (.ite (decide (yi a<(O9 c t g w n).length)) (.ite (decide ((0:Int)<=(i:Int))&&decide ((i:Int)<(n:Int))) (.ite (decide (yi (i:Int)<(O9 c t g w n).length)) (.ite (AR (yx (O9 c t g w n) (yi a) [])&&BV (yx (O9 c t g w n) (yi (i:Int)) [])) (.ite (decide (CW (yx (O9 c t g w n) (yi a) []) (yx (O9 c t g w n) (yi (i:Int)) [])>(0:Int))) (F (zd .i64<|b+1)<|zd .i64<|a+1)<|.ite (CW (yx (O9 c t g w n) (yi a) []) (yx (O9 c t g w n) (yi (i:Int)) [])==(0:Int)) (.ite (decide (a<(i:Int))) (F (zd .i64<|b+1)<|zd .i64<|a+1)<|F b<|zd .i64<|a+1)<|F b<|zd .i64<|a+1) .fail) .fail) .fail) .fail) .fail) (E b))
  (p:Ends GB (E<|NH c t g w n (i:Int)) Q):∀(k j:Nat),j+k=n->Ends GB (F (1+(((BN j).countP (Wd c t g w (i:Int)):Nat):Int)) (j:Int)) Q
 |0,j,d=>by
  have d:j=n:=d;rw[d];exact zh (m ..) (zz (by simp) p)
 |k+1,j,d=>by
  have J:=B6 e;have A:zd .i64 ((j:Int)+1)=((j+1:Nat):Int):=by grind [wr]
  have nx:=inner e f n i G r F E m p k (j+1) ae;have I:=AfI c t g w (i:Int) j;have D:zd .i64 (1+(((BN j).countP (Wd c t g w (i:Int)):Nat):Int)+1)=1+((((BN j).countP<|Wd c t g w (i:Int))+1:Nat):Int):=by rw[wr _ ae ae];omega
  have q:=cH e f (i:=j) ae;have s:=cH e f (i:=i) ae;have B:=q.cmp s;have u:=Hv (i:=(j:Int)) (n:=n) ae;have C:=Hv (i:=(i:Int)) (n:=n) ae;have v:decide (j<n)=true:=ah;have li:decide (i<n)=true:=ah;rw[qD]at nx;have yes:Wd c t g w (i:Int) (j:Int)=true->Ends GB (F (1+((((BN j).countP<|Wd c t g w (i:Int))+1:Nat):Int)) ((j+1:Nat):Int)) Q:=ah;have no:Wd c t g w (i:Int) (j:Int)=false->Ends GB (F (1+(((BN j).countP (Wd c t g w (i:Int)):Nat):Int)) ((j+1:Nat):Int)) Q:=ah;refine zh (m ..) ?_;conv=>zeta
  rw[A,D,zf,zf,Vc ae,Vc r,Qs,B];refine zc ah (zc u<|zc v<|zc C<|zc li (zc (Ab (q.num af)<|s.BV af)<|zt (fun z=>yes ?_)<|fun z=>zt (fun y=>zt (fun x=>yes ?_)<|fun x=>no ?_)<|fun y=>no ?_))
  ·exact Ei.2 (.inl<|(Ag8 _ _).1.1 ah)
  ·exact Ei.2 (.inr ⟨(Ag8 _ _).2.1<|eq_of_beq y,ah⟩)
  ·have x:=w7 x;exact Bool.eq_false_iff.2 fun h=>by
    rcases Ei.1 h with h|h
    ·grind
    omega
  ·exact Bool.eq_false_iff.2 fun h=>by
    rcases Ei.1 h with h|h
    ·grind
    grind
def outs(c:At)(t g w:Int)(n i:Nat):List Int:=(BN i).map<|NH c t g w n
theorem Xm(c:At)(t g w:Int)(n i:Nat):(outs c t g w n i).length=i:=by grind [outs,Dw]
theorem kI(c:At)(t g w:Int)(n i:Nat):outs c t g w n (i+1)=outs c t g w n i++[NH c t g w n (i:Int)]:=by
 grind [outs,EC]
theorem outer(d:DG c t g=true)(e:DG c t w=true)(n:Nat)(f:n=c.1.length)(h:∀(x:Obj) ob,ob=[(1,qd false 3 i64<|outs c t g w n n),(0,x)]->Q (.sl 1 1 0 n none) ob):∀(k i:Nat),i+k=n->Ends GB (L8 n i (i:Int) (outs c t g w n i)<|O9 c t g w n) Q
 |0,i,j=>by
  simp_all [zh,DM]
 |k+1,i,j=>by
  have q:=B6 d;have m:zd .i64 ((i:Int)+1)=((i+1:Nat):Int):=by grind [wr]
  have nx:=outer d e n f h k (i+1) ae;rw[kI]at nx;have p:(decide (1<=1)&&true&&decide (i=(outs c t g w n i).length)&&decide ((3*(i+1)+2000)*8<=562949953421312))=true:=Ab (by simp_all [Xm]) ah;have:=inner (Q:=Q) d e n i f ae (fun a b=>NI n i (i:Int) a b (outs c t g w n i)<|O9 c t g w n) (fun v=>.ite (decide (1<=1)&&true&&decide (i=(outs c t g w n i).length)&&decide ((3*(i+1)+2000)*8<=562949953421312)) (L8 n (Nat.add i 1) (zd .i64<|(i:Int)+1) (outs c t g w n i++[v])<|O9 c t g w n) .fail) (fun a b=>G2 ..) (by grind [zc]) n 0 ae;rw[show(1+(((BN 0).countP (Wd c t g w (i:Int)):Nat):Int))=1 from rfl,show((0:Nat):Int)=0 from rfl]at this;exact zh (DM ..) (by grind [zc])
theorem start(e:DG c t g=true)(d:DG c t w=true)(n:Nat)(f:n=c.1.length)(n0:0<n)(h:∀(x:Obj) ob,ob=[(1,qd false 3 i64<|outs c t g w n n),(0,x)]->Q (.sl 1 1 0 n none) ob):Ends GB (L4 n 0<|O9 c t g w n) Q:=by
 have nx:=outer e d n f h (n-1) 1 ae;have:=inner (Q:=Q) e d n 0 f n0 (fun a b=>L6 n ((0:Nat):Int) a b<|O9 c t g w n) (fun v=>.ite (decide (1<=1)&&decide (0<1)&&decide ((3*1+2000)*8<=562949953421312)) (L8 n 1 (zd .i64<|((0:Nat):Int)+1) [v]<|O9 c t g w n) .fail) (fun a b=>CL ..) (zc rfl nx) n 0 ae;simp_all [BN,zh,BX]
theorem loop(a:DG c t g=true)(b:DG c t w=true)(d:Ends GB (L4 c.1.length 0<|O9 c t g w c.1.length) Q):∀(k i:Nat),i+k=c.1.length->Ends GB (L2 t g w i (i:Int) (O9 c t g w i) c.1 c.2.1 c.2.2) Q
 |0,i,f=>by
  simp_all [zh,AA]
 |k+1,i,f=>by
  have h:=B6 a;have e:zd .i64 ((i:Int)+1)=((i+1:Nat):Int):=by grind [wr]
  have nx:=loop a b d k (i+1) ae;rw[R8]at nx;have nw:ye 122 (NG c t (i:Int) w) (CA c t (i:Int) w):=⟨rfl,MG b ae⟩;have ng:ye 122 (NG c t (i:Int) g) (CA c t (i:Int) g):=⟨rfl,MG a ae⟩;refine zh (AA ..) ?_;conv=>zeta
  rw[e,Qs];exact zc ah (zc (Fg b ae)<|zc (Fg a ae) (zc (Ab (nw.num af)<|ng.BV af) (zc ah nx)))
theorem ok:Ae A1 27 Afe:=by
 refine AX (X:=GB) rfl uF (d:=9) (by rfl) (by rfl) (by rfl) (fun(i:At×Int×Int×Int) hi=>?_) (Ak ag);obtain⟨c,t,g,w⟩:=i;obtain⟨hg,hw,_,_⟩:=Wc (c:=c) (t:=t) (g:=g) (w:=w) hi;have n1:0<c.1.length:=List.length_pos_iff.2 (GV (Ey hg).2.1).s1.1;have st:=start (Q:=Ac Afe (c,t,g,w)) hg hw c.1.length rfl n1 fun x ob h=>by
  rw[h];exact zy (gF rfl (Xm ..).symm) rfl rfl
 have lp:=loop hg hw st (c.1.length-1) 1 ae;have b:=Fg hw n1;have e:=Fg hg n1;have nw:ye 122 (NG c t ((0:Nat):Int) w) (CA c t ((0:Nat):Int) w):=⟨rfl,MG hw n1⟩;have ng:ye 122 (NG c t ((0:Nat):Int) g) (CA c t ((0:Nat):Int) g):=⟨rfl,MG hg n1⟩;have a:(AR (NG c t ((0:Nat):Int) w)&&BV (NG c t ((0:Nat):Int) g))=true:=Ab (nw.num af) (ng.BV af);refine zq (Ai c t g w) (zh (Al ..) (zc ah<|zc b<|zc e<|zc a<|zc rfl ?_));exact lp
end T27
end Go.Pe
namespace Go.Sp
theorem eZ:∀(r:List Int) (i:Nat) (out:List Int) (x:Nat),(∀y∈r,0<=y/\y≠(x:Int))->(cZ i r out).getD x 0=out.getD x 0
 |[],_,_,_,_=>rfl
 |h::r,i,out,x,hr=>by
  rw[cZ,eZ r _ _ x ah];grind [zl]
theorem uG:∀(r:List Int) (i:Nat) (out:List Int),r.Nodup->(∀y∈r,0<=y/\y<(out.length:Int))->∀j,j<r.length->(cZ i r out).getD (r.getD j 0).toNat 0=((i+j:Nat):Int)+1
 |[],_,_,_,_,j,b=>ah
 |h::r,i,out,nd,hr,0,_=>by
  have a:=hr h (by simp);show(cZ (i+1) r<|out.set h.toNat<|(i:Int)+1).getD h.toNat 0=_;rw[eZ r _ _ _ ah];grind
 |h::r,i,out,nd,hr,j+1,b=>by
  rw[List.nodup_cons]at nd;show(cZ (i+1) r<|out.set h.toNat<|(i:Int)+1).getD (r.getD j 0).toNat 0=_;rw[uG r (i+1) _ nd.2 ah j ah];omega
theorem Qv:∀n:Nat,(BN n).Nodup
 |0=>List.Pairwise.nil
 |n+1=>by
  rw[EC,List.nodup_append];refine⟨Qv n,by simp,fun a e b d=>?_⟩;grind [ER]
theorem AdA(c:At)(t g w:Int):ixI c t g w=O5 c t g w:=by
 obtain⟨hp,e⟩:=LL c t g w c.1.length;have nd:(Ip c t g w c.1.length).Nodup:=e.nodup_iff.2<|Qv _;have k:∀y∈Ip c t g w c.1.length,0<=y/\y<(c.1.length:Int):=fun y m=>QV m
 unfold ixI O5;generalize Ip c t g w c.1.length=o at*;generalize r:c.1.length=n at*;have l1:(cZ 0 o<|ya n 0).length=n:=by grind [Uy]
 refine List.ext_getElem (by grind [Dw]) fun x u s=>?_
 have i:(cZ 0 o<|ya n 0)[x]=(cZ 0 o<|ya n 0).getD x 0:=by
  grind
 have p:((BN n).map<|NH c t g w n)[x]=NH c t g w n (x:Int):=by simp[BN]
 rw[i,p];have f:(x:Int)∈o:=(by grind [ER]);obtain⟨j,d,q⟩:=List.getElem_of_mem f;have h:o.getD j 0=(x:Int):=ah
 have a:=uG o 0 (ya n 0) nd ah j d;rw[h,zf,Nat.zero_add]at a;have b:=ahead hp d (Wd c t g w (x:Int)) (by grind [Ei]);unfold NH;rw[a, <-e.countP_eq,b];omega
end Go.Sp
namespace Go.Det
open Go.ChangeShapes Go.WideShapes Go.RowKit
theorem Cw{α i:Type}{f g:α->Option i}:∀ {l:List α} {b:List i},l.mapM f=some b->(∀a∈l,∀y∈b,f a=some y->g a=some y)->l.mapM g=some b
 |[],b,h,_=>by grind
 |a::l,b,h,j=>by
  rw[List.mapM_cons]at h ⊢;cases d:f a with
  |none=>grind
  |some y=>
   rw[d]at h;cases e:l.mapM f with
   |none=>grind
   |some k=>
    rw[e]at h;cases h;rw[j a (by simp) y (by simp) d,Cw e ah];rfl
def oJ(P:Program)(L:List TypeId)(t:TypeId):Bool:=match P.underlying t with
 |some (.pointer e)|some (.array _ e)|some (.map _ e)=>L.contains e
 |some (.slice e)=>L.contains e&&Nat.ble 1 (P.cellsOf e)
 |some (.struct fs)=>fs.toList.all fun f=>L.contains f.type
 |_=>true
def MQ(P:Program)(L:List TypeId):Bool:=L.all<|oJ P L
section
variable {H:Type}{enc:TypeId×Value->H}{P:Program}{W W':World}
theorem Abg{L:List TypeId}(h:MQ P L=true){t:TypeId}(a:t∈L):oJ P L t=true:=yh.1 h t a
theorem Z6(b:Below W.heap.size W W'){a:Addr}{v:Value}(h:W.cell? a=some v):W'.cell? a=some v:=by
 have d:a.block<W.heap.size:=by
  grind [y9]
 unfold y9 at h ⊢;rw[b.block _ d];exact h
theorem XF(b:Below W.heap.size W W'){a:Addr}{n:Nat}{cs:List Value}(h:W.cells? 0 a n=some cs):W'.cells? 0 a n=some cs:=by
 unfold World.cells? at h ⊢;grind [Cw,Z6]
theorem Io(e:Below W.heap.size W W'){b:Type}{a:Addr}{n:Nat}{f g:List Value->Option b}{y:b}(h:(W.cells? 0 a n).bind f=some y)(d:∀cs,f cs=some y->g cs=some y):(W'.cells? 0 a n).bind g=some y:=by
 cases i:W.cells? 0 a n with
 |none=>grind
 |some cs=>
  grind [XF]
theorem QY(A:Below W.heap.size W W'){L:List TypeId}(E:MQ P L=true){sp:Nat->Bool}:∀(fuel:Nat) (t:TypeId) (cs:List Value) (x:DataW H×List MemPlace),t∈L->
  zk enc P W 0 (fun _=>true) true fuel t cs=some x->(∀p∈x.2,sp p.block=true)->zk enc P W' 0 sp true fuel t cs=some x
 |0,_,_,_,_,h,_=>by cases h
 |fuel+1,t,cs,x,M,h,R=>by
  have T:=QY A E (sp:=sp) fuel;have q:=Abg E M;unfold oJ at q;unfold zk at h ⊢;split at h<;>try simp only[reduceCtorEq]at h
  all_goals try exact h
  case h_6 e a s=>
   have m:e∈L:=ah
   cases G:(W.cells? 0 a<|P.cellsOf e).bind (zk enc P W 0 (fun _=>true) true fuel e)with
   |none=>grind
   |some y=>
    rw[G]at h;cases h;rw[Io A G (g:=zk enc P W' 0 sp true fuel e) ah];rfl
  case h_8 e a len cap s=>
   have m:e∈L/\P.cellsOf e≠0:=by
    rw[s]at q;simp only[zj,List.contains_iff_mem]at q;have:=Nat.le_of_ble_eq_true q.2;grind
   by_cases v:0<=a.block/\len<=cap/\cap<=maxLen
   ·rw[wd v]at h ⊢;have step:∀(i:Nat) (y:DataW H×List MemPlace),(W.cells? 0 (a.add<|i*P.cellsOf e)<|P.cellsOf e).bind (zk enc P W 0 (fun _=>true) true fuel e)=some y->(∀p∈y.2,sp p.block=true)->
      (W'.cells? 0 (a.add<|i*P.cellsOf e)<|P.cellsOf e).bind (zk enc P W' 0 sp true fuel e)=some y:=(by grind [Io])
    cases d:(yg len).mapM (fun i=>(W.cells? 0 (a.add<|i*P.cellsOf e)<|P.cellsOf e).bind<|zk enc P W 0 (fun _=>true) true fuel e)with
    |none=>grind
    |some r=>
     rw[d]at h;simp only[wk,Option.bind_some]at h;cases D:(yg<|cap-len).mapM (fun j=>(W.cells? 0 (a.add<|(len+j)*P.cellsOf e)<|P.cellsOf e).bind<|zk enc P W 0 (fun _=>true) true fuel e)with
     |none=>grind
     |some F=>
      rw[D]at h;cases h;rw[Cw d ah];have S:=Cw D fun j _ y O I=>step (len+j) y I ah
      by_cases z:sp a.block=true
      ·grind
      ·have U:(r.length+F.length)*P.cellsOf e=0:=by
        rcases Nat.eq_zero_or_pos ((r.length+F.length)*P.cellsOf e)with h0|h0
        ·exact h0
        ·refine wh (R (.cell a.block<|a.off+0)<|List.mem_append_left _ ?_) z;simp only[MemPlace.row,qh,List.mem_range];exact⟨0,h0,rfl⟩
       grind [Nat.mul_eq_zero]
   grind
  case h_9 cs _ _ fs s=>
   have m:∀f∈fs.toList,f.type∈L:=by
    grind
   by_cases v:cs.length=P.cellsOf t
   ·rw[wd v]at h ⊢;cases d:fs.toList.mapM (fun f=>zk enc P W 0 (fun _=>true) true fuel f.type<|(cs.drop f.offset).take<|P.cellsOf f.type)with
    |none=>grind
    |some r=>
     grind [Cw]
   grind
  case h_10 cs _ _ n e s=>
   have m:e∈L:=ah
   by_cases v:cs.length=P.cellsOf t
   ·rw[wd v]at h ⊢;cases d:(yg n).mapM (fun i=>zk enc P W 0 (fun _=>true) true fuel e<|(cs.drop<|i*P.cellsOf e).take<|P.cellsOf e)with
    |none=>grind
    |some r=>
     grind [Cw]
   grind
  case h_14 k e b s=>
   have K:b<W.heap.size:=by
    grind
   rw[A.block _ K];split at h
   case h_2=>cases h
   rename_i es clock J;split at h
   case isFalse=>cases h
   cases d:(es.toList.mapM fun x=>(keyOf P k x.key).bind fun key=>if x.val.formed P e then(zk enc P W 0 (fun _=>true) true fuel e x.val.cells.toList).map fun y=>((key,y.1),y.2)else none)with
   |none=>grind
   |some r=>
    rw[d]at h;simp only[Option.bind_some]at h;split at h
    case isFalse=>cases h
    rw[Cw d fun C _ y O B=>?_]
    ·grind
    ·cases q:keyOf P k C.key with
     |none=>grind
     |some key=>
      rw[q]at B;split at B
      case isFalse=>cases B
      cases N:zk enc P W 0 (fun _=>true) true fuel e C.val.cells.toList with
      |none=>grind
      |some u=>
       grind
theorem bJ(e:Below W.heap.size W W'){L:List TypeId}(i:MQ P L=true){sp:Nat->Bool}{t:TypeId}{v:Value}{d:DataW H}{p:List MemPlace}
  (f:t∈L) (h:y7 enc P W 0 (fun _=>true) true t v d p) (j:∀q∈p,sp q.block=true):y7 enc P W' 0 sp true t v d p:=by
 obtain⟨a,b⟩:=h;exact⟨a,(by grind [QY])⟩
theorem HO(i:Below W.heap.size W W'){L:List TypeId}(e:MQ P L=true){sp:Nat->Bool}:∀ {ts:List TypeId} {vs:List Value} {ds:List (DataW H)} {p:List MemPlace},(∀t∈ts,t∈L)->
  yk enc P W 0 (fun _=>true) true ts vs ds p->(∀q∈p,sp q.block=true)->yk enc P W' 0 sp true ts vs ds p
 |[],vs,ds,p,_,h,_=>by
  obtain⟨rfl,rfl,rfl⟩:=trodAll_nil h;rfl
 |t::ts,vs,ds,p,r,h,n=>by
  obtain⟨v,f,d,j,a,b,rfl,rfl,rfl,m,k⟩:=trodAll_cons h;exact⟨a,b,(by grind [bJ]),HO i e ah k ah,rfl⟩
theorem Uk{f:Func}{s:ChangeSpec}{apart fresh a e:Bool}{args:Array Value}{ds I:List (DataW H)}{d:List MemPlace}{tb:TypeId}
  (hW:DataW.Whole enc P f.params.toList s.vars apart W args.toList ds I d) (D:s.vars=[]) (hr:f.resultTypes= #[tb]) (A:P.underlying tb=some .bool)
  (F:s.fn H ds={ results:=[.lit<|.bool true],args:=ds }) (x:Below W.heap.size W W') {L:List TypeId} (G:MQ P L=true) (B:f.params.toList.all L.contains=true):
  s.post enc P f apart fresh a e W args (.bool true) W':=by
 have k:=hW.lt;have B:∀t∈f.params.toList,t∈L:=ah;obtain⟨p,q,z,E,rfl,h,n⟩:=hW;have m:=E;rw[D]at m;obtain⟨rfl,rfl⟩:=trodVars_none m;simp only[List.append_nil]at k h n ⊢;have y:DataW.Whole enc P f.params.toList s.vars apart W args.toList ds [] p:=⟨p,[],z,E,by simp,h,n⟩;have u:∀(b:Nat) (sp:Nat->Bool) (C:Bool),yk enc P W' b sp C f.resultTypes.toList ((Value.bool true).resultList f.resultTypes.size) [.lit<|.bool true] []:=by
  intro b sp C;rw[hr];exact⟨[],[],shut_bool A true,rfl,rfl⟩
 have v:∀(j:Nat) (t:TypeId) (r:Value),f.resultTypes[j]?=some t->((Value.bool true).resultList f.resultTypes.size)[j]?=some r->z7 P W' .any 0 t r:=by
  exact ok_one hr rfl (okWide_bool_mk A true)
 have i:∀sp:Nat->Bool,DataW.TrodVars enc P W' sp s.vars [] []:=fun sp=>by rw[D];rfl
 refine⟨ds,[],p,[],p,[],y,?_,?_,?_,World.keptBut_mono (by simp) (x.frame (· ∈p)),fun _=>?_⟩
 ·grind
 ·grind [HO]
 ·grind
 ·refine⟨v,_,_,([]++p)++[],⟨[]++p,[],trodAll_append (HO x G B z<|by simp)<|u _ _ _,i _,rfl,?_,?_⟩,?_⟩
  ·intro b off hp;have hp:MemPlace.cell b off∈p:=ah
   rw[x.frozen<|show b<W.heap.size from k _ hp];exact h b off hp
  ·grind
  grind
end
def Pq(k:Nat):Value->V
 | .bool b=>.bool b
 | .int q n=>.int q n
 | .string s=>.str s.data.toList
 | .pointer none=>.nilp
 | .slice none 0 0=>.nils
 | .slice (some _) 0 0=>.es0
 | .slice (some ⟨r,off,none⟩) len cap=>if r<k/\len<=cap then .sl r off len cap 0 else .junk
 | .map none=>.nilm
 | .nilFunc=>.nilf
 | .nilIface=>.nili
 |_=>.junk
def aG(W:World)(r:Nat):Nat:=match W.heap[r]? with
 |some (.cells c _ _)=>c.size
 |_=>0
def pW(W:World):Pl:=(yg W.heap.size).map fun r=>(r,aG W r)
theorem Oc{W:World}{r:Nat}(h:r<W.heap.size):(pW W)[r]?=some (r,aG W r):=by
 simp[pW,h]
def Si(W:World)(r:Nat):Option O:=match W.heap[r]? with
 |some (.cells c t _)=>if c.size=0 then none else some<|.cells (c.toList.map<|Pq W.heap.size) t (0,c.size)
 |_=>none
def lL(W:World):Nat->H
 |0=>⟨.leaf,0⟩
 |n+1=>⟨(lL W n).m.set n<|Si W n,n+1⟩
theorem AbO(W:World):∀n,(lL W n).nx=n
 |0=>rfl
 |_+1=>rfl
theorem XT(W:World):∀(n b:Nat),(lL W n).get b=if b<n then Si W b else none
 |0,b=>by simp[lL,H.get]
 |n+1,b=>by
  have a:=XT W n b;unfold H.get at a ⊢;simp only[lL,PM.DZ];grind
def hW(W:World):H:=lL W W.heap.size
theorem Q5(W:World)(b:Nat):(hW W).get b=Si W b:=by
 simp_all [hW,XT,Si]
theorem P6{W:World}{v:Value}(h:(Pq W.heap.size v).ok=true):Ag (pW W) (Pq W.heap.size v) v:=by
 revert h;unfold Pq;split<;>intro h
 case h_6=>simp_all [Ag]
 case h_7 r off len cap _=>
  split
  ·simp_all [Ag,Oc]
  ·rename_i a;rw[wc a]at h;cases h
 case h_11=>cases h
 all_goals simp only[Ag]
 rfl
theorem R_W(W:World):R (pW W) (hW W) W:=by
 refine⟨by simp[pW,hW,AbO],fun b o a=>?_,fun b b' o o' r n n' a j p q=>?_⟩
 ·rw[Q5]at a;unfold Si at a;split at a
  case h_2=>cases a
  rename_i c t fz f;split at a
  case isTrue=>cases a
  cases a;have e:b<W.heap.size:=ah;have k:aG W b=c.size:=by unfold aG;rw[f]
  refine⟨b,c.size,_,by rw[Oc e,k],f,c,fz,rfl,rfl,by simp,⟨by simp,fun i d v s m h=>?_⟩,ae⟩;grind [P6]
 grind [Q5,Si,Oc]
theorem AcY{W W':World}{p':Pl}{h':H}(d:Ext (pW W) (hW W) W p' h' W'):RowKit.Below W.heap.size W W':=by
 refine⟨d.os,d.tape,d.out,d.size,fun k f=>?_⟩;by_cases i:Im (pW W) (hW W) k
 ·obtain⟨b,o,n,j,h⟩:=i;have a:=j;rw[Q5]at a;unfold Si at a;split at a
  case h_2=>cases a
  rename_i c t fz p;split at a
  case isTrue=>cases a
  cases a;have e:b<W.heap.size:=ah;have m:aG W b=c.size:=by unfold aG;rw[p]
  rw[Oc e,m]at h;cases h;exact(d.lock _ f ⟨_,_,_,_,_,j,by rw[Oc e,m],rfl,Nat.le_refl _,ae⟩).1
 ·exact d.same k f i
end Go.Det
namespace Go.Pe
open Go.Det
def FW(W:World):Fz:=fun b=>match (hW W).get b with
 |some (.cells cs _ _)=>some cs
 |_=>none
def U1:(s:Sh)->s.T->Prop
 | .int k,x=>k.min<=(x:Int)/\(x:Int)<=k.max
 | .bool,_=>True
 | .str,x=>(x:Z).length<=maxLen
 | .list s,l=>(l:List s.T).length<=maxLen/\∀x∈(l:List s.T),U1 s x
 | .pair a b,x=>U1 a x.1/\U1 b x.2
 | .unit,_=>True
 | .nlist _,_=>True
 | .fnv,_=>True
 | .ptr _,_=>True
def uX(P:Program)(f:TypeId->Option Sh):Nat->List Field->Option Sh
 |_,[]=>some .unit
 |o,[x]=>match f x.type with
  |some s=>bif z6 x.offset o&&z6 (P.cellsOf x.type) s.sz then some s else none
  |none=>none
 |o,x::y::l=>match f x.type with
  |some s=>bif z6 x.offset o&&z6 (P.cellsOf x.type) s.sz then(uX P f (o+s.sz) (y::l)).map (.pair s)else none
  |none=>none
def shP(P:Program):Nat->TypeId->Option Sh
 |0,_=>none
 |f+1,t=>match P.underlying t with
  |some (.int k)=>some<|.int k
  |some .bool=>some .bool
  |some .string=>some .str
  |some (.slice e)=>match shP P f e with
   |some s=>bif z6 (P.cellsOf e) s.sz&&Nat.blt 0 s.sz then some (.list s)else none
   |none=>none
  |some (.struct fs)=>match uX P (shP P f) 0 fs.toList with
   |some s=>bif z6 (P.cellsOf t) s.sz then some s else none
   |none=>none
  |_=>none
section
variable {H:Type}{enc:TypeId×Value->H}{P:Program}{W:World}
theorem yP{r:Nat}{c:Array Value}{t:TypeId}{fz:Nat×Nat}(h:W.heap[r]?=some (.cells c t fz))(h0:c.size≠0):FW W r=some (c.toList.map<|Pq W.heap.size):=by
 simp_all [FW,Q5,Si]
theorem Tu{a:Addr}{n:Nat}{cs:List Value}(h:W.cells? 0 a n=some cs)(f:0<n):
  ∃c t fz,W.heap[a.block]?=some (.cells c t fz)/\a.spot=none/\a.off+n<=c.size/\cs=(c.toList.drop a.off).take n:=by
 have p:=mapM_some_length h;have j:=mapM_some_get h;have h0:=j 0 0 (by simp[f]);have d:a.add 0=a:=by rfl
 obtain⟨v0,b⟩:∃v,cs[0]?=some v:=ah;rw[b]at h0;unfold y9 at h0;split at h0
 case h_2=>cases h0
 rename_i c t fz e;split at h0
 case isTrue=>cases h0
 have k:a.spot=none:=by simp_all
 have m:∀i,i<n->c[a.off+i]?=cs[i]?:=by
  grind [y9,Addr.add]
 refine⟨c,t,fz,e,k,?_,?_⟩
 ·have:=m (n-1) ae;grind
 ·apply List.ext_getElem?;grind
theorem gZ{α:Type}{p:Nat->α->Prop}:∀n:Nat,(∀i,i<n->∃x,p i x)->∃l:List α,l.length=n/\∀i (h:i<l.length),p i l[i]
 |0,_=>(by simp)
 |n+1,h=>by
  obtain⟨l,a,e⟩:=gZ n fun i b=>h i ae
  obtain⟨x,d⟩:=h n ae;refine⟨l++[x],by simp[a],fun i b=>?_⟩;grind
end
open Go.Det Go.RowKit
section
open Go.Proofs.Tryz (prog)
theorem YF{F':Fz}{v:V}(h:PC F' (.dat .bool true) v):v=.bool true:=by
 have:=h (fun _=>none) 0;simp only[PR,DC]at this;simpa using this
def GW(W:World):Prop:=∀x∈Hd,Si W x.1=some x.2
theorem GW.h{W:World}(h:GW W):Gh (hW W):=fun x a=>by rw[Q5];exact h x a
theorem GW.p{W:World}(h:GW W):Gp (pW W):=fun x f=>by
 have a:=h x f;unfold Si at a;split at a
 case h_2=>cases a
 rename_i c t fz e;split at a
 case isTrue=>cases a
 have d:x.1<W.heap.size:=(Array.getElem?_eq_some_iff.1 e).1;have i:aG W x.1=c.size:=by unfold aG;rw[e]
 rw[Oc d,i];cases b:x.2 with
 |cells cs j fz'=>rw[b]at a;cases a;simp[osz]
 |_=>rw[b]at a;cases a
theorem J1{f:FuncId}{sp:Am}(ok:Ae A1 f sp)(i:(BF sp.ins).T)(d:sp.pre i=true){args:List V}{args':Array Value}{W:World}(a:GW W)(x:NK (FW W) (Af sp.ins i) args)
  (n:AB (pW W) args args'.toList) (j:∀F' v,PC F' (one<|Af sp.outs<|sp.f i) v->v=.bool true) (hp:A1.prim f=none:=by kernel_rfl):
  Calls prog f args' W fun e W'=>e=.returned (.bool true)/\Below W.heap.size W W':=by
 obtain⟨l,M,r,_,q⟩:=(ok.zero hp).run (FW W) (hW W) args i (fun b cs h=>by
  unfold FW at h;split at h
  case h_2=>cases h
  rename_i cs' t fz s;cases h;exact⟨t,fz,s⟩) (fun b o h=>(R_W W).lt h) a.h x d
 refine((JP Agj kQ VX M).fn f args (hW W) l (r M<|Nat.le_refl _) (pW W) W args' (R_W W) a.p n).mono ?_;rintro e w' ⟨v,h',v',p',u,rfl,k,m⟩;obtain⟨_,_,_,F',_,_,_,hr⟩:=q _ u;obtain rfl:=j F' v hr;refine⟨?_,AcY m⟩;simp only[Ag]at k;rw[k]
end
open Go.Det Go.RowKit Go.ChangeShapes
def Pt(k:Nat):Value->V
 | .agg cs=>.agg<|cs.toList.map<|Pq k
 |v=>Pq k v
def wL(P:Program)(k:Nat)(t:TypeId):Option Sh:=
 match shP P k t with
 |some s=>match P.underlying t with
  |some (.struct _)=>bif s.Ps then some s else none
  |some (.int _)|some .bool|some .string|some (.slice _)=>bif s.Ps then none else some s
  |_=>none
 |none=>none
def wY(P:Program)(t:TypeId):Option Sh:=
 match P.underlying t with
 |some (.array 2 e)=>match P.underlying e with
  |some (.int q)=>bif z6 (P.cellsOf t) 2&&z6 (P.cellsOf e) 1 then some (.pair (.int q)<|.int q)else none
  |_=>none
 |_=>none
def oT(P:Program)(k:Nat)(t:TypeId):Option Sh:=
 match wY P t with
 |some s=>some s
 |none=>wL P k t
def QG(P:Program)(k:Nat):List TypeId->Option (List Sh)
 |[]=>some []
 |t::ts=>match oT P k t,QG P k ts with
  |some s,some a=>some (s::a)
  |_,_=>none
def wfL:(l:List Sh)->(BF l).T->Prop
 |[],_=>True
 |[a],x=>U1 a x
 |a::b::l,x=>U1 a x.1/\wfL (b::l) x.2
section
variable {H:Type}{enc:TypeId×Value->H}{P:Program}{W:World}{base:Nat}
theorem vZ{t:TypeId}{v:Value}(a:(∃k,P.underlying t=some (.int k))\/P.underlying t=some .bool\/P.underlying t=some .string\/∃e,P.underlying t=some (.slice e))(h:z7 P W .any base t v):v.cells.toList=[v]/\∀cs,v≠ .agg cs:=by
 rcases a with⟨k,a⟩|a|a|⟨e,a⟩<;>
 (simp only[z7,a]at h
  unfold Cell.okWide at h;simp only[a]at h;unfold Cell.ok at h;simp only[a]at h;cases v<;>first|(exact⟨rfl,fun _ e=>by cases e⟩)|(exfalso;exact h))
theorem Aa2{t:TypeId}{s:Sh}{v:Value}{d:DataW H}{p:List MemPlace}(i:wY P t=some s)(B:z7 P W .any base t v)(h:y7 enc P W 0 (fun _=>true) true t v d p):
  (∃q,s=.pair (.int q) (.int q))/\∃x:s.T,PC (FW W) (Cx s x) (Pt W.heap.size v)/\U1 s x/\Ag (pW W) (Pt W.heap.size v) v:=by
 unfold wY at i;split at i
 case h_2=>cases i
 rename_i e A;split at i
 case h_2=>cases i
 rename_i q y;cases m:(z6 (P.cellsOf t) 2&&z6 (P.cellsOf e) 1)with
 |false=>rw[m]at i;cases i
 |true=>
 rw[m]at i;cases i;refine⟨⟨q,rfl⟩,?_⟩;rw[zj]at m;have G:=zm m.1;have J:=zm m.2;simp only[z7,A]at B;obtain⟨cs,rfl,k,_⟩:=B;obtain⟨fuel,f⟩:=h;have I:(Value.agg cs).cells.toList=cs.toList:=rfl;rw[I]at f;rw[G]at k;obtain⟨u,r,hl⟩:∃u r,cs.toList=[u,r]:=by
  match hh:cs.toList,(show cs.toList.length=2 by rw[Array.length_toList];exact k)with
  |[a,b],_=>exact⟨a,b,rfl⟩
 rw[hl]at f;cases fuel with
 |zero=>simp[zk]at f
 |succ n=>
  unfold zk at f;rw[A]at f;have D:yg 2=[0,1]:=rfl;simp[D,J]at f;obtain⟨_,f⟩:=f;cases h0:zk enc P W 0 (fun _=>true) true n e [u]with
  |none=>simp[h0]at f
  |some L=>
   cases z:zk enc P W 0 (fun _=>true) true n e [r]with
   |none=>simp[h0,z]at f
   |some K=>
    obtain⟨n0,z0,_,w0⟩:=qc y h0;obtain⟨n1,z1,_,w1⟩:=qc y z;cases z0;cases z1;have C:DC (FW W) (.pair (.int q)<|.int q) ((n0:Int),(n1:Int)) (cs.toList.map<|Pq W.heap.size):=by
     rw[hl];simp only[DC];exact⟨[Pq W.heap.size<|.int q n0],[Pq W.heap.size<|.int q n1],rfl,by simp[Pq],by simp[Pq]⟩
    refine⟨((n0:Int),(n1:Int)),(PC.Cx C).1 rfl,⟨by simpa [U1,Lit.wf]using w0,by simpa [U1,Lit.wf]using w1⟩,?_⟩;simp only[Pt,Ag];refine⟨cs,rfl,?_⟩;have j:=C.ok;generalize cs.toList=l at j;induction l with
    |nil=>simp
    |cons a l F=>
     simp only[z8,BE];exact⟨P6 (j _ (by simp)),F fun v E=>j v<|by simp only[z8,yv];exact .inr E⟩
theorem FX:∀ {ts:List TypeId} {args:List Value} {ds:List (DataW H)} {p:List MemPlace},yk enc P W 0 (fun _=>true) true ts args ds p->ds.length=ts.length
 |[],_,_,_,h=>by obtain⟨_,rfl,_⟩:=trodAll_nil h;rfl
 |t::ts,_,_,_,h=>by
  obtain⟨v0,b,e,d,p0,q0,rfl,rfl,rfl,h0,a⟩:=trodAll_cons h;simp[FX a]
theorem Adm{α:Type}{l:List α}(h:l.length=3):∃a b c,l=[a,b,c]:=by
 match l,h with
 |[a,b,c],_=>exact⟨a,b,c,rfl⟩
end
def nL:Sh->Nat
 | .str=>16
 | .list _=>24
 | .pair a b=>nL a+nL b
 | .unit=>0
 |_=>8
def Wt{H:Type}(P:Program)(t:TypeId)(d:DataW H):Prop:=∀n∈yf P t d,n<=reachBytes
def UC(P:Program):Nat->TypeId->Bool
 |0,_=>false
 |f+1,t=>match P.underlying t with
  |some (.slice e)=>UC P f e&&(match shP P f e with|some s=>z6 (P.bytesOf e) (nL s)|none=>false)
  |some (.struct fs)=>fs.toList.all fun x=>UC P f x.type
  |_=>true
def SW:(s:Sh)->s.T->Prop
 | .list s,l=>(l:List s.T).length*nL s<=reachBytes/\∀x∈(l:List s.T),SW s x
 | .pair a b,x=>SW a x.1/\SW b x.2
 |_,_=>True
def AaL:(l:List Sh)->(BF l).T->Prop
 |[],_=>True
 |[a],x=>SW a x
 |a::b::l,x=>SW a x.1/\AaL (b::l) x.2
section
variable {H:Type}{enc:TypeId×Value->H}{P:Program}{W:World}{base:Nat}
theorem Ah2{e:TypeId}{n:Nat}:∀ {l:List (DataW H)} {d:DataW H},d∈l->n∈yf P e d->n∈DataW.weightsAll P e l
 |x::l,d,a,b=>by
  rw[DataW.weightsAll,yo];rcases yv.1 a with rfl|a
  ·grind
  ·exact .inr<|Ah2 a b
theorem Ad7{n:Nat}:∀ {ts:List TypeId} {l:List (DataW H)} {i:Nat} {t:TypeId} {d:DataW H},ts[i]?=some t->l[i]?=some d->n∈yf P t d->n∈zn P ts l
 |u::ts,x::l,0,t,d,a,e,b=>by
  grind [zn]
 |u::ts,x::l,i+1,t,d,a,e,b=>by
  rw[zn,yo];exact .inr (Ad7 (i:=i) ah ah b)
 |[],_,_,_,_,a,_,_=>by grind
 |_::_,[],_,_,_,_,e,_=>by grind
theorem AeI{n:Nat}:∀ {ts b:List TypeId} {ds es:List (DataW H)},ts.length=ds.length->n∈zn P ts ds->n∈zn P (ts++b) (ds++es)
 |t::ts,b,d::ds,es,h,a=>by
  rw[zn,yo]at a;rw[List.cons_append,List.cons_append,zn,yo];exact a.imp id fun x=>AeI ah x
 |[],_,_,_,_,a=>by grind [zn]
 |_::_,_,[],_,h,_=>by simp at h
theorem AeR{t e:TypeId}{el sp:List (DataW H)}(a:P.underlying t=some (.slice e))(h:Wt P t (.slice el sp)):(el.length+sp.length)*P.bytesOf e<=reachBytes:=by
 grind [yf,zl,Wt]
theorem Ado{t e:TypeId}{el sp:List (DataW H)}{d:DataW H}(b:P.underlying t=some (.slice e))(h:Wt P t (.slice el sp))(f:d∈el\/d∈sp):Wt P e d:=fun n a=>by
 refine h n ?_;grind [yf,Ah2]
theorem AaR{t:TypeId}{fs:Array Field}{l:List (DataW H)}{i:Nat}{f:Field}{d:DataW H}(e:P.underlying t=some (.struct fs))(h:Wt P t (.agg l))(a:fs[i]?=some f)(j:l[i]?=some d):Wt P f.type d:=fun n b=>by
 refine h n ?_;rw[yf,e];exact Ad7 (i:=i) (t:=f.type) (by simp[a]) j b
theorem R6{G:TypeId->DataW H->Prop}{f:TypeId->Option Sh}{n:Nat}{cs:List Value}
  (p:∀(t:TypeId) (s:Sh) (cs:List Value) (y:DataW H×List MemPlace),f t=some s->zk enc P W 0 (fun _=>true) true n t cs=some y->G t y.1->∃x:s.T,DC (FW W) s x (cs.map<|Pq W.heap.size)/\U1 s x/\SW s x):
  ∀(fs:List Field) (o:Nat) (s:Sh),uX P f o fs=some s->(∀x∈fs,∃z,zk enc P W 0 (fun _=>true) true n x.type ((cs.drop x.offset).take<|P.cellsOf x.type)=some z/\G x.type z.1)->
   ∃x:s.T,DC (FW W) s x (((cs.map<|Pq W.heap.size).drop o).take s.sz)/\U1 s x/\SW s x
 |[],o,s,d,_=>by
  cases d;exact⟨(),by rfl,trivial,trivial⟩
 |[x],o,s,d,k=>by
  unfold uX at d;split at d
  case h_2=>cases d
  rename_i j i;cases e:(z6 x.offset o&&z6 (P.cellsOf x.type) j.sz)with
  |false=>grind
  |true=>
  obtain⟨z,m,h⟩:=k x (by simp);grind [zm,qe,qf]
 |x::x'::l,o,s,d,k=>by
  unfold uX at d;split at d
  case h_2=>cases d
  rename_i j i;cases e:(z6 x.offset o&&z6 (P.cellsOf x.type) j.sz)with
  |false=>grind
  |true=>
  rw[e]at d;simp only[we,Option.map_eq_some_iff]at d;obtain⟨s2,q,rfl⟩:=d;simp only[zj]at e;obtain⟨z,m,h⟩:=k x (by simp);rw[zm e.1,zm e.2]at m;obtain⟨a,a1,a2,a3⟩:=p _ _ _ _ i m h;obtain⟨b,b1,b2,b3⟩:=R6 p (x'::l) (o+j.sz) s2 q (fun u r=>k u ah);refine⟨(a,b),?_,⟨a2,b2⟩,a3,b3⟩;refine⟨_,_,?_,a1,b1⟩;rw[qe,qf, <-List.drop_drop];exact List.take_add
theorem QO:∀(k A:Nat) (t:TypeId) (s:Sh) (cs:List Value) (y:DataW H×List MemPlace),shP P k t=some s->zk enc P W 0 (fun _=>true) true A t cs=some y->UC P k t=true->Wt P t y.1->
  ∃x:s.T,DC (FW W) s x (cs.map<|Pq W.heap.size)/\U1 s x/\SW s x
 |0,_,_,_,_,_,m,_,_,_=>by cases m
 |k+1,A,t,s,cs,y,m,h,J,I=>by
  have ih:=QO k;unfold shP at m;split at m
  case h_1 q j=>
   cases m;obtain⟨n,rfl,_,Y⟩:=qc j h;exact⟨(n:Int),by rfl,by grind [U1,Lit.wf],trivial⟩
  case h_2 j=>
   cases m;obtain⟨b,rfl,_⟩:=DataW.trod_bool j h;exact⟨b,by rfl,trivial,trivial⟩
  case h_3 j=>
   cases m;obtain⟨b,rfl,_,Y⟩:=DataW.trod_string j h;exact⟨b.data.toList,by rfl,by show b.data.toList.length<=maxLen;simp_all,trivial⟩
  case h_4 e j=>
   split at m
   case h_2=>cases m
   rename_i f E;cases F:(z6 (P.cellsOf e) f.sz&&Nat.blt 0 f.sz)with
   |false=>grind
   |true=>
   rw[F]at m;cases m;simp only[zj]at F;have O:=zm F.1;have L:=Nat.le_of_ble_eq_true F.2;rcases DataW.trod_slice j h with⟨rfl,_⟩|⟨a,len,cap,C,R,n,rfl,rfl,V,_,hlc,hcm,hel,Z,hr,_⟩
   ·exact⟨[],by simp[DC,Pq],by simp[U1],by simp[SW]⟩
   ·obtain⟨hrl,hr⟩:=hr rfl;rw[V]at I;have I:Wt P t (.slice (C.map (·.1)) (R.map (·.1))):=I;unfold UC at J;rw[j]at J;simp only[E,zj]at J;obtain⟨J,K⟩:=J;have K:=zm K;rw[O]at Z hr;by_cases h0:cap=0
    ·obtain rfl:len=0:=ae
     subst h0;exact⟨[],by simp[DC,Pq],by simp[U1],by simp[SW]⟩
    ·
     have all:∀i,i<cap->∃D z,W.cells? 0 (a.add<|i*f.sz) f.sz=some D/\zk enc P W 0 (fun _=>true) true n e D=some z/\Wt P e z.1:=by
      intro i N;by_cases hl:i<len
      ·have r:=Z i hl;rw[yw ae]at r;rw[yy]at r;obtain⟨D,B,v⟩:=r;exact⟨D,_,B,v,Ado j I ah⟩
      ·have r:=hr (i-len) ae;rw[show len+(i-len)=i by omega,yw ae]at r;rw[yy]at r;obtain⟨D,B,v⟩:=r;exact⟨D,_,B,v,Ado j I ah⟩
     obtain⟨c0,z0,g0,_,_⟩:=all 0 ae;rw[Nat.zero_mul,show a.add 0=a from by rfl]at g0;obtain⟨c,tc,fz,hb,hsp,hoff,_⟩:=Tu g0 L;have S:a.block<W.heap.size:=ah;have X:=yP hb ae;obtain⟨ab,ao,ax⟩:=a;simp only at hsp hb hoff S X;subst hsp;have u:∀i,i<cap->ao+i*f.sz+f.sz<=c.size/\∃x:f.T,DC (FW W) f x (((c.toList.map<|Pq W.heap.size).drop<|ao+i*f.sz).take f.sz)/\U1 f x/\SW f x:=by
      intro i N;obtain⟨D,z,r,B,hz⟩:=all i N;rw[Addr.Of]at r;obtain⟨c',tc',fz',hb',_,ho',rfl⟩:=Tu r ae;grind [qe,qf]
     obtain⟨l,M,hl2⟩:=gZ (p:=fun i (x:f.T)=>DC (FW W) f x (((c.toList.map<|Pq W.heap.size).drop<|ao+i*f.sz).take f.sz)/\U1 f x/\SW f x) len fun i N=>(u i ae).2
     refine⟨l,?_,?_,?_⟩
     ·simp only[DC];refine⟨.sl ab ao len cap 0,?_,.inr ⟨ab,ao,cap,0,_,by rw[M],by omega,X,?_,.inl rfl,ah⟩⟩
      ·simp_all [Pq]
      ·rw[M];have:=(u (cap-1) ae).1;have v:cap*f.sz=(cap-1)*f.sz+f.sz:=by rw[<-Nat.succ_mul];grind
       grind
     ·refine⟨by omega,fun x U=>?_⟩;obtain⟨i,N,rfl⟩:=List.mem_iff_getElem.1 U;grind
     ·refine⟨?_,fun x U=>?_⟩
      ·have Y:=AeR j I;grind
      ·obtain⟨i,N,rfl⟩:=List.mem_iff_getElem.1 U;grind
  case h_5 fs j=>
   split at m
   case h_2=>cases m
   rename_i f E;cases F:z6 (P.cellsOf t) f.sz with
   |false=>grind
   |true=>
   have O:=zm F;obtain⟨xs,n,rfl,V,hlen,hxl,hf⟩:=DataW.trod_struct j h;unfold UC at J;obtain⟨x,r,B,v⟩:=R6 (G:=fun t d=>UC P k t=true/\Wt P t d) (cs:=cs) (fun t s cs y r B v=>ih n t s cs y r B v.1 v.2) fs.toList 0 _ E (by grind [List.mem_iff_getElem?,AaR]);grind [List.take_of_length_le]
  grind
theorem tD{k:Nat}{t:TypeId}{s:Sh}{v:Value}{d:DataW H}{p:List MemPlace}(j:shP P k t=some s)(hp:s.Ps=false)(e:v.cells.toList=[v])(h:y7 enc P W 0 (fun _=>true) true t v d p)(f:UC P k t=true)(i:Wt P t d):
  ∃x:s.T,PC (FW W) (Cx s x) (Pq W.heap.size v)/\(U1 s x/\SW s x)/\Ag (pW W) (Pq W.heap.size v) v:=by
 obtain⟨a,b⟩:=h;rw[e]at b;obtain⟨x,h1,h2⟩:=QO k a t s [v] (d,p) j b f i;exact⟨x,(PC.Cx h1).2 hp _ rfl,h2,P6<|h1.ok _<|by simp⟩
theorem vV{k:Nat}{t:TypeId}{s:Sh}{v:Value}{d:DataW H}{p:List MemPlace}(b:oT P k t=some s)(m:z7 P W .any base t v)(h:y7 enc P W 0 (fun _=>true) true t v d p)(z:UC P k t=true)(u:Wt P t d):
  ∃x:s.T,PC (FW W) (Cx s x) (Pt W.heap.size v)/\(U1 s x/\SW s x)/\Ag (pW W) (Pt W.heap.size v) v:=by
 unfold oT at b;split at b
 case h_1=>
  rename_i s1 i;cases b;obtain⟨⟨q,rfl⟩,x,a1,a2,a3⟩:=Aa2 i m h;exact⟨x,a1,⟨a2,trivial,trivial⟩,a3⟩
 unfold wL at b;split at b
 case h_2=>cases b
 rename_i j n;have plain:((∃k,P.underlying t=some (.int k))\/P.underlying t=some .bool\/P.underlying t=some .string\/∃e,P.underlying t=some (.slice e))->(bif j.Ps then none else some j)=some s->∃x:s.T,PC (FW W) (Cx s x) (Pt W.heap.size v)/\(U1 s x/\SW s x)/\Ag (pW W) (Pt W.heap.size v) v:=by
  intro y C;cases hp:j.Ps with
  |true=>grind
  |false=>
   obtain⟨i,r⟩:=vZ y m;have e:Pt W.heap.size v=Pq W.heap.size v:=by
    simp_all [Pt]
   grind [tD]
 split at b
 case h_1=>
  rename_i fs A;cases hp:j.Ps with
  |false=>grind
  |true=>
   rw[hp]at b;cases b;simp only[z7,A]at m;obtain⟨cs,rfl,_,_⟩:=m;obtain⟨fuel,hf⟩:=h;obtain⟨x,i,r⟩:=QO k fuel t s _ (d,p) n hf z u;refine⟨x,(PC.Cx i).1 hp,r,?_⟩;refine⟨cs,rfl,?_⟩;have f:=i.ok;have e:(Value.agg cs).cells.toList=cs.toList:=rfl;rw[e]at f;generalize cs.toList=l at f;induction l with
   |nil=>simp
   |cons a l B=>
    grind [BE,P6]
 case h_2=>simp_all
 case h_3=>grind
 case h_4=>grind
 case h_5=>simp_all
 grind
theorem NP{k:Nat}:∀ {ts:List TypeId} {a:List Sh} {args:List Value} {ds:List (DataW H)} {p:List MemPlace},QG P k ts=some a->(∀(j:Nat) t v,ts[j]?=some t->args[j]?=some v->z7 P W .any base t v)->
  yk enc P W 0 (fun _=>true) true ts args ds p->(ts.all<|UC P k)=true->(∀n∈zn P ts ds,n<=reachBytes)->∃x:(BF a).T,NK (FW W) (Af a x) (args.map<|Pt W.heap.size)/\(wfL a x/\AaL a x)/\AB (pW W) (args.map<|Pt W.heap.size) args
 |[],a,args,ds,p,b,_,h,_,_=>by
  cases b;obtain⟨rfl,rfl,rfl⟩:=trodAll_nil h;exact⟨(),fun ρ N=>by rfl,⟨trivial,trivial⟩,by simp⟩
 |t::ts,a,args,ds,p,b,m,h,i,q=>by
  unfold QG at b;split at b
  case h_2=>cases b
  rename_i s e B u;cases b;obtain⟨v0,d,D,C,p0,q0,rfl,rfl,rfl,h0,A⟩:=trodAll_cons h;rw[List.all_cons,zj]at i;rw[zn]at q;obtain⟨x,a1,a2,a3⟩:=vV B (m 0 t v0 rfl rfl) h0 i.1 (fun n E=>(by simp_all));obtain⟨y,b1,b2,b3⟩:=NP u (fun j t v r f=>m (j+1) t v r f) A i.2 (by simp_all);have hr:AB (pW W) ((v0::d).map<|Pt W.heap.size) (v0::d):=by simp_all
  cases e with
  |nil=>exact⟨x,fun ρ N=>by
    have:=b1 ρ N;simp only[Af,El]at this;simp only[z8,Af,this,BY,El,ve];exact a1 ρ N,a2,hr⟩
  |cons s2 z=>exact⟨(x,y),fun ρ N=>by
    simp only[z8,Af,BY];exact⟨a1 ρ N,b1 ρ N⟩,⟨⟨a2.1,b2.1⟩,a2.2,b2.2⟩,hr⟩
end
open Go.Sp (At Bi Be AZ EJ Bm Bw)
theorem AfH{l:Be}(h:SW Ba l):Sp.mY l=true:=by
 obtain⟨_,_,_,_,a,_⟩:=h;have a:l.2.2.2.2.length*32<=140737488351232:=a;exact w4 ae
theorem uZ{c:At}(h:SW AT c):Sp.rQ c=true:=by
 obtain⟨⟨s1,s2⟩,⟨t1,_⟩,l1,a⟩:=h;have s1:c.1.length*88<=140737488351232:=s1;have t1:c.2.1.length*40<=140737488351232:=t1;have l1:c.2.2.length*96<=140737488351232:=l1;have s2:∀x∈c.1,SW Bg x:=s2;have a:∀x∈c.2.2,SW Ba x:=a;unfold Sp.rQ;refine Ab (Ab (Ab (ad ae ae)<|w4 ae)<|yh.2 fun x b=>?_)<|yh.2 fun x b=>AfH<|a x b;obtain⟨_,_,_,_,d,_⟩:=s2 x b;have d:x.2.2.2.2.length*24<=140737488351232:=d;exact w4 ae
open Go.Sp (At Bw)
theorem iH{c:At}(h:SW AT c):c.2.1.all Sp.PD=true:=by
 grind [Sp.PD,SW,nL,reachBytes]
end Go.Pe
namespace Go.Proofs.YtbmofcgiokkikaaGreatDoor
open Go
set_option maxRecDepth 100000
theorem seatTie1:Tryz.prog.laidByTextLater [("math/bits.deBruijn32tab",Rows.laid_math_bits_deBruijn32tab),("math/bits.deBruijn64tab",Rows.laid_math_bits_deBruijn64tab),("internal/strconv.uint64pow10",Rows.laid_internal_strconv_uint64pow10),("unicode/utf8.acceptRanges",Rows.laid_unicode_utf8_acceptRanges),("strconv.ErrRange",Rows.laid_strconv_ErrRange),("strconv.ErrSyntax",Rows.laid_strconv_ErrSyntax)] [.data,.data,.data,.data,.sentinel,.sentinel] true:=
 Program.laidByTextLater_by_one 72 8 65 ag ag ag ag ag ag (fun _ _=>by kernel_rfl)
theorem noOwnUnsafe:Tryz.pinned.checked.prog.headLifts.contains "ownunsafe"=false:=by kernel_rfl
theorem fits1:Tryz.pinned.checked.prog.listedFits Rows.ratingSlopesRow.laid=true:=by
 unfold Program.listedFits;rw[noOwnUnsafe];kernel_rfl
theorem ratingSlopes_row_tie:Rows.ratingSlopesRow.laidByTextAt .later Tryz.pinned [.data,.data,.data,.data,.sentinel,.sentinel,.pinned] true:=by
 refine ym rfl rfl seatTie1 rfl rfl rfl rfl (fun y a _e=>?_) fits1;simp only[Rows.ratingSlopesRow,List.zip_cons_cons,List.zip_nil_right,yv,List.mem_nil_iff,or_false]at a;rcases a with rfl|rfl|rfl|rfl|rfl|rfl|rfl
 ·cases _e
 ·cases _e
 ·cases _e
 ·cases _e
 ·cases _e
 ·cases _e
 ·exact⟨by kernel_rfl,by kernel_rfl⟩
theorem ratingAdds_row_tie:Rows.ratingAddsRow.laidByTextAt .later Tryz.pinned [.data,.data,.data,.data,.sentinel,.sentinel,.pinned] true:=by
 refine ym rfl rfl seatTie1 rfl rfl rfl rfl (fun y a _e=>?_) fits1;simp only[Rows.ratingAddsRow,List.zip_cons_cons,List.zip_nil_right,yv,List.mem_nil_iff,or_false]at a;rcases a with rfl|rfl|rfl|rfl|rfl|rfl|rfl
 ·cases _e
 ·cases _e
 ·cases _e
 ·cases _e
 ·cases _e
 ·cases _e
 ·exact⟨by kernel_rfl,by kernel_rfl⟩
end Go.Proofs.YtbmofcgiokkikaaGreatDoor
