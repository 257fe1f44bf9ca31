import Derived.Test.YtjbmodoofdpgcaaGreatDoorX15
/- A part of a proof; no law is stated here. -/
noncomputable section
open Go.IntKind renaming wrap -> zc, i64 -> zf
open Go.Pe.Ends renaming tt -> zd, ite -> zk, ff -> zl
open List renaming length -> ze, getD_eq_getElem?_getD -> zh, getD -> zi, getElem?_eq_getElem -> zj, mem_cons -> zn, take -> zr, drop -> zt
open Int renaming toNat -> zg, toNat_natCast -> zm
open Nat renaming sub -> zo
open Go.Pe.Sh renaming list -> zp
open Rat renaming not_le -> zq
namespace Go.Pe
open Sp
open Go.Det
section
open List Int Prod
namespace T5
def T(l:List Int)(x:Rd)(c:Int×Rd×Int):Tr:=tree JB false 9 5<|Ae ([zp i64,Sh.str,Sh.pair i64 Ack]) (l,x,c)
def L1(v0:List Int)(v1:Rd)(e:List Int)(d c f:Int)(a:Rd)(b:Int):Tr:=re ((T [] [] (0,([],0))).L.R.R.L.R.L.R.L.R.R.R.L.R.L.R.R.R.L.R.R)<|AE 245 [(0,.dat (zp i64) v0),(1,.dat Sh.str v1),(5,.ptr 0 0),(7,.dat (zp i64) e),(9,.bl false),(93,.dat i64 d),(94,.dat i64 c)] [(0,.box [.dat i64 f,.dat Sh.str a,.dat i64 b])] 1
theorem Aj(l:List Int)(x:Rd)(c:Int×Rd×Int):T l x c=let a:Tr:=.ck true<|.leaf (.dat Sh.bool true) [];let b':=decide (0<=4)&&decide (4<=1000);let d:=decide (length l<=1000000);let b:=(length l:Int);.ck true (.ite false a<|.di (b>12) a<|.ck d<|.ite (DD l (-99) 99 !=0) a<|.ck b'<|.ite (!Kd x 4) a<|.ck (decide (length x<=1000000)&&U3 (-20)&&U3 59)<|.ite (GU x (-20) 59 !=0) a<|.di (fst c<55) a<|.di (fst c>155) a<|.ck b'<|.ite (!Kd (fst<|snd c) 4) a<|.ck (decide (length (fst<|snd c)<=1000000)&&U3 1&&U3 199)<|.ite (GU (fst<|snd c) 1 199 !=0) a<|.di (snd (snd c)<2) a<|.di (snd (snd c)>200) a<|.ck d<|.ite (DD l (-99) 99 !=0) (.leaf (.bl false) [])<|.ite ((↑(length<|H6 l):Int) !=b) (.leaf (.bl false) [])<|L1 l x (H6 l) b 0 (fst c) (fst<|snd c)<|snd<|snd c):=by kernel_rfl
def L2(v0:List Int)(v1:Rd)(f:List Int)(v9:Bool)(c d e:Int)(b:Rd)(a:Int):Tr:=re ((stepT JB<|L1 [] [] [] 0 0 0 [] 0).L.L.L.L.L.L.L.R.L.L.L.L.R.R.L.R.L.R)<|AE 245 [(0,.dat (zp i64) v0),(1,.dat Sh.str v1),(5,.ptr 0 0),(7,.dat (zp i64) f),(9,.dat Sh.bool v9),(93,.dat i64 c),(94,.dat i64 d)] [(0,.box [.dat i64 e,.dat Sh.str b,.dat i64 a])] 1
theorem Am(v0:List Int)(v1:Rd)(d:List Int)(e a k:Int)(b:Rd)(c:Int):stepT JB (L1 v0 v1 d e a k b c)=let b':=decide (0<=a)&&decide (a<(length v0:Int));let f:Tr:=.leaf (.bl false) [];let i:=decide (0<=a)&&decide (a<(length d:Int));let g:=zc .i64<|a+1;let j:=([49,47,50]:Rd);let h':=decide (length b<=1000000);let n:=decide (length v1<=1000000);let h:=take (zo (toNat g)<|toNat a)<|drop (toNat a) v0;let m:=n&&h';.di (a<e) (.ck i<|.ck b'<|.ck true<|.ck (decide (0<=a)&&decide (0<=zc .i64 (a+1))&&decide (toNat a<=toNat g)&&decide (toNat g<=length v0))<|.ck (decide (length h<=1000000)&&decide (1<=1000000))<|.ck i<|.di (getD d (toNat a) 0<0) f<|.ck i<|.cd (0<(length d:Int))<|.ck b'<|.cd (0<(length v0:Int))<|.ite (zc .i64 (getD d (toNat a) 0-getD d 0 0) !=zc .i64 (getD v0 (toNat a) 0-getD v0 0 0)) f<|.ite (zc .i64 (Kb (getD v0 (toNat a) 0) 100+GD h [100]) !=0) f<|.ck b'<|.ite (P6 (getD v0 (toNat a) 0) 100 !=getD v0 (toNat a) 0) f<|.ck b'<|.ite (Q4 h [100] !=getD v0 (toNat a) 0) f<|L2 v0 v1 d (getD d (toNat a) 0==0) e g k b c) (.ck m<|.ck (A4 v1&&A4 j)<|.ck (decide (length (Ci v1 j)<=1000000)&&h')<|.ck (A4 b&&A4 [(49:UInt8)])<|.ck (n&&decide (length (Ci b [(49:UInt8)])<=1000000))<|.ck m f):=by kernel_rfl
def L3(v0:List Int)(v1:Rd)(e:List Int)(d c f:Int)(a:Rd)(b:Int):Tr:=re ((stepT JB<|L2 [] [] [] false 0 0 0 [] 0).L.L.L.L.L.L.L.R.L.L.L.L.R.R.L.R.L.R)<|AE 245 [(0,.dat (zp i64) v0),(1,.dat Sh.str v1),(5,.ptr 0 0),(7,.dat (zp i64) e),(9,.bl true),(93,.dat i64 d),(94,.dat i64 c)] [(0,.box [.dat i64 f,.dat Sh.str a,.dat i64 b])] 1
theorem AU(v0:List Int)(v1:Rd)(g:List Int)(v9:Bool)(f a e:Int)(b:Rd)(c:Int):stepT JB (L2 v0 v1 g v9 f a e b c)=let d:Tr:=.leaf (.bl false) [];let u:=zc .i64 (getD g (toNat a) 0-getD g 0 0) !=zc .i64 (getD v0 (toNat a) 0-getD v0 0 0);let i:=zc .i64<|a+1;let h':=([49,47,50]:Rd);let o:=P6 (getD v0 (toNat a) 0) 100 !=getD v0 (toNat a) 0;let l':=Ci b [(49:UInt8)];let o':=decide (getD g (toNat a) 0<0);let p':=(length g:Int);let m:=(length v0:Int);let w:=decide (length b<=1000000);let r:=zc .i64<|c-1;let q:=decide (length v1<=1000000);let v':=J9 v1 e b c+1;let k:=take (zo (toNat i)<|toNat a)<|drop (toNat a) v0;let b':=decide (0<=a)&&decide (a<m);let h:=decide (0<=a)&&decide (a<p');let t:=decide (0<=a)&&decide (0<=zc .i64 (a+1))&&decide (toNat a<=toNat i)&&decide (toNat i<=length v0);let n:=q&&w;let j:=Ci v1 h';let v:=zc .i64 (Kb (getD v0 (toNat a) 0) 100+GD k [100]) !=0;let y:=decide (length k<=1000000)&&decide (1<=1000000);let n':=Q4 k [100] !=getD v0 (toNat a) 0;.di (a<f) (.ite v9 (.ck b'<|.ck true<|.ck t<|.ck y<|.ck h<|.ite o' d<|.ck h<|.cd (0<p')<|.ck b'<|.cd (0<m)<|.ite u d<|.ite v d<|.ck b'<|.ite o d<|.ck b'<|.ite n' d<|L3 v0 v1 g f i e b c)<|.ck h<|.ck b'<|.ck true<|.ck t<|.ck y<|.ck h<|.ite o' d<|.ck h<|.cd (0<p')<|.ck b'<|.cd (0<m)<|.ite u d<|.ite v d<|.ck b'<|.ite o d<|.ck b'<|.ite n' d<|L2 v0 v1 g (getD g (toNat a) 0==0) f i e b c) (.ck n<|.ck (A4 v1&&A4 h')<|.ck (decide (length j<=1000000)&&w)<|.ck (A4 b&&A4 [(49:UInt8)])<|.ck (q&&decide (length l'<=1000000))<|.ck n<|.ite v9 (.ite (zc .i64 (zc .i64 (zc .i64 (LQ v1 e b c+LQ j e b c)+LQ v1 e l' c)+LQ v1 e b r)==0) (.di (J9 v1 e b c<=J9 j e b c) (.ite (J9 v1 e l' c==zc .i64 v') (.leaf (.dat Sh.bool<|J9 v1 e b r==zc .i64 v') []) d) d) d) d):=by kernel_rfl
theorem BH(v0:List Int)(v1:Rd)(f:List Int)(e a d:Int)(b:Rd)(c:Int):stepT JB (L3 v0 v1 f e a d b c)=let b':Tr:=.leaf (.bl false) [];let h:=decide (0<=a)&&decide (a<(length v0:Int));let o:=([49,47,50]:Rd);let g:=zc .i64<|a+1;let i:=Ci b [(49:UInt8)];let h':=decide (0<=a)&&decide (a<(length f:Int));let n:=decide (length b<=1000000);let m:=zc .i64<|c-1;let l':=decide (length v1<=1000000);let r:=J9 v1 d b c+1;let k:=take (zo (toNat g)<|toNat a)<|drop (toNat a) v0;let q:=l'&&n;let j:=Ci v1 o;.di (a<e) (.ck h<|.ck true<|.ck (decide (0<=a)&&decide (0<=zc .i64 (a+1))&&decide (toNat a<=toNat g)&&decide (toNat g<=length v0))<|.ck (decide (length k<=1000000)&&decide (1<=1000000))<|.ck h'<|.di (getD f (toNat a) 0<0) b'<|.ck h'<|.cd (0<(length f:Int))<|.ck h<|.cd (0<(length v0:Int))<|.ite (zc .i64 (getD f (toNat a) 0-getD f 0 0) !=zc .i64 (getD v0 (toNat a) 0-getD v0 0 0)) b'<|.ite (zc .i64 (Kb (getD v0 (toNat a) 0) 100+GD k [100]) !=0) b'<|.ck h<|.ite (P6 (getD v0 (toNat a) 0) 100 !=getD v0 (toNat a) 0) b'<|.ck h<|.ite (Q4 k [100] !=getD v0 (toNat a) 0) b'<|L3 v0 v1 f e g d b c) (.ck q<|.ck (A4 v1&&A4 o)<|.ck (decide (length j<=1000000)&&n)<|.ck (A4 b&&A4 [(49:UInt8)])<|.ck (l'&&decide (length i<=1000000))<|.ck q<|.ite (zc .i64 (zc .i64 (zc .i64 (LQ v1 d b c+LQ j d b c)+LQ v1 d i c)+LQ v1 d b m)==0) (.di (J9 v1 d b c<=J9 j d b c) (.ite (J9 v1 d i c==zc .i64 r) (.leaf (.dat Sh.bool<|J9 v1 d b m==zc .i64 r) []) b') b') b'):=by kernel_rfl
end T5
end
open Go.Sp (Cp)
end Go.Pe
namespace Go.Sp
open Go.Pe
theorem XI:∀(r:List Int) (m:Int),r.foldl B5 m<=m/\∀x∈r,r.foldl B5 m<=x
 |[],m=>⟨Int.le_refl _,fun x h=>by cases h⟩
 |y::r,m=>by
  obtain⟨c,b⟩:=XI r<|B5 m y;have e:B5 m y<=m/\B5 m y<=y:=by
   unfold B5;split<;>omega
  rw[List.foldl_cons];refine⟨by omega,fun x a=>?_⟩;rcases zn.1 a with h|h
  ·rw[h];omega
  ·exact b x h
theorem oG{l:List Int}{x:Int}(h:x∈l):CT l<=x:=by
 cases l with
 |nil=>cases h
 |cons y t=>
  obtain⟨b,a⟩:=XI t y;rw[Mo];rcases zn.1 h with h|h
  ·rw[h];exact b
  ·exact a x h
theorem K0(l:List Int):(DK l).length=l.length:=by unfold DK;rw[List.length_map]
theorem Nw{l:List Int}{i:Nat}(h:i<l.length):(DK l).getD i 0=l.getD i 0-CT l:=by
 unfold DK;rw[zh,List.getElem?_map,zh,zj h];rfl
theorem Xo(x:Int):((x*100:Int):Rat)/100=(x:Rat):=by
 rw[Rat.intCast_mul];have:((100:Int):Rat)=100:=rfl;rw[this];grind
theorem vX{x:Int}(h: -99<=x/\x<=99):Kb x 100=0/\P6 x 100=x:=by
 have e:Kb x 100=0:=by
  unfold Kb;rw[show B2 x (-99) 99=0 by unfold B2;rw[wc ae]];rfl
 refine⟨e,?_⟩;unfold P6;rw[e,wc af,Xo,XK]
theorem zC{x:Int}(h: -99<=x/\x<=99):GD [x] [100]=0/\Q4 [x] [100]=x:=by
 have o:Et (-99) 99 x=false:=by
  unfold Et;rw[w8 ae,w8 ae];rfl
 have e:GD [x] [100]=0:=by
  unfold GD;rw[HA _ _ (List.cons_ne_nil x []) (show(1:Nat)<=200 by decide),List.any_cons,o];rfl
 have s:CB [x] [100]=x*100:=by
  rw[Jx];exact Int.add_zero _
 refine⟨e,?_⟩;unfold Q4;rw[e,wc af,s,Xo,XK]
structure Fr(x:Cp)(s:Int)(r:Cp)(p:Int):Prop where
 fx:Kd x 4=true
 rx:GU x (-20) 59=0
 s:55<=s/\s<=155
 fr:Kd r 4=true
 rr:GU r 1 199=0
 p:2<=p/\p<=200
theorem G7{s:Cp}(h:A4 s=true):s.length<=1000000:=by
 unfold A4 at h;rw[Bool.and_eq_true,w5,w5]at h;omega
theorem NH{x:Cp}{s:Int}{r:Cp}{p:Int}(i:AH x=0)(g: -20<=AJ x)(f:AJ x<=60)(j:55<=s/\s<=155)(cr:AH r=0)(r1:1<=AJ r)(r2:AJ r<=200)(k:1<=p/\p<=200):LQ x s r p=0/\J9 x s r p=Bp (U8 x s r p):=by
 have a:GU x (-20) 60=0:=by
  rw[Ge i,wc];rintro(h|h)
  ·exact zq.2 h g
  ·exact zq.2 h f
 have b:GU r 1 200=0:=by
  rw[Ge cr,wc];rintro(h|h)
  ·exact zq.2 h r1
  ·exact zq.2 h r2
 have c:B2 s 55 155=0:=by unfold B2;rw[wc ae]
 have d:B2 p 1 200=0:=by unfold B2;rw[wc ae]
 have e:LQ x s r p=0:=by
  unfold LQ;rw[a,b,c,d];rfl
 refine⟨e,?_⟩;unfold J9;rw[e,wc af]
structure zP(x:Cp)(s:Int)(r:Cp)(p:Int):Prop where
 e1:LQ x s r p=0
 e2:LQ (Ci x [49,47,50]) s r p=0
 e3:LQ x s (Ci r [49]) p=0
 e4:LQ x s r (p-1)=0
 v1: -2000<=J9 x s r p/\J9 x s r p<=2000
 v2:J9 x s r p<=J9 (Ci x [49,47,50]) s r p
 v3:J9 x s (Ci r [49]) p=J9 x s r p+1
 v4:J9 x s r (p-1)=J9 x s r p+1
 n1:A4 x=true
 n2:A4 r=true
 l1:x.length<=1000000
 l2:r.length<=1000000
 l3:(Ci x [49,47,50]).length<=1000000
 l4:(Ci r [49]).length<=1000000
theorem xZ{x:Cp}{s:Int}{r:Cp}{p:Int}(h:Fr x s r p):zP x s r p:=by
 obtain⟨nx,a⟩:=SO (n:=4) h.fx;obtain⟨nr,cr⟩:=SO (n:=4) h.fr;obtain⟨_,x1,x2⟩:=Ng h.rx;obtain⟨_,r1,r2⟩:=Ng h.rr;have X:=nx.Ci Hy;have R:=nr.Ci Ig;have f:((-20:Int):Rat)= -20:=rfl;have k:((59:Int):Rat)=59:=rfl;have b:((1:Int):Rat)=1:=rfl;have g:((199:Int):Rat)=199:=rfl;rw[f]at x1;rw[k]at x2;rw[b]at r1;rw[g]at r2;have d:=X.check af;have c:=R.check af;have q:=h.s;have t:=h.p;obtain⟨e1,v1⟩:=NH a x1 ah h.s cr r1 ah (p:=p) ae;obtain⟨e2,v2⟩:=NH d (by rw[X.rat];grind) (by rw[X.rat];grind) h.s cr r1 ah (p:=p) ae;obtain⟨e3,v3⟩:=NH a x1 ah h.s c (by rw[R.rat];grind) (by rw[R.rat];grind) (p:=p) ae;obtain⟨e4,v4⟩:=NH a x1 ah h.s cr r1 ah (p:=p-1) ae;have m:=tK<|X5 e1;have o:(0:Rat)<=(s:Rat):=by
  have:((0:Int):Rat)<=(s:Rat):=Rat.intCast_le_intCast.2 ae;exact this
 have j:U8 x s r p<=U8 (Ci x [49,47,50]) s r p:=by
  unfold U8;rw[X.rat];grind
 have i:U8 x s (Ci r [49]) p=U8 x s r p+((1:Int):Rat):=by
  unfold U8;rw[R.rat,b];grind
 have e:U8 x s r (p-1)=U8 x s r p+((1:Int):Rat):=by
  unfold U8;rw[Rat.intCast_sub,b];grind
 refine⟨e1,e2,e3,e4,by rw[v1];omega,by rw[v1,v2];exact dF j,by rw[v1,v3,i,XT],by rw[v1,v4,e,XT],(Bn a).1,(Bn cr).1,?_,?_,?_,?_⟩;all_goals first|exact G7 (Bn a).1|exact G7 (Bn cr).1|exact G7 (Bn d).1|exact G7 (Bn c).1
end Go.Sp
namespace Go.Pe
open Sp
open Go.Det
open Go.Sp (Cp)
theorem kX:Dn JB:=Aa TG<|Aa T17.ok<|Aa T25.ok<|Aa T9.ok<|Aa T15.ok<|Aa T13.ok<|Aa T16.ok<|Aa T7.ok<|Aa T26.ok AO
abbrev P5:An:=SP
namespace T5
variable {Q:PV->Ob->Prop}{l:List Int}{x rt:Cp}{s p:Int}
def md(l a:List Int)(i:Int)(K:Tr):Tr:=.ite (decide ((0:Int)<=i)&&decide (i<(↑(ze l):Int))) (.ite true (.ite (decide ((0:Int)<=i)&&decide ((0:Int)<=zc zf (i+(1:Int)))&&decide (zg i<=zg (zc zf<|i+(1:Int)))&&decide (zg (zc zf<|i+(1:Int))<=ze l)) (.ite (decide (ze (zr (zo (zg<|zc zf<|i+(1:Int))<|zg i)<|zt (zg i) l)<=(1000000:Nat))&&decide ((1:Nat)<=(1000000:Nat))) (.ite (decide ((0:Int)<=i)&&decide (i<(↑(ze a):Int))) (.ite (decide (zi a (zg i) (0:Int)<(0:Int))) (.leaf (PV.bl false)<|[])<|.ite (decide ((0:Int)<=i)&&decide (i<(↑(ze a):Int))) (.ite (decide ((0:Int)<(↑(ze a):Int))) (.ite (decide ((0:Int)<=i)&&decide (i<(↑(ze l):Int))) (.ite (decide ((0:Int)<(↑(ze l):Int))) (.ite (zc zf (zi a (zg i) (0:Int)-zi a (0:Nat) (0:Int)) !=zc zf (zi l (zg i) (0:Int)-zi l (0:Nat) (0:Int))) (.leaf (PV.bl false)<|[])<|.ite (zc zf (Kb (zi l (zg i) (0:Int)) (100:Int)+GD (zr (zo (zg<|zc zf<|i+(1:Int))<|zg i)<|zt (zg i) l) [(100:Int)]) !=(0:Int)) (.leaf (PV.bl false)<|[])<|.ite (decide ((0:Int)<=i)&&decide (i<(↑(ze l):Int))) (.ite (P6 (zi l (zg i) (0:Int)) (100:Int) !=zi l (zg i) (0:Int)) (.leaf (PV.bl false)<|[])<|.ite (decide ((0:Int)<=i)&&decide (i<(↑(ze l):Int))) (.ite (Q4 (zr (zo (zg<|zc zf<|i+(1:Int))<|zg i)<|zt (zg i) l) [(100:Int)] !=zi l (zg i) (0:Int)) (.leaf (PV.bl false)<|[]) K)<|.fail)<|.fail)<|.fail)<|.fail)<|.fail)<|.fail)<|.fail)<|.fail)<|.fail)<|.fail)<|.fail
def inn(x:Cp)(s:Int)(rt:Cp)(p:Int):Tr:=.ite (zc zf (zc zf (zc zf (LQ x s rt p+LQ (Ci x [(49:UInt8),47,50]) s rt p)+LQ x s (Ci rt [(49:UInt8)]) p)+LQ x s rt (zc zf<|p-(1:Int)))==(0:Int)) (.ite (decide (J9 x s rt p<=J9 (Ci x [(49:UInt8),47,50]) s rt p)) (.ite (J9 x s (Ci rt [(49:UInt8)]) p==zc zf (J9 x s rt p+(1:Int))) (.leaf (PV.dat Sh.bool<|J9 x s rt (zc zf<|p-(1:Int))==zc zf (J9 x s rt p+(1:Int)))<|[])<|.leaf (PV.bl false)<|[])<|.leaf (PV.bl false)<|[])<|.leaf (PV.bl false)<|[]
def tl(x rt:Cp)(E:Tr):Tr:=.ite (decide (ze x<=(1000000:Nat))&&decide (ze rt<=(1000000:Nat))) (.ite (A4 x&&A4 [(49:UInt8),47,50]) (.ite (decide (ze (Ci x [(49:UInt8),47,50])<=(1000000:Nat))&&decide (ze rt<=(1000000:Nat))) (.ite (A4 rt&&A4 [(49:UInt8)]) (.ite (decide (ze x<=(1000000:Nat))&&decide (ze (Ci rt [(49:UInt8)])<=(1000000:Nat))) (.ite (decide (ze x<=(1000000:Nat))&&decide (ze rt<=(1000000:Nat))) E<|.fail)<|.fail)<|.fail)<|.fail)<|.fail)<|.fail
theorem T1{i:Nat}(h:i<l.length):l.getD i 0∈l:=by
 rw[zh,zj h];exact List.getElem_mem h
theorem No(k:DD l (-99) 99=0){i:Nat}(c:i<l.length){K:Tr}(h:Ends JB K Q):Ends JB (md l (DK l) (i:Int) K) Q:=by
 obtain⟨j,r,d⟩:=Ee k;have e:0<l.length:=ae
 have t:=K0 l;have g:=T1 c;have q:=T1 e;have mx:=oG g;have f:=d _ g;have u:=d _ q;have v:=d _<|G1 j;have e1:=wn (i:=i) ae;have tk:zr (zo (i+1) i) (zt i l)=[l.getD i 0]:=by
  rw[List.drop_eq_getElem_cons c,show zo (i+1) i=1 from Nat.add_sub_cancel_left ..,zh,zj c];rfl
 obtain⟨o,m⟩:=vX f;obtain⟨t1,t2⟩:=zC f;have a:=nb (i:=i) (n:=l.length) ae;have b:(decide ((0:Int)<=(i:Int))&&decide ((i:Int)<((DK l).length:Int)))=true:=ad ae ae;have sl:(decide ((0:Int)<=(i:Int))&&decide ((0:Int)<=((i+1:Nat):Int))&&decide (i<=i+1)&&decide (i+1<=l.length))=true:=Ad (Ad (ad ae ae)<|w4 ae) (w4 ae);unfold md;rw[e1,zm,zm,tk,Nw c,Nw e,o,t1,m,t2,wr (l.getD i 0-CT l-(l.getD 0 0-CT l)) ae ae,wr (l.getD i 0-l.getD 0 0) ae ae,show l.getD i 0-CT l-(l.getD 0 0-CT l)=l.getD i 0-l.getD 0 0 by omega];exact zd a (zd rfl (zd sl<|zd rfl (zd b<|zl (w8 ae)<|zd b<|zd (w4 ae)<|zd a<|zd (w4 ae)<|zl (bne_self_eq_false _)<|zl rfl (zd a<|zl (bne_self_eq_false _)<|zd a<|zl (bne_self_eq_false _) h))))
theorem Yo(h:zP x s rt p){E:Tr}(a:Ends JB E Q):Ends JB (tl x rt E) Q:=
 zd (Ad (w4 h.l1)<|w4 h.l2) (zd (Ad h.n1<|Hy.num af)<|zd (Ad (w4 h.l3)<|w4 h.l2)<|zd (Ad h.n2<|Ig.num af)<|zd (Ad (w4 h.l1)<|w4 h.l4)<|zd (Ad (w4 h.l1)<|w4 h.l2) a)
theorem Ua(h:zP x s rt p)(b:2<=p/\p<=200)(a:∀ob,Q (.dat .bool true) ob):Ends JB (inn x s rt p) Q:=by
 have v1:=h.v1;unfold inn;rw[wr (p-1) ae ae,h.e1,h.e2,h.e3,h.e4,wr (J9 x s rt p+1) ae ae,h.v3,h.v4];refine zd rfl (zd (w4 h.v2)<|zd (beq_self_eq_true _)<|Ends.leaf ?_);rw[beq_self_eq_true];exact a _
theorem l3(k:DD l (-99) 99=0)(h:zP x s rt p)(b:2<=p/\p<=200)(a:∀ob,Q (.dat .bool true) ob):∀(r:List Int) (i:Nat),l.drop i=r->i<=l.length->Ends JB (L3 l x (DK l) (l.length:Int) (i:Int) s rt p) Q
 |[],i,g,c=>by
  have j:=drop_nil g c;exact Ends.Ap (BH ..) (zl (w8 ae)<|Yo h<|Ua h b a)
 |y::r,i,g,c=>by
  obtain⟨e,m,f⟩:=drop_cons (d:=(0:Int)) g;have n:=(Ee k).2.1;have e1:=wn (i:=i) ae;refine Ends.Ap (BH ..) (zd (w4 ae)<|No k e ?_);rw[e1];exact l3 k h b a r (i+1) f e
theorem l2(k:DD l (-99) 99=0)(h:zP x s rt p)(f:2<=p/\p<=200)(e:∀ob,Q (.dat .bool true) ob):∀(r:List Int) (i:Nat) (b:Bool),l.drop i=r->i<=l.length->(b=true\/CT l∈r)->Ends JB (L2 l x (DK l) b (l.length:Int) (i:Int) s rt p) Q
 |[],i,b,g,m,z=>by
  have o:=drop_nil g m;have z:b=true:=z.resolve_right (by simp);subst z;exact Ends.Ap (AU ..) (zl (w8 ae)<|Yo h<|zd rfl (Ua h f e))
 |y::r,i,b,g,m,z=>by
  obtain⟨a,n,j⟩:=drop_cons (d:=(0:Int)) g;have t:=(Ee k).2.1;have q:=K0 l;have e1:=wn (i:=i) ae;refine Ends.Ap (AU ..) (zd (w4 ae) (zk (fun c=>No k a ?_)<|fun c=>zd (ad ae ae)<|No k a ?_))
  ·rw[e1];exact l3 k h f e r (i+1) j a
  ·rw[e1];refine l2 k h f e r (i+1) _ j a ?_;rcases z with z|z
   ·rw[z]at c;cases c
   ·rcases zn.1 z with z|z
    ·left;rw[zm,Nw a,n, <-z,Int.sub_self];rfl
    ·exact .inr z
theorem l1'(k:DD l (-99) 99=0)(h:zP x s rt p)(c:2<=p/\p<=200)(b:∀ob,Q (.dat .bool true) ob):Ends JB (L1 l x (DK l) (l.length:Int) 0 s rt p) Q:=by
 have a:=(Ee k).1;have lp:=List.length_pos_iff.2 a;have e:=K0 l;have d:=G1 a;have e1:zc .i64 ((0:Int)+1)=((1:Nat):Int):=rfl;refine Ends.Ap (Am ..) (zd (w4 ae)<|zd (Ad rfl (w4 ae))<|No (i:=0) k lp ?_);rw[e1];cases l with
 |nil=>cases lp
 |cons y t=>
  refine l2 k h c b t 1 _ rfl (by simp) ?_;rcases zn.1 d with z|z
  ·left;show(zi (DK (y::t)) 0 0==0)=true;rw[Nw lp,z];show(y-y==0)=true;rw[Int.sub_self];rfl
  ·exact .inr z
theorem ok:Af Bb 5 SP:=by
 refine BL kX<|fun(i:List Int×Cp×(Int×Cp×Int)) _=>?_;obtain⟨l,x,c⟩:=i;have b:∀v ob,v=true->Ac SP (l,x,c) (.dat .bool v) ob:=fun v ob h=>Ac.of rfl rfl h
 have out:Ends JB (.ite true (.leaf (PV.dat Sh.bool true) []) .fail) (Ac SP (l,x,c)):=zd rfl (Ends.leaf<|b _ _ rfl);refine Ends.eq (Aj l x c)<|zd rfl (zl rfl (zk (fun _=>out)<|fun l1=>?_));have l1:=w7 l1;have w0:decide (l.length<=1000000)=true:=w4 ae;refine zd w0<|zk (fun _=>out)<|fun d=>zd rfl (zk (fun _=>out)<|fun u=>?_);have k:DD l (-99) 99=0:=by simpa using d
 have fx:Kd x 4=true:=by simpa using u
 have t:x.length<=1000000:=by
  have n:=(SO (n:=4) fx).2;exact G7 (Bn n).1
 refine zd (Ad (Ad (w4 t) rfl) rfl)<|zk (fun _=>out)<|fun q=>zk (fun _=>out)<|fun e=>zk (fun _=>out)<|fun f=>zd rfl (zk (fun _=>out)<|fun m=>?_);have fr:Kd c.2.1 4=true:=by simpa using m
 have a:c.2.1.length<=1000000:=by
  have n:=(SO (n:=4) fr).2;exact G7 (Bn n).1
 refine zd (Ad (Ad (w4 a) rfl) rfl)<|zk (fun _=>out)<|fun o=>zk (fun _=>out)<|fun g=>zk (fun _=>out)<|fun j=>zd w0<|zl d ?_;have r:H6 l=DK l:=by
  unfold H6;rw[k,wc af]
 have e:=w7 e;have f:=w7 f;have g:=w7 g;have j:=w7 j;have F:Sp.Fr x c.1 c.2.1 c.2.2:=⟨fx,by simpa using q,by omega,fr,by simpa using o,by omega⟩;rw[r];refine zl ?_<|l1' k (xZ F) F.p<|fun ob=>b _ _ rfl;rw[K0,bne_self_eq_false]
end T5
end Go.Pe
