import Derived.Test.YtobmcolckeoejaaGreatDoorX16
/- A part of a proof; no law is stated here. -/
noncomputable section
open Go.Pe.Ends renaming tt -> zc, An -> zk, leaf -> zl, ite -> zp, ff -> z6, eq -> yc
open Go.IntKind renaming wrap -> zd, i64 -> zo, u64 -> ya
open List renaming getD_eq_getElem?_getD -> ze, getElem?_eq_getElem -> zf, take_succ_eq_append_getElem -> zg, length_map -> zn, length_reverse -> zq, take_of_length_le -> zr, length_pos_iff -> zt, mem_cons_self -> zw, countP_le_length -> zy, mem_of_mem_drop -> zz, length_take -> z7, all_cons -> z8, mem_singleton -> ye, length_cons -> yh, take_length -> yi, reverse_eq_nil_iff -> yj, getElem_mem -> yk
open Go.Pe.Sh renaming str -> zh, list -> zi, int -> zx, nlist -> yg
open Int renaming toNat_natCast -> zj
open Bool renaming and_eq_true -> zm
open Go.Sp renaming B4 -> zu, first -> yd, Nu -> yp
open Nat renaming le_trans -> yb, zero_le -> yf, le_of_eq -> ym, add -> yq
open Go.Pe.Ad renaming of -> yn
open Go.Pe.PV renaming agg -> yo
variable {Q:Go.Pe.PV->Go.Pe.Ob->Prop}
namespace Go.Pe
open Sp
open Go.Det
section
open List Int Prod
namespace T4
def T(l:List Rd)(b:Rd):Tr:=tree Gb false 9 4<|Ag ([zi zh,zh]) (l,b)
def L1(v0:List Rd)(v1 v5 f:Rd)(v9 d a e:Int):Tr:=re ((T [] []).L.R.R.L.R.L.R.L.L.R.L.R)<|Ay 188 [(0,.dat (zi zh) v0),(1,.dat zh v1),(5,.dat zh v5),(7,.dat zh f),(9,.dat i64 v9),(10,.dat i64 d),(11,.nil),(12,.nil),(64,.dat i64 a),(65,.dat i64 e)] [] 0
theorem Ak(l:List Rd)(b:Rd):T l b=let a:Tr:=.ck true<|.leaf (.dat Sh.bool true) [];let b':=decide (0<=6)&&decide (6<=1000);.ck true (.ite false a<|.ite ((length l:Int)==0) a<|.ck (decide (12<=1000000)&&b')<|.ite (!Lf l 12 6) a<|.ck b'<|.ite (!Eb b 6) a<|.ck (Qy l)<|.ck (Nv l)<|.ite (zd .i64 (Rw l+Sp.mnE l) !=0) (.leaf (.bl false) [])<|.ck (decide (2<=2)&&true&&(decide (2<=1000000)&&List.all [DD l,U7 l] fun s=>decide (length s<=9223372036854775807)))<|.ite (BW [DD l,U7 l] !=0) (.leaf (.bl false) [])<|L1 l b (DD l) (U7 l) 0 0 ((length l:Int)) 0):=by kernel_rfl
def L2(v0:List Rd)(v1 v5 g:Rd)(v9 d f a e:Int):Tr:=re ((stepT Gb<|L1 [] [] [] [] 0 0 0 0).L.L.L.L.L.L.L)<|Ay 188 [(0,.dat (zi zh) v0),(1,.dat zh v1),(5,.dat zh v5),(7,.dat zh g),(9,.dat i64 v9),(10,.dat i64 d),(11,.nil),(12,.nil),(13,.dat i64 f),(64,.dat i64 a),(65,.dat i64 e)] [] 0
def L3(v0:List Rd)(v1 v5 f:Rd)(v9 a:Int)(d:List Rd)(e:List Rd):Tr:=re ((stepT Gb<|L1 [] [] [] [] 0 0 0 0).R)<|Ay 188 [(0,.dat (zi zh) v0),(1,.dat zh v1),(5,.dat zh v5),(7,.dat zh f),(9,.dat i64 v9),(10,.dat i64 a),(11,.dat (zi zh) d),(12,.dat (zi zh) e)] [] 0
theorem Al(v0:List Rd)(v1 v5 f:Rd)(v9 e d a:Int):stepT Gb (L1 v0 v1 v5 f v9 e d a)=let h:=getD v0 (toNat a) [];let b':=decide (0<=a)&&decide (a<(length v0:Int));let i:=zd .i64<|e+1;let k:=zd .i64<|v9+1;let g:=Bk h&&Gx v5;let j:=decide (Cf h v5>=0);.di (a<d) (.ck b'<|.ck g<|.di (Cf h v5<=0) (.ck b'<|.ck g<|.ite j (L2 v0 v1 v5 f k i a d a)<|L2 v0 v1 v5 f k e a d a)<|.ck b'<|.ck g<|.ite j (L2 v0 v1 v5 f v9 i a d a)<|L2 v0 v1 v5 f v9 e a d a) (L3 v0 v1 v5 f v9 e [] []):=by kernel_rfl
def L4(v0:List Rd)(v1 v5 h:Rd)(v9 e:Int)(d a:Nat)(f g:Int)(o1:List Rd)(i:List Rd):Tr:=re ((stepT Gb<|L2 [] [] [] [] 0 0 0 0 0).L.L.L.L.L)<|Ay 188 [(0,.dat (zi zh) v0),(1,.dat zh v1),(5,.dat zh v5),(7,.dat zh h),(9,.dat i64 v9),(10,.dat i64 e),(11,.sl 0 1 0 d none),(12,.sl 1 1 0 a none),(64,.dat i64 f),(65,.dat i64 g)] [(1,.arr false 24 zh o1),(0,.arr false 24 zh i)] 2
theorem AL(v0:List Rd)(v1 v5 j:Rd)(v9 e a d f:Int):stepT Gb (L2 v0 v1 v5 j v9 e a d f)=let b':=aa 16;let g:=(length v0:Int);let i:=getD v0 (toNat a) [];let h:=zd .i64 (g-1)-a;.ck (decide (0<=zd .i64 h)&&decide (zd .i64 h<g)) (.ck b'<|.ck (decide (0<=a)&&decide (a<g))<|.ck (Bk i&&Bk v1)<|.ck b'<|L4 v0 v1 v5 j v9 e 1 1 d (zd .i64<|f+1) ([C8 i v1])<|[getD v0 (toNat<|zd .i64 h) []]):=by kernel_rfl
def L5(v0:List Rd)(v1 v5 h:Rd)(v9 a:Int)(f e g v20 d:Rd):Tr:=re ((stepT Gb<|L3 [] [] [] [] 0 0 [] []).L.L.L.L.L.L.L.L.L.L.L.R.L.R)<|Ay 188 [(0,.dat (zi zh) v0),(1,.dat zh v1),(5,.dat zh v5),(7,.dat zh h),(9,.dat i64 v9),(10,.dat i64 a),(14,.dat zh f),(16,.dat zh e),(18,.dat zh g),(20,.dat zh v20),(22,.dat zh d)] [] 0
theorem BT(v0:List Rd)(v1 v5 f:Rd)(v9 e:Int)(d:List Rd)(a:List Rd):stepT Gb (L3 v0 v1 v5 f v9 e d a)=.ck (Qy d) (.ck (Qy a)<|.ck (Nv a)<|.ck true<|.ck true<|.ck true<|.ck true<|.ck true<|.ck true<|.ck true<|.ck true<|.ite (zd .i64 (zd .i64 (zd .i64 (zd .i64 (Rw d+Rw a)+Sp.mnE a)+Yy EF 0 0 [80,90,70])+Yy EF 0 0 [81,91,71]) !=0) (.leaf (.bl false) [])<|.ck (List.all [RC EF 0 0 [80,90,70],RC EF 0 0 [81,91,71]] fun s=>decide (length s<=9223372036854775807))<|.ite (BW [RC EF 0 0 [80,90,70],RC EF 0 0 [81,91,71]] !=0) (.leaf (.bl false) [])<|L5 v0 v1 v5 f v9 e (DD d) (DD a) (U7 a) (RC EF 0 0 [80,90,70])<|RC EF 0 0 [81,91,71]):=by kernel_rfl
def L6(v0:List Rd)(v1 v5 i:Rd)(v9 e:Int)(d a:Nat)(h f g:Int)(o1:List Rd)(j:List Rd):Tr:=re ((stepT Gb<|L4 [] [] [] [] 0 0 0 0 0 0 [] []).L.L.L.L.L.L.L)<|Ay 188 [(0,.dat (zi zh) v0),(1,.dat zh v1),(5,.dat zh v5),(7,.dat zh i),(9,.dat i64 v9),(10,.dat i64 e),(11,.sl 0 1 0 d none),(12,.sl 1 1 0 a none),(13,.dat i64 h),(64,.dat i64 f),(65,.dat i64 g)] [(1,.arr false 24 zh o1),(0,.arr false 24 zh j)] 2
theorem BU(v0:List Rd)(v1 v5 h:Rd)(v9 g:Int)(d e:Nat)(f a:Int)(o1:List Rd)(i:List Rd):stepT Gb (L4 v0 v1 v5 h v9 g d e f a o1 i)=let j:=getD v0 (toNat a) [];let b':=decide (0<=a)&&decide (a<(length v0:Int));let n:=zd .i64<|g+1;let m:=zd .i64<|v9+1;let k:=Bk j&&Gx v5;let o:=decide (Cf j v5>=0);.di (a<f) (.ck b'<|.ck k<|.di (Cf j v5<=0) (.ck b'<|.ck k<|.ite o (L6 v0 v1 v5 h m n d e a f a o1 i)<|L6 v0 v1 v5 h m g d e a f a o1 i)<|.ck b'<|.ck k<|.ite o (L6 v0 v1 v5 h v9 n d e a f a o1 i)<|L6 v0 v1 v5 h v9 g d e a f a o1 i) (L3 v0 v1 v5 h v9 g (take d i)<|take e o1):=by kernel_rfl
theorem Fi(v0:List Rd)(v1 v5 i:Rd)(v9 a:Int)(f e h v20 d:Rd):stepT Gb (L5 v0 v1 v5 i v9 a f e h v20 d)=let g:Tr:=.leaf (.bl false) [];.di (zd .i64 (2*v9)>=(length v0:Int)) (.di (zd .i64 (2*a)>=(length v0:Int)) (.ite (v5==f) (.ck (Bk v5&&Bk v1)<|.ite (e==C8 v5 v1) (.ck (Bk i&&Bk v1)<|.ite (h==C8 i v1) (.ck (Bk v20&&Bk [(49:UInt8)])<|.leaf (.dat Sh.bool<|d==C8 v20 [(49:UInt8)]) []) g) g) g) g) g:=by kernel_rfl
theorem GG(v0:List Rd)(v1 v5 m:Rd)(v9 f:Int)(d a:Nat)(e g h:Int)(o1:List Rd)(j:List Rd):stepT Gb (L6 v0 v1 v5 m v9 f d a e g h o1 j)=let b':=(length v0:Int);let k:=getD v0 (toNat e) [];let i:=zd .i64 (b'-1)-e;.ck (decide (0<=zd .i64 i)&&decide (zd .i64 i<b')) (.ck (ac d (length j) 16)<|.ck (decide (0<=e)&&decide (e<b'))<|.ck (Bk k&&Bk v1)<|.ck (ac a (length o1) 16)<|L4 v0 v1 v5 m v9 f (yq d 1) (yq a 1) g (zd .i64<|h+1) (o1++[C8 k v1])<|j++[getD v0 (toNat<|zd .i64 i) []]):=by kernel_rfl
end T4
namespace T12
def T(l:List Rd)(n k:Int):Tr:=tree jS false 9 12<|Ag ([zi zh,zx zo,zx zo]) (l,n,k)
def L1(v0:List Rd)(v2 a:Int):Tr:=re ((T [] 0 0).R)<|Ay 25 [(0,.dat (zi zh) v0),(2,.dat i64 v2),(7,.dat i64 a)] [] 0
theorem Ak(l:List Rd)(n k:Int):T l n k=.di ((length l:Int)>n) (.leaf (.bl false) []) (L1 l k 0):=by kernel_rfl
theorem Al(v0:List Rd)(v2 a:Int):stepT jS (L1 v0 v2 a)=let d:=decide (a<(length v0:Int));.ite d (.ck (decide (0<=a)&&d)<|.ck (decide (0<=v2)&&decide (v2<=1000))<|.ite (!Sp.Eb (getD v0 (toNat a) []) v2) (.leaf (.bl false) [])<|L1 v0 v2<|zd .i64<|a+1) (.leaf (.bl true) []):=by kernel_rfl
end T12
end
namespace T12
theorem loop(l:List Rd)(k:Int)(f:0<=k/\k<=1000)(j:l.length<4611686018427387904):∀(r:List Rd) (i:Nat),l.drop i=r->i<=l.length->(∀b ob,b=(r.all fun s=>Sp.Eb s k)->Q (.bl b) ob)->Ends jS (L1 l k (i:Int)) Q
 |[],i,h,g,a=>by
  have e:i=l.length:=drop_nil h g;exact zk (Al ..) (z6 (w8 ae)<|zl<|a _ _ rfl)
 |p::r,i,h,g,a=>by
  obtain⟨q,m,u⟩:=drop_cons (d:=([]:Rd)) h;have o:=wn (i:=i) ae;have w:=nb (i:=i) (n:=l.length) ae;refine zk (Al ..) ?_;conv=>zeta
  rw[zj,m,o];refine zc (w4 ae)<|zc w<|zc (Ac (w4 f.1)<|w4 f.2)<|zp (fun c=>zl<|a _ _ ?_)<|fun c=>loop l k f j r (i+1) u q fun b ob v=>a _ _ ?_
  ·have c:Sp.Eb p k=false:=by simpa using c
   rw[z8,c];rfl
  ·have c:Sp.Eb p k=true:=by simpa using c
   rw[z8,c,Bool.true_and];exact v
theorem ok:Af A5 12 XJ:=by
 refine BG WR<|fun(i:List Rd×Int×Int) a=>?_;obtain⟨l,n,k⟩:=i;have a:(decide (n<=1000000)&&(decide (0<=k)&&decide (k<=1000)))=true:=a;rw[zm,zm,w5,w5,w5]at a;have d:∀b ob,b=Sp.Lf l n k->Ad XJ (l,n,k) (.bl b) ob:=fun b ob h=>yn rfl rfl h
 refine yc (Ak l n k)<|zp (fun c=>zl<|d _ _ ?_)<|fun c=>?_
 ·have c:=w6 c;unfold Sp.Lf;rw[w8 ae];rfl
 ·have c:=w7 c;refine loop l k a.2 ae l 0 rfl (yf _) fun b ob e=>d _ _ ?_
  unfold Sp.Lf;rw[w4 ae,Bool.true_and];exact e
end T12
section
open List Int Prod
namespace T17
def T(c:Bc)(t l:Int)(s:List Int):Tr:=tree IL false 9 17<|Ag ([DG,zx zo,zx zo,zi i64]) (c,t,l,s)
def L1(v1 v2:Int)(v3:List Int)(v4:Bc):Tr:=re ((T ([],([],[])) 0 0 []).L.L.L.R)<|Ay 63 [(1,.dat i64 v1),(2,.dat i64 v2),(3,.dat (zi i64) v3),(4,PV.BL DG v4 0)] [] 0
theorem Ak(c:Bc)(t l:Int)(s:List Int):T c t l s=.ck true (.ck true<|.ck (decide (2<=2)&&true&&(RD c&&decide (2<=1000)))<|.ite (US c [(t,Sp.nTe c),(l,Sp.nLv c)] !=0) (.leaf (.tup [.dat zh [],.dat i64<|US c [(t,Sp.nTe c),(l,Sp.nLv c)]]) [])<|L1 t l s c):=by kernel_rfl
def L2(v1 v2:Int)(v3:List Int)(v4:Bc)(v0:List Int)(d a:Int):Tr:=re ((stepT IL<|L1 v1 v2 v3 v4))<|Ay 19 [(0,.dat (zi i64) v0),(1,PV.fn (Go.Fn.func 56) [] []),(7,.dat i64 d),(8,.dat i64 a)] [] 0
theorem Al(v1 v2:Int)(v3:List Int)(v4:Bc):stepT IL (L1 v1 v2 v3 v4)=L2 v1 v2 v3 v4 v3 ((length v3:Int)) 0:=by kernel_rfl
def L3(v1 v2:Int)(v4:Bc)(d:List Int)(e a:Int):Tr:=re ((stepT IL<|L2 0 0 [] ([],([],[])) [] 0 0).L.L.L.L.L.L.R)<|Ay 63 [(1,.dat i64 v1),(2,.dat i64 v2),(4,PV.BL DG v4 0),(13,.nil),(40,.dat (zi i64) d),(41,.dat i64 e),(42,.dat i64 a)] [] 0
theorem AL(v1 v2:Int)(v3:List Int)(v4:Bc)(v0:List Int)(d a:Int):stepT IL (L2 v1 v2 v3 v4 v0 d a)=let b':=(length v3:Int);let e:=decide (2<=2)&&true&&decide (2<=1000000);let f:Tr:=.ck true<|.ck true<|.ck e<|.ite (yd [Bj b' 256,Cd (decide (a>=0)) 3] !=0) (.leaf (.tup [.dat zh [],.dat i64<|yd [Bj b' 256,Cd (decide (a>=0)) 3]]) [])<|L3 v1 v2 v4 v3 b' 0;.di (a<d) (.ck (decide (0<=a)&&decide (a<(length v0:Int)))<|.di (getD v0 (toNat a) 0<1) f<|.di (getD v0 (toNat a) 0>999999999) f<|L2 v1 v2 v3 v4 v0 d<|zd .i64<|a+1) (.ck true<|.ck true<|.ck e<|.ite (yd [Bj b' 256,Cd false 3] !=0) (.leaf (.tup [.dat zh [],.dat i64<|yd [Bj b' 256,Cd false 3]]) [])<|L3 v1 v2 v4 v3 b' 0):=by kernel_rfl
def L4(v1 v2:Int)(v4:Bc)(a:Nat)(e:List Int)(f d:Int)(g:List Ab):Tr:=re ((stepT IL<|L3 0 0 ([],([],[])) [] 0 0).L.L.L.L)<|Ay 63 [(1,.dat i64 v1),(2,.dat i64 v2),(4,PV.BL DG v4 0),(13,.sl 0 4 0 a none),(40,.dat (zi i64) e),(41,.dat i64 f),(42,.dat i64 d)] [(0,.arr false 63 Ai g)] 1
def L5(v1 v2:Int)(v4:Bc)(a:List Ab):Tr:=re ((stepT IL<|L3 0 0 ([],([],[])) [] 0 0).R)<|Ay 63 [(1,.dat i64 v1),(2,.dat i64 v2),(4,PV.BL DG v4 0),(13,.dat (zi Ai) a)] [] 0
theorem BT(v1 v2:Int)(v4:Bc)(d:List Int)(e a:Int):stepT IL (L3 v1 v2 v4 d e a)=.di (a<e) (.ck (decide (0<=a)&&decide (a<(length d:Int)))<|.ck true<|.ck (aa 64)<|L4 v1 v2 v4 1 d e (zd .i64<|a+1)<|[((getD d (toNat a) 0,Bo<|getD d (toNat a) 0),1,Bo 1)]) (L5 v1 v2 v4 []):=by kernel_rfl
theorem BU(v1 v2:Int)(v4:Bc)(a:Nat)(e:List Int)(f d:Int)(g:List Ab):stepT IL (L4 v1 v2 v4 a e f d g)=.di (d<f) (.ck (decide (0<=d)&&decide (d<(length e:Int)))<|.ck true<|.ck (ac a (length g) 64)<|L4 v1 v2 v4 (yq a 1) e f (zd .i64<|d+1)<|g++[((getD e (toNat d) 0,Bo<|getD e (toNat d) 0),1,Bo 1)]) (L5 v1 v2 v4<|take a g):=by kernel_rfl
theorem Fi(v1 v2:Int)(v4:Bc)(a:List Ab):stepT IL (L5 v1 v2 v4 a)=let b':=((Yv a,Y2 a),Xo a,Za a);let d:=Zn v4 v1 v2;let e:=E9 b'<|wP d;.ck (XA a) (.ck (Tt v4 v1 v2)<|.ck (Sp.okV d)<|.ck (zu b'&&zu (wP d))<|.ck (Sp.B8 e)<|.leaf (.tup [.dat zh<|MZ e,.dat i64<|Mt e]) []):=by kernel_rfl
end T17
namespace T63
def T[Srt](c:Bc)(t l:Int):Tr:=tree Qx false 9 63<|Ag ([DG,zx zo,zx zo]) (c,t,l)
def L1[Srt](c:Bc)(t l m v9 k q:Int)(o:List ED)(f:List Ix)(a:List Fo)(p:Int)(d:List Int)(i:Int)(h:List Int)(o1 e:Int)(n:List ED)(j:List Ix)(g:List Fo):Tr:=re ((T c t l).L)<|Ay 22 [(0,PV.yl 6),(1,.ptr 3 0),(2,.ptr 4 0),(3,.ptr 5 0),(8,.dat i64 m),(9,.dat i64 v9)] [(6,Obj.lp 63 4 (AeX (AO.C Qx) 63 4) (AbZ (AO.C Qx) 63 4) (pY (AO.C Qx) 63 4) LpS.ready 21 [(7,.ptr (yq (yq 0 1) 1) 0)]),(5,.box [.dat i64 k]),(4,.box [.dat i64 q]),(3,.box [.dat (zi Gj) o,.dat (zi Na) f,.dat (zi Hy) a]),(2,.box [.dat i64 p,.dat (yg<|zx ya) d,.dat i64 i,.dat (yg<|zx ya) h]),(1,.box [.dat i64 o1,.nil,.dat i64 e,.nil]),(0,.box [.dat (zi Gj) n,.dat (zi Na) j,.dat (zi Hy) g])] 7
theorem Ak[Srt](c:Bc)(t l:Int):T c t l=.ck true (L1 c t l ((↑(length<|fst c):Int)) 0 l t (fst c) (fst<|snd c) (snd<|snd c) 0 (Bo 0) 1 (Bo 1) 0 0 (fst c) (fst<|snd c)<|snd<|snd c):=by kernel_rfl
def L2[Srt](c:Bc)(t l m v9 k q:Int)(o:List ED)(f:List Ix)(a:List Fo)(p:Int)(d:List Int)(i:Int)(h:List Int)(o1 e:Int)(n:List ED)(j:List Ix)(g:List Fo):Tr:=re ((stepT Qx<|L1 c t l 0 0 0 0 [] [] [] 0 [] 0 [] 0 0 [] [] []).L.L.L)<|Ay 22 [(0,PV.yl 6),(1,.ptr 3 0),(2,.ptr 4 0),(3,.ptr 5 0),(8,.dat i64 m),(9,.dat i64 v9)] [(6,Obj.lp 63 4 (AeX (AO.C Qx) 63 4) (AbZ (AO.C Qx) 63 4) (pY (AO.C Qx) 63 4) LpS.ready 21 [(7,.ptr 2 0)]),(5,.box [.dat i64 k]),(4,.box [.dat i64 q]),(3,.box [.dat (zi Gj) o,.dat (zi Na) f,.dat (zi Hy) a]),(2,.box [.dat i64 p,.dat (yg<|zx ya) d,.dat i64 i,.dat (yg<|zx ya) h]),(1,.box [.dat i64 o1,.nil,.dat i64 e,.nil]),(0,.box [.dat (zi Gj) n,.dat (zi Na) j,.dat (zi Hy) g])] 7
theorem AL[Srt](c:Bc)(t l p v9 m o:Int)(n:List ED)(d:List Ix)(a:List Fo)(q:Int)(e:List Int)(g:Int)(f:List Int)(o1 h:Int)(r:List ED)(j:List Ix)(i:List Fo):stepT Qx (L2 c t l p v9 m o n d a q e g f o1 h r j i)=let k:=Sp.rtF (n,d,a) o v9 m;let b':=((q,e),g,f);let u:=yg<|zx ya;.di (v9<p) (.ck (iR (n,d,a) o v9 m)<|.ck (zu b'&&zu k)<|L2 c t l p (zd .i64<|v9+1) m o n d a (Kh b' k) (Kt b' k) (Kd b' k) (Kq b' k) o1 h r j i) (.leaf (yo [.dat i64 q,.dat u e,.dat i64 g,.dat u f]) []):=by kernel_rfl
end T63
namespace T75
def T[Srt](a:Ab):Tr:=tree Afw false 9 75<|Ag ([Ai]) a
theorem Ak[Srt](a:Ab):T a=let b':=((1,Bo 1),2,Bo 2);let d:=BI a b';.ck true (.ck true<|.ck (zu a&&zu b')<|.ck (zu d)<|.leaf (yo [.dat i64<|Sp.flS d,.dat (yg<|zx ya)<|Sp.flW d]) []):=by kernel_rfl
end T75
namespace T62
def T[Srt](a:Ab):Tr:=tree AeS false 9 62<|Ag ([Ai]) a
theorem Ak[Srt](a:Ab):T a=let b':=((10,Bo 10),1,Bo 1);let f:=yg<|zx ya;let e:=Fq a b';let d:=(Sp.rnS e,Sp.rnW e);.ck true (.ck (zu a&&zu b')<|.ck (Sp.okT e)<|.ck true<|.ck (I3 d (10,Bo 10))<|.leaf (yo [.dat i64<|jV d (10,Bo 10),.dat f<|sB d (10,Bo 10),.dat i64<|mP d (10,Bo 10),.dat f<|rF d (10,Bo 10)]) []):=by kernel_rfl
end T62
end
end Go.Pe
namespace Go.Sp
theorem NK{s:BS}{d:Nat}(h:Eb s (d:Int)=true):Cu d (Au s):=by
 have e:Av s=0:=by
  simp_all [Eb]
 exact(Uz e).z.mono<|qY h
theorem AeG{n:Int}(h:1<=n/\n<=10000):Cu 5 (n:Rat):=by
 grind [Rat.num_intCast,Rat.den_intCast,Cu]
theorem Y7:Cu 1 (0:Rat):=by unfold Cu;simp
structure StF(s:ED):Prop where
 rise:Cu 4 (Au s.1)
 wind:Cu 4 (Au s.2.1)
 lay:Cu 4 (Au s.2.2.1)
 roll:Cu 4 (Au s.2.2.2.1)
 len:s.2.2.2.2.length<=6
structure LvF(l:Fo):Prop where
 head:Cu 4 (Au l.2.1)
 next:Cu 4 (Au l.2.2.1)
 tab:∀p∈l.2.2.2.1,Cu 4 (Au p.1)/\Cu 4 (Au p.2)
 wts:∀p∈l.2.2.2.2,Cu 4 (Au p.2)
theorem AdX{s:ED}{n:Int}(f:n<=6)(h:Aan s n 4=true):StF s:=by
 unfold Aan at h;simp only[zm,w5]at h;obtain⟨⟨⟨⟨a,b⟩,c⟩,d⟩,e⟩:=h;exact⟨NK b,NK c,NK d,NK e,by omega⟩
theorem AcX{l:Fo}{n:Int}(h:yX l n 4=true):LvF l:=by
 unfold yX fwP fwW at h;simp only[zm,w5,List.all_eq_true]at h;obtain⟨⟨⟨_,b⟩,c⟩,d,e⟩:=h;exact⟨NK b,NK c,(by grind [NK]),fun p hp=>NK<|e p hp⟩
theorem AeC{s:ED}{n:Int}(h:StF s)(a:1<=n/\n<=10000):Cu 20 (plV s n):=by
 rw[sP];split
 ·exact Y7.mono af
 ·exact((AeG a).add<|(h.rise.add h.wind).add h.lay).mono af
theorem AfV{p a n r:Rat}(hp:Cu 20 p)(d:Cu 4 a)(e:Cu 4 n)(hr:Cu 4 r)(h0:a+r≠0)(n0:n+r≠0):Cu 48 (vG p a n r):=by
 unfold vG;split
 ·exact((hp.mul d).div (d.add hr) h0).mono af
 ·exact(d.add<|((hp.sub<|d.add hr).mul e).div (e.add hr) n0).mono af
theorem AdJ{x:Rat}(d:Cu 48 x):∀(l:List BJ) (o:Option BJ),(∀q,o=some q->Cu 4 (Au q.1)/\Cu 4 (Au q.2))->(∀p∈l,Cu 4 (Au p.1)/\Cu 4 (Au p.2))->(o=none->l≠[])->E6 o l=0->Cu 77 (U8 (o.map pt) (l.map pt) x)
 |[],none,_,_,h,_=>ah
 |[],some q,f,_,_,_=>by
  exact(f q rfl).2.mono af
 |p::l,none,_,a,_,e=>by
  have k:=a p (by simp);show Cu 77<|U8 none (pt p::l.map pt) x;rw[Wi];split
  ·exact AdJ d l (some p) ah ah (by simp) (Me e).2.2
  ·exact k.2.mono af
 |p::l,some q,f,a,_,e=>by
  have k:=a p (by simp);have j:=f q rfl;obtain⟨_,_,g,i⟩:=Ja e;show Cu 77<|U8 (some<|pt q) (pt p::l.map pt) x;rw[Vd];split
  ·exact AdJ d l (some p) ah ah (by simp) i
  ·exact(j.2.add<|((k.2.sub j.2).mul<|d.sub j.1).div (k.1.sub j.1)<|Po g).mono af
theorem Aa5{n:Int}(h:0<=n/\n<=10):Cu 2 ((n:Rat)/10):=(Go.Pe.PQ h).z
theorem Afm{ws:List BJ}(a:∀w∈ws,Cu 4<|Au w.2):∀ {l:List LX},(∀o∈l,0<=o.2/\o.2<=10)->Cu (1+7*l.length) (obV ws l)
 |[],_=>Y7
 |o::l,d=>by
  have i:=Afm a (l:=l) ah;rw[Vf,MT,yh];cases e:ws.find? fun w=>decide (w.1=o.1)with
  |none=>
   rw[Rat.zero_mul,Rat.zero_add];exact i.mono ae
  |some w=>exact(((a w ah).mul<|Aa5 ah).add i).mono ae
theorem sS{c:Bc}{n:Int}(f:fwC c n 4=true):(∀s∈c.1,Aan s n 4=true)/\(∀l∈c.2.2,yX l n 4=true)/\(c.1.length:Int)<=n:=by
 simp_all [fwC]
theorem Adk{c:Bc}{t h l n:Int}(a:n<=6)(f:fwC c n 4=true)(k:iR c t h l=true):Cu 122 (W3 c t h l):=by
 obtain⟨P,L,_,ko,h0,n0⟩:=Go.Pe.Yb k;obtain⟨f1,f2,_⟩:=sS f;have S:=AdX a (f1 (Dy c h) (HU (by have:=P.h0;omega)));have V:=AcX (f2 (Ft c l) (HU (by have:=L.l0;omega)));have e:=AfV (AeC S P.te) V.head V.next S.roll h0 n0;obtain⟨h1,_,h3⟩:=GF L.lv.tab;have v:=AdJ e (Ft c l).2.2.2.1 none (by simp) V.tab (fun _=>h1) h3;have o:=Afm V.wts P.st.obs;exact(v.add o).mono (by have:=S.len;omega)
theorem MX{c:Bc}{t l:Int}(h:Tt c t l=true):RD c=true/\Va c=0/\dE c t=false/\fC c l=false/\fwC c 6 4=true:=by
 unfold Tt at h;grind [IY,LP]
theorem nG{c:Bc}{t l:Int}(h:Tt c t l=true){i:Nat}(d:i<c.1.length):iR c t (i:Int) l=true:=by
 obtain⟨s,e,a,b,_⟩:=MX h;simp_all [eW,Yz,iR,AfP,N0]
theorem UB{c:Bc}{t l:Int}(h:Tt c t l=true):c.1.length<=6:=by
 have:=(sS (MX h).2.2.2.2).2.2;omega
theorem Abu{c:Bc}{t l:Int}(h:Tt c t l=true){i:Nat}(a:i<c.1.length):Cu 122 (W3 c t (i:Int) l):=Adk af (MX h).2.2.2.2<|nG h a
theorem AbY{c:Bc}{t l:Int}(h:Tt c t l=true):∀(k i:Nat),i+k<=c.1.length->Cu (1+123*k) (suQ c t l i k)
 |0,_,_=>Y7
 |k+1,i,a=>((Abu h ae).add<|AbY h k (i+1) ae).mono ae
theorem AbA{q:Rat}{k:Nat}(h:Cu k q):Cu (k+6) (Aec q):=by
 have t:Cu 2 (10:Rat):=by unfold Cu;simp
 exact((VS<|(h.mul t).add TN.z).div t<|by simp).mono ae
end Go.Sp
namespace Go.Pe
open Sp
open Go.Det
open Go.Sp (Bc)
theorem pJ{c:Bc}{t l:Int}(h:Tt c t l=true){i:Nat}(a:i<c.1.length):RS 122 (Sp.rtF c t (i:Int) l) (W3 c t (i:Int) l):=⟨(Afl<|nG h a).r,Abu h a⟩
theorem lC{c:Bc}{t l:Int}(h:Tt c t l=true):∀(k i K:Nat) (f:Ab) (q:Rat),RS K f q->i+k<=c.1.length->K+123*k<=3000->RS (K+123*k) (Sp.suF c t l f i k) (q+Sp.suQ c t l i k)
 |0,i,K,f,q,d,_,_=>by
  show RS K f<|q+0;grind
 |k+1,i,K,f,q,d,g,e=>by
  have a:=d.add (pJ h (i:=i) ae) ae af;have:=lC h k (i+1) _ _ _ a ae ae;grind [Sp.suF,Sp.suQ]
theorem Af3{c:Bc}{t l:Int}(h:Tt c t l=true):RS 740 (Zn c t l) (Sp.exQ c t l):=by
 have n:=UB h;have a:=lC h c.1.length 0 1 Sp.zF 0 GJ ae ae;rw[Rat.zero_add]at a;exact a.mono ae
theorem AbD:RS 1 Sp.hfF (1/2):=by
 refine⟨⟨by decide,by decide,by decide+kernel,by decide+kernel⟩,?_⟩;unfold Cu;decide+kernel
theorem AbK{k:Nat}{f:Ab}{q:Rat}(h:RS k f q)(d:k<=3900):zu (BI f Sp.hfF)=true/\A9 (Sp.rnI f)=true/\Sp.vI (Sp.rnI f)=Afh q:=by
 have a:=h.add AbD ae af;obtain⟨b,c⟩:=eB a.r a.z ae;exact⟨a.B4 ae,b,c⟩
theorem AbL{k:Nat}{f:Ab}{q:Rat}(h:RS k f q)(a:k<=3800):I3 (Sp.rnI<|Fq f<|Sp.iF 10) (10,Bo 10)=true/\RS (k+6) (wP f) (Aec q):=by
 have t:RS 2 (Sp.iF 10) ((10:Int):Rat):=FV af af af;have m:=h.mul t ae af;obtain⟨_,b,c⟩:=AbK m ae;obtain⟨b1,b2⟩:=GY (n:=10) rfl;refine⟨Ac (Ac b b1) (by rfl),?_,AbA h.z⟩;have r:=JV b b1 ae;rw[b2,c,Rat.divInt_eq_div]at r;exact r
section
open List Int Prod
namespace T77
def T[Srt](n:Int):Tr:=tree dO false 9 77<|Ag ([zx zo]) n
theorem Ak[Srt](n:Int):T n=.leaf (yo [.dat i64 n,.nil]) []:=by kernel_rfl
end T77
namespace T170
def T[Srt](a b:Ab):Tr:=tree Ae8 false 9 170<|Ag ([Ai,Ai]) (a,b)
theorem Ak[Srt](a b:Ab):T a b=.ck (Sp.B8 a&&Sp.B8 b) (.leaf (.dat Sh.bool<|CW a b==0) []):=by kernel_rfl
end T170
namespace T72
def T[Srt](c:Bc)(h l:Int):Tr:=tree N7 false 9 72<|Ag ([DG,zx zo,zx zo]) (c,h,l)
def L1[Srt](v1 v2:Int)(v3:Bc)(o1:List (Rd×Ab))(d a:Int):Tr:=re ((T ([],([],[])) 0 0))<|Ay 66 [(1,.dat i64 v1),(2,.dat i64 v2),(3,PV.BL DG v3 0),(6,.ptr 0 0),(7,PV.mp 1)] [(1,Obj.map zh Ai o1),(0,.box [.dat i64 d,.nil,.dat i64 a,.nil])] 2
theorem Ak[Srt](c:Bc)(h l:Int):T c h l=L1 h l c [] 0 0:=by kernel_rfl
def L2[Srt](v1:Int)(v3:Bc)(d:List BJ)(e f:Int)(o1:List (Rd×Ab))(g a:Int):Tr:=re ((stepT N7<|L1 0 0 ([],([],[])) [] 0 0).L)<|Ay 66 [(1,.dat i64 v1),(3,PV.BL DG v3 0),(6,.ptr 0 0),(7,PV.mp 1),(21,.dat (zi Hb) d),(22,.dat i64 e),(23,.dat i64 f)] [(1,Obj.map zh Ai o1),(0,.box [.dat i64 g,.nil,.dat i64 a,.nil])] 2
theorem Al[Srt](v1 v2:Int)(v3:Bc)(o1:List (Rd×Ab))(d a:Int):stepT N7 (L1 v1 v2 v3 o1 d a)=let e:=snd<|snd<|snd<|snd<|getD (snd<|snd v3) (toNat v2) ([],[],[],[],[]);.ck (decide (0<=v2)&&decide (v2<(↑(length<|snd<|snd v3):Int))) (L2 v1 v3 e ((↑(length e):Int)) 0 o1 d a):=by kernel_rfl
def L3[Srt](h:List LX)(i g k:Int)(a:List Int)(e:Int)(d:List Int)(o1:List (Rd×Ab))(j f:Int):Tr:=re ((stepT N7<|L2 0 ([],([],[])) [] 0 0 [] 0 0).R.L.L)<|Ay 66 [(6,.ptr 0 0),(7,PV.mp 1),(10,.ptr 2 0),(40,.dat (zi eO) h),(41,.dat i64 i),(42,.dat i64 g)] [(2,.box [.dat i64 k,.dat wU a,.dat i64 e,.dat wU d]),(1,Obj.map zh Ai o1),(0,.box [.dat i64 j,.nil,.dat i64 f,.nil])] 3
theorem AL[Srt](v1:Int)(v3:Bc)(e:List BJ)(f a:Int)(o1:List (Rd×Ab))(g d:Int):stepT N7 (L2 v1 v3 e f a o1 g d)=let h:=snd<|snd<|snd<|snd<|getD (fst v3) (toNat v1) ([],[],[],[],[]);let b':=getD e (toNat a) ([],[]);.di (a<f) (.ck (decide (0<=a)&&decide (a<(length e:Int)))<|.ck (Dc<|snd b')<|L2 v1 v3 e f (zd .i64<|a+1) (He zh Ai (fst b') (BR<|snd b') o1) g d) (.ck true<|.ck (decide (0<=v1)&&decide (v1<(↑(length<|fst v3):Int)))<|L3 h ((↑(length h):Int)) 0 0 (Bo 0) 1 (Bo 1) o1 g d):=by kernel_rfl
def L4[Srt](g:Rd×Int)(j:Ab)(i:List LX)(k h n:Int)(a:List Int)(e:Int)(d:List Int)(o1:List (Rd×Ab))(m f:Int):Tr:=re ((stepT N7<|L3 [] 0 0 0 [] 0 [] [] 0 0).L.L.R)<|Ay 66 [(6,.ptr 0 0),(7,PV.mp 1),(10,.ptr 2 0),(12,PV.BL eO g 0),(13,PV.BL Ai j 0),(40,.dat (zi eO) i),(41,.dat i64 k),(42,.dat i64 h)] [(2,.box [.dat i64 n,.dat wU a,.dat i64 e,.dat wU d]),(1,Obj.map zh Ai o1),(0,.box [.dat i64 m,.nil,.dat i64 f,.nil])] 3
theorem BT[Srt](g:List LX)(i a j:Int)(d:List Int)(f:Int)(e:List Int)(o1:List (Rd×Ab))(k h:Int):stepT N7 (L3 g i a j d f e o1 k h)=let b':=getD g (toNat a) ([],0);let m:=Ee zh Ai (fst b') o1;.di (a<i) (.ck (decide (0<=a)&&decide (a<(length g:Int)))<|.ite (!Option.isSome m) (L3 g i (zd .i64<|a+1) j d f e o1 k h)<|L4 b' ((Option.getD m ((0,[]),0,[]))) g i a j d f e o1 k h) (.leaf (yo [.dat i64 j,.dat wU d,.dat i64 f,.dat wU e]) []):=by kernel_rfl
theorem BU[Srt](a:Rd×Int)(h:Ab)(k:List LX)(m j p:Int)(d:List Int)(f:Int)(e:List Int)(o1:List (Rd×Ab))(n g:Int):stepT N7 (L4 a h k m j p d f e o1 n g)=let b':=((p,d),f,e);let o:=Sc (snd a,Bo<|snd a) (10,Bo 10);let i:=Fq h o;.ck true (.ck true<|.ck (I3 (snd a,Bo<|snd a) (10,Bo 10))<|.ck (zu h&&zu o)<|.ck (zu b'&&zu i)<|L3 k m (zd .i64<|j+1) (Kh b' i) (Kt b' i) (Kd b' i) (Kq b' i) o1 n g):=by kernel_rfl
end T72
namespace T131
def T[Srt](p:List BJ)(x:Ab):Tr:=tree RB false 9 131<|Ag ([zi Hb,Ai]) (p,x)
def L1[Srt](v0:List BJ)(v3:Ab)(d a:Int):Tr:=re ((T [] ((0,[]),(0,[]))))<|Ay 72 [(0,.dat (zi Hb) v0),(3,PV.BL Ai v3 0),(4,.ptr 0 0)] [(0,.box [.dat i64 d,.nil,.dat i64 a,.nil])] 1
theorem Ak[Srt](p:List BJ)(x:Ab):T p x=L1 p x 0 0:=by kernel_rfl
def L2[Srt](v0:List BJ)(v3:Ab)(e:List BJ)(f d g a:Int):Tr:=re ((stepT RB<|L1 [] ((0,[]),(0,[])) 0 0))<|Ay 72 [(0,.dat (zi Hb) v0),(3,PV.BL Ai v3 0),(4,.ptr 0 0),(11,.dat (zi Hb) e),(12,.dat i64 f),(13,.dat i64 d)] [(0,.box [.dat i64 g,.nil,.dat i64 a,.nil])] 1
theorem Al[Srt](v0:List BJ)(v3:Ab)(d a:Int):stepT RB (L1 v0 v3 d a)=L2 v0 v3 v0 ((length v0:Int)) 0 d a:=by kernel_rfl
def L3[Srt](v0:List BJ)(v3:Ab)(v5:Int)(f d:Ab)(e a:Int):Tr:=re ((stepT RB<|L2 [] ((0,[]),(0,[])) [] 0 0 0 0).L.L.L.L.L.R.R.L.R)<|Ay 72 [(0,.dat (zi Hb) v0),(3,PV.BL Ai v3 0),(4,.ptr 0 0),(5,.dat i64 v5),(7,PV.BL Ai f 0),(8,PV.BL Ai d 0)] [(0,.box [.dat i64 e,.nil,.dat i64 a,.nil])] 1
theorem AL[Srt](v0:List BJ)(v3:Ab)(e:List BJ)(g a j d:Int):stepT RB (L2 v0 v3 e g a j d)=let f:=getD e (toNat a) ([],[]);let h:=(length v0:Int);let b':=snd<|getD v0 (toNat<|zd .i64<|h-1) ([],[]);let m:Tr:=.leaf (yo [.dat i64<|Ro<|snd f,.dat wU<|Rz<|snd f,.dat i64<|Pz<|snd f,.dat wU<|Pk<|snd f]) [];let i:=BR<|fst f;let k:=Sp.B8 v3&&Sp.B8 i;.di (a<g) (.ck (decide (0<=a)&&decide (a<(length e:Int)))<|.ck (Dc<|fst f)<|.ck (Dc<|snd f)<|.ck k<|.di (CW v3 i>0) (L2 v0 v3 e g (zd .i64<|a+1) j d)<|.ite (a==0) m<|.ck k<|.di (CW v3 i=0) m<|L3 v0 v3 a i ((BR<|snd f)) j d) (.ck (decide (0<=zd .i64 (h-1))&&decide (zd .i64 (h-1)<h))<|.ck (Dc b')<|.leaf (yo [.dat i64<|Ro b',.dat wU<|Rz b',.dat i64<|Pz b',.dat wU<|Pk b']) []):=by kernel_rfl
def L4[Srt](v3 g f v9 d:Ab)(e a:Int):Tr:=re ((stepT RB<|L3 [] ((0,[]),(0,[])) 0 ((0,[]),(0,[])) ((0,[]),(0,[])) 0 0).L.L.L.L)<|Ay 72 [(3,PV.BL Ai v3 0),(4,.ptr 0 0),(7,PV.BL Ai g 0),(8,PV.BL Ai f 0),(9,PV.BL Ai v9 0),(10,PV.BL Ai d 0)] [(0,.box [.dat i64 e,.nil,.dat i64 a,.nil])] 1
theorem BT[Srt](v0:List BJ)(v3:Ab)(v5:Int)(g f:Ab)(e a:Int):stepT RB (L3 v0 v3 v5 g f e a)=let d:=getD v0 (toNat<|zd .i64<|v5-1) ([],[]);let b':=decide (0<=zd .i64 (v5-1))&&decide (zd .i64 (v5-1)<(length v0:Int));.ck b' (.ck b'<|.ck (Dc<|fst d)<|.ck (Dc<|snd d)<|L4 v3 g f ((BR<|fst d)) ((BR<|snd d)) e a):=by kernel_rfl
theorem BU[Srt](v3 h f v9 a:Ab)(i e:Int):stepT RB (L4 v3 h f v9 a i e)=let b':=Fq (E9 f a)<|E9 v3 v9;let g:=E9 h v9;let d:=Jb b' g;.ck (zu f&&zu a) (.ck (zu v3&&zu v9)<|.ck (zu (E9 f a)&&zu (E9 v3 v9))<|.ck (zu h&&zu v9)<|.ck (zu b'&&zu g&&decide (Sp.vI (fst g)≠0))<|.ck (zu a&&zu d)<|.leaf (yo [.dat i64<|Kh a d,.dat wU<|Kt a d,.dat i64<|Kd a d,.dat wU<|Kq a d]) []):=by kernel_rfl
end T131
namespace T73
def T[Srt](c:Bc)(t h l:Int):Tr:=tree Ad0 false 9 73<|Ag ([DG,zx zo,zx zo,zx zo]) (c,t,h,l)
def L1[Srt](v1 v2 v3:Int)(v4:Bc)(d a:Int):Tr:=re ((T ([],([],[])) 0 0 0))<|Ay 26 [(1,.dat i64 v1),(2,.dat i64 v2),(3,.dat i64 v3),(4,PV.BL DG v4 0),(8,.ptr 0 0)] [(0,.box [.dat i64 d,.nil,.dat i64 a,.nil])] 1
theorem Ak[Srt](c:Bc)(t h l:Int):T c t h l=L1 t h l c 0 0:=by kernel_rfl
theorem Al[Srt](v1 v2 v3:Int)(v4:Bc)(f d:Int):stepT Ad0 (L1 v1 v2 v3 v4 f d)=let b':=fst<|snd<|snd<|snd<|getD (snd<|snd v4) (toNat v3) ([],[],[],[],[]);let e:=Sp.obF v4 v2 v3;let a:=Sp.vlF b'<|cR v4 v1 v2 v3;.ck (decide (0<=v3)&&decide (v3<(↑(length<|snd<|snd v4):Int))) (.ck (iR v4 v1 v2 v3)<|.ck (Sp.okY b'<|cR v4 v1 v2 v3)<|.ck (Sp.okO v4 v2 v3)<|.ck (zu a&&zu e)<|.leaf (yo [.dat i64<|Kh a e,.dat wU<|Kt a e,.dat i64<|Kd a e,.dat wU<|Kq a e]) []):=by kernel_rfl
end T73
end
open Go.Sp (Bc ED Fo BJ LX BS)
theorem T77.ok[Srt]:Af A5 77 Rr:=by
 refine Ir (X:=dO) rfl (fun g sp h=>by cases h) (d:=9) ag ag ag (fun(n:Int) _=>?_) (Bd ag);refine yc (T77.Ak n)<|zl<|yn rfl rfl ?_;show(n,([]:List Int))=(n,Bo n);rw[EM]
theorem nQ[Srt]:CL Ae8:=Aa T81.ok AI
theorem T170.ok[Srt]:Af A5 170 qG:=by
 refine BG nQ<|fun(i:Ab×Ab) hi=>?_;exact yc (T170.Ak i.1 i.2)<|zc hi<|zl<|yn rfl rfl rfl
theorem lM[Srt]:CL N7:=Aa T66.ok<|Aa T60.ok<|Aa T77.ok<|Aa T121.ok<|Aa T74.ok<|Aa T67.ok AI
def gS(m:List (BS×Ab))(ws:List BJ):Prop:=∀k:BS,Ee .str Ai k m=(ws.find? fun w=>decide (w.1=k)).map fun w=>BR w.2
theorem gS.add{m:List (BS×Ab)}{ws:List BJ}(h:gS m ws)(w:BJ)(d:∀v∈ws,v.1≠w.1):gS (He .str Ai w.1 (BR w.2) m) (ws++[w]):=fun k=>by
 have e:=G6 (v:=Ai) k w.1 (BR w.2) m;rw[e,List.find?_append];by_cases c:k=w.1
 ·rw[wd c,List.find?_eq_none.2 (fun v a=>by rw[c];simpa using d v a),List.find?_cons,w4 c.symm];rfl
 ·rw[wc c,h k,List.find?_cons,w8<|fun x=>c x.symm];cases ws.find? fun w=>decide (w.1=k)<;>rfl
namespace T72
theorem Vb[Srt]{v1:Int}{v3:Bc}{x g:Int}(ws:List BJ)(n:ws.length<=16)(o:∀w∈ws,Av w.2=0)(a:(ws.map Prod.fst).Nodup)(j:0<=v1/\v1<(v3.1.length:Int))(q:∀m,gS m ws->Ends N7 (L3 (Dy v3 v1).2.2.2.2 ((Dy v3 v1).2.2.2.2.length:Int) 0 0 (Bo 0) 1 (Bo 1) m x g) Q):∀(r:List BJ) (i:Nat) (m:List (BS×Ab)) (d:List BJ),ws.drop i=r->i<=ws.length->ws=d++r->gS m d->Ends N7 (L2 v1 v3 ws (ws.length:Int) (i:Int) m x g) Q
 |[],i,m,d,h,u,f,k=>by
  have:=drop_nil h u;rw[List.append_nil]at f;rw[<-f]at k;exact zk (AL ..) (z6 (w8 ae)<|zc rfl (zc (OP j)<|q m k))
 |p::r,i,m,d,h,u,f,k=>by
  obtain⟨C,z,D⟩:=drop_cons (d:=(([],[]):BJ)) h;have A:=wn (i:=i) ae;have y:=o p (zz (by rw[h];exact zw ..));refine zk (AL ..) ?_;conv=>zeta
  rw[zj,z,A];refine zc (w4 ae) (zc (OP ae)<|zc (DR y) ?_);refine Vb ws n o a j q r (i+1) _ (d++[p]) D C (by rw[f,List.append_assoc];rfl)<|k.add p fun v B e=>?_;rw[f,List.map_append,List.nodup_append]at a;exact a.2.2 v.1 (List.mem_map.2 ⟨v,B,rfl⟩) p.1 (by rw[List.map_cons];exact zw ..) e
theorem SF[Srt]{J x:Int}{m:List (BS×Ab)}(ws:List BJ)(z:∀w∈ws,RS 20 (BR w.2)<|Au w.2)(v:gS m ws)(l:List LX)(g:l.length<=16)(y:∀o∈l,0<=o.2/\o.2<=10)(F:Ab)(p:∀ob,Q (.agg [.dat i64 F.1.1,.dat (.nlist u64) F.1.2,.dat i64 F.2.1,.dat (.nlist u64) F.2.2]) ob):∀(r:List LX) (i K:Nat) (f:Ab) (q:Rat),l.drop i=r->i<=l.length->RS K f q->K+23*r.length<=4000->V7 ws f r=F->Ends N7 (L3 l (l.length:Int) (i:Int) f.1.1 f.1.2 f.2.1 f.2.2 m J x) Q
 |[],i,K,f,q,h,G,k,A,e=>by
  have:=drop_nil h G;have e:f=F:=e;rw[<-e]at p;exact zk (BT ..) (z6 (w8 ae)<|zl<|p _)
 |o::r,i,K,f,q,h,G,k,A,e=>by
  obtain⟨E,I,C⟩:=drop_cons (d:=(([],0):LX)) h;have D:=wn (i:=i) ae;have H:=y o (zz<|by rw[h];exact zw ..);rw[yh]at A;refine zk (BT ..) ?_;conv=>zeta
  rw[zj,I,D,v o.1];refine zc (w4 ae) (zc (OP ae) ?_);rw[V7]at e;cases a:ws.find? fun w=>decide (w.1=o.1)with
  |none=>
   rw[a]at e;exact zc rfl (SF ws z v l g y F p r (i+1) K f q C E k ae e)
  |some w=>
   rw[a]at e;have e:V7 ws (BI f<|Fq (BR w.2)<|Sc (o.2,Bo o.2) (10,Bo 10)) r=F:=e;have j:=z w<|List.mem_of_find?_eq_some a;have t:=PQ H;have B:=j.mul t af af;have u:=k.add B ae af;have n1:Cv o.2=true:=ad ae ae;have mk:I3 (o.2,Bo o.2) (10,Bo 10)=true:=Ac (Ac (GY n1).1 (GY (n:=10) rfl).1) (w4<|by rw[(GY (n:=10) rfl).2];decide);refine z6 rfl (zk (BU ..)<|zc rfl (zc rfl (zc mk<|zc (j.N3 t af af)<|zc (k.N3 B ae af) ?_)));rw[D];exact SF ws z v l g y F p r (i+1) _ (BI f<|Fq (BR w.2)<|Sc (o.2,Bo o.2) (10,Bo 10)) _ C E u ae e
theorem ok[Srt]:Af A5 72 cOb:=by
 refine BG lM<|fun(i:Bc×Int×Int) hi=>?_;obtain⟨c,h,l⟩:=i;obtain⟨L,h0,S,_⟩:=Pt (c:=c) (h:=h) (l:=l) hi;refine yc (Ak c h l)<|zk (Al ..)<|zc (OP L.l0) ?_;refine Vb (Ft c l).2.2.2.2 L.lv.wlen (fun w d=>(L.lv.wts w d).1) L.lv.one h0 (fun m a=>?_) (Ft c l).2.2.2.2 0 [] [] rfl (yf _) rfl (fun k=>rfl);exact SF (Ft c l).2.2.2.2 L.lr.wts a (Dy c h).2.2.2.2 S.len S.obs (Sp.obF c h l) (fun ob=>yn rfl rfl rfl) (Dy c h).2.2.2.2 0 1 Sp.zF 0 rfl (yf _) GJ (by have:=S.len;omega) rfl
end T72
theorem jD[Srt]:CL RB:=Aa T66.ok<|Aa T81.ok<|Aa T170.ok<|Aa T67.ok<|Aa T61.ok<|Aa T74.ok<|Aa T68.ok AI
theorem mD(o:Option BJ)(p:BJ)(l:List BJ)(x:Ab):uQ o (p::l) x=if CW x (BR p.1)>0 then uQ (some p) l x else match o with
  |none=>BR p.2
  |some q=>if CW x (BR p.1)=0 then BR p.2 else BI (BR q.2) (Jb (Fq (E9 (BR p.2)<|BR q.2)<|E9 x<|BR q.1)<|E9 (BR p.1)<|BR q.1):=by
 cases o<;>rw[uQ]
namespace T131
theorem loop[Srt]{U B:Int}(t:List BJ)(A:t.length<=64)(g:t≠[])(D:∀p∈t,p.1.length<=20/\p.2.length<=20)(x:Ab)(X:Rat)(j:RS 300 x X)(F:Ab)(f:∀ob,Q (.agg [.dat i64 F.1.1,.dat (.nlist u64) F.1.2,.dat i64 F.2.1,.dat (.nlist u64) F.2.2]) ob):∀(r:List BJ) (i:Nat) (o:Option BJ),t.drop i=r->i<=t.length->(o=none->i=0)->(∀q,o=some q->1<=i/\t.getD (i-1) ([],[])=q/\Av q.1=0/\Av q.2=0/\q.1.length<=20/\q.2.length<=20)->E6 o r=0->uQ o r x=F->Ends RB (L2 t x t (t.length:Int) (i:Int) U B) Q
 |[],i,o,h,I,h0,C,u,e=>by
  have W:=drop_nil h I;cases o with
  |none=>
   have:=h0 rfl;exact wh (List.eq_nil_of_length_eq_zero ae) g
  |some q=>
   obtain⟨n,k,_,P,_,_⟩:=C q rfl;have e:BR q.2=F:=e;have v:zd .i64 ((t.length:Int)-1)=((i-1:Nat):Int):=by rw[wr _ ae ae];omega
   refine zk (AL ..) (z6 (w8 ae) ?_);rw[v,zj,k];rw[<-e]at f;exact zc (OP ae)<|zc (DR P)<|zl<|f _
 |p::r,i,o,h,I,h0,C,u,e=>by
  obtain⟨O,H,M⟩:=drop_cons (d:=(([],[]):BJ)) h;have S:=wn (i:=i) ae;obtain⟨l1,l2⟩:=D p (zz<|by rw[h];exact zw ..);have T:Av p.1=0/\Av p.2=0/\E6 (some p) r=0:=by
   cases o with
   |none=>exact Me u
   |some q=>obtain⟨a,b,_,c⟩:=Ja u;exact⟨a,b,c⟩
  obtain⟨n,k,L⟩:=T;have m:=DZ n l1 af;have G:=DZ k l2 af;rw[mD]at e;refine zk (AL ..) ?_;conv=>zeta
  rw[zj,H,S];refine zc (w4 ae) (zc (OP ae)<|zc (DR n)<|zc (DR k)<|zc (Ac (j.B8 af)<|m.B8 af)<|zp (fun c=>?_)<|fun c=>?_)
  ·rw[wd<|w6 c]at e;exact loop t A g D x X j F f r (i+1) (some p) M O (fun y=>by cases y) (fun q y=>by cases y;exact⟨by omega,by rw[Nat.add_sub_cancel];exact H,n,k,l1,l2⟩) L e
  ·rw[wc<|w7 c]at e;cases o with
   |none=>
    have z:=h0 rfl;have e:BR p.2=F:=e;rw[<-e]at f;exact zc (by rw[z];rfl)<|zl<|f _
   |some q=>
    obtain⟨V,N,E,J,K,R⟩:=C q rfl;have q1:=DZ E K af;have w:=DZ J R af;obtain⟨_,_,hlt,_⟩:=Ja u;have e:(if CW x (BR p.1)=0 then BR p.2 else BI (BR q.2)<|Jb (Fq (E9 (BR p.2)<|BR q.2)<|E9 x<|BR q.1)<|E9 (BR p.1)<|BR q.1)=F:=e;refine z6 (by simp;omega) (zc (Ac (j.B8 af)<|m.B8 af)<|zp (fun d=>?_)<|fun d=>?_)
    ·rw[wd<|w6 d]at e;rw[<-e]at f;exact zl<|f _
    ·rw[wc<|w7 d]at e;rw[<-e]at f;have v:zd .i64 ((i:Int)-1)=((i-1:Nat):Int):=by rw[wr _ ae ae];omega
     have s1:=G.sub w af af;have s2:=j.sub q1 af af;have s3:=s1.mul s2 af af;have s4:=m.sub q1 af af;have s5:=s3.div s4 af af<|Po hlt;refine zk (BT ..) ?_;conv=>zeta
     rw[v,zj,N];refine zc (OP ae) (zc (OP ae)<|zc (DR E)<|zc (DR J) (zk (BU ..)<|zc (G.N3 w af af)<|zc (j.N3 q1 af af)<|zc (s1.N3 s2 af af)<|zc (m.N3 q1 af af)<|zc (s3.ok3 s4 af af<|Po hlt)<|zc (w.N3 s5 af af)<|zl<|f _))
theorem ok[Srt]:Af A5 131 AfW:=by
 refine BG jD<|fun(i:List BJ×Ab) hi=>?_;obtain⟨t,x⟩:=i;obtain⟨ht,hl,X,hx⟩:=AcF (t:=t) (x:=x) hi;obtain⟨hne,h64,h0⟩:=GF ht;refine yc (Ak t x)<|zk (Al ..) ?_;exact loop t h64 hne hl x X hx (Sp.vlF t x) (fun ob=>yn rfl rfl rfl) t 0 none rfl (yf _) (fun _=>rfl) (fun q y=>by cases y) h0 rfl
end T131
theorem kJ[Srt]:CL Ad0:=Aa T71.ok<|Aa T72.ok<|Aa T131.ok<|Aa T67.ok AI
theorem T73.ok[Srt]:Af A5 73 cRt:=by
 refine BG kJ<|fun(i:Bc×Int×Int×Int) hi=>?_;obtain⟨c,t,h,l⟩:=i;obtain⟨P,L,kp,ko,h0,n0⟩:=Yb (c:=c) (t:=t) (h:=h) (l:=l) hi;have a:=AbR (c:=c) (t:=t) (h:=h) (l:=l) hi;have v:=Ab4 a af L.lv.tab L.ls.tab;have o:=kW ko;have d:Sp.okY (Ft c l).2.2.2.1 (cR c t h l)=true:=AcB ⟨L.lv.tab,L.ls.tab,_,a.mono af⟩;exact yc (T73.Ak c t h l) (zk (T73.Al ..) (zc (OP L.l0)<|zc hi<|zc d<|zc ko<|zc (v.N3 o af af)<|zl<|yn rfl rfl rfl))
theorem oC[Srt]:CL Qx:=Aa T73.ok<|Aa T60.ok<|Aa T67.ok AI
namespace T63
theorem loop[Srt]{c:Bc}{t l:Int}(h:Tt c t l=true)(j:∀ob,Q (.agg [.dat i64 (Zn c t l).1.1,.dat (.nlist u64) (Zn c t l).1.2,.dat i64 (Zn c t l).2.1,.dat (.nlist u64) (Zn c t l).2.2]) ob):∀(k i K:Nat) (f:Ab) (q:Rat),i+k=c.1.length->RS K f q->K+123*k<=3000->Sp.suF c t l f i k=Zn c t l->Ends Qx (L2 c t l (c.1.length:Int) (i:Int) l t c.1 c.2.1 c.2.2 f.1.1 f.1.2 f.2.1 f.2.2 0 0 c.1 c.2.1 c.2.2) Q
 |0,i,K,f,q,m,a,d,e=>by
  have e:f=Zn c t l:=e;simp_all [zk,AL]
 |k+1,i,K,f,q,m,a,d,e=>by
  have n:=UB h;have g:zd .i64 ((i:Int)+1)=((i+1:Nat):Int):=by grind [wr]
  have r:=pJ h (i:=i) ae;refine zk (AL ..) ?_;conv=>zeta
  rw[g];exact zc ah (zc (nG h ae) (zc (a.N3 r ae af)<|loop h j k (i+1) _ (BI f<|Sp.rtF c t (i:Int) l) _ ae (a.add r ae af) ae e))
theorem ok[Srt]:Af A5 63 cEx:=by
 refine BG oC<|fun(i:Bc×Int×Int) h=>?_;obtain⟨c,t,l⟩:=i;have h:Tt c t l=true:=h;have n:=UB h;have e:∀(a b:Int) (g:List ED) (f:List Ix) (d:List Fo),L1 c t l a b l t g f d 0 (Bo 0) 1 (Bo 1) 0 0 g f d=L2 c t l a b l t g f d 0 (Bo 0) 1 (Bo 1) 0 0 g f d:=fun a b g f d=>by kernel_rfl
 refine yc (Ak c t l)<|zc rfl ?_;rw[e];exact loop h (fun ob=>yn rfl rfl rfl) c.1.length 0 1 Sp.zF 0 ae GJ ae rfl
end T63
theorem tT[Srt]:CL Afw:=Aa T77.ok<|Aa T67.ok<|Aa T129.ok AI
theorem T75.ok[Srt]:Af A5 75 Abt:=by
 refine BG tT<|fun(a:Ab) ha=>?_;obtain⟨q,h⟩:=Adc ha;exact yc (T75.Ak a) (zc rfl (zc rfl (zc (h.N3 AbD af af)<|zc (AbK h af).1<|zl<|yn rfl rfl rfl)))
theorem rX[Srt]:CL AeS:=Aa T60.ok (by grind [Aa,T74.ok,T75.ok,T77.ok,T121.ok,Mw])
theorem T62.ok[Srt]:Af A5 62 AeL:=by
 refine BG rX<|fun(a:Ab) ha=>?_;obtain⟨q,h⟩:=Ac6 ha;have t:RS 2 (Sp.iF 10) ((10:Int):Rat):=FV af af af;have m:=h.mul t af af;exact yc (T62.Ak a) (zc rfl (zc (h.N3 t af af)<|zc (AcE ⟨_,m.mono af⟩)<|zc rfl (zc (AbL h af).1<|zl<|yn rfl rfl rfl)))
theorem Ag0(c:Bc)(t l:Int):US c [(t,Sp.nTe c),(l,Sp.nLv c)]=LP c t l:=by
 unfold US V1 LP dE fC;rw[List.any_cons,List.any_cons,List.any_nil,Bool.or_false];rfl
theorem zE{c:Bc}(h:wK c=true):RD c=true/\∀t l,LP c t l=0->Tt c t l=true:=by
 unfold wK at h;grind [IY,Tt,LP]
open Go.Sp (Bc Ab)
def Mp(s:List Int):List Ab:=s.map fun n=>((n,Bo n),1,Bo 1)
theorem Hl{s:List Int}(h:Tx s=0):s≠[]/\s.length<=256/\(∀n∈s,1<=n/\n<=999999999):=by
 unfold Tx at h;split at h
 ·cases h
 split at h
 ·cases h
 split at h
 ·cases h
 rename_i d f a;refine⟨d,by omega,fun n e=>?_⟩;have a:s.any Ry=false:=by simpa using a
 have:=List.any_eq_false.1 a n e;unfold Ry at this;simp only[Bool.or_eq_true,w5]at this;omega
theorem pB{s:List Int}(h:Tx s=0):∀x∈Mp s,RS 9 x (HX x):=fun x d=>by
 obtain⟨n,a,rfl⟩:=List.mem_map.1 d;have:=(Hl h).2.2 n a;have r:RS 9 ((n,Bo n),1,Bo 1) (n:Rat):=FV ae af af;rw[<-r.val];exact r
theorem bM{s:List Int}(h:Tx s=0):(Mp s).map HX=s.map fun(n:Int)=>(n:Rat):=by
 unfold Mp;rw[List.map_map];refine List.map_congr_left fun n a=>?_
 have:=(Hl h).2.2 n a;have r:RS 9 ((n,Bo n),1,Bo 1) (n:Rat):=FV ae af af;exact r.val.symm
theorem Xd(s:List Int)(b:Bool):yd [Bj (s.length:Int) 256,Cd b 3]=if s=[]then 12 else if 256<s.length then 5 else if b=true then 3 else 0:=by
 cases s with
 |nil=>rfl
 |cons x s=>
  rw[wc<|fun e=>by cases e];have n0:¬(((x::s).length:Nat):Int)=0:=by rw[yh];omega
  by_cases h:256<(x::s).length
  ·have c:Bj (((x::s).length:Nat):Int) 256=5:=by unfold Bj;rw[wc n0,wd ae]
   rw[c,wd h];rfl
  ·have c:Bj (((x::s).length:Nat):Int) 256=0:=by unfold Bj;rw[wc n0,wc ae]
   rw[c,wc h];cases b<;>rfl
theorem kU:CL IL:=Aa T53.ok<|Aa T54.ok<|Aa T52.ok<|Aa T58.ok<|Aa T59.ok<|Aa T57.ok<|Aa T60.ok<|Aa T34.ok<|Aa T63.ok<|Aa T62.ok<|Aa T61.ok<|Aa T31.ok AI
namespace T17
variable {Q:PV->Ob->Prop}{c:Bc}{t l:Int}{s:List Int}
theorem fin(h:Tt c t l=true)(k:Tx s=0)(o:∀ob,Q (.tup [.dat .str<|RC c t l s,.dat i64<|Yy c t l s]) ob):Ends IL (L5 t l c<|Mp s) Q:=by
 obtain⟨p,s1,_⟩:=Hl k;have fl:(Mp s).length=s.length:=zn ..;have n0:0<(Mp s).length:=by rw[fl];exact zt.2 p
 have a:=pB k;have m:=ZY (K:=9) af n0 a;have j:XA (Mp s)=true:=bO ⟨zt.1 n0,by omega,fun x i=>⟨_,(a x i).mono af⟩⟩;rw[bM k]at m;have m:RS 20 ((Yv<|Mp s,Y2<|Mp s),Xo<|Mp s,Za<|Mp s) (wR s):=m;have x:=Af3 h;have u:=(AbL x af).2;have d:=m.sub u af af;have g:Kw c t l s=0:=by
  unfold Kw;rw[wc (by rw[show LP c t l=0 from w6 ((zm _ _).mp ((zm _ _).mp h).1).2];decide),k]
 have e:=qU d g;have e:(MZ<|E9 ((Yv<|Mp s,Y2<|Mp s),Xo<|Mp s,Za<|Mp s)<|wP<|Zn c t l,Mt<|E9 ((Yv<|Mp s,Y2<|Mp s),Xo<|Mp s,Za<|Mp s)<|wP<|Zn c t l)=(RC c t l s,Yy c t l s):=e;obtain⟨n,f⟩:=Prod.mk.inj e;refine zk (Fi ..) ?_;conv=>zeta
 rw[n,f];exact zc j (zc h (zc (Adj ⟨_,x.mono af⟩)<|zc (m.N3 u af af)<|zc (d.B8 af)<|zl<|o _))
theorem loop(f:s.length<=256)(d:Ends IL (L5 t l c<|Mp s) Q):∀(k i:Nat),i+k=s.length->Ends IL (L4 t l c i s (s.length:Int) (i:Int)<|Mp<|s.take i) Q
 |0,i,a=>by
  have a:i=s.length:=a;subst a;refine zk (BU ..) (z6 (w8 ae) ?_);rw[yi,zr<|by unfold Mp;rw[zn];exact Nat.le_refl _];exact d
 |k+1,i,a=>by
  have g:=wn (i:=i) ae;have nx:=loop f d k (i+1) ae;have e:i<s.length:=ae
  have fl:(Mp<|s.take i).length=i:=by unfold Mp;rw[zn,z7];omega
  have h:Mp (s.take<|i+1)=Mp (s.take i)++[((s.getD i 0,Bo<|s.getD i 0),1,Bo 1)]:=by
   unfold Mp;rw[zg e,List.map_append,ze,zf e];rfl
  rw[h]at nx;refine zk (BU ..) ?_;conv=>zeta
  rw[zj,g];exact zc (w4 ae) (zc (OP ae)<|zc rfl (zc (Ac (Ac rfl (w4 fl.symm))<|w4 ae) nx))
theorem start(h:Tt c t l=true)(k:Tx s=0)(d:∀ob,Q (.tup [.dat .str<|RC c t l s,.dat i64<|Yy c t l s]) ob):Ends IL (L3 t l c s (s.length:Int) 0) Q:=by
 obtain⟨a,s1,_⟩:=Hl k;have n0:0<s.length:=zt.2 a;have lp:=loop (t:=t) (l:=l) (c:=c) s1 (fin h k d) (s.length-1) 1 ae;have e:Mp (s.take 1)=[((s.getD 0 0,Bo<|s.getD 0 0),1,Bo 1)]:=by
  cases s with
  |nil=>exact wh rfl a
  |cons x s=>rfl
 rw[e]at lp;exact zk (BT ..) (zc (w4 ae)<|zc (OP ae)<|zc rfl (zc rfl lp))
theorem find(h:Tt c t l=true)(B:s.length<=1000000)(u:∀ob,Q (.tup [.dat .str<|RC c t l s,.dat i64<|Yy c t l s]) ob)(m:Tx s≠0->∀ob,Q (.tup [.dat .str [],.dat i64<|Tx s]) ob):∀(r:List Int) (i:Nat),s.drop i=r->i<=s.length->(∀n∈s.take i,Ry n=false)->Ends IL (L2 t l s c s (s.length:Int) (i:Int)) Q:=by
 have yes:∀i:Nat,s.any Ry=true->yd [Bj (s.length:Int) 256,Cd (decide ((i:Int)>=0)) 3]=Tx s/\Tx s≠0:=fun i f=>by
  rw[Xd,w4 ae];unfold Tx;rw[wd f];refine⟨rfl,?_⟩;split
  ·decide
  ·split<;>decide
 intro r;induction r with
 |nil=>
  intro i hr o g;have:=drop_nil hr o;have f:s.any Ry=false:=List.any_eq_false.2 fun n a=>by
   rw[this,yi]at g;rw[g n a];decide
  have e:yd [Bj (s.length:Int) 256,Cd false 3]=Tx s:=by
   rw[Xd];unfold Tx;rw[f]
  refine zk (AL ..) (z6 (w8 ae)<|zc rfl (zc rfl (zc rfl ?_)));rw[e];refine zp (fun z=>zl<|m (by simpa using z) _) (fun z=>start h (by simpa using z) u)
 |cons x r q=>
  intro i hr o g;obtain⟨k,j,y⟩:=drop_cons (d:=(0:Int)) hr;have v:=wn (i:=i) ae;have w:x∈s:=zz (by rw[hr];exact zw);refine zk (AL ..) (zc (w4 ae) (zc (OP ae) ?_));rw[zj,j,v];have bad:Ry x=true->Ends IL (.ite true (.ite true (.ite (decide (2<=2)&&true&&decide (2<=1000000)) (.ite (yd [Bj (s.length:Int) 256,Cd (decide ((i:Int)>=0)) 3] !=0) (.leaf (.tup [.dat .str [],.dat i64<|yd [Bj (s.length:Int) 256,Cd (decide ((i:Int)>=0)) 3]]) [])<|L3 t l c s (s.length:Int) 0) .fail) .fail) .fail) Q:=fun f=>by
   obtain⟨A,p⟩:=yes i<|List.any_eq_true.2 ⟨x,w,f⟩;rw[A];exact zc rfl (zc rfl (zc rfl (zc (by simpa using p)<|zl<|m p _)))
  refine zp (fun z=>bad ?_)<|fun z=>zp (fun z2=>bad ?_)<|fun z2=>q (i+1) y k fun n a=>?_
  ·unfold Ry;rw[z];rfl
  ·have z2:decide (999999999<x)=true:=z2;unfold Ry;rw[z2,Bool.or_true]
  ·have z2:decide (999999999<x)=false:=z2;have z:decide (x<1)=false:=z;rw[zg k]at a;rcases List.mem_append.1 a with a|a
   ·exact g n a
   ·have:s[i]=x:=by
     rw[ze,zf k]at j;exact j
    rw[ye.1 a,this];unfold Ry;rw[z,z2];rfl
theorem ok:Af A5 17 kA:=by
 refine BG kU<|fun(i:Bc×Int×Int×List Int) a=>?_;obtain⟨c,t,l,s⟩:=i;have a:(wK c&&decide (s.length<=1000000))=true:=a;rw[zm,w5]at a;obtain⟨a,hs⟩:=a;obtain⟨sh,ok⟩:=zE (c:=c) a;refine yc (Ak c t l s) ?_;conv=>zeta
 rw[Ag0];refine zc rfl (zc rfl (zc (Ac rfl (Ac sh rfl))<|zp (fun k=>zl<|yn rfl rfl ?_)<|fun k=>zk (Al ..) ?_))
 ·have k:LP c t l≠0:=by simpa using k
  show(([]:BS),LP c t l)=(RC c t l s,Yy c t l s);have e:Kw c t l s=LP c t l:=by unfold Kw;rw[wd k]
  unfold RC Yy Tu TT;rw[e,wd k,wd k]
 ·have k:LP c t l=0:=by simpa using k
  refine find (ok t l k) hs (fun ob=>yn rfl rfl rfl) (fun z ob=>yn rfl rfl ?_) s 0 rfl (yf _) (fun n d=>by simp at d);show(([]:BS),Tx s)=(RC c t l s,Yy c t l s);have e:Kw c t l s=Tx s:=by unfold Kw;rw[wc<|by rw[k];decide]
  unfold RC Yy Tu TT;rw[e,wd z,wd z]
end T17
theorem mI:Tt EF 0 0=true:=by kernel_rfl
theorem zQ{s:List Int}(k:Tx s=0):Cu 20 (wR s):=by
 obtain⟨a,_,_⟩:=Hl k;have m:=ZY (K:=9) af (by unfold Mp;rw[zn];exact zt.2 a)<|pB k;rw[bM k]at m;exact m.z
theorem Af2{s:List Int}(k:Tx s=0):Cu 600 (uH EF 0 0 s):=((zQ k).sub<|AbA<|AbY mI 2 0 af).mono af
theorem TW{s:List Int}(k:Tx s=0):yp 600 (RC EF 0 0 s) (uH EF 0 0 s)/\Yy EF 0 0 s=0:=by
 have e:Kw EF 0 0 s=0:=by
  unfold Kw;rw[wc (by rw[show LP EF 0 0=0 from w6 ((zm _ _).mp ((zm _ _).mp mI).1).2];decide),k]
 unfold RC Yy;rw[e];exact Sp.Nu.op (Af2 k) af
theorem AdR:uH EF 0 0 [81,91,71]=uH EF 0 0 [80,90,70]+1:=by
 unfold uH wR;have e:([81,91,71]:List Int).map (fun(n:Int)=>(n:Rat))=(([80,90,70]:List Int).map fun(n:Int)=>(n:Rat)).map (· +1):=by decide+kernel
 rw[e,bT af];grind
theorem Afk:yp 600 (RC EF 0 0 [80,90,70]) (uH EF 0 0 [80,90,70])/\Yy EF 0 0 [80,90,70]=0/\RC EF 0 0 [80,90,70]=AQ (uH EF 0 0 [80,90,70]):=
 ⟨(TW af).1,(TW af).2,(TW af).1.t⟩
theorem Afc:yp 600 (RC EF 0 0 [81,91,71]) (uH EF 0 0 [81,91,71])/\Yy EF 0 0 [81,91,71]=0/\RC EF 0 0 [81,91,71]=C8 (AQ<|uH EF 0 0 [80,90,70]) [49]:=by
 have h:=TW (s:=[81,91,71]) af;refine⟨h.1,h.2,?_⟩;unfold C8;rw[CD,show Au [49]=1 by decide+kernel, <-AdR];exact h.1.t
namespace T4
variable {Q:PV->Ob->Prop}{l:List Rd}{b:Rd}
theorem fin(h0:l≠[])(z:l.length<=12)(a:Ih 6 l)(g:yp 6 b (Au b))(d f:Rd)(D:Rat)(nd:yp 600 d D)(k:f=C8 d [49])(v:∀ob,Q (.dat .bool true) ob):Ends Gb (L5 l b (DD l) (U7 l) (l.countP (fun s=>decide (Cf s (DD l)<=0)):Nat) (l.countP (fun s=>decide (0<=Cf s (DD l))):Nat) (DD l.reverse) (DD<|Ey l b) (U7<|Ey l b) d f) Q:=by
 obtain⟨p,r⟩:=Sp.half h0 af af ae a;have q1:l.countP (fun s=>decide (Cf s (DD l)<=0))<=l.length:=zy;have q:l.countP (fun s=>decide (0<=Cf s (DD l)))<=l.length:=zy;generalize l.countP (fun s=>decide (Cf s (DD l)<=0))=n at p q1;generalize l.countP (fun s=>decide (0<=Cf s (DD l)))=m at r q;have fr:Ih 6 l.reverse:=fun s u=>a s<|List.mem_reverse.1 u
 have y:l.reverse≠[]:=fun e=>h0<|yj.1 e
 have h:=Zu a g;have i:Ey l b≠[]:=fun e=>h0<|List.map_eq_nil_iff.1 e
 have A:(Ey l b).length=l.length:=zn ..;have t1:=(KS h0 ae af af a).1;have t2:=(KS y (by rw[zq];omega) af af fr).1;have t3:=(KS i ae af af h).1;have t4:=(UO h0 ae ae af a).1;have t5:=(UO i ae ae af h).1;have w:DD l=DD l.reverse:=by rw[t1,t2,vF]
 have j:DD (Ey l b)=C8 (DD l) b:=by rw[t3,t1,Aab h0,kD]
 have o:U7 (Ey l b)=C8 (U7 l) b:=by rw[t5,t4,kC h0,iG]
 have n1:yp 14 (DD l) (J7 l):=by rw[t1];exact Vi (Mo h0 af af a)
 have x:yp 100 (U7 l) (VP l):=by rw[t4];exact Vi ((UR h0 ae a).mono ae)
 have one:yp 1 [49] 1:=by
  refine⟨by decide+kernel,?_⟩;unfold Cu;decide+kernel
 refine zk (Fi ..) (zc (w4 ?_)<|zc (w4 ?_)<|zc (by simpa using w)<|zc (Ac (n1.num af)<|g.num af)<|zc (by simpa using j)<|zc (Ac (x.num af)<|g.num af) (zc (by simpa using o)<|zc (Ac (nd.num af)<|one.num af)<|zl ?_))
 ·rw[wr _ ae ae];omega
 ·rw[wr _ ae ae];omega
 ·rw[k,beq_self_eq_true];exact v _
theorem six(q:l.length<=12)(g:∀s∈l,Bk s=true)(h:Bk b=true){M A:Rd}{v9 a:Int}{i:Nat}(d:i<l.length)(e:Ends Gb (L4 l b M A v9 a (i+1) (i+1) (l.length:Int) ((i+1:Nat):Int) ((Ey l b).take<|i+1)<|l.reverse.take<|i+1) Q):Ends Gb (L6 l b M A v9 a i i (i:Int) (l.length:Int) (i:Int) ((Ey l b).take i)<|l.reverse.take i) Q:=by
 have r:(Ey l b).length=l.length:=zn ..;have u:l.reverse.length=l.length:=zq;have o:=wn (i:=i) ae;have f:zd .i64 (zd .i64 ((l.length:Int)-1)-(i:Int))=((l.length-1-i:Nat):Int):=by
  rw[wr ((l.length:Int)-1) ae ae,wr _ ae ae];omega
 have p:(Ey l b).take (i+1)=(Ey l b).take i++[C8 (l.getD i []) b]:=by
  rw[zg ae,ze,zf d];unfold Ey;rw[List.getElem_map];rfl
 have m:l.reverse.take (i+1)=l.reverse.take i++[l.getD (l.length-1-i) []]:=by
  rw[zg ae,List.getElem_reverse,ze,zf ae];rfl
 have j:=nb (i:=i) (n:=l.length) ae;rw[p,m]at e;have k:Bk (l.getD i [])=true:=by
  rw[ze,zf d];exact g _<|yk d
 refine zk (GG ..) ?_;conv=>zeta
 rw[o,f,zj,zj];exact zc (ad ae ae) (zc (Ac (Ac rfl (w4<|by rw[z7];omega))<|w4 ae)<|zc j<|zc (Ac k h) (zc (Ac (Ac rfl (w4<|by rw[z7];omega))<|w4 ae) e))
theorem Lb{P:Rd->Bool}{i:Nat}(a:i<l.length):(l.take<|i+1).countP P=(l.take i).countP P+if P (l.getD i [])=true then 1 else 0:=by
 rw[zg a,List.countP_append,List.countP_singleton,ze,zf a];rfl
theorem loop(f:l.length<=12)(e:∀s∈l,Bk s=true)(g:Bk b=true){M A:Rd}(h:Gx M=true)(r:Ends Gb (L3 l b M A (l.countP (fun s=>decide (Cf s M<=0)):Nat) (l.countP (fun s=>decide (0<=Cf s M)):Nat) l.reverse<|Ey l b) Q):∀(k i:Nat),i+k=l.length->Ends Gb (L4 l b M A ((l.take i).countP (fun s=>decide (Cf s M<=0)):Nat) ((l.take i).countP (fun s=>decide (0<=Cf s M)):Nat) i i (l.length:Int) (i:Int) ((Ey l b).take i)<|l.reverse.take i) Q
 |0,i,j=>by
  have j:i=l.length:=j;subst j;have q:(Ey l b).length=l.length:=zn ..;rw[yi,zr<|ym q,zr<|ym zq];refine zk (BU ..) (z6 (w8 ae) ?_);rw[zr<|ym q,zr<|ym zq];exact r
 |k+1,i,j=>by
  have a:i<l.length:=ae
  have nx:=loop f e g h r k (i+1) ae;have v:(l.take i).countP (fun s=>decide (Cf s M<=0))<=i:=yb zy (by rw[z7];omega);have w:(l.take i).countP (fun s=>decide (0<=Cf s M))<=i:=yb zy (by rw[z7];omega);rw[Lb a,Lb a]at nx;generalize (l.take i).countP (fun s=>decide (Cf s M<=0))=n at v nx ⊢;generalize (l.take i).countP (fun s=>decide (0<=Cf s M))=m at w nx ⊢;have o:=nb (i:=i) (n:=l.length) ae;have p:Bk (l.getD i [])=true:=by
   rw[ze,zf a];exact e _<|yk a
  have x:=wn (i:=n) ae;have u:=wn (i:=m) ae;refine zk (BU ..) ?_;conv=>zeta
  rw[zj,x,u];refine zc (w4 ae)<|zc o<|zc (Ac p h)<|zp (fun c=>zc o<|zc (Ac p h)<|zp (fun d=>six f e g a ?_)<|fun d=>six f e g a ?_)<|fun c=>zc o<|zc (Ac p h)<|zp (fun d=>six f e g a ?_)<|fun d=>six f e g a ?_
  ·rw[wd c,wd d]at nx;exact nx
  ·rw[wd c,wc<|by rw[show decide (0<=Cf (l.getD i []) M)=false from d];decide]at nx;exact nx
  ·rw[wc (by rw[c];decide),wd d]at nx;exact nx
  ·rw[wc (by rw[c];decide),wc<|by rw[show decide (0<=Cf (l.getD i []) M)=false from d];decide]at nx;exact nx
theorem start(h0:l≠[])(m:l.length<=12)(j:∀s∈l,Bk s=true)(k:Bk b=true){M A:Rd}(e:Gx M=true)(p:Ends Gb (L3 l b M A (l.countP (fun s=>decide (Cf s M<=0)):Nat) (l.countP (fun s=>decide (0<=Cf s M)):Nat) l.reverse<|Ey l b) Q):Ends Gb (L1 l b M A 0 0 (l.length:Int) 0) Q:=by
 have n0:0<l.length:=zt.2 h0;have nx:=loop m j k e p (l.length-1) 1 ae;have r:(Ey l b).length=l.length:=zn ..;have u:l.reverse.length=l.length:=zq;rw[Lb (i:=0) n0,Lb (i:=0) n0]at nx;have q:(Ey l b).take 1=[C8 (l.getD 0 []) b]:=by
  rw[zg ae,ze,zf n0];unfold Ey;rw[List.getElem_map];rfl
 have o:l.reverse.take 1=[l.getD (l.length-1) []]:=by
  rw[zg ae,List.getElem_reverse,ze,zf ae];rfl
 rw[q,o]at nx;have f:(decide ((0:Int)<=0)&&decide ((0:Int)<(l.length:Int)))=true:=Ac rfl (w4 ae);have g:Bk (l.getD 0 [])=true:=by
  rw[ze,zf n0];exact j _<|yk n0
 have n:zd .i64 (zd .i64 ((l.length:Int)-1)-0)=((l.length-1:Nat):Int):=by
  rw[wr ((l.length:Int)-1) ae ae,wr _ ae ae];omega
 have two:∀v9 a:Int,Ends Gb (L4 l b M A v9 a 1 1 (l.length:Int) 1 [C8 (l.getD 0 []) b] [l.getD (l.length-1) []]) Q->Ends Gb (L2 l b M A v9 a 0 (l.length:Int) 0) Q:=fun v9 a h=>by
  refine zk (AL ..) ?_;conv=>zeta
  rw[n,zj];exact zc (ad ae ae)<|zc rfl (zc f<|zc (Ac g k)<|zc rfl h)
 refine zk (Al ..) ?_;conv=>zeta
 refine zc (w4 ae)<|zc f<|zc (Ac g e)<|zp (fun c=>zc f<|zc (Ac g e)<|zp (fun d=>two _ _ ?_)<|fun d=>two _ _ ?_)<|fun c=>zc f<|zc (Ac g e)<|zp (fun d=>two _ _ ?_)<|fun d=>two _ _ ?_
 ·rw[wd<|show decide (Cf (l.getD 0 []) M<=0)=true from c,wd<|show decide (0<=Cf (l.getD 0 []) M)=true from d]at nx;exact nx
 ·rw[wd<|show decide (Cf (l.getD 0 []) M<=0)=true from c,wc<|by rw[show decide (0<=Cf (l.getD 0 []) M)=false from d];decide]at nx;exact nx
 ·rw[wc (by rw[show decide (Cf (l.getD 0 []) M<=0)=false from c];decide),wd<|show decide (0<=Cf (l.getD 0 []) M)=true from d]at nx;exact nx
 ·rw[wc (by rw[show decide (Cf (l.getD 0 []) M<=0)=false from c];decide),wc<|by rw[show decide (0<=Cf (l.getD 0 []) M)=false from d];decide]at nx;exact nx
theorem three(h0:l≠[])(i:l.length<=12)(f:Ih 6 l)(g:yp 6 b (Au b))(j:∀ob,Q (.dat .bool true) ob):Ends Gb (L3 l b (DD l) (U7 l) (l.countP (fun s=>decide (Cf s (DD l)<=0)):Nat) (l.countP (fun s=>decide (0<=Cf s (DD l))):Nat) l.reverse<|Ey l b) Q:=by
 have fr:Ih 6 l.reverse:=fun s a=>f s<|List.mem_reverse.1 a
 have k:l.reverse≠[]:=fun e=>h0<|yj.1 e
 have n:l.reverse.length=l.length:=zq;have d:=Zu f g;have h:Ey l b≠[]:=fun e=>h0<|List.map_eq_nil_iff.1 e
 have m:(Ey l b).length=l.length:=zn ..;have t2:=(KS k ae af af fr).2;have t3:=(KS h ae af af d).2;have t5:=(UO h ae ae af d).2;obtain⟨a1,a2,a3⟩:=Afk;obtain⟨b1,b2,b3⟩:=Afc;refine zk (BT ..) (zc (Lp ae af af fr) (zc (Lp ae af af d) (zc (Qc ae af ae af d)<|zc rfl (zc rfl (zc rfl (zc rfl (zc rfl (zc rfl (zc rfl (zc rfl (z6 ?_<|zc ?_<|z6 ?_ ?_)))))))))))
 ·rw[t2,t3,t5,a2,b2];rfl
 ·rw[z8,z8,List.all_nil,w4 (yb (a1.len af) af),w4<|yb (b1.len af) af];rfl
 ·rw[Ij (l:=[_,_])<|fun s a=>?_]
  ·rfl
  ·rcases List.mem_cons.1 a with rfl|a
   ·exact a1.check af
   ·rw[ye.1 a];exact b1.check af
 ·exact fin h0 i f g _ _ _ a1 (by rw[b3,a3]) j
theorem jU:CL Gb:=Aa Ve<|Aa T12.ok<|Aa T13.ok<|Aa T8.ok<|Aa T7.ok<|Aa T14.ok<|Aa T15.ok<|Aa T16.ok<|Aa T17.ok AI
theorem ok:Af A5 4 YY:=by
 refine BG jU<|fun(i:List Rd×Rd) _=>?_;obtain⟨l,b⟩:=i;have g:∀ob,Ad YY (l,b) (.dat .bool true) ob:=fun ob=>yn rfl rfl rfl
 refine yc (Ak l b)<|zc rfl (z6 rfl (zp (fun _=>zc rfl (zl<|g _))<|fun l0=>zc rfl (zp (fun _=>zc rfl (zl<|g _))<|fun f=>zc rfl (zp (fun _=>zc rfl (zl<|g _))<|fun d=>?_))));have h0:l≠[]:=by rintro rfl;exact wh l0 af
 have f:Lf l 12 6=true:=by
  have f:(!Lf l 12 6)=false:=f;simpa using f
 have d:Eb b 6=true:=by
  have d:(!Eb b 6)=false:=d;simpa using d
 obtain⟨h,a⟩:=rJ (n:=12) (k:=6) f;have j:=(qD (n:=6) d).1;have o:=KS h0 ae af af a;have p:=UO h0 ae ae af a;have n1:yp 14 (DD l) (J7 l):=by rw[o.1];exact Vi (Mo h0 af af a)
 have m:yp 100 (U7 l) (VP l):=by rw[p.1];exact Vi ((UR h0 ae a).mono ae)
 refine zc (Lp ae af af a) (zc (Qc ae af ae af a)<|z6 ?_<|zc ?_<|z6 ?_ ?_)
 ·rw[o.2,p.2];rfl
 ·rw[z8,z8,List.all_nil,w4 (yb (n1.len af) af),w4<|yb (m.len af) af];rfl
 ·rw[Ij (l:=[_,_])<|fun s e=>?_]
  ·rfl
  ·rcases List.mem_cons.1 e with rfl|e
   ·exact n1.check af
   ·rw[ye.1 e];exact m.check af
 ·exact start h0 h (fun s e=>(a s e).num af) (j.num af) (n1.Gx af)<|three h0 h a j g
end T4
abbrev QZ:Am:=YY
end Go.Pe
