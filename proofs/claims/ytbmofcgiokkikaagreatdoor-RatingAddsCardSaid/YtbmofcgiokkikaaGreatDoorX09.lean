import Derived.Test.YtbmofcgiokkikaaGreatDoorX08
import Derived.Lib.Mul64
import Derived.Lib.ItoaMem
/- A part of a proof; no law is stated here. -/
noncomputable section
open Go.IntKind renaming wrap -> zc, u64 -> zd, u8 -> yq, wrap_i64 -> qg
open Go.Sp renaming vI -> ze, Dz -> z7, u64 -> z8, val -> yx, sg -> y7, first -> qp, Bd -> qq
open Go.Pe.Ends renaming tt -> zf, leaf -> zj, ite -> zk, eq -> yo, Ah -> qi, ff -> qj
open Int renaming mul_le_mul_of_nonneg_right -> zh, fdiv -> zm, eq_ofNat_of_zero_le -> zn, toNat_natCast -> zo, mul_nonneg -> zp, mul_assoc -> zu, add_mul -> zz, lt_or_le -> yb, mul_comm -> yc, fdiv_eq_ediv_of_nonneg -> yd, mul_le_mul_of_nonneg_left -> yf, one_mul -> yg, lt_of_le_of_lt -> yh, le_of_lt -> yi, natCast_pow -> yj, mul_add -> yk, tdiv -> ym, natCast_mul -> yn, natCast_add -> yw, tdiv_eq_ediv_of_nonneg -> y9, tmod -> qh, zero_add -> ql, ediv_nonneg -> qn, pow_succ -> qt
open UInt8 renaming toNat -> zi
open Bool renaming and_eq_true -> zl, false_eq_true -> y8
open Go.Pe.PV renaming agg -> zq
open Go.Pe.Sh renaming int -> zr, str -> zt, bool -> z6, list -> yr
open List renaming replicate -> zy, take_of_length_le -> yp, length -> yu, map -> yv, append_assoc -> qc, cons_append -> qf
open BitVec renaming ofInt -> ya, ofInt_natCast -> yt, toNat_ofNat -> yy
open Go.Pe.Ac renaming of -> ye
open Go.Lib renaming half_mul_le -> yz
open Nat renaming sub -> qd, mod_eq_of_lt -> qe, two_pow_pos -> qm, pow_add -> qo
open Min renaming min -> qk
namespace Go.Pe
open Sp
open Go.Det
theorem NC(n:Int):zc .u64 n=n % 18446744073709551616:=by simp[zc,IntKind.bits,IntKind.signed]
theorem jD(n:Nat):zm (n:Int) ((2:Int)^(32:Nat))=((n/4294967296:Nat):Int):=by
 rw[yd _ af];rfl
theorem vF(n:Nat)(h:n<18446744073709551616):zc .u64 (n:Int)=n:=wu _ ae ae
theorem RW(n:Nat)(h:n<18446744073709551616):IW .u64 (n:Int) 4294967295=((n % 4294967296:Nat):Int):=by
 have e:(ya 64 (n:Int)&&&ya 64 4294967295).toNat=n % 4294967296:=by
  rw[BitVec.toNat_and];have b:(ya 64 (n:Int)).toNat=n:=by rw[yt,yy];exact qe h
  have a:(ya 64 4294967295).toNat=2^32-1:=af
  rw[b,a,Nat.and_two_pow_sub_one_eq_mod]
 show zc .u64 (((ya 64 (n:Int)&&&ya 64 4294967295).toNat:Nat):Int)=_;rw[e];exact vF _ ae
namespace T178
theorem ok:Ae A1 178 Wv:=by
 refine C3 Ks<|fun(i:Int×Int) h=>?_;obtain⟨x,y⟩:=i;have h:(z8 x&&z8 y)=true:=h;rw[zl]at h;have f:=qq h.1;have g:=qq h.2;obtain⟨x,rfl⟩:=zn f.1;obtain⟨y,rfl⟩:=zn g.1;have f:x<18446744073709551616:=ae
 have g:y<18446744073709551616:=ae
 obtain⟨q,j,m,k⟩:=Go.Lib.mul64_hi x y f g;have p:=yz (a:=x/4294967296) (b:=y/4294967296) ae ae;have o:=yz (a:=x/4294967296) (b:=y % 4294967296) ae ae;have n:=yz (a:=x % 4294967296) (b:=y/4294967296) ae ae;refine yo (Ai (x:Int) (y:Int))<|zf rfl (zf rfl (zf rfl (zf rfl (zf rfl (zj<|ye rfl rfl ?_)))));refine Prod.ext ?_ ?_
 ·show zc zd (zc zd (zc zd (zm (x:Int) ((2:Int)^(32:Nat))*zm (y:Int) ((2:Int)^(32:Nat)))+zm (zc zd<|zc zd (zm (x:Int) ((2:Int)^(32:Nat))*IW zd (y:Int) (4294967295:Int))+zm (zc zd<|IW zd (x:Int) (4294967295:Int)*IW zd (y:Int) (4294967295:Int)) ((2:Int)^(32:Nat))) ((2:Int)^(32:Nat)))+zm (zc zd<|IW zd (zc zd<|zc zd (zm (x:Int) ((2:Int)^(32:Nat))*IW zd (y:Int) (4294967295:Int))+zm (zc zd<|IW zd (x:Int) (4294967295:Int)*IW zd (y:Int) (4294967295:Int)) ((2:Int)^(32:Nat))) (4294967295:Int)+zc zd (IW zd (x:Int) (4294967295:Int)*zm (y:Int) ((2:Int)^(32:Nat)))) ((2:Int)^(32:Nat)))=Tj x y;have l:Tj x y=((x*y/18446744073709551616:Nat):Int):=by unfold Tj;omega
  rw[l, <-k];have e:x*y/18446744073709551616<18446744073709551616:=Nat.div_lt_of_lt_mul<|Nat.mul_lt_mul'' f g;rw[<-k]at e;simp only[jD,RW x f,RW y g];simp only[<-yn];generalize (x/4294967296)*(y/4294967296)=a at*;generalize (x/4294967296)*(y % 4294967296)=b at*;generalize (x % 4294967296)*(y/4294967296)=c at*;generalize (x % 4294967296)*(y % 4294967296)=d at*;rw[vF d ae,vF a ae,vF b ae,vF c ae,jD, <-yw,vF _ j,jD,RW _ j, <-yw, <-yw,vF _ m,jD,vF (a+_) ae, <-yw,vF _ e]
 ·show zc .u64 ((x:Int)*y)=Jq x y;unfold Jq;exact NC _
end T178
theorem qB{x y o c:Int}(d:z8 x=true)(e:z8 y=true)(f:z8 o=true)(g:z8 c=true):
  z8 (Jq x y)=true/\z8 (Jj (Jq x y) o 0)=true/\z8 (Jj (Jj (Jq x y) o 0) c 0)=true/\
  zc .u64 (zc .u64 (Tj x y+Rj (Jq x y) o 0)+Rj (Jj (Jq x y) o 0) c 0)=(x*y+o+c)/18446744073709551616/\
  z8 ((x*y+o+c)/18446744073709551616)=true/\
  Jj (Jj (Jq x y) o 0) c 0+18446744073709551616*((x*y+o+c)/18446744073709551616)=x*y+o+c:=by
 have d:=qq d;have e:=qq e;have f:=qq f;have g:=qq g;have h0:0<=x*y:=zp d.1 e.1;have h:x*y<=18446744073709551615*18446744073709551615:=by
  have a:=yf (show y<=18446744073709551615 by omega) d.1;have b:=zh (show x<=18446744073709551615 by omega) (show(0:Int)<=18446744073709551615 by omega);omega
 unfold Jq Tj Jj Rj;generalize x*y=P at*;refine⟨C9 ae ae,C9 ae ae,C9 ae ae,?_,C9 ae ae,by omega⟩;rw[NC,NC];omega
namespace T180
variable {Q:PV->Ob->Prop}
theorem Bc(x y:List Int)(n i:Nat)(K:i<x.length)(D:n=x.length+y.length)(l:x.length<=9000)(m:y.length<=9000)(v:AD Av x)(u:AD Av y)(p:List Int)(hp:p.length=i+y.length)(b:AD Av p)
  (s:∀q c,q.length=i+y.length->AD Av q->z8 c=true->yx Av q+(Av:Int)^(i+y.length)*c=yx Av p+(Av:Int)^i*(x.getD i 0*yx Av y)->Ends MF (L1 y n x x.length ((i+1:Nat):Int)<|(q++[c])++zy (n-(i+y.length+1)) 0) Q):∀(k j:Nat) (q:List Int) (c:Int),j+k=y.length->q.length=i+j->AD Av q->z8 c=true->yx Av q+(Av:Int)^(i+j)*c=yx Av (p.take<|i+j)+(Av:Int)^i*(x.getD i 0*yx Av (y.take j))->
  Ends MF (L2 y n i (x.getD i 0) c x x.length i y y.length j<|q++(p.drop (i+j)++zy (n-(i+y.length)) 0)) Q
 |0,j,q,c,h,a,g,d,w=>by
  have h:j=y.length:=ae
  subst h;have e:zc .i64 ((i:Int)+(y.length:Int))=((i+y.length:Nat):Int):=by rw[wr _ ae ae];omega
  have f:zc .i64 ((i:Int)+1)=((i+1:Nat):Int):=by rw[wr _ ae ae];omega
  have M:p.drop (i+y.length)=[]:=List.drop_eq_nil_of_le ae;refine qi (AA ..) (qj (by simp) ?_);rw[e,f,zo,M,List.nil_append,Kw q n _ c a ae];refine zf (by simp;omega) (zf (by simp;omega)<|s q c a g d ?_);rw[w,yp ae,List.take_length]
 |k+1,j,q,c,h,a,g,d,w=>by
  have t:=A3 v i;have A:=A3 u j;have o:=A3 b<|i+j;have r:p.drop (i+j)=p.getD (i+j) 0::p.drop (i+j+1):=by
   rw[List.getD_eq_getElem?_getD,List.getElem?_eq_getElem ae];exact List.drop_eq_getElem_cons ae
  have e:zc .i64 ((i:Int)+(j:Int))=((i+j:Nat):Int):=by rw[wr _ ae ae];omega
  have f:zc .i64 ((j:Int)+1)=((j+1:Nat):Int):=by rw[wr _ ae ae];omega
  have lo:(q++(p.drop (i+j)++zy (n-(i+y.length)) (0:Int))).length=n:=by simp;omega
  have B:(q++(p.drop (i+j)++zy (n-(i+y.length)) (0:Int))).getD (i+j) 0=p.getD (i+j) 0:=by
   rw[r,qf];exact GN _ _ _ _ a
  have s1:∀z,(q++(p.drop (i+j)++zy (n-(i+y.length)) (0:Int))).set (i+j) z=(q++[z])++(p.drop (i+(j+1))++zy (n-(i+y.length)) 0):=by
   intro z;rw[r,qf,E7 _ _ _ _ a,qc];rfl
  obtain⟨E,F,L,G,J,I⟩:=qB t A o d;refine qi (AA ..) (zf (by simp;omega) ?_);rw[e,f,zo,zo,B,s1,G];have t1:(decide ((0:Int)<=((i+j:Nat):Int))&&decide (((i+j:Nat):Int)<(n:Int)))=true:=by simp;omega
  refine zf (by simp;omega) (zf (by rw[t,A];rfl)<|zf t1<|zf (w4<|by rw[lo];omega) (zf (by rw[E,o];rfl)<|zf (by rw[F,d];rfl)<|zf t1<|zf (w4<|by rw[lo];omega) ?_));refine Bc x y n i K D l m v u p hp b s k (j+1) _ _ ae (by simp;omega) (EF g L) J ?_;have H:i+(j+1)=(i+j)+1:=ae
  have C:(Av:Int)^i*(x.getD i 0*((Av:Int)^j*y.getD j 0))=(Av:Int)^(i+j)*(x.getD i 0*y.getD j 0):=by
   rw[Int.pow_add,zu,Int.mul_left_comm<|x.getD i 0]
  rw[H,Gb,a,Ny,Int.add_assoc, <-yk,I,AN _ p<|i+j,AN _ y j,yk,yk,yk<|x.getD i 0,yk,C];omega
theorem As(x y:List Int)(n:Nat)(h:n=x.length+y.length)(a:x.length<=9000)(b:y.length<=9000)(l:AD Av x)(o:AD Av y)(m:∀ob,Q (.dat DQ<|BI<|Ay x*Ay y) ob):∀(k i:Nat) (p:List Int),i+k=x.length->p.length=i+y.length->AD Av p->yx Av p=yx Av (x.take i)*yx Av y->
  Ends MF (L1 y n x x.length i<|p++zy (n-(i+y.length)) 0) Q
 |0,i,p,j,hp,d,e=>by
  have j:i=x.length:=ae
  subst j;have t:p++zy (n-(x.length+y.length)) (0:Int)=p:=by rw[h,Nat.sub_self];simp
  have g:Ay p=Ay x*Ay y:=by
   rw[List.take_length]at e;exact e
  rw[t];refine qi (Al ..) (qj (by simp) ?_);rw[yp ae];refine zf ?_<|zj ?_
  ·rw[E0 ae d];simp;omega
  ·rw[Nl d,g];exact m _
 |k+1,i,p,j,hp,d,e=>by
  refine qi (Al ..) (zf (by simp;omega) ?_);rw[zo];refine zf (by simp;omega) ?_;have h0:yx Av (p.take<|i+y.length)=yx Av p:=by rw[yp ae]
  have:=Bc (Q:=Q) x y n i ae h a b l o p hp d (fun q c r f s g=>by
   have:=As x y n h a b l o m k (i+1) (q++[c]) ae (by simp;omega) (EF f s) (by
    rw[Gb,r,g,e,AN,zz,zu])
   rw[show i+1+y.length=i+y.length+1 by omega]at this;exact this) y.length 0 (p.take i) 0 ae (by simp;omega) (AW d i) rfl (by simp[yx])
  rw[Nat.add_zero, <-qc,List.take_append_drop]at this;exact this
theorem ok(a:∀g sp,MF.sp g=some sp->Ae A1 g sp):Ae A1 180 uQ:=by
 refine AX (X:=MF) rfl a (d:=9) ag ag ag (fun(i:List Int×List Int) b=>?_) (Ak ag);obtain⟨x,y⟩:=i;have b:(Sp.hW x&&Sp.hW y)=true:=b;rw[zl]at b;obtain⟨x1,x2⟩:=dQ b.1;obtain⟨y1,y2⟩:=dQ b.2;have e:∀ob,Ac uQ (x,y) (.dat DQ<|BI<|Ay x*Ay y) ob:=fun ob=>ye rfl rfl rfl
 have c:zc .i64 ((x.length:Int)+(y.length:Int))=((x.length+y.length:Nat):Int):=by rw[wr _ ae ae];omega
 refine yo (Ai x y) ?_;conv=>zeta
 rw[c,zo];refine zf (by simp;omega) ?_;have:=As x y (x.length+y.length) rfl x1 y1 x2 y2 e x.length 0 (zy y.length 0) ae (by simp) (fun d f=>by
  obtain⟨_,rfl⟩:=List.mem_replicate.1 f;exact⟨by decide,by decide⟩) (by rw[Oq];simp[yx])
 rw[Nat.zero_add,List.replicate_append_replicate,show y.length+(x.length+y.length-y.length)=x.length+y.length by omega]at this;exact this
end T180
theorem Gx:Cr MF:=
 Aa T179.ok (Aa T216.ok<|Aa T218.ok<|Aa T217.ok<|Aa T178.ok AI)
theorem UR:Cr XI2:=
 Aa (T173.ok Gx) (Aa (T174.ok Gx)<|Aa (T175.ok Gx)<|Aa (T177.ok Gx)<|Aa T176.ok<|Aa (T180.ok Gx)<|Aa T178.ok<|Aa T179.ok AI)
end Go.Pe
namespace Go.Sp
def Bk(a:AL):Bool:=Dz a&&decide (a.2.length<=9000)
def XI(a b:AL):Int:=Cd (vI a)<|vI b
def Jh(a:AL):Int:=Pm<|vI a
end Go.Sp
namespace Go.Pe
open Sp
open Go.Det
def Yh:Am:=⟨[A4],fun a=>z7 a,[A4],fun a=>(Fh a,Fi a),false⟩
def Ad9:Am:=⟨[A4],fun a=>z7 a,[A4],fun a=>(YG a,XR a),false⟩
def LH:Am:=⟨[A4],fun a=>z7 a,[i64],fun a=>Jh a,false⟩
def SH:Am:=⟨[A4,A4],fun i=>Bk i.1&&Bk i.2,[A4],fun i=>(LA i.1 i.2,Lh i.1 i.2),false⟩
def uJ:Am:=⟨[A4,A4],fun i=>Bk i.1&&Bk i.2,[A4],fun i=>(cU i.1 i.2,iG i.1 i.2),false⟩
def T1:Am:=⟨[A4,A4],fun i=>Bk i.1&&Bk i.2,[A4],fun i=>(FT i.1 i.2,FV i.1 i.2),false⟩
def dZ:Am:=⟨[A4,A4],fun i=>Bk i.1&&Bk i.2,[i64],fun i=>XI i.1 i.2,false⟩
def XJ1:AG:=X7 [(162,Yh),(124,SH)]
def XJ2:AG:=X7 [(133,uJ),(134,LH)]
section
open List Int Prod
namespace T162
def T(a:AL):Tr:=tree XI2 false 9 162<|Af ([A4]) a
theorem Ai(a:AL):T a=let b:=BI<|Aj<|ze a;let b':=y7 (!decide (ze a<0))<|Ay b;let c:Tr:=.ck (z7 a)<|.ck (CF b)<|.leaf (zq [.dat i64<|De b',.dat wU<|Dd b']) [];.ite (!decide (0<length (snd a))) (.ite (fst a !=(-9223372036854775808)) (.leaf (zq [.dat i64<|zc .i64<|0-fst a,.nil]) []) c) c:=by kernel_rfl
end T162
namespace T124
def T(a b:AL):Tr:=tree XI2 false 9 124<|Af ([A4,A4]) (a,b)
theorem Ai(a b:AL):T a b=let b':=BI<|Aj<|ze a;let c:=BI<|Aj<|ze b;let f:=BI<|Ay b'+Ay c;let h':=BI<|Ay b'-Ay c;let e:=BI<|Ay c-Ay b';let i:=y7 (decide (ze a<0))<|Ay f;let h:=y7 (decide (ze a<0))<|Ay h';let g:=y7 (decide (ze b<0))<|Ay e;let d:Tr:=.ck (z7 a)<|.ck (z7 b)<|.ite (decide (ze a<0)==decide (ze b<0)) (.ck (Sp.hW b'&&Sp.hW c)<|.ck (CF f)<|.leaf (zq [.dat i64<|De i,.dat wU<|Dd i]) [])<|.ck (CF b'&&CF c)<|.di (Cd (Ay b') (Ay c)>=0) (.ck (Dg b'&&Dg c&&decide (Ay c<=Ay b'))<|.ck (CF h')<|.leaf (zq [.dat i64<|De h,.dat wU<|Dd h]) [])<|.ck (Dg c&&Dg b'&&decide (Ay b'<=Ay c))<|.ck (CF e)<|.leaf (zq [.dat i64<|De g,.dat wU<|Dd g]) [];.ite (!decide (0<length (snd a))) (.ite (!decide (0<length (snd b))) (.ite (decide (zc .i64 (fst a+fst b)>fst a)==decide (fst b>0)) (.leaf (zq [.dat i64<|zc .i64<|fst a+fst b,.nil]) []) d) d) d:=by kernel_rfl
end T124
namespace T125
def T(a b:AL):Tr:=tree XI2 false 9 125<|Af ([A4,A4]) (a,b)
theorem Ai(a b:AL):T a b=let c:=Aj<|fst a;let d:=Aj<|fst b;let g:=BI<|Aj<|ze a;let f:=BI<|Aj<|ze b;let b':=BI<|Ay g*Ay f;let h:=y7 (!decide (ze a<0)==decide (ze b<0))<|Ay b';let e:Tr:=.ck (z7 a)<|.ck (z7 b)<|.ck (Sp.hW g&&Sp.hW f)<|.ck (CF b')<|.leaf (zq [.dat i64<|De h,.dat wU<|Dd h]) [];.ite (!decide (0<length (snd a))) (.ite (!decide (0<length (snd b))) (.ck (Cn<|fst a)<|.ck (Cn<|fst b)<|.ck (z8 c&&z8 d)<|.ite (Tj c d==0) (.di (Jq c d<=9223372036854775807) (.ite (!decide (fst a<0)==decide (fst b<0)) (.leaf (zq [.dat i64<|zc .i64<|0-zc .i64 (Jq c d),.nil]) [])<|.leaf (zq [.dat i64<|zc .i64<|Jq c d,.nil]) []) e) e) e) e:=by kernel_rfl
end T125
namespace T215
def T(a:AL):Tr:=tree XJ1 false 9 215<|Af ([A4]) a
theorem Ai(a:AL):T a=.di (fst a<0) (.ck (z7 a)<|.leaf (zq [.dat i64<|Fh a,.dat wU<|Fi a]) []) (.leaf (zq [.dat i64<|fst a,.dat wU<|snd a]) []):=by kernel_rfl
end T215
namespace T134
def T(a:AL):Tr:=tree uH false 9 134<|Af ([A4]) a
theorem Ai(a:AL):T a=.leaf (.dat i64<|imax (-1)<|F5 1<|fst a) []:=by kernel_rfl
end T134
namespace T133
def T(a b:AL):Tr:=tree XJ1 false 9 133<|Af ([A4,A4]) (a,b)
theorem Ai(a b:AL):T a b=.ck (z7 b) (.ck (Bk a&&Bk (Fh b,Fi b))<|.leaf (zq [.dat i64<|LA a (Fh b,Fi b),.dat wU<|Lh a (Fh b,Fi b)]) []):=by kernel_rfl
end T133
namespace T67
def T(a b:AL):Tr:=tree XJ2 false 9 67<|Af ([A4,A4]) (a,b)
theorem Ai(a b:AL):T a b=let c:Tr:=.ck (Bk a&&Bk b)<|.ck (z7 (cU a b,iG a b))<|.leaf (.dat i64<|Jh (cU a b,iG a b)) [];.ite (!decide (0<length (snd a))) (.ite (!decide (0<length (snd b))) (.di (fst a<fst b) (.leaf (.dat i64 (-1:Int)) [])<|.di (fst a>fst b) (.leaf (.dat i64 (1:Int)) [])<|.leaf (.dat i64 (0:Int)) []) c) c:=by kernel_rfl
end T67
end
theorem UB(k:Nat):((Av^k:Nat):Int)=(Av:Int)^k:=yj ..
theorem OP{n:Int}{k:Nat}(h0:0<=n)(h:n<(Av:Int)^k):(BI n).length<=k:=by
 refine PQ Av af k n.toNat n.toNat ?_;rw[<-UB]at h;generalize Av^k=P at*;omega
theorem Dy{n:Int}{k:Nat}(h0:0<=n)(h:n<(Av:Int)^k)(c:k<=20000):CF (BI n)=true/\Dg (BI n)=true/\Ay (BI n)=n:=by
 have d:=OP h0 h;have a:Dg (BI n)=true:=E0 ae (Gz af n);have b:Sp.nzW (BI n)=true:=by
  unfold Sp.nzW;exact w4 (cQ af n)
 exact⟨by unfold CF;rw[a,b];rfl,a,Du af h0⟩
theorem Cg{a:AL}(h:Bk a=true):z7 a=true/\a.2.length<=9000:=by
 unfold Bk at h;rw[zl,w5]at h;exact h
theorem Y1{s:Int}{w:List Int}(a:w≠[]):ze (s,w)=if s<0 then -Ay w else Ay w:=by unfold ze;exact wc a
theorem R1{a:AL}(h:z7 a=true):(a.2=[]/\Aj (ze a)<=9223372036854775808)\/(BI (Aj<|ze a)=a.2):=by
 obtain⟨hr,b⟩:=Es h;obtain⟨s,w⟩:=a;have hr: -9223372036854775808<=s/\s<9223372036854775808:=hr;rcases b with b|⟨j,e,c⟩
 ·have b:w=[]:=b;subst b;refine .inl ⟨rfl,?_⟩;rw[Gf];simp only[An];omega
 ·obtain⟨n1,i,f⟩:=FO (l:=w) j;have e:s=1\/s= -1:=e;have c:9223372036854775808<=Ay w:=c;have d:w≠[]:=by rintro rfl;exact wh c af
  refine .inr ?_;have g:Aj (ze (s,w))=Ay w:=by rw[Y1 d];simp only[An];split<;>omega
  rw[g];exact(JO af i f).symm
theorem AS(n:Int):0<=Aj n:=by simp only[An];omega
theorem J7{a:AL}(h:z7 a=true){k:Nat}(c:a.2.length<=k)(g:1<=k):Aj (ze a)<(Av:Int)^k:=by
 rcases R1 h with⟨_,e⟩|he
 ·have:=AY (b:=Av) af g;rw[Int.pow_one]at this;have d:(9223372036854775808:Int)<(Av:Int):=af
  exact yh e<|Int.lt_of_lt_of_le d this
 ·have f:=Du (b:=Av) af<|AS<|ze a;have:=BD (b:=Av) af (Gz (b:=Av) af<|Aj<|ze a);rw[f,show Sp.dg Av (Aj<|ze a)=a.2 from he]at this;exact Int.lt_of_lt_of_le this (AY af c)
theorem NX{x y:Int}(d:0<=x)(g:x<(Av:Int)^9000)(h:y<(Av:Int)^9000):x+y<(Av:Int)^9001/\x*y<(Av:Int)^18000:=by
 have e:(Av:Int)^9001=(Av:Int)^9000*Av:=qt ..;have f:(Av:Int)^18000=(Av:Int)^9000*(Av:Int)^9000:=Int.pow_add _ 9000 9000;rw[e,f];generalize (Av:Int)^9000=P at*;refine⟨?_,?_⟩
 ·show x+y<P*18446744073709551616;omega
 ·have a:=yf (show y<=P-1 by omega) d;have b:=zh (show x<=P-1 by omega) (show 0<=P-1 by omega);have c:(P-1)*(P-1)=P*P-P-P+1:=by
   rw[Int.sub_mul,Int.mul_sub];omega
  omega
theorem D5(n:Bool)(v:Int):y7 n v=if n=true then -v else v:=rfl
theorem Dr(n:Int):ze (DB n)=n:=by
 unfold DB;split
 ·exact Gf
 ·have c:=Du (b:=Av) af<|AS n;have a:BI (Aj n)≠[]:=by
   intro h;rw[show Sp.dg Av (Aj n)=[]from h]at c;have:(0:Int)=Aj n:=c;simp only[An]at this;omega
  rw[Y1 a,show Ay (BI<|Aj n)=Aj n from c];simp only[An];split<;>split<;>omega
theorem eA{a:AL}{c:Bool}(h:(!decide (0<a.2.length))=c):(c=true->a.2=[])/\(c=false->a.2≠[]):=by
 subst h;rcases a with⟨s,w⟩
 cases w<;>simp
theorem RG{a:AL}(h:(!decide (0<a.2.length))=true):a.2=[]:=(eA h).1 rfl
theorem vK{a:AL}(h:(!decide (0<a.2.length))=false):a.2≠[]:=(eA h).2 rfl
theorem BZ{a:AL}(h:a.2=[]):ze a=a.1:=by unfold ze;exact wd h
theorem words{a:AL}(h:Bk a=true):z7 a=true/\Sp.hW (BI<|Aj<|ze a)=true/\CF (BI<|Aj<|ze a)=true/\Dg (BI<|Aj<|ze a)=true/\Ay (BI<|Aj<|ze a)=Aj (ze a)/\Aj (ze a)<(Av:Int)^9000:=by
 obtain⟨c,e⟩:=Cg h;have b:=J7 c e ae;obtain⟨n,d,v⟩:=Dy (AS _) b ae;have f:=OP (AS _) b;refine⟨c,?_,n,d,v,b⟩;unfold Sp.hW;rw[d,Bool.true_and];exact w4 f
theorem Ab{a b:Bool}(c:a=true)(d:b=true):(a&&b)=true:=by rw[c,d];rfl
theorem wn{i:Nat}(h:i<9223372036854775807):zc .i64 ((i:Int)+1)=((i+1:Nat):Int):=by rw[wr _ ae ae];omega
theorem ad{p q:Prop}[Decidable p][Decidable q](a:p)(b:q):(decide p&&decide q)=true:=Ab (w4 a)<|w4 b
theorem nb{i n:Nat}(h:i<n):(decide ((0:Int)<=(i:Int))&&decide ((i:Int)<(n:Int)))=true:=ad ae ae
theorem MZ(n:Int):Sp.Pm n=if n<0 then -1 else if n>0 then 1 else 0:=rfl
theorem Agf{a:AL}(h:z7 a=true):imax (-1) (F5 1 a.1)=Sp.Pm (ze a):=by
 obtain⟨hr,b⟩:=Es h;obtain⟨s,w⟩:=a;rcases b with b|⟨g,f,c⟩
 ·have b:w=[]:=b;subst b;rw[Gf,MZ,xA];show imax (-1) (if (1:Int)<=s then 1 else s)=_;unfold imax;split<;>split<;>split<;>(try split)<;>omega
 ·have f:s=1\/s= -1:=f;have c:9223372036854775808<=Ay w:=c;have d:w≠[]:=by rintro rfl;exact wh c af
  rw[Y1 d,MZ];rcases f with rfl|rfl
  ·have e:(if (1:Int)<0 then -Ay w else Ay w)=Ay w:=wc af;rw[e,wc (show ¬Ay w<0 by omega),wd<|show Ay w>0 by omega];show imax (-1) (F5 1 1)=1;decide
  ·have e:(if (-1:Int)<0 then -Ay w else Ay w)= -Ay w:=wd af;rw[e,wd<|show -Ay w<0 by omega];show imax (-1) (F5 1<| -1)= -1;decide
namespace T162
theorem ok:Ae A1 162 Yh:=by
 refine C3 UR<|fun(a:Int×List Int) b=>?_;have b:z7 a=true:=b;have f:CF (BI<|Aj<|ze a)=true/\Ay (BI<|Aj<|ze a)=Aj (ze a):=by
  refine⟨?_,Du af<|AS _⟩;rcases R1 b with⟨_,i⟩|he
  ·have:(9223372036854775808:Int)<(Av:Int)^1:=af
   exact(Dy (AS _) (yh i this) ae).1
  ·obtain⟨_,e⟩:=Es b;rw[he];rcases e with e|⟨j,_⟩
   ·rw[e];decide+kernel
   ·exact j
 have g:y7 (!decide (ze a<0)) (Ay<|BI<|Aj<|ze a)= -ze a:=by
  rw[f.2,D5,An];rcases yb (ze a) 0 with h|h
  ·rw[w4 h];simp;omega
  ·rw[w8 ae];simp;omega
 have hr:=(Es b).1;refine yo (Ai a)<|zk (fun c=>zk (fun d=>zj<|ye rfl rfl ?_)<|fun d=>zf b<|zf f.1<|zj<|ye rfl rfl ?_)<|fun c=>zf b<|zf f.1<|zj<|ye rfl rfl ?_
 ·have c:=RG c;have d:a.1≠ -9223372036854775808:=by simpa using d
  show(zc .i64<|0-a.1,[])=DH a;unfold DH;rw[wd ⟨c,d⟩,wr _ ae ae,Int.zero_sub]
 ·have d:a.1= -9223372036854775808:=by simpa using d
  show DB (y7 (!decide (ze a<0))<|Ay<|BI<|Aj<|ze a)=DH a;unfold DH;rw[wc<|fun h=>h.2 d,g]
 ·have c:=vK c;show DB (y7 (!decide (ze a<0))<|Ay<|BI<|Aj<|ze a)=DH a;unfold DH;rw[wc<|fun h=>c h.1,g]
end T162
namespace T124
theorem ok:Ae A1 124 SH:=by
 refine C3 UR<|fun(i:(Int×List Int)×(Int×List Int)) o=>?_;obtain⟨a,b⟩:=i;have o:(Bk a&&Bk b)=true:=o;rw[zl]at o;obtain⟨a1,a2,a3,a4,a5,a6⟩:=words o.1;obtain⟨b1,b2,b3,b4,b5,b6⟩:=words o.2;have x:=(Es a1).1;have w:=(Es b1).1;have A:=AS<|ze a;have nb:=AS<|ze b;obtain⟨t1,_⟩:=NX A a6 b6;have s:∀v ob,Fc a b=DB v->Ac SH (a,b) (.agg [.dat i64<|De v,.dat (.nlist<|.int .u64)<|Dd v]) ob:=fun v ob h=>ye rfl rfl (by
  show DB v=Fc a b;rw[h])
 have mono:(Av:Int)^9000<=(Av:Int)^9001:=AY af ae;have j:decide (ze a<0)=decide (ze b<0)->y7 (decide (ze a<0)) (Ay<|BI<|Ay (BI<|Aj<|ze a)+Ay (BI<|Aj<|ze b))=ze a+ze b:=by
  intro e;rw[a5,b5,show Ay (BI<|Aj (ze a)+Aj (ze b))=_ from Du af ae,D5,An,An];rcases yb (ze a) 0 with h|h
  ·rw[w4 h]at e ⊢;have:=w6 e.symm;simp only[wk];omega
  ·rw[w8 ae]at e ⊢;have:=w7 e.symm;simp only[y8,vf];omega
 have l:decide (ze a<0)≠decide (ze b<0)->Aj (ze b)<=Aj (ze a)->y7 (decide (ze a<0)) (Ay<|BI<|Ay (BI<|Aj<|ze a)-Ay (BI<|Aj<|ze b))=ze a+ze b:=by
  intro e q;rw[a5,b5,show Ay (BI<|Aj (ze a)-Aj (ze b))=_ from Du af ae,D5,An,An];rcases yb (ze a) 0 with h|h
  ·rw[w4 h]at e ⊢;have:¬ze b<0:=fun h=>e (w4 h).symm
   simp only[wk];omega
  ·rw[w8 ae]at e ⊢;have:ze b<0:=by
    rcases yb (ze b) 0 with h|h
    ·exact h
    ·exact wh (w8 ae).symm e
   simp only[y8,vf];omega
 have k:decide (ze a<0)≠decide (ze b<0)->Aj (ze a)<=Aj (ze b)->y7 (decide (ze b<0)) (Ay<|BI<|Ay (BI<|Aj<|ze b)-Ay (BI<|Aj<|ze a))=ze a+ze b:=by
  intro e q;rw[a5,b5,show Ay (BI<|Aj (ze b)-Aj (ze a))=_ from Du af ae,D5,An,An];rcases yb (ze b) 0 with h|h
  ·rw[w4 h]at e ⊢;have:¬ze a<0:=fun h=>e<|w4 h
   simp only[wk];omega
  ·rw[w8<|show ¬ze b<0 by omega]at e ⊢;have:ze a<0:=by
    rcases yb (ze a) 0 with h|h
    ·exact h
    ·exact wh (w8 ae) e
   simp only[y8,vf];omega
 have n1:CF (BI<|Ay (BI<|Aj<|ze a)+Ay (BI<|Aj<|ze b))=true:=by
  rw[a5,b5];exact(Dy ae t1 ae).1
 have y:Aj (ze b)<=Aj (ze a)->CF (BI<|Ay (BI<|Aj<|ze a)-Ay (BI<|Aj<|ze b))=true:=by
  intro h;rw[a5,b5];exact(Dy ae (yh ae a6) ae).1
 have z:Aj (ze a)<=Aj (ze b)->CF (BI<|Ay (BI<|Aj<|ze b)-Ay (BI<|Aj<|ze a))=true:=by
  intro h;rw[a5,b5];exact(Dy ae (yh ae b6) ae).1
 have f:∀ {c:Bool},decide (Cd (Ay<|BI<|Aj<|ze a) (Ay<|BI<|Aj<|ze b)>=0)=c->(c=true->Aj (ze b)<=Aj (ze a))/\(c=false->Aj (ze a)<=Aj (ze b)):=by
  intro c h;subst h;rw[a5,b5,w5,w9];unfold Cd;constructor
  ·intro h;split at h<;>omega
  ·intro h;split at h
   ·omega
   ·split at h<;>omega
 refine yo (Ai a b)<|zk (fun n=>zk (fun m=>zk (fun g=>zj<|ye rfl rfl ?_)<|fun g=>?_)<|fun m=>?_)<|fun n=>?_
 ·have n:=RG n;have m:=RG m;have p:zc .i64 (a.1+b.1)=a.1+b.1:=by
   rw[wj]at g;rcases yb (a.1+b.1) (-9223372036854775808)with h|h
   ·exfalso;have e:zc .i64 (a.1+b.1)=a.1+b.1+18446744073709551616:=by rw[qg];omega
    rw[e,w4 ae,w8 ae]at g;cases g
   ·rcases yb (a.1+b.1) 9223372036854775808 with r|r
    ·exact wr _ ae ae
    ·exfalso;have e:zc .i64 (a.1+b.1)=a.1+b.1-18446744073709551616:=by rw[qg];omega
     rw[e,w8 ae,w4 ae]at g;cases g
  have hr:Cn (a.1+b.1)=true:=by
   have: -9223372036854775808<=zc .i64 (a.1+b.1)/\zc .i64 (a.1+b.1)<9223372036854775808:=by rw[qg];omega
   rw[p]at this;unfold Cn;rw[zl,w5,w5];exact this
  show(zc .i64<|a.1+b.1,[])=Fc a b;unfold Fc;rw[wd ⟨n,m,hr⟩,p]
 all_goals
  have t:Fc a b=DB (ze a+ze b):=by
   unfold Fc;refine wc<|fun h=>?_;obtain⟨B,r,u⟩:=h;first
    |exact vK n B
    |exact vK m r
    |(have u:=Hq u
      have p:zc .i64 (a.1+b.1)=a.1+b.1:=wr _ ae ae;rw[p,vc]at g;refine g ?_;rcases yb 0 b.1 with h|h
      ·rw[w4 (show a.1+b.1>a.1 by omega),w4 h]
      ·rw[w8 (show ¬a.1+b.1>a.1 by omega),w8<|show ¬b.1>0 by omega])
  refine zf a1<|zf b1<|zk (fun e=>zf (Ab a2 b2)<|zf n1<|zj<|s _ _ ?_)<|fun e=>zf (Ab a3 b3)<|zk (fun d=>zf ?_<|zf (y<|(f d).1 rfl)<|zj<|s _ _ ?_)<|fun d=>zf ?_<|zf (z<|(f d).2 rfl)<|zj<|s _ _ ?_
  ·rw[t];exact wi _ (j<|by simpa using e).symm
  ·refine Ab (Ab a4 b4)<|w4 ?_;rw[a5,b5];exact(f d).1 rfl
  ·rw[t];exact wi _ (l (by simpa using e)<|(f d).1 rfl).symm
  ·refine Ab (Ab b4 a4)<|w4 ?_;rw[a5,b5];exact(f d).2 rfl
  ·rw[t];exact wi _ (k (by simpa using e)<|(f d).2 rfl).symm
end T124
theorem FL{n:Int}(a: -9223372036854775808<=n)(b:n<9223372036854775808):Cn n=true:=by
 unfold Cn;rw[zl,w5,w5];exact⟨a,b⟩
theorem MV{n:Int}(h:Cn n=true):z7 (n,[])=true:=by
 unfold z7;rw[h];rfl
theorem PN{n:Int}{k:Nat}(h:Aj n<(Av:Int)^k)(a:k<=20000):z7 (DB n)=true/\(DB n).2.length<=k:=by
 unfold DB;split
 ·next c=>exact⟨MV (FL ae ae),Nat.zero_le _⟩
 ·next c=>
  obtain⟨n1,e,b⟩:=Dy (AS n) h a;refine⟨?_,OP (AS n) h⟩;have d:9223372036854775808<=Aj n:=by rw[An];omega
  unfold z7;refine Ab (FL ?_ ?_) ?_
  ·show -9223372036854775808<=(if n<0 then -1 else 1);split<;>decide
  ·show(if n<0 then -1 else 1)<9223372036854775808;split<;>decide
  ·rw[Bool.or_eq_true];refine .inr (Ab (Ab n1 ?_) (w4<|by show _<=Ay (BI<|Aj n);rw[b];exact d));show(decide ((if n<0 then(-1:Int)else 1)=1)||decide ((if n<0 then(-1:Int)else 1)= -1))=true;split<;>rfl
theorem JT(a:AL):ze (DH a)= -ze a:=by
 unfold DH;split
 ·next h=>rw[Gf,BZ h.1]
 ·exact Dr _
theorem J9(n:Int):Aj (-n)=Aj n:=by rw[An,An];omega
theorem Y4{a:AL}(h:z7 a=true){k:Nat}(d:1<=k)(b:k<=20000)(e:a.2.length<=k):z7 (DH a)=true/\(DH a).2.length<=k:=by
 have hr:=(Es h).1;unfold DH;split
 ·next c=>exact⟨MV (FL ae ae),Nat.zero_le _⟩
 ·exact PN (by rw[J9];exact J7 h e d) b
theorem YE{a:AL}(h:Bk a=true):Bk (DH a)=true:=by
 obtain⟨b,c⟩:=Cg h;obtain⟨h3,h4⟩:=Y4 b (k:=9000) ae ae c;unfold Bk;exact Ab h3<|w4 h4
theorem AcV{a:AL}(h:z7 a=true):a.1<0↔ze a<0:=by
 obtain⟨_,b⟩:=Es h;obtain⟨s,w⟩:=a;rcases b with b|⟨_,e,c⟩
 ·have b:w=[]:=b;subst b;rw[Gf]
 ·have e:s=1\/s= -1:=e;have c:9223372036854775808<=Ay w:=c;have d:w≠[]:=by rintro rfl;exact wh c af
  rw[Y1 d];show s<0↔_;split<;>omega
theorem ZA(a b:AL):ze (Fc a b)=ze a+ze b:=by
 unfold Fc;split
 ·next h=>rw[Gf,BZ h.1,BZ h.2.1]
 ·exact Dr _
theorem AcB(x y:Int):Aj (x+y)<=Aj x+Aj y:=by
 rw[An,An,An];omega
theorem KT(x y:Int):Aj (x*y)=Aj x*Aj y:=by
 rw[An,An,An,Int.natAbs_mul,yn]
theorem bounds{a:AL}(h:Bk a=true):Aj (ze a)<(Av:Int)^9000:=(words h).2.2.2.2.2
theorem Wg{a b:AL}(d:Bk a=true)(c:Bk b=true):z7 (Fc a b)=true:=by
 unfold Fc;split
 ·next h=>exact MV h.2.2
 ·exact(PN (yh (AcB _ _) (NX (AS _) (bounds d)<|bounds c).1) ae).1
theorem oQ(a b:AL):ze (PG a b)=ze a-ze b:=by
 unfold PG;rw[ZA,JT];omega
theorem D9(a b:AL):ze (Gk a b)=ze a*ze b:=Dr _
theorem gV:Cr XJ1:=
 Aa T162.ok (Aa T124.ok AI)
namespace T134
theorem ok:Ae A1 134 LH:=by
 refine C3 Ks<|fun(a:Int×List Int) b=>?_;have b:z7 a=true:=b;exact yo (Ai a)<|zj<|ye rfl rfl (Agf b)
end T134
namespace T215
theorem ok:Ae A1 215 Ad9:=by
 refine C3 gV<|fun(a:Int×List Int) b=>?_;have b:z7 a=true:=b;refine yo (Ai a)<|zk (fun c=>zf b<|zj<|ye rfl rfl ?_)<|fun c=>zj<|ye rfl rfl ?_
 ·show DH a=WI a;unfold WI;rw[wd<|w6 c]
 ·show a=WI a;unfold WI;rw[wc<|w7 c]
end T215
namespace T133
theorem ok:Ae A1 133 uJ:=by
 refine C3 gV<|fun(i:(Int×List Int)×(Int×List Int)) c=>?_;obtain⟨a,b⟩:=i;have c:(Bk a&&Bk b)=true:=c;rw[zl]at c;exact yo (Ai a b)<|zf (Cg c.2).1<|zf (Ab c.1<|YE c.2)<|zj<|ye rfl rfl rfl
end T133
theorem Aaq:Cr XJ2:=
 Aa T133.ok (Aa T134.ok AI)
theorem Aau(x y:Int):Sp.Pm (x-y)=Cd x y:=by
 unfold Sp.Pm Cd;split
 ·rw[wd ae]
 ·split
  ·rw[wc ae,wd ae]
  ·rw[wc ae,wc ae]
namespace T67
theorem ok:Ae A1 67 dZ:=by
 refine C3 Aaq<|fun(i:(Int×List Int)×(Int×List Int)) f=>?_;obtain⟨a,b⟩:=i;have f:(Bk a&&Bk b)=true:=f;have c:=f;rw[zl]at c;have k:z7 (PG a b)=true:=by
  unfold PG;exact Wg c.1<|YE c.2
 have h:Jh (PG a b)=XI a b:=by
  show Sp.Pm (ze<|PG a b)=Cd (ze a) (ze b);rw[oQ,Aau]
 refine yo (Ai a b)<|zk (fun j=>zk (fun g=>zk (fun d=>zj<|ye rfl rfl ?_)<|fun d=>zk (fun e=>zj<|ye rfl rfl ?_)<|fun e=>zj<|ye rfl rfl ?_)<|fun g=>zf f<|zf k<|zj<|ye rfl rfl h)<|fun j=>zf f<|zf k<|zj<|ye rfl rfl h;all_goals
  have l:=BZ<|RG j;have m:=BZ<|RG g;show _=Cd (ze a) (ze b);rw[l,m];unfold Cd
 ·rw[wd<|w6 d]
 ·rw[wc<|w7 d,wd<|w6 e]
 ·rw[wc<|w7 d,wc<|w7 e]
end T67
theorem Wl(x y:Int):x*y=y7 (!(decide (x<0)==decide (y<0))) (Aj x*Aj y):=by
 unfold Aj;rw[D5];by_cases a:x<0<;>by_cases b:y<0<;>simp[a,b,Int.neg_mul,Int.mul_neg]
namespace T125
theorem ok:Ae A1 125 T1:=by
 refine C3 UR<|fun(i:(Int×List Int)×(Int×List Int)) g=>?_;obtain⟨a,b⟩:=i;have g:(Bk a&&Bk b)=true:=g;rw[zl]at g;obtain⟨a1,a2,a3,a4,a5,a6⟩:=words g.1;obtain⟨b1,b2,b3,b4,b5,b6⟩:=words g.2;have e:=(Es a1).1;have d:=(Es b1).1;have o:=AS<|ze a;have nb:=AS<|ze b;obtain⟨_,t2⟩:=NX o a6 b6;have np:0<=Aj (ze a)*Aj (ze b):=zp o nb;have n1:CF (BI<|Ay (BI<|Aj<|ze a)*Ay (BI<|Aj<|ze b))=true:=by
  rw[a5,b5];exact(Dy np t2 ae).1
 have p:y7 (!(decide (ze a<0)==decide (ze b<0))) (Ay<|BI<|Ay (BI<|Aj<|ze a)*Ay (BI<|Aj<|ze b))=ze a*ze b:=by
  rw[a5,b5,show Ay (BI<|Aj (ze a)*Aj (ze b))=_ from Du af np, <-Wl]
 have r:∀ob,Ac T1 (a,b) (.agg [.dat i64<|De<|y7 (!(decide (ze a<0)==decide (ze b<0)))<|Ay<|BI<|Ay (BI<|Aj<|ze a)*Ay (BI<|Aj<|ze b),.dat (.nlist<|.int .u64)<|Dd<|y7 (!(decide (ze a<0)==decide (ze b<0)))<|Ay<|BI<|Ay (BI<|Aj<|ze a)*Ay (BI<|Aj<|ze b)]) ob:=fun ob=>ye rfl rfl (by
  show DB _=DB (ze a*ze b);rw[p])
 have q:z8 (Aj a.1)=true:=C9 (AS _) (by rw[An];omega);have ub:z8 (Aj b.1)=true:=C9 (AS _) (by rw[An];omega);refine yo (Ai a b)<|zk (fun l=>zk (fun k=>zf (FL e.1 e.2)<|zf (FL d.1 d.2)<|zf (Ab q ub)<|zk (fun h=>zk (fun f=>zk (fun c=>zj<|ye rfl rfl ?_)<|fun c=>zj<|ye rfl rfl ?_)<|fun f=>?_)<|fun h=>?_)<|fun k=>?_)<|fun l=>?_
 ·have m:=BZ<|RG l;have n:=BZ<|RG k;have h:(Aj a.1*Aj b.1)/18446744073709551616=0:=by simpa [Tj]using h
  have f:(Aj a.1*Aj b.1) % 18446744073709551616<=9223372036854775807:=w6 f;have p0:0<=Aj a.1*Aj b.1:=zp (AS _)<|AS _;have j:=Wl a.1 b.1;have c:(!(decide (a.1<0)==decide (b.1<0)))=true:=c;rw[c,D5,wd rfl]at j;show(zc .i64<|0-zc .i64 ((Aj a.1*Aj b.1) % 18446744073709551616),[])=DB (ze a*ze b);rw[m,n,j,CT ae,wr ((Aj a.1*Aj b.1) % 18446744073709551616) ae ae,wr _ ae ae];congr 1;omega
 ·have m:=BZ<|RG l;have n:=BZ<|RG k;have h:(Aj a.1*Aj b.1)/18446744073709551616=0:=by simpa [Tj]using h
  have f:(Aj a.1*Aj b.1) % 18446744073709551616<=9223372036854775807:=w6 f;have p0:0<=Aj a.1*Aj b.1:=zp (AS _)<|AS _;have j:=Wl a.1 b.1;have c:(!(decide (a.1<0)==decide (b.1<0)))=false:=c;rw[c,D5,wc af]at j;show(zc .i64<|(Aj a.1*Aj b.1) % 18446744073709551616,[])=DB (ze a*ze b);rw[m,n,j,CT ae,wr ((Aj a.1*Aj b.1) % 18446744073709551616) ae ae];congr 1;omega
 all_goals exact zf a1<|zf b1<|zf (Ab a2 b2)<|zf n1<|zj<|r _
end T125
end Go.Pe
namespace Go.Sp
def F9(n:Int):Int:=if n<=0 then 0 else(n.toNat.log2:Int)+1
def lz(n:Int):Int:=64-F9 n
def dq(h l y:Int):Int:=(h*18446744073709551616+l)/y
def dr(h l y:Int):Int:=(h*18446744073709551616+l) % y
end Go.Sp
namespace Go.Pe
open Go.Det
def ZW:Am:=⟨[u64],fun n=>z8 n,[i64],fun n=>Sp.F9 n,false⟩
def cLZ:Am:=⟨[u64],fun n=>z8 n,[i64],fun n=>Sp.lz n,false⟩
def Uu:Am:=⟨[u64,u64,u64],fun i=>z8 i.1&&z8 i.2.1&&z8 i.2.2&&decide ((i.1:Int)<i.2.2),[u64,u64],fun i=>(Sp.dq i.1 i.2.1 i.2.2,Sp.dr i.1 i.2.1 i.2.2),false⟩
def XD1:AG:=X7 [(229,ZW)]
def yV:AG:=X7 [(240,cLZ)]
section
open List Int Prod
namespace T229
def T(x:Int):Tr:=tree uH false 9 229<|Af ([zr zd]) x
theorem Ai(x:Int):T x=let b:=([0,1,2,2,3,3,3,3,4,4,4,4,4,4,4,4,5,5,5,5,5,5,5,5,5,5,5,5,5,5,5,5,6,6,6,6,6,6,6,6,6,6,6,6,6,6,6,6,6,6,6,6,6,6,6,6,6,6,6,6,6,6,6,6,7,7,7,7,7,7,7,7,7,7,7,7,7,7,7,7,7,7,7,7,7,7,7,7,7,7,7,7,7,7,7,7,7,7,7,7,7,7,7,7,7,7,7,7,7,7,7,7,7,7,7,7,7,7,7,7,7,7,7,7,7,7,7,7,8,8,8,8,8,8,8,8,8,8,8,8,8,8,8,8,8,8,8,8,8,8,8,8,8,8,8,8,8,8,8,8,8,8,8,8,8,8,8,8,8,8,8,8,8,8,8,8,8,8,8,8,8,8,8,8,8,8,8,8,8,8,8,8,8,8,8,8,8,8,8,8,8,8,8,8,8,8,8,8,8,8,8,8,8,8,8,8,8,8,8,8,8,8,8,8,8,8,8,8,8,8,8,8,8,8,8,8,8,8,8,8,8,8,8,8,8,8,8,8,8,8,8,8,8,8,8,8]:Z);let b':=zm x<|2^32;let a:=(0:Sh.T (zr yq));let d:=zm x<|2^16;let e:=zm x<|2^8;let c:=zm b'<|2^16;let f:=zm b'<|2^8;let h':=zm d<|2^8;let g:=zm c<|2^8;.di (x>=4294967296) (.ck true<|.di (zm x (2^32)>=65536) (.ck true<|.di (zm b' (2^16)>=256) (.ck true<|.ck (decide (a<=zc .u8 g)&&decide (zc .u8 g<(↑256:Int)))<|.leaf (.dat i64<|zc .i64<|zc .i64 (zc .i64 (32+16)+8)+zc .i64 (↑(zi<|getD b (toNat<|zc .u8 g) (0:UInt8)):Int)) [])<|.ck (decide (a<=zc .u8 c)&&decide (zc .u8 c<(↑256:Int)))<|.leaf (.dat i64<|zc .i64<|zc .i64 (32+16)+zc .i64 (↑(zi<|getD b (toNat<|zc .u8 c) (0:UInt8)):Int)) [])<|.di (zm x (2^32)>=256) (.ck true<|.ck (decide (a<=zc .u8 f)&&decide (zc .u8 f<(↑256:Int)))<|.leaf (.dat i64<|zc .i64<|zc .i64 (32+8)+zc .i64 (↑(zi<|getD b (toNat<|zc .u8 f) (0:UInt8)):Int)) [])<|.ck (decide (a<=zc .u8 b')&&decide (zc .u8 b'<(↑256:Int)))<|.leaf (.dat i64<|zc .i64<|32+zc .i64 (↑(zi<|getD b (toNat<|zc .u8 b') (0:UInt8)):Int)) []) (.di (x>=65536) (.ck true<|.di (zm x (2^16)>=256) (.ck true<|.ck (decide (a<=zc .u8 h')&&decide (zc .u8 h'<(↑256:Int)))<|.leaf (.dat i64<|zc .i64<|zc .i64 (zc .i64 (0+16)+8)+zc .i64 (↑(zi<|getD b (toNat<|zc .u8 h') (0:UInt8)):Int)) [])<|.ck (decide (a<=zc .u8 d)&&decide (zc .u8 d<(↑256:Int)))<|.leaf (.dat i64<|zc .i64<|zc .i64 (0+16)+zc .i64 (↑(zi<|getD b (toNat<|zc .u8 d) (0:UInt8)):Int)) [])<|.di (x>=256) (.ck true<|.ck (decide (a<=zc .u8 e)&&decide (zc .u8 e<(↑256:Int)))<|.leaf (.dat i64<|zc .i64<|zc .i64 (0+8)+zc .i64 (↑(zi<|getD b (toNat<|zc .u8 e) (0:UInt8)):Int)) [])<|.ck (decide (a<=zc .u8 x)&&decide (zc .u8 x<(↑256:Int)))<|.leaf (.dat i64<|zc .i64<|0+zc .i64 (↑(zi<|getD b (toNat<|zc .u8 x) (0:UInt8)):Int)) []):=by kernel_rfl
end T229
namespace T240
def T(x:Int):Tr:=tree XD1 false 9 240<|Af ([zr zd]) x
theorem Ai(x:Int):T x=.ck (z8 x) (.leaf (.dat i64<|zc .i64<|64-Sp.F9 x) []):=by kernel_rfl
end T240
namespace T239
def T(a lo y:Int):Tr:=tree yV false 9 239<|Af ([zr zd,zr zd,zr zd]) (a,lo,y)
def L1(v2 g v9 e b c a f d:Int):Tr:=re ((T 0 0 0).R.R.R.L.L.L.L.L.L.L.L)<|Ap 135 [(2,.dat (zr zd) v2),(8,.dat (zr zd) g),(9,.dat (zr zd) v9),(10,.dat (zr zd) e),(11,.dat (zr zd) b),(13,.dat (zr zd) c),(14,.dat (zr zd) a),(15,.dat (zr zd) f),(16,.dat (zr zd) d)] [] 0
theorem Ai(b lo y:Int):T b lo y=let d:=decide (0<=zc .u64 (Sp.lz y));let e:=64-zc .u64 (Sp.lz y);let f:=zc .u64<|Sp.lz y;let c:=toNat f;let i:=zm lo<|2^qk (toNat<|zc .u64 e) 64;let a:=zc .u64<|y*2^qk c 64;let h:=zc .u64<|lo*2^qk c 64;let g:=zc .u64<|b*2^qk c 64;let b':=kN zd g i;let h':=zm a<|2^32;.ite (y==0) .fail (.di (y<=b) .fail<|.ite (b==0) (.cd (y≠0)<|.cd (y≠0)<|.leaf (.tup [.dat (zr zd)<|zc .u64<|ym lo y,.dat (zr zd)<|qh lo y]) [])<|.ck (z8 y)<|.ck d<|.ck true<|.ck d<|.cd (0<=zc .u64 e)<|.ck d<|.ck true<|.cd (zm a (2^32)≠0)<|L1 a f h' (IW zd a 4294967295) b' (zm h<|2^32) (IW zd h 4294967295) (zc .u64<|ym b' h')<|zc .u64<|kN zd g i-zc .u64 (zc .u64 (ym b' h')*zm a (2^32))):=by kernel_rfl
def L2(v2 g v9 d a e c b f:Int):Tr:=re ((stepT yV<|L1 0 0 0 0 0 0 0 0 0).L.L.L)<|Ap 135 [(2,.dat (zr zd) v2),(8,.dat (zr zd) g),(9,.dat (zr zd) v9),(10,.dat (zr zd) d),(14,.dat (zr zd) a),(15,.dat (zr zd) e),(16,.dat (zr zd) c),(17,.dat (zr zd) b),(18,.dat (zr zd) f)] [] 0
theorem Al(v2 g v9 b f d c a e:Int):stepT yV (L1 v2 g v9 b f d c a e)=let m:=zc .u64 (f*4294967296)+d;let k:=zc .u64<|a-1;let b':=zc .u64 m-zc .u64 (zc .u64 (a-1)*v2);let j:=zc .u64 m-zc .u64 (a*v2);let i:=zc .u64 j;let h:=zc .u64 b';let l:Tr:=.di (zc .u64 (e+v9)>=4294967296) (.cd (v9≠0)<|L2 v2 g v9 b c k (zc .u64<|zc .u64 b'-zc .u64 (zc .u64 (ym h v9)*v9)) h<|zc .u64<|ym h v9)<|L1 v2 g v9 b f d c k<|zc .u64<|e+v9;.di (a>=4294967296) l (.di (zc .u64 (a*b)>zc .u64 (zc .u64 (4294967296*e)+d)) l<|.cd (v9≠0)<|L2 v2 g v9 b c a (zc .u64<|zc .u64 j-zc .u64 (zc .u64 (ym i v9)*v9)) i<|zc .u64<|ym i v9):=by kernel_rfl
theorem AA(v2 g v9 f b d c e a:Int):stepT yV (L2 v2 g v9 f b d c e a)=let b':=zr zd;let h:=zc .u64 (e*4294967296)+b;let i:=2^qk (toNat g) 64;let j:Tr:=.di (zc .u64 (c+v9)>=4294967296) (.cd (0<=g)<|.leaf (.tup [.dat b'<|zc .u64<|zc .u64 (d*4294967296)+zc .u64 (a-1),.dat b'<|zm (zc .u64<|zc .u64 h-zc .u64 (zc .u64 (a-1)*v2)) i]) [])<|L2 v2 g v9 f b d (zc .u64<|c+v9) e<|zc .u64<|a-1;.di (a>=4294967296) j (.di (zc .u64 (a*f)>zc .u64 (zc .u64 (4294967296*c)+b)) j<|.cd (0<=g)<|.leaf (.tup [.dat b'<|zc .u64<|zc .u64 (d*4294967296)+a,.dat b'<|zm (zc .u64<|zc .u64 h-zc .u64 (a*v2)) i]) []):=by kernel_rfl
end T239
end
namespace T239
variable {Q:PV->Ob->Prop}
def Exact(Y u w q:Int):Prop:=q*Y<=u*4294967296+w/\u*4294967296+w<(q+1)*Y
theorem fI{Y a b u w q r:Int}(c:Y=a*4294967296+b)(d:q*a+r=u)(h:q*b>4294967296*r+w):u*4294967296+w<q*Y:=by
 subst c;rw[yk, <-zu];generalize q*a=A at*;generalize q*b=C at*;omega
theorem Mr{Y a b u w q r:Int}(c:Y=a*4294967296+b)(d:q*a+r=u)(h:q*b<=4294967296*r+w):q*Y<=u*4294967296+w:=by
 subst c;rw[yk, <-zu];generalize q*a=A at*;generalize q*b=C at*;omega
theorem WL{Y u w q:Int}(d:u<Y)(b:0<=Y)(c:w<4294967296)(a:4294967296<=q):u*4294967296+w<q*Y:=by
 have:=zh a b;omega
theorem Xo{b c u w r:Int}{n:Nat}{Y:Int}(e:Y=b*4294967296+c)(d:0<=b)(h0:0<=c/\c<4294967296)(j:u<Y)(g:0<=w)(f:(n:Int)*b+r=u)(hr:4294967296<=r):(n:Int)*Y<=u*4294967296+w:=by
 have i:(n:Int)<4294967296:=by
  rcases yb (n:Int) 4294967296 with h|h
  ·exact h
  ·have:=zh h d;omega
 refine Mr e f ?_;have a:=zh (show(n:Int)<=4294967295 by omega) h0.1;omega
theorem As(Y s f g u w z:Int)(v:Y=f*4294967296+g)(I:0<f/\f<4294967296)(h0:0<=g/\g<4294967296)(A:u<Y)(y:0<=w/\w<4294967296)
  (t:∀q:Int,0<=q->Exact Y u w q->Ends yV (L2 Y s f g z q (zc zd<|zc zd (zc zd (zc zd (u*(4294967296:Int))+w)-zc zd (q*Y))-zc zd (zc zd (ym (zc zd<|zc zd (zc zd (u*(4294967296:Int))+w)-zc zd (q*Y)) f)*f)) (zc zd<|zc zd (zc zd (u*(4294967296:Int))+w)-zc zd (q*Y))<|zc zd<|ym (zc zd<|zc zd (zc zd (u*(4294967296:Int))+w)-zc zd (q*Y)) f) Q):
  ∀(n:Nat) (r:Int),(n:Int)<18446744073709551616->(n:Int)*f+r=u->0<=r->r<4294967296->u*4294967296+w<((n:Int)+1)*Y->Ends yV (L1 Y s f g u w z n r) Q:=by
 intro n;induction n with
 |zero=>
  intro r E l G F h;have o:decide (f≠0)=true:=w4 ae;refine qi (Al ..) (qj (by simp)<|qj (w8 ?_)<|zf o<|t _ ae ⟨?_,h⟩)
  ·rw[show((0:Nat):Int)*g=0 by simp,wu 0 ae ae,wu (4294967296*r) ae ae,wu _ ae ae];omega
  ·exact Mr v l (by rw[show((0:Nat):Int)*g=0 by simp];omega)
 |succ n C=>
  intro r E l G F h;have o:decide (f≠0)=true:=w4 ae;have D:zc .u64 (((n+1:Nat):Int)-1)=(n:Int):=by rw[wu _ ae ae];omega
  have H:zc .u64 (r+f)=r+f:=wu _ ae ae;have x:0<=Y:=ae
  have p:(n:Int)*f+(r+f)=u:=by
   rw[show((n+1:Nat):Int)=(n:Int)+1 by omega,zz,yg]at l;omega
  have B:((n+1:Nat):Int)=(n:Int)+1:=ae
  have k:u*4294967296+w<((n:Int)+1)*Y->r+f<4294967296->Ends yV (L1 Y s f g u w z n<|r+f) Q:=fun i j=>
   C (r+f) ae p ae j i
  have cut:u*4294967296+w<((n:Int)+1)*Y->4294967296<=r+f->Exact Y u w n:=fun i j=>
   ⟨Xo v ae h0 A y.1 p j,i⟩
  refine qi (Al ..) ?_;conv=>zeta
  rw[D,H];refine zk (fun c=>?_)<|fun c=>zk (fun d=>?_)<|fun d=>?_
  ·have c:=w6 c;have m:u*4294967296+w<((n:Int)+1)*Y:=by rw[<-B];exact WL A x y.2 c
   exact zk (fun e=>zf o<|t _ ae<|cut m<|w6 e) (fun e=>k m (by have:=w7 e;omega))
  ·have c:=w7 c;have d:=w6 d;have a:=zh (show((n+1:Nat):Int)<=4294967295 by omega) h0.1;have b:=zp (show 0<=((n+1:Nat):Int)by omega) h0.1;rw[wu (((n+1:Nat):Int)*g) ae ae,wu (4294967296*r) ae ae,wu _ ae ae]at d;have m:u*4294967296+w<((n:Int)+1)*Y:=by rw[<-B];exact fI v l d
   exact zk (fun e=>zf o<|t _ ae<|cut m<|w6 e) (fun e=>k m (by have:=w7 e;omega))
  ·have c:=w7 c;have d:=w7 d;have a:=zh (show((n+1:Nat):Int)<=4294967295 by omega) h0.1;have b:=zp (show 0<=((n+1:Nat):Int)by omega) h0.1;rw[wu (((n+1:Nat):Int)*g) ae ae,wu (4294967296*r) ae ae,wu _ ae ae]at d;exact zf o (t _ ae ⟨Mr v l ae,h⟩)
theorem Bc(Y s f g u w p:Int)(v:Y=f*4294967296+g)(J:0<f/\f<4294967296)(h0:0<=g/\g<4294967296)(z:u<Y)(B:0<=w/\w<4294967296)(A:0<=s)
  (x:∀q:Int,0<=q->Exact Y u w q->∀ob,Q (PV.tup [PV.dat (zr zd)<|zc zd<|zc zd (p*(4294967296:Int))+q,PV.dat (zr zd)<|zm (zc zd<|zc zd (zc zd (u*(4294967296:Int))+w)-zc zd (q*Y))<|(2:Int)^qk (Int.toNat s) (64:Nat)]) ob):
  ∀(n:Nat) (r:Int),(n:Int)<18446744073709551616->(n:Int)*f+r=u->0<=r->r<4294967296->u*4294967296+w<((n:Int)+1)*Y->Ends yV (L2 Y s f g w p r u n) Q:=by
 intro n;induction n with
 |zero=>
  intro r E m I H i;have o:decide (0<=s)=true:=w4 A;refine qi (AA ..) (qj (by simp) (qj (w8 ?_)<|zf o<|zj<|x _ ae ⟨?_,i⟩ _))
  ·rw[show((0:Nat):Int)*g=0 by simp,wu 0 ae ae,wu (4294967296*r) ae ae,wu _ ae ae];omega
  ·exact Mr v m (by rw[show((0:Nat):Int)*g=0 by simp];omega)
 |succ n G=>
  intro r E m I H i;have o:decide (0<=s)=true:=w4 A;have D:zc .u64 (((n+1:Nat):Int)-1)=(n:Int):=by rw[wu _ ae ae];omega
  have F:zc .u64 (r+f)=r+f:=wu _ ae ae;have y:0<=Y:=ae
  have t:(n:Int)*f+(r+f)=u:=by
   rw[show((n+1:Nat):Int)=(n:Int)+1 by omega,zz,yg]at m;omega
  have C:((n+1:Nat):Int)=(n:Int)+1:=ae
  have k:u*4294967296+w<((n:Int)+1)*Y->r+f<4294967296->Ends yV (L2 Y s f g w p (r+f) u n) Q:=fun h j=>
   G (r+f) ae t ae j h
  have cut:u*4294967296+w<((n:Int)+1)*Y->4294967296<=r+f->Exact Y u w n:=fun h j=>
   ⟨Xo v ae h0 z B.1 t j,h⟩
  refine qi (AA ..) ?_;conv=>zeta
  rw[D,F];refine zk (fun c=>?_)<|fun c=>zk (fun d=>?_)<|fun d=>?_
  ·have c:=w6 c;have l:u*4294967296+w<((n:Int)+1)*Y:=by rw[<-C];exact WL z y B.2 c
   exact zk (fun e=>zf o<|zj<|x _ ae (cut l<|w6 e) _) (fun e=>k l (by have:=w7 e;omega))
  ·have c:=w7 c;have d:=w6 d;have a:=zh (show((n+1:Nat):Int)<=4294967295 by omega) h0.1;have b:=zp (show 0<=((n+1:Nat):Int)by omega) h0.1;rw[wu (((n+1:Nat):Int)*g) ae ae,wu (4294967296*r) ae ae,wu _ ae ae]at d;have l:u*4294967296+w<((n:Int)+1)*Y:=by rw[<-C];exact fI v m d
   exact zk (fun e=>zf o<|zj<|x _ ae (cut l<|w6 e) _) (fun e=>k l (by have:=w7 e;omega))
  ·have c:=w7 c;have d:=w7 d;have a:=zh (show((n+1:Nat):Int)<=4294967295 by omega) h0.1;have b:=zp (show 0<=((n+1:Nat):Int)by omega) h0.1;rw[wu (((n+1:Nat):Int)*g) ae ae,wu (4294967296*r) ae ae,wu _ ae ae]at d;exact zf o (zj<|x _ ae ⟨Mr v m ae,i⟩ _)
end T239
theorem WU{y:Int}(d:0<y)(j:y<18446744073709551616):∃s:Nat,Sp.lz y=(s:Int)/\s<=63/\y*2^s<18446744073709551616/\9223372036854775808<=y*2^s:=by
 obtain⟨n,rfl⟩:=zn<|yi d;have c:n≠0:=ae
 have g:n.log2<64:=(Nat.log2_lt c).2 ae;have a:=Nat.log2_self_le c;have b:=Nat.lt_log2_self (n:=n);have e:2^n.log2*2^(63-n.log2)=2^63:=by rw[<-qo];congr 1;omega
 have f:2^(n.log2+1)*2^(63-n.log2)=2^64:=by rw[<-qo];congr 1;omega
 have i:2^63<=n*2^(63-n.log2):=by rw[<-e];exact Nat.mul_le_mul_right _ a
 have h:n*2^(63-n.log2)<2^64:=by rw[<-f];exact Nat.mul_lt_mul_of_pos_right b<|qm _
 refine⟨63-n.log2,?_,by omega,?_,?_⟩
 ·unfold Sp.lz Sp.F9;rw[wc ae,zo];omega
 ·have:((n*2^(63-n.log2):Nat):Int)<18446744073709551616:=ae
  rw[yn,yj]at this;exact this
 ·have:(9223372036854775808:Int)<=((n*2^(63-n.log2):Nat):Int):=ae
  rw[yn,yj]at this;exact this
theorem fX{a b:Int}{s:Nat}(g:0<=a)(f:0<=b)(h:b<2^s)(c:a*2^s+b<18446744073709551616):kN .u64 (a*2^s) b=a*2^s+b:=by
 obtain⟨m,rfl⟩:=zn g;obtain⟨k,rfl⟩:=zn f;have i:((m:Int)*2^s)=((m*2^s:Nat):Int):=by rw[yn,yj];rfl
 have d:k<2^s:=by
  have e:((2:Int)^s)=((2^s:Nat):Int):=by rw[yj];rfl
  rw[e]at h;omega
 rw[i]at c ⊢;have e:(ya 64 ((m*2^s:Nat):Int)|||ya 64 (k:Int)).toNat=m*2^s+k:=by
  rw[BitVec.toNat_or,yt,yt,yy,yy,qe ae,qe ae,Nat.mul_comm m,Nat.two_pow_add_eq_or_of_lt d]
 show zc .u64 (((ya 64 ((m*2^s:Nat):Int)|||ya 64 (k:Int)).toNat:Nat):Int)=_;rw[e,vF _ ae];omega
namespace T239
theorem start{u c d Y w:Int}(h:Y=c*4294967296+d)(j:0<c/\c<4294967296)(h0:0<=d)(e:0<=u/\u<18446744073709551616)(k:w<4294967296):
  ∃(n:Nat) (r:Int),zc .u64 (ym u c)=(n:Int)/\zc .u64 (u-zc .u64 ((n:Int)*c))=r/\(n:Int)<18446744073709551616/\(n:Int)*c+r=u/\0<=r/\r<4294967296/\u*4294967296+w<((n:Int)+1)*Y:=by
 have q0:0<=u/c:=qn e.1 ae;have q1:u/c<=u:=Int.ediv_le_self _ e.1;have f:=Int.mul_ediv_add_emod u c;have i:=Int.emod_nonneg u (show c≠0 by omega);have l:=Int.emod_lt_of_pos u j.1;rw[yc]at f;obtain⟨n,g⟩:=zn q0;have hp:0<=(n:Int)*c:=zp ae ae;rw[g]at f;refine⟨n,u % c,?_,?_,by omega,f,i,by omega,?_⟩
 ·rw[y9 e.1,g,wu _ ae ae]
 ·rw[wu ((n:Int)*c) ae ae,wu _ ae ae];omega
 ·subst h;have a:((n:Int)+1)*(c*4294967296+d)=((n:Int)*c+c)*4294967296+((n:Int)+1)*d:=by
   rw[yk, <-zu,zz,yg]
  have b:0<=((n:Int)+1)*d:=zp ae h0;rw[a];omega
theorem Ua{u w q Y:Int}(c:Exact Y u w q)(d:Y<18446744073709551616):zc .u64 (zc .u64 (zc .u64 (u*(4294967296:Int))+w)-zc .u64 (q*Y))=u*4294967296+w-q*Y:=by
 obtain⟨a,b⟩:=c;rw[zz,yg]at b;rw[NC,NC,NC,NC];generalize q*Y=A at*;omega
theorem AbP(h:Ae A1 240 cLZ):Cr yV:=Aa h AI
set_option maxHeartbeats 1000000 in
theorem ok(hlz:Ae A1 240 cLZ):Ae A1 239 Uu:=by
 refine AX (X:=yV) rfl (AbP hlz) (d:=9) ag ag ag (fun(i:Int×Int×Int) B=>?_) (Ak ag);obtain⟨e,lo,y⟩:=i;have B:(z8 e&&z8 lo&&z8 y&&decide (e<y))=true:=B;rw[zl,zl,zl,w5]at B;obtain⟨⟨⟨E,f⟩,v⟩,h4⟩:=B;have uy:=v;have E:=qq E;have f:=qq f;have v:=qq v;have hg:∀q r ob,q=Sp.dq e lo y->r=Sp.dr e lo y->Ac Uu (e,lo,y) (PV.tup [PV.dat (zr zd) q,PV.dat (zr zd) r]) ob:=fun q r ob G K=>ye rfl rfl (Prod.ext G K)
 refine yo (Ai e lo y) (qj (by simp;omega)<|qj (w8 ae)<|zk (fun c=>?_)<|fun c=>?_)
 ·have c:e=0:=by simpa using c
  subst c;have q0:0<=lo/y:=qn f.1 ae;have q1:lo/y<=lo:=Int.ediv_le_self _ f.1;refine zf (w4 ae) (zf (w4 ae)<|zj<|hg _ _ _ ?_ ?_)
  ·unfold Sp.dq;rw[y9 f.1,wu _ ae ae,Int.zero_mul,ql]
  ·unfold Sp.dr;rw[Int.tmod_eq_emod_of_nonneg f.1,Int.zero_mul,ql]
 ·have c:e≠0:=by simpa using c
  obtain⟨s,hs,hs63,I,J⟩:=WU (y:=y) ae v.2;have es:zc .u64 (s:Int)=(s:Int):=vF s ae;have em:qk s 64=s:=ae
  have Z:zc .u64 ((64:Int)-(s:Int))=((64-s:Nat):Int):=by rw[wu _ ae ae];omega
  have N:qk (64-s) 64=64-s:=ae
  have h:(2:Int)^s*2^(64-s)=18446744073709551616:=by rw[<-Int.pow_add,show s+(64-s)=64 by omega];rfl
  have g:(0:Int)<2^s:=Int.pow_pos af;have hR:(0:Int)<2^(64-s):=Int.pow_pos af;have a0:0<=lo/2^(64-s):=qn f.1 ae;have O:=Int.mul_ediv_add_emod lo<|2^(64-s);have c0:=Int.emod_nonneg lo (show(2:Int)^(64-s)≠0 by omega);have c1:=Int.emod_lt_of_pos lo hR;have aP:lo/2^(64-s)<2^s:=Int.ediv_lt_of_lt_mul hR (by rw[h];exact f.2);have hiP:e*2^s+2^s<=y*2^s:=by
   have:=zh (show e+1<=y by omega)<|yi g;rw[zz,yg]at this;exact this
  have S:0<=e*2^s:=zp E.1<|yi g;have L:zm lo ((2:Int)^(64-s))=lo/2^(64-s):=yd _ ae;have T:kN .u64 (e*2^s) (lo/2^(64-s))=e*2^s+lo/2^(64-s):=fX E.1 a0 aP ae;have P:0<=(lo % 2^(64-s))*2^s:=zp c0<|yi g;have V:(lo % 2^(64-s))*2^s<18446744073709551616:=by
   have:=Int.mul_lt_mul_of_pos_right c1 g;rw[yc<|2^(64-s),h]at this;exact this
  have k:lo*2^s=(lo/2^(64-s))*18446744073709551616+(lo % 2^(64-s))*2^s:=by
   conv=>lhs;rw[<-O]
   rw[zz, <-h,yc (2^(64-s))<|lo/2^(64-s),zu,yc (2^(64-s))<|2^s]
  have W:zc .u64 (lo*2^s)=(lo % 2^(64-s))*2^s:=by rw[k,NC];omega
  have hN:(e*2^s+lo/2^(64-s))*18446744073709551616+(lo % 2^(64-s))*2^s=(e*18446744073709551616+lo)*2^s:=by
   rw[zz (e*18446744073709551616) lo<|2^s,k,zu e 18446744073709551616<|2^s,yc 18446744073709551616<|(2:Int)^s, <-zu];omega
  have ewy:zc .u64 (y*2^s)=y*2^s:=wu _ ae ae;have R:zc .u64 (e*2^s)=e*2^s:=wu _ S ae;have z0:decide ((0:Int)<=(s:Int))=true:=w4 ae;have fin:∀q:Int,q*(y*2^s)<=(e*18446744073709551616+lo)*2^s->(e*18446744073709551616+lo)*2^s<(q+1)*(y*2^s)->q=Sp.dq e lo y/\zm ((e*18446744073709551616+lo)*2^s-q*(y*2^s)) (2^s)=Sp.dr e lo y:=by
   intro q l x;unfold Sp.dq Sp.dr;generalize e*18446744073709551616+lo=M at*;rw[<-zu]at l x;have g1:q*y<=M:=Int.le_of_mul_le_mul_right l g;have g2:M<(q+1)*y:=Int.lt_of_mul_lt_mul_right x<|yi g;rw[zz,yg]at g2;obtain⟨u1,u2⟩:=(Int.ediv_emod_unique (a:=M) (b:=y) (r:=M-q*y) (q:=q) ae).2 ⟨by rw[yc y q];omega,by omega,by omega⟩;refine⟨u1.symm,?_⟩;rw[u2, <-zu, <-Int.sub_mul,yd _<|yi g];exact Int.mul_ediv_cancel _ ae
  obtain⟨Y,eY⟩:=zn (show 0<=y*2^s by omega);obtain⟨C,eC⟩:=zn P;have hU0:0<=e*2^s+lo/2^(64-s):=ae
  have j:e*2^s+lo/2^(64-s)<y*2^s:=ae
  rw[hs,es,Z,zo,zo,em,N,ewy,R,L,T,W];rw[eC]at hN V ⊢;rw[eY]at I J j fin ⊢;generalize hU:e*2^s+lo/2^(64-s)=U at*;generalize hM:(e*18446744073709551616+lo)*2^s=M at*;rw[jD,jD,RW Y ae,RW C ae];have o:(Y:Int)=((Y/4294967296:Nat):Int)*4294967296+((Y % 4294967296:Nat):Int):=ae
  have A:0<((Y/4294967296:Nat):Int)/\((Y/4294967296:Nat):Int)<4294967296:=ae
  have D:0<=((Y % 4294967296:Nat):Int)/\((Y % 4294967296:Nat):Int)<4294967296:=ae
  have w1:0<=((C/4294967296:Nat):Int)/\((C/4294967296:Nat):Int)<4294967296:=ae
  have w0:0<=((C % 4294967296:Nat):Int)/\((C % 4294967296:Nat):Int)<4294967296:=ae
  have hC:(C:Int)=((C/4294967296:Nat):Int)*4294967296+((C % 4294967296:Nat):Int):=ae
  generalize ((Y/4294967296:Nat):Int)=y1 at*;generalize ((Y % 4294967296:Nat):Int)=y0 at*;generalize ((C/4294967296:Nat):Int)=w at*;generalize ((C % 4294967296:Nat):Int)=z at*;refine zf uy (zf z0<|zf rfl (zf z0<|zf (w4 ae)<|zf z0<|zf rfl (zf (w4 ae) ?_)));obtain⟨n,r,G,K,n1,n2,n3,n4,n5⟩:=start (u:=U) (w:=w) o A D.1 ae w1.2;rw[G,K];refine As (Y:Int) s y1 y0 U w z o A D j w1 (fun p p0 hp=>?_) n r n1 n2 n3 n4 n5;have er:=Ua hp ae;rw[er];have hp1:=hp.1;have hp2:=hp.2;rw[zz,yg]at hp2;obtain⟨m,t,k1,k2,m1,m2,m3,m4,m5⟩:=start (u:=U*4294967296+w-p*Y) (w:=z) o A D.1 ae w0.2;rw[k1,k2];refine Bc (Y:Int) s y1 y0 _ z p o A D ae w0 ae (fun q q0 hq ob=>?_) m t m1 m2 m3 m4 m5;rw[Ua hq ae,zo,em];obtain⟨hq1,hq2⟩:=hq;have H:(p*4294967296+q)*(Y:Int)=p*Y*4294967296+q*Y:=by
   rw[zz,zu,yc 4294967296 (Y:Int), <-zu]
  have F:(p*4294967296+q+1)*(Y:Int)=p*Y*4294967296+q*Y+Y:=by
   rw[zz,H,yg]
  rw[zz,yg]at hq2;obtain⟨l,x⟩:=fin (p*4294967296+q) (by rw[H];omega) (by rw[F];omega);refine hg _ _ _ ?_ ?_
  ·have hb:Sp.dq e lo y<18446744073709551616:=by
    unfold Sp.dq;refine Int.ediv_lt_of_lt_mul ae ?_;have:=yf (show e+1<=y by omega) (show(0:Int)<=18446744073709551616 by decide);omega
   rw[<-l]at hb ⊢;rw[NC,NC];omega
  ·rw[<-x,H];congr 1;omega
end T239
open Sp
theorem pL(x k:Nat)(h:2^k<=x):x.log2=k+(x/2^k).log2:=by
 have d:=qm k;have f:x/2^k≠0:=by
  have:=Nat.div_pos h d;omega
 have e:x≠0:=ae
 refine(Nat.log2_eq_iff e).2 ⟨?_,?_⟩
 ·rw[qo];exact Nat.le_trans (Nat.mul_le_mul_left _<|Nat.log2_self_le f)<|Nat.mul_div_le x<|2^k
 ·rw[Nat.add_assoc,qo];have a:x/2^k+1<=2^((x/2^k).log2+1):=Nat.lt_log2_self;have b:=Nat.mul_le_mul_left (2^k) a;have c:=Nat.lt_mul_div_succ x d;exact Nat.lt_of_lt_of_le c b
theorem Q7(x k:Nat)(h:2^k<=x):F9 (x:Int)=(k:Int)+F9 ((x/2^k:Nat):Int):=by
 have a:=qm k;have b:=Nat.div_pos h a;have e:=pL x k h;unfold F9;rw[wc ae,wc ae,zo,zo,e];omega
theorem fdN(n k:Nat):zm (n:Int) ((2:Int)^k)=((n/2^k:Nat):Int):=by
 have:(0:Int)<2^k:=Int.pow_pos af;rw[yd _ ae,Int.natCast_ediv,yj];rfl
def AfX:Z:=[(0:UInt8),1,2,2,3,3,3,3,4,4,4,4,4,4,4,4,5,5,5,5,5,5,5,5,5,5,5,5,5,5,5,5,6,6,6,6,6,6,6,6,6,6,6,6,6,6,6,6,6,6,6,6,6,6,6,6,6,6,6,6,6,6,6,6,7,7,7,7,7,7,7,7,7,7,7,7,7,7,7,7,7,7,7,7,7,7,7,7,7,7,7,7,7,7,7,7,7,7,7,7,7,7,7,7,7,7,7,7,7,7,7,7,7,7,7,7,7,7,7,7,7,7,7,7,7,7,7,7,8,8,8,8,8,8,8,8,8,8,8,8,8,8,8,8,8,8,8,8,8,8,8,8,8,8,8,8,8,8,8,8,8,8,8,8,8,8,8,8,8,8,8,8,8,8,8,8,8,8,8,8,8,8,8,8,8,8,8,8,8,8,8,8,8,8,8,8,8,8,8,8,8,8,8,8,8,8,8,8,8,8,8,8,8,8,8,8,8,8,8,8,8,8,8,8,8,8,8,8,8,8,8,8,8,8,8,8,8,8,8,8,8,8,8,8,8,8,8,8,8,8,8,8,8,8,8,8]
theorem dM:∀m:Fin 256,((zi (AfX.getD m.val 0):Nat):Int)=F9 (m.val:Int)/\zc .u8 (m.val:Int)=(m.val:Int)/\F9 (m.val:Int)<=8/\0<=F9 (m.val:Int):=by decide+kernel
theorem OT{b:Int}(a z x:Nat)(h:b=a)(j:a<=64)(i:z<256)(g:F9 (x:Int)=(a:Int)+F9 (z:Int)):zc .i64 (b+zc .i64 ((zi (AfX.getD (Int.toNat<|zc .u8 (z:Int)) 0):Nat):Int))=F9 x:=by
 obtain⟨c,d,e,f⟩:=dM ⟨z,i⟩;have c:((zi (AfX.getD z 0):Nat):Int)=F9 (z:Int):=c;have d:zc .u8 (z:Int)=(z:Int):=d;have e:F9 (z:Int)<=8:=e;have f:0<=F9 (z:Int):=f;rw[d,zo,c,h,g,wr (F9 (z:Int)) ae ae,wr _ ae ae]
theorem u8b(z:Nat)(b:z<256):(decide ((0:Sh.T (zr yq))<=zc yq (z:Int))&&decide (zc yq (z:Int)<(↑(256:Nat):Int)))=true:=by
 obtain⟨_,a,_,_⟩:=dM ⟨z,b⟩;have a:zc .u8 (z:Int)=(z:Int):=a;rw[a];exact Ab (w4<|show(0:Int)<=(z:Int)by omega) (w4 ae)
namespace T229
set_option maxHeartbeats 1000000 in
set_option maxRecDepth 100000 in
theorem ok:Ae A1 229 ZW:=by
 refine C3 Ks<|fun(x:Int) e=>?_;have e:=qq (n:=x) e;obtain⟨x,rfl⟩:=zn e.1;refine yo (Ai (x:Int)) ?_;conv=>zeta
 conv=>zeta
 rw[fdN x 32,fdN x 16,fdN x 8,fdN (x/2^32) 16,fdN (x/2^32) 8,fdN (x/2^32/2^16) 8,fdN (x/2^16) 8];have i:=Q7 x 32;have j:=Q7 x 16;have k:=Q7 x 8;have f:=Q7 (x/2^32) 16;have g:=Q7 (x/2^32) 8;have d:=Q7 (x/2^32/2^16) 8;have h:=Q7 (x/2^16) 8;refine zk (fun c=>zf rfl (zk (fun b=>zf rfl (zk (fun a=>zf rfl (zf (u8b _ ?_)<|zj<|ye rfl rfl (OT 56 _ x (by decide+kernel) af ?_ ?_)))<|fun a=>zf (u8b _ ?_)<|zj<|ye rfl rfl (OT 48 _ x (by decide+kernel) af ?_ ?_)))<|fun b=>zk (fun a=>zf rfl (zf (u8b _ ?_)<|zj<|ye rfl rfl (OT 40 _ x (by decide+kernel) af ?_ ?_)))<|fun a=>zf (u8b _ ?_)<|zj<|ye rfl rfl (OT 32 _ x rfl af ?_ ?_))) (fun c=>zk (fun b=>zf rfl (zk (fun a=>zf rfl (zf (u8b _ ?_)<|zj<|ye rfl rfl (OT 24 _ x (by decide+kernel) af ?_ ?_)))<|fun a=>zf (u8b _ ?_)<|zj<|ye rfl rfl (OT 16 _ x (by decide+kernel) af ?_ ?_)))<|fun b=>zk (fun a=>zf rfl (zf (u8b _ ?_)<|zj<|ye rfl rfl (OT 8 _ x (by decide+kernel) af ?_ ?_)))<|fun a=>zf (u8b _ ?_)<|zj<|ye rfl rfl (OT 0 _ x rfl af ?_ ?_));all_goals
  first
   |replace c:=w6 c
   |replace c:=w7 c
  first
   |replace b:=w6 b
   |replace b:=w7 b
  first
   |replace a:=w6 a
   |replace a:=w7 a
  omega
end T229
theorem Aa4:Cr XD1:=Aa T229.ok AI
theorem UD{n:Int}(a:0<=n)(b:n<18446744073709551616):0<=Sp.F9 n/\Sp.F9 n<=64:=by
 unfold Sp.F9;split
 ·omega
 ·have:n.toNat.log2<64:=(Nat.log2_lt ae).2 ae;omega
namespace T240
theorem ok:Ae A1 240 cLZ:=by
 refine C3 Aa4<|fun(x:Int) hx=>?_;have h:=qq (n:=x) hx;have a:=UD h.1 h.2;refine yo (Ai x)<|zf hx<|zj<|ye rfl rfl ?_;show zc .i64 (64-Sp.F9 x)=Sp.lz x;unfold Sp.lz;exact wr _ ae ae
end T240
theorem oI:Ae A1 239 Uu:=T239.ok T240.ok
end Go.Pe
namespace Go.Sp
def VF(a b:List Int):Bool:=CF a&&CF b&&decide (a.length<=9000)&&decide (b.length<=9000)&&decide (0<Ay b)
end Go.Sp
namespace Go.Pe
open Sp
open Go.Det
def Ht:Am:=⟨[DQ,DQ],fun i=>VF i.1 i.2,[DQ,DQ],fun i=>(BI<|Ay i.1/Ay i.2,BI<|Ay i.1 % Ay i.2),false⟩
def Lc:AG:=X7 [(176,fZ),(217,ZD),(178,Wv),(216,bC),(218,ZU),(239,Uu),(240,cLZ)]
end Go.Pe
namespace Go.Sp
def O7(c:UInt8):Int:=(c.toNat:Int)-48
def B7(c:UInt8):Bool:=decide (48<=c.toNat)&&decide (c.toNat<=57)
def AK(n:Int):Z->Int
 |[]=>n
 |c::r=>AK (10*n+O7 c) r
def Au(s:Z):Bool:=s.all B7
theorem Dh:∀(n:Int) (a b:Z),AK n (a++b)=AK (AK n a) b
 |_,[],_=>rfl
 |n,c::a,b=>by rw[qf,AK,AK,Dh]
theorem Fv:∀(s:Z) (n:Int),AK n s=n*10^s.length+AK 0 s
 |[],n=>by simp[AK]
 |c::s,n=>by
  rw[AK,AK,Fv s<|10*n+O7 c,Fv s<|10*0+O7 c,List.length_cons,qt,zz,Int.mul_zero,ql,yc 10 n,zu,yc 10<|10^s.length,Int.add_assoc]
theorem FN{c:UInt8}(h:B7 c=true):0<=O7 c/\O7 c<=9:=by
 unfold B7 at h;rw[zl,w5,w5]at h;unfold O7;omega
theorem Br:∀ {s:Z},Au s=true->0<=AK 0 s/\AK 0 s<10^s.length
 |[],_=>by simp[AK]
 |c::s,h=>by
  unfold Au at h;rw[List.all_cons,zl]at h;have a:=FN h.1;have b:=Br (s:=s) h.2;have hp:=Bn (show(0:Int)<10 by decide) s.length;have e:=zp a.1<|yi hp;have d:=zh a.2<|yi hp;rw[AK,Fv,List.length_cons,qt,Int.mul_zero,ql,yc (10^s.length) 10];omega
theorem Bq{s:Z}(h:Au s=true)(i:Nat):Au (s.take i)=true:=by
 grind [Au]
theorem Cj{s:Z}(h:Au s=true)(i:Nat):Au (s.drop i)=true:=by
 grind [Au]
def A6(s:Z):Bool:=decide (s≠[])&&Au s&&(decide (s.getD 0 0≠48)||decide (s=[48]))
def Hb(a b:AL):AL:=if vI a<0/\Aj (vI a) % vI b≠0 then PG (DB<| -(Aj (vI a)/vI b)) (1,[])else DB<|sg (decide (vI a<0))<|Aj (vI a)/vI b
def fD(a b:AL):Int:=(Hb a b).1
def gO(a b:AL):List Int:=(Hb a b).2
def cK(a b:AL):Int:=De<|vI a % vI b
def iJ(a b:AL):List Int:=Dd<|vI a % vI b
def gI(a b:Int):Int:=if a<0 then -(-(Int.gcd a b:Int))else(Int.gcd a b:Int)
theorem HL(a b:Int):gI a b=(Int.gcd a b:Int):=by unfold gI;split<;>omega
def O2(a b:AL):Int:=De<|gI (vI a)<|vI b
def O0(a b:AL):List Int:=Dd<|gI (vI a)<|vI b
def pI(a k:Int):Int:=if k<0 then -(-(a^k.toNat))else a^k.toNat
theorem Z8(a k:Int):pI a k=a^k.toNat:=by unfold pI;split<;>omega
def Acs(a k:Int):Bool:=decide (0<=k)&&decide (k<=100000)&&decide (Aj (pI a k)<(18446744073709551616:Int)^(4000:Nat))
def Xj(a:AL)(k:Int):Int:=De<|pI (vI a) k
def X8(a:AL)(k:Int):List Int:=Dd<|pI (vI a) k
def BA(n:Int):List Int:=if n<0 then[]else[]
theorem Gy(n:Int):BA n=[]:=by unfold BA;split<;>rfl
def Bu(s:Z):Int:=if s.getD 0 0=45 then -AK 0 (s.drop 1)else AK 0 s
def DR(s:Z):Bool:=decide (s.length<=5999)&&(if s.getD 0 0=45 then Au (s.drop 1)else Au s)
def DL(s:Z):Int:=De<|Bu s
def DJ(s:Z):List Int:=Dd<|Bu s
end Go.Sp
namespace Go.Pe
open Sp
open Go.Det
def It:Am:=⟨[A4,A4],fun i=>Bk i.1&&Bk i.2&&decide (0<ze i.2),[A4,A4],fun i=>((fD i.1 i.2,gO i.1 i.2),(cK i.1 i.2,iJ i.1 i.2)),false⟩
def dV:Am:=⟨[A4,A4],fun i=>Bk i.1&&Bk i.2,[A4],fun i=>(O2 i.1 i.2,O0 i.1 i.2),false⟩
def tO:Am:=⟨[A4,i64],fun i=>Bk i.1&&Acs (ze i.1) i.2,[A4],fun i=>(Xj i.1 i.2,X8 i.1 i.2),false⟩
def Rt:Am:=⟨[.str],fun s=>DR s,[A4],fun s=>(DL s,DJ s),false⟩
def Sy:Am:=⟨[i64],fun _=>true,[A4],fun n=>(n,BA n),false⟩
def XF1:AG:=SV [(184,[9,10])] [] [(184,[(9,[3,4,5,8,12,13]),(10,[3,4,5,14,15])])] [(68,Sy),(210,Ht),(173,OI),(174,xP),(133,uJ),(124,SH),(134,LH)]
def XF0:AG:=X7 []
def XF2:AG:=X7 [(184,It),(215,Ad9),(134,LH)]
def XF3:AG:=X7 [(68,Sy),(125,T1)]
end Go.Pe
namespace Go.Sp
abbrev B9:Nat:=1000000000
def Lz(l:List Int):Bool:=decide (l.length<=20000)&&l.all fun d=>decide (0<=d)&&decide (d<1000000000)
def hR(l:List Int):Bool:=Lz l&&decide (l.length<=9000)
def Bh(l:List Int):Bool:=Lz l&&nzW l
def Ar(l:List Int):Int:=val B9 l
def B0(n:Int):List Int:=dg B9 n
def rN(n:Int):Bool:=decide (n<0)
def rW(n:Int):List Int:=B0<|Aj n
def CY(neg:Bool)(w:List Int):Bool:=neg&&decide (AE w≠[])
def Ew(s:Z):Bool:=decide (s.length<=18)&&Au s
def B5(s:Z):Int:=AK 0 s
def G0(s:Z):Bool:=rN<|Bu s
def Eu(s:Z):List Int:=rW<|Bu s
def CN(a b:List Int):List Int:=B0<|gI (Ar a)<|Ar b
end Go.Sp
namespace Go.Pe
open Sp
open Go.Det
abbrev li:Sh:=.list i64
abbrev I2:Sh:=.pair .bool li
def UM:Am:=⟨[li],fun l=>decide (yu (α:=Int) l<=20000),[li],fun l=>AE l,false⟩
def H9:Am:=⟨[.bool,li],fun i=>decide (yu (α:=Int) i.2<=20000),[I2],fun i=>(CY i.1 i.2,AE i.2),false⟩
def dH:Am:=⟨[li,li],fun i=>Bh i.1&&Bh i.2,[i64],fun i=>Cd (Ar i.1)<|Ar i.2,false⟩
def fR:Am:=⟨[li,li],fun i=>Sp.hR i.1&&Sp.hR i.2,[li],fun i=>B0<|Ar i.1*Ar i.2,false⟩
def Z1:Am:=⟨[li,i64],fun i=>Lz i.1&&decide (0<(i.2:Int))&&decide ((i.2:Int)<1000000000),[li,i64],fun i=>(B0<|Ar i.1/i.2,Ar i.1 % i.2),false⟩
def TM:Am:=⟨[li,li],fun i=>Bh i.1&&Bh i.2&&decide (yu (α:=Int) i.1<=9000)&&decide (yu (α:=Int) i.2<=9000)&&decide (0<Ar i.2),[li,li],fun i=>(B0<|Ar i.1/Ar i.2,B0<|Ar i.1 % Ar i.2),false⟩
def MO:Am:=⟨[li,li],fun i=>Bh i.1&&Bh i.2&&decide (yu (α:=Int) i.1<=9000)&&decide (yu (α:=Int) i.2<=9000),[li],fun i=>CN i.1 i.2,false⟩
def Vl:Am:=⟨[.str],fun s=>Ew s,[i64],fun s=>B5 s,false⟩
def PT:Am:=⟨[.str],fun s=>DR s,[I2],fun s=>(G0 s,Eu s),false⟩
def mT:AG:=X7 []
def bF:AG:=X7 [(190,UM)]
def NJ:AG:=X7 [(151,dH),(190,UM),(189,Z1),(153,fR)]
def XG3:AG:=X7 [(147,TM)]
def mW:AG:=X7 [(142,Vl),(149,H9)]
end Go.Pe
namespace Go.Sp
def DT:Z:=[48,49,50,51,52,53,54,55,56,57]
def AdO(o:List Bool):List Bool:=(List.range 256).map fun j=>o.getD j false
def Adu:List Bool:=zy 256 false
def QP(s:Z):Z:=((s.reverse.dropWhile B7).reverse).dropWhile B7
def Rh(s:Z)(c:Int):Int:=match s.findIdx? (fun x=>x==c.toNat.toUInt8)with
 |some i=>(i:Int)
 |none=> -1
def AO(s:Z):Z:=match s.findIdx? (fun x=>x==47)with
 |some i=>s.take i
 |none=>s
def Bb(s:Z):Z:=match s.findIdx? (fun x=>x==47)with
 |some i=>s.drop<|i+1
 |none=>[]
def B1(s:Z):Bool:=s.any<|fun x=>x==47
def A9(s:Z):Z:=if s.getD 0 0=45 then s.drop 1 else s
def preB(s:Z):Bool:=decide (s.getD 0 0=45)
def Aeb(s t:Z):Bool:=decide (t=DT)&&decide (s.length<=1000000)
def Ae8(s t:Z):Bool:=decide (t=[47])&&decide (s.length<=1000000)
def VU(s t:Z):Bool:=decide (t=[45])&&decide (s.length<=1000000)
end Go.Sp
namespace Go.Pe
open Sp
open Go.Det
def ZO:Am:=⟨[.str,.str],fun i=>Aeb i.1 i.2,[.str],fun i=>QP i.1,false⟩
def AdS:Am:=⟨[.str,.int .u8],fun i=>decide (0<=(i.2:Int))&&decide ((i.2:Int)<256),[i64],fun i=>Rh i.1 i.2,false⟩
def vX:Am:=⟨[.str,.str],fun i=>Ae8 i.1 i.2,[.str,.str,.bool],fun i=>(AO i.1,Sp.Bb i.1,B1 i.1),false⟩
def Adx:Am:=⟨[.str,.str],fun i=>VU i.1 i.2,[.str,.bool],fun i=>(A9 i.1,Sp.preB i.1),false⟩
def ZS:Am:=⟨[.str],fun s=>decide (s.length<=1000000),[.bool],fun s=>A6 s,false⟩
def Mh:AG:=X7 []
def mB:AG:=X7 [(268,⟨[.str,.str],fun _=>false,[.str],fun i=>i.1,false⟩),(269,⟨[.str,.str],fun _=>false,[.str],fun i=>i.1,false⟩),(263,⟨[.str,.int .u8],fun _=>false,[.str],fun i=>i.1,false⟩),(264,⟨[.str,.int .u8],fun _=>false,[.str],fun i=>i.1,false⟩)]
def XH1:AG:=X7 [(236,ZO)]
def XH2:AG:=X7 [(280,AdS)]
def SU:AG:=X7 [(68,Sy),(199,tO),(125,T1),(124,SH),(162,Yh),(258,⟨[.str,i64,i64],fun _=>false,[i64],fun _=>(0:Int),false⟩),(234,⟨[.str],fun _=>false,[i64],fun _=>(0:Int),false⟩)]
end Go.Pe
namespace Go.Sp
def H7(a:Z):Bool:=A6 (AO<|A9 a)&&(!preB a||decide (AO (A9 a)≠[48]))&&(!B1 (A9 a)||(A6 (Bb<|A9 a)&&decide (Bb (A9 a)≠[48])&&decide (Bb (A9 a)≠[49])))
def Abo(a:Z):Int:=AK 0<|AO<|A9 a
def AcO(a:Z):Int:=AK 0<|Bb<|A9 a
def Ao(a:Z):Int:=if H7 a=false then 1 else if 600<(AO<|A9 a).length\/600<(Bb<|A9 a).length then 4 else if B1 (A9 a)=true/\gI (Abo a) (AcO a)≠1 then 1 else 0
def A8(s:Z):Int:=((AO s).length:Int)
def D8(a:Z):Bool:=DR (AO a)&&DR (Bb a)&&decide (a.length<=5999)
def Bs(a:Z):Int:=Bu<|AO a
def A5(a:Z):Int:=if B1 a=true then Bu (Bb a)else 1
def B3(a:Z):Bool:=rN<|Bs a
def BS(a:Z):List Int:=rW<|Bs a
def By(a:Z):Bool:=rN<|A5 a
def Bt(a:Z):List Int:=rW<|A5 a
end Go.Sp
namespace Go.Pe
open Sp
open Go.Det
def EY:Am:=⟨[.str],fun s=>decide (s.length<=1000000),[i64],fun s=>Ao s,false⟩
def Rn:Am:=⟨[.str],fun s=>decide (s.length<=1000000),[i64],fun s=>A8 s,false⟩
def UN:Am:=⟨[.str],fun s=>decide (s.length<=9223372036854775807),[i64],fun s=>Ao s,false⟩
def cD:Am:=⟨[.str],fun s=>decide (s.length<=9223372036854775807),[i64],fun s=>A8 s,false⟩
def VP:Am:=⟨[.str],fun s=>decide (s.length<=9223372036854775807),[.bool],fun s=>A6 s,false⟩
def I3:Am:=⟨[i64],fun n=>Cn n,[I2],fun n=>(Sp.rN n,Sp.rW n),false⟩
def P3:Am:=⟨[.str],fun s=>D8 s,[I2,I2],fun s=>((B3 s,BS s),(By s,Bt s)),false⟩
def N6:AG:=SV [(163,[4,6,7,9,10])] [] [(163,[(4,[5,6,7,8]),(6,[5,6,7,8]),(7,[5,6,7,9]),(9,[5,6,7]),(10,[10])])] [(202,G6),(203,Hz),(200,Adx),(159,vX),(201,ZS),(171,dV),(160,Rt),(67,dZ),(68,Sy)]
def XK2:AG:=X7 [(149,H9)]
def XK3:AG:=X7 [(139,Rn),(138,PT),(143,I3)]
def VS:AG:=SV [(78,[4,7,9,11,13,14])] [] [(78,[(4,[0,3]),(7,[3,4]),(9,[3,4]),(11,[3,4]),(13,[5,6]),(14,[7])])] [(139,cD),(140,VP),(82,P3),(141,MO)]
end Go.Pe
namespace Go.Sp
abbrev Ad:=(Int×List Int)×(Int×List Int)
def PF(a:AL):Bool:=Dz a&&decide (a.2.length<=4000)
def BJ(a:Ad):Bool:=PF a.1&&PF a.2
def DD(a b:Ad):Int:=Cd (vI a.1*vI b.2)<|vI b.1*vI a.2
def S7(a:Z):Int:=De<|Bs a
def S0(a:Z):List Int:=Dd<|Bs a
def Qt(a:Z):Int:=De<|A5 a
def SD(a:Z):List Int:=Dd<|A5 a
def iQ(a b:AL):AL:=if vI b<0 then Hb (DH a) (DH b)else Hb a b
def iQS(a b:AL):Int:=(iQ a b).1
def iQW(a b:AL):List Int:=(iQ a b).2
def Di(d:AL):Bool:=decide (d.2=[])&&decide (d.1=1)
def gR(n d:AL):AL:=(O2 n d,O0 n d)
def Pw(n d:AL):Ad:=if Di d=true then(n,d)else(iQ n<|gR n d,iQ d<|gR n d)
def TW(n d:AL):Ad:=if vI d<0 then Pw (DH n) (DH d)else Pw n d
def fWh(n:AL):Ad:=(n,(1,BA 1))
def B4(a b:Ad):Ad:=if Di a.2=true/\Di b.2=true then fWh (Fc a.1 b.1)else TW (Fc (Gk a.1 b.2)<|Gk b.1 a.2)<|Gk a.2 b.2
def Ed(a b:Ad):Ad:=TW (Gk a.1 b.1)<|Gk a.2 b.2
def AfE(a:Ad):Ad:=(DH a.1,a.2)
def D7(a b:Ad):Ad:=B4 a<|AfE b
def YM(a:Ad):Ad:=TW a.2 a.1
def LJ(a b:Ad):Ad:=Ed a<|YM b
def nS(f:Ad):Int:=f.1.1
def nW(f:Ad):List Int:=f.1.2
def dS(f:Ad):Int:=f.2.1
def dW(f:Ad):List Int:=f.2.2
def rY(n d:AL):Int:=nS<|TW n d
def qI(n d:AL):List Int:=nW<|TW n d
def zH(n d:AL):Int:=dS<|TW n d
def xO(n d:AL):List Int:=dW<|TW n d
def JY(a b:Ad):Int:=nS<|B4 a b
def Jy(a b:Ad):List Int:=nW<|B4 a b
def Kg(a b:Ad):Int:=dS<|B4 a b
def J2(a b:Ad):List Int:=dW<|B4 a b
def Aia(a b:Ad):Int:=nS<|D7 a b
def Ahu(a b:Ad):List Int:=nW<|D7 a b
def Ahj(a b:Ad):Int:=dS<|D7 a b
def Ahf(a b:Ad):List Int:=dW<|D7 a b
def Adz(a b:Ad):Int:=nS<|Ed a b
def Ad1(a b:Ad):List Int:=nW<|Ed a b
def AdG(a b:Ad):Int:=dS<|Ed a b
def AdX(a b:Ad):List Int:=dW<|Ed a b
def Ah3(a:Ad):Int:=nS<|YM a
def AhA(a:Ad):List Int:=nW<|YM a
def Ahe(a:Ad):Int:=dS<|YM a
def Aho(a:Ad):List Int:=dW<|YM a
def Adl(a b:Ad):Int:=nS<|LJ a b
def Adw(a b:Ad):List Int:=nW<|LJ a b
def Adq(a b:Ad):Int:=dS<|LJ a b
def Ad0(a b:Ad):List Int:=dW<|LJ a b
def flS(a:Ad):Int:=fD a.1 a.2
def flW(a:Ad):List Int:=gO a.1 a.2
def Ce(a:Ad):Bool:=BJ a&&decide (0<vI a.2)
def JU(n d:AL):Bool:=Bk n&&Bk d&&decide (vI d≠0)
end Go.Sp
namespace Go.Pe
open Sp
open Go.Det
abbrev Aq:Sh:=.pair A4 A4
def M7:Am:=⟨[.str],fun s=>D8 s,[Aq],fun s=>((S7 s,S0 s),(Qt s,SD s)),false⟩
def OW:Am:=⟨[Aq,Aq],fun i=>Sp.BJ (i.1:Ad)&&Sp.BJ (i.2:Ad),[i64],fun i=>DD (i.1:Ad) (i.2:Ad),false⟩
def cIQ:Am:=⟨[A4,A4],fun i=>JU i.1 i.2,[A4],fun i=>(Sp.iQS i.1 i.2,Sp.iQW i.1 i.2),false⟩
def dK:Am:=⟨[A4,A4],fun i=>JU i.1 i.2,[Aq],fun i=>((rY i.1 i.2,qI i.1 i.2),(zH i.1 i.2,xO i.1 i.2)),false⟩
def RR:Am:=⟨[Aq],fun _=>true,[.bool],fun a=>Di (a:Ad).2,false⟩
def vB:Am:=⟨[A4],fun _=>true,[Aq],fun n=>((n:AL),((1:Int),BA 1)),false⟩
def cF:Am:=⟨[i64],fun _=>true,[Aq],fun n=>(((n:Int),BA n),((1:Int),BA 1)),false⟩
def Ad4:Am:=⟨[Aq],fun a=>z7 (a:Ad).1,[Aq],fun a=>((Fh (a:Ad).1,Fi (a:Ad).1),((a:Ad).2.1,(a:Ad).2.2)),false⟩
def JG:Am:=⟨[Aq,Aq],fun i=>Sp.Ce (i.1:Ad)&&Sp.Ce (i.2:Ad),[Aq],fun i=>((JY i.1 i.2,Jy i.1 i.2),(Kg i.1 i.2,J2 i.1 i.2)),false⟩
def W9:Am:=⟨[Aq,Aq],fun i=>Sp.Ce (i.1:Ad)&&Sp.Ce (i.2:Ad),[Aq],fun i=>((Aia i.1 i.2,Ahu i.1 i.2),(Ahj i.1 i.2,Ahf i.1 i.2)),false⟩
def QR:Am:=⟨[Aq,Aq],fun i=>Sp.Ce (i.1:Ad)&&Sp.Ce (i.2:Ad),[Aq],fun i=>((Adz i.1 i.2,Ad1 i.1 i.2),(AdG i.1 i.2,AdX i.1 i.2)),false⟩
def Adn:Am:=⟨[Aq],fun a=>Sp.Ce (a:Ad)&&decide (ze (a:Ad).1≠0),[Aq],fun a=>((Ah3 a,AhA a),(Ahe a,Aho a)),false⟩
def tS:Am:=⟨[Aq,Aq],fun i=>Sp.Ce (i.1:Ad)&&Sp.Ce (i.2:Ad)&&decide (ze (i.2:Ad).1≠0),[Aq],fun i=>((Adl i.1 i.2,Adw i.1 i.2),(Adq i.1 i.2,Ad0 i.1 i.2)),false⟩
def oN:Am:=⟨[Aq],fun a=>Sp.Ce (a:Ad),[A4],fun a=>(Sp.flS a,Sp.flW a),false⟩
def XA0:AG:=SV [(172,[3])] [] [(172,[(3,[2,3,4])])] [(134,LH),(162,Yh),(184,It),(171,dV),(68,Sy),(124,SH),(125,T1),(67,dZ),(159,vX),(160,Rt)]
def XA1:AG:=SV [(120,[3,6])] [] [(120,[(3,[2,3,4]),(6,[2,3,4,5])])] [(134,LH),(162,Yh),(171,dV),(172,cIQ)]
def XA2:AG:=SV [(59,[3])] [] [(59,[(3,[2,3,4])])] [(123,RR),(121,vB),(124,SH),(125,T1),(120,dK)]
def XA3:AG:=X7 [(131,Ad4),(59,JG),(65,QR),(161,Adn)]
end Go.Pe
namespace Go.Sp
def Wr(a:Z):Z:=if B1 a=true then Bb a else[49]
def Cp(a:Z)(n:Int):Bool:=decide ((a.length:Int)<=2*n+2)&&decide (Ao a=0)&&decide (((A9<|AO a).length:Int)<=n)&&decide (((Wr a).length:Int)<=n)
end Go.Sp
namespace Go.Pe
open Go.Det
def gL:Am:=⟨[.str,i64],fun i=>decide (0<=(i.2:Int))&&decide ((i.2:Int)<=1000),[.bool],fun i=>Sp.Cp i.1 i.2,false⟩
def Xd:Am:=⟨[.str],fun s=>decide (s.length<=1000000),[.str],fun s=>Sp.A9 s,false⟩
def vM:Am:=⟨[.str],fun s=>decide (s.length<=1000000),[.str],fun s=>Sp.AO s,false⟩
def gD:Am:=⟨[.str],fun s=>decide (s.length<=1000000),[.str],fun s=>Sp.Wr s,false⟩
def XM5:AG:=X7 [(139,Rn)]
def XM3:AG:=X7 [(78,EY),(33,Xd),(113,vM),(114,gD)]
end Go.Pe
namespace Go.Sp
def EM(a:Z):Bool:=decide (a.length<=20)&&decide ((AO<|A9 a).length<=9)&&decide ((Bb<|A9 a).length<=9)
def JM(a:Z):Int:=if preB a=true then -AK 0 (AO<|A9 a)else AK 0<|AO<|A9 a
def VW(a:Z):Int:=if B1 (A9 a)=true then AK 0 (Bb<|A9 a)else 1
def Gr(a:Z):Int:=if a=[48]then 0 else if a.getD 0 0=45 then -1 else 1
def M6(a:Z):Z:=if a=[48]then a else if a.getD 0 0=45 then a.drop 1 else 45::a
def J6:Nat->Nat->Nat->Z->Z
 |0,_,_,a=>a
 |f+1,n,l,a=>if n=0/\l<=a.length then a else J6 f (n/10) l (UInt8.ofNat (48+n % 10)::a)
def JF(n l:Int):Z:=J6 64 n.toNat l.toNat []
def AhL(a b:Int):Bool:=decide (0<=a)&&decide (a<9223372036854775808)&&decide (0<=b)&&decide (b<9223372036854775808)
end Go.Sp
namespace Go.Pe
open Go.Det
def Adp:Am:=⟨[i64,i64],fun i=>Sp.AhL i.1 i.2,[i64],fun i=>Sp.gI i.1 i.2,false⟩
def N4:Am:=⟨[.str],fun s=>decide (s.length<=1000000),[i64],fun s=>Sp.Gr s,false⟩
def dG:Am:=⟨[.str],fun s=>decide (s.length<=1000000),[.str],fun s=>Sp.M6 s,false⟩
def RV:Am:=⟨[i64,i64],fun i=>decide (0<=(i.1:Int))&&decide ((i.1:Int)<9223372036854775808)&&decide (0<=(i.2:Int))&&decide ((i.2:Int)<=20),[.str],fun i=>Sp.JF i.1 i.2,false⟩
def PH:AG:=SV [(80,[5,7,11,13])] [] [(80,[(5,[5,6]),(7,[5,6]),(11,[5,6,7,8,9]),(13,[6,8,9])])] [(142,Vl),(139,Rn)]
def XO2:AG:=X7 [(87,N4)]
end Go.Pe
namespace Go.Sp
open Go.Lib
theorem Ib(a d:Nat)(c:0<a)(b:d<10):decDigits (10*a+d)=decDigits a++[UInt8.ofNat<|48+d]:=by
 rw[decDigits,dif_neg ae,show(10*a+d)/10=a from by omega,show(10*a+d) % 10=d from by omega]
theorem sM(a d:Nat)(c:0<a)(b:d<10):nDigits (10*a+d)=nDigits a+1:=by
 rw[nDigits_big ae,show(10*a+d)/10=a from by omega]
def Hf(k b:Nat):Z:=zy (k-nDigits b) 48++decDigits b
theorem Tz(k b d:Nat)(c:1<=k)(a:d<10):Hf (k+1) (10*b+d)=Hf k b++[UInt8.ofNat<|48+d]:=by
 unfold Hf;rcases Nat.eq_zero_or_pos b with rfl|e
 ·rw[Nat.mul_zero,Nat.zero_add,nDigits_small a,decDigits_one a,nDigits_small ae,decDigits_one ae];obtain⟨j,rfl⟩:∃j,k=j+1:=⟨k-1,by omega⟩;simp_all [List.replicate_succ']
 grind [sM,Ib]
theorem Uo:∀(k a b:Nat),1<=k->0<a->b<10^k->decDigits (a*10^k+b)=decDigits a++Hf k b
 |0,_,_,h,_,_=>by omega
 |1,a,b,_,c,d=>by
  rw[Nat.mul_comm,Ib a b c d];simp_all [Hf,nDigits_small,decDigits_one]
 |k+2,a,b,_,c,d=>by
  have e:b=10*(b/10)+b % 10:=ae
  have j:b/10<10^(k+1):=by
   grind
  have i:a*10^(k+2)+b=10*(a*10^(k+1)+b/10)+b % 10:=by
   grind
  have hp:0<a*10^(k+1):=Nat.mul_pos c ae;have g:=Uo (k+1) a (b/10) ae c j;have f:=Tz (k+1) (b/10) (b % 10) ae ae;rw[i,Ib _ _ ae ae,g,qc, <-f, <-e]
def CM:Nat->Nat->List Z
 |0,_=>[]
 |f+1,v=>if v<10^18 then[decDigits v]else Hf 18 (v % 10^18)::CM f (v/10^18)
theorem Ki:∀(f v:Nat),v<f->(CM f v).reverse.flatten=decDigits v
 |0,_,h=>by omega
 |f+1,v,h=>by
  unfold CM;split
  ·simp
  ·next c=>
   have a:v/10^18<f:=ae
   have d:=Ki f (v/10^18) a;have b:=Uo 18 (v/10^18) (v % 10^18) ae ae ae;grind
end Go.Sp
namespace Go.Pe
open Sp
open Go.Det
section
open List Int Prod
namespace T96
def T(s:Z):Tr:=tree XA0 false 9 96<|Af ([zt]) s
theorem Ai(s:Z):T s=.ck (Ae8 s [(47:UInt8)]) (.ite (!B1 s) (.ck (DR<|AO s)<|.ck true<|.leaf (zq [.dat i64<|DL<|AO s,.dat wU<|DJ<|AO s,.dat i64 (1:Int),.dat wU<|BA 1]) [])<|.ck (DR<|AO s)<|.ck (DR<|Sp.Bb s)<|.leaf (zq [.dat i64<|DL<|AO s,.dat wU<|DJ<|AO s,.dat i64<|DL<|Sp.Bb s,.dat wU<|DJ<|Sp.Bb s]) []):=by kernel_rfl
end T96
namespace T172
def T(a b:AL):Tr:=tree XA0 false 9 172<|Af ([A4,A4]) (a,b)
def L1(c o1:Int)(a:List Int)(d:Int)(b:List Int):Tr:=re ((T (0,[]) (0,[])).L.L.L.L)<|Ap 21 [(2,.ptr 0 0),(3,.ptr 1 0),(4,.ptr 2 0)] [(2,.box [.dat i64 c,.nil]),(1,.box [.dat i64 o1,.dat wU a]),(0,.box [.dat i64 d,.dat wU b])] 3
theorem Ai(a b:AL):T a b=.ck (z7 b) (.ite (decide (Jh b<0)) (.ck (z7 a)<|.ck (z7 b)<|L1 0 (Fh b) (Fi b) (Fh a)<|Fi a)<|L1 0 (fst b) (snd b) (fst a)<|snd a):=by kernel_rfl
theorem Al(d o1:Int)(a:List Int)(c:Int)(b:List Int):stepT XA0 (L1 d o1 a c b)=.ck (Bk (c,b)&&Bk (o1,a)&&decide (0<ze (o1,a))) (.leaf (zq [.dat i64<|fD (c,b) (o1,a),.dat wU<|gO (c,b) (o1,a)]) []):=by kernel_rfl
end T172
namespace T120
def T(n d:AL):Tr:=tree XA1 false 9 120<|Af ([A4,A4]) (n,d)
def L1(d a o1:Int)(b:List Int)(e:Int)(c:List Int):Tr:=re ((T (0,[]) (0,[])).L.L.L.L)<|Ap 34 [(2,.ptr 0 0),(3,.ptr 1 0),(4,.ptr 2 0)] [(2,.box [.dat i64 d,.nil,.dat i64 a,.nil]),(1,.box [.dat i64 o1,.dat wU b]),(0,.box [.dat i64 e,.dat wU c])] 3
theorem Ai(n d:AL):T n d=.ck (z7 d) (.ite (decide (Jh d<0)) (.ck (z7 n)<|.ck (z7 d)<|L1 0 0 (Fh d) (Fi d) (Fh n)<|Fi n)<|L1 0 0 (fst d) (snd d) (fst n)<|snd n):=by kernel_rfl
def L2(g:Int)(d:List Int)(e a o1:Int)(b:List Int)(f:Int)(c:List Int):Tr:=re ((stepT XA1<|L1 0 0 0 [] 0 []).L.R.L)<|Ap 34 [(2,.ptr 0 0),(3,.ptr 1 0),(4,.ptr 2 0),(5,.ptr 3 0)] [(3,.box [.dat i64 g,.dat wU d]),(2,.box [.dat i64 e,.nil,.dat i64 a,.nil]),(1,.box [.dat i64 o1,.dat wU b]),(0,.box [.dat i64 f,.dat wU c])] 4
theorem Al(e c o1:Int)(a:List Int)(d:Int)(b:List Int):stepT XA1 (L1 e c o1 a d b)=let f:Tr:=.ck (Bk (d,b)&&Bk (o1,a))<|L2 (O2 (d,b) (o1,a)) (O0 (d,b) (o1,a)) e c o1 a d b;.ite (!decide (0<length a)) (.ite (o1==1) (.leaf (zq [.dat i64 d,.dat wU b,.dat i64 o1,.dat wU a]) []) f) f:=by kernel_rfl
theorem AA(d:Int)(a:List Int)(g e o1:Int)(b:List Int)(f:Int)(c:List Int):stepT XA1 (L2 d a g e o1 b f c)=.ck (JU (f,c) (d,a)) (.ck (JU (o1,b) (d,a))<|.leaf (zq [.dat i64<|Sp.iQS (f,c) (d,a),.dat wU<|Sp.iQW (f,c) (d,a),.dat i64<|Sp.iQS (o1,b) (d,a),.dat wU<|Sp.iQW (o1,b) (d,a)]) []):=by kernel_rfl
end T120
namespace T123
def T(a:Ad):Tr:=tree XA0 false 9 123<|Af ([Aq]) a
theorem Ai(a:Ad):T a=.ite (!decide (0<length (snd<|snd a))) (.leaf (.dat z6<|fst (snd a)==1) []) (.leaf (.bl false) []):=by kernel_rfl
end T123
namespace T121
def T(n:AL):Tr:=tree XA0 false 9 121<|Af ([A4]) n
theorem Ai(n:AL):T n=.ck true (.leaf (zq [.dat i64<|fst n,.dat wU<|snd n,.dat i64 (1:Int),.dat wU<|BA 1]) []):=by kernel_rfl
end T121
namespace T131
def T(a:Ad):Tr:=tree XA0 false 9 131<|Af ([Aq]) a
theorem Ai(a:Ad):T a=.ck (z7<|fst a) (.leaf (zq [.dat i64<|Fh<|fst a,.dat wU<|Fi<|fst a,.dat i64<|fst<|snd a,.dat wU<|snd<|snd a]) []):=by kernel_rfl
end T131
namespace T59
def T(a b:Ad):Tr:=tree XA2 false 9 59<|Af ([Aq,Aq]) (a,b)
def L1(i a o1:Int)(d:List Int)(g:Int)(f:List Int)(h:Int)(e:List Int)(b:Int)(c:List Int):Tr:=re ((T ((0,[]),(0,[])) ((0,[]),(0,[]))).L.L.L.R)<|Ap 34 [(2,.ptr 0 0),(3,.ptr 1 0),(4,.ptr 2 0)] [(2,.box [.dat i64 i,.nil,.dat i64 a,.nil]),(1,.box [.dat i64 o1,.dat wU d,.dat i64 g,.dat wU f]),(0,.box [.dat i64 h,.dat wU e,.dat i64 b,.dat wU c])] 3
theorem Ai(a b:Ad):T a b=let c:=L1 0 0 (fst<|fst b) (snd<|fst b) (fst<|snd b) (snd<|snd b) (fst<|fst a) (snd<|fst a) (fst<|snd a)<|snd<|snd a;.ck true (.ite (Di<|snd a) (.ck true<|.ite (Di<|snd b) (.ck (Bk (fst a)&&Bk (fst b))<|.ck true<|.leaf (zq [.dat i64<|LA (fst a)<|fst b,.dat wU<|Lh (fst a)<|fst b,.dat i64 (1:Int),.dat wU<|BA 1]) []) c) c):=by kernel_rfl
theorem Al(l g o1:Int)(e:List Int)(d:Int)(c:List Int)(i:Int)(f:List Int)(a:Int)(b:List Int):stepT XA2 (L1 l g o1 e d c i f a b)=let b':=(FT (a,b) (d,c),FV (a,b) (d,c));let k:=(FT (i,f) (d,c),FV (i,f) (d,c));let j:=(FT (o1,e) (a,b),FV (o1,e) (a,b));let h:=(LA k j,Lh k j);.ck (Bk (i,f)&&Bk (d,c)) (.ck (Bk (o1,e)&&Bk (a,b))<|.ck (Bk k&&Bk j)<|.ck (Bk (a,b)&&Bk (d,c))<|.ck (JU h b')<|.leaf (zq [.dat i64<|rY h b',.dat wU<|qI h b',.dat i64<|zH h b',.dat wU<|xO h b']) []):=by kernel_rfl
end T59
namespace T65
def T(a b:Ad):Tr:=tree XA2 false 9 65<|Af ([Aq,Aq]) (a,b)
theorem Ai(a b:Ad):T a b=let c:=(FT (fst a)<|fst b,FV (fst a)<|fst b);let b':=(FT (snd a)<|snd b,FV (snd a)<|snd b);.ck (Bk (fst a)&&Bk (fst b)) (.ck (Bk (snd a)&&Bk (snd b))<|.ck (JU c b')<|.leaf (zq [.dat i64<|rY c b',.dat wU<|qI c b',.dat i64<|zH c b',.dat wU<|xO c b']) []):=by kernel_rfl
end T65
namespace T161
def T(a:Ad):Tr:=tree XA2 false 9 161<|Af ([Aq]) a
theorem Ai(a:Ad):T a=.ck (JU (snd a)<|fst a) (.leaf (zq [.dat i64<|rY (snd a)<|fst a,.dat wU<|qI (snd a)<|fst a,.dat i64<|zH (snd a)<|fst a,.dat wU<|xO (snd a)<|fst a]) []):=by kernel_rfl
end T161
namespace T64
def T(a b:Ad):Tr:=tree XA3 false 9 64<|Af ([Aq,Aq]) (a,b)
theorem Ai(a b:Ad):T a b=let c:=((Fh<|fst b,Fi<|fst b),fst<|snd b,snd<|snd b);let b':=((fst a),fst<|snd a,snd<|snd a);.ck (z7<|fst b) (.ck (Sp.Ce b'&&Sp.Ce c)<|.leaf (zq [.dat i64<|JY b' c,.dat wU<|Jy b' c,.dat i64<|Kg b' c,.dat wU<|J2 b' c]) []):=by kernel_rfl
end T64
namespace T97
def T(a b:Ad):Tr:=tree XA3 false 9 97<|Af ([Aq,Aq]) (a,b)
theorem Ai(a b:Ad):T a b=let b':=((fst a),fst<|snd a,snd<|snd a);let d:=((fst b),fst<|snd b,snd<|snd b);let c:=YM d;.ck (Sp.Ce d&&decide (ze (fst b)≠0)) (.ck (Sp.Ce b'&&Sp.Ce c)<|.leaf (zq [.dat i64<|Adz b' c,.dat wU<|Ad1 b' c,.dat i64<|AdG b' c,.dat wU<|AdX b' c]) []):=by kernel_rfl
end T97
namespace T73
def T(a b:Ad):Tr:=tree XA0 false 9 73<|Af ([Aq,Aq]) (a,b)
theorem Ai(a b:Ad):T a b=let c:=(FT (fst a)<|snd b,FV (fst a)<|snd b);let b':=(FT (fst b)<|snd a,FV (fst b)<|snd a);.ck (Bk (fst a)&&Bk (snd b)) (.ck (Bk (fst b)&&Bk (snd a))<|.ck (Bk c&&Bk b')<|.leaf (.dat i64<|XI c b') []):=by kernel_rfl
end T73
namespace T132
def T(a:Ad):Tr:=tree XA0 false 9 132<|Af ([Aq]) a
theorem Ai(a:Ad):T a=.ck (Bk (fst a)&&Bk (snd a)&&decide (0<ze (snd a))) (.leaf (zq [.dat i64<|fD (fst a)<|snd a,.dat wU<|gO (fst a)<|snd a]) []):=by kernel_rfl
end T132
namespace T139
def T(s:Z):Tr:=tree Mh false 9 139<|Af ([zt]) s
def L1(v0:Z)(v3:Int):Tr:=re ((T []))<|Ap 17 [(0,.dat zt v0),(3,.dat i64 v3)] [] 0
theorem Ai(s:Z):T s=L1 s 0:=by kernel_rfl
theorem Al(v0:Z)(v3:Int):stepT Mh (L1 v0 v3)=let a:=(length v0:Int);.di (v3<a) (.ck (decide (0<=v3)&&decide (v3<a))<|.ite ((↑(zi<|getD v0 (toNat v3) (0:UInt8)):Int)==47) (.leaf (.dat i64 v3) [])<|L1 v0<|zc .i64<|v3+1) (.leaf (.dat i64 a) []):=by kernel_rfl
end T139
namespace T140
def T(s:Z):Tr:=tree Mh false 9 140<|Af ([zt]) s
def L1(s v0:Z)(v3:Int):Tr:=re ((T s).R.L.L.R)<|Ap 20 [(0,.dat zt v0),(3,.dat i64 v3)] [] 0
def L2(s v0:Z)(v3:Int):Tr:=re ((T s).R.R)<|Ap 20 [(0,.dat zt v0),(3,.dat i64 v3)] [] 0
theorem Ai(s:Z):T s=let a:=(length s:Int);.ite (a==0) (.leaf (.bl false) []) (.di (a>1) (.cd (0<a)<|.ite ((↑(zi<|getD s 0 (0:UInt8)):Int)==48) (.leaf (.bl false) [])<|L1 s s 0)<|L2 s s 0):=by kernel_rfl
theorem Al(s v0:Z)(v3:Int):stepT Mh (L1 s v0 v3)=let a:=decide (v3<(length v0:Int));let b':=(↑(zi<|getD v0 (toNat v3) (0:UInt8)):Int);.ite a (.ck (decide (0<=v3)&&a)<|.di (b'<48) (.leaf (.bl false) [])<|.ck (decide (0<=v3)&&a)<|.di (b'>57) (.leaf (.bl false) [])<|L1 s v0<|zc .i64<|v3+1) (.leaf (.bl true) []):=by kernel_rfl
theorem AA(s v0:Z)(v3:Int):stepT Mh (L2 s v0 v3)=let a:=decide (v3<(length v0:Int));let b':=(↑(zi<|getD v0 (toNat v3) (0:UInt8)):Int);.ite a (.ck (decide (0<=v3)&&a)<|.di (b'<48) (.leaf (.bl false) [])<|.ck (decide (0<=v3)&&a)<|.di (b'>57) (.leaf (.bl false) [])<|L2 s v0<|zc .i64<|v3+1) (.leaf (.bl true) []):=by kernel_rfl
end T140
namespace T143
def T(n:Int):Tr:=tree XK2 false 9 143<|Af ([zr IntKind.i64]) n
def L1(v0:Int)(v4:Bool):Tr:=re ((T 0))<|Ap 25 [(0,.dat i64 v0),(2,.ptr 0 0),(3,.nil),(4,.dat z6 v4)] [(0,.box [.bl false,.nil])] 1
theorem Ai(n:Int):T n=L1 n (decide (n<0)):=by kernel_rfl
def L2(v0:Int)(a:Nat)(v4:Bool)(o1:List Int):Tr:=re ((stepT XK2<|L1 0 false).L.L.L.L.L)<|Ap 25 [(0,.dat i64 v0),(2,.ptr 0 0),(3,.sl 1 1 0 a none),(4,.dat z6 v4)] [(1,.arr false 3 i64 o1),(0,.box [.bl false,.nil])] 2
theorem Al(v0:Int)(v4:Bool):stepT XK2 (L1 v0 v4)=let a:=aa 8;let b':=zc .i64<|ym v0 1000000000;.ite (v0 !=0) (.ck true<|.di (qh v0 1000000000<0) (.ck a<|.ck true<|L2 b' 1 v4<|[zc .i64<|0-qh v0 1000000000])<|.ck a<|.ck true<|L2 b' 1 v4<|[qh v0 1000000000]) (.cd (0<=20000)<|.leaf (zq [.dat z6<|Sp.CY v4 [],.dat (yr i64)<|Sp.AE []]) []):=by kernel_rfl
theorem AA(v0:Int)(a:Nat)(v4:Bool)(o1:List Int):stepT XK2 (L2 v0 a v4 o1)=let b:=ac a (length o1) 8;let b':=zc .i64<|ym v0 1000000000;.ite (v0 !=0) (.ck true<|.di (qh v0 1000000000<0) (.ck b<|.ck true<|L2 b' (Nat.add a 1) v4<|o1++[zc .i64<|0-qh v0 1000000000])<|.ck b<|.ck true<|L2 b' (Nat.add a 1) v4<|o1++[qh v0 1000000000]) (.ck (decide (0+a<=length o1)&&true&&decide (length (take a o1)<=20000))<|.leaf (zq [.dat z6<|Sp.CY v4<|take a o1,.dat (yr i64)<|Sp.AE<|take a o1]) []):=by kernel_rfl
end T143
namespace T82
def T(a:Z):Tr:=tree XK3 false 9 82<|Af ([zt]) a
theorem Ai(a:Z):T a=let b':=zc .i64<|A8 a+1;let b:=take (toNat<|A8 a) a;let c:=take (qd (length a)<|toNat b')<|drop (toNat b') a;.cd (length a<=1000000) (.ite (A8 a==(length a:Int)) (.ck (DR a)<|.ck true<|.leaf (.tup [zq [.dat z6<|G0 a,.dat (yr i64)<|Eu a],zq [.dat z6 false,.dat (yr i64)<|Sp.rW 1]]) [])<|.ck (decide (0<=A8 a)&&decide (0<=toNat (A8 a))&&decide (toNat (A8 a)<=length a))<|.ck (decide (0<=zc .i64 (A8 a+1))&&true&&decide (toNat b'<=length a)&&decide (length a<=length a))<|.ck (DR b)<|.ck (DR c)<|.leaf (.tup [zq [.dat z6<|G0 b,.dat (yr i64)<|Eu b],zq [.dat z6<|G0 c,.dat (yr i64)<|Eu c]]) []):=by kernel_rfl
end T82
namespace T78
def T(a:Z):Tr:=tree VS false 9 78<|Af ([zt]) a
def L1(v0 v3:Z):Tr:=re ((T []).L.L.L.L)<|Ap 96 [(0,.dat zt v0),(3,.dat zt v3)] [] 0
theorem Ai(a:Z):T a=.di ((length a:Int)>0) (.cd (0<(length a:Int))<|.ite ((↑(zi<|getD a 0 (0:UInt8)):Int)==45) (.ck (decide (1<=length a)&&decide (length a<=length a))<|L1 a<|take (qd (length a) 1)<|drop 1 a)<|L1 a a) (L1 a a):=by kernel_rfl
def L2(v3:Z)(v4:Int):Tr:=re ((stepT VS<|L1 [] []).L.L.L.R.L.L.L.R)<|Ap 96 [(3,.dat zt v3),(4,.dat i64 v4)] [] 0
theorem Al(v0 v3:Z):stepT VS (L1 v0 v3)=let b':=A8 v3;let a:Tr:=.leaf (.dat i64 (1:Int)) [];let b:=decide (0<=A8 v3)&&decide (0<=toNat b')&&decide (toNat b'<=length v3);.cd (length v3<=9223372036854775807) (.ck b<|.cd (length (take (toNat b') v3)<=9223372036854775807)<|.ite (!A6 (take (toNat b') v3)) a<|.cd (0<(length v0:Int))<|.ite ((↑(zi<|getD v0 0 (0:UInt8)):Int)==45) (.ck b<|.ite (take (toNat b') v3==[(48:UInt8)]) a<|L2 v3 b')<|L2 v3 b'):=by kernel_rfl
def L3(v3:Z)(v4:Int):Tr:=re ((stepT VS<|L2 [] 0).L.L.L.R.L.R.L.R)<|Ap 96 [(3,.dat zt v3),(4,.dat i64 v4)] [] 0
theorem AA(v3:Z)(v4:Int):stepT VS (L2 v3 v4)=let c:Tr:=.leaf (.dat i64 (1:Int)) [];let d:=zc .i64<|v4+1;let b:=decide (0<=zc .i64 (v4+1))&&true&&decide (toNat d<=length v3)&&decide (length v3<=length v3);let b':=toNat d;let a:=qd (length v3) b';.di (v4<(length v3:Int)) (.ck b<|.cd (length (take a<|drop b' v3)<=9223372036854775807)<|.ite (!A6 (take a<|drop b' v3)) c<|.ck b<|.ite (take a (drop b' v3)==[(48:UInt8)]) c<|.ck b<|.ite (take a (drop b' v3)==[(49:UInt8)]) c<|L3 v3 v4) (L3 v3 v4):=by kernel_rfl
def L4(v3:Z)(v4:Int):Tr:=re ((stepT VS<|L3 [] 0).R.R)<|Ap 96 [(3,.dat zt v3),(4,.dat i64 v4)] [] 0
theorem Bo(v3:Z)(v4:Int):stepT VS (L3 v3 v4)=let a:Tr:=.leaf (.dat i64 (4:Int)) [];.di (v4>600) a (.di (zc .i64 (zc .i64 ((length v3:Int)-v4)-1)>600) a<|L4 v3 v4):=by kernel_rfl
def L5(o1:Bool)(a:List Int)(c:Bool)(b:List Int):Tr:=re ((stepT VS<|L4 [] 0).L.L)<|Ap 96 [(5,.ptr 0 0),(6,.ptr 1 0)] [(1,.box [.dat z6 o1,.dat (yr i64) a]),(0,.box [.dat z6 c,.dat (yr i64) b])] 2
theorem BX(v3:Z)(v4:Int):stepT VS (L4 v3 v4)=.di (v4<(length v3:Int)) (.ck (D8 v3)<|L5 (By v3) (Bt v3) (B3 v3)<|BS v3) (.leaf (.dat i64 (0:Int)) []):=by kernel_rfl
def L6(a:List Int):Tr:=re ((stepT VS<|L5 false [] false []).L)<|Ap 96 [(7,.dat (yr i64) a)] [] 0
theorem Dl(o1:Bool)(a:List Int)(c:Bool)(b:List Int):stepT VS (L5 o1 a c b)=.ck (Bh b&&Bh a&&decide (length b<=9000)&&decide (length a<=9000)) (L6<|CN b a):=by kernel_rfl
theorem CL(a:List Int):stepT VS (L6 a)=let b:Tr:=.leaf (.dat i64 (1:Int)) [];.ite ((length a:Int) !=1) b (.cd (0<(length a:Int))<|.ite (getD a 0 0 !=1) b<|.leaf (.dat i64 (0:Int)) []):=by kernel_rfl
end T78
namespace T202
def T(l:List Int):Tr:=tree Mh false 9 202<|Af ([yr i64]) l
def L1(v5:List Int)(b a:Int):Tr:=re ((T []))<|Ap 15 [(5,.dat (yr i64) v5),(6,.dat i64 b),(7,.dat i64 a)] [] 0
theorem Ai(l:List Int):T l=L1 l ((length l:Int)) 0:=by kernel_rfl
theorem Al(v5:List Int)(b a:Int):stepT Mh (L1 v5 b a)=.di (a<b) (.ck (decide (0<=a)&&decide (a<(length v5:Int)))<|.ite (getD v5 (toNat a) 0 !=0) (.leaf (.dat i64<|getD v5 (toNat a) 0) [])<|L1 v5 b<|zc .i64<|a+1) (.leaf (.dat i64 (0:Int)) []):=by kernel_rfl
end T202
namespace T203
def T(b:Bool)(e:Int):Tr:=tree Mh false 9 203<|Af ([z6,zr IntKind.i64]) (b,e)
theorem Ai(b:Bool)(e:Int):T b e=.ite b (.leaf (.dat i64 e) []) (.leaf (.dat i64 (0:Int)) []):=by kernel_rfl
end T203
namespace T163
def T(a:Z):Tr:=tree N6 false 9 163<|Af ([zt]) a
def L1(v5 b:Z)(a:Bool):Tr:=re ((T []).L.L.L.L.L)<|Ap 76 [(5,.dat zt v5),(6,.dat zt b),(7,.dat z6 a),(8,.bl true)] [] 0
def L2(v5 c:Z)(a b:Bool):Tr:=re ((T []).L.L.L.L.R)<|Ap 76 [(5,.dat zt v5),(6,.dat zt c),(7,.dat z6 a),(8,.dat z6 b)] [] 0
def L3(v5 b:Z)(a:Bool):Tr:=re ((T []).L.L.L.R)<|Ap 76 [(5,.dat zt v5),(6,.dat zt b),(7,.dat z6 a),(8,.bl false)] [] 0
theorem Ai(a:Z):T a=let b:=AO<|A9 a;let b':=Sp.Bb<|A9 a;let c:=B1<|A9 a;.ck (VU a [(45:UInt8)]) (.ck (Ae8 (A9 a) [(47:UInt8)])<|.cd (length b<=1000000)<|.ite (A6 b) (.ite (!Sp.preB a) (L1 b b' c)<|L2 b b' c<|!AO (A9 a)==[(48:UInt8)])<|L3 b b' c):=by kernel_rfl
def L4(v5 c:Z)(a b:Bool):Tr:=re ((stepT N6<|L1 [] [] false).L.L.L.L)<|Ap 76 [(5,.dat zt v5),(6,.dat zt c),(7,.dat z6 a),(8,.dat z6 b)] [] 0
def L5(v5 b:Z)(a:Bool):Tr:=re ((stepT N6<|L1 [] [] false).L.L.L.R)<|Ap 76 [(5,.dat zt v5),(6,.dat zt b),(7,.dat z6 a),(8,.bl false)] [] 0
def L6(v5 b:Z)(a:Bool):Tr:=re ((stepT N6<|L1 [] [] false).R)<|Ap 76 [(5,.dat zt v5),(6,.dat zt b),(7,.dat z6 a),(8,.bl true)] [] 0
theorem Al(v5 a:Z)(b:Bool):stepT N6 (L1 v5 a b)=.ite b (.cd (length a<=1000000)<|.ite (A6 a) (.ite (!a==[(48:UInt8)]) (L4 v5 a b<|!a==[(49:UInt8)])<|L5 v5 a b)<|L5 v5 a b) (L6 v5 a b):=by kernel_rfl
theorem AA(v5 a:Z)(b c:Bool):stepT N6 (L2 v5 a b c)=.ite b (.ite c (.cd (length a<=1000000)<|.ite (A6 a) (.ite (!a==[(48:UInt8)]) (L4 v5 a b<|!a==[(49:UInt8)])<|L5 v5 a b)<|L5 v5 a b)<|L5 v5 a b) (L4 v5 a b c):=by kernel_rfl
theorem Bo(v5 b:Z)(a:Bool):stepT N6 (L3 v5 b a)=.ite a (L5 v5 b a) (L5 v5 b a):=by kernel_rfl
def L7(v5 b:Z)(a:Bool)(v9:Int):Tr:=re ((stepT N6<|L4 [] [] false false).L.L.L.L)<|Ap 76 [(5,.dat zt v5),(6,.dat zt b),(7,.dat z6 a),(9,.dat i64 v9)] [] 0
theorem BX(v5 a:Z)(c b:Bool):stepT N6 (L4 v5 a c b)=let d:=decide (2<=2)&&true&&decide (2<=1000000);.ck true (.di ((length v5:Int)>600) (.ck true<|.ck d<|L7 v5 a c<|qp [CB (!b) 1,CB true 4])<|.ck true<|.ck d<|L7 v5 a c<|qp [CB (!b) 1,CB (decide ((length a:Int)>600)) 4]):=by kernel_rfl
theorem Dl(v5 a:Z)(b:Bool):stepT N6 (L5 v5 a b)=.ck true (.di ((length v5:Int)>600) (.ck true<|.ck true<|L7 v5 a b<|qp [CB true 1,CB true 4])<|.ck true<|.ck (decide (2<=2)&&true&&decide (2<=1000000))<|L7 v5 a b<|qp [CB true 1,CB (decide ((length a:Int)>600)) 4]):=by kernel_rfl
theorem CL(v5 a:Z)(b:Bool):stepT N6 (L6 v5 a b)=.ck true (.di ((length v5:Int)>600) (.ck true<|.ck true<|L7 v5 a b<|qp [CB false 1,CB true 4])<|.ck true<|.ck (decide (2<=2)&&true&&decide (2<=1000000))<|L7 v5 a b<|qp [CB false 1,CB (decide ((length a:Int)>600)) 4]):=by kernel_rfl
def L8(v5 b:Z)(a:Bool):Tr:=re ((stepT N6<|L7 [] [] false 0).R)<|Ap 76 [(5,.dat zt v5),(6,.dat zt b),(7,.dat z6 a)] [] 0
theorem C6(v5 b:Z)(a:Bool)(v9:Int):stepT N6 (L7 v5 b a v9)=.ite (v9 !=0) (.leaf (.dat i64 v9) []) (L8 v5 b a):=by kernel_rfl
def L9(a:Bool):Tr:=re ((stepT N6<|L8 [] [] false).L.L.L.L.L.L)<|Ap 76 [(10,.dat z6 a)] [] 0
def NI:Tr:=re ((stepT N6<|L8 [] [] false).R)<|Ap 76 [(10,.bl false)] [] 0
theorem DM(v5 a:Z)(b:Bool):stepT N6 (L8 v5 a b)=let c:=(O2 (DL v5,DJ v5) (DL a,DJ a),O0 (DL v5,DJ v5) (DL a,DJ a));.ite b (.ck (DR v5)<|.ck (DR a)<|.ck (Bk (DL v5,DJ v5)&&Bk (DL a,DJ a))<|.ck true<|.ck (Bk c&&Bk (1,BA 1))<|L9<|XI c (1,BA 1) !=0) NI:=by kernel_rfl
theorem sS(a:Bool):stepT N6 (L9 a)=.ck true (.leaf (.dat i64<|CB a 1) []):=by kernel_rfl
theorem G2:stepT N6 NI=.ck true (.leaf (.dat i64<|CB false 1) []):=by kernel_rfl
end T163
namespace T160
def T(s:Z):Tr:=tree SU false 9 160<|Af ([zt]) s
def L1(v0:Z)(v3:Bool)(o1 a:Int):Tr:=re ((T []).L.L.L.L.L.L)<|Ap 41 [(0,.dat zt v0),(2,.ptr 0 0),(3,.dat z6 v3),(4,.ptr 1 0)] [(1,.box [.dat i64 o1,.nil]),(0,.box [.dat i64 a,.nil])] 2
def L2(v0:Z)(o1 a:Int):Tr:=re ((T []).R.L.L.L.L)<|Ap 41 [(0,.dat zt v0),(2,.ptr 0 0),(3,.bl false),(4,.ptr 1 0)] [(1,.box [.dat i64 o1,.nil]),(0,.box [.dat i64 a,.nil])] 2
theorem Ai(s:Z):T s=let a:=take 1 s==[(45:UInt8)];let b':=decide ((length s:Int)>=1);let d:=decide (1<=length s)&&decide (length s<=length s);let b:=decide (1<=length s);let c:=take (qd (length s) 1)<|drop 1 s;.ite b' (.ck b<|.ite b' (.ck b<|.ite a (.ck d<|L1 c a 0 0)<|L1 s a 0 0)<|L1 s a 0 0) (.ite b' (.ck b<|.ite a (.ck d<|L2 c 0 0)<|L2 s 0 0)<|L2 s 0 0):=by kernel_rfl
def L3(v0:Z)(v3:Bool)(o1 f:Int)(v5:Z)(h:Int)(a:Nat)(e c:Int)(g:List Int)(b:Int)(d:Int):Tr:=re ((stepT SU<|L1 v0 v3 o1 f).L.L.L.L.L.L.L.R)<|Ap 77 [(5,.dat zt v5),(6,.dat i64 h),(47,.sl 2 1 0 a none),(48,.dat i64 e),(49,.dat i64 c)] [(2,.arr false 5 (zr yq) g),(1,.box [.dat i64 b,.nil]),(0,.box [.dat i64 d,.nil])] 3
theorem Al(v0:Z)(v3:Bool)(o1 c:Int):stepT SU (L1 v0 v3 o1 c)=let d:=(length v0:Int);let a:=take (toNat<|F5 18 d) v0;let b':=take (qd (length a) 1)<|drop 1 a;let f:=(↑(length a):Int);let h:=decide (1<=length a)&&decide (length a<=length a);let g:=(↑(zi<|getD a 0 (0:UInt8)):Int);let e:=decide (0<f);.di (d>0) (.ck (decide (0<=F5 18 d)&&decide (0<=toNat (F5 18 d))&&decide (toNat (F5 18 d)<=length v0))<|.ite e (.di (f<19) (.ck e<|.ite (g==45) (.ck h<|.di ((↑(length b'):Int)<1) .fail<|L3 v0 v3 o1 c a 0 (length b') ((↑(length b'):Int)) 0 (yv (fun b=>(↑(zi b):Int)) b') o1 c)<|.ck e<|.ite (g==43) (.ck h<|.di ((↑(length b'):Int)<1) .fail<|L3 v0 v3 o1 c a 0 (length b') ((↑(length b'):Int)) 0 (yv (fun b=>(↑(zi b):Int)) b') o1 c)<|L3 v0 v3 o1 c a 0 (length a) f 0 (yv (fun b=>(↑(zi b):Int)) a) o1 c)<|.ck false .fail)<|.ck false .fail) (.ite v3 (.ck (z7 (o1,[]))<|.leaf (zq [.dat i64<|Fh (o1,[]),.dat wU<|Fi (o1,[])]) [])<|.leaf (zq [.dat i64 o1,.nil]) []):=by kernel_rfl
def L4(v0:Z)(o1 f:Int)(v5:Z)(h:Int)(a:Nat)(e c:Int)(g:List Int)(b:Int)(d:Int):Tr:=re ((stepT SU<|L2 v0 o1 f).L.L.L.L.L.L.L.R)<|Ap 77 [(5,.dat zt v5),(6,.dat i64 h),(47,.sl 2 1 0 a none),(48,.dat i64 e),(49,.dat i64 c)] [(2,.arr false 5 (zr yq) g),(1,.box [.dat i64 b,.nil]),(0,.box [.dat i64 d,.nil])] 3
theorem AA(v0:Z)(o1 c:Int):stepT SU (L2 v0 o1 c)=let d:=(length v0:Int);let a:=take (toNat<|F5 18 d) v0;let b':=take (qd (length a) 1)<|drop 1 a;let f:=(↑(length a):Int);let h:=decide (1<=length a)&&decide (length a<=length a);let g:=(↑(zi<|getD a 0 (0:UInt8)):Int);let e:=decide (0<f);.di (d>0) (.ck (decide (0<=F5 18 d)&&decide (0<=toNat (F5 18 d))&&decide (toNat (F5 18 d)<=length v0))<|.ite e (.di (f<19) (.ck e<|.ite (g==45) (.ck h<|.di ((↑(length b'):Int)<1) .fail<|L4 v0 o1 c a 0 (length b') ((↑(length b'):Int)) 0 (yv (fun b=>(↑(zi b):Int)) b') o1 c)<|.ck e<|.ite (g==43) (.ck h<|.di ((↑(length b'):Int)<1) .fail<|L4 v0 o1 c a 0 (length b') ((↑(length b'):Int)) 0 (yv (fun b=>(↑(zi b):Int)) b') o1 c)<|L4 v0 o1 c a 0 (length a) f 0 (yv (fun b=>(↑(zi b):Int)) a) o1 c)<|.ck false .fail)<|.ck false .fail) (.leaf (zq [.dat i64 o1,.nil]) []):=by kernel_rfl
def L5(v0:Z)(v3:Bool)(o1:Int)(a:List Int)(b:Int):Tr:=re ((stepT SU<|L3 [] false 0 0 [] 0 0 0 0 [] 0 0).R.L.L.L.L.L.L.L.L)<|Ap 41 [(0,.dat zt v0),(2,.ptr 0 0),(3,.dat z6 v3),(4,.ptr 1 0)] [(1,.box [.dat i64 o1,.dat wU a]),(0,.box [.dat i64 b,.nil])] 2
theorem Bo(v0:Z)(v3:Bool)(o1 o:Int)(v5:Z)(d:Int)(b:Nat)(f a:Int)(h:List Int)(c:Int)(e:Int):stepT SU (L3 v0 v3 o1 o v5 d b f a h c e)=let b':=F5 18 (length v0:Int);let i:=(zc .i64<|0-d,BA<|zc .i64<|0-d);let k:=getD h (toNat a) 0-48;let j:=(Xj (10,BA 10) b',X8 (10,BA 10) b');let l:=decide (0<=F5 18 (length v0:Int))&&true&&decide (toNat b'<=length v0)&&decide (length v0<=length v0);let n:=take (qd (length v0)<|toNat b')<|drop (toNat b') v0;let m:=Bk (10,BA 10)&&Acs (ze (10,BA 10)) b';let g:=(FT (c,[]) j,FV (c,[]) j);let h':=Bk (c,[])&&Bk j;.di (a<f) (.ck (decide (0<=a)&&decide (a<(↑b:Int)))<|.cd (toNat a<length h)<|.di (zc .u8 k>9) .fail<|L3 v0 v3 o1 o v5 (zc .i64<|zc .i64 (d*10)+zc .i64 (zc .u8 k)) b f (zc .i64<|a+1) h c e) (.cd (0<(length v5:Int))<|.ite ((↑(zi<|getD v5 0 (0:UInt8)):Int)==45) (.ck true<|.ck m<|.ck h'<|.ck true<|.ck (Bk g&&Bk i)<|.ck l<|L5 n v3 (LA g i) (Lh g i) e)<|.ck true<|.ck m<|.ck h'<|.ck true<|.ck (Bk g&&Bk (d,BA d))<|.ck l<|L5 n v3 (LA g (d,BA d)) (Lh g (d,BA d)) e):=by kernel_rfl
def L7(v0:Z)(v3:Bool)(o1:Int)(c:List Int)(h:Int)(v5:Z)(j:Int)(b:Nat)(g e:Int)(i:List Int)(d:Int)(a:List Int)(f:Int):Tr:=re ((stepT SU<|L5 v0 v3 o1 c h).L.L.L.L.L.L.L.R)<|Ap 77 [(5,.dat zt v5),(6,.dat i64 j),(47,.sl 2 1 0 b none),(48,.dat i64 g),(49,.dat i64 e)] [(2,.arr false 5 (zr yq) i),(1,.box [.dat i64 d,.dat wU a]),(0,.box [.dat i64 f,.nil])] 3
theorem Dl(v0:Z)(v3:Bool)(o1:Int)(a:List Int)(d:Int):stepT SU (L5 v0 v3 o1 a d)=let e:=(length v0:Int);let c:=take (toNat<|F5 18 e) v0;let b':=take (qd (length c) 1)<|drop 1 c;let g:=(↑(length c):Int);let i:=decide (1<=length c)&&decide (length c<=length c);let h:=(↑(zi<|getD c 0 (0:UInt8)):Int);let f:=decide (0<g);.di (e>0) (.ck (decide (0<=F5 18 e)&&decide (0<=toNat (F5 18 e))&&decide (toNat (F5 18 e)<=length v0))<|.ite f (.di (g<19) (.ck f<|.ite (h==45) (.ck i<|.di ((↑(length b'):Int)<1) .fail<|L7 v0 v3 o1 a d c 0 (length b') ((↑(length b'):Int)) 0 (yv (fun b=>(↑(zi b):Int)) b') o1 a d)<|.ck f<|.ite (h==43) (.ck i<|.di ((↑(length b'):Int)<1) .fail<|L7 v0 v3 o1 a d c 0 (length b') ((↑(length b'):Int)) 0 (yv (fun b=>(↑(zi b):Int)) b') o1 a d)<|L7 v0 v3 o1 a d c 0 (length c) g 0 (yv (fun b=>(↑(zi b):Int)) c) o1 a d)<|.ck false .fail)<|.ck false .fail) (.ite v3 (.ck (z7 (o1,a))<|.leaf (zq [.dat i64<|Fh (o1,a),.dat wU<|Fi (o1,a)]) [])<|.leaf (zq [.dat i64 o1,.dat wU a]) []):=by kernel_rfl
theorem C6(v0:Z)(v3:Bool)(o1:Int)(g:List Int)(q:Int)(v5:Z)(e:Int)(c:Nat)(h b:Int)(j:List Int)(d:Int)(a:List Int)(f:Int):stepT SU (L7 v0 v3 o1 g q v5 e c h b j d a f)=let i:=F5 18 (length v0:Int);let k:=(zc .i64<|0-e,BA<|zc .i64<|0-e);let m:=getD j (toNat b) 0-48;let l:=(Xj (10,BA 10) i,X8 (10,BA 10) i);let n:=decide (0<=F5 18 (length v0:Int))&&true&&decide (toNat i<=length v0)&&decide (length v0<=length v0);let p:=take (qd (length v0)<|toNat i)<|drop (toNat i) v0;let o:=Bk (10,BA 10)&&Acs (ze (10,BA 10)) i;let b':=(FT (d,a) l,FV (d,a) l);let h':=Bk (d,a)&&Bk l;.di (b<h) (.ck (decide (0<=b)&&decide (b<(↑c:Int)))<|.cd (toNat b<length j)<|.di (zc .u8 m>9) .fail<|L7 v0 v3 o1 g q v5 (zc .i64<|zc .i64 (e*10)+zc .i64 (zc .u8 m)) c h (zc .i64<|b+1) j d a f) (.cd (0<(length v5:Int))<|.ite ((↑(zi<|getD v5 0 (0:UInt8)):Int)==45) (.ck true<|.ck o<|.ck h'<|.ck true<|.ck (Bk b'&&Bk k)<|.ck n<|L5 p v3 (LA b' k) (Lh b' k) f)<|.ck true<|.ck o<|.ck h'<|.ck true<|.ck (Bk b'&&Bk (e,BA e))<|.ck n<|L5 p v3 (LA b' (e,BA e)) (Lh b' (e,BA e)) f):=by kernel_rfl
end T160
end
end Go.Pe
