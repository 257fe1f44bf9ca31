import Derived.Test.YtipkapecgjpnlaaGreatDoorX13
/- A part of a proof; no law is stated here. -/
noncomputable section
set_option maxRecDepth 10000
open Go.IntKind renaming wrap -> zc, i64 -> z6
open Go.Pe.Ends renaming tt -> zd, leaf -> zh, An -> zt, ff -> zu, ite -> zw, eq -> z7
open Go.Lib renaming decDigits -> ze, decDigits_length -> zp, itoa -> zq, decDigits_one -> yp, itoa_nonneg -> qj, nDigits -> ji
open Bool renaming and_eq_true -> zf, true_and -> yv
open List renaming length_append -> zg, length_cons -> zl, take_of_length_le -> zx, drop_eq_nil_of_le -> zy, mem_singleton -> yf, append_assoc -> yo, length_drop -> yr, length_flatten -> yu, length_map -> yx, take -> qc, length_eq_zero_iff -> qd, take_succ_eq_append_getElem -> qe, flatten_cons -> qu, reverse_singleton -> qx, length -> jh, getD -> j8
open Go.Pe.Sh renaming str -> zi, list -> zk, bool -> zr, pair -> qn, int -> j5
open Int renaming toNat_natCast -> zj, natAbs_natCast -> zm, eq_ofNat_of_zero_le -> zo, tmod -> z8, natAbs_mul -> yc, mul_le_mul_of_nonneg_left -> ye, lt_of_le_of_lt -> yg, natCast_nonneg -> yh, lt_of_lt_of_le -> ym, le_of_lt -> yt, tdiv -> yw, toNat -> yz, natAbs_sign_of_ne_zero -> qp, tmod_eq_emod_of_nonneg -> qq, natAbs_ediv_le_natAbs -> qt, mul_neg -> qv, mul_ediv_cancel_left -> qw, ofNat_lt -> qz, mul_zero -> q9, add_zero -> jc, ediv_nonneg -> jf, one_mul -> jm, mul_add -> jo, mul_nonneg -> jt, gcd -> jz, add_assoc -> j0
open Rat renaming divInt -> zn, num_divInt_den -> yk, num_eq_zero -> ql, num_intCast -> je, num_divInt -> jj, den_divInt -> jk
open Nat renaming le_refl -> zz, lt_of_le_of_lt -> yi, lt_of_lt_of_le -> yj, pow_le_pow_right -> yq, eq_zero_or_pos -> yy, pow_succ -> qf, div_le_self -> qk, sub -> qo, mod_lt -> qy, add -> j6
open Go.Sp renaming vI -> yb, rN -> qg, rW -> qh, AT -> qi, B9 -> qm, DD -> j7
open UInt8 renaming ofNat -> yd, toNat -> jg
open Go.Pe.Ad renaming of -> yn
open Go.Pe.PV renaming agg -> jl
variable {Q:Go.Pe.PV->Go.Pe.Ob->Prop}
namespace Go.Pe
open Go.Det
theorem QB[Srt]{f:FuncId}{sp:Ap}{q:List V->H->Option (V×H)}(p:A9.prim f=none)(j:∃i,A9.fn f=some i)(o:A9.spec f=some q)
  (c:∀(F:Fz) (h:H) (args:List V) (i:(Bv sp.ins).T),Gh h->J1 F (Ae sp.ins i) args->sp.pre i=true->∃v,q args h=some (v,h)/\PC F (one<|Ae sp.outs<|sp.f i) v):Af A9 f sp:=by
 refine .of0 ⟨p,j,fun F h args i d g e a b=>?_⟩;obtain⟨v,l,n⟩:=c F h args i e a b;refine⟨[(v,h)],1,fun m s=>?_,fun _=>⟨_,rfl⟩,fun x r=>?_⟩
 ·obtain⟨k,rfl⟩:∃k,m=k+1:=⟨m-1,by omega⟩;rw[AZ];simp only[o,l]
 ·cases yf.1 r;exact⟨zz _,fun _ _=>rfl,g,F,fun _ _ h=>h,fun _ _ h=>.inl h,d,n⟩
theorem AaN:∃cs t fz,(3,O.cells cs t fz)∈C5/\vM cs Lib.pow10Tab=true:=⟨_,_,_,List.mem_cons_self ..,by kernel_rfl⟩
theorem YB{h:H}(a:Gh h):SK h=true:=by
 obtain⟨cs,t,fz,c,d⟩:=AaN;have b:=a _ c;unfold SK;rw[b];exact d
theorem pY[Srt]:Af A9 156 iE:=by
 refine QB (q:=Yu) ag (Bn ag) rfl fun F h args (n:Int) hg b a=>?_
 have a:Sp.Ca n=true:=a;have b:args=[.int .i64 n]:=by
  have:=b (fun _=>none) 0;simp only[Ae,iE,BC]at this;obtain⟨v,vs,rfl,d,rfl⟩:=this;obtain rfl:=Cw d;rfl
 subst b;refine⟨.str<|zq n,?_,fun ρ N=>LH _⟩;have:=EA a;have e:decide (-9223372036854775808<=n)=true:=w4 ae;have c:decide (n<=9223372036854775807)=true:=w4 ae;simp only[Yu,YB hg,e,c,Bool.and_self,we]
theorem Zf[Srt]:Af A9 160 Ro:=by
 refine .of0 ⟨by kernel_rfl,Bn ag,fun F h args (i:Z×Int) hfz hlt hgh b a=>?_⟩;obtain⟨s,n⟩:=i;have a:(decide (0<=n)&&decide (n<=18)&&decide (s=[48]))=true:=a;rw[zf,zf,w5,w5,w5]at a;obtain⟨⟨h0,h1⟩,rfl⟩:=a;obtain⟨c,rfl⟩:=zo h0;have b:args=[.str [48],.int .i64 (c:Int)]:=by
  have:=b (fun _=>none) 0;simp only[Ae,Ro,BC]at this;obtain⟨v,vs,rfl,k,w,ws,rfl,f,rfl⟩:=this;obtain rfl:=E1 k;obtain rfl:=Cw f;rfl
 subst b;have fl:∀c,List.replicate c 48=Lib.repeatL [48] c:=fun c=>by
  induction c with
  |zero=>rfl
  |succ c e=>rw[Lib.repeatL, <-e];rfl
 refine⟨[(.str<|Sp.Nj [48] (c:Int),h)],1,fun m l=>?_,fun _=>⟨_,rfl⟩,fun x j=>?_⟩
 ·obtain⟨d,rfl⟩:∃d,m=d+1:=⟨m-1,by omega⟩;have g:A9.spec 160=some fun args h=>bif Td h C5 then(match EN zZ 160 args with|some v=>some (v,h)|none=>none)else none:=rfl
  rw[AZ];simp only[g,kB hgh,we,fY<|show c<19 by omega];unfold Sp.Nj;rw[zj,fl]
 ·cases yf.1 j;exact⟨zz _,fun _ _=>rfl,hlt,F,fun _ _ h=>h,fun _ _ h=>.inl h,hfz,fun ρ N=>LH _⟩
theorem xO[Srt]:Af A9 159 UM:=by
 refine QB (q:=fmtQ) ag (Bn ag) rfl fun F h args (i:Int×Int) hg d a=>?_
 obtain⟨u,b⟩:=i;have a:(decide (0<=u)&&decide (u<1000000000000000000)&&decide (b=10))=true:=a;rw[zf,zf,w5,w5,w5]at a;obtain⟨⟨h0,h1⟩,rfl⟩:=a;obtain⟨c,rfl⟩:=zo h0;have d:args=[.int .u64 (c:Int),.int .i64 10]:=by
  have:=d (fun _=>none) 0;simp only[Ae,UM,BC]at this;obtain⟨v,vs,rfl,g,w,ws,rfl,f,rfl⟩:=this;obtain rfl:=Cw g;obtain rfl:=Cw f;rfl
 subst d;refine⟨.str<|Sp.AV (c:Int),?_,fun ρ N=>LH _⟩;have j:Nat.ble c 18446744073709551615=true:=Nat.ble_eq_true_of_le ae;have e:Sp.AV (c:Int)=ze c:=qj _;rw[e];show(bif SK h&&(Nat.ble c 18446744073709551615&&Nat.beq 10 10)then some (V.str<|ze c,h)else none)=_;rw[YB hg,j];rfl
namespace T97
abbrev mM(s:Z):List Int:=List.map (fun b=>(↑(jg b):Int)) s
theorem Vh:∀s:Z,List.map (fun x:Int=>yd<|yz x) (mM s)=s
 |[]=>rfl
 |b::s=>by
  have:=Vh s;simp only[mM,List.map_cons]at this ⊢;rw[this];simp
theorem YH:∀s:Z,(List.all (mM s) fun x=>decide ((0:Int)<=x)&&decide (x<(256:Int)))=true
 |[]=>rfl
 |b::s=>by
  have a:=YH s;have c:=b.toNat_lt;simp only[mM,List.map_cons,List.all_cons]at a ⊢;rw[a,Bool.and_true,zf,w5,w5];omega
theorem sN(a b:Z):mM a++mM b=mM (a++b):=by simp[mM]
theorem EB[Srt](c:List Z)(T:Z)(l:T.length<=1000000)(m:c.length<=1000000)(j:∀ob,Q (.dat .str T) ob):∀(i:Nat) (a:Z) (b:Int) (n:Nat),i<=c.length->b=(i:Int)-1->n=a.length->0<a.length->a++(c.take i).reverse.flatten=T->
  Ends Qb (L6 c.length b (mM a) n c) Q
 |0,a,b,n,_,o,g,h0,d=>by
  have d:a=T:=by simpa using d
  subst d g;refine zt (Gu ..) (zu (w8 ae)<|zd (w4 h0)<|zd (Ab (Ab (Ab (w4 ae)<|w4<|by simp)<|w4<|by simp;omega)<|YH a)<|zh ?_);have e:List.map (fun x:Int=>yd<|yz x) (qc (yz (a.length:Int))<|mM a)=a:=by
   rw[zj,zx (by simp),Vh]
  rw[e];exact j _
 |i+1,a,b,n,k,o,g,h0,d=>by
  have q:j8 c (yz b) []=c[i]:=by
   rw[show yz b=i from by omega];simp[show i<c.length from k]
  have h:a++c[i]++(c.take i).reverse.flatten=T:=by
   have p:c.take (i+1)=c.take i++[c[i]]:=qe k;rw[<-d,p,List.reverse_append,qx,List.singleton_append,qu,yo]
  have f:=wi jh h;simp only[zg]at f;refine zt (Gu ..) (zd (w4 ae)<|zd (ad ae ae)<|zd (w4 ae) ?_);rw[q];refine zd (Ab (w4<|by simp[g])<|w4<|by rw[yx];omega) ?_;rw[sN,wr (b-1) ae ae];exact EB c T l m j i (a++c[i]) (b-1) _ ae ae (by rw[zg,yx,g];rfl) (by rw[zg];omega) h
theorem Fo[Srt](a:List Z)(T:Z)(h:T.length<=1000000)(l:a.length<=1000000)(n:∀ob,Q (.dat .str T) ob)(i:Nat)(k:i+1=a.length)(b:Int)(o:b=(i:Int))(c:0<(a[i]'ae).length)(j:a.reverse.flatten=T):
  Ends Qb (L8 a.length b a) Q:=by
 have e:i<a.length:=ae
 have m:j8 a (yz b) []=a[i]:=by
  rw[show yz b=i from by omega];simp[e]
 have f:a[i]++(a.take i).reverse.flatten=T:=by
  have g:a.take (i+1)=a.take i++[a[i]]:=qe e;rw[k,List.take_length]at g;rw[<-j];conv=>rhs;rw[g]
  rw[List.reverse_append,qx,List.singleton_append,qu]
 have d:=wi jh f;simp only[zg]at d;refine zt (H3 ..) (zd (w4 ae)<|zd (ad ae ae)<|zd (w4 ae) ?_);rw[m];refine zd (w4<|by rw[yx];exact c) (zd (w4<|by rw[yx];omega) ?_);rw[wr (b-1) ae ae];exact EB a T h l n i a[i] (b-1) _ ae ae (by rw[yx]) c f
end T97
open Sp
theorem TA{r:Int}(h0:0<r)(d:r<18446744073709551616):BD r=[r]:=by
 have f:Aw Ao [r]:=by
  intro x a;rw[yf]at a;subst a;exact⟨by omega,d⟩
 have e:Sp.nz [r]:=by
  unfold Sp.nz;simp;omega
 have:=Iw (b:=Ao) af f e;have c:Sp.val Ao [r]=r:=by simp[Sp.val]
 rw[c]at this;exact this.symm
theorem Ky:BD 0=[]:=by
 unfold BD;rfl
theorem O5:Aq [1000000000000000000]=1000000000000000000:=by simp[Aq,Sp.val]
theorem ZE(n:Nat):Nj [48] (n:Int)=List.replicate n 48:=by
 unfold Nj;rw[zj];induction n with
 |zero=>rfl
 |succ n a=>rw[Lib.repeatL,a];rfl
theorem Sr(V:Nat):Aq (BD (V:Int))=(V:Int):=CU (b:=Ao) af ae
theorem bH{V:Nat}(a:(V:Int)<(Ao:Int)^9000):S6 (BD (V:Int)) [1000000000000000000]=true:=by
 obtain⟨n1,d,c⟩:=CT (n:=(V:Int)) ae a ae;have b:=Kj (n:=(V:Int)) ae a;unfold S6;refine Ab (Ab (Ab (Ab n1 ?_)<|w4 b)<|w4 af) (w4<|by rw[O5];decide);decide
theorem UU(V:Nat):BD (Aq (BD (V:Int))/Aq (qc 1 [1000000000000000000]))=BD ((V/10^18:Nat):Int):=by
 rw[Sr,show qc 1 [(1000000000000000000:Int)]=[1000000000000000000]from rfl,O5];congr 1
theorem T5(V:Nat):BD (Aq (BD (V:Int)) % Aq (qc 1 [1000000000000000000]))=BD ((V % 10^18:Nat):Int):=by
 rw[Sr,show qc 1 [(1000000000000000000:Int)]=[1000000000000000000]from rfl,O5];congr 1
theorem Jl{V:Nat}(h:0<V):0<(BD (V:Int)).length:=by
 rcases yy (BD (V:Int)).length with e|e
 ·have a:=Sr V;rw[qd.1 e]at a;have b:Aq []=0:=rfl;rw[b]at a;omega
 ·exact e
theorem Nv:∀(k u:Nat),u<10^(k+1)->ji u<=k+1
 |0,u,h=>by rw[Lib.nDigits_small ae];omega
 |k+1,u,h=>by
  by_cases c:u<10
  ·rw[Lib.nDigits_small c];omega
  ·rw[Lib.nDigits_big c];have:u/10<10^(k+1):=by rw[qf]at h;omega
   have:=Nv k (u/10) this;omega
theorem R6{r:Nat}(h:r<10^18):(ze r).length<=18:=by
 rw[zp];exact Nv 17 r h
theorem LZ(r:Nat):AV (r:Int)=ze r:=qj r
theorem RP(r:Nat)(h:r<10^18):Nj [48] ((18:Int)-((ze r).length:Int))++ze r=F4 18 r:=by
 have:=R6 h;rw[show(18:Int)-((ze r).length:Int)=((18-(ze r).length:Nat):Int)from by omega,ZE,zp];rfl
structure Small(V:Nat):Prop where
 h:(V:Int)<(Ao:Int)^9000
theorem Small.le{a b:Nat}(h:Small b)(c:a<=b):Small a:=⟨yg (Int.ofNat_le.mpr c) h.h⟩
theorem Small.div{V:Nat}(h:Small V):S6 (BD (V:Int)) [1000000000000000000]=true:=bH h.h
namespace T97
def Exit[Srt](neg:Bool)(G:List Z)(Q:PV->Ob->Prop):Prop:=Ends Qb (.ite neg (.ite true (.ite true (L6 G.length (zc z6<|(G.length:Int)-1) (List.map (fun b=>(↑(jg b):Int)) [(45:UInt8)]) 1 G) .fail)<|L7 G.length (zc z6<|(G.length:Int)-1) G)<|L8 G.length (zc z6<|(G.length:Int)-1) G) Q
theorem A1[Srt](neg:Bool)(G:List Z)(hG:G.length<=1000000)(b:Exit neg G Q):∀(f V:Nat) (o1:List Z),V<f->Small V->o1++(if V=0 then[]else B8 f V)=G->Ends Qb (L2 neg (BD (V:Int)) 1 o1.length o1 [1000000000000000000]) Q
 |0,V,o1,h,_,_=>by omega
 |f+1,V,o1,h,l,e=>by
  rcases yy V with h0|h0
  ·subst h0;have e:o1=G:=by simpa using e
   subst e;refine zt (AO ..) (zu (by rw[show((0:Nat):Int)=0 from rfl,Ky];rfl) ?_);exact b
  have i:V % 10^18<10^18:=qy _ af;rw[wc ae]at e;have m:∀s,s=(if V/10^18=0 then ze (V % 10^18)else F4 18<|V % 10^18)->(o1++[s])++(if V/10^18=0 then[]else B8 f<|V/10^18)=G:=by
   rintro s rfl;rw[<-e,yo];congr 1;have o:B8 (f+1) V=if V<10^18 then[ze V]else F4 18 (V % 10^18)::B8 f (V/10^18):=rfl
   rw[o];by_cases c:V<10^18
   ·rw[wd c,wd ae,wd ae,Nat.mod_eq_of_lt c];rfl
   ·rw[wc c,wc ae,wc ae];rfl
  have q:o1.length+1<=1000000:=by
   have:=wi jh<|m _ rfl;simp only[zg,List.length_singleton]at this;omega
  have next:∀s,s=(if V/10^18=0 then ze (V % 10^18)else F4 18<|V % 10^18)->Ends Qb (L2 neg (BD ((V/10^18:Nat):Int)) 1 (j6 o1.length 1) (o1++[s]) [1000000000000000000]) Q:=by
   intro s t;have:=A1 neg G hG b f (V/10^18) (o1++[s]) ae (l.le<|qk _ _)<|m s t;rw[zg]at this;exact this
  refine zt (AO ..) (zd (w4 (by have:=Jl h0;omega))<|zd (Ab rfl l.div) ?_);rw[UU,T5];rcases yy (V % 10^18)with k|k
  ·have d:V/10^18≠0:=ae
   rw[k,show((0:Nat):Int)=0 from rfl,Ky];refine zu rfl (zd (w4 (by have:=Jl (V:=V/10^18) ae;omega))<|zd rfl (zd rfl (zd (Ab (w4 rfl)<|w4 ae)<|next _ ?_)));have n:=RP 0 af;rw[yp ae]at n;rw[wc d,k, <-n];rfl
  ·rw[TA (r:=((V % 10^18:Nat):Int)) ae ae];have j:j8 [((V % 10^18:Nat):Int)] 0 0=((V % 10^18:Nat):Int):=rfl;rw[j,LZ];have u:=R6 i;have g:((V % 10^18:Nat):Int)<1000000000000000000:=ae
   have p:0<(ze<|V % 10^18).length:=by
    rw[zp,ji];split<;>omega
   refine zd rfl (zd rfl (zd (Ab (Ab (w4<|yh _)<|w4 g) rfl) ?_));rw[wr _ ae ae];by_cases d:V/10^18=0
   ·rw[d];refine zu (by rw[show((0:Nat):Int)=0 from rfl,Ky];rfl) (zd (Ab (Ab rfl (w4 rfl))<|w4 ae) ?_);have:=next _ rfl;rw[wd d,d]at this;exact this
   ·have a:=RP _ i;refine zd (w4 (by have:=Jl (V:=V/10^18) ae;omega)) (zd (Ab (ad ae ae) rfl)<|zd (w4 ?_) (zd (Ab (Ab rfl (w4 rfl))<|w4 ae)<|next _ ?_))
    ·rw[<-zg,a];unfold F4;rw[zg,List.length_replicate];omega
    ·rw[wc d];exact a
end T97
end Go.Pe
namespace Go.Sp
theorem Fs{n d:Int}(a:d≠0):(zn n d).num.natAbs<=n.natAbs/\(zn n d).den<=d.natAbs:=by
 rw[jj,jk,wc a];refine⟨?_,qk _ _⟩;refine Nat.le_trans (qt _ _) ?_;rw[yc,qp a,Nat.one_mul];exact zz _
theorem Kd{n d:Int}{k:Nat}(a:d≠0)(b:n.natAbs<10^k)(c:d.natAbs<10^k):GM k (zn n d):=
 ⟨yi (Fs a).1 b,yi (Fs a).2 c⟩
theorem GM.mono{j k:Nat}{q:Rat}(h:GM j q)(a:j<=k):GM k q:=
 ⟨yj h.1 (yq af a),yj h.2<|yq af a⟩
theorem Dt{a b i j:Nat}(c:a<10^i)(d:b<10^j):a*b<10^(i+j):=by
 rw[Nat.pow_add];exact yi (Nat.mul_le_mul_left _<|Nat.le_of_lt d) ((Nat.mul_lt_mul_right<|Nat.pow_pos af).2 c)
theorem I2(q:Rat):(q.den:Int)≠0:=by have:=q.den_pos;omega
theorem GM.mul{p q:Rat}{i j:Nat}(a:GM i p)(b:GM j q):GM (i+j) (p*q):=by
 have h:=Rat.divInt_mul_divInt p.num q.num (d₁:=p.den) (d₂:=q.den);rw[yk,yk]at h;rw[h];refine Kd ?_ ?_ ?_
 ·exact Int.mul_ne_zero (I2 p)<|I2 q
 ·rw[yc];exact Dt a.1 b.1
 ·rw[yc,zm,zm];exact Dt a.2 b.2
theorem GM.add{p q:Rat}{i j:Nat}(b:GM i p)(a:GM j q):GM (i+j+1) (p+q):=by
 have h:=Rat.divInt_add_divInt p.num q.num (I2 p)<|I2 q;rw[yk,yk]at h;rw[h];have a1:=Dt b.1 a.2;have a2:=Dt a.1 b.2;have a3:=Dt b.2 a.2;rw[Nat.add_comm]at a2;refine Kd (Int.mul_ne_zero (I2 p)<|I2 q) ?_ ?_
 ·refine yi (Int.natAbs_add_le _ _) ?_;rw[yc,yc,zm,zm,qf];omega
 ·rw[yc,zm,zm,qf];omega
theorem GM.neg{q:Rat}{k:Nat}(h:GM k q):GM k (-q):=by
 unfold GM at*;rw[Rat.neg_num,Rat.neg_den,Int.natAbs_neg];exact h
theorem GM.sub{p q:Rat}{i j:Nat}(a:GM i p)(b:GM j q):GM (i+j+1) (p-q):=by
 rw[Rat.sub_eq_add_neg];exact a.add b.neg
theorem GM.inv{q:Rat}{k:Nat}(h:GM k q)(h0:q≠0):GM k q⁻¹:=by
 have e:=Rat.inv_divInt q.num q.den;rw[yk]at e;rw[e];exact Kd (fun x=>h0<|ql.mp x) (by rw[zm];exact h.2) h.1
theorem GM.div{p q:Rat}{i j:Nat}(a:GM i p)(b:GM j q)(h0:q≠0):GM (i+j) (p/q):=by
 rw[Rat.div_def];exact a.mul<|b.inv h0
theorem Hq{u k:Nat}(h:u<10^k)(a:1<=k):(ze u).length<=k:=by
 rw[zp];obtain⟨j,rfl⟩:∃j,k=j+1:=⟨k-1,by omega⟩;exact Go.Pe.Nv j u h
theorem DJ(u:Nat){k:Nat}(h:(ze u).length<=k):u<10^k:=by
 rw[zp]at h;exact yj (Lib.lt_pow_nDigits u) (yq af h)
theorem N5{q:Rat}{k:Nat}(h:GM k q)(a:1<=k):(A5 q).length<=2*k+2:=by
 have b:=Hq h.1 a;have d:=Hq h.2 a;have c:(zq q.num).length<=k+1:=by
  unfold zq;split
  ·rw[zl];omega
  ·rw[show q.num.toNat=q.num.natAbs by omega];omega
 unfold A5;split
 ·omega
 ·rw[zg,zl];omega
def BB(s:Z):Bool:=decide (A5 (A8 s)=s)&&decide (s.length<=4000)
theorem Gq{s:Z}(h:BB s=true):A5 (A8 s)=s/\s.length<=4000:=by
 unfold BB at h;rwa [zf,w5,w5]at h
theorem QD{q:Rat}{k:Nat}(h:GM k q)(a:k<=1999):BB (A5 q)=true:=by
 have b:=N5 (h.mono a) af;unfold BB;rw[DQ,w4 rfl,w4 ae];rfl
theorem FV{s:Z}(h:BK s=0):BB s=true/\GM 600 (A8 s):=by
 obtain⟨b,_,_,a⟩:=QG h;exact⟨by rw[<-b];exact QD a af,a⟩
theorem R3{s:Z}(h:BB s=true):GM 4000 (A8 s):=by
 obtain⟨d,f⟩:=Gq h;have e:(A5<|A8 s).length<=4000:=by rw[d];exact f
 generalize A8 s=q at*;have a:=DJ q.num.natAbs<|zz _;have b:=DJ q.den<|zz _;have g:(ze q.num.natAbs).length<=(zq q.num).length:=by
  unfold zq;split
  ·rw[zl];omega
  ·rw[show q.num.toNat=q.num.natAbs by omega];exact zz _
 unfold A5 at e;split at e
 ·next c=>exact⟨DJ (k:=4000) _ ae,by rw[c];exact Od 4000 af⟩
 ·rw[zg,zl]at e;exact⟨DJ (k:=4000) _ ae,DJ (k:=4000) _ ae⟩
theorem QF(q:Rat):GV (A5 q)=Ul q.num:=by
 have h0:A5 q=[48]↔q=0:=by
  have:A5 (0:Rat)=[48]:=by
   unfold A5;rw[wd<|show Rat.den 0=1 from rfl];show zq 0=[48];unfold zq;rw[wc af,show(0:Int).toNat=0 from rfl,yp af];rfl
  rw[<-this];exact⟨aH,fun h=>by rw[h]⟩
 unfold GV Ul;by_cases a:q=0
 ·rw[wd<|h0.2 a,a];rfl
 ·rw[wc<|fun h=>a<|h0.1 h];have e:q.num≠0:=fun h=>a<|ql.mp h
  have d:(A5 q).getD 0 0=(zq q.num).getD 0 0:=by
   unfold A5;split
   ·rfl
   ·have:zq q.num≠[]:=by unfold zq;split;exact List.cons_ne_nil _ _;exact kD _
    cases b:zq q.num with
    |nil=>exact wh b this
    |cons c r=>rfl
  rw[d];unfold zq;by_cases h:q.num<0
  ·rw[wd h,wd h];rfl
  ·rw[wc h,wc h,wc<|Fq<|D6 _,wd ae]
theorem TP(n:Int)(h:n≠0):zq (-n)=if n<0 then(zq n).drop 1 else 45::zq n:=by
 unfold zq;by_cases c:n<0
 ·rw[wc ae,wd c,wd c,show(-n).toNat=n.natAbs by omega];rfl
 ·rw[wd ae,wc c,wc c,show(-n).natAbs=n.toNat by omega]
theorem cC(q:Rat):KX (A5 q)=A5 (-q):=by
 have a:=QF q;unfold GV at a;unfold KX;by_cases h0:A5 q=[48]
 ·rw[wd h0]at a ⊢;have:q.num=0:=by
   unfold Ul at a;split at a
   ·exact wh a af
   ·split at a
    ·exact wh a af
    ·omega
  have:q=0:=ql.mp this;rw[this];rfl
 ·rw[wc h0]at a ⊢;have b:q.num≠0:=by
   intro h;rw[h]at a;split at a<;>exact wh a af
  have e:A5 (-q)=if q.num<0 then(A5 q).drop 1 else 45::A5 q:=by
   unfold A5;rw[Rat.neg_num,Rat.neg_den,TP _ b];by_cases c:q.num<0
   ·rw[wd c,wd c];have:zq q.num=45::ze q.num.natAbs:=by unfold zq;rw[wd c]
    rw[this];split<;>rfl
   ·rw[wc c,wc c];split<;>rfl
  rw[e];unfold Ul at a;by_cases c:q.num<0
  ·rw[wd c]at a ⊢;split at a
   ·next k=>rw[wd k]
   ·exact wh a af
  ·rw[wc c,wd<|show q.num>0 by omega]at a;rw[wc c];split at a
   ·exact wh a af
   ·next k=>rw[wc k]
open Go.Lib
theorem Mc:∀(f n l:Nat) (a:Z),l<=a.length->n<10^f->HU f n l a=if n=0 then a else decDigits n++a
 |0,n,l,a,_,b=>by rw[Nat.pow_zero]at b;rw[wd ae];rfl
 |f+1,n,l,a,d,b=>by
  rw[qf]at b;unfold HU;by_cases h:n=0
  ·rw[wd ⟨h,d⟩,wd h]
  ·rw[wc<|fun k=>h k.1,wc h,Mc f (n/10) l _ (by rw[zl];omega) ae];by_cases c:n/10=0
   ·rw[wd c,decDigits_one ae,show n % 10=n by omega];rfl
   ·have e:=FH (n/10) (n % 10) ae ae;rw[show 10*(n/10)+n % 10=n by omega]at e;rw[wc c,e,yo];rfl
theorem bS{d:Nat}(h:d<10):F4 1 d=[yd<|48+d]:=by
 unfold F4;rw[nDigits_small h,decDigits_one h];rfl
theorem Ur:∀(k f n l:Nat) (a:Z),a.length+(k+1)=l->n<10^(k+1)->k+1<=f->HU f n l a=F4 (k+1) n++a
 |k,0,n,l,a,_,_,h=>by omega
 |0,f+1,n,l,a,c,b,_=>by
  unfold HU;rw[wc ae,bS ae,Mc f (n/10) l _ (by rw[zl];omega) (by rw[show n/10=0 by omega];exact Nat.pow_pos af),wd ae,show n % 10=n by omega];rfl
 |k+1,f+1,n,l,a,c,b,d=>by
  rw[qf]at b;have e:=Q1 (k+1) (n/10) (n % 10) ae ae;rw[show 10*(n/10)+n % 10=n by omega]at e;unfold HU;rw[wc ae,Ur k f (n/10) l _ (by rw[zl];omega) ae ae,e,yo];rfl
theorem Pg{n:Int}(h0:0<=n)(a:n<9223372036854775808):IQ n 1=decDigits n.toNat:=by
 show HU 64 n.toNat 1 []=_;unfold HU;rw[wc<|by simp];rw[Mc 63 (n.toNat/10) 1 _ (by simp) ae];by_cases h:n.toNat<10
 ·rw[wd ae,decDigits_one h,show n.toNat % 10=n.toNat by omega]
 ·have e:=FH (n.toNat/10) (n.toNat % 10) ae ae;rw[show 10*(n.toNat/10)+n.toNat % 10=n.toNat by omega]at e;rw[wc ae,e]
theorem Zv{n:Int}(h0:0<=n)(a:n<1000000000):IQ n 9=F4 9 n.toNat:=by
 show HU 64 n.toNat 9 []=_;rw[Ur 8 64 n.toNat 9 [] rfl ae af,List.append_nil]
def Cx(n d:Int):Z:=A5<|zn n d
theorem ZY(n:Int):itoa n=(if n<0 then[45]else[])++decDigits n.natAbs:=by
 unfold itoa;split
 ·rfl
 ·rw[show n.toNat=n.natAbs by omega];rfl
def vR(a:Bool×List Int):Int:=if a.1=true then -Aj a.2 else Aj a.2
def Ce(a:Bool×List Int):Bool:=A0 a.2&&decide (a.2.length<=3000)&&(!a.1||decide (a.2≠[]))
def H5(l:List Int)(i:Int):Int:=l.getD i.toNat 0
def fF(a b:List Int):Bool:=A0 a&&A0 b&&decide (a.length<=9000)&&decide (b.length<=9000)
def HG(a b:List Int):List Int:=BG<|Aj a+Aj b
def IS(a b:List Int):List Int:=BG<|Aj a-Aj b
def MM(a b:Bool×List Int):Bool:=rN<|vR a+vR b
def MJ(a b:Bool×List Int):List Int:=rW<|vR a+vR b
def HP(a b:Bool×List Int):Bool:=rN<|vR a*vR b
def Hk(a b:Bool×List Int):List Int:=rW<|vR a*vR b
def SI(a:Bool×List Int):Bool:=rN<| -vR a
def RN(a:Bool×List Int):List Int:=rW<| -vR a
def Il(a b:Bool×List Int):Bool:=rN<|vR a/vR b
def IM(a b:Bool×List Int):List Int:=rW<|vR a/vR b
def Gj(a:Bool×List Int):Z:=AV<|vR a
def Iu(n d:Bool×List Int):Z:=Cx (vR n)<|vR d
def lW(a:Z):Int:=if D5 a=true then Iy a else 0
def Tw(a:Z):Int:=if D5 a=true then Sv a else 0
def H7(a b:Z):Z:=A5<|A8 a+A8 b
def M9(a b:Z):Z:=A5<|A8 a-A8 b
def Ko(a b:Z):Z:=A5<|A8 a*A8 b
def SO(a:Z):Z:=A5 (A8 a)⁻¹
def JL(a b:Z):Z:=A5<|A8 a/A8 b
def ZH(a b:Z):Int:=if A8 a<A8 b then -1 else if A8 b<A8 a then 1 else 0
def Gz(a:Z):Z:=AV (A8 a).floor
def Oj(a:Z):Bool:= !BE a
def GK(a:Z):Bool:=BB a&&decide (a.length<=3000)
def Z3(a:Z):Bool:=GK a&&decide (A8 a≠0)
end Go.Sp
namespace Go.Pe
open Sp
open Go.Det
def Vt:Ap:=⟨[li,i64],fun i=>decide (0<=(i.2:Int)),[i64],fun i=>H5 i.1 i.2,false⟩
def WL:Ap:=⟨[li,li],fun i=>fF i.1 i.2,[li],fun i=>HG i.1 i.2,false⟩
def Wm:Ap:=⟨[li,li],fun i=>fF i.1 i.2&&decide (Aj i.2<=Aj i.1),[li],fun i=>IS i.1 i.2,false⟩
def kU:Ap:=⟨[Hm,Hm],fun i=>Ce i.1&&Ce i.2,[Hm],fun i=>(MM i.1 i.2,MJ i.1 i.2),false⟩
def Yd:Ap:=⟨[Hm,Hm],fun i=>Ce i.1&&Ce i.2,[Hm],fun i=>(HP i.1 i.2,Hk i.1 i.2),false⟩
def XO:Ap:=⟨[Hm],fun a=>Ce a,[Hm],fun a=>(SI a,RN a),false⟩
def Xl:Ap:=⟨[Hm,Hm],fun i=>Ce i.1&&Ce i.2&&decide (0<Sp.vR i.2),[Hm],fun i=>(Il i.1 i.2,IM i.1 i.2),false⟩
def SU:Ap:=⟨[Hm],fun a=>Ce a,[.str],fun a=>Gj a,false⟩
def O8:Ap:=⟨[Hm,Hm],fun i=>Ce i.1&&Ce i.2&&decide (Sp.vR i.2≠0),[.str],fun i=>Iu i.1 i.2,false⟩
def Xo:Ap:=⟨[i64,i64],fun i=>Ca i.1&&Ca i.2&&decide ((i.2:Int)≠0),[.str],fun i=>Cx i.1 i.2,false⟩
def NF:Ap:=⟨[.str],fun s=>BB s,[i64,i64,.bool],fun s=>(lW s,Tw s,D5 s),false⟩
def US:Ap:=⟨[.str,.str],fun i=>BB i.1&&BB i.2,[.str],fun i=>H7 i.1 i.2,false⟩
def iY:Ap:=⟨[.str,.str],fun i=>BB i.1&&GK i.2,[.str],fun i=>M9 i.1 i.2,false⟩
def Re:Ap:=⟨[.str,.str],fun i=>BB i.1&&BB i.2,[.str],fun i=>Ko i.1 i.2,false⟩
def vJ:Ap:=⟨[.str],fun s=>Z3 s,[.str],fun s=>SO s,false⟩
def uO:Ap:=⟨[.str,.str],fun i=>BB i.1&&Z3 i.2,[.str],fun i=>JL i.1 i.2,false⟩
def uC:Ap:=⟨[.str,.str],fun i=>BB i.1&&GK i.2,[i64],fun i=>ZH i.1 i.2,false⟩
def YT:Ap:=⟨[.str],fun s=>BB s,[.str],fun s=>Gz s,false⟩
def XC:Ap:=⟨[.str],fun s=>decide (s.length<=1000000),[.bool],fun s=>Oj s,false⟩
def XR0[Srt]:AR:=X7 []
def Vl[Srt]:AR:=X7 [(283,Vt),(239,Rv)]
def XR2[Srt]:AR:=X7 [(164,GU),(236,WL),(237,YN),(238,Wm),(169,Xj),(168,QX)]
def XR3[Srt]:AR:=X7 [(107,PD)]
def mH[Srt]:AR:=cD [(104,[3,7,9])] [] [(104,[(3,[2,3]),(7,[8,10]),(9,[8,10])])] [(167,XO),(153,Ln),(168,QX),(164,GU),(100,SU)]
def aX[Srt]:AR:=cD [(61,[3,5,7,11])] [] [(61,[(3,[0,1]),(5,[0,1]),(7,[0,1]),(11,[1,6])])] [(101,Jr),(104,O8),(106,uE),(107,PD)]
def vD[Srt]:AR:=cD [(98,[5]),(60,[5])] [] [(98,[(5,[0,1])]),(60,[(5,[0,1])])] [(102,NF),(61,Xo),(103,Nt),(163,kU),(105,Yd),(104,O8)]
def XR7[Srt]:AR:=X7 [(172,vJ),(60,Re),(98,US),(99,eF)]
def XR8[Srt]:AR:=X7 [(58,iY),(154,RC),(151,RX)]
def XR9[Srt]:AR:=X7 [(103,Nt),(171,Xl),(100,SU),(170,XC)]
def RT:Ap:=⟨[],fun _=>true,[.bool],fun _=>true,false⟩
theorem Vb[Srt]:Af A9 8 RT:=by
 refine .of0 ⟨by kernel_rfl,Bn ag,fun F h args i b d c a _=>?_⟩;have f:args=[]:=by
  have:=a (fun _=>none) 0;simpa [Ae,RT]using this
 subst f;refine⟨[(.bool true,h)],1,fun m k=>?_,fun _=>⟨_,rfl⟩,fun x j=>?_⟩
 ·obtain⟨e,rfl⟩:∃e,m=e+1:=⟨m-1,by omega⟩;have g:A9.spec 8=some fun args h=>bif Td h C5 then(match EN A7 8 args with|some v=>some (v,h)|none=>none)else none:=rfl
  rw[AZ];simp only[g,kB c,we];rfl
 ·cases yf.1 j;exact⟨zz _,fun _ _=>rfl,d,F,fun _ _ h=>h,fun _ _ h=>.inl h,b,fun ρ N=>DE _⟩
end Go.Pe
namespace Go.Sp
def MH(a:Al):Z:=if CM a.2=true then AV (vI a.1)else AV (vI a.1)++47::AV (vI a.2)
end Go.Sp
namespace Go.Pe
open Go.Det
def cR:Ap:=⟨[A6],fun a=>Sp.Fc (a:Sp.Al),[.str],fun a=>Sp.MH a,false⟩
def XX2[Srt]:AR:=X7 [(96,P7),(97,Aap)]
end Go.Pe
namespace Go.Sp
def rO(a u:Z):Bool:=BB a&&Z3 u&&BB (JL a u)&&BB (H7 (JL a u) [49,47,50])&&BB (Gz<|H7 (JL a u) [49,47,50])
def oR(a u:Z):Z:=Ko (Gz<|H7 (JL a u) [49,47,50]) u
end Go.Sp
namespace Go.Pe
open Go.Det
def Yt:Ap:=⟨[.str,.str],fun i=>Sp.rO i.1 i.2,[.str],fun i=>Sp.oR i.1 i.2,false⟩
end Go.Pe
namespace Go.Sp
def mI(s:Z):Al:=((fU s,cS s),(Xd s,V1 s))
theorem bI(q:Rat):xQ (A5 q)=ze q.den:=by
 obtain⟨_,b,a⟩:=G9 q;unfold xQ;rw[b,a];by_cases h:q.den=1
 ·rw[wc (by simpa using h),h,yp af];rfl
 ·rw[wd<|w4 h,wc h]
theorem Qu:A5 0=[48]:=by
 unfold A5;rw[wd<|show Rat.den 0=1 from rfl];show zq 0=[48];unfold zq;rw[wc af,show(0:Int).toNat=0 from rfl,yp af];rfl
theorem K1{s:Z}(h:BB s=true):s=[48]↔A8 s=0:=by
 obtain⟨a,_⟩:=Gq h;constructor
 ·rintro rfl;rw[<-Qu,DQ]
 ·intro e;rw[<-a,e,Qu]
theorem HO{s:Z}(h:GK s=true):BB s=true/\s.length<=3000:=by
 unfold GK at h;rwa [zf,w5]at h
theorem zN{s:Z}(h:GK s=true)(h0:s≠[48]):Z3 s=true:=by
 unfold Z3;rw[h,yv];exact w4 fun e=>h0<|(K1 (HO h).1).2 e
theorem Ww{s:Z}(h:Z3 s=true):GK s=true/\A8 s≠0:=by
 unfold Z3 at h;rwa [zf,w5]at h
theorem iV{q:Rat}{k:Nat}(h:GM k q)(a:k<=400000):(A5 q).length<=1000000:=by
 have:=N5 (h.mono<|show k<=k+1 by omega) ae;omega
structure Nu(k:Nat)(s:Z)(q:Rat):Prop where
 t:s=A5 q
 z:GM k q
theorem Nu.mono{i j:Nat}{s:Z}{q:Rat}(h:Nu i s q)(k:i<=j):Nu j s q:=⟨h.t,h.z.mono k⟩
theorem Nu.rat{k:Nat}{s:Z}{q:Rat}(h:Nu k s q):A8 s=q:=by rw[h.t,DQ]
theorem Nu.num{k:Nat}{s:Z}{q:Rat}(h:Nu k s q)(a:k<=1999):BB s=true:=by rw[h.t];exact QD h.z a
theorem Nu.GK{k:Nat}{s:Z}{q:Rat}(h:Nu k s q)(a:k<=1400):Sp.GK s=true:=by
 unfold Sp.GK;rw[h.num ae,yv,w5,h.t];have:=N5 (h.z.mono<|show k<=k+1 by omega) ae;omega
theorem Nu.K1{k:Nat}{s:Z}{q:Rat}(h:Nu k s q)(a:k<=1999):s=[48]↔q=0:=by
 rw[Sp.K1<|h.num a,h.rat]
theorem Nu.cmp{i j:Nat}{a b:Z}{p q:Rat}(d:Nu i a p)(c:Nu j b q):ZH a b=if p<q then -1 else if q<p then 1 else 0:=by
 unfold ZH;rw[d.rat,c.rat]
theorem Tm{a:Z}(h:BK a=0):Nu 600 a (A8 a):=by
 obtain⟨t,_,_,z⟩:=QG h;exact⟨t.symm,z⟩
theorem Qv(n:Int):AV n=A5 (n:Rat):=by
 unfold A5 AV;rw[wd<|Rat.den_intCast ..,je]
theorem YI:Nu 1 [49,47,50] (1/2):=by
 refine⟨by decide+kernel,?_⟩;unfold GM;decide+kernel
theorem Nu.H7{i j:Nat}{a b:Z}{p q:Rat}(d:Nu i a p)(c:Nu j b q):Nu (i+j+1) (Sp.H7 a b) (p+q):=⟨by unfold Sp.H7;rw[d.rat,c.rat],d.z.add c.z⟩
theorem Nu.M9{i j:Nat}{a b:Z}{p q:Rat}(d:Nu i a p)(c:Nu j b q):Nu (i+j+1) (Sp.M9 a b) (p-q):=⟨by unfold Sp.M9;rw[d.rat,c.rat],d.z.sub c.z⟩
theorem Nu.Ko{i j:Nat}{a b:Z}{p q:Rat}(d:Nu i a p)(c:Nu j b q):Nu (i+j) (Sp.Ko a b) (p*q):=⟨by unfold Sp.Ko;rw[d.rat,c.rat],d.z.mul c.z⟩
theorem Nu.JL{i j:Nat}{a b:Z}{p q:Rat}(d:Nu i a p)(c:Nu j b q)(h0:q≠0):Nu (i+j) (Sp.JL a b) (p/q):=⟨by unfold Sp.JL;rw[d.rat,c.rat],d.z.div c.z h0⟩
theorem PB{q:Rat}{k:Nat}(h:GM k q):GM k (q.floor:Rat):=by
 obtain⟨a,c⟩:=h;have b:=q.den_pos;unfold GM;rw[je,Rat.den_intCast,Rat.floor_def];refine⟨yi (qt _ _) a,by omega⟩
def ZQ(w:Z):Nat:=max (Bk<|AG w).length (xQ w).length
def S5(n:Int):Bool:=decide (n.natAbs<9223372036854775808)
def Qd(n:Int):Z:=A5 ((n:Int):Rat)
end Go.Sp
namespace Go.Pe
open Go.Det
def Wh:Ap:=⟨[i64],fun n=>Sp.S5 n,[.str],fun n=>Sp.Qd n,false⟩
end Go.Pe
namespace Go.Sp
def Ik(a:Lv)(b c:Int):Int:=if BK a≠0 then BK a else if A8 a<(b:Rat)\/(c:Rat)<A8 a then 3 else 0
def iF(n:Int):Al:=((n,Ct n),(1,Ct 1))
def aY(n:Int):Bool:=decide (-100000<n)&&decide (n<100000)
end Go.Sp
namespace Go.Pe
open Go.Det
def ZF:Ap:=⟨[.str,i64,i64],fun i=>decide (jh (α:=UInt8) i.1<=1000000)&&Sp.aY i.2.1&&Sp.aY i.2.2,[i64],fun i=>Sp.Ik i.1 i.2.1 i.2.2,false⟩
section
open List Int Prod
namespace T79
def T[Srt](n:Int):Tr:=tree mK false 9 79<|Ae ([j5 z6]) n
theorem Ai[Srt](n:Int):T n=.ck true (.ck true<|.leaf (jl [.dat i64 n,.dat wU<|Sp.Ct n,.dat i64 (1:Int),.dat wU<|Sp.Ct 1]) []):=by kernel_rfl
end T79
end
open Sp
section
open List Int Prod
namespace T55
def T[Srt](a:Al):Tr:=tree XX2 false 9 55<|Ae ([A6]) a
theorem Ai[Srt](a:Al):T a=let b:=yb<|fst a;.ck true (.ite (CM<|snd a) (.ck (Bd<|fst a)<|.leaf (.dat zi<|AV b) [])<|.ck (Bd<|fst a)<|.cd (length (AV b)+1<=4611686018427387904)<|.ck (Bd<|snd a)<|.cd (length (AV b++[(47:UInt8)])+length (AV<|yb<|snd a)<=4611686018427387904)<|.leaf (.dat zi<|AV b++[(47:UInt8)]++AV (yb<|snd a)) []):=by kernel_rfl
end T55
end
namespace T97
theorem As[Srt](neg:Bool)(V:Nat)(h0:0<V)(i:Small V)(hG:(B8 (V+1) V).length<=1000000)(e:Exit neg (B8 (V+1) V) Q):Ends Qb (L1 neg (BD (V:Int)) 1 [1000000000000000000]) Q:=by
 have f:V % 10^18<10^18:=qy _ af;have m:∀s,s=(if V/10^18=0 then ze (V % 10^18)else F4 18<|V % 10^18)->[s]++(if V/10^18=0 then[]else B8 V<|V/10^18)=B8 (V+1) V:=by
  rintro s rfl;have k:B8 (V+1) V=if V<10^18 then[ze V]else F4 18 (V % 10^18)::B8 V (V/10^18):=rfl
  rw[k];by_cases c:V<10^18
  ·rw[wd c,wd ae,wd ae,Nat.mod_eq_of_lt c];rfl
  ·rw[wc c,wc ae,wc ae];rfl
 have next:∀s,s=(if V/10^18=0 then ze (V % 10^18)else F4 18<|V % 10^18)->Ends Qb (L2 neg (BD ((V/10^18:Nat):Int)) 1 1 [s] [1000000000000000000]) Q:=
  fun s n=>A1 neg _ hG e V (V/10^18) [s] ae (i.le<|qk _ _)<|m s n
 refine zt (Ar ..) (zd (w4 (by have:=Jl h0;omega))<|zd (Ab rfl i.div) ?_);rw[UU,T5];rcases yy (V % 10^18)with h|h
 ·have b:V/10^18≠0:=ae
  rw[h,show((0:Nat):Int)=0 from rfl,Ky];refine zu rfl (zd (w4 (by have:=Jl (V:=V/10^18) ae;omega))<|zd rfl (zd rfl (zd rfl (next _ ?_))));have j:=RP 0 af;rw[yp ae]at j;rw[wc b,h, <-j];rfl
 ·rw[TA (r:=((V % 10^18:Nat):Int)) ae ae];have g:j8 [((V % 10^18:Nat):Int)] 0 0=((V % 10^18:Nat):Int):=rfl;rw[g,LZ];have o:=R6 f;have d:((V % 10^18:Nat):Int)<1000000000000000000:=ae
  have l:0<(ze<|V % 10^18).length:=by
   rw[zp,ji];split<;>omega
  refine zd rfl (zd rfl (zd (Ab (Ab (w4<|yh _)<|w4 d) rfl) ?_));rw[wr _ ae ae];by_cases b:V/10^18=0
  ·rw[b];refine zu (by rw[show((0:Nat):Int)=0 from rfl,Ky];rfl)<|zd rfl ?_;have:=next _ rfl;rw[wd b,b]at this;exact this
  ·have a:=RP _ f;refine zd (w4 (by have:=Jl (V:=V/10^18) ae;omega)) (zd (Ab (ad ae ae) rfl)<|zd (w4 ?_)<|zd rfl (next _ ?_))
   ·rw[<-zg,a];unfold F4;rw[zg,List.length_replicate];omega
   ·rw[wc b];exact a
end T97
theorem wR(n:Nat):(18446744073709551616:Nat)^n<=10^(20*n):=by
 rw[Nat.pow_mul];exact Nat.pow_le_pow_left af n
theorem ZS{V k:Nat}(h:(V:Int)<(Ao:Int)^k):V<18446744073709551616^k:=by
 rw[<-Ye k]at h;exact qz.mp h
theorem YU{V k:Nat}(h:(V:Int)<(Ao:Int)^k)(c:1<=k):(ze V).length<=20*k:=by
 rw[zp];obtain⟨j,b⟩:∃j,20*k=j+1:=⟨20*k-1,by omega⟩;have a:=yj (ZS h)<|wR k;rw[b]at a ⊢;exact Nv j V a
theorem Hr{V:Nat}(h:Small V):(ze V).length<=180000:=YU (k:=9000) h.h af
theorem LP:∀(f v:Nat) (s:Z),s∈B8 f v->0<s.length
 |0,v,s,h=>by cases h
 |f+1,v,s,h=>by
  have b:B8 (f+1) v=if v<10^18 then[ze v]else F4 18 (v % 10^18)::B8 f (v/10^18):=rfl
  have a:∀r,0<(ze r).length:=fun r=>by rw[zp,ji];split<;>omega
  rw[b]at h;split at h
  ·rw[yf]at h;subst h;exact a _
  ·rcases List.mem_cons.1 h with rfl|h
   ·unfold F4;rw[zg];have:=a<|v % 10^18;omega
   ·exact LP f _ s h
theorem O6:∀(l:List Z),(∀s∈l,0<s.length)->l.length<=l.flatten.length
 |[],_=>zz _
 |s::l,h=>by
  have b:=O6 l fun x a=>h x<|List.mem_cons_of_mem _ a
  have c:=h s<|List.mem_cons_self ..;rw[qu,zg,zl];omega
theorem aL{V:Nat}(h:0<V):AV (-(V:Int))=45::ze V:=Lib.itoa_neg V h
theorem oU[Srt](a:Af A9 159 UM):Dn Qb:=Aa pY<|Aa (T157.ok Gg)<|Aa QP<|Aa a<|Aa Zf AP
namespace T97
theorem ZB[Srt](neg:Bool){V:Nat}(g:Small V)(b:∀ob,Q (.dat .str (if neg=true then 45::ze V else ze V)) ob):Exit neg (B8 (V+1) V) Q:=by
 have a:=LP (V+1) V;have d:=IG (V+1) V ae;have k:=Hr g;have j:=O6 _ a;have l:(B8 (V+1) V).flatten.length=(ze V).length:=by
  rw[<-d,yu,yu,List.map_reverse,List.sum_reverse]
 have e:0<(B8 (V+1) V).length:=by
  have h:B8 (V+1) V=if V<10^18 then[ze V]else F4 18 (V % 10^18)::B8 V (V/10^18):=rfl
  rw[h];split<;>simp
 generalize B8 (V+1) V=G at*;unfold Exit;refine zw (fun c=>zd rfl (zd rfl ?_))<|fun c=>?_
 ·rw[wd c]at b;rw[wr _ ae ae];exact EB G (45::ze V) (by rw[zl];omega) ae b G.length [45] _ 1 (zz _) rfl rfl af (by rw[List.take_length,d];rfl)
 ·rw[wc<|by rw[c];decide]at b;rw[wr _ ae ae];obtain⟨i,f⟩:∃i,i+1=G.length:=⟨G.length-1,by omega⟩;exact Fo G (ze V) ae ae b i f _ ae (a _<|List.getElem_mem _) d
theorem ok[Srt](e:Af A9 159 UM):Af A9 97 Aap:=by
 refine Lq (X:=Qb) rfl (oU e) (d:=9) ag ag ag (fun(a:Int×List Int) f=>?_) (Bn ag);have f:Bd a=true:=f;have j:=(BZ f).1;have l:=(DK j).1;refine z7 (Ai a)<|zw (fun c=>zd (Et l.1 l.2)<|zh<|yn rfl rfl ?_)<|fun c=>zd j ?_
 ·have c:a.2=[]:=by simpa using c
  show AV a.1=AV (yb a);rw[Bu c]
 ·have c:a.2≠[]:=by rintro k;rw[k]at c;simp at c
  have p:=bounds f;have b:(9223372036854775808:Int)<=Ag (yb a):=by
   obtain⟨_,i⟩:=DK j;obtain⟨s,w⟩:=a;rcases i with i|⟨_,_,o⟩
   ·exact wh i c
   ·rw[VR c,Ah];have o:9223372036854775808<=Aq w:=o;split<;>omega
  obtain⟨V,r⟩:=zo<|AK<|yb a;have g:=Ah<|yb a;rw[r]at p b g ⊢;have h:Small V:=⟨p⟩;have u:=Hr h;have q:0<V:=ae
  have v:=O6 _<|LP (V+1) V;have t:=IG (V+1) V ae;have m:(B8 (V+1) V).flatten.length=(ze V).length:=by
   rw[<-t,yu,yu,List.map_reverse,List.sum_reverse]
  refine As _ V q h ae<|ZB _ h fun ob=>yn rfl rfl ?_;show(if decide (yb a<0)=true then 45::ze V else ze V)=AV (yb a);by_cases n:yb a<0
  ·rw[wd<|w4 n,show yb a= -(V:Int)from by omega,aL q]
  ·rw[wc (by simpa using n),show yb a=(V:Int)from by omega,LZ]
end T97
theorem WV{k:Nat}{n d:Int}(a:d≠0)(b:Ag n<(Ao:Int)^k)(c:Ag d<(Ao:Int)^k):Lr k (zn n d):=by
 unfold Lr;rw[jj,jk,wc a];constructor
 ·refine yg V5 ?_;rw[Jg];have:Ag d.sign=1:=by rw[Ah,qp a];rfl
  rw[this,jm];exact b
 ·refine yg ?_ c;rw[Ah];exact Int.ofNat_le.mpr<|qk _ _
theorem oT{f:Al}(h:j7 f=true)(h0:yb f.1≠0):j7 (Uo f)=true:=by
 obtain⟨a1,a2,a,b,a0⟩:=FU h;exact(Li a2 a1 h0).DD<|WV h0 b a
theorem sT{f:Al}(h:j7 f=true):j7 (zI f)=true:=by
 obtain⟨a1,a2,a,b,a0⟩:=FU h;unfold j7 Sp.Fc at*;have c:=Wf (k:=4000) (BZ a1).1 ae ae<|SL (BZ a1).1 a;exact Ab (Ab (F7 c.1<|by show Ag (yb<|CY f.1)<_;rw[Ib,Ic];exact a)<|F7 (BZ a2).1 b)<|w4 a0
theorem Yg[Srt]:Dn XA3:=Aa T140.ok<|Aa T82.ok<|Aa T78.ok<|Aa T137.ok AP
theorem T83.ok[Srt]:Af A9 83 tH:=by
 refine BM Yg<|fun(i:((Int×List Int)×(Int×List Int))×((Int×List Int)×(Int×List Int))) c=>?_;obtain⟨a,b⟩:=i;have c:(j7 a&&j7 b)=true:=c;rw[zf]at c;obtain⟨b1,b2,lb1,lb2,b0⟩:=FU c.2;exact z7 (T83.Ai a b)<|zd (BZ b1).1<|zd (Ab c.1<|sT c.2)<|zh<|yn rfl rfl rfl
theorem T80.ok[Srt]:Af A9 80 jE:=by
 refine BM Yg<|fun(i:((Int×List Int)×(Int×List Int))×((Int×List Int)×(Int×List Int))) c=>?_;obtain⟨a,b⟩:=i;have c:(j7 a&&j7 b&&decide (yb b.1≠0))=true:=c;rw[zf,zf,w5]at c;exact z7 (T80.Ai a b)<|zd (Ab c.1.2<|w4 c.2)<|zd (Ab c.1.1<|oT c.1.2 c.2)<|zh<|yn rfl rfl rfl
theorem T155.ok[Srt]:Af A9 155 kE:=by
 refine BM F9<|fun(a:(Int×List Int)×(Int×List Int)) h=>?_;obtain⟨a1,a2,b,c,a0⟩:=FU h;exact z7 (T155.Ai a)<|zd (Ab (Ab a1 a2)<|w4 a0)<|zh<|yn rfl rfl rfl
end Go.Pe
namespace Go.Sp
theorem CV{a:Bool×List Int}(h:Ce a=true):A0 a.2=true/\a.2.length<=3000/\(a.1=true->a.2≠[]):=by
 unfold Ce at h;rw[zf,zf,w5,Bool.or_eq_true,w5,Bool.not_eq_true']at h;refine⟨h.1.1,h.1.2,fun k=>?_⟩;rcases h.2 with x|x
 ·rw[k]at x;cases x
 ·exact x
theorem El{a:Bool×List Int}(h:Ce a=true):Ag (vR a)=Aj a.2/\0<=Aj a.2:=by
 obtain⟨c,e,d⟩:=CV h;have h0:=AD (b:=B9) af (Bp c).2.1;have h0:0<=Aj a.2:=h0;refine⟨?_,h0⟩;unfold vR;rw[Ah];split<;>omega
theorem eV{a:Bool×List Int}(h:Ce a=true):a.1=rN (vR a):=by
 obtain⟨c,f,d⟩:=CV h;obtain⟨_,h0⟩:=El h;unfold rN vR;cases e:a.1 with
 |false=>rw[wc af];symm;rw[w9];omega
 |true=>
  rw[wd rfl];symm;rw[w5];have:=I8 (b:=B9) af (Bp c).2.1 (Bp c).2.2<|d e;have:0<Aj a.2:=this;omega
theorem AcR{a:Bool×List Int}(h:Ce a=true):a.2=rW (vR a):=by
 unfold rW;rw[(El h).1];exact Iw (b:=B9) af (Bp (CV h).1).2.1 (Bp (CV h).1).2.2
theorem uZ{a:Bool×List Int}(h:Ce a=true):a=(rN<|vR a,rW<|vR a):=Prod.ext (eV h)<|AcR h
theorem Vr(k:Nat):(B9:Int)^k=10^(9*k):=by
 have:(B9:Int)=10^9:=af
 rw[this, <-Int.pow_mul]
theorem tA{n:Int}{k:Nat}(h:n.natAbs<10^(9*k)):Ag n<(B9:Int)^k:=by
 rw[Ah,Vr];have:((10^(9*k):Nat):Int)=(10:Int)^(9*k):=by simp
 rw[<-this];exact qz.mpr h
theorem Nw(n:Int):0<=Ag n:=by rw[Ah];omega
theorem Mo(n:Int):Aj (rW n)=Ag n:=CU (b:=B9) af<|Nw n
theorem HW(n:Int):vR (rN n,rW n)=n:=by
 unfold vR;show(if rN n=true then -Aj (rW n)else Aj<|rW n)=n;rw[Mo,Ah];unfold rN;by_cases h:n<0
 ·rw[wd<|w4 h];omega
 ·rw[wc<|by simpa using h];omega
theorem RF{n:Int}(h:n.natAbs<10^27000):Ce (rN n,rW n)=true:=by
 have k:27000=9*3000:=rfl;rw[k]at h;obtain⟨d,_,i,c⟩:=Ft (n:=Ag n) (k:=3000) (Nw n) (tA h) af;unfold Ce;have g:A0 (rW n)=true:=d;have f:(rW n).length<=3000:=c;rw[g,w4 f];cases b:rN n with
 |false=>rfl
 |true=>
  have:rW n≠[]:=by
   intro e;have a:=Mo n;rw[e]at a;have a:0=Ag n:=a;unfold rN at b;have b:=w6 b;rw[Ah]at a;omega
  rw[w4 this];rfl
theorem gS(k:Nat):((10^k:Nat):Int)=(10:Int)^k:=by rw[Int.natCast_pow];rfl
theorem vW{x:Nat}(j k:Nat)(h:j<=k)(a:x<10^j):x<10^k:=yj a (yq af h)
theorem zK{a:Bool×List Int}(h:Ce a=true):(vR a).natAbs<10^27000:=by
 obtain⟨e,f,i⟩:=CV h;have d:=Br (b:=B9) af (Bp e).2.1;have g:(B9:Int)^a.2.length<=(B9:Int)^3000:=AN af f;have c:Ag (vR a)<(B9:Int)^3000:=by rw[(El h).1];exact ym d g
 rw[Ah,Vr]at c;have:=gS<|9*3000;rw[<-this]at c;have k:27000=9*3000:=rfl;rw[k];exact qz.mp c
theorem kL{neg:Bool}{w:List Int}{n:Int}(c:Aw B9 w)(a:Aj w=Ag n)(b:n≠0->neg=rN n):(Cu neg w,Ax w)=(rN n,rW n):=by
 have h:=Go.Pe.LA (neg:=neg) c a;rw[h];have:(if neg=true then -Ag n else Ag n)=n:=by
  by_cases h0:n=0
  ·rw[h0];unfold Ag;split<;>simp
  ·rw[b h0];unfold rN;rw[Ah];by_cases h:n<0
   ·rw[wd<|w4 h];omega
   ·rw[wc<|by simpa using h];omega
 rw[this]
theorem D8{s:Z}(h:BB s=true):Ce (BH s,BA s)=true/\vR (BH s,BA s)=Bh s/\Ce (Bm s,Bi s)=true/\vR (Bm s,Bi s)=AS s/\(A8 s).num=Bh s/\((A8 s).den:Int)=AS s/\JK s=true/\(Bh s).natAbs<10^4000/\(AS s).natAbs<10^4000:=by
 obtain⟨d,k⟩:=Gq h;obtain⟨s1,s2⟩:=R3 h;have e:(A8 s).num=Bh s/\((A8 s).den:Int)=AS s:=by
  have:=J7<|A8 s;rw[d]at this;exact⟨this.1.symm,this.2.symm⟩
 have a:(Bh s).natAbs<10^4000:=by rw[<-e.1];exact s1
 have f:(AS s).natAbs<10^4000:=by rw[<-e.2,zm];exact s2
 have m:∀x:Nat,x<10^4000->x<10^27000:=fun x j=>vW 4000 27000 af j
 refine⟨RF<|m _ a,HW _,RF<|m _ f,HW _,e.1,e.2,?_,a,f⟩;obtain⟨g,b,i⟩:=G9<|A8 s;rw[d]at g b i;have l:=Go.Pe.T86.Hp s;unfold JK D7;rw[w4 (p:=s.length<=5999) ae,w4 (p:=(AG s).length<=5999) ae,w4 (p:=(AT s).length<=5999) ae,yv,yv,Bool.and_true,zf];refine⟨?_,?_⟩
 ·obtain⟨n,i2,i3,i4⟩:=FN (A8 s).num;rw[g];unfold Bk at i2;split at i2
  ·next c=>rw[wd c,i2];exact D6 _
  ·next c=>rw[wc c,i2];exact D6 _
 ·rw[b];split
  ·rfl
  ·rw[wc<|Fq<|D6 _];exact D6 _
end Go.Sp
namespace Go.Pe
open Sp
open Go.Det
theorem R1{x:Int}{k:Nat}(h:x.natAbs<10^k):Ag x<(Ao:Int)^k:=by
 have a:((10^k:Nat):Int)=(10:Int)^k:=Int.natCast_pow ..;rw[Ah];refine ym ?_<|xE k;rw[<-a];exact qz.mpr h
theorem SF{q:Rat}{k:Nat}(h:GM k q)(b:k<=4000):Lr 4000 q:=by
 obtain⟨c,d⟩:=h.mono b;have a:=R1 (k:=4000) (x:=(q.den:Int)) (by rw[zm];exact d);rw[Ah,zm]at a;exact⟨R1 c,a⟩
def frS(s:Z):Al:=((fU s,cS s),(Xd s,V1 s))
theorem Ow{s:Z}(h:BB s=true):E8 (frS s) (A8 s):=by
 obtain⟨_,_,_,_,c,d,_,a,b⟩:=D8 h;have m:∀x:Int,x.natAbs<10^4000->Ag x<(Ao:Int)^9000:=fun x e=>ym (R1 e) (AN af af)
 exact⟨(BZ<|FC<|DA<|m _ a).1,(BZ<|FC<|DA<|m _ b).1,(Lj _).trans c.symm,(Lj _).trans d.symm⟩
theorem Z7{d:AH}(h:Dx d=true):CM d=decide (yb d=1):=by
 unfold CM;rw[Bool.eq_iff_iff,zf,w5,w5,w5];refine⟨fun⟨f,g⟩=>by rw[Bu f];exact g,fun e=>?_⟩;by_cases c:d.2=[]
 ·rw[Bu c]at e;exact⟨c,e⟩
 ·obtain⟨_,a⟩:=DK h;obtain⟨s,w⟩:=d;rcases a with a|⟨_,_,b⟩
  ·exact wh a c
  ·rw[VR c]at e;have b:9223372036854775808<=Aq w:=b;split at e<;>omega
theorem iR{f:Al}{q:Rat}(h:E8 f q):MH f=A5 q:=by
 unfold MH A5;rw[Z7 h.d,h.vn,h.vd];have e:decide ((q.den:Int)=1)=true↔q.den=1:=by rw[w5];omega
 by_cases c:q.den=1
 ·rw[wd<|e.2 c,wd c];rfl
 ·rw[wc<|fun k=>c<|e.1 k,wc c];show zq q.num++47::zq ((q.den:Nat):Int)=_;rw[qj]
theorem E8.Fc{f:Al}{q:Rat}(h:E8 f q)(a:Lr 4000 q):Sp.Fc f=true:=by
 have:=h.DD a;unfold j7 at this;rw[zf]at this;exact this.1
theorem E8.I2{f:Al}{q:Rat}(h:E8 f q):decide (yb f.1≠0)=decide (q≠0):=by
 rw[h.vn,decide_eq_decide,vc,ql]
theorem E8.cmp{f g:Al}{p q:Rat}(h:E8 f p)(e:E8 g q):PI f g=if p<q then -1 else if q<p then 1 else 0:=by
 unfold PI B6;rw[h.vn,h.vd,e.vn,e.vd];have a:p<q↔p.num*(q.den:Int)<q.num*(p.den:Int):=Rat.lt_iff ..;have b:q<p↔q.num*(p.den:Int)<p.num*(q.den:Int):=Rat.lt_iff ..;by_cases c:p<q
 ·rw[wd c,wd<|a.1 c]
 ·rw[wc c,wc<|fun k=>c<|a.2 k];by_cases d:q<p
  ·rw[wd d,wd<|b.1 d]
  ·rw[wc d,wc<|fun k=>d<|b.2 k]
theorem Tk{a:AH}(h:Bd a=true):(AV<|yb a).length<=180001:=by
 have b:=bounds h;have c:=Ah<|yb a;have d:(ze (yb a).natAbs).length<=180000:=Hr ⟨by rw[<-c];exact b⟩;unfold AV zq;split
 ·rw[zl];omega
 ·rw[show(yb a).toNat=(yb a).natAbs by omega];omega
theorem cZ{a:AH}(h:Nf a=true):Bd a=true:=by
 unfold Nf at h;rw[zf,w5]at h;unfold Bd;rw[h.1,yv];exact w4 ae
theorem yY{a:Al}(h:Sp.Fc a=true):Bd a.1=true/\Bd a.2=true:=by
 unfold Sp.Fc at h;rw[zf]at h;exact⟨cZ h.1,cZ h.2⟩
theorem nH[Srt]:Dn XX2:=Aa T96.ok<|Aa (T97.ok xO) AP
theorem T55.ok[Srt]:Af A9 55 cR:=by
 refine BM nH<|fun(a:(Int×List Int)×(Int×List Int)) ha=>?_;obtain⟨b,d⟩:=yY (a:=a) ha;have e:=Tk b;have f:=Tk d;refine z7 (T55.Ai a) (zd rfl (zw (fun c=>zd b<|zh<|yn rfl rfl ?_)<|fun c=>zd b<|zd (w4<|by show(AV<|yb a.1).length+1<=_;omega)<|zd d<|zd (w4<|by rw[zg,List.length_singleton];show(AV<|yb a.1).length+1+(AV<|yb a.2).length<=_;omega)<|zh<|yn rfl rfl ?_))
 ·have c:CM a.2=true:=c;show AV (yb a.1)=MH a;unfold MH;rw[wd c]
 ·have c:CM a.2=false:=c;show AV (yb a.1)++[47]++AV (yb a.2)=MH a;unfold MH;rw[wc (by rw[c];decide),yo];rfl
theorem T79.ok[Srt]:Af A9 79 cF:=by
 refine BM F9<|fun(n:Int) _=>?_;exact z7 (T79.Ai n)<|zd rfl (zd rfl (zh<|yn rfl rfl rfl))
theorem E8.div{f g:Al}{p q:Rat}(b:E8 f p)(a:E8 g q)(sp:Lr 4000 p)(d:Lr 4000 q)(c:Lr 4000 q⁻¹)(h0:q≠0):E8 (J5 f g) (p/q):=by
 rw[Rat.div_def];exact E8.mul b (E8.inv a d h0) sp c
theorem qP(n:Int):Ct n=[]:=by unfold Ct;split<;>rfl
theorem S1{n:Int}(h:Ca n=true):Bd (n,Ct n)=true/\yb (n,Ct n)=n:=by
 rw[qP];have a:=EA h;refine⟨?_,Bu rfl⟩;unfold Bd;rw[show Dx (n,([]:List Int))=true from KR h,yv];rfl
theorem Abu(n:Int)(h:Ca n=true):E8 ((n,Ct n),(1,Ct 1)) (n:Rat):=by
 obtain⟨a,b⟩:=S1 h;obtain⟨h3,h4⟩:=S1 (n:=1) rfl;exact⟨(BZ a).1,(BZ h3).1,b.trans (je n).symm,h4.trans rfl⟩
section
open List Int Prod
namespace T98
def T[Srt](a b:Z):Tr:=tree vD false 9 98<|Ae ([zi,zi]) (a,b)
def L1[Srt](v0 v1:Z):Tr:=re ((T [] []).L.L.L.R)<|AB 63 [(0,.dat zi v0),(1,.dat zi v1)] [] 0
theorem Ai[Srt](a b:Z):T a b=let c:=zc .i64<|zc .i64 (lW a*Tw b)+zc .i64 (lW b*Tw a);let b':=zc .i64<|Tw a*Tw b;.ck (BB a) (.ck (BB b)<|.ite (D5 a) (.ite (D5 b) (.ck (Ca c&&Ca b'&&decide (zc .i64 (Tw a*Tw b)≠0))<|.leaf (.dat zi<|Cx c b') [])<|L1 a b)<|L1 a b):=by kernel_rfl
theorem Ar[Srt](v0 v1:Z):stepT vD (L1 v0 v1)=let b':=(HP (BH v0,BA v0) (Bm v1,Bi v1),Hk (BH v0,BA v0) (Bm v1,Bi v1));let b:=(HP (BH v1,BA v1) (Bm v0,Bi v0),Hk (BH v1,BA v1) (Bm v0,Bi v0));let a:=(HP (Bm v0,Bi v0) (Bm v1,Bi v1),Hk (Bm v0,Bi v0) (Bm v1,Bi v1));let c:=(MM b' b,MJ b' b);.ck (JK v0) (.ck (JK v1)<|.ck (Ce (BH v0,BA v0)&&Ce (Bm v1,Bi v1))<|.ck (Ce (BH v1,BA v1)&&Ce (Bm v0,Bi v0))<|.ck (Ce b'&&Ce b)<|.ck (Ce (Bm v0,Bi v0)&&Ce (Bm v1,Bi v1))<|.ck (Ce c&&Ce a&&decide (Sp.vR a≠0))<|.leaf (.dat zi<|Iu c a) []):=by kernel_rfl
end T98
namespace T60
def T[Srt](a b:Z):Tr:=tree vD false 9 60<|Ae ([zi,zi]) (a,b)
def L1[Srt](v0 v1:Z):Tr:=re ((T [] []).L.L.L.R)<|AB 55 [(0,.dat zi v0),(1,.dat zi v1)] [] 0
theorem Ai[Srt](a b:Z):T a b=let c:=zc .i64<|lW a*lW b;let b':=zc .i64<|Tw a*Tw b;.ck (BB a) (.ck (BB b)<|.ite (D5 a) (.ite (D5 b) (.ck (Ca c&&Ca b'&&decide (zc .i64 (Tw a*Tw b)≠0))<|.leaf (.dat zi<|Cx c b') [])<|L1 a b)<|L1 a b):=by kernel_rfl
theorem Ar[Srt](v0 v1:Z):stepT vD (L1 v0 v1)=let a:=(HP (Bm v0,Bi v0) (Bm v1,Bi v1),Hk (Bm v0,Bi v0) (Bm v1,Bi v1));let b':=(HP (BH v0,BA v0) (BH v1,BA v1),Hk (BH v0,BA v0) (BH v1,BA v1));.ck (JK v0) (.ck (JK v1)<|.ck (Ce (BH v0,BA v0)&&Ce (BH v1,BA v1))<|.ck (Ce (Bm v0,Bi v0)&&Ce (Bm v1,Bi v1))<|.ck (Ce b'&&Ce a&&decide (Sp.vR a≠0))<|.leaf (.dat zi<|Iu b' a) []):=by kernel_rfl
end T60
namespace T172
def T[Srt](a:Z):Tr:=tree vD false 9 172<|Ae ([zi]) a
theorem Ai[Srt](a:Z):T a=.ck (JK a) (.ck (Ce (Bm a,Bi a)&&Ce (BH a,BA a)&&decide (Sp.vR (BH a,BA a)≠0))<|.leaf (.dat zi<|Iu (Bm a,Bi a) (BH a,BA a)) []):=by kernel_rfl
end T172
namespace T58
def T[Srt](a b:Z):Tr:=tree XR7 false 9 58<|Ae ([zi,zi]) (a,b)
theorem Ai[Srt](a b:Z):T a b=.cd (length b<=1000000) (.ck (BB a&&BB (KX b))<|.leaf (.dat zi<|H7 a<|KX b) []):=by kernel_rfl
end T58
namespace T109
def T[Srt](a b:Z):Tr:=tree XR7 false 9 109<|Ae ([zi,zi]) (a,b)
theorem Ai[Srt](a b:Z):T a b=.ck (Z3 b) (.ck (BB a&&BB (SO b))<|.leaf (.dat zi<|Ko a<|SO b) []):=by kernel_rfl
end T109
namespace T94
def T[Srt](a b:Z):Tr:=tree XR8 false 9 94<|Ae ([zi,zi]) (a,b)
theorem Ai[Srt](a b:Z):T a b=.ck (BB a&&GK b) (.cd (length (M9 a b)<=1000000)<|.leaf (.dat i64<|GV<|M9 a b) []):=by kernel_rfl
end T94
namespace T170
def T[Srt](a:Z):Tr:=tree XR8 false 9 170<|Ae ([zi]) a
theorem Ai[Srt](a:Z):T a=.cd (length a<=1000000) (.leaf (.dat zr<|Bc a==(length a:Int)) []):=by kernel_rfl
end T170
namespace T108
def T[Srt](a:Z):Tr:=tree XR9 false 9 108<|Ae ([zi]) a
theorem Ai[Srt](a:Z):T a=let b:=(Il (BH a,BA a) (Bm a,Bi a),IM (BH a,BA a) (Bm a,Bi a));.cd (length a<=1000000) (.ite (Oj a) (.leaf (.dat zi a) [])<|.ck (JK a)<|.ck (Ce (BH a,BA a)&&Ce (Bm a,Bi a)&&decide (0<Sp.vR (Bm a,Bi a)))<|.ck (Ce b)<|.leaf (.dat zi<|Gj b) []):=by kernel_rfl
end T108
namespace T283
def T[Srt](a:List Int)(i:Int):Tr:=tree XR0 false 9 283<|Ae ([zk i64,j5 z6]) (a,i)
theorem Ai[Srt](a:List Int)(i:Int):T a i=.di (i<(length a:Int)) (.ck (decide (0<=i)&&decide (i<(length a:Int)))<|.leaf (.dat i64<|getD a (toNat i) 0) []) (.leaf (.dat i64 (0:Int)) []):=by kernel_rfl
end T283
namespace T236
def T[Srt](a b:List Int):Tr:=tree Vl false 9 236<|Ae ([zk i64,zk i64]) (a,b)
def L1[Srt](v0 v1:List Int)(a b:Int):Tr:=re ((T [] []))<|AB 42 [(0,.dat (zk i64) v0),(1,.dat (zk i64) v1),(5,.nil),(6,.dat i64 a),(7,.dat i64 b)] [] 0
theorem Ai[Srt](a b:List Int):T a b=L1 a b 0 0:=by kernel_rfl
def L2[Srt](v0 v1:List Int)(a:Nat)(b d:Int)(c:List Int):Tr:=re ((stepT Vl<|L1 [] [] 0 0).L.L.L.L.L.L)<|AB 42 [(0,.dat (zk i64) v0),(1,.dat (zk i64) v1),(5,.sl 0 1 0 a none),(6,.dat i64 b),(7,.dat i64 d)] [(0,.arr false 3 i64 c)] 1
theorem Ar[Srt](v0 v1:List Int)(b a:Int):stepT Vl (L1 v0 v1 b a)=.di (a<(length v0:Int)) (.cd (0<=a)<|.cd (0<=a)<|.ck true<|.ck (aa 8)<|.ck true<|L2 v0 v1 1 (zc .i64<|yw (zc .i64<|zc .i64 (H5 v0 a+H5 v1 a)+b) 1000000000) (zc .i64<|a+1)<|[z8 (zc .i64<|zc .i64 (H5 v0 a+H5 v1 a)+b) 1000000000]) (.di (a<(length v1:Int)) (.cd (0<=a)<|.cd (0<=a)<|.ck true<|.ck (aa 8)<|.ck true<|L2 v0 v1 1 (zc .i64<|yw (zc .i64<|zc .i64 (H5 v0 a+H5 v1 a)+b) 1000000000) (zc .i64<|a+1)<|[z8 (zc .i64<|zc .i64 (H5 v0 a+H5 v1 a)+b) 1000000000])<|.di (b>0) (.cd (0<=a)<|.cd (0<=a)<|.ck true<|.ck (aa 8)<|.ck true<|L2 v0 v1 1 (zc .i64<|yw (zc .i64<|zc .i64 (H5 v0 a+H5 v1 a)+b) 1000000000) (zc .i64<|a+1)<|[z8 (zc .i64<|zc .i64 (H5 v0 a+H5 v1 a)+b) 1000000000])<|.leaf .nil []):=by kernel_rfl
theorem AO[Srt](v0 v1:List Int)(b:Nat)(c a:Int)(d:List Int):stepT Vl (L2 v0 v1 b c a d)=.di (a<(length v0:Int)) (.cd (0<=a)<|.cd (0<=a)<|.ck true<|.ck (ac b (length d) 8)<|.ck true<|L2 v0 v1 (j6 b 1) (zc .i64<|yw (zc .i64<|zc .i64 (H5 v0 a+H5 v1 a)+c) 1000000000) (zc .i64<|a+1)<|d++[z8 (zc .i64<|zc .i64 (H5 v0 a+H5 v1 a)+c) 1000000000]) (.di (a<(length v1:Int)) (.cd (0<=a)<|.cd (0<=a)<|.ck true<|.ck (ac b (length d) 8)<|.ck true<|L2 v0 v1 (j6 b 1) (zc .i64<|yw (zc .i64<|zc .i64 (H5 v0 a+H5 v1 a)+c) 1000000000) (zc .i64<|a+1)<|d++[z8 (zc .i64<|zc .i64 (H5 v0 a+H5 v1 a)+c) 1000000000])<|.di (c>0) (.cd (0<=a)<|.cd (0<=a)<|.ck true<|.ck (ac b (length d) 8)<|.ck true<|L2 v0 v1 (j6 b 1) (zc .i64<|yw (zc .i64<|zc .i64 (H5 v0 a+H5 v1 a)+c) 1000000000) (zc .i64<|a+1)<|d++[z8 (zc .i64<|zc .i64 (H5 v0 a+H5 v1 a)+c) 1000000000])<|.leaf (.sl 0 1 0 b none)<|[(0,.arr false 3 i64 d)]):=by kernel_rfl
end T236
namespace T238
def T[Srt](a b:List Int):Tr:=tree Vl false 9 238<|Ae ([zk i64,zk i64]) (a,b)
def L1[Srt](v0 v1:List Int)(a b:Int):Tr:=re ((T [] []))<|AB 35 [(0,.dat (zk i64) v0),(1,.dat (zk i64) v1),(5,.nil),(6,.dat i64 a),(7,.dat i64 b)] [] 0
theorem Ai[Srt](a b:List Int):T a b=L1 a b 0 0:=by kernel_rfl
def L2[Srt](v0 v1:List Int)(a:Nat)(b d:Int)(c:List Int):Tr:=re ((stepT Vl<|L1 [] [] 0 0).L.L.L.L.L)<|AB 35 [(0,.dat (zk i64) v0),(1,.dat (zk i64) v1),(5,.sl 0 1 0 a none),(6,.dat i64 b),(7,.dat i64 d)] [(0,.arr false 3 i64 c)] 1
theorem Ar[Srt](v0 v1:List Int)(b a:Int):stepT Vl (L1 v0 v1 b a)=.di (a<(length v0:Int)) (.ck (decide (0<=a)&&decide (a<(length v0:Int)))<|.cd (0<=a)<|.di (zc .i64 (zc .i64 (getD v0 (toNat a) 0-H5 v1 a)-b)<0) (.ck (aa 8)<|L2 v0 v1 1 1 (zc .i64<|a+1)<|[zc .i64<|zc .i64 (zc .i64 (getD v0 (toNat a) 0-H5 v1 a)-b)+1000000000])<|.ck (aa 8)<|L2 v0 v1 1 0 (zc .i64<|a+1)<|[zc .i64<|zc .i64 (getD v0 (toNat a) 0-H5 v1 a)-b]) (.ck true<|.leaf (.dat (zk i64)<|Ax []) []):=by kernel_rfl
theorem AO[Srt](v0 v1:List Int)(a:Nat)(d b:Int)(c:List Int):stepT Vl (L2 v0 v1 a d b c)=.di (b<(length v0:Int)) (.ck (decide (0<=b)&&decide (b<(length v0:Int)))<|.cd (0<=b)<|.di (zc .i64 (zc .i64 (getD v0 (toNat b) 0-H5 v1 b)-d)<0) (.ck (ac a (length c) 8)<|L2 v0 v1 (j6 a 1) 1 (zc .i64<|b+1)<|c++[zc .i64<|zc .i64 (zc .i64 (getD v0 (toNat b) 0-H5 v1 b)-d)+1000000000])<|.ck (ac a (length c) 8)<|L2 v0 v1 (j6 a 1) 0 (zc .i64<|b+1)<|c++[zc .i64<|zc .i64 (getD v0 (toNat b) 0-H5 v1 b)-d]) (.ck (decide (0+a<=length c)&&true&&decide (length (take a c)<=20000))<|.leaf (.dat (zk i64)<|Ax<|take a c) []):=by kernel_rfl
end T238
namespace T163
def T[Srt](a b:Bool×List Int):Tr:=tree XR2 false 9 163<|Ae ([qn zr<|zk i64,qn zr<|zk i64]) (a,b)
theorem Ai[Srt](a b:Bool×List Int):T a b=.ite (fst a==fst b) (.ck (fF (snd a)<|snd b)<|.cd (length (HG (snd a)<|snd b)<=20000)<|.leaf (jl [.dat zr<|Cu (fst a)<|HG (snd a)<|snd b,.dat (zk i64)<|Ax<|HG (snd a)<|snd b]) []) (.ck (A0 (snd a)&&A0 (snd b))<|.di (B6 (Aj<|snd a) (Aj<|snd b)>=0) (.ck (fF (snd a) (snd b)&&decide (Aj (snd b)<=Aj (snd a)))<|.cd (length (IS (snd a)<|snd b)<=20000)<|.leaf (jl [.dat zr<|Cu (fst a)<|IS (snd a)<|snd b,.dat (zk i64)<|Ax<|IS (snd a)<|snd b]) [])<|.ck (fF (snd b) (snd a)&&decide (Aj (snd a)<=Aj (snd b)))<|.cd (length (IS (snd b)<|snd a)<=20000)<|.leaf (jl [.dat zr<|Cu (fst b)<|IS (snd b)<|snd a,.dat (zk i64)<|Ax<|IS (snd b)<|snd a]) []):=by kernel_rfl
end T163
namespace T105
def T[Srt](a b:Bool×List Int):Tr:=tree XR2 false 9 105<|Ae ([qn zr<|zk i64,qn zr<|zk i64]) (a,b)
theorem Ai[Srt](a b:Bool×List Int):T a b=.ck (Sp.hR (snd a)&&Sp.hR (snd b)) (.cd (length (BG<|Aj (snd a)*Aj (snd b))<=20000)<|.leaf (jl [.dat zr<|Cu (!fst a==fst b)<|BG<|Aj (snd a)*Aj (snd b),.dat (zk i64)<|Ax<|BG<|Aj (snd a)*Aj (snd b)]) []):=by kernel_rfl
end T105
namespace T167
def T[Srt](a:Bool×List Int):Tr:=tree XR2 false 9 167<|Ae ([qn zr<|zk i64]) a
theorem Ai[Srt](a:Bool×List Int):T a=.cd (length (snd a)<=20000) (.leaf (jl [.dat zr<|Cu (!fst a)<|snd a,.dat (zk i64)<|Ax<|snd a]) []):=by kernel_rfl
end T167
namespace T171
def T[Srt](a b:Bool×List Int):Tr:=tree XR2 false 9 171<|Ae ([qn zr<|zk i64,qn zr<|zk i64]) (a,b)
theorem Ai[Srt](a b:Bool×List Int):T a b=.ck (A0 (snd a)&&A0 (snd b)&&decide (length (snd a)<=9000)&&decide (length (snd b)<=9000)&&decide (0<Aj (snd b))) (.ite (fst a) (.di ((↑(length<|BG<|Aj (snd a) % Aj (snd b)):Int)>0) (.ck (fF (BG<|Aj (snd a)/Aj (snd b)) [1])<|.cd (length (HG (BG<|Aj (snd a)/Aj (snd b)) [1])<=20000)<|.leaf (jl [.dat zr<|Cu (fst a)<|HG (BG<|Aj (snd a)/Aj (snd b)) [1],.dat (zk i64)<|Ax<|HG (BG<|Aj (snd a)/Aj (snd b)) [1]]) [])<|.cd (length (BG<|Aj (snd a)/Aj (snd b))<=20000)<|.leaf (jl [.dat zr<|Cu (fst a)<|BG<|Aj (snd a)/Aj (snd b),.dat (zk i64)<|Ax<|BG<|Aj (snd a)/Aj (snd b)]) [])<|.cd (length (BG<|Aj (snd a)/Aj (snd b))<=20000)<|.leaf (jl [.dat zr<|Cu (fst a)<|BG<|Aj (snd a)/Aj (snd b),.dat (zk i64)<|Ax<|BG<|Aj (snd a)/Aj (snd b)]) []):=by kernel_rfl
end T171
namespace T100
def T[Srt](a:Bool×List Int):Tr:=tree XR3 false 9 100<|Ae ([qn zr<|zk i64]) a
def L1[Srt](v3:Z)(v4:Int)(b:Bool)(a:List Int):Tr:=re ((T (false,[])).R.L.L)<|AB 39 [(1,.ptr 0 0),(3,.dat zi v3),(4,.dat i64 v4)] [(0,.box [.dat zr b,.dat (zk i64) a])] 1
theorem Ai[Srt](a:Bool×List Int):T a=.ite ((↑(length<|snd a):Int)==0) (.leaf (.dat zi [(48:UInt8)]) []) (.ck (decide (0<=zc .i64 ((↑(length<|snd a):Int)-1))&&decide (zc .i64 ((↑(length<|snd a):Int)-1)<(↑(length<|snd a):Int)))<|.ck (decide (0<=getD (snd a) (toNat<|zc .i64<|(↑(length<|snd a):Int)-1) 0)&&decide (getD (snd a) (toNat<|zc .i64<|(↑(length<|snd a):Int)-1) 0<9223372036854775808)&&decide (0<=1)&&decide (1<=20))<|L1 (IQ (getD (snd a) (toNat<|zc .i64<|(↑(length<|snd a):Int)-1) 0) 1) (zc .i64<|(↑(length<|snd a):Int)-2) (fst a)<|snd a):=by kernel_rfl
theorem Ar[Srt](v3:Z)(v4:Int)(b:Bool)(a:List Int):stepT XR3 (L1 v3 v4 b a)=.di (v4>=0) (.ck (decide (0<=v4)&&decide (v4<(length a:Int)))<|.ck (decide (0<=getD a (toNat v4) 0)&&decide (getD a (toNat v4) 0<9223372036854775808)&&decide (0<=9)&&decide (9<=20))<|.cd (length v3+length (IQ (getD a (toNat v4) 0) 9)<=4611686018427387904)<|L1 (v3++IQ (getD a (toNat v4) 0) 9) (zc .i64<|v4-1) b a) (.ite b (.cd (1+length v3<=4611686018427387904)<|.leaf (.dat zi<|[(45:UInt8)]++v3) [])<|.leaf (.dat zi v3) []):=by kernel_rfl
end T100
namespace T104
def T[Srt](a b:Bool×List Int):Tr:=tree mH false 9 104<|Ae ([qn zr<|zk i64,qn zr<|zk i64]) (a,b)
def L1[Srt](o1:Bool)(b:List Int)(c:Bool)(a:List Int):Tr:=re ((T (false,[]) (false,[])).L.L.L)<|AB 57 [(2,.ptr 0 0),(3,.ptr 1 0)] [(1,.box [.dat zr o1,.dat (zk i64) b]),(0,.box [.dat zr c,.dat (zk i64) a])] 2
theorem Ai[Srt](a b:Bool×List Int):T a b=.ite (fst b) (.ck (Ce a)<|.ck (Ce b)<|L1 (SI b) (RN b) (SI a)<|RN a) (L1 (fst b) (snd b) (fst a)<|snd a):=by kernel_rfl
def L2[Srt](b:List Int)(a:Z):Tr:=re ((stepT mH<|L1 false [] false []).L.L.L.L.L)<|AB 57 [(8,.dat (zk i64) b),(10,.dat zi a)] [] 0
theorem Ar[Srt](o1:Bool)(b:List Int)(c:Bool)(a:List Int):stepT mH (L1 o1 b c a)=.ck (A0 a&&A0 b&&decide (length a<=9000)&&decide (length b<=9000)) (.ck (A0 a&&A0 (Cc a b)&&decide (length a<=9000)&&decide (length (Cc a b)<=9000)&&decide (0<Aj (Cc a b)))<|.ck (A0 b&&A0 (Cc a b)&&decide (length b<=9000)&&decide (length (Cc a b)<=9000)&&decide (0<Aj (Cc a b)))<|.cd (length (BG<|Aj a/Aj (Cc a b))<=20000)<|.ck (Ce (Cu c<|BG<|Aj a/Aj (Cc a b),Ax<|BG<|Aj a/Aj (Cc a b)))<|L2 (BG<|Aj b/Aj (Cc a b))<|Gj (Cu c<|BG<|Aj a/Aj (Cc a b),Ax<|BG<|Aj a/Aj (Cc a b))):=by kernel_rfl
def L3[Srt](b:List Int)(a:Z):Tr:=re ((stepT mH<|L2 [] []).L.L.R)<|AB 57 [(8,.dat (zk i64) b),(10,.dat zi a)] [] 0
theorem AO[Srt](b:List Int)(a:Z):stepT mH (L2 b a)=.ite ((length b:Int)==1) (.cd (0<(length b:Int))<|.ite (getD b 0 0==1) (.leaf (.dat zi a) [])<|L3 b a) (L3 b a):=by kernel_rfl
theorem Cr[Srt](b:List Int)(a:Z):stepT mH (L3 b a)=.cd (length a+1<=4611686018427387904) (.cd (length b<=20000)<|.ck (Ce (Cu false b,Ax b))<|.cd (length (a++[(47:UInt8)])+length (Gj (Cu false b,Ax b))<=4611686018427387904)<|.leaf (.dat zi<|a++[(47:UInt8)]++Gj (Cu false b,Ax b)) []):=by kernel_rfl
end T104
namespace T61
def T[Srt](n d:Int):Tr:=tree aX false 9 61<|Ae ([j5 z6,j5 z6]) (n,d)
def L1[Srt](v0 v1:Int):Tr:=re ((T 0 0).R.R.R.R)<|AB 61 [(0,.dat i64 v0),(1,.dat i64 v1)] [] 0
theorem Ai[Srt](n d:Int):T n d=.di (n<(-4000000000000000000)) (.ck (Ca n)<|.ck (Ca d)<|.ck (Ce (qg n,qh n)&&Ce (qg d,qh d)&&decide (Sp.vR (qg d,qh d)≠0))<|.leaf (.dat zi<|Iu (qg n,qh n) (qg d,qh d)) []) (.di (n>4000000000000000000) (.ck (Ca n)<|.ck (Ca d)<|.ck (Ce (qg n,qh n)&&Ce (qg d,qh d)&&decide (Sp.vR (qg d,qh d)≠0))<|.leaf (.dat zi<|Iu (qg n,qh n) (qg d,qh d)) [])<|.di (d<(-4000000000000000000)) (.ck (Ca n)<|.ck (Ca d)<|.ck (Ce (qg n,qh n)&&Ce (qg d,qh d)&&decide (Sp.vR (qg d,qh d)≠0))<|.leaf (.dat zi<|Iu (qg n,qh n) (qg d,qh d)) [])<|.di (d>4000000000000000000) (.ck (Ca n)<|.ck (Ca d)<|.ck (Ce (qg n,qh n)&&Ce (qg d,qh d)&&decide (Sp.vR (qg d,qh d)≠0))<|.leaf (.dat zi<|Iu (qg n,qh n) (qg d,qh d)) [])<|L1 n d):=by kernel_rfl
def L2[Srt](v0 v1:Int):Tr:=re ((stepT aX<|L1 0 0).L)<|AB 61 [(0,.dat i64 v0),(1,.dat i64 v1)] [] 0
theorem Ar[Srt](v0 v1:Int):stepT aX (L1 v0 v1)=.di (v1<0) (L2 (zc .i64<|0-v0)<|zc .i64<|0-v1) (L2 v0 v1):=by kernel_rfl
def L3[Srt](v0 v1:Int):Tr:=re ((stepT aX<|L2 0 0).L.L.L)<|AB 61 [(0,.dat i64 v0),(1,.dat i64 v1)] [] 0
theorem AO[Srt](v0 v1:Int):stepT aX (L2 v0 v1)=.ck (AbB (imax v0<|zc .i64<|0-v0) v1) (.cd (Sp.gI (imax v0<|zc .i64<|0-v0) v1≠0)<|.cd (Sp.gI (imax v0<|zc .i64<|0-v0) v1≠0)<|L3 (zc .i64<|yw v0<|Sp.gI (imax v0<|zc .i64<|0-v0) v1)<|zc .i64<|yw v1<|Sp.gI (imax v0<|zc .i64<|0-v0) v1):=by kernel_rfl
def L4[Srt](v1:Int)(a:Z):Tr:=re ((stepT aX<|L3 0 0).L.L.L)<|AB 61 [(1,.dat i64 v1),(6,.dat zi a)] [] 0
theorem Cr[Srt](v0 v1:Int):stepT aX (L3 v0 v1)=.di (v0<0) (.ck (decide (0<=imax v0 (zc .i64<|0-v0))&&decide (imax v0 (zc .i64<|0-v0)<9223372036854775808)&&decide (0<=1)&&decide (1<=20))<|.cd (1+length (IQ (imax v0<|zc .i64<|0-v0) 1)<=4611686018427387904)<|L4 v1<|[(45:UInt8)]++IQ (imax v0<|zc .i64<|0-v0) 1) (.ck (decide (0<=imax v0 (zc .i64<|0-v0))&&decide (imax v0 (zc .i64<|0-v0)<9223372036854775808)&&decide (0<=1)&&decide (1<=20))<|.cd (0+length (IQ (imax v0<|zc .i64<|0-v0) 1)<=4611686018427387904)<|L4 v1<|[]++IQ (imax v0<|zc .i64<|0-v0) 1):=by kernel_rfl
theorem CN[Srt](v1:Int)(a:Z):stepT aX (L4 v1 a)=.di (v1>1) (.cd (length a+1<=4611686018427387904)<|.ck (decide (0<=v1)&&decide (v1<9223372036854775808)&&decide (0<=1)&&decide (1<=20))<|.cd (length (a++[(47:UInt8)])+length (IQ v1 1)<=4611686018427387904)<|.leaf (.dat zi<|a++[(47:UInt8)]++IQ v1 1) []) (.leaf (.dat zi a) []):=by kernel_rfl
end T61
namespace T106
def T[Srt](a b:Int):Tr:=tree NZ false 9 106<|Ae ([j5 z6,j5 z6]) (a,b)
def L1[Srt](v0 v1:Int):Tr:=re ((T 0 0))<|AB 12 [(0,.dat i64 v0),(1,.dat i64 v1)] [] 0
theorem Ai[Srt](a b:Int):T a b=L1 a b:=by kernel_rfl
theorem Ar[Srt](v0 v1:Int):stepT NZ (L1 v0 v1)=.di (v1>0) (.cd (v1≠0)<|L1 v1<|z8 v0 v1) (.leaf (.dat i64 v0) []):=by kernel_rfl
end T106
namespace T154
def T[Srt](s:Z):Tr:=tree NZ false 9 154<|Ae ([zi]) s
theorem Ai[Srt](s:Z):T s=let a:Tr:=.leaf (.dat i64 (1:Int)) [];.ite (s==[(48:UInt8)]) (.leaf (.dat i64 (0:Int)) []) (.di ((length s:Int)>0) (.cd (0<(length s:Int))<|.ite ((↑(jg<|getD s 0 (0:UInt8)):Int)==45) (.leaf (.dat i64 (-1:Int)) []) a) a):=by kernel_rfl
end T154
namespace T99
def T[Srt](s:Z):Tr:=tree XO2 false 9 99<|Ae ([zi]) s
theorem Ai[Srt](s:Z):T s=let a:=decide (length s<=1000000);.ck a (.di (GV s<0) (.ck (decide (1<=length s)&&decide (length s<=length s))<|.leaf (.dat zi<|take (qo (length s) 1)<|drop 1 s) [])<|.ck a<|.ite (GV s==0) (.leaf (.dat zi s) [])<|.cd (1+length s<=4611686018427387904)<|.leaf (.dat zi<|[(45:UInt8)]++s) []):=by kernel_rfl
end T99
namespace T107
def T[Srt](n l:Int):Tr:=tree NZ false 9 107<|Ae ([j5 z6,j5 z6]) (n,l)
def L1[Srt](v0 v1:Int)(v5:Z):Tr:=re ((T 0 0))<|AB 25 [(0,.dat i64 v0),(1,.dat i64 v1),(5,.dat zi v5)] [] 0
theorem Ai[Srt](n l:Int):T n l=L1 n l []:=by kernel_rfl
theorem Ar[Srt](v0 v1:Int)(v5:Z):stepT NZ (L1 v0 v1 v5)=let a:=zc .i64<|z8 v0 10+1;let b:=toNat<|z8 v0 10;let b':=drop b [(48:UInt8),49,50,51,52,53,54,55,56,57];let c:Tr:=.ck true<|.ck true<|.ck (decide (0<=z8 v0 10)&&decide (0<=zc .i64 (z8 v0 10+1))&&decide (toNat (z8 v0 10)<=toNat a)&&decide (toNat a<=10))<|.cd (length (take (qo (toNat a) b) b')+length v5<=4611686018427387904)<|.ck true<|L1 (zc .i64<|yw v0 10) v1<|take (qo (toNat a) b) b'++v5;.di (v0>0) c (.di ((length v5:Int)<v1) c<|.leaf (.dat zi v5) []):=by kernel_rfl
end T107
namespace T102
def T[Srt](s:Z):Tr:=tree NB false 9 102<|Ae ([zi]) s
def L1[Srt](v5:Z)(a:Bool):Tr:=re ((T []).R.L.L)<|AB 54 [(5,.dat zi v5),(6,.dat zr a)] [] 0
def L2[Srt](v5:Z):Tr:=re ((T []).R.R)<|AB 54 [(5,.dat zi v5),(6,.bl false)] [] 0
theorem Ai[Srt](s:Z):T s=let a:=(length s:Int);.di (a>20) (.leaf (.tup [.dat i64 (0:Int),.dat i64 (0:Int),.bl false]) []) (.di (a>0) (.cd (0<a)<|L1 s<|(↑(jg<|getD s 0 (0:UInt8)):Int)==45)<|L2 s):=by kernel_rfl
def L3[Srt](v5:Z)(a:Bool):Tr:=re ((stepT NB<|L1 [] false).L.L)<|AB 54 [(5,.dat zi v5),(6,.dat zr a)] [] 0
theorem Ar[Srt](v5:Z)(a:Bool):stepT NB (L1 v5 a)=.ite a (.ck (decide (1<=length v5)&&decide (length v5<=length v5))<|L3 (take (qo (length v5) 1)<|drop 1 v5) a) (L3 v5 a):=by kernel_rfl
def L4[Srt](v5:Z):Tr:=re ((stepT NB<|L2 []))<|AB 54 [(5,.dat zi v5),(6,.bl false)] [] 0
theorem AO[Srt](v5:Z):stepT NB (L2 v5)=L4 v5:=by kernel_rfl
def L5[Srt](v5:Z)(a:Bool)(c b v9:Int):Tr:=re ((stepT NB<|L3 [] false).L.R.R.L.L)<|AB 54 [(5,.dat zi v5),(6,.dat zr a),(7,.dat i64 c),(8,.dat i64 b),(9,.dat i64 v9)] [] 0
theorem Cr[Srt](v5:Z)(a:Bool):stepT NB (L3 v5 a)=let b:Tr:=.leaf (.tup [.dat i64 (0:Int),.dat i64 (0:Int),.bl false]) [];let b':=Bc v5;.cd (length v5<=1000000) (.di (Bc v5>9) b<|.di (zc .i64 ((length v5:Int)-Bc v5)>10) b<|.ck (decide (0<=Bc v5)&&decide (0<=toNat b')&&decide (toNat b'<=length v5))<|.ck (DG<|take (toNat b') v5)<|L5 v5 a b' (BJ<|take (toNat b') v5) 1):=by kernel_rfl
def L6[Srt](v5:Z)(a b v9:Int):Tr:=re ((stepT NB<|L4 []).L.R.R.L.L)<|AB 54 [(5,.dat zi v5),(6,.bl false),(7,.dat i64 a),(8,.dat i64 b),(9,.dat i64 v9)] [] 0
theorem CN[Srt](v5:Z):stepT NB (L4 v5)=let a:Tr:=.leaf (.tup [.dat i64 (0:Int),.dat i64 (0:Int),.bl false]) [];let b':=Bc v5;.cd (length v5<=1000000) (.di (Bc v5>9) a<|.di (zc .i64 ((length v5:Int)-Bc v5)>10) a<|.ck (decide (0<=Bc v5)&&decide (0<=toNat b')&&decide (toNat b'<=length v5))<|.ck (DG<|take (toNat b') v5)<|L6 v5 b' (BJ<|take (toNat b') v5) 1):=by kernel_rfl
def L7[Srt](a:Bool)(b v9:Int):Tr:=re ((stepT NB<|L5 [] false 0 0 0).L.L.L)<|AB 54 [(6,.dat zr a),(8,.dat i64 b),(9,.dat i64 v9)] [] 0
theorem Fb[Srt](v5:Z)(b:Bool)(a c v9:Int):stepT NB (L5 v5 b a c v9)=let b':=zc .i64<|a+1;let d:=take (qo (length v5)<|toNat b')<|drop (toNat b') v5;.di (a<(length v5:Int)) (.ck (decide (0<=zc .i64 (a+1))&&true&&decide (toNat b'<=length v5)&&decide (length v5<=length v5))<|.ck (DG d)<|L7 b c<|BJ d) (L7 b c v9):=by kernel_rfl
def L8[Srt](a v9:Int):Tr:=re ((stepT NB<|L6 [] 0 0 0).L.L.L)<|AB 54 [(6,.bl false),(8,.dat i64 a),(9,.dat i64 v9)] [] 0
theorem Gu[Srt](v5:Z)(a b v9:Int):stepT NB (L6 v5 a b v9)=let b':=zc .i64<|a+1;let c:=take (qo (length v5)<|toNat b')<|drop (toNat b') v5;.di (a<(length v5:Int)) (.ck (decide (0<=zc .i64 (a+1))&&true&&decide (toNat b'<=length v5)&&decide (length v5<=length v5))<|.ck (DG c)<|L8 b<|BJ c) (L8 b v9):=by kernel_rfl
theorem ES[Srt](b:Bool)(a v9:Int):stepT NB (L7 b a v9)=.ite b (.leaf (.tup [.dat i64<|zc .i64<|0-a,.dat i64 v9,.bl true]) []) (.leaf (.tup [.dat i64 a,.dat i64 v9,.bl true]) []):=by kernel_rfl
theorem H3[Srt](a v9:Int):stepT NB (L8 a v9)=.leaf (.tup [.dat i64 a,.dat i64 v9,.bl true]) []:=by kernel_rfl
end T102
end
namespace T106
theorem As[Srt](g:Nat)(b:∀ob,Q (.dat i64 (g:Int)) ob):∀(f x y:Nat),y<f->Nat.gcd x y=g->Ends NZ (L1 (x:Int) (y:Int)) Q
 |0,x,y,h,_=>by omega
 |f+1,x,y,d,a=>by
  refine zt (Ar ..) ?_;conv=>zeta
  by_cases h0:y=0
  ·subst h0;rw[Nat.gcd_zero_right]at a;subst a;exact zu rfl (zh<|b _)
  ·have e:z8 (x:Int) (y:Int)=((x % y:Nat):Int):=by rw[qq<|yh x];rfl
   rw[e];have c:x % y<y:=qy _ ae;exact zd (by simp;omega) (zd (by simp;omega)<|As g b f y (x % y) ae<|by rw[Nat.gcd_comm, <-Nat.gcd_rec,Nat.gcd_comm];exact a)
theorem ok[Srt]:Af A9 106 uE:=by
 refine BM Fk<|fun(i:Int×Int) c=>?_;obtain⟨a,b⟩:=i;have c:(decide (0<=a)&&decide (a<9223372036854775808)&&decide (0<=b)&&decide (b<9223372036854775808))=true:=c;rw[zf,zf,zf,w5,w5,w5,w5]at c;obtain⟨⟨⟨a0,_⟩,b0⟩,_⟩:=c;obtain⟨x,rfl⟩:=zo a0;obtain⟨y,rfl⟩:=zo b0;refine z7 (Ai x y)<|As (Nat.gcd x y) (fun ob=>yn rfl rfl ?_) (y+1) x y (Nat.lt_succ_self _) rfl;show((Nat.gcd x y:Nat):Int)=Sp.gI (x:Int) (y:Int);rw[Gx];rfl
end T106
namespace T154
theorem ok[Srt]:Af A9 154 RC:=by
 refine BM Fk<|fun(s:Z) hl=>?_;have a:∀v ob,v=GV s->Ad RC s (.dat i64 v) ob:=fun v ob f=>yn rfl rfl f
 refine z7 (Ai s)<|zw (fun c=>zh<|a _ _ ?_)<|fun c=>?_
 ·have c:s=[48]:=by simpa using c
  unfold GV;rw[wd c]
 ·have c:¬s=[48]:=by simpa using c
  cases s with
  |nil=>exact zu rfl (zh<|a _ _ rfl)
  |cons x r=>
   have e:(x::r).getD 0 0=x:=rfl;rw[e];refine zd (by simp) (zd (by simp)<|zw (fun d=>zh<|a _ _ ?_)<|fun d=>zh<|a _ _ ?_)
   ·have b:x=45:=by
     have:(x.toNat:Int)=45:=by simpa using d
     exact UInt8.toNat_inj.1 (by show _=45;omega)
    unfold GV;rw[wc c,e,wd b]
   ·have b:x≠45:=by rintro rfl;exact wh d af
    unfold GV;rw[wc c,e,wc b]
end T154
theorem oN[Srt]:Dn XO2:=Aa T154.ok AP
theorem T99.ok[Srt]:Af A9 99 eF:=by
 refine BM oN<|fun(s:Z) b=>?_;have b:s.length<=1000000:=w6 b;have a:∀v ob,v=KX s->Ad eF s (.dat .str v) ob:=fun v ob e=>yn rfl rfl e
 refine z7 (T99.Ai s)<|zd (w4 b) ?_;unfold KX at a;unfold GV;by_cases c:s=[48]
 ·rw[wd c];rw[wd c]at a;exact zu rfl (zd (w4 b)<|zd rfl (zh<|a _ _ rfl))
 ·rw[wc c];rw[wc c]at a;by_cases d:s.getD 0 0=45
  ·rw[wd d];rw[wd d]at a;have f:s≠[]:=by rintro rfl;exact wh d af
   have g:1<=s.length:=List.length_pos_iff.2 f;refine zd rfl (zd (by simp;omega)<|zh<|a _ _ ?_);exact zx (by rw[yr];exact zz _)
  ·rw[wc d];rw[wc d]at a;exact zu rfl (zd (w4 b)<|zu rfl (zd (by simp;omega)<|zh<|a _ _ rfl))
namespace T107
theorem Z2:∀k:Fin 10,qc (qo (k.1+1) k.1) (List.drop k.1 [(48:UInt8),49,50,51,52,53,54,55,56,57])=[yd<|48+k.1]:=af
theorem As[Srt]{Q:PV->Ob->Prop}(l:Nat)(t:l<=20):∀(f n:Nat) (a:Z),n<9223372036854775808->n<10^f->l<=a.length+f->a.length+f<=64->(∀ob,Q (.dat .str<|HU (f+1) n l a) ob)->Ends NZ (L1 (n:Int) (l:Int) a) Q:=by
 intro f;induction f with
 |zero=>
  intro n a o i h e b;have h0:n=0:=by rw[Nat.pow_zero]at i;omega
  subst h0;unfold HU at b;rw[wd ⟨rfl,by omega⟩]at b;exact zt (Ar ..) (zu rfl (zu (by simp;omega)<|zh<|b _))
 |succ f m=>
  intro n a o i h e b;have k:z8 (n:Int) 10=((n % 10:Nat):Int):=by rw[qq<|yh n];rfl
  have p:zc .i64 (((n % 10:Nat):Int)+1)=((n % 10+1:Nat):Int):=by rw[wr _ ae ae];omega
  have q:zc .i64 (yw (n:Int) 10)=((n/10:Nat):Int):=by rw[Int.tdiv_eq_ediv_of_nonneg<|yh n,wr _ ae ae];rfl
  have g:=Z2 ⟨n % 10,qy _ af⟩;have g:qc (qo (n % 10+1)<|n % 10) (List.drop (n % 10) [(48:UInt8),49,50,51,52,53,54,55,56,57])=[yd<|48+n % 10]:=g;have s:n % 10<10:=qy _ af;rw[qf]at i;refine zt (Ar ..) ?_;conv=>zeta
  rw[k,p,q,zj,zj,g];by_cases j:n=0/\l<=a.length
  ·obtain⟨r,z2⟩:=j;subst r;unfold HU at b;rw[wd ⟨rfl,z2⟩]at b;exact zu rfl (zu (by simp;omega)<|zh<|b _)
  ·have d:∀ob,Q (.dat .str<|HU (f+1) (n/10) l (yd (48+n % 10)::a)) ob:=by
    intro ob;have:=b ob;unfold HU at this;rw[wc j]at this;exact this
   have go:Ends NZ (L1 ((n/10:Nat):Int) (l:Int)<|[yd<|48+n % 10]++a) Q:=m (n/10) (yd (48+n % 10)::a) ae ae (by rw[zl];omega) (by rw[zl];omega) d;refine zw (fun _=>?_)<|fun c=>zd ?_ ?_
   ·exact zd rfl (zd rfl (zd (by simp;omega)<|zd (by simp;omega)<|zd rfl go))
   ·have c:=w7 c;exact w4 ae
   ·exact zd rfl (zd rfl (zd (by simp;omega)<|zd (by simp;omega)<|zd rfl go))
theorem ok[Srt]:Af A9 107 PD:=by
 refine BM Fk<|fun(i:Int×Int) c=>?_;obtain⟨a,b⟩:=i;have c:(decide (0<=a)&&decide (a<9223372036854775808)&&decide (0<=b)&&decide (b<=20))=true:=c;rw[zf,zf,zf,w5,w5,w5,w5]at c;obtain⟨⟨⟨a0,a1⟩,b0⟩,b1⟩:=c;obtain⟨x,rfl⟩:=zo a0;obtain⟨y,rfl⟩:=zo b0;refine z7 (Ai x y) (As y ae 63 x [] ae ae (by show y<=0+63;omega) af<|fun ob=>yn rfl rfl ?_);show HU 64 x y []=HU 64 (x:Int).toNat (y:Int).toNat [];rw[zj,zj]
end T107
theorem pD[Srt]:Dn NB:=Aa T165.ok<|Aa T151.ok AP
namespace T102
theorem Cd[Srt](neg:Bool)(n d:Int)(h0:0<=n)(b:n<1000000000)(a:∀ob,Q (.tup [.dat i64<|if neg=true then -n else n,.dat i64 d,.bl true]) ob):Ends NB (L7 neg n d) Q:=by
 refine zt (ES ..) ?_;conv=>zeta
 cases neg with
 |true=>
  refine zd rfl (zh ?_);rw[wr _ ae ae,Int.zero_sub];exact a _
 |false=>exact zu rfl (zh<|a _)
theorem Cs[Srt](s:Z)(neg:Bool)(n:Int)(h0:0<=n)(d:n<1000000000)(l:s.length<=20)(m:(qi s).length<=9)(db:Ak (qi s)=true)(a:∀ob,Q (.tup [.dat i64<|if neg=true then -n else n,.dat i64<|if BE s=true then AE 0 (qi s)else 1,.bl true]) ob):Ends NB (L5 s neg (Bc s) n 1) Q:=by
 obtain⟨o,f,i⟩:=BN s;refine zt (Fb ..) ?_;conv=>zeta
 have es:Bc s=((AG s).length:Int):=rfl;have j:=(T86.Hp s).1;cases b:BE s with
 |true=>
  rw[b]at a;obtain⟨e,c⟩:=f b;have h:zc .i64 (Bc s+1)=(((AG s).length+1:Nat):Int):=by rw[es,wr _ ae ae];omega
  have g:(qi s).length=s.length-((AG s).length+1):=by rw[c,yr]
  have k:(qi s).take (qo s.length<|(AG s).length+1)=qi s:=zx (by show _<=s.length-_;omega);rw[h,zj, <-c,k];exact zd (by simp[es];omega) (zd (by simp;omega) (zd (T166.BW db ae)<|Cd neg n _ h0 d a))
 |false=>
  obtain⟨e,c⟩:=i b;rw[b]at a;exact zu (by simp[es,e])<|Cd neg n 1 h0 d a
theorem CW[Srt](s:Z)(neg:Bool)(h:s.length<=20)(g:(AG s).length<=9)(i:(qi s).length<=9)(a:Ak (AG s)=true)(db:Ak (qi s)=true)(e:∀n ob,n=AE 0 (AG s)->Q (.tup [.dat i64<|if neg=true then -n else n,.dat i64<|if BE s=true then AE 0 (qi s)else 1,.bl true]) ob):Ends NB (L3 s neg ) Q:=by
 obtain⟨k,d,j⟩:=BN s;have es:Bc s=((AG s).length:Int):=rfl;have l:=(T86.Hp s).1;have b:s.length-(AG s).length<=10:=by
  cases c:BE s with
  |true=>
   obtain⟨o,f⟩:=d c;have:(qi s).length=s.length-((AG s).length+1):=by rw[f,yr]
   omega
  |false=>rw[(j c).1];omega
 have m:qc (yz<|Bc s) s=AG s:=by rw[es,zj];exact k.symm
 obtain⟨v0,v1⟩:=T166.Ck a g;refine zt (Cr ..) ?_;conv=>zeta
 rw[m];refine zd (by simp;omega) (zu (by simp[es];omega) (zu ?_<|zd (by simp[es];omega) (zd (T166.BW a ae) ?_)))
 ·rw[es,wr _ ae ae];exact w8 ae
 ·exact Cs s neg (AE 0<|AG s) v0 v1 h i db<|fun ob=>e _ ob rfl
theorem Fo[Srt](n d:Int)(a:∀ob,Q (.tup [.dat i64 n,.dat i64 d,.bl true]) ob):Ends NB (L8 n d) Q:=by
 refine zt (H3 ..) ?_;conv=>zeta
 exact zh<|a _
theorem EB[Srt](s:Z)(n:Int)(k:s.length<=20)(l:(qi s).length<=9)(db:Ak (qi s)=true)(a:∀ob,Q (.tup [.dat i64 n,.dat i64<|if BE s=true then AE 0 (qi s)else 1,.bl true]) ob):Ends NB (L6 s (Bc s) n 1) Q:=by
 obtain⟨m,e,h⟩:=BN s;refine zt (Gu ..) ?_;conv=>zeta
 have es:Bc s=((AG s).length:Int):=rfl;have i:=(T86.Hp s).1;cases b:BE s with
 |true=>
  rw[b]at a;obtain⟨d,c⟩:=e b;have f:zc .i64 (Bc s+1)=(((AG s).length+1:Nat):Int):=by rw[es,wr _ ae ae];omega
  have g:(qi s).length=s.length-((AG s).length+1):=by rw[c,yr]
  have j:(qi s).take (qo s.length<|(AG s).length+1)=qi s:=zx (by show _<=s.length-_;omega);rw[f,zj, <-c,j];exact zd (by simp[es];omega) (zd (by simp;omega)<|zd (T166.BW db ae)<|Fo n _ a)
 |false=>
  obtain⟨d,c⟩:=h b;rw[b]at a;exact zu (by simp[es,d])<|Fo n 1 a
theorem BR[Srt](s:Z)(h:s.length<=20)(g:(AG s).length<=9)(i:(qi s).length<=9)(a:Ak (AG s)=true)(db:Ak (qi s)=true)(e:∀n ob,n=AE 0 (AG s)->Q (.tup [.dat i64 n,.dat i64<|if BE s=true then AE 0 (qi s)else 1,.bl true]) ob):Ends NB (L4 s ) Q:=by
 obtain⟨k,d,j⟩:=BN s;have es:Bc s=((AG s).length:Int):=rfl;have l:=(T86.Hp s).1;have b:s.length-(AG s).length<=10:=by
  cases c:BE s with
  |true=>
   obtain⟨o,f⟩:=d c;have:(qi s).length=s.length-((AG s).length+1):=by rw[f,yr]
   omega
  |false=>rw[(j c).1];omega
 have m:qc (yz<|Bc s) s=AG s:=by rw[es,zj];exact k.symm
 obtain⟨v0,v1⟩:=T166.Ck a g;refine zt (CN ..) ?_;conv=>zeta
 rw[m];refine zd (by simp;omega) (zu (by simp[es];omega)<|zu ?_<|zd (by simp[es];omega)<|zd (T166.BW a ae) ?_)
 ·rw[es,wr _ ae ae];exact w8 ae
 ·exact EB s (AE 0<|AG s) h i db<|fun ob=>e _ ob rfl
end T102
end Go.Pe
namespace Go.Sp
theorem He(a:List Int)(i:Nat):val B9 (a.drop i)=a.getD i 0+1000000000*val B9 (a.drop<|i+1):=by
 by_cases h:i<a.length
 ·rw[Cm h];rfl
 ·rw[zy ae,zy ae,show a.getD i 0=0 by rw[List.getD_eq_getElem?_getD,List.getElem?_eq_none ae];rfl];rfl
structure Fx(a b:List Int)(i:Nat)(o:List Int)(c:Int):Prop where
 len:o.length=i
 d:Aw B9 o
 c01:0<=c/\c<=1
 v:val B9 o+(B9:Int)^i*(c+val B9 (a.drop i)+val B9 (b.drop i))=Aj a+Aj b
 top:a.length<=i->b.length<=i->i=0\/(B9:Int)^(i-1)<=val B9 o+(B9:Int)^i*c
theorem Fx.start(a b:List Int):Fx a b 0 [] 0:=⟨rfl,(fun x c=>by cases c),by decide,by
 show 0+(B9:Int)^0*(0+val B9 a+val B9 b)=val B9 a+val B9 b;rw[Int.pow_zero,jm];omega,fun _ _=>.inl rfl⟩
theorem Bw{a:List Int}(h:A0 a=true)(i:Nat):0<=a.getD i 0/\a.getD i 0<1000000000:=GI (Bp h).2.1 i
theorem RY{a:List Int}(h:A0 a=true){i:Nat}(b:i<a.length)(c:a.length<=i+1):1<=a.getD i 0:=by
 have:=(Go.Pe.Gs (Bp h).2.1 (Bp h).2.2 (k:=i) ae).1;omega
theorem Fx.step{a b:List Int}{i:Nat}{o:List Int}{c:Int}(h:Fx a b i o c)(m:A0 a=true)(n:A0 b=true)(g:i<a.length\/i<b.length\/0<c):
  Fx a b (i+1) (o++[(a.getD i 0+b.getD i 0+c) % 1000000000]) ((a.getD i 0+b.getD i 0+c)/1000000000):=by
 obtain⟨t,s⟩:=Bw m i;obtain⟨y0,y1⟩:=Bw n i;obtain⟨c0,c1⟩:=h.c01;have l:=h.v;rw[He a i,He b i]at l;have j:1<=a.getD i 0+b.getD i 0+c\/¬(a.length<=i+1/\b.length<=i+1):=by
  by_cases k:a.length<=i+1/\b.length<=i+1
  ·refine .inl ?_;rcases g with g|g|g
   ·have:=RY m g k.1;omega
   ·have:=RY n g k.2;omega
   ·omega
  ·exact .inr k
 have u:=AD (b:=B9) af h.d;have p:=Be (b:=B9) af i;generalize a.getD i 0=x at*;generalize b.getD i 0=y at*;have f:val B9 (o++[(x+y+c) % 1000000000])=val B9 o+(B9:Int)^i*((x+y+c) % 1000000000):=by rw[B5,h.len]
 refine⟨by rw[zg,h.len];rfl,E6 h.d ae,by omega,?_,fun r q=>.inr ?_⟩
 ·rw[f,Lg,j0, <-jo, <-l];congr 2;omega
 ·rw[f,Lg,j0, <-jo,Nat.add_sub_cancel];have e:(x+y+c) % 1000000000+1000000000*((x+y+c)/1000000000)=x+y+c:=ae
  rw[e];rcases j with j|j
  ·have:=ye j<|yt p;rw[Int.mul_one]at this;omega
  ·exact wh ⟨r,q⟩ j
theorem AbT{o:List Int}(j:Aw B9 o)(h:o=[]\/(B9:Int)^(o.length-1)<=val B9 o):nz o:=by
 rcases h with rfl|h
 ·unfold nz;simp
 ·intro e;have a:o≠[]:=by rintro rfl;simp at e
  have f:o=o.dropLast++[0]:=by
   have d:=(List.dropLast_concat_getLast a).symm;rw[List.getLast?_eq_some_getLast a]at e;rw[Option.some.inj e]at d;exact d
  have g:o.length=o.dropLast.length+1:=by rw[List.length_dropLast];have:=List.length_pos_iff.2 a;omega
  have i:val B9 o=val B9 o.dropLast:=by
   conv=>lhs;rw[f]
   rw[B5,q9,jc]
  have c:Aw B9 o.dropLast:=fun x k=>j x (by rw[f];exact List.mem_append_left _ k)
  have:=Br (b:=B9) af c;rw[i,g,Nat.add_sub_cancel]at h;omega
theorem Fx.fin{a b:List Int}{i:Nat}{o:List Int}(h:Fx a b i o 0)(e:a.length<=i)(f:b.length<=i):o=HG a b:=by
 have c:=h.v;rw[zy e,zy f]at c;have c:val B9 o+(B9:Int)^i*(0+0+0)=Aj a+Aj b:=c;rw[show(0+0+0:Int)=0 from rfl,q9,jc]at c;have g:=h.top e f;rw[q9,jc, <-h.len]at g;have j:nz o:=AbT h.d (by
  rcases g with k|k
  ·exact .inl<|qd.1 k
  ·exact .inr k)
 unfold HG;rw[<-c];exact Iw (b:=B9) af h.d j
structure GB(a b:List Int)(i:Nat)(o:List Int)(c:Int):Prop where
 len:o.length=i
 d:Aw B9 o
 c01:0<=c/\c<=1
 v:val B9 o+(B9:Int)^i*(val B9 (a.drop i)-val B9 (b.drop i)-c)=Aj a-Aj b
theorem GB.start(a b:List Int):GB a b 0 [] 0:=⟨rfl,(fun x c=>by cases c),by decide,by
 show 0+(B9:Int)^0*(val B9 a-val B9 b-0)=val B9 a-val B9 b;rw[Int.pow_zero,jm];omega⟩
theorem GB.step{a b:List Int}{i:Nat}{o:List Int}{c:Int}(h:GB a b i o c)(j:A0 a=true)(g:A0 b=true)(d e:Int)(m:(a.getD i 0-b.getD i 0-c<0/\d=a.getD i 0-b.getD i 0-c+1000000000/\e=1)\/(¬a.getD i 0-b.getD i 0-c<0/\d=a.getD i 0-b.getD i 0-c/\e=0)):
  GB a b (i+1) (o++[d]) e:=by
 obtain⟨k,l⟩:=Bw j i;obtain⟨y0,y1⟩:=Bw g i;obtain⟨c0,c1⟩:=h.c01;have f:=h.v;rw[He a i,He b i]at f;generalize a.getD i 0=x at*;generalize b.getD i 0=y at*;refine⟨by rw[zg,h.len];rfl,E6 h.d ae,by omega,?_⟩;rw[B5,h.len,Lg,j0, <-jo, <-f];congr 2;omega
theorem GB.fin{a b:List Int}{o:List Int}{c:Int}(h:GB a b a.length o c)(i:A0 b=true)(l:Aj b<=Aj a):Ax o=IS a b:=by
 have e:=h.v;rw[List.drop_length]at e;have h0:=AD (b:=B9) af<|Em (Bp i).2.1 a.length;have f:=Br (b:=B9) af h.d;rw[h.len]at f;obtain⟨n,m⟩:=h.c01;have g:=Be (b:=B9) af a.length;have e:val B9 o+(B9:Int)^a.length*(0-val B9 (b.drop a.length)-c)=Aj a-Aj b:=e;generalize val B9 (b.drop a.length)=z at*;have j:0-z-c=0:=by
  rcases Int.lt_or_le (0-z-c) 0 with k|k
  ·have:=ye (show 0-z-c<= -1 by omega)<|yt g;rw[qv,Int.mul_one]at this;omega
  ·omega
 rw[j,q9,jc]at e;unfold IS;rw[FR h.d, <-e];rfl
open Go.Lib
theorem WW(n:Int):rN n=decide (n<0):=rfl
theorem IT(a:Bool×List Int):(a.1=true->vR a= -Aj a.2)/\(a.1=false->vR a=Aj a.2):=by
 unfold vR;exact⟨fun h=>by rw[wd h],fun h=>by rw[wc<|by rw[h];decide]⟩
theorem J2{neg:Bool}{w:List Int}{n:Int}(c:Aw B9 w)(h0:0<=Aj w)(a:neg=true->n= -Aj w)(b:neg=false->n=Aj w):(Cu neg w,Ax w)=(rN n,rW n):=by
 refine kL c ?_<|fun d=>?_
 ·rw[Ah];cases neg with
  |true=>have:=a rfl;omega
  |false=>have:=b rfl;omega
 ·rw[WW];cases neg with
  |true=>have:=a rfl;symm;rw[w5];omega
  |false=>have:=b rfl;symm;rw[w9];omega
theorem D4{n:Int}(h:0<=n):Aj (BG n)=n/\Aw B9 (BG n):=⟨CU (b:=B9) af h,HQ (b:=B9) af n⟩
theorem Zd{a b:Bool×List Int}(f:Ce a=true)(c:Ce b=true)(h:a.1=b.1):(Cu a.1<|HG a.2 b.2,Ax<|HG a.2 b.2)=(MM a b,MJ a b):=by
 have a0:=(El f).2;have g:=(El c).2;obtain⟨e,d⟩:=IT a;obtain⟨f1,f2⟩:=IT b;obtain⟨hv,hd⟩:=D4 (n:=Aj a.2+Aj b.2) ae;refine J2 hd (by show 0<=Aj (BG _);omega) (fun k=>?_)<|fun k=>?_
 ·rw[e k,f1<|by rw[<-h];exact k];show _= -Aj (BG _);omega
 ·rw[d k,f2<|by rw[<-h];exact k];show _=Aj (BG _);omega
theorem XE{a b:Bool×List Int}(c:Ce b=true)(h:a.1≠b.1)(f:Aj b.2<=Aj a.2):(Cu a.1<|IS a.2 b.2,Ax<|IS a.2 b.2)=(MM a b,MJ a b):=by
 have g:=(El c).2;obtain⟨d,e⟩:=IT a;obtain⟨f1,f2⟩:=IT b;obtain⟨hv,hd⟩:=D4 (n:=Aj a.2-Aj b.2) ae;refine J2 hd (by show 0<=Aj (BG _);omega) (fun k=>?_)<|fun k=>?_
 ·rw[d k,f2 (by rw[k]at h;cases c:b.1 with|true=>exact wh c.symm h|false=>rfl)];show _= -Aj (BG _);omega
 ·rw[e k,f1 (by rw[k]at h;cases c:b.1 with|true=>rfl|false=>exact wh c.symm h)];show _=Aj (BG _);omega
theorem rE{a b:Bool×List Int}(d:Ce a=true)(h:a.1≠b.1)(c:Aj a.2<=Aj b.2):(Cu b.1<|IS b.2 a.2,Ax<|IS b.2 a.2)=(MM a b,MJ a b):=by
 have:=XE d (fun k=>h k.symm) c;rw[this];unfold MM MJ;rw[Int.add_comm]
theorem mB{a b:Bool×List Int}(h:Ce a=true)(g:Ce b=true):(Cu (a.1 !=b.1)<|BG<|Aj a.2*Aj b.2,Ax<|BG<|Aj a.2*Aj b.2)=(HP a b,Hk a b):=by
 have a0:=(El h).2;have i:=(El g).2;obtain⟨f,e⟩:=IT a;obtain⟨f1,f2⟩:=IT b;have p0:=jt a0 i;obtain⟨hv,hd⟩:=D4 p0;refine J2 hd ae (fun k=>?_)<|fun k=>?_
 ·rw[hv];cases c:a.1<;>cases d:b.1<;>rw[c,d]at k
  ·exact wh k af
  ·rw[e c,f1 d,qv]
  ·rw[f c,f2 d,Int.neg_mul]
  ·exact wh k af
 ·rw[hv];cases c:a.1<;>cases d:b.1<;>rw[c,d]at k
  ·rw[e c,f2 d]
  ·exact wh k af
  ·exact wh k af
  ·rw[f c,f1 d,Int.neg_mul,qv,Int.neg_neg]
theorem lV{a:Bool×List Int}(b:Ce a=true):(Cu (!a.1) a.2,Ax a.2)=(SI a,RN a):=by
 have a0:=(El b).2;obtain⟨d,c⟩:=IT a;refine J2 (Bp (CV b).1).2.1 a0 (fun k=>?_)<|fun k=>?_
 ·rw[c<|by simpa using k]
 ·rw[d (by simpa using k),Int.neg_neg]
theorem Mh{b:Bool×List Int}(a:Ce b=true)(h0:0<vR b):b.1=false/\vR b=Aj b.2:=by
 have e:=(El a).2;obtain⟨d,c⟩:=IT b;cases h:b.1 with
 |true=>have:=d h;omega
 |false=>exact⟨rfl,c h⟩
theorem lK{A b:Int}(c:0<b)(g:A % b≠0): -A/b= -(A/b+1):=by
 have d:=Int.mul_ediv_add_emod A b;have e:=Int.emod_nonneg A (show b≠0 by omega);have f:=Int.emod_lt_of_pos A c;refine((Int.ediv_emod_unique (a:= -A) (b:=b) (r:=b-A % b) (q:= -(A/b+1)) c).2 ⟨?_,by omega,by omega⟩).1;rw[qv,jo,Int.mul_one];omega
theorem W2{A b:Int}(c:0<b)(e:A % b=0): -A/b= -(A/b):=by
 have d:=Int.mul_ediv_add_emod A b;refine((Int.ediv_emod_unique (a:= -A) (b:=b) (r:=0) (q:= -(A/b)) c).2 ⟨?_,by omega,c⟩).1;rw[qv];omega
theorem Om{a b:Bool×List Int}(e:Ce a=true)(c:Ce b=true)(h0:0<vR b)(h:a.1=false\/Aj a.2 % Aj b.2=0):(Cu a.1<|BG<|Aj a.2/Aj b.2,Ax<|BG<|Aj a.2/Aj b.2)=(Il a b,IM a b):=by
 have a0:=(El e).2;obtain⟨d,g⟩:=IT a;obtain⟨_,f⟩:=Mh c h0;rw[f]at h0;have i:=jf a0<|yt h0;obtain⟨hv,hd⟩:=D4 i;refine J2 hd ae (fun k=>?_)<|fun k=>?_
 ·rw[hv,d k,f];rcases h with h|h
  ·rw[k]at h;cases h
  ·exact W2 h0 h
 ·rw[hv,g k,f]
theorem VL{a b:Bool×List Int}(i:Ce a=true)(c:Ce b=true)(h0:0<vR b)(h:a.1=true)(m:Aj a.2 % Aj b.2≠0):(Cu a.1<|HG (BG<|Aj a.2/Aj b.2) [1],Ax<|HG (BG<|Aj a.2/Aj b.2) [1])=(Il a b,IM a b):=by
 have a0:=(El i).2;obtain⟨g,o⟩:=IT a;obtain⟨_,f⟩:=Mh c h0;rw[f]at h0;have l:=jf a0<|yt h0;have e:HG (BG<|Aj a.2/Aj b.2) [1]=BG (Aj a.2/Aj b.2+1):=by
  unfold HG;rw[(D4 l).1];rfl
 rw[e];obtain⟨d,j⟩:=D4 (n:=Aj a.2/Aj b.2+1) ae;refine J2 j ae (fun k=>?_)<|fun k=>?_
 ·rw[d,g k,f];exact lK h0 m
 ·rw[h]at k;cases k
theorem rP{w:List Int}{i:Nat}(a:w.length=i+1):val B9 (w.drop i)=w.getD i 0:=by
 rw[He,zy ae];show _+1000000000*0=_;omega
theorem WO{w:List Int}(a:A0 w=true){i:Nat}(b:w.length=i+1):IQ (w.getD i 0) 1=decDigits (val B9<|w.drop i).toNat/\0<val B9 (w.drop i):=by
 have g:=Bw a i;have t:=RY a (i:=i) ae ae;rw[rP b];exact⟨Pg g.1 ae,by omega⟩
theorem YY{w:List Int}(a:A0 w=true)(i:Nat)(h0:0<val B9 (w.drop<|i+1)):decDigits (val B9<|w.drop<|i+1).toNat++IQ (w.getD i 0) 9=decDigits (val B9<|w.drop i).toNat/\0<val B9 (w.drop i):=by
 have g:=Bw a i;rw[He w i,Zv g.1 g.2];generalize val B9 (w.drop<|i+1)=V at*;generalize w.getD i 0=x at*;have h:=S0 9 V.toNat x.toNat af ae ae;refine⟨?_,by omega⟩;rw[<-h];congr 1;omega
theorem cE{a:Bool×List Int}(d:Ce a=true)(c:a.2≠[]):(if a.1=true then 45::decDigits (Aj a.2).toNat else decDigits (Aj a.2).toNat)=Gj a:=by
 obtain⟨f,e⟩:=IT a;have h0:0<Aj a.2:=I8 (b:=B9) af (Bp (CV d).1).2.1 (Bp (CV d).1).2.2 c;unfold Gj AV itoa;by_cases h:a.1=true
 ·rw[wd h,f h,wd ae,show(-Aj a.2).natAbs=(Aj a.2).toNat by omega]
 ·have h:a.1=false:=by simpa using h
  rw[wc (by rw[h];decide),e h,wc ae]
theorem kM{a:Bool×List Int}(h:a.2=[]):[48]=Gj a:=by
 have:vR a=0:=by
  unfold vR;rw[h];split<;>rfl
 unfold Gj AV itoa;rw[this,wc af,show(0:Int).toNat=0 from rfl,decDigits_one af];rfl
theorem J9{N D:Int}(b:0<D):0<gI (Ag N) D/\Ag N/gI (Ag N) D=Ag (zn N D).num/\D/gI (Ag N) D=((zn N D).den:Int)/\(N<0↔(zn N D).num<0):=by
 have e:D.sign=1:=Int.sign_eq_one_of_pos b;have f:(zn N D).num=N/(jz N D:Int):=by rw[jj,e,jm,Int.gcd_comm]
 have j:((zn N D).den:Int)=D/(jz N D:Int):=by
  rw[jk,wc<|Int.ne_of_gt b,Int.gcd_comm,Int.natCast_ediv];rw[Int.natAbs_of_nonneg<|yt b]
 have l:gI (Ag N) D=(jz N D:Int):=by rw[Gx,Ah];rfl
 have a:0<jz N D:=Int.gcd_pos_of_ne_zero_right _ ae;obtain⟨k,d⟩:(jz N D:Int)∣N:=Int.gcd_dvd_left ..;rw[l,f,j];have a:(0:Int)<(jz N D:Int):=ae
 generalize (jz N D:Int)=g at*;have c:N/g=k:=by rw[d,qw _ ae]
 have i:Ag N/g=Ag k:=by
  rw[Ah,Ah,d,yc,Int.natCast_mul,show((g.natAbs:Nat):Int)=g by omega,qw _ ae]
 refine⟨a,by rw[c,i],rfl,?_⟩;rw[c];constructor
 ·intro h;rcases Int.lt_or_le k 0 with x|x
  ·exact x
  ·have:=jt (yt a) x;omega
 ·intro h;have:=Int.mul_neg_of_pos_of_neg a h;omega
theorem fT{N D:Int}(d:0<D){neg:Bool}(c:neg=rN N):(Cu neg<|BG<|Ag N/gI (Ag N) D,Ax<|BG<|Ag N/gI (Ag N) D)=(rN (zn N D).num,rW (zn N D).num):=by
 obtain⟨_,a,_,b⟩:=J9 (N:=N) d;rw[a];have a0:=Nw (zn N D).num;obtain⟨hv,hd⟩:=D4 a0;refine kL hd hv<|fun _=>?_;rw[c,WW,WW,decide_eq_decide];exact b
theorem nP{n:Int}(h0:0<=n):BG n=[1]↔n=1:=by
 constructor
 ·intro h;have:=(D4 h0).1;rw[h]at this;exact this.symm
 ·rintro rfl;rfl
theorem QH{N D:Int}:Cx N D=if (zn N D).den=1 then AV (zn N D).num else AV (zn N D).num++47::AV ((zn N D).den:Int):=by
 unfold Cx A5;split
 ·rfl
 ·rw[show AV ((zn N D).den:Int)=decDigits (zn N D).den from qj _];rfl
theorem UE(N D:Int):Cx (-N) (-D)=Cx N D:=by
 unfold Cx;rw[Rat.neg_divInt_neg]
theorem OQ{s:Z}(h:BB s=true):Bh s=Iy s/\AS s=Sv s/\Ak (AG<|Bk s)=true/\Ak (AT<|Bk s)=true:=by
 obtain⟨t,_⟩:=Gq h;obtain⟨c1,c2,c3⟩:=G9<|A8 s;obtain⟨p1,p2,p3,p4⟩:=Xe s;obtain⟨i1,i2,i3,i4⟩:=FN (A8 s).num;rw[t]at c1 c2 c3;have b:Ak (AT s)=true:=by
  rw[c2];split
  ·rfl
  ·exact D6 _
 refine⟨?_,?_,?_,?_⟩
 ·unfold Bh Iy Cf;rw[p1, <-p4];unfold Bk preB;by_cases a:(AG s).getD 0 0=45
  ·rw[wd a,wd a,wd<|w4 a]
  ·rw[wc a,wc a,wc<|by rw[w8 a];decide]
 ·unfold AS Sv Cf;rw[p2,p3,wc<|Fq b]
 ·rw[p1,c1,i2];exact D6 _
 ·rw[p2];exact b
theorem F8{s:Z}(h:BB s=true)(a:D5 s=true):lW s=Bh s/\Tw s=AS s/\ -1000000000<Bh s/\Bh s<1000000000/\0<AS s/\AS s<1000000000:=by
 obtain⟨b,c,i,e⟩:=OQ h;have g:0<AS s:=by
  have:=(D8 h).2.2.2.2.2.1;have:=(A8 s).den_pos;omega
 unfold lW Tw;rw[wd a,wd a];unfold D5 at a;rw[zf,zf,w5,w5,w5]at a;obtain⟨⟨_,d⟩,f⟩:=a;have k:=Bg i;have j:=Bg e;have l:(10:Int)^(AG<|Bk s).length<=10^9:=AN af d;have m:(10:Int)^(AT<|Bk s).length<=10^9:=AN af f;refine⟨b.symm,c.symm,?_,?_,g,?_⟩
 ·rw[b];unfold Iy;split<;>omega
 ·rw[b];unfold Iy;split<;>omega
 ·rw[c];unfold Sv;split<;>omega
theorem aG{a b:Z}(f:BB a=true)(c:BB b=true):H7 a b=Cx (Bh a*AS b+AS a*Bh b) (AS a*AS b)/\H7 a b=Cx (Bh a*AS b+Bh b*AS a) (AS a*AS b):=by
 have g:AS a≠0:=by
  have:=(D8 f).2.2.2.2.2.1;have:=(A8 a).den_pos;omega
 have d:AS b≠0:=by
  have:=(D8 c).2.2.2.2.2.1;have:=(A8 b).den_pos;omega
 have e:H7 a b=Cx (Bh a*AS b+Bh b*AS a) (AS a*AS b):=by
  unfold H7 Cx A8;rw[Rat.divInt_add_divInt _ _ g d]
 exact⟨by rw[e,Int.mul_comm (AS a)<|Bh b],e⟩
theorem ZC{a b:Z}:Ko a b=Cx (Bh a*Bh b) (AS a*AS b):=by
 unfold Ko Cx A8;rw[Rat.divInt_mul_divInt]
theorem YZ{a:Z}:SO a=Cx (AS a) (Bh a):=by
 unfold SO Cx A8;rw[Rat.inv_divInt]
theorem Vg:∀(f n l:Nat) (a:Z),(HU f n l a).length<=a.length+f
 |0,_,_,a=>zz _
 |f+1,n,l,a=>by
  unfold HU;split
  ·omega
  ·have:=Vg f (n/10) l (yd (48+n % 10)::a);grind
theorem TN(n l:Int):(IQ n l).length<=64:=by
 have:=Vg 64 n.toNat l.toNat [];exact this
theorem Vf{v:Int}{k:Nat}(h:v<(B9:Int)^k)(a:1<=k):(ze v.toNat).length<=9*k:=by
 rw[Vr]at h;refine Hq (k:=9*k) ?_ ae;grind
end Go.Sp
namespace Go.Pe
open Sp
open Go.Det
theorem xW{s:Sh}(a:s.sz=1){id n:Nat}{tail:Ob}{fz:Bool}{t:TypeId}{o:List s.T}(c:n=o.length):GZ ⟨0,.leaf,(id,.arr fz t s o)::tail,0⟩ (.list s) (.sl id 1 0 n none)=some (true,o):=by
 have b:AM ((id,Obj.arr fz t s o)::tail) id=some (.arr fz t s o):=by grind [AM,Nat.beq_refl]
 unfold GZ;simp_all [Dr,PV.cells,Cb,AI.obj,M0,Sh.MZ,Dg,Cj,nB,Eg]
theorem nJ{s:Sh}(a:s.sz=1){id n:Nat}{tail:Ob}{fz:Bool}{t:TypeId}{o:List s.T}(b:n=o.length):MN [.list s] (.sl id 1 0 n none) ((id,.arr fz t s o)::tail)=some (true,o):=xW a b
theorem NK(a:List Int)(i:Nat):H5 a (i:Int)=a.getD i 0:=by rfl
theorem sV[Srt]:Dn XR0:=fun g sp h=>by cases h
theorem T283.ok[Srt]:Af A9 283 Vt:=by
 refine BM sV<|fun(i:List Int×Int) hi=>?_;obtain⟨a,i⟩:=i;have h0:0<=i:=w6 hi;have b:∀v ob,v=H5 a i->Ad Vt (a,i) (.dat i64 v) ob:=fun v ob h=>yn rfl rfl h
 refine z7 (T283.Ai a i) (zw (fun c=>zd ah<|zh<|b _ _ rfl)<|fun c=>zh<|b _ _ ?_);grind [H5]
theorem Yx[Srt]:Dn Vl:=Aa T283.ok<|Aa T239.ok AP
theorem Qt{x y c:Int}(b:0<=x/\x<1000000000)(d:0<=y/\y<1000000000)(a:0<=c/\c<=1):
  zc .i64 (zc .i64 (x+y)+c)=x+y+c/\z8 (x+y+c) 1000000000=(x+y+c) % 1000000000/\zc .i64 (yw (x+y+c) 1000000000)=(x+y+c)/1000000000:=by
 grind [wr]
theorem jQ{a b:List Int}(h:fF a b=true):A0 a=true/\A0 b=true/\a.length<=9000/\b.length<=9000:=by
 simp_all [fF]
theorem WE{a b:List Int}(e:A0 a=true)(f:A0 b=true)(d:a.length<=9000)(c:b.length<=9000):fF a b=true:=by
 grind [fF]
namespace T236
theorem done[Srt](a b o:List Int)(i:Nat)(e:a.length<=i)(d:b.length<=i)(c:Q (.sl 0 1 0 o.length none) [(0,.arr false 3 (.int .i64) o)]):Ends Vl (L2 a b o.length 0 i o) Q:=
 (by simp_all [zt,AO,w8])
set_option maxHeartbeats 1000000 in
theorem A1[Srt](a b:List Int)(d:A0 a=true)(e:A0 b=true)(t:a.length<=9000)(v:b.length<=9000)(r:Q (.sl 0 1 0 (HG a b).length none) [(0,.arr false 3 (.int .i64)<|HG a b)]):∀(k i:Nat) (o:List Int) (c:Int),i+k=max a.length b.length->Fx a b i o c->Ends Vl (L2 a b o.length c i o) Q:=by
 have j:∀(i:Nat) (o:List Int),a.length<=i->b.length<=i->Fx a b i o 0->Ends Vl (L2 a b o.length 0 i o) Q:=fun i o n g h=>by
  have:=h.fin n g;grind [done]
 have next:∀(i:Nat) (o:List Int) (c:Int),i<=9000->Fx a b i o c->(i<a.length\/i<b.length\/0<c->Ends Vl (L2 a b (o++[(a.getD i 0+b.getD i 0+c) % 1000000000]).length ((a.getD i 0+b.getD i 0+c)/1000000000) ((i+1:Nat):Int)<|o++[(a.getD i 0+b.getD i 0+c) % 1000000000]) Q)->Ends Vl (L2 a b o.length c i o) Q:=fun i o c l h go=>by
  obtain⟨s1,s2,s3⟩:=Qt (Bw d i) (Bw e i) h.c01;have s:zc .i64 ((i:Int)+1)=((i+1:Nat):Int):=by grind [wr]
  have u:=h.len;have cap:(decide ((1:Nat)<=(1:Nat))&&true&&decide (o.length=o.length)&&decide ((3*(o.length+1)+2000)*8<=562949953421312))=true:=by
   grind
  have h0:decide ((0:Int)<=(i:Int))=true:=(by rfl);rw[zg]at go;by_cases y:(i:Int)<(a.length:Int)
  ·refine zt (AO ..) ?_;conv=>zeta
   simp_all [NK]
  ·by_cases q:(i:Int)<(b.length:Int)
   ·refine zt (AO ..) ?_;conv=>zeta
    simp_all [NK]
   ·by_cases x:c>0
    ·refine zt (AO ..) ?_;conv=>zeta
     simp_all [NK]
    ·obtain rfl:c=0:=by have:=h.c01;omega
     grind
 intro k;induction k with
 |zero=>
  intro i o c l h;refine next i o c ae h (fun f=>?_);have g:=h.step d e f;have w:a.getD i 0=0:=ah
  have z2:b.getD i 0=0:=ah
  have m:=h.c01;have z3:(a.getD i 0+b.getD i 0+c)/1000000000=0:=ae
  grind
 |succ k p=>
  intro i o c l h;exact next i o c ae h (fun f=>p (i+1) _ _ ae<|h.step d e f)
set_option maxHeartbeats 1000000 in
theorem ok[Srt]:Af A9 236 WL:=by
 refine BM Yx<|fun(i:List Int×List Int) hi=>?_;obtain⟨a,b⟩:=i;obtain⟨ha,hb,la,lb⟩:=jQ hi;obtain⟨s1,s2,s3⟩:=Qt (Bw ha 0) (Bw hb 0) (c:=0) af;have h0:=Fx.start a b;have go:(0<a.length\/0<b.length)->Ends Vl (L2 a b 1 ((a.getD 0 0+b.getD 0 0+0)/1000000000) ((1:Nat):Int) [(a.getD 0 0+b.getD 0 0+0) % 1000000000]) (Ad WL (a,b)):=fun h=>
  A1 a b ha hb la lb (yn (nJ rfl rfl) rfl rfl) (max a.length b.length-1) 1 _ _ ae (h0.step ha hb ae)
 refine z7 (Ai a b)<|zt (Ar ..) ?_;have f:H5 a 0=a.getD 0 0:=rfl;have j:H5 b 0=b.getD 0 0:=rfl;have g:zc .i64 ((0:Int)+1)=((1:Nat):Int):=rfl;refine zw (fun c=>?_)<|fun e=>zw (fun c=>?_)<|fun d=>zu rfl (zh<|yn (y:=[]) rfl rfl ?_)
 ·exact zd rfl (zd rfl (zd rfl (zd rfl (zd rfl ah))))
 ·exact zd rfl (zd rfl (zd rfl (zd rfl (zd rfl ah))))
 ·have e:=w7 e;have d:=w7 d;exact h0.fin ae ae
end T236
namespace T238
theorem G2{x y c:Int}(b:0<=x/\x<1000000000)(d:0<=y/\y<1000000000)(a:0<=c/\c<=1):
  zc .i64 (zc .i64 (x-y)-c)=x-y-c/\zc .i64 (x-y-c+1000000000)=x-y-c+1000000000:=by
 grind [wr]
set_option maxHeartbeats 1000000 in
theorem A1[Srt](a b:List Int)(g:A0 a=true)(f:A0 b=true)(m:a.length<=9000)(e:Aj b<=Aj a)(l:∀ob,Q (.dat li<|IS a b) ob):∀(k i:Nat) (o:List Int) (c:Int),i+k=a.length->GB a b i o c->Ends Vl (L2 a b o.length c i o) Q
 |0,i,o,c,j,h=>by
  have j:i=a.length:=ae
  subst j;have p:=h.len;refine zt (AO ..) (zu (by simp) ?_);rw[zx ae];refine zd ah<|zh ?_;rw[h.fin f e];grind
 |k+1,i,o,c,j,h=>by
  obtain⟨s1,s2⟩:=G2 (Bw g i) (Bw f i) h.c01;have n:zc .i64 ((i:Int)+1)=((i+1:Nat):Int):=by grind [wr]
  have p:=h.len;have cap:(decide ((1:Nat)<=(1:Nat))&&true&&decide (o.length=o.length)&&decide ((3*(o.length+1)+2000)*8<=562949953421312))=true:=by
   grind
  refine zt (AO ..) ?_;conv=>zeta
  rw[NK,zj,s1,s2,n];refine zd ah (zd ah<|zd (by rfl)<|zw (fun d=>zd cap ?_)<|fun d=>zd cap ?_)
  ·have:=A1 a b g f m e l k (i+1) _ _ ae (h.step g f _ 1 (.inl ⟨ah,rfl,rfl⟩));grind
  ·have:=A1 a b g f m e l k (i+1) _ _ ae (h.step g f _ 0 (.inr ⟨ah,rfl,rfl⟩));grind
set_option maxHeartbeats 1000000 in
theorem ok[Srt]:Af A9 238 Wm:=by
 refine BM Yx<|fun(i:List Int×List Int) e=>?_;obtain⟨a,b⟩:=i;have e:(fF a b&&decide (Aj b<=Aj a))=true:=e;rw[zf,w5]at e;obtain⟨e,hle⟩:=e;obtain⟨ha,hb,la,lb⟩:=jQ e;have h0:=GB.start a b;have f:∀ob,Ad Wm (a,b) (.dat li<|IS a b) ob:=fun ob=>yn rfl rfl rfl
 refine z7 (Ai a b)<|zt (Ar ..) ?_;obtain⟨s1,s2⟩:=G2 (Bw ha 0) (Bw hb 0) (c:=0) af;have h:H5 b 0=b.getD 0 0:=rfl;refine zw (fun c=>?_)<|fun c=>?_
 ·have g:=w6 c;refine zd (Ab rfl c)<|zd rfl (zw (fun d=>zd rfl ?_)<|fun d=>zd rfl ?_)
  ·exact A1 a b ha hb la hle f (a.length-1) 1 _ _ ae (h0.step ha hb _ 1 ah)
  ·exact A1 a b ha hb la hle f (a.length-1) 1 _ _ ae (h0.step ha hb _ 0 ah)
 ·refine zd rfl (zh ?_);grind [GB.fin]
end T238
theorem NC[Srt]:Dn XR2:=Aa T164.ok (by grind [Aa,T236.ok,T237.ok,T238.ok,T169.ok,T168.ok,Ng])
theorem HB{n:Int}{k:Nat}(h0:0<=n)(h:n<(qm:Int)^k):(BG n).length<=k:=Ny h0 h
theorem Js{a:Bool×List Int}(h:Ce a=true):0<=Aj a.2/\Aj a.2<(qm:Int)^3000:=by
 obtain⟨c,d,_⟩:=CV h;refine⟨(El h).2,ym (Br (b:=qm) af (Bp c).2.1)<|AN af d⟩
theorem VP{x y:Int}{k:Nat}(a:x<(qm:Int)^k)(b:y<(qm:Int)^k):x+y<(qm:Int)^(k+1):=by
 grind
theorem T163.ok[Srt]:Af A9 163 kU:=by
 refine BM NC<|fun(i:(Bool×List Int)×(Bool×List Int)) f=>?_;obtain⟨a,b⟩:=i;have f:(Ce a&&Ce b)=true:=f;rw[zf]at f;obtain⟨ha,hb⟩:=f;obtain⟨a1,a2,_⟩:=CV ha;obtain⟨b1,b2,_⟩:=CV hb;obtain⟨va,wa⟩:=Js ha;obtain⟨vb,wb⟩:=Js hb;have pl:=WE a1 b1 ae ae;have h:=WE b1 a1 ae ae;refine z7 (T163.Ai a b)<|zw (fun c=>?_)<|fun c=>zd (Ab a1 b1)<|zw (fun d=>?_)<|fun d=>?_
 ·have g:(HG a.2 b.2).length<=3001:=HB ae ah;exact zd pl (zd ah<|zh<|yn rfl rfl (Zd ha hb ah))
 ·have e:Aj b.2<=Aj a.2:=by
   grind [B6]
  have g:(IS a.2 b.2).length<=3000:=HB ae ae;exact zd ah (zd ah<|zh<|yn rfl rfl (XE hb ah e))
 ·have e:Aj a.2<=Aj b.2:=by
   grind [B6]
  have g:(IS b.2 a.2).length<=3000:=HB ae ae;exact zd ah (zd ah<|zh (yn rfl rfl (rE ha ah e)))
theorem T105.ok[Srt]:Af A9 105 Yd:=by
 refine BM NC<|fun(i:(Bool×List Int)×(Bool×List Int)) c=>?_;obtain⟨a,b⟩:=i;have c:(Ce a&&Ce b)=true:=c;rw[zf]at c;obtain⟨ha,hb⟩:=c;obtain⟨a1,a2,_⟩:=CV ha;obtain⟨b1,b2,_⟩:=CV hb;obtain⟨va,wa⟩:=Js ha;obtain⟨vb,wb⟩:=Js hb;have e:Aj a.2*Aj b.2<(qm:Int)^(3000+3000):=by
  rw[Int.pow_add];have d:(0:Int)<(qm:Int)^3000:=ae;exact yg (ye ae va)<|Int.mul_lt_mul_of_pos_right wa d
 have f:=HB (jt va vb) e;exact z7 (T105.Ai a b) (zd (by grind [Xt,Bp]) (zd ah<|zh<|yn rfl rfl (mB ha hb)))
theorem T167.ok[Srt]:Af A9 167 XO:=by
 refine BM NC<|fun(a:Bool×List Int) ha=>?_;have:=(CV ha).2.1;exact z7 (T167.Ai a) (zd ah<|zh<|yn rfl rfl (lV ha))
theorem T171.ok[Srt]:Af A9 171 Xl:=by
 refine BM NC<|fun(i:(Bool×List Int)×(Bool×List Int)) f=>?_;obtain⟨a,b⟩:=i;have f:(Ce a&&Ce b&&decide (0<Sp.vR b))=true:=f;rw[zf,zf,w5]at f;obtain⟨⟨ha,hb⟩,h0⟩:=f;obtain⟨a1,a2,_⟩:=CV ha;obtain⟨b1,b2,_⟩:=CV hb;obtain⟨va,wa⟩:=Js ha;have n:=(Mh hb h0).2;have k:0<Aj b.2:=ae
 have e:=jf va<|yt k;have q1:Aj a.2/Aj b.2<(qm:Int)^3000:=yg (Int.ediv_le_self _ va) wa;have g:=Int.emod_nonneg (Aj a.2) (show Aj b.2≠0 by omega);have m:=HB e q1;have h:=(Ft e q1 af).1;have o:(BG<|Aj a.2 % Aj b.2).length=0↔Aj a.2 % Aj b.2=0:=by
  rw[qd];exact jH (b:=qm) af g
 refine z7 (T171.Ai a b) (zd ah<|zw (fun c=>zw (fun d=>?_)<|fun d=>?_)<|fun c=>?_)
 ·have d:=w6 d;have j:Aj a.2 % Aj b.2≠0:=ae;have l:(HG (BG<|Aj a.2/Aj b.2) [1]).length<=3001:=by
   refine HB ?_ ?_
   ·rw[(D4 e).1];show 0<=_+(1:Int);omega
   ·rw[(D4 e).1];exact VP q1 (ym (show(1:Int)<(qm:Int)^1 by decide) ah)
  exact zd (WE h rfl ae af) (zd ah<|zh<|yn rfl rfl (VL ha hb h0 c j))
 ·have d:=w7 d;exact zd ah (zh<|yn rfl rfl (Om ha hb h0 ae))
 ·exact zd ah<|zh<|yn rfl rfl (Om ha hb h0<|.inl c)
theorem rY[Srt]:Dn XR3:=Aa T107.ok AP
namespace T100
theorem As[Srt](neg:Bool)(w:List Int)(d:A0 w=true)(h:w.length<=3000)(a:∀ob,Q (.dat .str (if neg=true then 45::ze (Aj w).toNat else ze (Aj w).toNat)) ob):∀(i:Nat),i<=w.length->0<Sp.val qm (w.drop i)->Ends XR3 (L1 (ze (Sp.val qm<|w.drop i).toNat) ((i:Int)-1) neg w) Q:=by
 have e:∀i,(ze (Sp.val qm<|w.drop i).toNat).length<=27000:=fun i=>by
  have l:=Br (b:=qm) af<|Em (Bp d).2.1 i;have m:(qm:Int)^(w.drop i).length<=(qm:Int)^3000:=AN af ah;exact Vf (k:=3000) ae af
 intro i;induction i with
 |zero=>
  intro _ _;refine zt (Ar ..) (zu af<|zw (fun c=>zd ah<|zh ?_)<|fun c=>zh ?_)
  ·rw[wd c]at a;exact a _
  ·rw[wc ah]at a;exact a _
 |succ i j=>
  intro n h0;have g:=Bw d i;have f:(((i+1:Nat):Int)-1)=(i:Int):=ae
  obtain⟨s1,s2⟩:=YY d i h0;rw[f];refine zt (Ar ..) ?_;conv=>zeta
  rw[zj,s1,wr ((i:Int)-1) ae ae];exact zd (by rfl) (zd ah<|zd ah<|by grind [zd])
theorem ok[Srt]:Af A9 100 SU:=by
 refine BM rY<|fun(a:Bool×List Int) ha=>?_;obtain⟨a1,a2,_⟩:=CV ha;refine z7 (Ai a)<|zw (fun c=>zh<|yn rfl rfl (kM ?_))<|fun c=>?_
 ·simp_all
 ·have c:(a.2.length:Int)≠0:=ah
  obtain⟨i,b⟩:∃i,a.2.length=i+1:=⟨a.2.length-1,by omega⟩;have g:=Bw a1 i;obtain⟨s1,s2⟩:=WO a1 b;have d:zc .i64 ((a.2.length:Int)-1)=(i:Int):=by grind [wr]
  have e:zc .i64 ((a.2.length:Int)-2)=(i:Int)-1:=by grind [wr]
  rw[d,e,zj,s1];refine zd ah (zd ah<|As a.1 a.2 a1 a2 (fun ob=>yn rfl rfl ?_) i ae s2);exact cE ha ah
end T100
end Go.Pe
