import Derived.Test.YtnbinppdjnlhpaaGreatDoorX14
import Derived.Test.YtnbinppdjnlhpaaGreatDoorX11
import Derived.Test.YtnbinppdjnlhpaaGreatDoorX09
import Derived.Test.YtnbinppdjnlhpaaGreatDoorX03
import Derived.ChangeSame
import Derived.Below
/- A part of a proof (no law is stated here). Made by program out of texts by AI agents. -/
open Go.Pe.Ends renaming tt → zc, Ag → ze, ite → zg, ff → zh, leaf → zi, eq → zD
open Int renaming toNat_natCast → zd
open Bool renaming and_eq_true → zf
open List renaming take_of_length_le → zj, take_length → zk, all_eq_true → zn, append_assoc → zp, mem_flatMap → zr, mem_append_right → zt, length_cons → zu, mem_cons_of_mem → zx, append_nil → zy, mem_cons_self → zA, drop_of_length_le → zE
open Nat renaming le_refl → zl, min_le_right → zw, zero_le → zC, add → zG
open Go.DataW renaming trod → zm
open Option renaming bind_some → zo
open Go.Sp renaming ix → zq, out → zz, iota → zB
open Array renaming getElem?_eq_none → zF
section
namespace Go.Sp
theorem TU(a b:List UInt8):Dx a b<0↔Dx b a>0:=by
 unfold Dx Bz;split<;>(try split)<;>(try split)<;>(try split)<;>omega
end Go.Sp
namespace Go.Pe
open Sp
open Go.Det
section gen
variable {X:AX}{Q:PV→Ob→Prop}
theorem Ol(ok:Int→Prop)(l:List AK)(n i:Nat)(F:List Int→Tr)(G:Int→List Int→Tr)
  (hG:∀(j:Nat) (arr:List Int) (x y:Int),j+1<n→arr.length=n→arr.getD (j+1) 0=x→arr.getD j 0=y→ok x→ok y→(Dx (zq l x) (zq l y)<0→Ends X (G j ((arr.set (j+1) y).set j x)) Q)→(¬Dx (zq l x) (zq l y)<0→Ends X (F arr) Q)→Ends X (G ((j:Int)+1) arr) Q)
  (hG0:∀arr:List Int,arr.length=n→Ends X (F arr) Q→Ends X (G 0 arr) Q) (x:Int) (hx:ok x) (S:List Int):
  ∀(rev P:List Int),(∀y∈rev,ok y)→rev.length+1+P.length+S.length=n→(∀arr,arr=Eh l P x rev++S→Ends X (F arr) Q)→∀k:Int,k=(rev.length:Int)→Ends X (G k (rev.reverse++x::(P++S))) Q
 |[],P,_,hl,hq,k,hk=>by
  have hk:k=0:=hk;subst hk;exact hG0 _ (by simp at hl ⊢;omega) (hq _ rfl)
 |y::r,P,hok,hl,hq,k,hk=>by
  have hk:k=(r.length:Int)+1:=by rw[hk];simp
  subst hk;have hl':r.length+1+1+P.length+S.length=n:=by simpa using hl
  have e2:(y::r).reverse++x::(P++S)=r.reverse++y::x::(P++S):=by simp
  have e3:r.reverse++y::x::(P++S)=(r.reverse++[y])++x::(P++S):=by simp
  rw[e2];refine hG r.length _ x y (by omega) (by simp;omega) ?_ (Cj _ _ _ _ (by simp)) hx (hok y zA) (fun c=>?_) (fun c=>hq _ ?_)
  ·rw[e3];exact Cj _ _ _ _ (by simp)
  ·have s1:((r.reverse++y::x::(P++S)).set (r.length+1) y).set r.length x=r.reverse++x::((y::P)++S):=by
    rw[e3,Ch (r.reverse++[y]) (P++S) x y (by simp)];rw[show(r.reverse++[y])++y::(P++S)=r.reverse++y::y::(P++S)by simp];exact Ch _ _ _ _ (by simp)
   rw[s1];refine Ol ok l n i F G hG hG0 x hx S r (y::P) (fun z hz=>hok z (zx _ hz)) (by simp;omega) (fun arr ha=>hq arr ?_) _ rfl;rw[ha];conv=>rhs;unfold Eh
   rw[if_pos ((TU _ _).1 c)]
  ·conv=>rhs;unfold Eh
   rw[if_neg (fun h=>c ((TU _ _).2 h))];simp
theorem Oi(ok:Int→Prop)(l:List AK)(n:Nat)(F:Int→List Int→Tr)(G:Int→Int→List Int→Tr)
  (hG:∀(i j:Nat) (arr:List Int) (x y:Int),i<n→j+1<n→arr.length=n→arr.getD (j+1) 0=x→arr.getD j 0=y→ok x→ok y→(Dx (zq l x) (zq l y)<0→Ends X (G i j ((arr.set (j+1) y).set j x)) Q)→(¬Dx (zq l x) (zq l y)<0→Ends X (F ((i:Int)+1) arr) Q)→Ends X (G i ((j:Int)+1) arr) Q)
  (hG0:∀(i:Nat) (arr:List Int),i<n→arr.length=n→Ends X (F ((i:Int)+1) arr) Q→Ends X (G i 0 arr) Q)
  (hF:∀(i:Nat) (arr:List Int),i<n→arr.length=n→Ends X (G i i arr) Q→Ends X (F i arr) Q) (w:List Int) (hw:Ends X (F n w) Q):
  ∀(s:List Int) (o:List Int) (k:Int),o.length+s.length=n→k=(o.length:Int)→(∀y∈o,ok y)→(∀y∈s,ok y)→s.foldl (H5 l) o=w→Ends X (F k (o++s)) Q
 |[],o,k,hn,hk,_,_,he=>by
  have he:o=w:=he;subst he hk;rw[zy];have:o.length=n:=by simpa using hn
  rw[this];exact hw
 |x::s,o,k,hn,hk,ho,hs,he=>by
  subst hk;have hn':o.length+(s.length+1)=n:=by simpa using hn
  refine hF o.length _ (by omega) (by simp;omega) ?_;have:=Ol (X:=X) (Q:=Q) ok l n o.length (F ((o.length:Int)+1)) (G o.length) (fun j arr x y h1 h2 h3 h4 h5 h6 h7 h8=>hG o.length j arr x y (by omega) h1 h2 h3 h4 h5 h6 h7 h8) (fun arr h1 h2=>hG0 o.length arr (by omega) h1 h2) x (hs x zA) s o.reverse [] (fun y hy=>ho y (List.mem_reverse.1 hy)) (by simp;omega)
   (fun arr ha=>?_) (o.length:Int) (by simp)
  ·simpa using this
  ·subst ha;refine Oi ok l n F G hG hG0 hF w hw s (H5 l o x) _ (by rw[I5];omega) (by rw[I5];omega) (fun y hy=>?_) (fun y hy=>hs y (zx _ hy)) he;rcases(Rt l o x y).1 hy with rfl|h
   ·exact hs y zA
   ·exact ho y h
end gen
end Go.Pe
end
section
namespace Go.Pe
open Sp
open Go.Det
theorem Z3:∀g sp,Ku.sp g=some sp→Ad AT g sp:=Ac T137.ok (Ac T138.ok (Ac (CQ (by kernel_rfl) (Ab (by kernel_rfl))) (fun g sp h=>by cases h)))
theorem eV{X:AX}(hX:X.C=AT)(hall:∀g sp,X.sp g=some sp→Ad AT g sp){f:FuncId}{w:Ff}{d:Nat}(hsp:AT.spec f=none)(hprim:AT.prim f=none)(hno:X.sp f=none)
  (hlen:∀i l,w.pre i l=true→(w.g i l).length=l.length) (hev:∀i l,w.pre i l=true→Ends X (T8 X d f w i l) (SI w i l)) (hev0:∀i,w.pre i []=true→Ends X (OT X d f w i) (fun v _=>v=.tup []))
  (hfn:∃i,AT.fn f=some i) (hws:∀g w,X.ws g=some w→De AT g w:=by intro _ _ h;cases h):De AT f w:=by
 have hmg:X.C.mg=false:=by rw[hX];rfl
 rw[←hX]at*;exact Rz hmg hall hws hsp hprim hno hlen hev hev0 hfn
theorem Q5{a:List UInt8}(h1:Bp a 6=true)(h2:Bk a=0):IU a=true∧(Mn a=A0 a∧Ln a=[]∧JN a=AJ a∧JU a=[])∧Mb ((A0 a,[]),(AJ a,[]))=true:=by
 obtain⟨q1,q2,q3,q4⟩:=Fb h1 h2;obtain⟨s1,s2,s3,s4⟩:=Gt q1;refine⟨q2,⟨?_,?_,?_,?_⟩,Gm s1 s2 (show -1000000000<AJ a by omega) s4⟩
 ·unfold Mn;rw[q3];exact(Ei s1 s2).1
 ·unfold Ln;rw[q3];exact(Ei s1 s2).2
 ·unfold JN;rw[q4];exact(Ei (by omega) s4).1
 ·unfold JU;rw[q4];exact(Ei (by omega) s4).2
def ZJ(l:List AK)(y:Int):Prop:=0≤y∧y<(l.length:Int)∧Bp (zq l y) 6=true∧Bk (zq l y)=0
theorem YX{l:List AK}{a:List Int}(h:Kt l a=true):l.length≤205∧a.length≤19∧∀y∈a,ZJ l y:=by
 unfold Kt at h;rw[zf,zf,decide_eq_true_eq,decide_eq_true_eq,zn]at h;refine⟨h.1.1,h.1.2,fun y hy=>?_⟩;have:=h.2 y hy;rw[zf,zf,zf,decide_eq_true_eq,decide_eq_true_eq,decide_eq_true_eq]at this;exact⟨this.1.1.1,this.1.1.2,this.1.2,this.2⟩
namespace T129
variable {Q:PV→Ob→Prop}
theorem BP(l:List AK)(a:List Int)(n:Nat)(hn:n≤19)(i j:Nat)(arr:List Int)(x y:Int)(hi:i<n)(hj:j+1<n)(hl:arr.length=n)(hx:arr.getD (j+1) 0=x)(hy:arr.getD j 0=y)(px:ZJ l x)(py:ZJ l y)
  (h1:Dx (zq l x) (zq l y)<0→Ends Ku (L5 l a n n 20 0 20 l a n 0 n i j l ((arr.set (j+1) y).set j x)) Q) (h2:¬Dx (zq l x) (zq l y)<0→Ends Ku (L3 l a n n 20 0 20 l a n 0 n ((i:Int)+1) l arr) Q):
  Ends Ku (L5 l a n n 20 0 20 l a n 0 n i ((j:Int)+1) l arr) Q:=by
 obtain⟨x1,x2,x3,x4⟩:=px;obtain⟨y1,y2,y3,y4⟩:=py;obtain⟨rx,⟨a1,a2,a3,a4⟩,ox⟩:=Q5 x3 x4;obtain⟨ry,⟨b1,b2,b3,b4⟩,oy⟩:=Q5 y3 y4;have e1:IntKind.wrap .i64 ((j:Int)+1-1)=j:=by rw[wr _ (by omega) (by omega)];omega
 have t1:((j:Int)+1).toNat=j+1:=by omega
 have ex:(List.getD l (Int.toNat x) ([],[],false)).2.1=zq l x:=rfl;have ey:(List.getD l (Int.toNat y) ([],[],false)).2.1=zq l y:=rfl;have k1:SF ((A0 (zq l x),[]),(AJ (zq l x),[])) ((A0 (zq l y),[]),(AJ (zq l y),[]))=Dx (zq l x) (zq l y):=rfl;refine ze (CZ ..) ?_;conv=>zeta
 simp only[e1,t1,zd,hx,hy,ex,ey,a1,a2,a3,a4,b1,b2,b3,b4,k1,List.length_set];rw[wr ((i:Int)+1) (by omega) (by omega)];have c1:(decide ((0:Int)≤(j:Int)+1)&&decide ((j:Int)+1<(n:Int)))=true:=by simp;omega
 have c2:decide (j+1<arr.length)=true:=decide_eq_true (by omega);have c3:(decide ((0:Int)≤(j:Int))&&decide ((j:Int)<(n:Int)))=true:=by simp;omega
 have c4:decide (j<arr.length)=true:=decide_eq_true (by omega);refine zc (decide_eq_true (by omega)) (zc c1 (zc c2 (zc c3 (zc c4 (zc (by simp;omega) (zc (by simp;omega) (zc rx (zc ry (zc (Aj ox oy) ?_)))))))));exact zg (fun c=>zc c3 (zc c4 (zc c1 (zc c2 (zc c1 (zc c2 (zc c3 (zc c4 (h1 (of_decide_eq_true c)))))))))) (fun c=>h2 (of_decide_eq_false c))
theorem ok:De AT 129 LX:=by
 refine eV (X:=Ku) rfl Z3 (d:=9) (by kernel_rfl) (by kernel_rfl) (by kernel_rfl) (fun(l:List AK) (a:List Int) _=>EF l a) (fun(l:List AK) (a:List Int) h=>?_) (fun(l:List AK) _=>?_) (Ab (by kernel_rfl))
 ·obtain⟨hl,ha,hok⟩:=YX (l:=l) (a:=a) h;have fin:∀w,w=BV l a→Ends Ku (L3 l a a.length a.length 20 0 20 l a a.length 0 a.length a.length l w) (SI LX l a):=fun w hw=>
   ze (Bm ..) (zh (by simp) (ze (DP ..) (zh (by simp;omega) (zi ⟨rfl,w,rfl,hw⟩))))
  refine zD (An l a) (ze (Ai ..) (zh (by simp;omega) ?_));rw[wr ((0:Int)+1) (by omega) (by omega)];cases a with
  |nil=>exact ze (Bm ..) (zh rfl (ze (DP ..) (zh rfl (zi ⟨rfl,[],rfl,rfl⟩))))
  |cons x s=>
   generalize hn:(x::s).length=n at*;exact Oi (ZJ l) l n (fun k arr=>L3 l (x::s) n n 20 0 20 l (x::s) n 0 n k l arr) (fun i j arr=>L5 l (x::s) n n 20 0 20 l (x::s) n 0 n i j l arr)
    (fun i j arr x y h1 h2 h3 h4 h5 h6 h7 h8 h9=>BP l _ n ha i j arr x y h1 h2 h3 h4 h5 h6 h7 h8 h9)
    (fun i arr h1 h2 h3=>ze (CZ ..) (zh rfl (by rw[wr ((i:Int)+1) (by omega) (by omega)];exact h3)))
    (fun i arr h1 h2 h3=>ze (Bm ..) (zc (by simp;omega) h3)) (BV l (x::s)) (fin _ rfl) s [x] _ (by simpa [Nat.add_comm]using hn) rfl (fun y hy=>hok y (by simp at hy;simp[hy])) (fun y hy=>hok y (zx _ hy)) rfl
 ·exact zD (T129z.An l) (ze (T129z.Ai ..) (zh rfl (ze (T129z.Bm ..) (zh rfl (ze (T129z.DP ..) (zh rfl (zi rfl)))))))
end T129
end Go.Pe
end
section
namespace Go.Sp
theorem Oj(n:Nat):iota (n+1)=iota n++[(n:Int)]:=by unfold iota;rw[List.range_succ,List.map_append];rfl
end Go.Sp
namespace Go.Pe
open Sp
open Go.Det
theorem T2:∀g sp,U2.sp g=some sp→Ad AT g sp:=Ac T140.ok (Ac T24.ok (fun g sp h=>by cases h))
theorem MS:∀(l:List AK) (seen:List (List UInt8)),IQ seen l=0→∀x∈l,Bk x.2.1=0
 |[],_,_,x,hx=>by cases hx
 |y::l,seen,h,x,hx=>by
  unfold IQ at h;obtain⟨h1,h2⟩:=DD h;rcases List.mem_cons.1 hx with rfl|hx
  ·unfold NC at h1;exact(DD (DD h1).2).1
  ·exact MS l _ h2 x hx
theorem D3{l:List AK}(h:AB l=0):l.length≤200∧∀x∈l,Bk x.2.1=0:=by
 unfold AB at h;by_cases e:200<l.length
 ·rw[if_pos e]at h;cases h
 ·rw[if_neg e]at h;exact⟨by omega,MS l [] h⟩
theorem cC{l:List AK}{y:Int}(h1:DH l=true)(h2:AB l=0)(a:0≤y)(b:y<(l.length:Int)):Bp (zq l y) 6=true∧Bk (zq l y)=0:=by
 have hm:l.getD y.toNat ([],[],false)∈l:=by
  have hlt:y.toNat<l.length:=by omega
  have e:l.getD y.toNat ([],[],false)=l[y.toNat]:=by simp[hlt]
  rw[e];exact List.getElem_mem _
 exact⟨(IB ((Ct h1).2 _ hm)).2.1,(D3 h2).2 _ hm⟩
theorem TO{l:List AK}{a:List Int}(h1:DH l=true)(h2:AB l=0)(ha:a.length≤205)(hm:∀y∈a,0≤y∧y<(l.length:Int)):Ks l a=true:=by
 unfold Ks;rw[zf,zf,decide_eq_true_eq,decide_eq_true_eq,zn];refine⟨⟨(Ct h1).1,ha⟩,fun y hy=>?_⟩;obtain⟨a1,a2⟩:=hm y hy;obtain⟨b1,b2⟩:=cC h1 h2 a1 a2;exact Aj (Aj (decide_eq_true a1) (decide_eq_true a2)) (Fb b1 b2).1
theorem Tf{l:List AK}{a:List Int}(h1:DH l=true)(h2:AB l=0)(ha:a.length≤19)(hm:∀y∈a,0≤y∧y<(l.length:Int)):Kt l a=true:=by
 unfold Kt;rw[zf,zf,decide_eq_true_eq,decide_eq_true_eq,zn];refine⟨⟨(Ct h1).1,ha⟩,fun y hy=>?_⟩;obtain⟨a1,a2⟩:=hm y hy;obtain⟨b1,b2⟩:=cC h1 h2 a1 a2;exact Aj (Aj (Aj (decide_eq_true a1) (decide_eq_true a2)) b1) (decide_eq_true b2)
theorem XC{l:List AK}(h:Sp.okO l=true):DH l=true∧AB l=0:=by
 unfold Sp.okO at h;rw[zf,decide_eq_true_eq]at h;exact h
theorem R1{l:List AK}(h:Yj l=true):DH l=true∧(l.length≤12∨200<l.length):=by
 unfold Yj at h;rw[zf,Bool.or_eq_true,decide_eq_true_eq,decide_eq_true_eq]at h;exact h
namespace T53
variable {Q:PV→Ob→Prop}
theorem AN(l:List AK)(h205:l.length≤205)(hq:∀ob tail,ob=(0,Obj.arr false 147 E3 l)::tail→Q (.sl 0 3 0 l.length none) ob):∀(r:List AK) (i:Nat) (acc:List AK),l.drop i=r→i≤l.length→acc.length≤i→acc++r=l→
  Ends U2 (L2 acc.length l l.length i acc) Q
 |[],i,acc,h,hi,ha,he=>by
  have:=drop_nil h hi;rw[zy]at he;subst he;exact ze (AM ..) (zh (by simp;omega) (zi (hq _ [] rfl)))
 |x::r,i,acc,h,hi,ha,he=>by
  obtain⟨h1,h2,h3⟩:=drop_cons (d:=([],[],false)) h;refine ze (AM ..) (zc (by simp<;>omega) (zc (by simp<;>omega) ?_));simp only[zd,h2];rw[wr ((i:Int)+1) (by omega) (by omega)];refine zc (by simp;omega) ?_;have e:zG acc.length 1=(acc++[x]).length:=by simp
  have ex:(x.1,x.2.1,x.2.2)=x:=rfl;rw[ex,e];exact AN l h205 hq r (i+1) (acc++[x]) h3 h1 (by simp;omega) (by rw[zp];exact he)
theorem ok:Ad AT 53 bR:=by
 refine Av (X:=U2) rfl T2 (d:=9) (by kernel_rfl) (by kernel_rfl) (by kernel_rfl) (fun(l:List AK) hl=>?_) (Ab (by kernel_rfl));obtain⟨h205,hok⟩:=Ct (l:=l) hl;refine zD (An l) ?_;conv=>zeta
 cases l with
 |nil=>exact ze (Ai ..) (zh (by simp) (zi ⟨[],rfl,rfl⟩))
 |cons x r=>
  refine ze (Ai ..) (zc (by simp<;>omega) (zc (by simp<;>omega) ?_));have e0:(x::r).getD (0:Int).toNat ([],[],false)=x:=rfl;simp only[e0];rw[wr ((0:Int)+1) (by omega) (by omega)];refine zc (by simp) (AN (x::r) h205 ?_ r 1 [x] rfl (by simp) (by simp) rfl);rintro ob tail rfl;exact⟨x::r,Wj rfl rfl,rfl⟩
end T53
namespace T61
variable {Q:PV→Ob→Prop}
theorem AN(l:List AK)(h1:DH l=true)(h2:AB l=0)(hq:∀ob,Q (.dat DZ (Fc l)) ob):∀(r:List AK) (i:Nat),l.drop i=r→i≤l.length→Ends U2 (L2 l i i (zB i)) Q
 |[],i,h,hi=>by
  have:=drop_nil h hi;subst this;have e:List.take l.length (zB l.length)=zB l.length:=zj (by rw[Bq];exact zl _);refine ze (AM ..) (zh (by simp) ?_);rw[e,Bq];refine zc (Aj (by simp) (TO h1 h2 (by rw[Bq];exact(Ct h1).1) (fun y hy=>Hp.1 hy))) (zi (hq _))
 |x::r,i,h,hi=>by
  obtain⟨g1,g2,g3⟩:=drop_cons (d:=([],[],false)) h;have:=(Ct h1).1;refine ze (AM ..) (zc (by simp;omega) ?_);rw[wr ((i:Int)+1) (by omega) (by omega),Bq, ←Oj];refine zc (by simp;omega) (AN l h1 h2 hq r (i+1) g3 g1)
theorem ok:Ad AT 61 Lu:=by
 refine Av (X:=U2) rfl T2 (d:=9) (by kernel_rfl) (by kernel_rfl) (by kernel_rfl) (fun(l:List AK) hl=>?_) (Ab (by kernel_rfl));obtain⟨h1,h2⟩:=XC (l:=l) hl;have hq:∀ob,Ae Lu l (.dat DZ (Fc l)) ob:=fun ob=>Ae.of rfl rfl rfl
 refine zD (An l) ?_;conv=>zeta
 cases l with
 |nil=>exact ze (Ai ..) (zh (by simp) (zc rfl (zi (hq _))))
 |cons x r=>
  refine ze (Ai ..) (zc (by simp) (zc (by simp) ?_));rw[wr ((0:Int)+1) (by omega) (by omega)];exact AN (x::r) h1 h2 hq r 1 rfl (by simp)
end T61
theorem Wl:∀g sp,PY ((60,DT)::(89,VQ)::(90,B8)::(88,Is)::iY) g=some sp→Ad AT g sp:=Ac T60.ok (Ac T89.ok (Ac T90.ok (Ac T88.ok Tc)))
theorem XU:∀g w,Wg [(129,LX)] g=some w→De AT g w:=S7 (fun x hx=>by rw[List.mem_singleton.1 hx];exact T129.ok)
namespace T59
variable {Q:PV→Ob→Prop}
def NB(n i:Nat):List Int:=zB i++List.replicate (n-i) (0:Int)
theorem eJ{n i:Nat}(h:i≤n):(NB n i).length=n:=by unfold NB;rw[List.length_append,Bq,List.length_replicate];omega
theorem fE{n i:Nat}(h:i<n):(NB n i).set i (i:Int)=NB n (i+1):=by
 unfold NB;rw[show n-i=(n-(i+1))+1 by omega,List.replicate_succ,Ch _ _ _ _ (Bq i),Oj,zp];rfl
theorem dH(n:Nat):NB n n=zB n:=by unfold NB;simp
theorem Ak(l:List AK)(n:Nat)(hn:n≤300)(hq:Kt l (zB n)=true∧∀ob,ob=[(0,Obj.arr false 3 i64 (BV l (zB n)))]→Q (.tup [.sl 0 1 0 n none,.dat i64 0]) ob):∀(k i:Nat),i+k=n→Ends jA (L1 l n n i (NB n i)) Q
 |0,i,h=>by
  obtain rfl:i=n:=by omega
  refine ze (Ai ..) (zh (by simp) ?_);rw[dH];exact zc (by rw[hq.1,Bq];simp) (zi (hq.2 _ rfl))
 |k+1,i,h=>by
  refine ze (Ai ..) (zc (by simp;omega) (zc (by simp;omega) (zc (by rw[eJ (by omega)];simp;omega) ?_)));rw[wr ((i:Int)+1) (by omega) (by omega),zd,fE (by omega)];exact Ak l n hn hq k (i+1) (by omega)
theorem ok:Ad AT 59 Uc:=by
 refine Av (X:=jA) rfl Wl (d:=9) (by kernel_rfl) (by kernel_rfl) (by kernel_rfl) (fun(l:List AK) hl=>?_) (Ab (by kernel_rfl)) XU;obtain⟨h1,h12⟩:=R1 (l:=l) hl;refine zD (An l) (zc h1 (zg (fun c=>zi ⟨([],AB l),rfl,?_⟩) (fun c=>?_)))
 ·have c:AB l≠0:=by simpa using c
  show _=D0 l;unfold D0;rw[if_pos c]
 ·have c:AB l=0:=by simpa using c
  have h200:=(D3 c).1;have e0:List.replicate l.length (0:Int)=NB l.length 0:=by unfold NB;simp[zB]
  refine zc (by simp;omega) ?_;rw[zd,e0];refine Ak l l.length (by omega) ⟨Tf h1 c (by rw[Bq];omega) (fun y hy=>Hp.1 hy),?_⟩ l.length 0 (by omega);rintro ob rfl;refine⟨(BV l (zB l.length),0),YH rfl (by rw[EF,Bq]),?_⟩;show _=D0 l;unfold D0;rw[if_neg (by simp[c])];rfl
end T59
end Go.Pe
end
section
namespace Go.Sp
theorem O3:∀(l:List AK) (i:Nat),(NU i l).length+(Nv i l).length=l.length
 |[],_=>rfl
 |x::r,i=>by
  have:=O3 r (i+1);unfold NU Nv;by_cases h:x.2.2=true
  ·rw[if_pos h,if_pos h,zu,zu];omega
  ·rw[if_neg h,if_neg h,zu,zu];omega
theorem MX(n:Nat)(key:Int):(Ck n key).length=n:=by rw[(E6 n key).length_eq,Bq]
theorem Lo(l:List AK)(key:Int):(Cm l key).length=(Nv 0 l).length:=(FY l key).length_eq
theorem eW{l:List AK}{y:Int}(h:y∈NU 0 l++Nv 0 l):0≤y∧y<(l.length:Int):=by
 have:=(Pt l 0).mem_iff.1 h;rw[←Uf]at this;exact Hp.1 this
theorem NS{l:List AK}{key y:Int}(h:y∈Cm l key):0≤y∧y<(l.length:Int):=eW (List.mem_append.2 (.inr ((FY l key).mem_iff.1 h)))
end Go.Sp
namespace Go.Pe
open Sp
open Go.Det
section gen
variable {X:AX}{Q:PV→Ob→Prop}
theorem Hv(l:List AK)(F:List Int→List Int→Int→Tr)
  (Cd:∀(i:Nat) (x:AK) (E O:List Int),i<l.length→l.getD i ([],[],false)=x→E.length≤i→O.length≤i→(x.2.2=true→Ends X (F (E++[(i:Int)]) O ((i:Int)+1)) Q)→(x.2.2=false→Ends X (F E (O++[(i:Int)]) ((i:Int)+1)) Q)→Ends X (F E O i) Q)
  (E0 O0:List Int) (hend:Ends X (F E0 O0 l.length) Q):∀(r:List AK) (i:Nat) (E O:List Int) (k:Int),l.drop i=r→i≤l.length→k=(i:Int)→E.length≤i→O.length≤i→E++NU i r=E0→O++Nv i r=O0→Ends X (F E O k) Q
 |[],i,E,O,k,h,hi,hk,hE,hO,h1,h2=>by
  have:=drop_nil h hi;have e1:E=E0:=by rw[←h1];simp[NU]
  have e2:O=O0:=by rw[←h2];simp[Nv]
  subst hk this;rw[e1,e2];exact hend
 |x::r,i,E,O,k,h,hi,hk,hE,hO,h1,h2=>by
  obtain⟨g1,g2,g3⟩:=drop_cons (d:=(([],[],false):AK)) h;subst hk;unfold NU at h1;unfold Nv at h2;refine Cd i x E O g1 g2 hE hO (fun c=>?_) (fun c=>?_)
  ·rw[if_pos c]at h1 h2;exact Hv l F Cd E0 O0 hend r (i+1) _ _ _ g3 g1 rfl (by simp;omega) (by omega) (by rw[zp];exact h1) h2
  ·rw[if_neg (by rw[c];decide)]at h1 h2;exact Hv l F Cd E0 O0 hend r (i+1) _ _ _ g3 g1 rfl (by omega) (by simp;omega) h1 (by rw[zp];exact h2)
theorem LD(o b:List Int)(hb:∀x∈b,0≤x∧x<(o.length:Int))(G:List Int→Int→Tr)
  (Cd:∀(j:Nat) (x:Int) (D:List Int),j<b.length→b.getD j 0=x→0≤x∧x<(o.length:Int)→D.length≤j→Ends X (G (D++[o.getD x.toNat 0]) ((j:Int)+1)) Q→Ends X (G D j) Q)
  (hend:Ends X (G (Sp.pick o b) b.length) Q):∀(r:List Int) (j:Nat) (D:List Int) (k:Int),b.drop j=r→j≤b.length→k=(j:Int)→D.length≤j→D++Sp.pick o r=Sp.pick o b→Ends X (G D k) Q
 |[],j,D,k,h,hj,hk,hD,h1=>by
  have:=drop_nil h hj;have e1:D=Sp.pick o b:=by rw[←h1];simp[Sp.pick]
  subst hk this;rw[e1];exact hend
 |x::r,j,D,k,h,hj,hk,hD,h1=>by
  obtain⟨g1,g2,g3⟩:=drop_cons (d:=0) h;subst hk;exact Cd j x D g1 g2 (hb x (CR h)) hD (LD o b hb G Cd hend r (j+1) _ _ g3 g1 rfl (by simp;omega) (by rw[zp];exact h1))
end gen
theorem Zs:∀g sp,GD.sp g=some sp→Ad AT g sp:=Ac T140.ok (Ac T24.ok (fun g sp h=>by cases h))
namespace T62
variable {Q:PV→Ob→Prop}
noncomputable def F(l:List AK)(rule:List UInt8)(key:Int):List Int→List Int→Int→Tr
 |[],[],k=>L1 l rule key k
 |e::E,[],k=>L2 l rule key (e::E).length k (e::E)
 |[],o::O,k=>L3 l rule key (o::O).length k (o::O)
 |e::E,o::O,k=>L5 l rule key (e::E).length (o::O).length k (o::O) (e::E)
noncomputable def G(l:List AK)(rule:List UInt8)(o b:List Int):List Int→List Int→Int→Tr
 |[],[],k=>L7 l rule o b k
 |e::E,[],k=>L8 l rule (e::E).length o b k (e::E)
 |[],d::D,k=>L9 l rule o b (d::D).length k (d::D)
 |e::E,d::D,k=>Zc l rule (e::E).length o b (d::D).length k (d::D) (e::E)
noncomputable def H:List Int→List Int→Tr
 |[],d=>Ry d
 |e::E,d=>Vm (e::E).length d (e::E)
theorem SZ(l:List AK)(hl:l.length≤205)(rule:List UInt8)(key:Int)(i:Nat)(x:AK)(E O:List Int)(hi:i<l.length)(hx:l.getD i ([],[],false)=x)(hE:E.length≤i)(hO:O.length≤i)
  (h1:x.2.2=true→Ends GD (F l rule key (E++[(i:Int)]) O ((i:Int)+1)) Q) (h2:x.2.2=false→Ends GD (F l rule key E (O++[(i:Int)]) ((i:Int)+1)) Q):Ends GD (F l rule key E O i) Q:=by
 have c1:decide ((i:Int)<(l.length:Int))=true:=decide_eq_true (by omega);have c2:(decide ((0:Int)≤(i:Int))&&decide ((i:Int)<(l.length:Int)))=true:=by simp;omega
 have sn:∀(e:Int) (E:List Int),zG (e::E).length 1=(e::(E++[(i:Int)])).length:=fun e E=>by simp
 cases E with
 |nil=>
  cases O with
  |nil=>
   refine ze (Ai ..) (zc c1 (zc c2 ?_));rw[zd,hx,wr ((i:Int)+1) (by omega) (by omega)];exact zg (fun c=>zc (by simp) (h1 c)) (fun c=>zc (by simp) (h2 c))
  |cons o O=>
   refine ze (Bm ..) (zc c1 (zc c2 ?_));rw[zd,hx,wr ((i:Int)+1) (by omega) (by omega),sn];exact zg (fun c=>zc (by simp) (h1 c)) (fun c=>zc (by simp at hO ⊢;omega) (h2 c))
 |cons e E=>
  cases O with
  |nil=>
   refine ze (AM ..) (zc c1 (zc c2 ?_));rw[zd,hx,wr ((i:Int)+1) (by omega) (by omega),sn];exact zg (fun c=>zc (by simp at hE ⊢;omega) (h1 c)) (fun c=>zc (by simp) (h2 c))
  |cons o O=>
   refine ze (CZ ..) (zc c1 (zc c2 ?_));rw[zd,hx,wr ((i:Int)+1) (by omega) (by omega),sn,sn];exact zg (fun c=>zc (by simp at hE ⊢;omega) (h1 c)) (fun c=>zc (by simp at hO ⊢;omega) (h2 c))
theorem WU(l:List AK)(rule:List UInt8)(key:Int)(E O:List Int)(hO:O.length≤200)(k1:1≤key)(k2:key≤2147483646)(hq:Ends GD (G l rule O (Ck (O.length:Nat) key) E [] 0) Q):Ends GD (F l rule key E O l.length) Q:=by
 have c:(decide ((0:Int)≤(O.length:Int))&&decide ((O.length:Int)≤200)&&decide (1≤key)&&decide (key≤2147483646))=true:=by simp;omega
 cases E with
 |nil=>
  have go:Ends GD (L4 l rule key O) Q:=ze (BB ..) (zc c hq);cases O with
  |nil=>exact ze (Ai ..) (zh (by simp) go)
  |cons o O=>
   refine ze (Bm ..) (zh (by simp) ?_);rw[zk];exact go
 |cons e E=>
  have go:Ends GD (L6 l rule key (e::E).length O (e::E)) Q:=ze (DP ..) (zc c hq);cases O with
  |nil=>exact ze (AM ..) (zh (by simp) go)
  |cons o O=>
   refine ze (CZ ..) (zh (by simp) ?_);rw[zk];exact go
theorem S3(l:List AK)(rule:List UInt8)(o b E:List Int)(j:Nat)(x:Int)(D:List Int)(hb:b.length≤205)(hj:j<b.length)(hx:b.getD j 0=x)(h0:0≤x∧x<(o.length:Int))(hD:D.length≤j)(hq:Ends GD (G l rule o b E (D++[o.getD x.toNat 0]) ((j:Int)+1)) Q):Ends GD (G l rule o b E D j) Q:=by
 have c1:decide ((j:Int)<(b.length:Int))=true:=decide_eq_true (by omega);have c2:(decide ((0:Int)≤(j:Int))&&decide ((j:Int)<(b.length:Int)))=true:=by simp;omega
 have c3:(decide ((0:Int)≤x)&&decide (x<(o.length:Int)))=true:=by simp;omega
 have sn:∀(z e:Int) (E:List Int),zG (e::E).length 1=(e::(E++[z])).length:=fun z e E=>by simp
 cases E with
 |nil=>
  cases D with
  |nil=>
   refine ze (Dw ..) (zc c1 (zc c2 ?_));rw[zd,hx,wr ((j:Int)+1) (by omega) (by omega)];exact zc c3 (zc (by simp) hq)
  |cons d D=>
   refine ze (Mg ..) (zc c1 (zc c2 ?_));rw[zd,hx,wr ((j:Int)+1) (by omega) (by omega),sn (o.getD x.toNat 0)];exact zc c3 (zc (by simp at hD ⊢;omega) hq)
 |cons e E=>
  cases D with
  |nil=>
   refine ze (E7 ..) (zc c1 (zc c2 ?_));rw[zd,hx,wr ((j:Int)+1) (by omega) (by omega)];exact zc c3 (zc (by simp) hq)
  |cons d D=>
   refine ze (LA ..) (zc c1 (zc c2 ?_));rw[zd,hx,wr ((j:Int)+1) (by omega) (by omega),sn (o.getD x.toNat 0)];exact zc c3 (zc (by simp at hD ⊢;omega) hq)
theorem Ea(rule:List UInt8):(rule==[105,110,100,101,120])=decide (rule=Gd):=by
 by_cases h:rule=Gd
 ·rw[decide_eq_true h,h];rfl
 ·rw[decide_eq_false h];exact beq_eq_false_iff_ne.2 h
theorem XK(l:List AK)(rule:List UInt8)(o b E D:List Int)(hD:Ks l D=true)(hq:Ends GD (H E (if rule=Gd then BV l D else D)) Q):Ends GD (G l rule o b E D b.length) Q:=by
 cases E with
 |nil=>
  cases D with
  |nil=>
   refine ze (Dw ..) (zh (by simp) ?_);rw[Ea];refine zg (fun c=>zc hD ?_) (fun c=>?_)
   ·rw[if_pos (of_decide_eq_true c)]at hq;exact hq
   ·rw[if_neg (of_decide_eq_false c)]at hq;exact hq
  |cons d D=>
   refine ze (Mg ..) (zh (by simp) ?_);rw[Ea,zk];refine zg (fun c=>zc (by rw[hD];simp) ?_) (fun c=>?_)
   ·rw[if_pos (of_decide_eq_true c)]at hq;exact hq
   ·rw[if_neg (of_decide_eq_false c)]at hq;exact hq
 |cons e E=>
  cases D with
  |nil=>
   refine ze (E7 ..) (zh (by simp) ?_);rw[Ea];refine zg (fun c=>zc hD ?_) (fun c=>?_)
   ·rw[if_pos (of_decide_eq_true c)]at hq;exact hq
   ·rw[if_neg (of_decide_eq_false c)]at hq;exact hq
  |cons d D=>
   refine ze (LA ..) (zh (by simp) ?_);rw[Ea,zk];refine zg (fun c=>zc (by rw[hD];simp) ?_) (fun c=>?_)
   ·rw[if_pos (of_decide_eq_true c)]at hq;exact hq
   ·rw[if_neg (of_decide_eq_false c)]at hq;exact hq
theorem Tl{k:Int}(h:zz k 1 2147483646=0):1≤k∧k≤2147483646:=by
 unfold zz at h;split at h
 ·cases h
 ·split at h
  ·cases h
  ·omega
theorem ok:Ad AT 62 Td:=by
 refine Av (X:=GD) rfl Zs (d:=9) (by kernel_rfl) (by kernel_rfl) (by kernel_rfl) (fun(i:List AK×List UInt8×Int) hi=>?_) (Ab (by kernel_rfl));obtain⟨l,rule,key⟩:=i;have hi:(Sp.okO l&&decide (zz key 1 2147483646=0))=true:=hi;rw[zf,decide_eq_true_eq]at hi;obtain⟨h1,h2⟩:=XC hi.1;obtain⟨k1,k2⟩:=Tl hi.2;have h205:=(Ct h1).1;have h200:=(D3 h2).1;have hx:=O3 l 0;have hbl:=MX (Nv 0 l).length key;refine zD (An l rule key) (Hv l (F l rule key) (fun i x E O g1 g2 g3 g4 g5 g6=>SZ l h205 rule key i x E O g1 g2 g3 g4 g5 g6) (NU 0 l) (Nv 0 l) ?_ l 0 [] [] 0 rfl (zC _) rfl (zl _) (zl _) rfl rfl);refine WU l rule key _ _ (by omega) k1 k2 ?_;refine LD (Nv 0 l) _ (fun x hx=>Hp.1 ((E6 _ _).mem_iff.1 hx)) (G l rule (Nv 0 l) _ (NU 0 l)) (fun j x D g1 g2 g3 g4 g5=>S3 l rule _ _ _ j x D (by omega) g1 g2 g3 g4 g5) ?_ _ 0 [] 0 rfl (zC _) rfl (zl _) rfl;have hlen:(Cm l key).length≤205:=by rw[Lo];omega
 refine XK l rule _ _ _ _ (TO h1 h2 hlen (fun y hy=>NS hy)) ?_;have hd:(if rule=Gd then BV l (Cm l key)else Cm l key).length≤205:=by
  split
  ·rw[EF];exact hlen
  ·exact hlen
 have hgo:DU l rule key=NU 0 l++(if rule=Gd then BV l (Cm l key)else Cm l key):=rfl;show Ends GD (H (NU 0 l) (if rule=Gd then BV l (Cm l key)else Cm l key)) _;generalize (if rule=Gd then BV l (Cm l key)else Cm l key)=d at*;have he:(NU 0 l).length≤205:=by omega
 generalize NU 0 l=E at*;cases E with
 |nil=>
  refine ze (Ld ..) (zg (fun c=>zc (by simp;omega) (zi ⟨d,KK rfl rfl,hgo.symm⟩)) (fun c=>zi ⟨[],rfl,?_⟩));have:d=[]:=by simpa using c
  subst this;exact hgo.symm
 |cons e E=>
  refine ze (Sr ..) (zc (by simp at he ⊢;omega) (zi ⟨(e::E)++d,KK rfl (by simp;omega),hgo.symm⟩))
end T62
end Go.Pe
end
section
namespace Go.Pe
open Sp
open Go.Det
theorem Yw:∀g sp,GA.sp g=some sp→Ad AT g sp:=Wl
namespace T52
variable {Q:PV→Ob→Prop}
noncomputable def F(l:List AK)(p:Int)(rule:List UInt8)(key:Int):List Int→List Int→Int→Tr
 |[],[],k=>L1 l p rule key l l.length k
 |e::E,[],k=>L2 l p rule key (e::E).length l l.length k (e::E)
 |[],o::O,k=>L3 l p rule key (o::O).length l l.length k (o::O)
 |e::E,o::O,k=>L5 l p rule key (e::E).length (o::O).length l l.length k (o::O) (e::E)
noncomputable def G(l:List AK)(p:Int)(rule:List UInt8)(o b:List Int):List Int→List Int→Int→Tr
 |[],[],k=>L7 l p rule o b b.length k
 |e::E,[],k=>L8 l p rule (e::E).length o b b.length k (e::E)
 |[],d::D,k=>L9 l p rule o (d::D).length b b.length k (d::D)
 |e::E,d::D,k=>Zc l p rule (e::E).length o (d::D).length b b.length k (d::D) (e::E)
noncomputable def H(p:Int):List Int→List Int→Tr
 |[],d=>Ry p d
 |e::E,d=>Vm p (e::E).length d (e::E)
theorem SZ(l:List AK)(hl:l.length≤205)(p:Int)(rule:List UInt8)(key:Int)(i:Nat)(x:AK)(E O:List Int)(hi:i<l.length)(hx:l.getD i ([],[],false)=x)(hE:E.length≤i)(hO:O.length≤i)
  (h1:x.2.2=true→Ends GA (F l p rule key (E++[(i:Int)]) O ((i:Int)+1)) Q) (h2:x.2.2=false→Ends GA (F l p rule key E (O++[(i:Int)]) ((i:Int)+1)) Q):Ends GA (F l p rule key E O i) Q:=by
 have c1:decide ((i:Int)<(l.length:Int))=true:=decide_eq_true (by omega);have c2:(decide ((0:Int)≤(i:Int))&&decide ((i:Int)<(l.length:Int)))=true:=by simp;omega
 have sn:∀(e:Int) (E:List Int),zG (e::E).length 1=(e::(E++[(i:Int)])).length:=fun e E=>by simp
 cases E with
 |nil=>
  cases O with
  |nil=>
   refine ze (Ai ..) (zc c1 (zc c2 ?_));rw[zd,hx,wr ((i:Int)+1) (by omega) (by omega)];exact zg (fun c=>zc (by simp) (h1 c)) (fun c=>zc (by simp) (h2 c))
  |cons o O=>
   refine ze (Bm ..) (zc c1 (zc c2 ?_));rw[zd,hx,wr ((i:Int)+1) (by omega) (by omega),sn];exact zg (fun c=>zc (by simp) (h1 c)) (fun c=>zc (by simp at hO ⊢;omega) (h2 c))
 |cons e E=>
  cases O with
  |nil=>
   refine ze (AM ..) (zc c1 (zc c2 ?_));rw[zd,hx,wr ((i:Int)+1) (by omega) (by omega),sn];exact zg (fun c=>zc (by simp at hE ⊢;omega) (h1 c)) (fun c=>zc (by simp) (h2 c))
  |cons o O=>
   refine ze (CZ ..) (zc c1 (zc c2 ?_));rw[zd,hx,wr ((i:Int)+1) (by omega) (by omega),sn,sn];exact zg (fun c=>zc (by simp at hE ⊢;omega) (h1 c)) (fun c=>zc (by simp at hO ⊢;omega) (h2 c))
theorem WU(l:List AK)(p:Int)(rule:List UInt8)(key:Int)(E O:List Int)(hO:O.length≤200)(k1:1≤key)(k2:key≤2147483646)(hq:Ends GA (G l p rule O (Ck (O.length:Nat) key) E [] 0) Q):Ends GA (F l p rule key E O l.length) Q:=by
 have c:(decide ((0:Int)≤(O.length:Int))&&decide ((O.length:Int)≤200)&&decide (1≤key)&&decide (key≤2147483646))=true:=by simp;omega
 cases E with
 |nil=>
  have go:Ends GA (L4 l p rule key O) Q:=ze (BB ..) (zc c hq);cases O with
  |nil=>exact ze (Ai ..) (zh (by simp) go)
  |cons o O=>
   refine ze (Bm ..) (zh (by simp) ?_);rw[zk];exact go
 |cons e E=>
  have go:Ends GA (L6 l p rule key (e::E).length O (e::E)) Q:=ze (DP ..) (zc c hq);cases O with
  |nil=>exact ze (AM ..) (zh (by simp) go)
  |cons o O=>
   refine ze (CZ ..) (zh (by simp) ?_);rw[zk];exact go
theorem S3(l:List AK)(p:Int)(rule:List UInt8)(o b E:List Int)(j:Nat)(x:Int)(D:List Int)(hb:b.length≤205)(hj:j<b.length)(hx:b.getD j 0=x)(h0:0≤x∧x<(o.length:Int))(hD:D.length≤j)(hq:Ends GA (G l p rule o b E (D++[o.getD x.toNat 0]) ((j:Int)+1)) Q):Ends GA (G l p rule o b E D j) Q:=by
 have c1:decide ((j:Int)<(b.length:Int))=true:=decide_eq_true (by omega);have c2:(decide ((0:Int)≤(j:Int))&&decide ((j:Int)<(b.length:Int)))=true:=by simp;omega
 have c3:(decide ((0:Int)≤x)&&decide (x<(o.length:Int)))=true:=by simp;omega
 have sn:∀(z e:Int) (E:List Int),zG (e::E).length 1=(e::(E++[z])).length:=fun z e E=>by simp
 cases E with
 |nil=>
  cases D with
  |nil=>
   refine ze (Dw ..) (zc c1 (zc c2 ?_));rw[zd,hx,wr ((j:Int)+1) (by omega) (by omega)];exact zc c3 (zc (by simp) hq)
  |cons d D=>
   refine ze (Mg ..) (zc c1 (zc c2 ?_));rw[zd,hx,wr ((j:Int)+1) (by omega) (by omega),sn (o.getD x.toNat 0)];exact zc c3 (zc (by simp at hD ⊢;omega) hq)
 |cons e E=>
  cases D with
  |nil=>
   refine ze (E7 ..) (zc c1 (zc c2 ?_));rw[zd,hx,wr ((j:Int)+1) (by omega) (by omega)];exact zc c3 (zc (by simp) hq)
  |cons d D=>
   refine ze (LA ..) (zc c1 (zc c2 ?_));rw[zd,hx,wr ((j:Int)+1) (by omega) (by omega),sn (o.getD x.toNat 0)];exact zc c3 (zc (by simp at hD ⊢;omega) hq)
theorem XK(l:List AK)(p:Int)(rule:List UInt8)(o b E D:List Int)(hD:Kt l D=true)(hq:Ends GA (H p E (if rule=Gd then BV l D else D)) Q):Ends GA (G l p rule o b E D b.length) Q:=by
 have tk:List.take D.length (BV l D)=BV l D:=zj (by rw[EF];exact zl _);cases E with
 |nil=>
  cases D with
  |nil=>
   refine ze (Dw ..) (zh (by simp) ?_);rw[T62.Ea];refine zg (fun c=>zc hD ?_) (fun c=>?_)
   ·rw[if_pos (of_decide_eq_true c)]at hq;exact hq
   ·rw[if_neg (of_decide_eq_false c)]at hq;exact hq
  |cons d D=>
   refine ze (Mg ..) (zh (by simp) ?_);rw[T62.Ea,zk,tk];refine zg (fun c=>zc (by rw[hD];simp) ?_) (fun c=>?_)
   ·rw[if_pos (of_decide_eq_true c)]at hq;exact hq
   ·rw[if_neg (of_decide_eq_false c)]at hq;exact hq
 |cons e E=>
  cases D with
  |nil=>
   refine ze (E7 ..) (zh (by simp) ?_);rw[T62.Ea];refine zg (fun c=>zc hD ?_) (fun c=>?_)
   ·rw[if_pos (of_decide_eq_true c)]at hq;exact hq
   ·rw[if_neg (of_decide_eq_false c)]at hq;exact hq
  |cons d D=>
   refine ze (LA ..) (zh (by simp) ?_);rw[T62.Ea,zk,tk];refine zg (fun c=>zc (by rw[hD];simp) ?_) (fun c=>?_)
   ·rw[if_pos (of_decide_eq_true c)]at hq;exact hq
   ·rw[if_neg (of_decide_eq_false c)]at hq;exact hq
theorem Ju{p:Int}(h:0≤p)(n:Nat):Cs p (n:Int)=((min p.toNat n:Nat):Int):=by unfold Cs;split<;>omega
theorem WQ{ob:Ob}{p q:PV}{a b a' b':List Int}(h1:DQ ⟨0,.leaf,ob,0⟩ DZ p=some (true,a))(h2:DQ ⟨0,.leaf,ob,0⟩ DZ q=some (true,b))(ha:a=a')(hb:b=b'):
  Cw ⟨0,.leaf,ob,0⟩ [DZ,DZ,i64] (E2 [DZ,DZ,i64] (.tup [p,q,.dat i64 0]))=some (true,(a',b',0)):=by
 subst ha hb;exact Qi h1 (Qi h2 rfl)
theorem QG(d:Nat)(e:List Int):e.take (min d e.length)=e.take d∧e.drop (min d e.length)=e.drop d:=by
 rcases Nat.le_total d e.length with h|h
 ·rw[Nat.min_eq_left h];exact⟨rfl,rfl⟩
 ·rw[Nat.min_eq_right h,zj (zl _),zj h,zE (zl _),zE h];exact⟨rfl,rfl⟩
theorem parts(p n:Nat)(w:List Int)(hn:w.length=n){ob:Ob}{id:Nat}{t:TypeId}(hg:AI ob id=some (.arr false t i64 w)):
  Cw ⟨0,.leaf,ob,0⟩ [DZ,DZ,i64] (E2 [DZ,DZ,i64] (.tup [.sl id 1 0 (min p n) (some (min p n)),.sl id 1 (zG 0 (min p n)) (Nat.sub n (min p n)) (some (Nat.sub (Option.getD none n) (min p n))),.dat i64 0]))=some (true,(w.take p,w.drop p,0)):=by
 have hk:min p n≤n:=zw _ _;obtain⟨t1,t2⟩:=QG p w;rw[hn]at t1 t2;generalize min p n=k at*;refine WQ (Wh rfl hg (by omega)) (Wh rfl hg (by simp;omega)) ?_ ?_
 ·rw[List.drop_zero,t1]
 ·show(w.drop (0+k)).take (n-k)=_;rw[Nat.zero_add,zj (by simp;omega),t2]
theorem iE(p:Int)(h0:0≤p)(E d:List Int)(hl:E.length+d.length≤400)(hq:∀v ob,Kb [DZ,DZ,i64] v ob=some (true,((E++d).take p.toNat,(E++d).drop p.toNat,0))→Q v ob):Ends GA (H p E d) Q:=by
 cases E with
 |nil=>
  refine ze (Ld ..) ?_;conv=>zeta
  have e0:=Ju h0 0;have e1:=Ju h0 d.length;rw[show((0:Nat):Int)=0 from rfl,Nat.min_zero]at e0;rw[e0,e1];have hk:min p.toNat d.length≤d.length:=zw _ _;simp only[zd];refine zg (fun c=>zc (by simp at hl ⊢;omega) (zc ?_ (zc (by simp<;>omega) (zi (hq _ _ (parts _ _ _ rfl rfl)))))) (fun c=>zc (by simp) (zc (by simp) (zi (hq _ _ ?_))))
  ·have:=of_decide_eq_true c;simp;omega
  ·have:d=[]:=by simpa using c
   subst this;exact WQ TW TW (by simp) (by simp)
 |cons e E=>
  refine ze (Sr ..) ?_;conv=>zeta
  rw[show zG (e::E).length d.length=((e::E)++d).length by simp;omega];have e1:=Ju h0 ((e::E)++d).length;rw[e1];simp only[zd];have hk:min p.toNat ((e::E)++d).length≤((e::E)++d).length:=zw _ _;have hp:0<((e::E)++d).length:=by simp
  generalize hk2:min p.toNat ((e::E)++d).length=k at*;refine zc (by simp at hl ⊢;omega) (zc ?_ (zc ?_ (zi (hq _ _ (by subst hk2;exact parts _ _ _ rfl rfl)))))
  ·generalize ((e::E)++d).length=n at*;simp;omega
  ·generalize ((e::E)++d).length=n at*;simp;omega
theorem Xq(a b c d:Int):Sp.first [a,b,c,d]=Hy a (Hy b (Hy c d)):=by
 unfold Hy;simp only[Sp.first];by_cases h1:a=0<;>by_cases h2:b=0<;>by_cases h3:c=0<;>by_cases h4:d=0<;>simp[h1,h2,h3,h4]
theorem bU{k:Int}(h:zz k 0 200=0):0≤k∧k≤200:=by
 unfold zz at h;split at h
 ·cases h
 ·split at h
  ·cases h
  ·omega
theorem Ak(l:List AK)(p:Int)(rule:List UInt8)(key:Int)(hok:Yj l=true)(he:CF l p rule key=0):Ends GA (L1 l p rule key l l.length 0) (Ae KS (l,p,rule,key)):=by
 obtain⟨h1,h12⟩:=R1 hok;have he0:=he;unfold CF at he;obtain⟨h2,he⟩:=DD he;obtain⟨hp,he⟩:=DD he;obtain⟨_,hk⟩:=DD he;obtain⟨k1,k2⟩:=T62.Tl hk;obtain⟨p1,p2⟩:=bU hp;have h205:=(Ct h1).1;have h200:=(D3 h2).1;have hx:=O3 l 0;have hbl:=MX (Nv 0 l).length key;have hlen:(Cm l key).length≤12:=by rw[Lo];omega
 have hd:(if rule=Gd then BV l (Cm l key)else Cm l key).length≤12:=by
  split
  ·rw[EF];exact hlen
  ·exact hlen
 refine Hv l (F l p rule key) (fun i x E O g1 g2 g3 g4 g5 g6=>SZ l h205 p rule key i x E O g1 g2 g3 g4 g5 g6) (NU 0 l) (Nv 0 l) ?_ l 0 [] [] 0 rfl (zC _) rfl (zl _) (zl _) rfl rfl;refine WU l p rule key _ _ (by omega) k1 k2 ?_;refine LD (Nv 0 l) _ (fun x hx=>Hp.1 ((E6 _ _).mem_iff.1 hx)) (G l p rule (Nv 0 l) _ (NU 0 l)) (fun j x D g1 g2 g3 g4 g5=>S3 l p rule _ _ _ j x D (by omega) g1 g2 g3 g4 g5) ?_ _ 0 [] 0 rfl (zC _) rfl (zl _) rfl;refine XK l p rule _ _ _ _ (Tf h1 h2 (show(Cm l key).length≤19 by omega) (fun y hy=>NS hy)) ?_;refine iE p p1 _ _ (show(NU 0 l).length+(if rule=Gd then BV l (Cm l key)else Cm l key).length≤400 by omega) (fun v ob h=>⟨_,h,?_⟩);have hA:C1 l p rule key=((DU l rule key).take p.toNat,(DU l rule key).drop p.toNat,0):=by unfold C1;exact if_neg (by simp[he0])
 exact hA.symm
theorem ok:Ad AT 52 KS:=by
 refine Av (X:=GA) rfl Yw (d:=9) (by kernel_rfl) (by kernel_rfl) (by kernel_rfl) (fun(i:List AK×Int×List UInt8×Int) hi=>?_) (Ab (by kernel_rfl)) XU;obtain⟨l,p,rule,key⟩:=i;have hok:Yj l=true:=hi;have h1:=(R1 hok).1;have hE:∀e ob,e=CF l p rule key→e≠0→Ae KS (l,p,rule,key) (.tup [.nil,.nil,.dat i64 e]) ob:=fun e ob h1 h2=>by
  subst h1;refine⟨([],[],CF l p rule key),rfl,?_⟩;show _=C1 l p rule key;unfold C1;rw[if_pos h2]
 refine zD (An l p rule key) (zc h1 (zc rfl (zg (fun c=>?_) (fun c=>?_))))
 ·have hb:¬rule=JJ:=by rintro rfl;revert c;decide
  rw[T62.Ea,Xq];have e:Hy (AB l) (Hy (zz p 0 200) (Hy (Ew (!decide (rule=Gd)) 13) (zz key 1 2147483646)))=CF l p rule key:=by
   unfold CF;congr 3;by_cases h:rule=Gd
   ·rw[decide_eq_true h,if_pos (.inr h)];rfl
   ·rw[decide_eq_false h,if_neg (fun e=>e.elim hb h)];rfl
  rw[e];exact zc rfl (zc rfl (zc rfl (zg (fun c=>zi (hE _ _ rfl (by simpa using c))) (fun c=>Ak l p rule key hok (by simpa using c)))))
 ·have hb:rule=JJ:=by
   have:(rule==JJ)=true:=by
    cases h:(rule==JJ)with
    |true=>rfl
    |false=>rw[show(!rule==[98,97,108,108,111,116])= !(rule==JJ)from rfl,h]at c;cases c
   exact eq_of_beq this
  rw[Xq];have e:Hy (AB l) (Hy (zz p 0 200) (Hy (Ew false 13) (zz key 1 2147483646)))=CF l p rule key:=by
   unfold CF;rw[if_pos (.inl hb)];rfl
  rw[e];exact zc rfl (zc rfl (zc rfl (zg (fun c=>zi (hE _ _ rfl (by simpa using c))) (fun c=>Ak l p rule key hok (by simpa using c)))))
end T52
end Go.Pe
end
section
namespace Go.Pe
open Sp
open Go.Det
theorem Y1:∀g sp,JV.sp g=some sp→Ad AT g sp:=
 Ac Xa (Ac T50.ok (Ac T53.ok (Ac T52.ok (Ac T59.ok (Ac T51.ok (Ac T60.ok (Ac T61.ok (Ac T22.ok (Ac T21.ok (Ac T23.ok (Ac T62.ok (Ac T27.ok (fun g sp h=>by cases h)))))))))))))
theorem Sw{l:List AK}{n:Int}(h:D4 l n=true):DH l=true∧((l.length:Int)≤n∨200<l.length):=by
 unfold D4 at h;rw[zf,Bool.not_eq_true',Bool.or_eq_false_iff,Bool.and_eq_false_iff]at h;obtain⟨⟨h1,h2⟩,h3⟩:=h;have h2:=of_decide_eq_false h2;refine⟨by unfold DH;rw[decide_eq_true (by omega),h3];rfl,?_⟩;rcases h1 with h1|h1
 ·have:=of_decide_eq_false h1;left;omega
 ·have:=of_decide_eq_false h1;right;omega
abbrev VR:Sh:=.pair i64 (.pair .str i64)
noncomputable def Fj:As:=⟨[.list E3,VR],fun _=>true,[.bool],fun _=>true,false⟩
namespace T11
variable {Q:PV→Ob→Prop}
theorem Ou(a b c:Int):Hy (Hy a b) c=Hy a (Hy b c):=by
 unfold Hy;by_cases h:a=0
 ·rw[if_pos h,if_pos h]
 ·rw[if_neg h,if_neg h,if_neg h]
theorem eE(rule:List UInt8):(rule==[98,97,108,108,111,116])=decide (rule=JJ):=by
 by_cases h:rule=JJ
 ·rw[decide_eq_true h,h];rfl
 ·rw[decide_eq_false h];exact beq_eq_false_iff_ne.2 h
theorem cE(a b S d:List Int)(e k:Int)(n:Nat)(hk:k=(n:Int))(hn:n≤d.length)(ha:a=d.take n)(hb:b=d.drop n)(hS:S.length≤1000000)(hd:d.length≤1000000)(hq:∀ob,Q (.dat .bool true) ob):Ends JV (L4 a b e S e S d k) Q:=by
 subst hk;refine ze (BB ..) ?_;conv=>zeta
 rw[zd];have e2:List.take (Nat.sub d.length n) (d.drop n)=d.drop n:=zj (by rw[List.length_drop];exact zl _);rw[e2];refine zc (by simp) (zc (decide_eq_true hS) (zc (by simp) (zc (by simp;omega) (zc (by rw[ha];simp;omega) (zc (by rw[ha];simp) (zc (by simp;omega) (zc (by rw[hb];simp;omega) (zc (by rw[hb];simp) (zc rfl (zi (hq _)))))))))))
theorem bZ(l:List AK)(p:Int)(rule:List UInt8)(key:Int)(h1:DH l=true)(S:List Int)(hS:S.length≤1000000)(hq:∀ob,Q (.dat .bool true) ob):
  Ends JV (L2 l (C1 l p rule key).1 (C1 l p rule key).2.1 (C1 l p rule key).2.2 S (AB l) S p rule key) Q:=by
 have go:Ends JV (L3 l (C1 l p rule key).1 (C1 l p rule key).2.1 (C1 l p rule key).2.2 S (Hy (Hy (AB l) (zz p 0 200)) (if rule=JJ∨rule=Gd then 0 else 13)) S p rule key) Q:=by
  refine ze (Bm ..) (zc rfl (zc rfl ?_));rw[PB,Ou,Ou];have hA:Hy (AB l) (Hy (zz p 0 200) (Hy (if rule=JJ∨rule=Gd then 0 else 13) (zz key 1 2147483646)))=CF l p rule key:=rfl;rw[hA];refine zg (fun c=>?_) (fun c=>?_)
  ·have c:CF l p rule key=0:=by simpa using c
   have c0:=c;rw[←hA]at c0;obtain⟨h2,c0⟩:=DD c0;obtain⟨hp,c0⟩:=DD c0;obtain⟨_,hk⟩:=DD c0;obtain⟨p1,p2⟩:=T52.bU hp;have e1:C1 l p rule key=((DU l rule key).take p.toNat,(DU l rule key).drop p.toNat,0):=by unfold C1;exact if_neg (by simp[c])
   have hl:=Uz l rule key;have h205:=(Ct h1).1;obtain⟨t1,t2⟩:=T52.QG p.toNat (DU l rule key);rw[e1,c];exact zc (Aj (Aj h1 (decide_eq_true h2)) (decide_eq_true hk)) (cE _ _ S _ _ _ _ (T52.Ju p1 _) (zw _ _) t1.symm t2.symm hS (by omega) hq)
  ·have c:CF l p rule key≠0:=by simpa using c
   have e1:C1 l p rule key=([],[],CF l p rule key):=by unfold C1;exact if_pos c
   rw[e1];exact cE [] [] S [] _ 0 0 rfl (zl _) rfl rfl hS (by simp) hq
 refine ze (AM ..) (zc rfl (zc rfl ?_));rw[PB,eE,T62.Ea];generalize Hy (AB l) (zz p 0 200)=B at*;have same:B≠0∨rule=JJ∨rule=Gd→Hy B (if rule=JJ∨rule=Gd then 0 else 13)=B:=by
  intro h;by_cases hB:B=0
  ·rw[if_pos (h.resolve_left (fun e=>e hB)),hB];rfl
  ·exact Ik _ hB
 refine zg (fun c=>zg (fun c2=>zg (fun c3=>?_) (fun c3=>?_)) (fun c2=>?_)) (fun c=>?_)
 ·have c:B=0:=by simpa using c
  have c2:¬rule=JJ:=by simpa using c2
  have c3:¬rule=Gd:=by simpa using c3
  rw[c,RZ,if_neg (fun h=>h.elim c2 c3)]at go;exact go
 ·rw[same (.inr (.inr (by simpa using c3)))]at go;exact go
 ·rw[same (.inr (.inl (by simpa using c2)))]at go;exact go
 ·rw[same (.inl (by simpa using c))]at go;exact go
theorem ok:Ad AT 11 Fj:=by
 refine Av (X:=JV) rfl Y1 (d:=9) (by kernel_rfl) (by kernel_rfl) (by kernel_rfl) (fun(i:List AK×Int×List UInt8×Int) _=>?_) (Ab (by kernel_rfl));obtain⟨l,p,rule,key⟩:=i;have hQ:∀ob,Ae Fj (l,p,rule,key) (.dat .bool true) ob:=fun ob=>Ae.of rfl rfl rfl
 refine zD (An l (p,rule,key)) (zc rfl (zg (fun c=>zc rfl (zi (hQ _))) (fun c=>zg (fun _=>zc rfl (zi (hQ _))) (fun _=>?_))));have c:D4 l 12=true:=by simpa using c
 obtain⟨h1,h12⟩:=Sw c;have hA:Yj l=true:=by
  unfold Yj;rw[h1,Bool.true_and,Bool.or_eq_true,decide_eq_true_eq,decide_eq_true_eq];omega
 have hS2:(D0 l).2=AB l:=by
  unfold D0;split
  ·rfl
  ·rename_i h;exact(by simpa using h:AB l=0).symm
 refine zc h1 (zc hA (zc h1 (zc hA (zc h1 (zc h1 (zc h1 (zh (by simp) (zh (by rw[hS2];simp) ?_))))))));have h205:=(Ct h1).1;have hs:(Fc l).length≤1000000:=by unfold Fc;rw[EF,Bq];omega
 refine ze (Ai ..) (zg (fun c=>?_) (fun c=>?_))
 ·have c:AB l=0:=by simpa using c
  have e:(D0 l).1=Fc l:=by unfold D0;rw[if_neg (by simp[c])]
  rw[e];exact zc (Aj h1 (decide_eq_true c)) (bZ l p rule key h1 _ hs hQ)
 ·have c:AB l≠0:=by simpa using c
  have e:(D0 l).1=[]:=by unfold D0;rw[if_pos c]
  rw[e];exact bZ l p rule key h1 [] (by simp) hQ
end T11
end Go.Pe
end
section
namespace Go.Det
open Go.ChangeShapes Go.WideShapes Go.RowKit
theorem BK{α β:Type}{f g:α→Option β}:∀ {l:List α} {ys:List β},l.mapM f=some ys→(∀a∈l,∀y∈ys,f a=some y→g a=some y)→l.mapM g=some ys
 |[],ys,h,_=>by simpa using h
 |a::l,ys,h,hg=>by
  rw[List.mapM_cons]at h ⊢;cases hf:f a with
  |none=>rw[hf]at h;cases h
  |some y=>
   rw[hf]at h;cases hl:l.mapM f with
   |none=>rw[hl]at h;cases h
   |some zs=>
    rw[hl]at h;cases h;rw[hg a (by simp) y (by simp) hf,BK hl (fun b hb z hz hfz=>hg b (by simp[hb]) z (by simp[hz]) hfz)];rfl
def WR(P:Program)(L:List TypeId)(t:TypeId):Bool:=match P.underlying t with
 |some (.pointer e)|some (.array _ e)|some (.map _ e)=>L.contains e
 |some (.slice e)=>L.contains e&&Nat.ble 1 (P.cellsOf e)
 |some (.struct fs)=>fs.toList.all fun f=>L.contains f.type
 |_=>true
def I6(P:Program)(L:List TypeId):Bool:=L.all (WR P L)
section
variable {H:Type}{enc:TypeId×Value→H}{P:Program}{W W':World}
theorem YG{L:List TypeId}(h:I6 P L=true){t:TypeId}(ht:t∈L):WR P L t=true:=zn.1 h t ht
theorem S6(hb:Below W.heap.size W W'){a:Addr}{v:Value}(h:W.cell? a=some v):W'.cell? a=some v:=by
 have hl:a.block<W.heap.size:=by
  unfold World.cell? at h;by_cases hh:a.block<W.heap.size
  ·exact hh
  ·rw[zF (by omega)]at h;cases h
 unfold World.cell? at h ⊢;rw[hb.block _ hl];exact h
theorem Qy(hb:Below W.heap.size W W'){a:Addr}{n:Nat}{cs:List Value}(h:W.cells? 0 a n=some cs):W'.cells? 0 a n=some cs:=by
 unfold World.cells? at h ⊢;rw[if_pos (zC _)]at h ⊢;exact BK h fun i _ v _ hv=>S6 hb hv
theorem FE(hb:Below W.heap.size W W'){β:Type}{a:Addr}{n:Nat}{f g:List Value→Option β}{y:β}(h:(W.cells? 0 a n).bind f=some y)(hfg:∀cs,f cs=some y→g cs=some y):(W'.cells? 0 a n).bind g=some y:=by
 cases hc:W.cells? 0 a n with
 |none=>rw[hc]at h;cases h
 |some cs=>
  rw[hc]at h;rw[Qy hb hc];exact hfg cs h
theorem LN(hb:Below W.heap.size W W'){L:List TypeId}(hz:I6 P L=true){sp:Nat→Bool}:∀(fuel:Nat) (t:TypeId) (cs:List Value) (x:DataW H×List MemPlace),t∈L→
  zm enc P W 0 (fun _=>true) true fuel t cs=some x→(∀p∈x.2,sp p.block=true)→zm enc P W' 0 sp true fuel t cs=some x
 |0,_,_,_,_,h,_=>by cases h
 |fuel+1,t,cs,x,ht,h,hs=>by
  have ih:=LN hb hz (sp:=sp) fuel;have hk:=YG hz ht;unfold WR at hk;unfold zm at h ⊢;split at h<;>try simp only[reduceCtorEq]at h
  all_goals try exact h
  case h_6 e a hu=>
   have hke:e∈L:=by rw[hu]at hk;simpa using hk
   cases hm:(W.cells? 0 a (P.cellsOf e)).bind (zm enc P W 0 (fun _=>true) true fuel e)with
   |none=>rw[hm]at h;cases h
   |some y=>
    rw[hm]at h;cases h;rw[FE hb hm (g:=zm enc P W' 0 sp true fuel e) (fun cs hc=>ih e cs y hke hc (fun p hp=>hs p (by simp[hp])))];rfl
  case h_8 e a len cap hu=>
   have hke:e∈L∧P.cellsOf e≠0:=by
    rw[hu]at hk;simp only[zf,List.contains_iff_mem]at hk;have:=Nat.le_of_ble_eq_true hk.2;exact⟨hk.1,by omega⟩
   by_cases hc:0≤a.block∧len≤cap∧cap≤maxLen
   ·rw[if_pos hc]at h ⊢;have step:∀(i:Nat) (y:DataW H×List MemPlace),(W.cells? 0 (a.add (i*P.cellsOf e)) (P.cellsOf e)).bind (zm enc P W 0 (fun _=>true) true fuel e)=some y→(∀p∈y.2,sp p.block=true)→
      (W'.cells? 0 (a.add (i*P.cellsOf e)) (P.cellsOf e)).bind (zm enc P W' 0 sp true fuel e)=some y:=fun i y hy hp=>FE hb hy fun cs hc=>ih e cs y hke.1 hc hp
    cases h1:(List.range len).mapM (fun i=>(W.cells? 0 (a.add (i*P.cellsOf e)) (P.cellsOf e)).bind (zm enc P W 0 (fun _=>true) true fuel e))with
    |none=>rw[h1]at h;cases h
    |some ys=>
     rw[h1]at h;simp only[if_true,zo]at h;cases h2:(List.range (cap-len)).mapM (fun j=>(W.cells? 0 (a.add ((len+j)*P.cellsOf e)) (P.cellsOf e)).bind (zm enc P W 0 (fun _=>true) true fuel e))with
     |none=>rw[h2]at h;cases h
     |some zs=>
      rw[h2]at h;cases h;rw[BK h1 fun i _ y hy hi=>step i y hi fun p hp=>hs p (zt _ (zr.2 ⟨y,List.mem_append_left _ hy,hp⟩))];have h2':=BK h2 fun j _ y hy hj=>step (len+j) y hj fun p hp=>hs p (zt _ (zr.2 ⟨y,zt _ hy,hp⟩))
      by_cases hsp:sp a.block=true
      ·simp only[hsp,if_true,zo];rw[h2'];rfl
      ·have e0:(ys.length+zs.length)*P.cellsOf e=0:=by
        rcases Nat.eq_zero_or_pos ((ys.length+zs.length)*P.cellsOf e)with h0|h0
        ·exact h0
        ·refine absurd (hs (.cell a.block (a.off+0)) (List.mem_append_left _ ?_)) hsp;simp only[MemPlace.row,List.mem_map,List.mem_range];exact⟨0,h0,rfl⟩
       have e1:zs=[]:=by
        rcases Nat.mul_eq_zero.1 e0 with h0|h0
        ·exact List.length_eq_zero_iff.1 (by omega)
        ·exact absurd h0 hke.2
       subst e1;simp only[hsp,zo];rfl
   ·rw[if_neg hc]at h;cases h
  case h_9 cs _ _ fs hu=>
   have hke:∀f∈fs.toList,f.type∈L:=by
    rw[hu]at hk;intro f hf;have:=zn.1 hk f hf;simpa using this
   by_cases hc:cs.length=P.cellsOf t
   ·rw[if_pos hc]at h ⊢;cases h1:fs.toList.mapM (fun f=>zm enc P W 0 (fun _=>true) true fuel f.type ((cs.drop f.offset).take (P.cellsOf f.type)))with
    |none=>rw[h1]at h;cases h
    |some ys=>
     rw[h1]at h;cases h;rw[BK h1 fun f hfm y hy hf=>ih _ _ y (hke f hfm) hf fun p hp=>hs p (zr.2 ⟨y,hy,hp⟩)];rfl
   ·rw[if_neg hc]at h;cases h
  case h_10 cs _ _ n e hu=>
   have hke:e∈L:=by rw[hu]at hk;simpa using hk
   by_cases hc:cs.length=P.cellsOf t
   ·rw[if_pos hc]at h ⊢;cases h1:(List.range n).mapM (fun i=>zm enc P W 0 (fun _=>true) true fuel e ((cs.drop (i*P.cellsOf e)).take (P.cellsOf e)))with
    |none=>rw[h1]at h;cases h
    |some ys=>
     rw[h1]at h;cases h;rw[BK h1 fun f _ y hy hf=>ih _ _ y hke hf fun p hp=>hs p (zr.2 ⟨y,hy,hp⟩)];rfl
   ·rw[if_neg hc]at h;cases h
  case h_14 k e b hu=>
   have hke:e∈L:=by rw[hu]at hk;simpa using hk
   have hl:b<W.heap.size:=by
    by_cases hh:b<W.heap.size
    ·exact hh
    ·rw[zF (by omega)]at h;cases h
   rw[hb.block _ hl];split at h
   case h_2=>cases h
   rename_i es clock hes;simp only;split at h
   case isFalse=>cases h
   rename_i hcond;rw[if_pos hcond];cases h1:(es.toList.mapM fun x=>(keyOf P k x.key).bind fun key=>if x.val.formed P e then(zm enc P W 0 (fun _=>true) true fuel e x.val.cells.toList).map fun y=>((key,y.1),y.2)else none)with
   |none=>rw[h1]at h;cases h
   |some ys=>
    rw[h1]at h;simp only[zo]at h;split at h
    case isFalse=>cases h
    rename_i hri;cases h;rw[BK h1 fun en _ y hy hf=>?_]
    ·simp only[zo];rw[if_pos hri]
    ·cases hk:keyOf P k en.key with
     |none=>rw[hk]at hf;cases hf
     |some key=>
      rw[hk]at hf;simp only[zo]at hf ⊢;split at hf
      case isFalse=>cases hf
      rename_i hfo;rw[if_pos hfo];cases htt:zm enc P W 0 (fun _=>true) true fuel e en.val.cells.toList with
      |none=>rw[htt]at hf;cases hf
      |some u=>
       rw[htt]at hf;cases hf;rw[ih _ _ u hke htt fun p hp=>hs p (by simp only[List.mem_cons,zr];exact .inr ⟨_,hy,hp⟩)];rfl
theorem Su(hb:Below W.heap.size W W'){L:List TypeId}(hz:I6 P L=true){sp:Nat→Bool}{t:TypeId}{v:Value}{d:DataW H}{p:List MemPlace}
  (ht:t∈L) (h:DataW.Trod enc P W 0 (fun _=>true) true t v d p) (hs:∀q∈p,sp q.block=true):DataW.Trod enc P W' 0 sp true t v d p:=by
 obtain⟨fuel,hf⟩:=h;exact⟨fuel,LN hb hz fuel t _ _ ht hf hs⟩
theorem Fs(hb:Below W.heap.size W W'){L:List TypeId}(hz:I6 P L=true){sp:Nat→Bool}:∀ {ts:List TypeId} {vs:List Value} {ds:List (DataW H)} {p:List MemPlace},(∀t∈ts,t∈L)→
  DataW.TrodAll enc P W 0 (fun _=>true) true ts vs ds p→(∀q∈p,sp q.block=true)→DataW.TrodAll enc P W' 0 sp true ts vs ds p
 |[],vs,ds,p,_,h,_=>by
  obtain⟨rfl,rfl,rfl⟩:=trodAll_nil h;rfl
 |t::ts,vs,ds,p,hl,h,hs=>by
  obtain⟨v,vs1,d,ds1,a,b,rfl,rfl,rfl,h1,h2⟩:=trodAll_cons h;exact⟨a,b,Su hb hz (hl t (by simp)) h1 (fun q hq=>hs q (by simp[hq])),Fs hb hz (fun u hu=>hl u (by simp[hu])) h2 (fun q hq=>hs q (by simp[hq])),rfl⟩
theorem VB{f:Func}{s:ChangeSpec}{apart fresh handsOn again:Bool}{args:Array Value}{ds gs:List (DataW H)}{before:List MemPlace}{tb:TypeId}
  (hW:DataW.Whole enc P f.params.toList s.vars apart W args.toList ds gs before) (hv:s.vars=[]) (hr:f.resultTypes= #[tb]) (ht:P.underlying tb=some .bool)
  (hfn:s.fn H ds={ results:=[.lit (.bool true)],args:=ds }) (hb:Below W.heap.size W W') {L:List TypeId} (hz:I6 P L=true) (hl:f.params.toList.all L.contains=true):
  s.post enc P f apart fresh handsOn again W args (.bool true) W':=by
 have hlt:=hW.lt;have hl:∀t∈f.params.toList,t∈L:=fun t ht=>by have:=zn.1 hl t ht;simpa using this
 obtain⟨p,q,hA,hV,rfl,hfz,hnd⟩:=hW;have hV':=hV;rw[hv]at hV';obtain⟨rfl,rfl⟩:=trodVars_none hV';simp only[zy]at hlt hfz hnd ⊢;have hold:∀x∈p,(fun b=>decide (b<W.heap.size)) x.block=true:=fun x hx=>by simpa using hlt x hx
 have hW0:DataW.Whole enc P f.params.toList s.vars apart W args.toList ds [] p:=⟨p,[],hA,hV,by simp,hfz,hnd⟩;have hres:∀(b:Nat) (sp:Nat→Bool) (hd:Bool),DataW.TrodAll enc P W' b sp hd f.resultTypes.toList ((Value.bool true).resultList f.resultTypes.size) [.lit (.bool true)] []:=by
  intro b sp hd;rw[hr];exact⟨[],[],shut_bool ht true,rfl,rfl⟩
 have hok:∀(j:Nat) (t:TypeId) (r:Value),f.resultTypes[j]?=some t→((Value.bool true).resultList f.resultTypes.size)[j]?=some r→Value.okWide P W' .any 0 t r:=by
  exact ok_one hr rfl (okWide_bool_mk ht true)
 have hvars:∀sp:Nat→Bool,DataW.TrodVars enc P W' sp s.vars [] []:=fun sp=>by rw[hv];rfl
 have hfn:s.fn H (ds++[])={ results:=[.lit (.bool true)],args:=ds }:=by rw[zy];exact hfn
 refine⟨ds,[],p,[],p,[],hW0,?_,?_,?_,World.keptBut_mono (fun x hx=>⟨hx,.inr (.inl hx)⟩) (hb.frame (· ∈p)),fun _=>?_⟩
 ·rw[hfn];exact hres _ _ _
 ·rw[hfn];exact Fs hb hz hl hA hold
 ·rw[hfn];exact hvars _
 ·refine⟨hok,_,_,([]++p)++[],⟨[]++p,[],trodAll_append (Fs hb hz hl hA (fun _ _=>rfl)) (hres _ _ _),hvars _,rfl,?_,?_⟩,?_⟩
  ·intro b off hp;have hp:MemPlace.cell b off∈p:=by simpa using hp
   rw[hb.frozen (show b<W.heap.size from hlt _ hp)];exact hfz b off hp
  ·intro ha;simpa using hnd ha
  ·intro x hx _;simpa using hx
end
end Go.Det
end
section
namespace Go.Pe
open Go.Det Go.RowKit
noncomputable section
open Go.Proofs.Tryz (prog)
theorem Wd{F':Fz}{v:V}(h:PC F' (.dat .bool true) v):v=.bool true:=by
 have:=h (fun _=>none) 0;simp only[PR,DC]at this;simpa using this
end
end Go.Pe
end
