import Derived.Test.YtobmcolckeoejaaGreatDoorX16
/- A part of a proof; no law is stated here. -/
noncomputable section
open Go.Pe.Ends renaming tt -> zc, leaf -> zd
open Nat renaming le_trans -> ze
namespace Go.Pe
open Sp
open Go.Det
section
open List Int Prod
namespace T3
def T(l:List Rd):Tr:=tree qT false 9 3<|Ag ([Sh.list Sh.str]) l
def L1(v0:List Rd)(v3:Int):Tr:=re ((T []).L.R.R)<|Ay 72 [(0,.dat (Sh.list Sh.str) v0),(3,.dat i64 v3)] [] 0
theorem Ak(l:List Rd):T l=let a:Tr:=.ck true<|.leaf (.dat Sh.bool true) [];.ck true (.ite false a<|.di ((length l:Int)>260) a<|L1 l 0):=by kernel_rfl
theorem Al(v0:List Rd)(v3:Int):stepT qT (L1 v0 v3)=let a:Tr:=.ck (Nv v0)<|.ck (Qy v0)<|.ite (BK v0 !=0) (.cd (0<=1000000)<|.ite (FB (U7 v0) (Sp.mnE v0) []<|BK v0) (.cd (0<=1000000)<|.leaf (.dat Sh.bool<|FB (DD v0) (Rw v0) []<|BK v0) [])<|.leaf (.bl false) [])<|.ck (Nv v0&&decide (BK v0=0))<|.cd (length (Sp.mnR v0)<=1000000)<|.ite (FB (U7 v0) (Sp.mnE v0) (Sp.mnR v0) 0) (.ck (rE v0)<|.cd (length (Sp.mdR v0)<=1000000)<|.leaf (.dat Sh.bool<|FB (DD v0) (Rw v0) (Sp.mdR v0) 0) [])<|.leaf (.bl false) [];let b':=(length v0:Int);.di (v3<b') (.ck (decide (0<=v3)&&decide (v3<b'))<|.di ((↑(length<|getD v0 (toNat v3) []):Int)>20) (.leaf (.bl true) [])<|L1 v0<|IntKind.wrap .i64<|v3+1) (.ck (decide (length v0<=1000000)&&List.all v0 fun s=>decide (length s<=1000000))<|.ite (BK v0==0) (.di (b'>20) (.leaf (.bl true) []) a) a):=by kernel_rfl
end T3
end
theorem mV:CL qT:=Aa Ve<|Aa T6.ok<|Aa T7.ok<|Aa T8.ok<|Aa T9.ok<|Aa T10.ok<|Aa T11.ok AI
abbrev K5:Am:=Zi
namespace T3
variable {Q:PV->Ob->Prop}
theorem loop(l:List Rd)(j:l.length<=260)(g:∀ob,Q (.bl true) ob)(b:(∀s∈l,s.length<=20)->Ends qT (L1 l (l.length:Int)) Q):∀(r:List Rd) (i:Nat),l.drop i=r->i<=l.length->(∀s∈l.take i,s.length<=20)->Ends qT (L1 l (i:Int)) Q
 |[],i,h,f,hp=>by
  have e:i=l.length:=drop_nil h f;rw[e,List.take_length]at hp;rw[e];exact b hp
 |p::r,i,h,f,hp=>by
  obtain⟨o,k,t⟩:=drop_cons (d:=([]:Rd)) h;have m:=wn (i:=i) ae;have u:=nb (i:=i) (n:=l.length) ae;refine Ends.An (Al ..) ?_;conv=>zeta
  rw[Int.toNat_natCast,k,m];refine zc (w4 ae)<|zc u<|Ends.ite (fun _=>zd<|g _)<|fun c=>loop l j g b r (i+1) t o fun q a=>?_;have c:=w7 c;rw[RF h,List.mem_append]at a;rcases a with a|a
  ·exact hp q a
  ·rw[List.mem_singleton.1 a];omega
theorem sZ{l:List Rd}(c:BK l≠0):FB (U7 l) (Sp.mnE l) [] (BK l)=true/\FB (DD l) (Rw l) [] (BK l)=true:=⟨VA c _ _,VA c _ _⟩
theorem fI{l:List Rd}(c:BK l=0):FB (U7 l) (Sp.mnE l) (Sp.mnR l) 0=true/\FB (DD l) (Rw l) (Sp.mdR l) 0=true:=by
 unfold U7 Sp.mnE DD Rw;rw[c];exact⟨bU _,bU _⟩
theorem wB{l:List Rd}(d:l.length<=260)(b:∀s∈l,s.length<=20)(c:BK l≠0):Nv l=true/\Qy l=true:=by
 have ls:(l.all fun s=>decide (s.length<=1000000))=true:=List.all_eq_true.2 fun s h=>w4 (ze (b s h) af)
 have a:decide (l.length<=1000000)=true:=w4 ae;unfold Nv Qy;rw[ls,a,w4 c];exact⟨rfl,rfl⟩
theorem ok:Af A5 3 K5:=by
 refine BG mV<|fun(l:List Rd) _=>?_;have g:∀ob,Ad Zi l (.dat .bool true) ob:=fun ob=>Ad.of rfl rfl rfl
 have n:∀ob,Ad Zi l (.bl true) ob:=fun ob=>Ad.of rfl rfl rfl
 refine Ends.eq (Ak l)<|zc rfl (Ends.ff rfl (Ends.ite (fun _=>zc rfl (zd<|g _))<|fun o=>?_));have k:l.length<=260:=by have o:=w7 o;omega
 refine loop l k n (fun f=>?_) l 0 rfl (Nat.zero_le _) (fun s h=>by cases h);have t:(decide (l.length<=1000000)&&l.all fun s=>decide (s.length<=1000000))=true:=Ac (w4 ae) (List.all_eq_true.2 fun s h=>w4 (ze (f s h) af));refine Ends.An (Al ..) (Ends.ff (w8 ae)<|zc t<|Ends.ite (fun c=>Ends.ite (fun _=>zd<|n _)<|fun a=>?_)<|fun c=>?_)
 ·have c:BK l=0:=by simpa using c
  have a:l.length<=20:=by have a:=w7 a;omega
  obtain⟨e,j,m⟩:=Gg c;have b:Ih 20 l:=fun s h=>(Uz<|m s h).mono<|ze (wZ<|m s h)<|f s h
  have d:=Qc j af ae af b;have i:=Lp j af af b;have r:=(UR e j b).mono (show 21*l.length+4<=500 by omega);have p:=(Mo e af af b);have u:rE l=true:=wO ⟨e,by omega,fun s h=>⟨_,(b s h).mono af⟩⟩;obtain⟨t1,t2⟩:=fI c;refine zc d (zc i<|Ends.ff (by rw[c];rfl)<|zc (Ac d<|w4 c)<|zc (w4<|K3 r af)<|zc t1 (zc u<|zc (w4<|K3 p af)<|zd ?_));rw[t2];exact g _
 ·have c:BK l≠0:=by simpa using c
  obtain⟨d,i⟩:=wB k f c;obtain⟨t1,t2⟩:=sZ c;have q:(BK l !=0)=true:=by simpa using c
  refine zc d<|zc i<|zc q<|zc rfl (zc t1<|zc rfl (zd ?_));rw[t2];exact g _
end T3
end Go.Pe
