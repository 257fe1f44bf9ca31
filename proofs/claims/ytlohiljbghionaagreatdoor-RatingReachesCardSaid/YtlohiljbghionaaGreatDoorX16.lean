import Derived.Test.YtlohiljbghionaaGreatDoorX15
/- A part of a proof; no law is stated here. -/
noncomputable section
open Go.Pe.Ends renaming tt -> zc, leaf -> zd, ite -> zf, Ah -> zh, ff -> zi, eq -> zq
open Bool renaming and_eq_true -> ze, or_eq_false_iff -> zx, true_or -> zy, false_or -> ya, not_eq_true' -> ye, and_eq_false_iff -> yf, true_and -> yi, or_true -> ym, or_eq_true -> yn, and_false -> yp
open Int renaming toNat_natCast -> zg, toNat -> yv
open List renaming mem_cons_self -> zj, length_cons -> zk, all_eq_true -> zl, mem_of_mem_drop -> zm, mem_cons -> zp, all_cons -> zz, any_cons -> z6, length_append -> yb, take_length -> yg, headD_cons -> yo
open Go.IntKind renaming i64 -> zn, wrap -> zr
open Nat renaming zero_le -> zo, add -> yr
open Go.Pe.Ad renaming of -> zt
open Go.Sp renaming letter -> zu, CP -> zw, isName -> z7, mark -> yh, first -> yt
open Go.Pe.Sh renaming int -> z8, str -> yk
open Classical renaming not_not -> yc
open Rat renaming ne_of_gt -> yd, not_lt -> yj
open Go.Pe.PV renaming agg -> yq
open Iff renaming rfl -> yu
namespace Go.Sp
theorem Bj(x:Int)(l:List Int):first (x::l)=0↔x=0/\first l=0:=by
 rw[first];by_cases h:x=0
 ·simp[h]
 ·simp[h]
theorem oF{b:Bool}{e:Int}(a:e≠0):Cs b e=0↔b=false:=by
 cases b
 ·exact⟨fun _=>rfl,fun _=>rfl⟩
 ·exact⟨fun h=>wh h a,fun h=>by cases h⟩
theorem FR{a:BM}{lo b:Int}(h:BA a lo b=0):Am a=0/\(lo:Rat)<=Az a/\Az a<=(b:Rat):=by
 unfold BA at h;by_cases k:Am a=0
 ·rw[wc<|by simpa using k]at h;split at h
  ·exact wh h af
  ·next d=>
   rw[not_or]at d;exact⟨k,yj.1 d.1,yj.1 d.2⟩
 ·rw[wd k]at h;exact wh h k
structure Xo(s:BR):Prop where
 rise:Am s.1=0
 wind:Am s.2.1=0
 lay:Am s.2.2.1=0
 roll:Am s.2.2.2.1=0
 riseB:(-10000:Rat)<=Az s.1/\Az s.1<=10000
 windB:(-10000:Rat)<=Az s.2.1/\Az s.2.1<=10000
 layB:0<=Az s.2.2.1/\Az s.2.2.1<=10000
 rollB:0<=Az s.2.2.2.1/\Az s.2.2.2.1<=10000
 len:s.2.2.2.2.length<=16
 obs:∀o∈s.2.2.2.2,0<=o.2/\o.2<=10
theorem Vh:∀ {l:List Hw},dX l=0->∀o∈l,0<=o.2/\o.2<=10
 |[],_,o,a=>by cases a
 |x::l,h,o,a=>by
  unfold dX at h;split at h
  ·exact wh h af
  ·split at h
   ·exact wh h af
   ·next d=>
    rcases zp.1 a with rfl|a
    ·omega
    ·exact Vh h o a
theorem nK{s:BR}(h:KQ s=0):Xo s:=by
 unfold KQ at h;by_cases k:TJ s=0
 ·rw[wc<|by simpa using k]at h;unfold TJ at k;rw[Bj,Bj,Bj,Bj,Bj]at k;obtain⟨c,d,b,e,a,_⟩:=k;rw[oF af]at a;have a:=w7 a;obtain⟨a1,a2,a3⟩:=FR c;obtain⟨b1,b2,b3⟩:=FR d;obtain⟨c1,c2,c3⟩:=FR b;obtain⟨d1,d2,d3⟩:=FR e;exact⟨a1,b1,c1,d1,⟨a2,a3⟩,⟨b2,b3⟩,⟨c2,c3⟩,⟨d2,d3⟩,by omega,Vh h⟩
 ·rw[wd k]at h;exact wh h k
theorem Rg:∀ {l:List BR},IQ l=0->∀s∈l,KQ s=0
 |[],_,s,a=>by cases a
 |x::l,h,s,a=>by
  unfold IQ at h;by_cases k:KQ x=0
  ·rw[wc<|by simpa using k]at h;rcases zp.1 a with rfl|a
   ·exact k
   ·exact Rg h s a
  ·rw[wd k]at h;exact wh h k
theorem RJ{n:Int}:∀ {l:List CB} {seen:List BM},Fs n seen l=0->∀t∈l,(t.2.length:Int)=n/\Em t.2=false
 |[],_,_,t,a=>by cases a
 |x::l,seen,h,t,a=>by
  unfold Fs at h;split at h
  ·exact wh h af
  ·split at h
   ·exact wh h af
   ·split at h
    ·exact wh h af
    ·next k=>
     split at h
     ·exact wh h af
     ·next d=>
      rcases zp.1 a with rfl|a
      ·exact⟨yc.1 k,by simpa using d⟩
      ·exact RJ h t a
theorem Xh{l:List Int}(h:Em l=false):∀n∈l,1<=n/\n<=10000:=by
 intro n a;unfold Em at h;rw[List.any_eq_false]at h;have:=h n a;rw[yn,w5,w5]at this;omega
theorem My:∀ {l:List BT} {seen:List BM},LJ seen l=0->∀x∈l,Iq x=0
 |[],_,_,x,a=>by cases a
 |y::l,seen,h,x,a=>by
  unfold LJ at h;by_cases k:Iq y=0
  ·rw[wc<|by simpa using k]at h;split at h
   ·exact wh h af
   ·rcases zp.1 a with rfl|a
    ·exact k
    ·exact My h x a
  ·rw[wd k]at h;exact wh h k
theorem Wj:∀ {l:List BB} {seen:List BM},Wk seen l=0->(∀w∈l,Am w.2=0/\0<=Az w.2/\w.1∉seen)/\(l.map Prod.fst).Nodup
 |[],_,_=>⟨fun w hw=>(by cases hw),List.nodup_nil⟩
 |x::l,seen,h=>by
  unfold Wk at h;split at h
  ·exact wh h af
  ·split at h
   ·exact wh h af
   ·next a=>
    have a:x.1∉seen:=by
     unfold has at a;simpa using a
    by_cases k:Am x.2=0
    ·rw[wc<|by simpa using k]at h;split at h
     ·exact wh h af
     ·next d=>
      obtain⟨b,g⟩:=Wj h;refine⟨fun w hw=>?_,?_⟩
      ·rcases zp.1 hw with rfl|hw
       ·exact⟨k,yj.1 d,a⟩
       ·obtain⟨j,i,c⟩:=b w hw;exact⟨j,i,fun x=>c<|List.mem_cons_of_mem _ x⟩
      ·rw[List.map_cons,List.nodup_cons];refine⟨fun f=>?_,g⟩;obtain⟨w,hw,e⟩:=List.mem_map.1 f;exact(b w hw).2.2 (by rw[e];exact zj ..)
    ·rw[wd k]at h;exact wh h k
structure eK(l:BT):Prop where
 head:Am l.2.1=0
 next:Am l.2.2.1=0
 headB:(1:Rat)<=Az l.2.1/\Az l.2.1<=10000
 nextB:(1:Rat)<=Az l.2.2.1/\Az l.2.2.1<=10000
 tab:BV l.2.2.2.1=0
 up:RL none l.2.2.2.1=0
 wlen:l.2.2.2.2.length<=16
 wts:∀w∈l.2.2.2.2,Am w.2=0/\0<=Az w.2
 one:(l.2.2.2.2.map Prod.fst).Nodup
theorem jE{l:BT}(h:Iq l=0):eK l:=by
 unfold Iq at h;by_cases k:KU l=0
 ·rw[wc<|by simpa using k]at h;by_cases u:RL none l.2.2.2.1=0
  ·rw[wc<|by simpa using u]at h;unfold KU at k;rw[Bj,Bj,Bj,Bj]at k;obtain⟨_,g,c,e,_⟩:=k;obtain⟨a1,a2,a3⟩:=FR g;obtain⟨b1,b2,b3⟩:=FR c;unfold Mz at h;split at h
   ·exact wh h af
   ·next d=>
    obtain⟨b,f⟩:=Wj h;exact⟨a1,b1,⟨a2,a3⟩,⟨b2,b3⟩,e,u,by omega,fun w a=>⟨(b w a).1,(b w a).2.1⟩,f⟩
  ·rw[wd u]at h;exact wh h u
 ·rw[wd k]at h;exact wh h k
structure WX(c:AW):Prop where
 s1:c.1≠[]/\c.1.length<=36
 t1:c.2.1≠[]/\c.2.1.length<=8
 l1:c.2.2≠[]/\c.2.2.length<=8
 st:∀s∈c.1,Xo s
 te:∀t∈c.2.1,t.2.length=c.1.length/\∀n∈t.2,1<=n/\n<=10000
 lv:∀l∈c.2.2,eK l
theorem O6{c:AW}(h:Od c=0):WX c:=by
 unfold Od at h;split at h
 ·exact wh h af
 next a1=>
 split at h
 ·exact wh h af
 next a2=>
 split at h
 ·next k=>exact wh h k
 next a3=>
 unfold Q6 at h;split at h
 ·exact wh h af
 next g=>
 split at h
 ·exact wh h af
 next j=>
 split at h
 ·next k=>exact wh h k
 next a=>
 unfold Mi at h;split at h
 ·exact wh h af
 next f=>
 split at h
 ·exact wh h af
 next n=>
 have a3:IQ c.1=0:=yc.1 a3;have a:Fs (c.1.length:Int) [] c.2.1=0:=yc.1 a;refine⟨⟨a1,by omega⟩,⟨g,by omega⟩,⟨f,by omega⟩,fun s b=>nK<|Rg a3 s b,fun t d=>?_,fun l i=>jE<|My h l i⟩;obtain⟨m,e⟩:=RJ a t d;exact⟨by omega,Xh e⟩
theorem GK{α:Type}{l:List α}{i:Nat}{d:α}(h:i<l.length):l.getD i d∈l:=by
 rw[List.getD_eq_getElem?_getD,List.getElem?_eq_getElem h];exact List.getElem_mem h
theorem Dr{i n:Int}(h:Kk i n=false):0<=i/\i<n:=by
 unfold Kk at h;rw[zx,w9,w9]at h;omega
theorem PU{c:AW}{b:Bool}(h:NK c b=0):Od c=0/\b=false:=by
 unfold NK at h;split at h
 ·next k=>exact wh h k
 ·next k=>
  split at h
  ·exact wh h af
  ·next d=>exact⟨yc.1 k,by simpa using d⟩
theorem OH{c:AW}(h:Kq c=true):c.1.length<=38/\c.2.1.length<=10/\c.2.2.length<=10/\(∀s∈c.1,Ce s=true)/\(∀t∈c.2.1,Ek t=true)/\(∀l∈c.2.2,CF l=true):=by
 unfold Kq at h;rw[ze,ze,ze,ze,ze,w5,w5,w5,zl,zl,zl]at h;obtain⟨⟨⟨⟨⟨a,g⟩,b⟩,d⟩,f⟩,e⟩:=h;exact⟨a,g,b,d,f,e⟩
theorem PT{c:AW}(h:dZ c=true):c.1.length<=38/\c.2.1.length<=10/\c.2.2.length<=10/\(∀s∈c.1,Ce s=true)/\(∀t∈c.2.1,UB t=true)/\(∀l∈c.2.2,MW l=true):=by
 unfold dZ at h;rw[ze,ze,ze,ze,ze,w5,w5,w5,zl,zl,zl]at h;obtain⟨⟨⟨⟨⟨a,g⟩,b⟩,d⟩,f⟩,e⟩:=h;exact⟨a,g,b,d,f,e⟩
theorem Oh{s:BR}(h:Ce s=true):s.1.length<=20/\s.2.1.length<=20/\s.2.2.1.length<=20/\s.2.2.2.1.length<=20/\s.2.2.2.2.length<=20:=by
 unfold Ce at h;rw[ze,ze,ze,ze,w5,w5,w5,w5,w5]at h;obtain⟨⟨⟨⟨a,d⟩,b⟩,c⟩,e⟩:=h;exact⟨a,d,b,c,e⟩
theorem NX{l:List BB}{n m:Nat}(h:KP l n m=true):∀p∈l,p.1.length<=n/\p.2.length<=m:=by
 intro p hp;unfold KP at h;rw[zl]at h;have:=h p hp;rwa [ze,w5,w5]at this
structure wK(l:BT):Prop where
 name:l.1.length<=40
 head:l.2.1.length<=20
 next:l.2.2.1.length<=20
 tl:l.2.2.2.1.length<=70
 wl:l.2.2.2.2.length<=20
 tab:∀p∈l.2.2.2.1,p.1.length<=20/\p.2.length<=20
 wts:∀p∈l.2.2.2.2,p.1.length<=40/\p.2.length<=20
theorem Zn{l:BT}(h:CF l=true):wK l:=by
 unfold CF at h;rw[ze,ze,ze,ze,ze,ze,w5,w5,w5,w5,w5]at h;obtain⟨⟨⟨⟨⟨⟨a,g⟩,b⟩,c⟩,e⟩,d⟩,f⟩:=h;exact⟨a,g,b,c,e,NX d,NX f⟩
theorem Ss{c:AW}{h:Int}(b:WX c)(d:Kq c=true)(a:So c h=false):Xo (Ct c h)/\Ce (Ct c h)=true:=by
 obtain⟨h0,e⟩:=Dr a;have m:Ct c h∈c.1:=GK ae;exact⟨b.st _ m,(OH d).2.2.2.1 _ m⟩
theorem vH{c:AW}{l:Int}(b:WX c)(d:Kq c=true)(a:kS c l=false):eK (Dq c l)/\wK (Dq c l):=by
 obtain⟨h0,e⟩:=Dr a;have m:Dq c l∈c.2.2:=GK ae;exact⟨b.lv _ m,Zn<|(OH d).2.2.2.2.2 _ m⟩
theorem rJ{c:AW}{t h:Int}(e:WX c)(a:dI c t=false)(d:So c h=false):1<=KW c t h/\KW c t h<=10000/\(c.2.1.getD t.toNat ([],[])).2.length=c.1.length:=by
 obtain⟨t0,t1⟩:=Dr a;obtain⟨h0,h1⟩:=Dr d;have m:c.2.1.getD t.toNat ([],[])∈c.2.1:=GK ae;obtain⟨e1,e2⟩:=e.te _ m;have b:KW c t h∈(c.2.1.getD t.toNat ([],[])).2:=GK ae;have:=e2 _ b;exact⟨this.1,this.2,e1⟩
structure Aek(l:BT):Prop where
 head:l.2.1.length<=20
 next:l.2.2.1.length<=20
 tl:l.2.2.2.1.length<=70
 tab:∀p∈l.2.2.2.1,p.1.length<=20/\p.2.length<=20
 wts:∀p∈l.2.2.2.2,p.2.length<=20
theorem wW{l:BT}(h:MW l=true):Aek l:=by
 unfold MW at h;rw[ze,ze,ze,ze,w5,w5,w5,zl]at h;obtain⟨⟨⟨⟨a,e⟩,b⟩,c⟩,d⟩:=h;exact⟨a,e,b,NX c,fun p hp=>w6<|d p hp⟩
theorem WK(s:BR)(n:Int):plV s n=if (n:Rat)+(Az s.1+Az s.2.1+Az s.2.2.1)<0 then 0 else(n:Rat)+(Az s.1+Az s.2.1+Az s.2.2.1):=rfl
theorem OJ(s:BR)(n:Int):0<=plV s n:=by
 rw[WK];split
 ·exact Rat.le_refl
 ·next h=>exact yj.1 h
end Go.Sp
variable {Q:Go.Pe.PV->Go.Pe.Ob->Prop}
namespace Go.Pe
open Sp
open Go.Det
open Go.Sp (AW BR BT BB Hw BM)
structure HoR(s:BR):Prop where
 rise:RS 20 (E8 s.1) (Az s.1)
 wind:RS 20 (E8 s.2.1) (Az s.2.1)
 lay:RS 20 (E8 s.2.2.1) (Az s.2.2.1)
 roll:RS 20 (E8 s.2.2.2.1) (Az s.2.2.2.1)
theorem mF{s:BR}(h:Xo s)(k:Sp.Ce s=true):HoR s:=by
 obtain⟨b,d,a,c,_⟩:=Oh k;exact⟨Kh h.rise b af,Kh h.wind d af,Kh h.lay a af,Kh h.roll c af⟩
structure LvR(l:BT):Prop where
 head:RS 20 (E8 l.2.1) (Az l.2.1)
 next:RS 20 (E8 l.2.2.1) (Az l.2.2.1)
 hp:0<Az l.2.1
 np:0<Az l.2.2.1
 wts:∀w∈l.2.2.2.2,RS 20 (E8 w.2) (Az w.2)
theorem UX:(0:Rat)<1:=by decide+kernel
theorem AaF{l:BT}(h:eK l)(k:wK l):LvR l:=
 ⟨Kh h.head k.head af,Kh h.next k.next af,Std.lt_of_lt_of_le UX h.headB.1,Std.lt_of_lt_of_le UX h.nextB.1,fun w a=>Kh (h.wts w a).1 (k.wts w a).2 af⟩
structure AtP(c:AW)(t h:Int):Prop where
 co:WX c
 sh:Kq c=true
 t0:0<=t/\t<(c.2.1.length:Int)
 h0:0<=h/\h<(c.1.length:Int)
 te:1<=KW c t h/\KW c t h<=10000
 tl:(c.2.1.getD t.toNat ([],[])).2.length=c.1.length
 st:Xo (Ct c h)
 hr:HoR (Ct c h)
theorem Qp{c:AW}{t h:Int}(k:qX c t h=true):AtP c t h:=by
 unfold qX at k;rw[ze,w5]at k;obtain⟨sh,e⟩:=k;obtain⟨e1,e2⟩:=PU e;rw[zx]at e2;have co:=O6 e1;obtain⟨s1,s2⟩:=Ss co sh e2.2;obtain⟨t1,t2,t3⟩:=rJ co e2.1 e2.2;exact⟨co,sh,Dr e2.1,Dr e2.2,⟨t1,t2⟩,t3,s1,mF s1 s2⟩
structure AtL(c:AW)(l:Int):Prop where
 co:WX c
 sh:Kq c=true
 l0:0<=l/\l<(c.2.2.length:Int)
 lv:eK (Dq c l)
 ls:wK (Dq c l)
 lr:LvR (Dq c l)
theorem WU{c:AW}{t h l:Int}(k:pS c t h l=true):qX c t h=true/\Sp.okO c h l=true:=by
 unfold pS at k;rw[ze,w5]at k;obtain⟨sh,e⟩:=k;obtain⟨e1,e2⟩:=PU e;rw[zx,zx]at e2;have mk:∀b:Bool,b=false->NK c b=0:=fun b a=>by
  unfold NK;rw[wc (by simpa using e1),a];rfl
 exact⟨Ab sh (w4<|mk _<|by rw[e2.1,e2.2.1];rfl),Ab sh<|w4<|mk _<|by rw[e2.2.1,e2.2.2];rfl⟩
theorem XE{c:AW}{h l:Int}(k:Sp.okO c h l=true):AtL c l/\(0<=h/\h<(c.1.length:Int))/\Xo (Ct c h)/\HoR (Ct c h):=by
 unfold Sp.okO at k;rw[ze,w5]at k;obtain⟨sh,e⟩:=k;obtain⟨e1,e2⟩:=PU e;rw[zx]at e2;have co:=O6 e1;obtain⟨l1,l2⟩:=vH co sh e2.2;obtain⟨s1,s2⟩:=Ss co sh e2.1;exact⟨⟨co,sh,Dr e2.2,l1,l2,AaF l1 l2⟩,Dr e2.1,s1,mF s1 s2⟩
theorem eH{n:Int}(h:1<=n/\n<=10000):RS 5 (Sp.iF n) (n:Rat):=R5 ae af af
theorem jG{c:AW}{t h:Int}(k:AtP c t h):RS 70 (gC c t h) ((KW c t h:Rat)+(Az (Ct c h).1+Az (Ct c h).2.1+Az (Ct c h).2.2.1)):=by
 have z:RS 1 Sp.zF 0:=Sq;have a1:=z.add k.hr.rise af af;have a2:=a1.add k.hr.wind af af;have a3:=a2.add k.hr.lay af af;have a4:=(eH k.te).add a3 af af;rw[Rat.zero_add]at a4;exact a4.mono af
theorem VF{c:AW}{t h:Int}(k:AtP c t h):RS 70 (N7 c t h) (Fh c t h):=by
 have a:=jG k;unfold N7 Fh;rw[WK];by_cases s:P0 (gC c t h)<0
 ·rw[wd s,wd<|a.Mo.1.1 s];exact(Sq).mono af
 ·rw[wc s,wc fun x=>s<|a.Mo.1.2 x];exact a
theorem LQ{a b:Rat}(d:0<a)(c:0<=b):0<a+b:=by grind
theorem yD{c:AW}{t h l:Int}(k:pS c t h l=true):RS 194 (eU c t h l) (Ui c t h l):=by
 obtain⟨kp,ko⟩:=WU k;have P:=Qp kp;obtain⟨L,_,_,_⟩:=XE ko;have p:=VF P;have r:=P.hr.roll;have a:=P.st.rollB.1;have reach:=L.lr.head.add r af af;have b:=L.lr.next.add r af af;have h0:Az (Dq c l).2.1+Az (Ct c h).2.2.2.1≠0:=yd<|LQ L.lr.hp a;have n0:Az (Dq c l).2.2.1+Az (Ct c h).2.2.2.1≠0:=yd<|LQ L.lr.np a;unfold eU Ui U3 GC Mc Ig;by_cases s:FN (N7 c t h) (Cf (E8 (Dq c l).2.1)<|E8 (Ct c h).2.2.2.1)<=0
 ·rw[wd s,wd<|(p.PX reach).1 s];exact((p.mul L.lr.head af af).div reach af af h0).mono af
 ·rw[wc s,wc fun x=>s<|(p.PX reach).2 x];have d:=p.sub reach af af;have m:=d.mul L.lr.next af af;have q:=m.div b af af n0;exact(L.lr.head.add q af af).mono af
section
open List Int Prod
namespace T58
def T(s:Z):Tr:=tree Wn false 9 58<|Ae ([yk]) s
def L1(v0:Z)(v3:Int):Tr:=re ((T []).R.R)<|Av 56 [(0,.dat yk v0),(3,.dat i64 v3)] [] 0
theorem Ak(s:Z):T s=.di ((length s:Int)<1) (.leaf (.bl false) []) (.di ((length s:Int)>24) (.leaf (.bl false) [])<|L1 s 0):=by kernel_rfl
theorem Al(v0:Z)(v3:Int):stepT Wn (L1 v0 v3)=let b':=(↑(UInt8.toNat<|getD v0 (toNat v3) (0:UInt8)):Int);let a:=L1 v0<|zr .i64<|v3+1;let b:Tr:=.leaf (.bl false) [];let d:=decide (v3<(length v0:Int));let e:Tr:=.ite (v3==0) b<|.di (b'>=48) (.di (b'<=57) a<|.ite (!b'==95) b a)<|.ite (!b'==95) b a;let c:Tr:=.di (b'>=65) (.ite (!decide (b'<=90)) e a) e;.ite d (.ck (decide (0<=v3)&&d)<|.di (b'>=97) (.di (b'<=122) a c) c) (.leaf (.bl true) []):=by kernel_rfl
end T58
end
theorem T52.pP:Af A9 52 cT:=by
 refine BN TD<|fun(s:Z) _=>?_;have d:∀v b,v=.bl b\/v=.dat .bool b->b=z7 s->∀ob,Ad cT s v ob:=by
  rintro v b (rfl|rfl) j ob
  ·exact zt rfl rfl j
  ·exact zt rfl rfl j
 refine zq (T52.Ak s) ?_;conv=>zeta
 refine zh (T52.Al ..) ?_;conv=>zeta
 cases s with
 |nil=>
  refine zi (by simp) (zi (by simp) ?_);exact zd<|d _ _ (.inl rfl) rfl _
 |cons x r=>
  refine zc (by simp) ?_;simp only[Fk,Hn,w5,ye,w9,bne_iff_ne,wm,wk];have step:zu (x.toNat:Int)=true->J5 (x::r) 0=1->Ends Wn (T52.L2 (x::r) (x::r)<|yr 0<|J5 (x::r) 0) (Ad cT (x::r)):=by
   intro a m;rw[m];refine T52.loop (x::r) (by simp) r 1 rfl (by simp) ae (fun e=>d _ _ (.inl rfl) ?_) (fun e=>d _ _ (.inr rfl) ?_)
   ·simp[z7,e]
   ·simp only[z7,e,a,Bool.and_true,zk];congr 1;apply propext;push_cast;omega
  have no:zu (x.toNat:Int)=false->∀ob,Ad cT (x::r) (.bl false) ob:=fun a=>d _ _ (.inl rfl) (by simp[z7,a])
  have l:(x::r).getD 0 0=x:=rfl;by_cases k:((x::r).getD 0 0).toNat<128
  ·obtain⟨p,o⟩:=Vy (s:=x::r) (i:=0) (by simp) k;rw[p,l];have g:=KJ (x.toNat:Int);generalize ((x.toNat:Nat):Int)=c at g step no ⊢;by_cases a:zu c=true
   ·have:=g.1 a;repeat' split
    all_goals first|exact step a o|(exfalso;omega)
   ·have f:zu c=false:=by simpa using a
    have:¬_:=fun h=>a<|g.2 h
    repeat' split
    all_goals first|exact no f _|(exfalso;omega)
  ·have hr:=RC (s:=x::r) (i:=0) (by simp) ae;have n:zu (x.toNat:Int)=false:=by
    have:¬zu (x.toNat:Int)=true:=fun h=>by
     have:=(KJ _).1 h;rw[l]at k;omega
    simpa using this
   repeat' split
   all_goals first|exact no n _|(exfalso;omega)
namespace T58
theorem loop(s:Z)(o:s.length<=24):∀(r:Z) (i:Nat),s.drop i=r->i<=s.length->
  (((decide (1<=i)||zu ((r.headD 97).toNat:Int))&&(r.all fun c=>yh (c.toNat:Int)))=false->Q (.bl false) [])->(((decide (1<=i)||zu ((r.headD 97).toNat:Int))&&(r.all fun c=>yh (c.toNat:Int)))=true->Q (.bl true) [])->Ends Wn (L1 s i) Q
 |[],i,h,m,b,j=>by
  have:=drop_nil h m;refine zh (Al ..) (zi (by simp;omega) ?_);exact zd (j<|by simp;exact .inr af)
 |x::r,i,h,m,b,j=>by
  obtain⟨p,t,q⟩:=drop_cons (d:=0) h;refine zh (Al ..) ?_;conv=>zeta
  simp only[zg,t];rw[wr _ ae ae];have l:=PW (x.toNat:Int);have li:=KJ (x.toNat:Int);have step:(1<=i\/zu (x.toNat:Int)=true)->yh (x.toNat:Int)=true->Ends Wn (L1 s<|(i:Int)+1) Q:=by
   intro hm n;have e:((i:Int)+1)=((i+1:Nat):Int):=by push_cast;rfl
   rw[e];refine loop s o r (i+1) q p (fun e=>b ?_)<|fun e=>j ?_
   ·simp only[zz,n,yi];have:(r.all fun c=>yh (c.toNat:Int))=false:=by simpa using e
    rw[this,yp]
   ·have:(r.all fun c=>yh (c.toNat:Int))=true:=by simpa using e
    simp only[zz,n,this,Bool.and_true,yn,w5,yo];exact hm
  have no:(¬(1<=i\/zu (x.toNat:Int)=true)\/yh (x.toNat:Int)=false)->Q (.bl false) []:=by
   intro hm;refine b ?_;simp only[yo,zz];rcases hm with hm|hm
   ·have:(decide (1<=i)||zu (x.toNat:Int))=false:=by
     rw[Bool.eq_false_iff];intro h;apply hm;simpa using h
    rw[this,Bool.false_and]
   ·rw[hm,Bool.false_and,yp]
  generalize ((x.toNat:Nat):Int)=c at l li step no ⊢;by_cases hm:yh c=true
  ·have f:=l.1 hm;by_cases a:1<=i\/zu c=true
   ·have k:1<=i\/(97<=c/\c<=122)\/(65<=c/\c<=90):=a.imp id li.1;repeat' (with_reducible refine zf (fun _=>?_)<|fun _=>?_)
    all_goals first|with_reducible exact step a hm|(exfalso;simp only[w5,w9,ye,ze,yf,wj,vc,wm]at*;omega)
   ·have k:¬(1<=i\/(97<=c/\c<=122)\/(65<=c/\c<=90)):=fun h=>a<|h.imp id li.2
    repeat' (with_reducible refine zf (fun _=>?_)<|fun _=>?_)
    all_goals first|with_reducible exact zd (no<|.inl a)|(exfalso;simp only[w5,w9,ye,ze,yf,wj,vc,wm,Bool.not_eq_false']at*;omega)
  ·have g:yh c=false:=by simpa using hm
   have f:¬_:=fun h=>hm<|l.2 h
   repeat' (with_reducible refine zf (fun _=>?_)<|fun _=>?_)
   all_goals first|with_reducible exact zd (no<|.inr g)|(exfalso;simp only[w5,w9,ye,ze,yf,wj,vc,wm,Bool.not_eq_false']at*;omega)
theorem ok:Af A9 58 cT:=by
 refine BN TD<|fun(s:Z) _=>?_;have a:∀b,b=z7 s->Ad cT s (.bl b) []:=fun b g=>zt rfl rfl g
 refine zq (Ak s) ?_;conv=>zeta
 rw[Fk];cases s with
 |nil=>rw[wd (by simp),Hn];exact a _ rfl
 |cons x r=>
  rw[wc (by simp;omega),Fk];by_cases h:(x::r).length<=24
  ·rw[wc<|by simp at h ⊢;omega];have f:decide (r.length<=23)=true:=by simp at h ⊢;omega
   have key:z7 (x::r)=((decide (1<=0)||zu (((x::r).headD 97).toNat:Int))&&((x::r).all fun c=>yh (c.toNat:Int))):=by
    simp only[z7,f,yo,zz,yi];cases d:zu (x.toNat:Int)with
    |false=>simp
    |true=>
     have:yh (x.toNat:Int)=true:=by unfold yh;rw[d];rfl
     simp[this]
   exact loop (x::r) h (x::r) 0 rfl (by simp) (fun e=>a _<|by rw[key];exact e.symm) (fun e=>a _<|by rw[key];exact e.symm)
  ·rw[wd (by simp at h ⊢;omega),Hn];exact a _ (by simp only[z7];rw[w8<|by simp at h;omega];rfl)
end T58
end Go.Pe
namespace Go.Sp
theorem Sw{a:BM}{lo b:Int}(h:Am a=0):BA a lo b=if Az a<(lo:Rat)\/(b:Rat)<Az a then 3 else 0:=by
 unfold BA;rw[wc<|by rw[h];decide]
theorem Ux{a:BM}{lo b:Int}(h:Am a≠0):BA a lo b=Am a:=by
 unfold BA;rw[wd h]
theorem TH{n:Int}(h:GB n=true):n.natAbs<10^6:=by
 unfold GB at h;rw[ze,w5,w5]at h;have:(10:Nat)^6=1000000:=rfl;omega
def wE(seen:List BM)(w:BB):Int:=first [Cs (!isName w.1) 8,Cs (has seen w.1) 9,Am w.2]
theorem iW(seen:List BM)(w:BB)(l:List BB):Wk seen (w::l)=if wE seen w≠0 then wE seen w else if Az w.2<0 then 3 else Wk (w.1::seen) l:=by
 have e:wE seen w=if isName w.1=false then 8 else if has seen w.1=true then 9 else Am w.2:=by
  unfold wE;rw[Bk,Bk,Bk,ET,ET];cases isName w.1
  ·rfl
  ·cases has seen w.1
   ·simp only[Bool.not_true,Bool.false_eq_true,vg,wm,not_true,ite_not];split
    ·next h=>rw[h];rfl
    ·rfl
   ·rfl
 rw[e,Wk];cases isName w.1
 ·rfl
 ·cases has seen w.1
  ·rfl
  ·rfl
def oE(o:Hw):Int:=first [Cs (!isName o.1) 8,Cs (decide (o.2<0\/10<o.2)) 3]
theorem mW(o:Hw)(l:List Hw):dX (o::l)=if oE o≠0 then oE o else dX l:=by
 have e:oE o=if isName o.1=false then 8 else if o.2<0\/10<o.2 then 3 else 0:=by
  unfold oE;rw[Go.Pe.Jo,ET,ET];cases isName o.1
  ·rfl
  ·by_cases h:o.2<0\/10<o.2
   ·rw[w4 h,wd h];rfl
   ·rw[w8 h,wc h];rfl
 rw[e,dX];cases isName o.1
 ·rfl
 ·by_cases h:o.2<0\/10<o.2
  ·simp only[wd h];rfl
  ·simp only[wc h];rfl
theorem N8:∀ {l:List BB} {o:Option BB},Ej o l=0->∀p∈l,Am p.1=0/\Am p.2=0
 |[],_,_,p,hp=>by cases hp
 |x::l,none,h,p,hp=>by
  obtain⟨a,b,c⟩:=oB h;rcases zp.1 hp with rfl|hp
  ·exact⟨a,b⟩
  ·exact N8 c p hp
 |x::l,some q,h,p,hp=>by
  obtain⟨a,b,_,c⟩:=kH h;rcases zp.1 hp with rfl|hp
  ·exact⟨a,b⟩
  ·exact N8 c p hp
theorem V6(y:BM)(p:BB)(l:List BB):RL (some y) (p::l)=if E0 p.2 y<0 then 11 else RL (some p.2) l:=by rw[RL]
end Go.Sp
namespace Go.Pe
open Sp
open Go.Det
open Go.Sp (AW BR BT BB Hw BM CB)
theorem Li{m:List (BM×Bool)}{seen:List BM}(h:IX m (fun x=>x∈seen))(k:BM):(EJ .str .bool k m).getD false=Sp.has seen k:=by
 unfold Sp.has;by_cases e:k∈seen
 ·rw[w4 e];exact(h k).2 e
 ·rw[w8 e];cases c:(EJ .str .bool k m).getD false with
  |false=>rfl
  |true=>exact wh ((h k).1 c) e
theorem Po:IX [] (fun x=>x∈([]:List BM)):=IX.nil.congr fun _=>⟨fun h=>h.elim,fun h=>by cases h⟩
theorem PS{m:List (BM×Bool)}{seen:List BM}(h:IX m (fun x=>x∈seen))(k:BM):IX (Io .str .bool k true m) (fun x=>x∈k::seen):=(h.add k).congr fun _=>zp.symm
theorem kQ:Dg Adr:=Aa T122.ok<|Aa T55.ok<|Aa T56.ok<|Aa T103.ok<|Aa T51.ok AI
theorem T53.ok:Af A9 53 UE:=by
 refine BN kQ<|fun(i:BM×Int×Int) f=>?_;obtain⟨a,lo,h⟩:=i;have f:(decide (a.length<=1000000)&&GB lo&&GB h)=true:=f;rw[ze,ze,w5]at f;obtain⟨⟨hl,h1⟩,h2⟩:=f;have g:∀e ob,e=BA a lo h->Ad UE (a,lo,h) (.dat i64 e) ob:=fun e ob x=>zt rfl rfl x
 have L:=R5 (n:=lo) (TH h1) af af;have H:=R5 (n:=h) (TH h2) af af;refine zq (T53.Ak a lo h)<|zc (w4 hl)<|zf (fun c=>zd<|g _ _ ?_)<|fun c=>?_
 ·have c:Am a≠0:=by simpa using c
  exact(Ux c).symm
 ·have c:Am a=0:=by simpa using c
  obtain⟨o1,j⟩:=Hz c;have A:=UK c;refine zc j (zc rfl (zc (Ab o1<|L.De af)<|zf (fun d=>zc rfl (zd<|g _ _ ?_))<|fun d=>zc rfl (zc (Ab o1<|H.De af)<|zc rfl (zd<|g _ _ ?_))))
  ·rw[Sw c,wd<|.inl<|(A.iX L).1<|w6 d];rfl
  ·have d:=w7 d;rw[Sw c];by_cases e:FN (E8 a) ((h,CT h),(1,CT 1))>0
   ·rw[wd<|.inr<|(A.jD H).1 e];exact wi (fun b=>Cs b 3)<|w4 e
   ·rw[wc<|not_or.2 ⟨fun x=>d<|(A.iX L).2 x,fun x=>e<|(A.jD H).2 x⟩];exact wi (fun b=>Cs b 3)<|w8 e
theorem gN:Dg sC:=Aa T52.pP<|Aa T50.ok<|Aa T51.ok<|Aa T122.ok<|Aa T55.ok<|Aa T115.ok AI
namespace T57
theorem loop{Q:PV->Ob->Prop}(l:List BB)(j:l.length<=1000000)(g:∀p∈l,p.2.length<=1000000):∀(r:List BB) (i:Nat) (m:List (BM×Bool)) (seen:List BM),l.drop i=r->i<=l.length->IX m (fun x=>x∈seen)->(∀ob,Q (.dat i64<|Wk seen r) ob)->Ends sC (L1 l (l.length:Int) (i:Int) m) Q
 |[],i,m,seen,h,f,b,a=>by
  have:=drop_nil h f;exact zh (Al ..) (zi (w8 ae)<|zd<|a _)
 |p::r,i,m,seen,h,f,b,a=>by
  obtain⟨k,o,n⟩:=drop_cons (d:=(([],[]):BB)) h;have s:=g p (zm<|by rw[h];exact zj ..);have q:=wn (i:=i) ae;rw[iW]at a;refine zh (Al ..) ?_;conv=>zeta
  rw[zg,o,q,Li b];refine zc (w4 ae) (zc (ad ae ae)<|zc rfl (zc rfl (zc rfl (zc (w4 s)<|zc rfl (zf (fun c=>zd ?_)<|fun c=>?_)))))
  ·have c:Sp.wE seen p≠0:=by
    have c:(Sp.wE seen p !=0)=true:=c;simpa using c
   rw[wd c]at a;exact a _
  ·have c:Sp.wE seen p=0:=by
    have c:(Sp.wE seen p !=0)=false:=c;simpa using c
   rw[wc<|by rw[c];decide]at a;have e:Am p.2=0:=by
    unfold Sp.wE at c;rw[Bj,Bj,Bj]at c;exact c.2.2.1
   have A:=UK e;refine zc (Hz e).2<|zc A.C5<|zf (fun d=>zd ?_)<|fun d=>?_
   ·rw[wd<|A.Mo.1.1<|w6 d]at a;exact a _
   ·rw[wc fun x=>w7 d<|A.Mo.1.2 x]at a;exact loop l j g r (i+1) _ _ n k (PS b p.1) a
theorem ok:Af A9 57 AaQ:=by
 refine BN gN<|fun(l:List BB) a=>?_;have a:KP l 40 20=true:=a;have b:∀e ob,e=Mz l->Ad AaQ l (.dat i64 e) ob:=fun e ob x=>zt rfl rfl x
 refine zq (Ak l)<|zf (fun c=>zd<|b _ _ ?_)<|fun c=>?_
 ·have c:=w6 c;unfold Mz;rw[wd ae]
 ·have c:=w7 c;have e:Mz l=Wk [] l:=by
   unfold Mz;rw[wc ae]
  exact loop l ae (fun p hp=>by have:=(NX a p hp).2;omega) l 0 [] [] rfl (zo _) Po (fun ob=>b _ _ e.symm)
end T57
theorem iU:Dg vZ:=Aa T52.pP<|Aa T50.ok<|Aa T51.ok<|Aa T53.ok<|Aa T54.ok<|Aa T55.ok<|Aa T56.ok<|Aa T57.ok AI
namespace T13
theorem loop{Q:PV->Ob->Prop}(k j nx:BM)(t w:List BB)(v:t.length<=1000)(b:∀p∈t,Am p.1=0/\Am p.2=0)(c:KP w 40 20=true):∀(r:List BB) (i:Nat),t.drop i=r->1<=i->i<=t.length->(∀ob,Q (.dat i64<|if RL (some (t.getD (i-1) ([],[])).2) r≠0 then RL (some (t.getD (i-1) ([],[])).2) r else Mz w) ob)->Ends vZ (L1 (i:Int) k j nx t w) Q
 |[],i,h,n,g,a=>by
  have:=drop_nil h g;exact zh (Al ..) (zi (w8 ae)<|zc c<|zd<|a _)
 |p::r,i,h,n,g,a=>by
  obtain⟨q,l,u⟩:=drop_cons (d:=(([],[]):BB)) h;have s:=b p (zm<|by rw[h];exact zj ..);have m:=b (t.getD (i-1) ([],[])) (GK ae);have x:=wn (i:=i) ae;have o:zr .i64 ((i:Int)-1)=((i-1:Nat):Int):=by rw[wr _ ae ae];omega
  rw[V6]at a;refine zh (Al ..) ?_;conv=>zeta
  rw[o,zg,zg,l,x];have o1:=Hz s.2;have e:=Hz m.2;have f:=ZN s.2 m.2;refine zc (w4 ae) (zc (ad ae ae) (zc (ad ae ae)<|zc o1.2<|zc e.2<|zc (Ab o1.1 e.1)<|zf (fun d=>zd ?_)<|fun d=>?_))
  ·have d:FN (zG p.2) (zG (t.getD (i-1) ([],[])).2)<0:=w6 d;rw[f]at d;rw[wd d,wd af]at a;exact a _
  ·have d:¬FN (zG p.2) (zG (t.getD (i-1) ([],[])).2)<0:=w7 d;rw[f]at d;rw[wc d]at a;exact loop k j nx t w v b c r (i+1) u ae q (by rw[Nat.add_sub_cancel,l];exact a)
theorem ok:Af A9 13 cLv:=by
 refine BN iU<|fun(l:BT) hi=>?_;have a:=Zn hi;have b:∀e ob,e=Iq l->Ad cLv l (.dat i64 e) ob:=fun e ob x=>zt rfl rfl x
 have hp:JP 1000000 l.2.2.2.1=true:=by
  unfold JP;rw[zl];intro p hp;have:=a.tab p hp;exact ad ae ae
 have a1:=a.head;have a2:=a.next;have a3:=a.tl;have f:KP l.2.2.2.2 40 20=true:=by
  unfold KP;rw[zl];intro p hp;have:=a.wts p hp;exact Ab (w4 this.1)<|w4 this.2
 refine zq (Ak l) (zc rfl (zc rfl (zc (Ab (Ab (w4 ae) rfl) rfl)<|zc (Ab (Ab (w4 ae) rfl) rfl)<|zc (Ab (w4 ae) hp)<|zc rfl (zf (fun c=>zd<|b _ _ ?_)<|fun c=>?_))))
 ·have c:(KU l !=0)=true:=c;have c:KU l≠0:=by simpa using c
  unfold Iq;rw[wd c];rfl
 ·have c:(KU l !=0)=false:=c;have c:KU l=0:=by simpa using c
  have ct:BV l.2.2.2.1=0:=by
   unfold KU at c;rw[Bj,Bj,Bj,Bj]at c;exact c.2.2.2.1
  obtain⟨d,_,g⟩:=Nc ct;have i:=N8 g;obtain⟨p,r,hr⟩:∃p r,l.2.2.2.1=p::r:=by
   cases e:l.2.2.2.1 with
   |nil=>exact wh e d
   |cons p r=>exact⟨p,r,rfl⟩
  have h:l.2.2.2.1.getD (1-1) ([],[])=p:=by rw[hr];rfl
  have up:RL none l.2.2.2.1=RL (some p.2) r:=by rw[hr,RL]
  refine loop _ _ _ _ _ ae i f r 1 (by rw[hr];rfl) ae (by rw[hr,zk];omega)<|fun ob=>b _ _ ?_;rw[h, <-up];exact(wc (c:=KU l≠0)<|by rw[c];decide).symm
end T13
theorem gL:Dg wR:=Aa T52.pP<|Aa T50.ok<|Aa T51.ok<|Aa T53.ok AI
namespace T64
theorem loop{Q:PV->Ob->Prop}(l:List Hw)(g:l.length<=1000000):∀(r:List Hw) (i:Nat),l.drop i=r->i<=l.length->(∀ob,Q (.dat i64<|dX r) ob)->Ends wR (L1 l (l.length:Int) (i:Int)) Q
 |[],i,h,j,a=>by
  have:=drop_nil h j;exact zh (Al ..) (zi (w8 ae)<|zd<|a _)
 |o::r,i,h,j,a=>by
  obtain⟨f,k,b⟩:=drop_cons (d:=(([],0):Hw)) h;have m:=wn (i:=i) ae;rw[mW]at a;refine zh (Al ..) ?_;conv=>zeta
  rw[zg,k,m];refine zc (w4 ae) (zc (ad ae ae)<|zc rfl (zc rfl (zf (fun d=>zc rfl (zc rfl ?_))<|fun d=>zc rfl (zc rfl ?_))))
  ·have e:Sp.oE o=yt [Cs (!z7 o.1) 8,Cs true 3]:=by
    unfold Sp.oE;rw[w4<|.inl<|w6 d]
   rw[e]at a;refine zf (fun c=>zd ?_)<|fun c=>loop l g r (i+1) b f ?_
   ·rw[wd<|by simpa using c]at a;exact a _
   ·rw[wc<|by simpa using c]at a;exact a
  ·have e:Sp.oE o=yt [Cs (!z7 o.1) 8,Cs (decide (o.2>10)) 3]:=by
    unfold Sp.oE;have d:=w7 d;have:decide (o.2<0\/10<o.2)=decide (o.2>10):=by
     apply decide_eq_decide.2;omega
    rw[this]
   rw[e]at a;refine zf (fun c=>zd ?_)<|fun c=>loop l g r (i+1) b f ?_
   ·rw[wd<|by simpa using c]at a;exact a _
   ·rw[wc<|by simpa using c]at a;exact a
theorem ok:Af A9 64 bT:=by
 refine BN gL<|fun(s:BR) hi=>?_;obtain⟨a1,a2,a3,a4,a5⟩:=Oh hi;have f:∀e ob,e=KQ s->Ad bT s (.dat i64 e) ob:=fun e ob x=>zt rfl rfl x
 have b:∀ {a:BM} {lo h:Int},a.length<=20->GB lo=true->GB h=true->(decide (a.length<=1000000)&&GB lo&&GB h)=true:=fun k x y=>Ab (Ab (w4 ae) x) y
 have d:TJ s=yt [BA s.1 (-10000) 10000,BA s.2.1 (-10000) 10000,BA s.2.2.1 0 10000,BA s.2.2.2.1 0 10000,Cs (decide ((s.2.2.2.2.length:Int)>16)) 5]:=by
  unfold TJ;have:decide (16<s.2.2.2.2.length)=decide ((s.2.2.2.2.length:Int)>16):=by
   apply decide_eq_decide.2;omega
  rw[this]
 refine zq (Ak s)<|zc (b a1 rfl rfl)<|zc (b a2 rfl rfl)<|zc (b a3 rfl rfl)<|zc (b a4 rfl rfl)<|zc rfl (zc rfl (zf (fun c=>zd<|f _ _ ?_)<|fun c=>?_))
 ·rw[<-d]at c ⊢;unfold KQ;rw[wd<|by simpa using c]
 ·rw[<-d]at c;have e:KQ s=dX s.2.2.2.2:=by
   unfold KQ;rw[wc<|by simpa using c]
  exact loop _ ae _ 0 rfl (zo _) (fun ob=>f _ _ e.symm)
end T64
end Go.Pe
namespace Go.Sp
theorem Kw{α:Type}(l:List α)(m:Nat):CY (l.length:Int) (m:Int)=if l=[]then 12 else if m<l.length then 5 else 0:=by
 unfold CY;cases l with
 |nil=>rfl
 |cons x l=>
  rw[wc (by rw[zk];omega),wc<|List.cons_ne_nil x l];by_cases h:m<(x::l).length
  ·rw[wd h,wd ae]
  ·rw[wc h,wc ae]
theorem cV(c:AW):Od c=if CY (c.1.length:Int) 36≠0 then CY (c.1.length:Int) 36 else if IQ c.1≠0 then IQ c.1 else Q6 c:=by
 have e:=Kw c.1 36;have e:CY (c.1.length:Int) 36=if c.1=[]then 12 else if 36<c.1.length then 5 else 0:=e
 rw[e];unfold Od;by_cases h:c.1=[]
 ·rw[wd h,wd h,wd af]
 ·rw[wc h,wc h];by_cases k:36<c.1.length
  ·rw[wd k,wd k,wd af]
  ·rw[wc k,wc k];exact(wc<|fun x=>x rfl).symm
theorem Xl(c:AW):Q6 c=if CY (c.2.1.length:Int) 8≠0 then CY (c.2.1.length:Int) 8 else if Fs (c.1.length:Int) [] c.2.1≠0 then Fs (c.1.length:Int) [] c.2.1 else Mi c:=by
 have e:=Kw c.2.1 8;have e:CY (c.2.1.length:Int) 8=if c.2.1=[]then 12 else if 8<c.2.1.length then 5 else 0:=e
 rw[e];unfold Q6;by_cases h:c.2.1=[]
 ·rw[wd h,wd h,wd af]
 ·rw[wc h,wc h];by_cases k:8<c.2.1.length
  ·rw[wd k,wd k,wd af]
  ·rw[wc k,wc k];exact(wc<|fun x=>x rfl).symm
theorem WM(c:AW):Mi c=if CY (c.2.2.length:Int) 8≠0 then CY (c.2.2.length:Int) 8 else LJ [] c.2.2:=by
 have e:=Kw c.2.2 8;have e:CY (c.2.2.length:Int) 8=if c.2.2=[]then 12 else if 8<c.2.2.length then 5 else 0:=e
 rw[e];unfold Mi;by_cases h:c.2.2=[]
 ·rw[wd h,wd h,wd af]
 ·rw[wc h,wc h];by_cases k:8<c.2.2.length
  ·rw[wd k,wd k,wd af]
  ·rw[wc k,wc k];exact(wc<|fun x=>x rfl).symm
theorem RF(s:BR)(l:List BR):IQ (s::l)=if KQ s≠0 then KQ s else IQ l:=by rw[IQ]
def tE(n:Int)(seen:List BM)(t:CB)(b:Bool):Int:=first [Cs (!isName t.1) 8,Cs (has seen t.1) 9,Cs ((t.2.length:Int) !=n) 2,Cs b 3]
theorem cX(n:Int)(seen:List BM)(t:CB)(l:List CB):Fs n seen (t::l)=if tE n seen t (Em t.2)≠0 then tE n seen t (Em t.2)else Fs n (t.1::seen) l:=by
 rw[Fs];unfold tE;rw[Bk,Bk,Bk,Bk,ET,ET,ET,ET];cases isName t.1
 ·rfl
 ·cases has seen t.1
  ·by_cases h:(t.2.length:Int)=n
   ·rw[show((t.2.length:Int) !=n)=false by simp[h]];cases Em t.2
    ·rw[wc af,wc af,wc<|fun x=>x h];rfl
    ·rw[wc af,wc af,wc<|fun x=>x h];rfl
   ·rw[show((t.2.length:Int) !=n)=true by simp[h]];rw[wc af,wc af,wd h];rfl
  ·rfl
theorem aH(seen:List BM)(l:BT)(r:List BT):LJ seen (l::r)=if first [Iq l,Cs (has seen l.1) 9]≠0 then first [Iq l,Cs (has seen l.1) 9]else LJ (l.1::seen) r:=by
 rw[LJ,Go.Pe.Jo,ET];cases has seen l.1<;>by_cases h:Iq l=0<;>simp[h]
end Go.Sp
namespace Go.Pe
open Sp
open Go.Det
open Go.Sp (AW BR BT BB Hw BM CB)
theorem eN:Dg Lq:=Aa T63.ok<|Aa T64.ok<|Aa T52.pP<|Aa T50.ok<|Aa T51.ok<|Aa T13.ok AI
namespace T15
theorem Vw(l:List BT)(n:l.length<=1000000)(e:∀x∈l,Sp.CF x=true):∀(r:List BT) (i:Nat) (m:List (BM×Bool)) (seen:List BM),l.drop i=r->i<=l.length->IX m (fun x=>x∈seen)->(∀ob,Q (.dat i64<|LJ seen r) ob)->Ends Lq (L4 l (l.length:Int) (i:Int) m) Q
 |[],i,m,seen,h,f,b,a=>by
  have:=drop_nil h f;exact zh (CD ..) (zi (w8 ae)<|zd<|a _)
 |p::r,i,m,seen,h,f,b,a=>by
  obtain⟨o,j,g⟩:=drop_cons (d:=(([],[],[],[],[]):BT)) h;have s:=e p (zm<|by rw[h];exact zj ..);have k:=wn (i:=i) ae;rw[aH]at a;refine zh (CD ..) ?_;conv=>zeta
  rw[zg,j,k,Li b];refine zc (w4 ae) (zc (ad ae ae)<|zc s<|zc rfl (zc rfl (zf (fun c=>zd ?_)<|fun c=>?_)))
  ·have c:(yt [Iq p,Cs (Sp.has seen p.1) 9] !=0)=true:=c;rw[wd<|by simpa using c]at a;exact a _
  ·have c:(yt [Iq p,Cs (Sp.has seen p.1) 9] !=0)=false:=c;rw[wc<|by simpa using c]at a;exact Vw l n e r (i+1) _ _ g o (PS b p.1) a
theorem Nn{l:List CB}{o p:Int}{o1:List (BM×Bool)}{v:List BR}{g:List CB}{k:List BT}(t:CB)(z:t.2.length<=1000000)(m:List (BM×Bool))(seen:List BM)(s:IX m (fun x=>x∈seen))(S:List BR)(q:List CB)(V:List BT):∀(r:List Int) (j:Nat),t.2.drop j=r->j<=t.2.length->
  (∀ob,Sp.tE (S.length:Int) seen t (Em r)≠0->Q (.dat i64<|Sp.tE (S.length:Int) seen t<|Em r) ob)->(Sp.tE (S.length:Int) seen t (Em r)=0->Ends Lq (L2 l o (zr .i64<|p+1) (Io .str .bool t.1 true m) S q V) Q)->
  Ends Lq (L3 l o p o1 v g k t.2 (t.2.length:Int) (j:Int) t.1 t.2 m S q V) Q
 |[],j,h,u,a,b=>by
  have:=drop_nil h u;refine zh (Ca ..) (zi (w8 ae) ?_);rw[Li s];refine zc rfl (zc rfl (zc rfl (zc rfl (zc rfl (zc rfl (zf (fun c=>zd ?_)<|fun c=>?_))))))
  ·have c:(Sp.tE (S.length:Int) seen t (Em []) !=0)=true:=c;exact a _ (by simpa using c)
  ·have c:(Sp.tE (S.length:Int) seen t (Em []) !=0)=false:=c;exact b (by simpa using c)
 |n::r,j,h,u,a,b=>by
  obtain⟨w,A,y⟩:=drop_cons (d:=(0:Int)) h;have C:=wn (i:=j) ae;have B:decide ((j:Int)>=0)=true:=w4 ae;have f:Em (n::r)=((decide (n<1)||decide (10000<n))||Em r):=by unfold Em;rw[z6]
  refine zh (Ca ..) ?_;conv=>zeta
  rw[zg,A,C,B,Li s];refine zc (w4 ae) (zc (Ab (by first|rfl|exact w4 ae)<|w4 ae)<|zf (fun d=>?_)<|fun d=>zf (fun e=>?_)<|fun e=>?_)
  ·rw[d,zy,zy]at f;rw[f]at a b;refine zc rfl (zc rfl (zc rfl (zc rfl (zc rfl (zc rfl (zf (fun c=>zd ?_)<|fun c=>?_))))))
   ·have c:(Sp.tE (S.length:Int) seen t true !=0)=true:=c;exact a _ (by simpa using c)
   ·have c:(Sp.tE (S.length:Int) seen t true !=0)=false:=c;exact b (by simpa using c)
  ·have e:decide (10000<n)=true:=e;rw[e,ym,zy]at f;rw[f]at a b;refine zc rfl (zc rfl (zc rfl (zc rfl (zc rfl (zc rfl (zf (fun c=>zd ?_)<|fun c=>?_))))))
   ·have c:(Sp.tE (S.length:Int) seen t true !=0)=true:=c;exact a _ (by simpa using c)
   ·have c:(Sp.tE (S.length:Int) seen t true !=0)=false:=c;exact b (by simpa using c)
  ·have e:decide (10000<n)=false:=e;rw[d,e,ya,ya]at f;rw[f]at a b;exact Nn t z m seen s S q V r (j+1) y w a b
theorem Gd(c:AW)(e:Kq c=true):∀(r:List CB) (i:Nat) (m:List (BM×Bool)) (seen:List BM),c.2.1.drop i=r->i<=c.2.1.length->IX m (fun x=>x∈seen)->
  (∀ob,Q (.dat i64<|if Fs (c.1.length:Int) seen r≠0 then Fs (c.1.length:Int) seen r else Mi c) ob)->Ends Lq (L2 c.2.1 (c.2.1.length:Int) (i:Int) m c.1 c.2.1 c.2.2) Q
 |[],i,m,seen,h,f,b,a=>by
  have:=drop_nil h f;have a:∀ob,Q (.dat i64<|Mi c) ob:=fun ob=>by
   have:=a ob;rwa [show Fs (c.1.length:Int) seen []=0 from rfl,wc<|fun x=>x rfl]at this
  rw[WM]at a;refine zh (AJ ..) (zi (w8 ae)<|zc rfl (zf (fun d=>zd ?_)<|fun d=>?_))
  ·rw[wd<|by simpa using d]at a;exact a _
  ·rw[wc<|by simpa using d]at a;have s:=OH e;exact Vw c.2.2 (by have:=s.2.2.1;omega) s.2.2.2.2.2 c.2.2 0 [] [] rfl (zo _) Po a
 |t::r,i,m,seen,h,f,b,a=>by
  obtain⟨n,j,g⟩:=drop_cons (d:=(([],[]):CB)) h;have s:=OH e;have st:=s.2.2.2.2.1 t (zm<|by rw[h];exact zj ..);have st:(decide (t.1.length<=40)&&decide (t.2.length<=40))=true:=st;rw[ze,w5,w5]at st;have o:=s.2.1;have k:=wn (i:=i) ae;rw[cX]at a;refine zh (AJ ..) ?_;conv=>zeta
  rw[zg,j];refine zc (w4 ae) (zc (ad ae ae) ?_);refine Nn t ae m seen b c.1 c.2.1 c.2.2 t.2 0 rfl (zo _) (fun ob d=>?_) (fun d=>?_)
  ·rw[wd d,wd d]at a;exact a _
  ·have l:¬Sp.tE (c.1.length:Int) seen t (Em t.2)≠0:=fun x=>x d
   rw[wc l]at a;rw[k];exact Gd c e r (i+1) _ _ g n (PS b t.1) a
theorem Gv(c:AW)(b:Kq c=true):∀(r:List BR) (i:Nat),c.1.drop i=r->i<=c.1.length->
  (∀ob,Q (.dat i64<|if IQ r≠0 then IQ r else Q6 c) ob)->Ends Lq (L1 c.1 (c.1.length:Int) (i:Int) c.1 c.2.1 c.2.2) Q
 |[],i,h,e,a=>by
  have:=drop_nil h e;have a:∀ob,Q (.dat i64<|Q6 c) ob:=fun ob=>by
   have:=a ob;rwa [show IQ []=0 from rfl,wc<|fun x=>x rfl]at this
  rw[Xl]at a;refine zh (Al ..) (zi (w8 ae)<|zc rfl (zf (fun d=>zd ?_)<|fun d=>?_))
  ·rw[wd<|by simpa using d]at a;exact a _
  ·rw[wc<|by simpa using d]at a;exact Gd c b c.2.1 0 [] [] rfl (zo _) Po a
 |p::r,i,h,e,a=>by
  obtain⟨l,g,f⟩:=drop_cons (d:=(([],[],[],[],[]):BR)) h;have s:=OH b;have sp:=s.2.2.2.1 p (zm<|by rw[h];exact zj ..);have m:=s.1;have j:=wn (i:=i) ae;rw[RF]at a;refine zh (Al ..) ?_;conv=>zeta
  rw[zg,g,j];refine zc (w4 ae) (zc (ad ae ae)<|zc sp<|zf (fun d=>zd ?_)<|fun d=>?_)
  ·have d:(KQ p !=0)=true:=d;have d:KQ p≠0:=by simpa using d
   rw[wd d,wd d]at a;exact a _
  ·have d:(KQ p !=0)=false:=d;have k:¬KQ p≠0:=by simpa using d
   rw[wc k]at a;exact Gv c b r (i+1) f l a
theorem ok:Af A9 15 cCo:=by
 refine BN eN<|fun(c:AW) a=>?_;have a:Kq c=true:=a;have b:∀e ob,e=Od c->Ad cCo c (.dat i64 e) ob:=fun e ob x=>zt rfl rfl x
 have e:=cV c;refine zq (Ak c)<|zc rfl (zf (fun d=>zd<|b _ _ ?_)<|fun d=>?_)
 ·rw[wd<|by simpa using d]at e;exact e.symm
 ·rw[wc<|by simpa using d]at e;exact Gv c a c.1 0 rfl (zo _) (fun ob=>b _ _ e.symm)
end T15
end Go.Pe
namespace Go.Sp
theorem q0{x:Int}(h:x=0):(x==0)=true:=by simpa using h
theorem q1{x:Int}(h:x≠0):(x==0)=false:=by simpa using h
theorem n0{x:Int}(h:x=0):(x !=0)=false:=by simpa using h
theorem n1{x:Int}(h:x≠0):(x !=0)=true:=by simpa using h
theorem Uw{a:BM}{n:Int}:E0 a (A6 (n:Rat))=if Az a<(n:Rat)then -1 else if (n:Rat)<Az a then 1 else 0:=by
 unfold E0;rw[FU]
theorem TR(s:BM)(l:List BM):JU s l=if isName s=false then 8 else if s∈l then 9 else 0:=by
 unfold JU has;by_cases h:s∈l
 ·rw[w4 h,wd h,wd rfl]
 ·rw[w8 h,wc h];cases isName s<;>rfl
theorem V7{s:BM}{l:List BM}(h:isName s=true):JU s l=if s∈l then 9 else 0:=by rw[TR,h];rfl
theorem sK{s:BM}{l:List BM}(h:isName s=false):JU s l=8:=by rw[TR,h];rfl
theorem qE(s:BR):TJ s=if BA s.1 (-10000) 10000≠0 then BA s.1 (-10000) 10000 else if BA s.2.1 (-10000) 10000≠0 then BA s.2.1 (-10000) 10000 else if BA s.2.2.1 0 10000≠0 then BA s.2.2.1 0 10000 else if BA s.2.2.2.1 0 10000≠0 then BA s.2.2.2.1 0 10000 else if 16<s.2.2.2.2.length then 5 else 0:=by
 unfold TJ;rw[Bk,Bk,Bk,Bk,Bk,ET];by_cases h:16<s.2.2.2.2.length
 ·rw[w4 h,wd h];rfl
 ·rw[w8 h,wc h];rfl
end Go.Sp
namespace Go.Pe
open Sp
open Go.Det
open Go.Sp (AW BR BT BB Hw BM CB q0 q1 n0 n1)
theorem pK:Dg Acr:=Aa T62.ok<|Aa T36.ok<|Aa T97.ok<|Aa T96.ok AI
theorem NW{n:Int}(h:GB n=true):CG n=true:=by
 unfold GB at h;rw[ze,w5,w5]at h;exact ad ae ae
theorem T59.ok:Af A9 59 UE:=by
 refine BN pK<|fun(i:BM×Int×Int) f=>?_;obtain⟨a,lo,h⟩:=i;have f:(decide (a.length<=1000000)&&GB lo&&GB h)=true:=f;rw[ze,ze,w5]at f;obtain⟨⟨hl,h1⟩,h2⟩:=f;have b:∀e ob,e=BA a lo h->Ad UE (a,lo,h) (.dat i64 e) ob:=fun e ob x=>zt rfl rfl x
 have L:=TB (n:=lo) (TH h1) af;have H:=TB (n:=h) (TH h2) af;refine zq (T59.Ak a lo h) ?_;conv=>zeta
 rw[Qd,Qd,Uw,Uw];refine zc (w4 hl)<|zf (fun c=>?_)<|fun c=>zd<|b _ _ ?_
 ·have c:Am a=0:=by simpa using c
  have nb:=(CO c).1;refine zc (NW h1) (zc (Mb<|NW h1)<|zc (Ab nb<|L.EE af)<|zf (fun d=>zd<|b _ _ ?_)<|fun d=>zc (NW h2)<|zc (Mb<|NW h2)<|zc (Ab nb<|H.EE af)<|zf (fun e=>zd<|b _ _ ?_)<|fun e=>zd<|b _ _ ?_);all_goals rw[Sw c]
  ·have d:=w6 d;by_cases k:Az a<(lo:Rat)
   ·rw[wd<|.inl k]
   ·rw[wc k]at d;split at d<;>exact wh d af
  ·have e:=w6 e;by_cases k:(h:Rat)<Az a
   ·rw[wd<|.inr k]
   ·rw[wc k]at e;split at e<;>exact wh e af
  ·have d:=w7 d;have e:=w7 e;rw[wc,c];rintro(k|k)
   ·rw[wd k]at d;exact d af
   ·by_cases g:Az a<(h:Rat)
    ·exact wh (Std.lt_trans k g) (by grind)
    ·rw[wc g,wd k]at e;exact e af
 ·have c:Am a≠0:=by simpa using c
  exact(Ux c).symm
theorem eX:Dg qT:=Aa T58.ok AI
namespace T61
theorem loop{Q:PV->Ob->Prop}(s:BM)(l:List BM)(n:l.length<=1000):∀(r:List BM) (i:Nat),l.drop i=r->i<=l.length->(∀ob,Q (.dat i64<|if s∈r then 9 else 0) ob)->Ends qT (L1 s l (i:Int)) Q
 |[],i,h,b,a=>by
  have:=drop_nil h b;exact zh (Al ..) (zi (w8 ae)<|zd<|a _)
 |x::r,i,h,b,a=>by
  obtain⟨m,g,f⟩:=drop_cons (d:=([]:Z)) h;have j:=wn (i:=i) ae;refine zh (Al ..) ?_;conv=>zeta
  rw[zg,g,j];refine zc (w4 ae) (zc (ad ae ae)<|zf (fun c=>zd ?_)<|fun c=>loop s l n r (i+1) f m ?_)
  ·have c:x=s:=by simpa using c
   rw[wd<|by rw[c];exact zj ..]at a;exact a _
  ·have c:x≠s:=by simpa using c
   have e:(s∈x::r)=(s∈r):=by
    apply propext;rw[zp];exact⟨fun k=>k.resolve_left fun k=>c k.symm,.inr⟩
   simp only[e]at a;exact a
theorem ok:Af A9 61 Tg:=by
 refine BN eX<|fun(i:BM×List BM) a=>?_;obtain⟨s,l⟩:=i;have a:decide (l.length<=1000)=true:=a;have b:∀e ob,e=JU s l->Ad Tg (s,l) (.dat i64 e) ob:=fun e ob x=>zt rfl rfl x
 refine zq (Ak s l)<|zc rfl (zf (fun c=>zd<|b _ _ ?_)<|fun c=>?_)
 ·exact(sK<|by simpa using c).symm
 ·exact loop s l (w6 a) l 0 rfl (zo _) (fun ob=>b _ _ (V7<|by simpa using c).symm)
end T61
theorem lF:Dg wH:=Aa T59.ok<|Aa T58.ok AI
namespace T67
theorem loop{Q:PV->Ob->Prop}(a b c d:BM)(l:List Hw)(q:l.length<=1000000):∀(r:List Hw) (i:Nat),l.drop i=r->i<=l.length->(∀ob,Q (.dat i64<|dX r) ob)->Ends wH (L1 (i:Int) a b c d l) Q
 |[],i,h,j,f=>by
  have:=drop_nil h j;exact zh (Al ..) (zi (w8 ae)<|zd<|f _)
 |o::r,i,h,j,f=>by
  obtain⟨s,m,k⟩:=drop_cons (d:=(([],0):Hw)) h;have p:=wn (i:=i) ae;have g:=nb (i:=i) (n:=l.length) ae;rw[dX]at f;refine zh (Al ..) ?_;conv=>zeta
  rw[zg,m,p];refine zc (w4 ae)<|zc g<|zc rfl (zf (fun c=>zd ?_)<|fun c=>zc g<|zf (fun d=>zd ?_)<|fun d=>zc g<|zf (fun e=>zd ?_)<|fun e=>loop _ _ _ _ l q r (i+1) k s ?_)
  ·rw[wd<|by simpa using c]at f;exact f _
  ·rw[wc (by simpa using c),wd<|.inl<|w6 d]at f;exact f _
  ·rw[wc (by simpa using c),wd<|.inr<|w6 e]at f;exact f _
  ·rw[wc (by simpa using c),wc<|not_or.2 ⟨w7 d,w7 e⟩]at f;exact f
theorem ok:Af A9 67 bT:=by
 refine BN lF<|fun(s:BR) hi=>?_;obtain⟨a1,a2,a3,a4,a5⟩:=Oh hi;have i:∀e ob,e=KQ s->Ad bT s (.dat i64 e) ob:=fun e ob x=>zt rfl rfl x
 have j:∀ {a:BM} {lo h:Int},a.length<=20->GB lo=true->GB h=true->(decide (a.length<=1000000)&&GB lo&&GB h)=true:=fun k x y=>Ab (Ab (w4 ae) x) y
 have b:=qE s;have bad:∀x:Int,x≠0->TJ s=x->x=KQ s:=fun x h k=>by
  unfold KQ;rw[k,wd h]
 refine zq (Ak s) ?_;conv=>zeta
 by_cases d:BA s.1 (-10000) 10000=0
 ·rw[wc<|fun x=>x d]at b;refine zc (j a1 rfl rfl)<|zc (q0 d)<|zc (j a2 rfl rfl) ?_;by_cases f:BA s.2.1 (-10000) 10000=0
  ·rw[wc<|fun x=>x f]at b;refine zc (q0 f)<|zc (j a3 rfl rfl) ?_;by_cases g:BA s.2.2.1 0 10000=0
   ·rw[wc<|fun x=>x g]at b;refine zc (q0 g)<|zc (j a4 rfl rfl) ?_;by_cases l:BA s.2.2.2.1 0 10000=0
    ·rw[wc<|fun x=>x l]at b;refine zi (n0 l)<|zf (fun c=>zd<|i _ _ ?_)<|fun c=>?_
     ·have c:=w6 c;rw[wd ae]at b;exact bad 5 af b
     ·have c:=w7 c;rw[wc ae]at b;have e:KQ s=dX s.2.2.2.2:=by
       unfold KQ;rw[wc<|fun x=>x b]
      exact loop _ _ _ _ _ ae _ 0 rfl (zo _) (fun ob=>i _ _ e.symm)
    ·rw[wd l]at b;exact zc (n1 l)<|zd<|i _ _<|bad _ l b
   ·rw[wd g]at b;exact zi (q1 g)<|zc (n1 g)<|zd<|i _ _<|bad _ g b
  ·rw[wd f]at b;exact zi (q1 f)<|zi (q1 f)<|zc (n1 f)<|zd<|i _ _<|bad _ f b
 ·rw[wd d]at b;exact zc (j a1 rfl rfl)<|zi (q1 d)<|zi (q1 d)<|zi (q1 d)<|zc (n1 d)<|zd<|i _ _<|bad _ d b
end T67
end Go.Pe
namespace Go.Sp
theorem Ye(l:BT):KU l=if isName l.1=false then 8 else if BA l.2.1 1 10000≠0 then BA l.2.1 1 10000 else if BA l.2.2.1 1 10000≠0 then BA l.2.2.1 1 10000 else BV l.2.2.2.1:=by
 unfold KU;rw[Bk,Bk,Bk,Bk,ET];have t:(if BV l.2.2.2.1≠0 then BV l.2.2.2.1 else first [])=BV l.2.2.2.1:=by
  by_cases h:BV l.2.2.2.1=0
  ·rw[h];rfl
  ·rw[wd h]
 rw[t];cases isName l.1
 ·rfl
 ·rfl
theorem Oa{u:BM}(h:Am u=0):Ey u<0↔Az u<0:=by
 have t:=(Ml h).1;have k:=Ju<|Az u;rw[t]at k;rw[k, <-(neg_num<|Az u).1];unfold Mo;constructor
 ·intro x;split at x
  ·omega
  ·split at x<;>omega
 ·intro x;rw[wd x];decide
theorem lM{seen:List BM}{w:BB}{l:List BB}{o:List BM}(h:∀x,x∈o↔x∈seen):Wk seen (w::l)=if JU w.1 o≠0 then JU w.1 o else if Am w.2≠0 then Am w.2 else if Az w.2<0 then 3 else Wk (w.1::seen) l:=by
 rw[Wk,TR];unfold has;cases isName w.1
 ·rfl
 ·by_cases k:w.1∈o
  ·rw[w4<|(h _).1 k,wd k];rfl
  ·rw[w8<|fun x=>k<|(h _).2 x,wc k];rfl
theorem P7{o seen:List BM}(h:∀x,x∈o↔x∈seen)(k:BM):∀x,x∈o++[k]↔x∈k::seen:=fun x=>by
 rw[List.mem_append,List.mem_singleton,zp,h x];exact Or.comm
end Go.Sp
namespace Go.Pe
open Sp
open Go.Det
open Go.Sp (AW BR BT BB Hw BM CB q0 q1 n0 n1)
theorem iO:Dg QZ:=Aa T58.ok<|Aa T59.ok<|Aa T60.ok<|Aa T36.ok<|Aa T61.ok<|Aa T62.ok<|Aa T38.ok AI
namespace T14
theorem Nn(q m nx:BM)(t w:List BB)(u:w.length<=16)(l:∀p∈w,p.2.length<=1000000):∀(r:List BB) (i n:Nat) (o seen:List BM),w.drop i=r->i<=w.length->n=o.length->n=i->(∀x,x∈o↔x∈seen)->(∀ob,Q (.dat i64<|Wk seen r) ob)->Ends QZ (L3 n (i:Int) o q m nx t w) Q
 |[],i,n,o,seen,h,j,e,b,g,a=>by
  have:=drop_nil h j;exact zh (Ca ..) (zi (w8 ae)<|zd<|a _)
 |p::r,i,n,o,seen,h,j,e,b,g,a=>by
  obtain⟨y,A,z⟩:=drop_cons (d:=(([],[]):BB)) h;have s:=l p (zm<|by rw[h];exact zj ..);have B:=wn (i:=i) ae;have f:=nb (i:=i) (n:=w.length) ae;have tk:List.take n o=o:=by rw[e,yg]
  rw[lM g]at a;refine zh (Ca ..) ?_;conv=>zeta
  rw[zg,A,B,tk];have pn:(decide (0+n<=o.length)&&true&&decide (o.length<=1000))=true:=Ab (Ab (w4 ae) rfl) (w4 ae);have v:(decide (1<=1)&&true&&decide (n=o.length)&&decide ((3*(n+1)+2000)*16<=562949953421312))=true:=Ab (Ab (Ab rfl rfl)<|w4 e) (w4 ae);refine zc (w4 ae)<|zc f<|zc pn ?_;by_cases c:JU p.1 o=0
  ·rw[wc<|fun x=>x c]at a;refine zc (q0 c)<|zc f<|zc (w4 s) ?_;by_cases d:Am p.2=0
   ·rw[wc<|fun x=>x d]at a;refine zc (q0 d)<|zc f<|zc (w4 s)<|zf (fun k=>zc rfl (zd ?_))<|fun k=>zi (n0 d)<|zc f<|zc v ?_
    ·rw[wd<|(Oa d).1<|w6 k]at a;exact a _
    ·rw[wc fun x=>w7 k<|(Oa d).2 x]at a;exact Nn q m nx t w u l r (i+1) (yr n 1) (o++[p.1]) (p.1::seen) z y (by rw[yb,e];rfl) (by rw[b]) (P7 g p.1) a
   ·rw[wd d]at a;exact zi (q1 d)<|zc (n1 d)<|zd<|a _
  ·rw[wd c]at a;exact zi (q1 c)<|zi (q1 c)<|zc (n1 c)<|zd<|a _
theorem Gd(g f nx:BM)(t w:List BB)(h:w.length<=16)(e:∀p∈w,p.2.length<=1000000)(a:∀ob,Q (.dat i64<|Wk [] w) ob):Ends QZ (L2 0 g f nx t w) Q:=by
 cases w with
 |nil=>exact zh (AJ ..)<|zi rfl (zd<|a _)
 |cons p r=>
  have s:=e p<|zj ..;have m:zr .i64 ((0:Int)+1)=((1:Nat):Int):=rfl;have l:(p::r).getD (yv 0) ([],[])=p:=rfl;have b:(decide ((0:Int)<=(0:Int))&&decide ((0:Int)<((p::r).length:Int)))=true:=Ab rfl (w4<|by rw[zk];omega);have i:∀x:BM,x∈([]:List BM)↔x∈([]:List BM):=fun x=>yu
  rw[lM i]at a;refine zh (AJ ..) ?_;conv=>zeta
  rw[l,m];have j:(decide (1<=1)&&decide (0<1)&&decide ((3*1+2000)*16<=562949953421312))=true:=Ab (Ab rfl rfl) (w4 ae);refine zc (w4<|by rw[zk];omega)<|zc b<|zc rfl ?_;by_cases c:JU p.1 []=0
  ·rw[wc<|fun x=>x c]at a;refine zc (q0 c)<|zc b<|zc (w4 s) ?_;by_cases d:Am p.2=0
   ·rw[wc<|fun x=>x d]at a;refine zc (q0 d)<|zc b<|zc (w4 s)<|zf (fun k=>zc rfl (zd ?_))<|fun k=>zi (n0 d)<|zc b<|zc j ?_
    ·rw[wd<|(Oa d).1<|w6 k]at a;exact a _
    ·rw[wc fun x=>w7 k<|(Oa d).2 x]at a;exact Nn g f nx t (p::r) h e r 1 1 [p.1] [p.1] rfl (by rw[zk];omega) rfl rfl (fun x=>yu) a
   ·rw[wd d]at a;exact zi (q1 d)<|zc (n1 d)<|zd<|a _
  ·rw[wd c]at a;exact zi (q1 c)<|zi (q1 c)<|zc (n1 c)<|zd<|a _
theorem Gv(e b nx:BM)(t w:List BB)(q:t.length<=1000)(f:∀p∈t,Am p.1=0/\Am p.2=0)(j:∀p∈w,p.2.length<=1000000):∀(r:List BB) (i:Nat),t.drop i=r->1<=i->i<=t.length->(∀ob,Q (.dat i64<|if RL (some (t.getD (i-1) ([],[])).2) r≠0 then RL (some (t.getD (i-1) ([],[])).2) r else Mz w) ob)->Ends QZ (L1 (i:Int) e b nx t w) Q
 |[],i,h,l,g,a=>by
  have:=drop_nil h g;have a:∀ob,Q (.dat i64<|Mz w) ob:=fun ob=>by
   have:=a ob;rwa [show RL (some (t.getD (i-1) ([],[])).2) []=0 from rfl,wc<|fun x=>x rfl]at this
  unfold Mz at a;refine zh (Al ..) (zi (w8 ae)<|zf (fun c=>zd ?_)<|fun c=>?_)
  ·have c:=w6 c;rw[wd ae]at a;exact a _
  ·have c:=w7 c;rw[wc ae]at a;exact Gd e b nx t w ae j a
 |p::r,i,h,l,g,a=>by
  obtain⟨n,k,o⟩:=drop_cons (d:=(([],[]):BB)) h;have s:=f p (zm<|by rw[h];exact zj ..);have u:=f (t.getD (i-1) ([],[])) (GK ae);have v:=wn (i:=i) ae;have m:zr .i64 ((i:Int)-1)=((i-1:Nat):Int):=by rw[wr _ ae ae];omega
  rw[V6]at a;refine zh (Al ..) ?_;conv=>zeta
  rw[m,zg,zg,k,v];refine zc (w4 ae) (zc (ad ae ae) (zc (ad ae ae) (zc (Ab (CO s.2).1<|(QQ u.2).EE af)<|zf (fun d=>zd ?_)<|fun d=>?_)))
  ·rw[wd<|w6 d,wd af]at a;exact a _
  ·rw[wc<|w7 d]at a;exact Gv e b nx t w q f j r (i+1) o ae n (by rw[Nat.add_sub_cancel,k];exact a)
theorem okM:Af A9 14 Aar:=by
 refine BN iO<|fun(l:BT) hi=>?_;have j:=wW hi;have i:∀e ob,e=Iq l->Ad Aar l (.dat i64 e) ob:=fun e ob x=>zt rfl rfl x
 have hp:JP 1000000 l.2.2.2.1=true:=by
  unfold JP;rw[zl];intro p hp;have:=j.tab p hp;exact ad ae ae
 have a1:=j.head;have a2:=j.next;have a3:=j.tl;have o:∀p∈l.2.2.2.2,p.2.length<=1000000:=fun p hp=>by have:=j.wts p hp;omega
 have m:∀ {a:BM},a.length<=20->(decide (a.length<=1000000)&&GB 1&&GB 10000)=true:=fun k=>Ab (Ab (w4 ae) rfl) rfl
 have q:(decide (l.2.2.2.1.length<=1000)&&JP 1000000 l.2.2.2.1)=true:=Ab (w4 ae) hp;have b:=Ye l;have bad:∀x:Int,x≠0->KU l=x->x=Iq l:=fun x h k=>by
  unfold Iq;rw[k,wd h]
 refine zq (Ak l)<|zc rfl (zf (fun c=>zd<|i _ _ ?_)<|fun c=>zc (m a1) ?_)
 ·have c:z7 l.1=false:=by simpa using c
  rw[wd c]at b;exact bad 8 af b
 have c:¬z7 l.1=false:=by simpa using c
 rw[wc c]at b;by_cases f:BA l.2.1 1 10000=0
 ·rw[wc<|fun x=>x f]at b;refine zc (q0 f)<|zc (m a2) ?_;by_cases g:BA l.2.2.1 1 10000=0
  ·rw[wc<|fun x=>x g]at b;refine zc (q0 g) (zc q (zf (fun d=>zd<|i _ _<|bad _ (by simpa using d) b)<|fun d=>?_));have ct:BV l.2.2.2.1=0:=by simpa using d
   rw[ct]at b;obtain⟨n,_,s⟩:=Nc ct;obtain⟨p,r,hr⟩:∃p r,l.2.2.2.1=p::r:=by
    cases e:l.2.2.2.1 with
    |nil=>exact wh e n
    |cons p r=>exact⟨p,r,rfl⟩
   have t:l.2.2.2.1.getD (1-1) ([],[])=p:=by rw[hr];rfl
   have up:RL none l.2.2.2.1=RL (some p.2) r:=by rw[hr,RL]
   refine Gv _ _ _ _ _ ae (N8 s) o r 1 (by rw[hr];rfl) ae (by rw[hr,zk];omega)<|fun ob=>i _ _ ?_;rw[t, <-up];exact(wc (c:=KU l≠0)<|fun x=>x b).symm
  ·rw[wd g]at b;exact zi (q1 g)<|zc (n1 g)<|zd<|i _ _<|bad _ g b
 ·rw[wd f]at b;exact zi (q1 f)<|zi (q1 f)<|zc (n1 f)<|zd<|i _ _<|bad _ f b
end T14
end Go.Pe
namespace Go.Sp
theorem Y7{n:Int}{seen:List BM}{t:CB}{l:List CB}{o:List BM}(h:∀x,x∈o↔x∈seen):Fs n seen (t::l)=if JU t.1 o≠0 then JU t.1 o else if (t.2.length:Int)≠n then 2 else if Em t.2=true then 3 else Fs n (t.1::seen) l:=by
 rw[Fs,TR];unfold has;cases isName t.1
 ·rfl
 ·by_cases k:t.1∈o
  ·rw[w4<|(h _).1 k,wd k];rfl
  ·rw[w8<|fun x=>k<|(h _).2 x,wc k];rfl
theorem lQ{l:BT}(h:Iq l=0):isName l.1=true:=by
 cases k:isName l.1 with
 |true=>rfl
 |false=>
  have e:=Ye l;rw[wd k]at e;unfold Iq at h;rw[e,wd af]at h;exact wh h af
theorem Y0{seen:List BM}{l:BT}{r:List BT}{o:List BM}(h:∀x,x∈o↔x∈seen):LJ seen (l::r)=if Iq l≠0 then Iq l else if JU l.1 o≠0 then JU l.1 o else LJ (l.1::seen) r:=by
 rw[LJ];by_cases e:Iq l=0
 ·have a:¬Iq l≠0:=fun x=>x e
  rw[wc a,wc a,V7<|lQ e];unfold has;by_cases k:l.1∈o
  ·rw[w4<|(h _).1 k,wd k];rfl
  ·rw[w8<|fun x=>k<|(h _).2 x,wc k];rfl
 ·rw[wd e,wd e]
theorem RZ(n:Int)(r:List Int):Em (n::r)=((decide (n<1)||decide (10000<n))||Em r):=by unfold Em;rw[z6]
theorem QR{α:Type}{l:List α}:((l.length:Int)==0)=true↔l=[]:=by
 rw[wj];constructor
 ·intro h;exact List.length_eq_zero_iff.1 ae
 ·intro h;rw[h];rfl
end Go.Sp
namespace Go.Pe
open Sp
open Go.Det
open Go.Sp (AW BR BT BB Hw BM CB q0 q1 n0 n1)
theorem mB:Dg ES:=Aa T67.ok<|Aa T61.ok<|Aa T14.okM AI
theorem Ld{α:Type}{X:AT}{Q:PV->Ob->Prop}{l:List α}{m:Nat}{e:Int}{s1 s2:Ob}{t:Tr}(a:∀ob,Q (.dat i64<|if l=[]then 12 else if m<l.length then 5 else e) ob)(b:l≠[]->l.length<=m->(∀ob,Q (.dat i64 e) ob)->Ends X t Q):
  Ends X (.ite ((l.length:Int)==0) (.leaf (.dat i64 12) s1)<|.ite (decide ((l.length:Int)>(m:Int))) (.leaf (.dat i64 5) s2) t) Q:=by
 refine zf (fun c=>zd ?_)<|fun c=>zf (fun d=>zd ?_)<|fun d=>?_
 ·rw[wd<|QR.1 c]at a;exact a _
 ·have c:l≠[]:=fun x=>by rw[QR.2 x]at c;cases c
  have d:=w6 d;rw[wc c,wd ae]at a;exact a _
 ·have c:l≠[]:=fun x=>by rw[QR.2 x]at c;cases c
  have d:=w7 d;rw[wc c,wc ae]at a;exact b c ae a
namespace T16
theorem xZ(S:List BR)(j:List CB)(l:List BT)(t:l.length<=8)(m:∀x∈l,MW x=true):∀(r:List BT) (i n:Nat) (o seen:List BM),l.drop i=r->i<=l.length->n=o.length->n=i->(∀x,x∈o↔x∈seen)->(∀ob,Q (.dat i64<|LJ seen r) ob)->Ends ES (L6 n (i:Int) o S j l) Q
 |[],i,n,o,seen,h,k,e,b,g,a=>by
  have:=drop_nil h k;exact zh (EP ..) (zi (w8 ae)<|zd<|a _)
 |p::r,i,n,o,seen,h,k,e,b,g,a=>by
  obtain⟨u,w,v⟩:=drop_cons (d:=(([],[],[],[],[]):BT)) h;have s:=m p (zm<|by rw[h];exact zj ..);have y:=wn (i:=i) ae;have f:=nb (i:=i) (n:=l.length) ae;have tk:List.take n o=o:=by rw[e,yg]
  rw[Y0 g]at a;refine zh (EP ..) ?_;conv=>zeta
  rw[zg,w,y,tk];have pn:(decide (0+n<=o.length)&&true&&decide (o.length<=1000))=true:=Ab (Ab (w4 ae) rfl) (w4 ae);have q:(decide (1<=1)&&true&&decide (n=o.length)&&decide ((3*(n+1)+2000)*16<=562949953421312))=true:=Ab (Ab (Ab rfl rfl)<|w4 e) (w4 ae);refine zc (w4 ae)<|zc f<|zc s ?_;by_cases c:Iq p=0
  ·rw[wc<|fun x=>x c]at a;refine zc (q0 c)<|zc f<|zc pn<|zf (fun d=>zd ?_)<|fun d=>zc f<|zc q ?_
   ·rw[wd<|by simpa using d]at a;exact a _
   ·rw[wc<|by simpa using d]at a;exact xZ S j l t m r (i+1) (yr n 1) (o++[p.1]) (p.1::seen) v u (by rw[yb,e];rfl) (by rw[b]) (P7 g p.1) a
  ·rw[wd c]at a;exact zi (q1 c)<|zc (n1 c)<|zd<|a _
theorem Vw(S:List BR)(f:List CB)(l:List BT)(k:l.length<=8)(e:∀x∈l,MW x=true)(a:∀ob,Q (.dat i64<|LJ [] l) ob):Ends ES (L4 0 S f l) Q:=by
 cases l with
 |nil=>exact zh (CD ..)<|zi rfl (zd<|a _)
 |cons p r=>
  have s:=e p<|zj ..;have i:zr .i64 ((0:Int)+1)=((1:Nat):Int):=rfl;have h:(p::r).getD (yv 0) ([],[],[],[],[])=p:=rfl;have b:(decide ((0:Int)<=(0:Int))&&decide ((0:Int)<((p::r).length:Int)))=true:=Ab rfl (w4<|by rw[zk];omega);have g:∀x:BM,x∈([]:List BM)↔x∈([]:List BM):=fun x=>yu
  rw[Y0 g]at a;refine zh (CD ..) ?_;conv=>zeta
  rw[h,i];have j:(decide (1<=1)&&decide (0<1)&&decide ((3*1+2000)*16<=562949953421312))=true:=Ab (Ab rfl rfl) (w4 ae);refine zc (w4<|by rw[zk];omega)<|zc b<|zc s ?_;by_cases c:Iq p=0
  ·rw[wc<|fun x=>x c]at a;refine zc (q0 c)<|zc b<|zc rfl (zf (fun d=>zd ?_)<|fun d=>zc b<|zc j ?_)
   ·rw[wd<|by simpa using d]at a;exact a _
   ·rw[wc<|by simpa using d]at a;exact xZ S f (p::r) k e r 1 1 [p.1] [p.1] rfl (by rw[zk];omega) rfl rfl (fun x=>yu) a
  ·rw[wd c]at a;exact zi (q1 c)<|zc (n1 c)<|zd<|a _
theorem xG{n:Nat}{i e j:Int}{t:CB}{o:List BM}{S:List BR}{c:List CB}{V:List BT}(a:e≠0)(b:∀ob,Q (.dat i64 e) ob):Ends ES (L7 n i e j t.1 t.2 o S c V) Q:=
 zh (DT ..) (zf (fun _=>zi (q1 a)<|zc (n1 a)<|zd<|b _)<|fun _=>zc (n1 a)<|zd<|b _)
theorem sP{i e j:Int}{t:CB}{S:List BR}{c:List CB}{V:List BT}(a:e≠0)(b:∀ob,Q (.dat i64 e) ob):Ends ES (L3 i e j t.1 t.2 S c V) Q:=
 zh (Ca ..) (zf (fun _=>zi (q1 a)<|zc (n1 a)<|zd<|b _)<|fun _=>zc (n1 a)<|zd<|b _)
theorem yO{n:Nat}{i:Int}{t:CB}{o:List BM}{S:List BR}{l:List CB}{V:List BT}(e:n=o.length)(q:n<=1000)(p:t.2.length<=4611686018427387904)(b:Em t.2=true->∀ob,Q (.dat i64 3) ob)(g:Em t.2=false->Ends ES (L5 (yr n 1) (zr .i64<|i+1) (o++[t.1]) S l V) Q):∀(r:List Int) (j:Nat),t.2.drop j=r->j<=t.2.length->Em t.2=Em r->Ends ES (L7 n i 0 (j:Int) t.1 t.2 o S l V) Q
 |[],j,h,f,a=>by
  have:=drop_nil h f;refine zh (DT ..) (zi (w8 ae)<|zi rfl (zc ?_<|g a));exact Ab (Ab (Ab rfl rfl)<|w4 e) (w4 ae)
 |x::r,j,h,f,a=>by
  obtain⟨v,s,m⟩:=drop_cons (d:=(0:Int)) h;have u:=wn (i:=j) ae;have k:=nb (i:=j) (n:=t.2.length) ae;rw[RZ]at a;refine zh (DT ..) ?_;conv=>zeta
  rw[zg,s,u];refine zc (w4 ae)<|zc rfl (zc k<|zf (fun c=>?_)<|fun c=>zc k<|zf (fun d=>?_)<|fun d=>?_)
  ·rw[c,zy,zy]at a;exact xG af<|b a
  ·have d:decide (10000<x)=true:=d;rw[d,ym,zy]at a;exact xG af<|b a
  ·have d:decide (10000<x)=false:=d;rw[c,d,ya,ya]at a;exact yO e q p b g r (j+1) m v a
theorem Nn{i:Int}{t:CB}{S:List BR}{k:List CB}{V:List BT}(m:t.2.length<=4611686018427387904)(b:Em t.2=true->∀ob,Q (.dat i64 3) ob)(f:Em t.2=false->Ends ES (L5 1 (zr .i64<|i+1) [t.1] S k V) Q):∀(r:List Int) (j:Nat),t.2.drop j=r->j<=t.2.length->Em t.2=Em r->Ends ES (L3 i 0 (j:Int) t.1 t.2 S k V) Q
 |[],j,h,e,a=>by
  have:=drop_nil h e;refine zh (Ca ..) (zi (w8 ae)<|zi rfl (zc ?_<|f a));exact Ab (Ab rfl rfl) (w4 ae)
 |x::r,j,h,e,a=>by
  obtain⟨q,o,l⟩:=drop_cons (d:=(0:Int)) h;have p:=wn (i:=j) ae;have g:=nb (i:=j) (n:=t.2.length) ae;rw[RZ]at a;refine zh (Ca ..) ?_;conv=>zeta
  rw[zg,o,p];refine zc (w4 ae)<|zc rfl (zc g<|zf (fun c=>?_)<|fun c=>zc g<|zf (fun d=>?_)<|fun d=>?_)
  ·rw[c,zy,zy]at a;exact sP af<|b a
  ·have d:decide (10000<x)=true:=d;rw[d,ym,zy]at a;exact sP af<|b a
  ·have d:decide (10000<x)=false:=d;rw[c,d,ya,ya]at a;exact Nn m b f r (j+1) l q a
theorem zC(c:AW)(l:dZ c=true)(s:c.2.1.length<=8):∀(r:List CB) (i n:Nat) (o seen:List BM),c.2.1.drop i=r->i<=c.2.1.length->n=o.length->n=i->(∀x,x∈o↔x∈seen)->(∀ob,Q (.dat i64<|if Fs (c.1.length:Int) seen r≠0 then Fs (c.1.length:Int) seen r else Mi c) ob)->Ends ES (L5 n (i:Int) o c.1 c.2.1 c.2.2) Q
 |[],i,n,o,seen,h,p,e,b,g,a=>by
  have:=drop_nil h p;have a:∀ob,Q (.dat i64<|Mi c) ob:=fun ob=>by
   have:=a ob;rwa [show Fs (c.1.length:Int) seen []=0 from rfl,wc<|fun x=>x rfl]at this
  refine zh (Eu ..) (zi (w8 ae)<|Ld (m:=8) a fun _ u j=>?_);exact Vw _ _ _ u (PT l).2.2.2.2.2 j
 |t::r,i,n,o,seen,h,p,e,b,g,a=>by
  obtain⟨v,z,w⟩:=drop_cons (d:=(([],[]):CB)) h;have st:=(PT l).2.2.2.2.1 t (zm<|by rw[h];exact zj ..);have st:decide (t.2.length<=4611686018427387904)=true:=st;rw[w5]at st;have A:=wn (i:=i) ae;have q:=nb (i:=i) (n:=c.2.1.length) ae;have tk:List.take n o=o:=by rw[e,yg]
  have pn:(decide (0+n<=o.length)&&true&&decide (o.length<=1000))=true:=Ab (Ab (w4 ae) rfl) (w4 ae);rw[Y7 g]at a;refine zh (Eu ..) ?_;conv=>zeta
  rw[zg,z,tk];refine zc (w4 ae)<|zc q<|zc pn ?_;by_cases k:JU t.1 o=0
  ·have y:¬JU t.1 o≠0:=fun x=>x k
   rw[wc y]at a;refine zc (q0 k)<|zf (fun d=>?_)<|fun d=>?_
   ·have d:(t.2.length:Int)≠(c.1.length:Int):=by simpa using d
    rw[wd d,wd af]at a;exact xG af a
   ·have d:¬(t.2.length:Int)≠(c.1.length:Int):=by simpa using d
    rw[wc d]at a;rw[k];refine yO e ae st (fun f=>?_) (fun f=>?_) t.2 0 rfl (zo _) rfl
    ·rw[wd f,wd af]at a;exact a
    ·rw[wc (c:=Em t.2=true)<|by rw[f];decide]at a;rw[A];exact zC c l s r (i+1) (yr n 1) (o++[t.1]) (t.1::seen) w v (by rw[yb,e];rfl) (by rw[b]) (P7 g t.1) a
  ·rw[wd k,wd k]at a;exact zi (q1 k)<|xG k a
theorem Gd(c:AW)(e:dZ c=true)(i:c.2.1.length<=8)(a:∀ob,Q (.dat i64<|if Fs (c.1.length:Int) [] c.2.1≠0 then Fs (c.1.length:Int) [] c.2.1 else Mi c) ob):Ends ES (L2 0 c.1 c.2.1 c.2.2) Q:=by
 obtain⟨S,tt,V⟩:=c;cases tt with
 |nil=>
  have a:∀ob,Q (.dat i64<|Mi (S,[],V)) ob:=a;refine zh (AJ ..)<|zi rfl (Ld (m:=8) a fun _ j b=>?_);exact Vw _ _ _ j (PT e).2.2.2.2.2 b
 |cons t r=>
  have st:=(PT e).2.2.2.2.1 t<|zj ..;have st:decide (t.2.length<=4611686018427387904)=true:=st;rw[w5]at st;have o:zr .i64 ((0:Int)+1)=((1:Nat):Int):=rfl;have n:(t::r).getD (yv 0) ([],[])=t:=rfl;have g:(decide ((0:Int)<=(0:Int))&&decide ((0:Int)<((t::r).length:Int)))=true:=Ab rfl (w4<|by rw[zk];omega);have h:∀x:BM,x∈([]:List BM)↔x∈([]:List BM):=fun x=>yu
  have a:∀ob,Q (.dat i64<|if Fs (S.length:Int) [] (t::r)≠0 then Fs (S.length:Int) [] (t::r)else Mi (S,t::r,V)) ob:=a;rw[Y7 h]at a;show Ends ES (L2 0 S (t::r) V) Q;refine zh (AJ ..) ?_;conv=>zeta
  rw[n];refine zc (w4<|by rw[zk];omega)<|zc g<|zc rfl ?_;by_cases k:JU t.1 []=0
  ·have l:¬JU t.1 []≠0:=fun x=>x k
   rw[wc l]at a;refine zc (q0 k)<|zf (fun d=>?_)<|fun d=>?_
   ·have d:(t.2.length:Int)≠(S.length:Int):=by simpa using d
    rw[wd d,wd af]at a;exact sP af a
   ·have d:¬(t.2.length:Int)≠(S.length:Int):=by simpa using d
    rw[wc d]at a;rw[k];refine Nn st (fun f=>?_) (fun f=>?_) t.2 0 rfl (zo _) rfl
    ·rw[wd f,wd af]at a;exact a
    ·rw[wc (c:=Em t.2=true)<|by rw[f];decide]at a;rw[o];exact zC (S,t::r,V) e i r 1 1 [t.1] [t.1] rfl (by rw[zk];omega) rfl rfl (fun x=>yu) a
  ·rw[wd k,wd k]at a;exact zi (q1 k)<|sP k a
theorem Gv(c:AW)(e:dZ c=true):∀(r:List BR) (i:Nat),c.1.drop i=r->i<=c.1.length->
  (∀ob,Q (.dat i64<|if IQ r≠0 then IQ r else Q6 c) ob)->Ends ES (L1 (i:Int) c.1 c.2.1 c.2.2) Q
 |[],i,h,f,a=>by
  have:=drop_nil h f;have a:∀ob,Q (.dat i64<|Q6 c) ob:=fun ob=>by
   have:=a ob;rwa [show IQ []=0 from rfl,wc<|fun x=>x rfl]at this
  refine zh (Al ..) (zi (w8 ae)<|Ld (m:=8) a fun _ j b=>?_);exact Gd c e j b
 |p::r,i,h,f,a=>by
  obtain⟨k,n,l⟩:=drop_cons (d:=(([],[],[],[],[]):BR)) h;have s:=PT e;have sp:=s.2.2.2.1 p (zm<|by rw[h];exact zj ..);have q:=s.1;have o:=wn (i:=i) ae;rw[RF]at a;refine zh (Al ..) ?_;conv=>zeta
  rw[zg,n,o];refine zc (w4 ae) (zc (ad ae ae)<|zc sp<|zf (fun d=>zd ?_)<|fun d=>?_)
  ·have d:(KQ p !=0)=true:=d;have d:KQ p≠0:=by simpa using d
   rw[wd d,wd d]at a;exact a _
  ·have d:(KQ p !=0)=false:=d;have g:¬KQ p≠0:=by simpa using d
   rw[wc g]at a;exact Gv c e r (i+1) l k a
theorem okM:Af A9 16 Abi:=by
 refine BN mB<|fun(c:AW) b=>?_;have b:dZ c=true:=b;have d:∀ob,Ad Abi c (.dat i64<|Od c) ob:=fun ob=>zt rfl rfl rfl
 refine zq (Ak c)<|Ld (m:=36) d fun _ _ a=>?_;exact Gv c b c.1 0 rfl (zo _) a
end T16
theorem gS:Dg IB:=fun g sp h=>by cases h
end Go.Pe
namespace Go.Sp
theorem hI(p:BB)(l:List BB)(d:Int):fwP (p::l) d=((Co p.1 d&&Co p.2 d)&&fwP l d):=by unfold fwP;rw[zz]
theorem kI(p:BB)(l:List BB)(d:Int):xY (p::l) d=(Co p.2 d&&xY l d):=by unfold xY;rw[zz]
theorem Ex{s:BM}{d:Int}(h:Co s d=true)(a:d<=9):s.length<=20:=by
 unfold Co at h;simp only[ze,w5]at h;omega
theorem MN{n d:Int}(h:Zi n d=true):0<=n/\n<=8/\0<=d/\d<=9:=by
 unfold Zi at h;simp only[ze,w5]at h;omega
theorem YC{s:BR}{n d:Int}(h:Ku s n d=true)(i:Zi n d=true):Ce s=true:=by
 obtain⟨_,j,_,g⟩:=MN i;unfold Ku at h;simp only[ze,w5]at h;have a:=Ex h.1.1.1.2 g;have b:=Ex h.1.1.2 g;have c:=Ex h.1.2 g;have e:=Ex h.2 g;have f:=h.1.1.1.1;unfold Ce;rw[w4 a,w4 b,w4 c,w4 e,w4 ae];rfl
theorem ZT{l:BT}{n d:Int}(h:Fm l n d=true)(j:Zi n d=true):MW l=true:=by
 obtain⟨_,k,_,g⟩:=MN j;unfold Fm at h;simp only[ze,w5]at h;obtain⟨⟨⟨⟨⟨_,a⟩,_⟩,b⟩,c⟩,e,f⟩:=h;have s:KP l.2.2.2.1 20 20=true:=by
  unfold KP;unfold fwP at e;rw[zl]at e ⊢;intro x i;have y:=e x i;rw[ze]at y;rw[w4<|Ex y.1 g,w4<|Ex y.2 g];rfl
 have w:(l.2.2.2.2.all fun p=>decide (p.2.length<=20))=true:=by
  unfold xY at f;rw[zl]at f ⊢;exact fun x i=>w4<|Ex (f x i) g
 unfold MW;rw[w4<|Ex b g,w4<|Ex c g,w4 (p:=l.2.2.2.1.length<=70) ae,s,w];rfl
end Go.Sp
namespace Go.Pe
open Sp
open Go.Det
open Go.Sp (AW BR BT BB Hw BM CB)
theorem pB:Dg XT:=Aa T89.ok AI
namespace T90
theorem Gd(d:Int)(b:0<=d/\d<=9)(e f nx:BM)(t w:List BB)(j:w.length<=8):∀(r:List BB) (i:Nat),w.drop i=r->i<=w.length->(∀ob,Q (.bl<|xY r d) ob)->Ends XT (L2 d (i:Int) e f nx t w) Q
 |[],i,h,g,a=>by
  have:=drop_nil h g;exact zh (AJ ..) (zi (w8 ae)<|zd<|a _)
 |p::r,i,h,g,a=>by
  obtain⟨s,m,k⟩:=drop_cons (d:=(([],[]):BB)) h;have o:=wn (i:=i) ae;have l:=nb (i:=i) (n:=w.length) ae;have q:(decide (0<=d)&&decide (d<=1000))=true:=Ab (w4 b.1) (w4 ae);rw[kI]at a;refine zh (AJ ..) ?_;conv=>zeta
  rw[zg,m,o];refine zc (w4 ae)<|zc l<|zc q<|zf (fun c=>zd ?_)<|fun c=>Gd d b e f nx t w j r (i+1) k s ?_
  ·have c:Co p.2 d=false:=by simpa using c
   rw[c]at a;exact a _
  ·have c:Co p.2 d=true:=by simpa using c
   rw[c]at a;exact a
theorem Gv(d:Int)(b:0<=d/\d<=9)(g f nx:BM)(t w:List BB)(s:t.length<=8)(j:w.length<=8):∀(r:List BB) (i:Nat),t.drop i=r->i<=t.length->(∀ob,Q (.bl<|Sp.fwP r d&&xY w d) ob)->Ends XT (L1 d (i:Int) g f nx t w) Q
 |[],i,h,m,a=>by
  have:=drop_nil h m;have a:∀ob,Q (.bl<|xY w d) ob:=a;exact zh (Al ..) (zi (w8 ae)<|Gd d b g f nx t w j w 0 rfl (zo _) a)
 |p::r,i,h,m,a=>by
  obtain⟨o,u,q⟩:=drop_cons (d:=(([],[]):BB)) h;have v:=wn (i:=i) ae;have k:=nb (i:=i) (n:=t.length) ae;have l:(decide (0<=d)&&decide (d<=1000))=true:=Ab (w4 b.1) (w4 ae);rw[hI]at a;refine zh (Al ..) ?_;conv=>zeta
  rw[zg,u,v];refine zc (w4 ae)<|zc k<|zc l<|zf (fun c=>zd ?_)<|fun c=>zc k<|zc l<|zf (fun e=>zd ?_)<|fun e=>Gv d b g f nx t w s j r (i+1) q o ?_
  ·have c:Co p.1 d=false:=by simpa using c
   rw[c]at a;exact a _
  ·have e:Co p.2 d=false:=by simpa using e
   rw[e,yp]at a;exact a _
  ·have c:Co p.1 d=true:=by simpa using c
   have e:Co p.2 d=true:=by simpa using e
   rw[c,e]at a;exact a
theorem ok:Af A9 90 Zx:=by
 refine BN pB<|fun(i:BT×Int×Int) g=>?_;obtain⟨l,n,d⟩:=i;have g:Zi n d=true:=g;obtain⟨n0,n8,d0,d9⟩:=MN g;have j:∀b ob,b=Fm l n d->Ad Zx (l,n,d) (.bl b) ob:=fun b ob x=>zt rfl rfl x
 have no:∀ob,Fm l n d=false->Ad Zx (l,n,d) (.bl false) ob:=fun ob h=>j _ ob h.symm
 have k:(decide (0<=d)&&decide (d<=1000))=true:=Ab (w4 d0) (w4 ae);refine zq (Ak l n d)<|zf (fun a=>zd<|no _ ?_)<|fun a=>zf (fun b=>zd<|no _ ?_)<|fun b=>zf (fun c=>zd<|no _ ?_)<|fun c=>zc k<|zf (fun e=>zd<|no _ ?_)<|fun e=>zc k<|zf (fun f=>zd<|no _ ?_)<|fun f=>?_
 ·have a:=w6 a;unfold Fm;rw[w8 (p:=l.1.length<=30) ae];rfl
 ·have b:=w6 b;unfold Fm;rw[w8 (p:=(l.2.2.2.1.length:Int)<=n) ae];simp
 ·have c:=w6 c;unfold Fm;rw[w8 (p:=(l.2.2.2.2.length:Int)<=n) ae];simp
 ·have e:Co l.2.1 d=false:=by simpa using e
  unfold Fm;rw[e];simp
 ·have f:Co l.2.2.1 d=false:=by simpa using f
  unfold Fm;rw[f];simp
 ·have a:=w7 a;have b:=w7 b;have c:=w7 c;have e:Co l.2.1 d=true:=by simpa using e
  have f:Co l.2.2.1 d=true:=by simpa using f
  refine Gv d ⟨d0,d9⟩ _ _ _ _ _ ae ae _ 0 rfl (zo _) (fun ob=>j _ ob ?_);unfold Fm;rw[w4 (p:=l.1.length<=30) ae,w4 (p:=(l.2.2.2.1.length:Int)<=n) ae,w4 (p:=(l.2.2.2.2.length:Int)<=n) ae,e,f];rfl
end T90
theorem fY:Dg XQ:=Aa T89.ok<|Aa T90.ok<|Aa T16.okM AI
namespace T31
theorem Gd(S:List BR)(e:List CB)(V:List BT)(n d:Int)(o:Zi n d=true)(j:(∀x∈V,Fm x n d=true)->dZ (S,e,V)=true)(t:V.length<=8):∀(r:List BT) (i:Nat),V.drop i=r->i<=V.length->(∀x∈V,x∈r\/Fm x n d=true)->(∀v b ob,v=.bl b\/v=.dat .bool b->b=(r.all (fun l=>Fm l n d)&&decide (Od (S,e,V)=0))->Q v ob)->Ends XQ (L2 n d (i:Int) S e V) Q
 |[],i,h,q,g,a=>by
  have:=drop_nil h q;have m:=j (fun x f=>(g x f).resolve_left<|by simp);exact zh (AJ ..) (zi (w8 ae)<|zc m<|zd<|a _ _ _ (.inr rfl) rfl)
 |p::r,i,h,q,g,a=>by
  obtain⟨B,z,s⟩:=drop_cons (d:=(([],[],[],[],[]):BT)) h;have A:=wn (i:=i) ae;have y:=nb (i:=i) (n:=V.length) ae;rw[zz]at a;refine zh (AJ ..) ?_;conv=>zeta
  rw[zg,z,A];refine zc (w4 ae)<|zc y<|zc o<|zf (fun c=>zd<|a _ _ _ (.inl rfl) ?_)<|fun c=>Gd S e V n d o j t r (i+1) s B ?_ ?_
  ·have c:(!Fm p n d)=true:=c;have c:Fm p n d=false:=by simpa using c
   rw[c];rfl
  ·have c:(!Fm p n d)=false:=c;have c:Fm p n d=true:=by simpa using c
   intro x f;rcases g x f with k|k
   ·rcases zp.1 k with k|k
    ·exact .inr<|k▸c
    ·exact .inl k
   ·exact .inr k
  ·have c:(!Fm p n d)=false:=c;have c:Fm p n d=true:=by simpa using c
   intro v b ob w u;refine a v b ob w ?_;rw[c,yi];exact u
theorem Gv(S:List BR)(j:List CB)(V:List BT)(n d:Int)(u:Zi n d=true)(B:(∀x∈S,Ku x n d=true)->(∀x∈V,Fm x n d=true)->dZ (S,j,V)=true)(G:S.length<=8)(C:V.length<=8):∀(r:List BR) (i:Nat),S.drop i=r->i<=S.length->(∀x∈S,x∈r\/Ku x n d=true)->(∀v b ob,v=.bl b\/v=.dat .bool b->b=(r.all (fun s=>Ku s n d)&&(V.all (fun l=>Fm l n d)&&decide (Od (S,j,V)=0)))->Q v ob)->Ends XQ (L1 n d (i:Int) S j V) Q
 |[],i,h,A,w,o=>by
  have:=drop_nil h A;have m:=B (fun x g=>(w x g).resolve_left (by simp));exact zh (Al ..) (zi (w8 ae) (Gd S j V n d u m C V 0 rfl (zo _) (fun x g=>.inl g) (fun v b ob z t=>o v b ob z<|by rw[List.all_nil,yi];exact t)))
 |p::r,i,h,A,w,o=>by
  obtain⟨E,H,F⟩:=drop_cons (d:=(([],[],[],[],[]):BR)) h;obtain⟨n0,n8,d0,d9⟩:=MN u;have I:=wn (i:=i) ae;have D:=nb (i:=i) (n:=S.length) ae;have q:(decide (0<=d)&&decide (d<=1000))=true:=Ab (w4 d0) (w4 ae);rw[zz]at o;have no:Ku p n d=false->∀ob,Q (.bl false) ob:=fun h ob=>o _ _ ob (.inl rfl) (by rw[h];rfl)
  refine zh (Al ..) ?_;conv=>zeta
  rw[zg,H,I];refine zc (w4 ae) (zc D<|zf (fun a=>zd<|no ?_ _)<|fun a=>zc q<|zf (fun b=>zd<|no ?_ _)<|fun b=>zc q<|zf (fun c=>zd<|no ?_ _)<|fun c=>zc q<|zf (fun e=>zd<|no ?_ _)<|fun e=>zc q<|zf (fun f=>zd<|no ?_ _)<|fun f=>?_) 
  ·have a:=w6 a;unfold Ku;rw[w8 (p:=(p.2.2.2.2.length:Int)<=n) ae];rfl
  ·have b:Co p.1 d=false:=by simpa using b
   unfold Ku;rw[b];simp
  ·have c:Co p.2.1 d=false:=by simpa using c
   unfold Ku;rw[c];simp
  ·have e:Co p.2.2.1 d=false:=by simpa using e
   unfold Ku;rw[e];simp
  ·have f:Co p.2.2.2.1 d=false:=by simpa using f
   unfold Ku;rw[f];simp
  ·have a:=w7 a;have y:Ku p n d=true:=by
    have b:Co p.1 d=true:=by simpa using b
    have c:Co p.2.1 d=true:=by simpa using c
    have e:Co p.2.2.1 d=true:=by simpa using e
    have f:Co p.2.2.2.1 d=true:=by simpa using f
    unfold Ku;rw[w4 (p:=(p.2.2.2.2.length:Int)<=n) ae,b,c,e,f];rfl
   refine Gv S j V n d u B G C r (i+1) F E ?_ ?_
   ·intro x g;rcases w x g with k|k
    ·rcases zp.1 k with k|k
     ·exact .inr<|k▸y
     ·exact .inl k
    ·exact .inr k
   ·intro v b ob z t;refine o v b ob z ?_;rw[y,yi];exact t
theorem ok:Af A9 31 tJ:=by
 refine BN fY<|fun(i:AW×Int×Int) j=>?_;obtain⟨c,n,d⟩:=i;have j:(Zi n d&&c.2.1.all UB)=true:=j;rw[ze]at j;obtain⟨hN,hT⟩:=j;obtain⟨n0,n8,d0,d9⟩:=MN hN;have k:∀v b ob,v=.bl b\/v=.dat .bool b->b=dV c n d->Ad tJ (c,n,d) v ob:=by
  rintro v b ob (rfl|rfl) g
  ·exact zt rfl rfl g
  ·exact zt rfl rfl g
 have no:∀ob,dV c n d=false->Ad tJ (c,n,d) (.bl false) ob:=fun ob h=>k _ _ ob (.inl rfl) h.symm
 refine zq (Ak c n d)<|zf (fun a=>zd<|no _ ?_)<|fun a=>zf (fun b=>zd<|no _ ?_)<|fun b=>zf (fun e=>zd<|no _ ?_)<|fun e=>?_
 ·have a:=w6 a;unfold dV;rw[w8 (p:=(c.1.length:Int)<=n) ae];rfl
 ·have b:=w6 b;unfold dV;rw[w8 (p:=(c.2.1.length:Int)<=n) ae];simp
 ·have e:=w6 e;unfold dV;rw[w8 (p:=(c.2.2.length:Int)<=n) ae];simp
 ·have a:=w7 a;have b:=w7 b;have e:=w7 e;have l:(∀x∈c.1,Ku x n d=true)->(∀x∈c.2.2,Fm x n d=true)->dZ (c.1,c.2.1,c.2.2)=true:=fun u v=>by
   have u:c.1.all Sp.Ce=true:=zl.2 fun x f=>YC (u x f) hN
   have v:c.2.2.all MW=true:=zl.2 fun x f=>ZT (v x f) hN
   unfold dZ;rw[w4 (p:=c.1.length<=38) ae,w4 (p:=c.2.1.length<=10) ae,w4 (p:=c.2.2.length<=10) ae,u,v,hT];rfl
  refine Gv _ _ _ n d hN l ae ae _ 0 rfl (zo _) (fun x f=>.inl f) (fun v b ob m g=>k v b ob m ?_);rw[g];unfold dV;rw[w4 (p:=(c.1.length:Int)<=n) ae,w4 (p:=(c.2.1.length:Int)<=n) ae,w4 (p:=(c.2.2.length:Int)<=n) ae];rfl
end T31
section
open List Int Prod
namespace T69
def T(c:AW)(n:Int):Tr:=tree IB false 9 69<|Ae ([BX,z8 zn]) (c,n)
theorem Ak(c:AW)(n:Int):T c n=.leaf (yq [.dat i64 n,.dat i64 (↑(length<|fst<|snd c):Int)]) []:=by kernel_rfl
end T69
namespace T70
def T(c:AW)(n:Int):Tr:=tree IB false 9 70<|Ae ([BX,z8 zn]) (c,n)
theorem Ak(c:AW)(n:Int):T c n=.leaf (yq [.dat i64 n,.dat i64 (↑(length<|fst c):Int)]) []:=by kernel_rfl
end T70
namespace T73
def T(c:AW)(n:Int):Tr:=tree IB false 9 73<|Ae ([BX,z8 zn]) (c,n)
theorem Ak(c:AW)(n:Int):T c n=.leaf (yq [.dat i64 n,.dat i64 (↑(length<|snd<|snd c):Int)]) []:=by kernel_rfl
end T73
namespace T77
def T(a:Aj):Tr:=tree Acy false 9 77<|Ae ([AB]) a
theorem Ak(a:Aj):T a=let b:=((Ef<|fst a,Eg<|fst a),fst<|snd a,snd<|snd a);.ck (Sp.C5<|fst a) (.ck (zw b)<|.ck (Sp.C5 (Sp.flS b,Sp.flW b))<|.leaf (yq [.dat i64<|Ef (Sp.flS b,Sp.flW b),.dat wU<|Eg (Sp.flS b,Sp.flW b)]) []):=by kernel_rfl
end T77
namespace T78
def T(a:AG):Tr:=tree IB false 9 78<|Ae ([AY]) a
theorem Ak(a:AG):T a=.leaf (.tup [.dat i64<|fst a,.dat Sh.bool !decide (0<length (snd a))]) []:=by kernel_rfl
end T78
namespace T72
def T(c:AW)(t h:Int):Tr:=tree SG false 9 72<|Ae ([BX,z8 zn,z8 zn]) (c,t,h)
def L1(v1 v2:Int)(v3:AW)(b:BR)(c a:Int):Tr:=re ((T ([],([],[])) 0 0).L)<|Av 38 [(1,.dat i64 v1),(2,.dat i64 v2),(3,PV.BF BX v3 0),(6,.ptr 0 0),(7,PV.BF Ce b 0)] [(0,.box [.dat i64 c,.nil,.dat i64 a,.nil])] 1
theorem Ak(c:AW)(t h:Int):T c t h=.ck (decide (0<=h)&&decide (h<(↑(length<|fst c):Int))) (L1 t h c ((getD (fst c) (toNat h) ([],[],[],[],[]))) 0 0):=by kernel_rfl
def L2(v1 v2:Int)(v3:AW)(k:BR)(m d:Int)(g:Nat)(j i n:Int)(b:List Int)(c:Int)(f:List Int)(l e:Int)(o1:List Z)(h:Int)(a:Int):Tr:=re ((stepT SG<|L1 v1 v2 v3 k m d).L.L.L.L)<|Av 22 [(1,PV.fn (Go.Fn.func 55) [] []),(4,.ptr 2 0),(5,.ptr 3 0),(9,.sl 1 1 0 g none),(10,.dat i64 j),(11,.dat i64 i)] [(3,.box [.dat i64 n,.dat wU b,.dat i64 c,.dat wU f]),(2,.box [.dat i64 l,.nil,.dat i64 e,.nil]),(1,.arr false 27 yk o1),(0,.box [.dat i64 h,.nil,.dat i64 a,.nil])] 4
theorem Al(v1 v2:Int)(v3:AW)(b:BR)(c a:Int):stepT SG (L1 v1 v2 v3 b c a)=.ck (decide (0<=v1)&&decide (v1<(↑(length<|fst<|snd v3):Int))) (.ck (decide (0<=v2)&&decide (v2<(↑(length<|snd<|getD (fst<|snd v3) (toNat v1) ([],[])):Int)))<|.ck true<|.ck true<|L2 v1 v2 v3 b c a 3 3 0 0 (CT 0) 1 (CT 1) 0 0 ([fst b,fst<|snd b,fst<|snd<|snd b]) c a):=by kernel_rfl
theorem AJ(v1 v2:Int)(v3:AW)(r:BR)(o c:Int)(j:Nat)(h a m:Int)(d:List Int)(f:Int)(e:List Int)(n g:Int)(o1:List Z)(k:Int)(b:Int):stepT SG (L2 v1 v2 v3 r o c j h a m d f e n g o1 k b)=let b':=((m,d),f,e);let p:=snd<|getD (fst<|snd v3) (toNat v1) ([],[]);let q:=getD o1 (toNat a) [];let i:=((getD p (toNat v2) 0,CT<|getD p (toNat v2) 0),1,CT 1);let l:=E8 q;.di (a<h) (.ck (decide (0<=a)&&decide (a<(↑j:Int)))<|.cd (toNat a<length o1)<|.ck (EB q)<|.ck (zw b'&&zw l)<|L2 v1 v2 v3 r o c j h (zr .i64<|a+1) (UR b' l) (UD b' l) (VA b' l) (V4 b' l) n g o1 k b) (.ck (zw i&&zw b')<|.ck (Sp.C5<|fst<|Cf i b')<|.di (P0 (Cf i b')<0) (.ck true<|.leaf (yq [.dat i64 (0:Int),.dat wU<|CT 0,.dat i64 (1:Int),.dat wU<|CT 1]) [])<|.leaf (yq [.dat i64<|UR i b',.dat wU<|UD i b',.dat i64<|VA i b',.dat wU<|V4 i b']) []):=by kernel_rfl
end T72
namespace T17
def T(c:AW)(t h:Int):Tr:=tree XZ false 9 17<|Ae ([BX,z8 zn,z8 zn]) (c,t,h)
theorem Ak(c:AW)(t h:Int):T c t h=let a:=N7 c t h;.ck true (.ck true<|.ck (decide (2<=2)&&true&&(Kq c&&decide (2<=1000)))<|.ite (Kf c [(t,sO c),(h,sF c)] !=0) (.leaf (.tup [.dat yk [],.dat i64<|Kf c [(t,sO c),(h,sF c)]]) [])<|.ck (qX c t h)<|.ck (Sp.De a)<|.leaf (.tup [.dat yk<|ON a,.dat i64<|Qw a]) []):=by kernel_rfl
end T17
namespace T79
def T(c:AW)(t h l:Int):Tr:=tree mR false 9 79<|Ae ([BX,z8 zn,z8 zn,z8 zn]) (c,t,h,l)
def L1(d e f b c:Aj)(g a:Int):Tr:=re ((T ([],([],[])) 0 0 0).L.L.L.L.L.L.L)<|Av 60 [(8,.ptr 0 0),(10,PV.BF AB d 0),(11,PV.BF AB e 0),(12,PV.BF AB f 0),(13,PV.BF AB b 0),(14,PV.BF AB c 0)] [(0,.box [.dat i64 g,.nil,.dat i64 a,.nil])] 1
theorem Ak(c:AW)(t h l:Int):T c t h l=let a:=snd<|getD (snd<|snd c) (toNat l) ([],[],[],[],[]);let b':=fst<|snd<|snd<|snd<|getD (fst c) (toNat h) ([],[],[],[],[]);let b:=E8<|fst a;.ck (decide (0<=l)&&decide (l<(↑(length<|snd<|snd c):Int))) (.ck (decide (0<=h)&&decide (h<(↑(length<|fst c):Int)))<|.ck (EB b')<|.ck (qX c t h)<|.ck (EB<|fst a)<|.ck (EB<|fst<|snd a)<|.ck (zw b&&zw (E8 b'))<|L1 ((E8 b')) ((N7 c t h)) b ((E8<|fst<|snd a)) ((Cf b<|E8 b')) 0 0):=by kernel_rfl
def L2(d e f b c:Aj)(g a:Int):Tr:=re ((stepT mR<|L1 ((0,[]),(0,[])) ((0,[]),(0,[])) ((0,[]),(0,[])) ((0,[]),(0,[])) ((0,[]),(0,[])) 0 0).L.R)<|Av 60 [(8,.ptr 0 0),(10,PV.BF AB d 0),(11,PV.BF AB e 0),(12,PV.BF AB f 0),(13,PV.BF AB b 0),(14,PV.BF AB c 0)] [(0,.box [.dat i64 g,.nil,.dat i64 a,.nil])] 1
theorem Al(f b c e a:Aj)(h d:Int):stepT mR (L1 f b c e a h d)=let g:=Lh b c;.ck (Sp.De b&&Sp.De a) (.di (FN b a<=0) (.ck (zw b&&zw c)<|.ck (zw g&&zw a&&decide (Sp.vI (fst a)≠0))<|.leaf (yq [.dat i64<|yK g a,.dat wU<|yN g a,.dat i64<|yG g a,.dat wU<|zP g a]) [])<|L2 f b c e a h d):=by kernel_rfl
theorem AJ(d c a b e:Aj)(i f:Int):stepT mR (L2 d c a b e i f)=let b':=NB c e;let h:=Cf b d;let g:=Kv (Lh b' b) h;.ck (zw c&&zw e) (.ck (zw b'&&zw b)<|.ck (zw b&&zw d)<|.ck (zw (Lh b' b)&&zw h&&decide (Sp.vI (fst h)≠0))<|.ck (zw a&&zw g)<|.leaf (yq [.dat i64<|UR a g,.dat wU<|UD a g,.dat i64<|VA a g,.dat wU<|V4 a g]) []):=by kernel_rfl
end T79
namespace T18
def T(c:AW)(t h l:Int):Tr:=tree XZ false 9 18<|Ae ([BX,z8 zn,z8 zn,z8 zn]) (c,t,h,l)
def L1(v1 v2:Int)(v4:AW)(d v9:Int)(c a b:Aj):Tr:=re ((T ([],([],[])) 0 0 0).L.L.L.L.R.L.L.L.L.L)<|Av 69 [(1,.dat i64 v1),(2,.dat i64 v2),(4,PV.BF BX v4 0),(8,.dat i64 d),(9,.dat i64 v9),(12,PV.BF AB c 0),(13,PV.BF AB a 0),(14,PV.BF AB b 0)] [] 0
theorem Ak(c:AW)(t h l:Int):T c t h l=let a:=snd<|getD (snd<|snd c) (toNat l) ([],[],[],[],[]);let b':=fst<|snd<|snd<|snd<|getD (fst c) (toNat h) ([],[],[],[],[]);.ck true (.ck true<|.ck true<|.ck (decide (3<=3)&&true&&(Kq c&&decide (3<=1000)))<|.ite (Kf c [(t,sO c),(h,sF c),(l,Sp.nLv c)] !=0) (.leaf (.tup [.dat i64 (0:Int),.dat i64<|Kf c [(t,sO c),(h,sF c),(l,Sp.nLv c)]]) [])<|.ck (decide (0<=l)&&decide (l<(↑(length<|snd<|snd c):Int)))<|.ck (decide (0<=h)&&decide (h<(↑(length<|fst c):Int)))<|.ck (EB b')<|.ck (EB<|fst a)<|.ck (EB<|fst<|snd a)<|L1 t h c 0 0 ((E8 b')) ((E8<|fst a))<|(E8<|fst<|snd a)):=by kernel_rfl
def L2(b v9 a:Int):Tr:=re ((stepT XZ<|L1 0 0 ([],([],[])) 0 0 ((0,[]),(0,[])) ((0,[]),(0,[])) ((0,[]),(0,[]))).L.L.L.L.L.L.L)<|Av 69 [(8,.dat i64 b),(9,.dat i64 v9),(15,.dat i64 a)] [] 0
theorem Al(v1 v2:Int)(v4:AW)(e v9:Int)(b c a:Aj):stepT XZ (L1 v1 v2 v4 e v9 b c a)=let f:=NB (N7 v4 v1 v2) c;let b':=Cf a b;let d:=Cf f a;.ck (qX v4 v1 v2) (.ck (zw (N7 v4 v1 v2)&&zw c)<|.ck (zw f&&zw a)<|.ck (zw a&&zw b)<|.ck (zw d&&zw b'&&decide (Sp.vI (fst b')≠0))<|.ck (zw<|Kv d b')<|.ck true<|L2 e v9<|Sp.ceS<|Kv d b'):=by kernel_rfl
theorem AJ(b v9 a:Int):stepT XZ (L2 b v9 a)=.leaf (.tup [.dat i64<|imax 1 a,.dat i64 (0:Int)]) []:=by kernel_rfl
end T18
namespace T19
def T(c:AW)(t h l:Int):Tr:=tree XZ false 9 19<|Ae ([BX,z8 zn,z8 zn,z8 zn]) (c,t,h,l)
theorem Ak(c:AW)(t h l:Int):T c t h l=let a:=eU c t h l;.ck true (.ck true<|.ck true<|.ck (decide (3<=3)&&true&&(Kq c&&decide (3<=1000)))<|.ite (Kf c [(t,sO c),(h,sF c),(l,Sp.nLv c)] !=0) (.leaf (.tup [.dat yk [],.dat i64<|Kf c [(t,sO c),(h,sF c),(l,Sp.nLv c)]]) [])<|.ck (pS c t h l)<|.ck (Sp.De a)<|.leaf (.tup [.dat yk<|ON a,.dat i64<|Qw a]) []):=by kernel_rfl
end T19
end
end Go.Pe
namespace Go.Sp
theorem Z9{a:AG}(h:C5 a=true)(b: -9223372036854775808<vI a)(c:vI a<9223372036854775808):a.1=vI a:=by
 unfold C5 at h;rw[ze,yn,ze,w5,w5]at h;unfold vI at b c ⊢;by_cases e:a.2=[]
 ·rw[wd e]
 ·rw[wc e]at b c;rcases h.2 with k|⟨_,k⟩
  ·exact wh k e
  ·by_cases n:a.1<0
   ·rw[wd n]at b;omega
   ·rw[wc n]at c;omega
theorem bZ{a b m:Rat}(c:0<b)(h:m*b<a):m<a/b:=by
 refine Rat.not_le.1 fun k=>?_
 have:=Rat.mul_le_mul_of_nonneg_right k<|Rat.le_of_lt c;rw[Rat.div_mul_cancel<|yd c]at this;exact wh h<|yj.2 this
theorem bF{a b m:Rat}(c:0<b)(h:a<=m*b):a/b<=m:=by
 refine Rat.le_of_mul_le_mul_right ?_ c;rw[Rat.div_mul_cancel<|yd c];exact h
theorem fS{p h n r:Rat}(b:0<=p)(hp:p<=40000)(c:1<=h)(a:h<=10000)(d:1<=n)(hr:0<=r): -10001<GO ((p-h+n)/(n+r))/\GO ((p-h+n)/(n+r))<=40001:=by
 have s:0<n+r:=by grind
 constructor
 ·refine Zs.2<|bZ s ?_;rw[show((-10001:Int):Rat)= -10001 from rfl];grind
 ·refine T9.2<|bF s ?_;rw[show((40001:Int):Rat)=40001 from rfl];grind
theorem Aan{s:BR}{n:Int}(h:Xo s)(b:n<=10000):plV s n<=40000:=by
 have a:(n:Rat)<=((10000:Int):Rat):=Rat.intCast_le_intCast.2 b;have a:(n:Rat)<=10000:=a;have c:=h.riseB.2;have d:=h.windB.2;have e:=h.layB.2;rw[WK];split<;>grind
end Go.Sp
namespace Go.Pe
open Sp
open Go.Det
theorem AaE{f:Aj}{q:Rat}{k:Nat}(h:RS k f q)(c:k<=4000):zw (uR f)=true/\Sp.C5 (El (Ck f.1) f.2)=true/\Sp.C5 (Ck<|El (Ck f.1) f.2)=true/\Sp.vI (Ck<|El (Ck f.1) f.2)=GO q:=by
 have n:=EX.neg h.r<|h.s c;obtain⟨a,b⟩:=aM n h.z.neg c;have a:Bb (El (Ck f.1) f.2)=true:=a;have b:Sp.vI (El (Ck f.1) f.2)=(-q).floor:=b;obtain⟨a1,a2⟩:=BU a;exact⟨n.CP<|P6 h.z.neg c,a1,(Sl a1 (k:=9000) ae ae a2).1,by rw[HH,b];rfl⟩
theorem AbQ{f:Aj}{q:Rat}{k:Nat}(h:RS k f q)(e:k<=4000)(b: -9223372036854775808<GO q)(g:GO q<9223372036854775808)(a:AG)(i:a=Ck (El (Ck f.1) f.2)):a.1=GO q:=by
 obtain⟨_,_,c,d⟩:=AaE h e;rw[<-i]at c d;rw[<-d];exact Z9 c (by rw[d];exact b) (by rw[d];exact g)
theorem VS{c:AW}{t h l:Int}(k:pS c t h l=true): -10001<GO ((Fh c t h-Az (Dq c l).2.1+Az (Dq c l).2.2.1)/(Az (Dq c l).2.2.1+Az (Ct c h).2.2.2.1))/\GO ((Fh c t h-Az (Dq c l).2.1+Az (Dq c l).2.2.1)/(Az (Dq c l).2.2.1+Az (Ct c h).2.2.2.1))<=40001:=by
 obtain⟨kp,ko⟩:=WU k;have P:=Qp kp;obtain⟨L,_,_,_⟩:=XE ko;exact fS (OJ _ _) (Aan P.st P.te.2) L.lv.headB.1 L.lv.headB.2 L.lv.nextB.1 P.st.rollB.1
open Go.Sp (AW BR BT BB Hw BM)
theorem nV:Dg Acy:=Aa T137.ok<|Aa T142.ok<|Aa T143.ok AI
theorem T77.ok:Af A9 77 yS:=by
 refine BN nV<|fun(a:(Int×List Int)×(Int×List Int)) h=>?_;obtain⟨a1,a2,b,c,a0⟩:=E3 h;have n:=ZD (f:=a) h;obtain⟨b1,_,_,_,_⟩:=E3 n;exact zq (T77.Ak a)<|zc (BU a1).1<|zc n<|zc (Te b1 a0)<|zd<|zt rfl rfl rfl
theorem T78.ok:Af A9 78 jR:=by
 refine Hp (X:=IB) rfl (fun g sp h=>by cases h) (d:=9) ag ag ag (fun(a:Int×List Int) _=>?_) (Be ag);refine zq (T78.Ak a)<|zd<|zt rfl rfl ?_;show(a.1,!decide (0<a.2.length))=(a.1,decide (a.2=[]));cases a.2<;>rfl
theorem T69.ok:Af A9 69 yL:=by
 refine Hp (X:=IB) rfl (fun g sp h=>by cases h) (d:=9) ag ag ag (fun(i:AW×Int) _=>?_) (Be ag);exact zq (T69.Ak i.1 i.2)<|zd<|zt rfl rfl rfl
theorem T70.ok:Af A9 70 jP:=by
 refine Hp (X:=IB) rfl (fun g sp h=>by cases h) (d:=9) ag ag ag (fun(i:AW×Int) _=>?_) (Be ag);exact zq (T70.Ak i.1 i.2)<|zd<|zt rfl rfl rfl
theorem T73.ok:Af A9 73 Yo:=by
 refine Hp (X:=IB) rfl (fun g sp h=>by cases h) (d:=9) ag ag ag (fun(i:AW×Int) _=>?_) (Be ag);exact zq (T73.Ak i.1 i.2)<|zd<|zt rfl rfl rfl
theorem vO{i:Int}{n:Nat}(h:0<=i/\i<(n:Int)):(decide ((0:Int)<=i)&&decide (i<(n:Int)))=true:=Ab (w4 h.1)<|w4 h.2
theorem FH{s:BM}(h:Am s=0):EB s=true:=(EK (CO h).1).2.2.2.2.2.2.1
theorem wV(x y:Int):imax x y=max x y:=by
 unfold imax;split<;>omega
theorem mZ:Dg SG:=Aa T55.ok<|Aa T103.ok<|Aa T75.ok<|Aa T115.ok AI
namespace T72
theorem ok:Af A9 72 cPl:=by
 refine BN mZ<|fun(i:AW×Int×Int) hi=>?_;obtain⟨c,t,h⟩:=i;have P:=Qp hi;have z:RS 1 Sp.zF 0:=Sq;have a1:=z.add P.hr.rise af af;have a2:=a1.add P.hr.wind af af;have a3:=a2.add P.hr.lay af af;have b:=(jG P).C5;have g:0<=h/\h<((c.2.1.getD t.toNat ([],[])).2.length:Int):=by rw[P.tl];exact P.h0
 obtain⟨s,a⟩:∃s,s=Ct c h:=⟨_,rfl⟩;have fin:∀f:Aj,f=Cf (Cf (Cf Sp.zF<|E8 s.1)<|E8 s.2.1) (E8 s.2.2.1)->Ends SG (L2 t h c s 0 0 3 3 3 f.1.1 f.1.2 f.2.1 f.2.2 0 0 [s.1,s.2.1,s.2.2.1] 0 0) (Ad cPl (c,t,h)):=fun f d=>by
  have e:Cf (Sp.iF<|KW c t h) f=gC c t h:=by rw[d,a];rfl
  refine zh (AJ ..) (zi rfl (zc (by rw[a]at d;rw[<-d]at a3;exact(eH P.te).YX a3 af af)<|zc (by rw[<-e]at b;exact b)<|zf (fun s=>zc rfl (zd<|zt rfl rfl ?_))<|fun s=>zd<|zt rfl rfl ?_))
  ·have s:P0 (Cf (Sp.iF<|KW c t h) f)<0:=w6 s;rw[e]at s;show Sp.zF=N7 c t h;unfold N7;rw[wd s]
  ·have s:¬P0 (Cf (Sp.iF<|KW c t h) f)<0:=w7 s;rw[e]at s;show Cf (Sp.iF<|KW c t h) f=N7 c t h;rw[e];unfold N7;rw[wc s]
 rw[<-a]at a1 a2 a3;have s2:∀f:Aj,f=Cf (Cf Sp.zF<|E8 s.1) (E8 s.2.1)->Ends SG (L2 t h c s 0 0 3 3 2 f.1.1 f.1.2 f.2.1 f.2.2 0 0 [s.1,s.2.1,s.2.2.1] 0 0) (Ad cPl (c,t,h)):=fun f d=>by
  rw[<-d]at a2 fin;refine zh (AJ ..) (zc rfl (zc rfl (zc rfl (zc (by rw[a];exact FH P.st.lay)<|zc (a2.YX (by rw[a];exact P.hr.lay) af af) ?_))));exact fin (Cf f<|E8 s.2.2.1) rfl
 have s1:∀f:Aj,f=Cf Sp.zF (E8 s.1)->Ends SG (L2 t h c s 0 0 3 3 1 f.1.1 f.1.2 f.2.1 f.2.2 0 0 [s.1,s.2.1,s.2.2.1] 0 0) (Ad cPl (c,t,h)):=fun f d=>by
  rw[<-d]at a1 s2;refine zh (AJ ..) (zc rfl (zc rfl (zc rfl (zc (by rw[a];exact FH P.st.wind)<|zc (a1.YX (by rw[a];exact P.hr.wind) af af) ?_))));exact s2 (Cf f<|E8 s.2.1) rfl
 refine zq (Ak c t h)<|zc (vO P.h0)<|zh (Al ..)<|zc (vO P.t0)<|zc (vO g)<|zc rfl (zc rfl ?_);show Ends SG (L2 t h c (Ct c h) 0 0 3 3 0 0 (CT 0) 1 (CT 1) 0 0 [(Ct c h).1,(Ct c h).2.1,(Ct c h).2.2.1] 0 0) _;rw[<-a];refine zh (AJ ..) (zc rfl (zc rfl (zc rfl (zc (by rw[a];exact FH P.st.rise)<|zc (z.YX (by rw[a];exact P.hr.rise) af af) ?_))));exact s1 (Cf Sp.zF<|E8 s.1) rfl
end T72
theorem jV:Dg mR:=Aa T72.ok<|Aa T55.ok<|Aa T56.ok<|Aa T75.ok<|Aa T74.ok<|Aa T102.ok<|Aa T76.ok AI
structure AtA(c:AW)(t h l:Int):Prop where
 P:AtP c t h
 L:AtL c l
 kp:qX c t h=true
 ko:Sp.okO c h l=true
 h0:Az (Dq c l).2.1+Az (Ct c h).2.2.2.1≠0
 n0:Az (Dq c l).2.2.1+Az (Ct c h).2.2.2.1≠0
theorem Xp{c:AW}{t h l:Int}(k:pS c t h l=true):AtA c t h l:=by
 obtain⟨kp,ko⟩:=WU k;have P:=Qp kp;obtain⟨L,_,_,_⟩:=XE ko;have a:=P.st.rollB.1;exact⟨P,L,kp,ko,yd<|LQ L.lr.hp a,yd<|LQ L.lr.np a⟩
namespace T79
theorem ok:Af A9 79 cEf:=by
 refine BN jV<|fun(i:AW×Int×Int×Int) hi=>?_;obtain⟨c,t,h,l⟩:=i;obtain⟨P,L,kp,ko,h0,n0⟩:=Xp hi;have p:=VF P;have r:=P.hr.roll;have reach:=L.lr.head.add r af af;have a:=L.lr.next.add r af af;have d:=p.sub reach af af;have m:=d.mul L.lr.next af af;have q:=m.div a af af n0;have b:=p.mul L.lr.head af af;refine zq (Ak c t h l) (zc (vO L.l0) (zc (vO P.h0)<|zc (FH P.st.roll)<|zc kp<|zc (FH L.lv.head)<|zc (FH L.lv.next)<|zc (L.lr.head.YX r af af) ?_));refine zh (Al ..) (zc (Ab (p.De af)<|reach.De af)<|zf (fun s=>?_)<|fun s=>?_)
 ·have s:FN (N7 c t h) (Cf (GC c l)<|Ig c h)<=0:=w6 s;refine zc (p.YX L.lr.head af af) (zc (b.ok3 reach af af h0)<|zd<|zt rfl rfl ?_);show Kv (Lh (N7 c t h)<|GC c l) (Cf (GC c l)<|Ig c h)=eU c t h l;unfold eU;rw[wd s]
 ·have s:¬FN (N7 c t h) (Cf (GC c l)<|Ig c h)<=0:=w7 s;refine zh (AJ ..) (zc (p.YX reach af af)<|zc (d.YX L.lr.next af af)<|zc (L.lr.next.YX r af af)<|zc (m.ok3 a af af n0)<|zc (L.lr.head.YX q af af)<|zd<|zt rfl rfl ?_);show Cf (GC c l) (Kv (Lh (NB (N7 c t h)<|Cf (GC c l)<|Ig c h)<|Mc c l)<|Cf (Mc c l)<|Ig c h)=eU c t h l;unfold eU;rw[wc s]
end T79
theorem oI:Dg tN:=Aa T15.ok<|Aa T51.ok AI
namespace T68
theorem loop{Q:PV->Ob->Prop}{k:List BR}{o:List CB}{m:List BT}(c:AW)(l:List (Int×Int))(n:l.length<=1000)(f:∀ob,Q (.dat i64<|Cs (Td l) 10) ob):∀(r:List (Int×Int)) (i:Nat),l.drop i=r->i<=l.length->Td l=Td r->Ends tN (L1 c l l (l.length:Int) (i:Int) k o m) Q
 |[],i,h,j,e=>by
  have:=drop_nil h j;rw[e]at f;exact zh (Al ..) (zi (w8 ae)<|zc rfl (zd<|f _))
 |p::r,i,h,j,e=>by
  obtain⟨q,t,s⟩:=drop_cons (d:=((0,0):Int×Int)) h;have v:=wn (i:=i) ae;have g:Td (p::r)=(decide (p.1<0)||decide (p.2<=p.1)||Td r):=z6;have u:decide ((i:Int)>=0)=true:=w4 ae;refine zh (Al ..) ?_;conv=>zeta
  rw[zg,t,v,u];refine zc (w4 ae) (zc (Ab rfl (w4 ae))<|zf (fun a=>zc rfl (zd ?_))<|fun a=>zf (fun b=>zc rfl (zd ?_))<|fun b=>?_)
  ·rw[e,g,show decide (p.1<0)=true from a]at f;exact f _
  ·rw[e,g,show decide (p.2<=p.1)=true from b,ym]at f;exact f _
  ·exact loop c l n f r (i+1) s q (by rw[e,g,show decide (p.1<0)=false from a,show decide (p.2<=p.1)=false from b];rfl)
theorem ok:Af A9 68 TY:=by
 refine BN oI<|fun(i:AW×List (Int×Int)) a=>?_;obtain⟨c,l⟩:=i;have a:(Kq c&&decide (l.length<=1000))=true:=a;rw[ze,w5]at a;have b:∀v ob,v=Kf c l->Ad TY (c,l) (.dat i64 v) ob:=fun v ob e=>zt rfl rfl e
 refine zq (Ak c l)<|zc a.1<|zf (fun k=>zd<|b _ _ ?_)<|fun k=>?_
 ·have k:Od c≠0:=by simpa using k
  show Od c=Kf c l;unfold Kf NK;rw[wd k]
 ·have k:¬Od c≠0:=by simpa using k
  refine loop c l a.2 (fun ob=>b _ _ ?_) l 0 rfl (zo _) rfl;unfold Kf NK Cs;rw[wc k];cases Td l<;>rfl
end T68
theorem Pw:Dg XZ:=Aa T69.ok<|Aa T70.ok<|Aa T73.ok<|Aa T68.ok<|Aa T71.ok<|Aa T72.ok<|Aa T79.ok<|Aa T55.ok<|Aa T75.ok<|Aa T74.ok<|Aa T76.ok<|Aa T77.ok<|Aa T78.ok AI
theorem AeH(c:AW)(t h:Int):Kf c [(t,sO c),(h,sF c)]=QY c t h:=by
 unfold Kf Td QY dI So;rw[z6,z6,List.any_nil,Bool.or_false];rfl
theorem Adq(c:AW)(t h l:Int):Kf c [(t,sO c),(h,sF c),(l,Sp.nLv c)]=HN c t h l:=by
 unfold Kf Td HN dI So kS;rw[z6,z6,z6,List.any_nil,Bool.or_false];rfl
theorem T17.ok:Af A9 17 Zk:=by
 refine BN Pw<|fun(i:AW×Int×Int) a=>?_;obtain⟨c,t,h⟩:=i;have a:Kq c=true:=a;refine zq (T17.Ak c t h) ?_;conv=>zeta
 rw[AeH];refine zc rfl (zc rfl (zc (Ab rfl (Ab a rfl))<|zf (fun k=>zd<|zt rfl rfl ?_)<|fun k=>?_))
 ·have k:QY c t h≠0:=by simpa using k
  show(([]:BM),QY c t h)=(Ue c t h,xF c t h);unfold Ue xF jH pC;rw[wd k,wd k]
 ·have k:QY c t h=0:=by simpa using k
  have kp:qX c t h=true:=Ab a<|w4 k;have p:=VF<|Qp kp;exact zc kp (zc (p.De af)<|zd<|zt rfl rfl (xV p k))
theorem T19.ok:Af A9 19 Ab7:=by
 refine BN Pw<|fun(i:AW×Int×Int×Int) a=>?_;obtain⟨c,t,h,l⟩:=i;have a:Kq c=true:=a;refine zq (T19.Ak c t h l) ?_;conv=>zeta
 rw[Adq];refine zc rfl (zc rfl (zc rfl (zc (Ab rfl (Ab a rfl))<|zf (fun k=>zd<|zt rfl rfl ?_)<|fun k=>?_)))
 ·have k:HN c t h l≠0:=by simpa using k
  show(([]:BM),HN c t h l)=(U6 c t h l,xH c t h l);unfold U6 xH jH pC;rw[wd k,wd k]
 ·have k:HN c t h l=0:=by simpa using k
  have kp:pS c t h l=true:=Ab a<|w4 k;have p:=yD kp;exact zc kp (zc (p.De af)<|zd<|zt rfl rfl (xV p k))
theorem T18.ok:Af A9 18 yB:=by
 refine BN Pw<|fun(i:AW×Int×Int×Int) b=>?_;obtain⟨c,t,h,l⟩:=i;have b:Kq c=true:=b;refine zq (T18.Ak c t h l) ?_;conv=>zeta
 rw[Adq];refine zc rfl (zc rfl (zc rfl (zc (Ab rfl (Ab b rfl))<|zf (fun k=>zd<|zt rfl rfl ?_)<|fun k=>?_)))
 ·have k:HN c t h l≠0:=by simpa using k
  show((0:Int),HN c t h l)=(Ug c t h l,HN c t h l);unfold Ug;rw[wd k]
 ·have k:HN c t h l=0:=by simpa using k
  have kp:pS c t h l=true:=Ab b<|w4 k;obtain⟨P,L,f,ko,h0,n0⟩:=Xp kp;have p:=VF P;have r:=P.hr.roll;have g:=L.lr.next.add r af af;have d:=p.sub L.lr.head af af;have a:=d.add L.lr.next af af;have q:=a.div g af af n0;have j:=VS kp;have e:=AbQ q af ae ae _ rfl;refine zc (vO L.l0)<|zc (vO P.h0)<|zc (FH P.st.roll)<|zc (FH L.lv.head)<|zc (FH L.lv.next) ?_;refine zh (T18.Al ..) (zc f<|zc (p.YX L.lr.head af af)<|zc (d.YX L.lr.next af af)<|zc (L.lr.next.YX r af af)<|zc (a.ok3 g af af n0)<|zc (q.CP af)<|zc rfl ?_);refine zh (T18.AJ ..)<|zd<|zt rfl rfl ?_;show(imax 1 (Ck<|El (Ck (Kv (Cf (NB (N7 c t h)<|GC c l)<|Mc c l)<|Cf (Mc c l)<|Ig c h).1) (Kv (Cf (NB (N7 c t h)<|GC c l)<|Mc c l)<|Cf (Mc c l)<|Ig c h).2).1,(0:Int))=(Ug c t h l,HN c t h l);rw[k];unfold Ug Nl Jf;rw[wc (by rw[k];decide),wV];exact wi (fun x=>(max 1 x,(0:Int))) e
end Go.Pe
namespace Go.Sp
theorem Hv{s:Z}(h:Am s=0)(a:s.length<=20):Nu 20 s (Az s):=V2 h a af
end Go.Sp
namespace Go.Pe
open Sp
open Go.Det
open Go.Sp (AW BR BT BB Hw BM)
structure HoN(c:AW)(t h:Int):Prop where
 rise:Sp.Nu 20 (Ct c h).1 (Az (Ct c h).1)
 wind:Sp.Nu 20 (Ct c h).2.1 (Az (Ct c h).2.1)
 lay:Sp.Nu 20 (Ct c h).2.2.1 (Az (Ct c h).2.2.1)
 roll:Sp.Nu 20 (Ct c h).2.2.2.1 (Az (Ct c h).2.2.2.1)
 te:Sp.Nu 5 (Ww (KW c t h)) (KW c t h:Rat)
 pl:Sp.Nu 70 (Ad9 c t h) (Fh c t h)
theorem Ael{c:AW}{h:Int}(co:WX c)(sh:Kq c=true)(h0:0<=h/\h<(c.1.length:Int)):Sp.Ce (Ct c h)=true:=by
 refine(Ss co sh ?_).2;unfold So Kk;rw[w8 ae,w8 ae];rfl
theorem AaM{c:AW}{t h:Int}(P:AtP c t h):HoN c t h:=by
 have s:=P.sh;obtain⟨b,d,a,e,_⟩:=Oh<|Ael P.co s P.h0;exact⟨Hv P.st.rise b,Hv P.st.wind d,Hv P.st.lay a,Hv P.st.roll e,TB (by have:=P.te;omega) af,⟨rfl,(VF P).z⟩⟩
structure LvN(c:AW)(l:Int):Prop where
 head:Sp.Nu 20 (Dq c l).2.1 (Az (Dq c l).2.1)
 next:Sp.Nu 20 (Dq c l).2.2.1 (Az (Dq c l).2.2.1)
theorem AaG{c:AW}{l:Int}(L:AtL c l):LvN c l:=⟨Hv L.lv.head L.ls.head,Hv L.lv.next L.ls.next⟩
section
open List Int Prod
namespace T21
def T(i n:Int):Tr:=tree IB false 9 21<|Ae ([z8 zn,z8 zn]) (i,n)
theorem Ak(i n:Int):T i n=.di (i<0) (.leaf (.bl true) []) (.leaf (.dat Sh.bool<|decide (i>=n)) []):=by kernel_rfl
end T21
end
open Go.Sp (AW BR BT BB Hw BM CB q0 q1 n0 n1)
theorem yY{s:Sh}{sz id:Nat}{ob:Ob}{fz:Bool}{t:TypeId}{o:List s.T}(b:s.sz=sz)(a:AP ob id=some (.arr fz t s o)):BS ⟨0,.leaf,ob,0⟩ (.sl id sz 0 o.length none)=some (true,.dat (.list s) o):=by
 subst b;unfold BS AL.obj;simp only[a,Nat.beq_refl,we];simp
theorem AbE{b a nx:BM}{t w:List BB}{n id:Nat}{ob:Ob}{fz:Bool}{ty:TypeId}(e:AP ob id=some (.arr fz ty CS w))(f:n=w.length):Ew ⟨0,.leaf,ob,0⟩ CF (.agg [.dat .str b,.dat .str a,.dat .str nx,.dat (.list CS) t,.sl id 2 0 n none])=some (true,(b,a,nx,t,w)):=by
 subst f;have h:BS ⟨0,.leaf,ob,0⟩ (.sl id 2 0 w.length none)=some (true,.dat (.list CS) w):=yY (s:=CS) (sz:=2) rfl e;have g:Dj ⟨0,.leaf,ob,0⟩ (PV.cells<|.agg [.dat .str b,.dat .str a,.dat .str nx,.dat (.list CS) t,.sl id 2 0 w.length none])=some (true,[.dat .str b,.dat .str a,.dat .str nx,.dat (.list CS) t,.dat (.list CS) w]):=by
  show(match some (true,PV.dat yk b),(match some (true,PV.dat yk a),(match some (true,PV.dat yk nx),(match some (true,PV.dat (.list CS) t),(match BS ⟨0,.leaf,ob,0⟩ (.sl id 2 0 w.length none),some (true,[])with|some (c,x),some (d,xs)=>some (c&&d,x::xs)|_,_=>none)with|some (c,x),some (d,xs)=>some (c&&d,x::xs)|_,_=>none)with|some (c,x),some (d,xs)=>some (c&&d,x::xs)|_,_=>none)with|some (c,x),some (d,xs)=>some (c&&d,x::xs)|_,_=>none)with|some (c,x),some (d,xs)=>some (c&&d,x::xs)|_,_=>none)=_;rw[h];rfl
 unfold Ew;rw[g];rfl
theorem Aac{b a nx:BM}{t w:List BB}{n id:Nat}{ob:Ob}{fz:Bool}{ty:TypeId}(c:AP ob id=some (.arr fz ty CS w))(d:n=w.length):Ik [CF] (.agg [.dat .str b,.dat .str a,.dat .str nx,.dat (.list CS) t,.sl id 2 0 n none]) ob=some (true,(b,a,nx,t,w)):=AbE c d
theorem Adi{n m:Nat}(h:n=m)(a:n<=4398046511104):(decide (1<=1)&&true&&decide (n=m)&&decide ((3*(n+1)+2000)*32<=562949953421312))=true:=Ab (Ab (Ab rfl rfl)<|w4 h) (w4 ae)
namespace T12
theorem Gd(g f nx:BM)(t w:List BB)(k m l:BM)(s:w.length<=4398046511104):∀(r:List BB) (i n:Nat) (o:List BB),w.drop i=r->i<=w.length->n=o.length->o=w.take i->n=i->Ends IB (L2 (i:Int) o g f nx t n k m l g f nx t w) (Ad iB (g,f,nx,t,w))
 |[],i,n,o,h,q,c,b,a=>by
  have e:=drop_nil h q;have b:o=w:=by rw[b,e,yg]
  subst b;exact zh (AJ ..) (zi (w8 ae)<|zd<|zt (Aac rfl c) rfl rfl)
 |p::r,i,n,o,h,q,c,b,a=>by
  have t2:=Sp.Dh h;obtain⟨u,x,v⟩:=drop_cons (d:=(([],[]):BB)) h;have y:=wn (i:=i) ae;have j:=nb (i:=i) (n:=w.length) ae;refine zh (AJ ..) ?_;conv=>zeta
  rw[zg,x,y];refine zc (w4 ae) (zc j<|zc j<|zc (Adi c ae) ?_);exact Gd g f nx t w k m l s r (i+1) (yr n 1) (o++[p]) v u (by rw[yb,c];rfl) (by rw[t2,b]) (by rw[a])
theorem ok:Af A9 12 iB:=by
 refine BN gS<|fun(l:BT) hi=>?_;obtain⟨d,b,nx,t,w⟩:=l;have a:decide (w.length<=4398046511104)=true:=hi;have a:=w6 a;refine zq (Ak (d,b,nx,t,w)) ?_;conv=>zeta
 cases w with
 |nil=>exact zh (Al ..)<|zi rfl (zd<|zt rfl rfl rfl)
 |cons p r=>
  have f:zr .i64 ((0:Int)+1)=((1:Nat):Int):=rfl;have e:(p::r).getD (yv 0) ([],[])=p:=rfl;have c:(decide ((0:Int)<=(0:Int))&&decide ((0:Int)<((p::r).length:Int)))=true:=Ab rfl (w4<|by rw[zk];omega);refine zh (Al ..) ?_;conv=>zeta
  show Ends IB (.ite (decide ((0:Int)<((p::r).length:Int))) _ _) _;rw[e,f];refine zc (w4<|by rw[zk];omega) (zc c<|zc c<|zc (Ab (Ab rfl rfl)<|w4 ae) ?_);exact Gd d b nx t (p::r) [] [] [] a r 1 1 [p] rfl (by rw[zk];omega) rfl rfl rfl
end T12
end Go.Pe
