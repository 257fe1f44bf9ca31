import Derived.Test.YtbmofcgiokkikaaGreatDoorX07
/- A part of a proof; no law is stated here. -/
noncomputable section
open Nat renaming le_refl -> zc, eq_of_beq_eq_true -> ze, beq -> zg, ble -> zi, mul_le_mul_right -> zj, ble_eq_true_of_le -> zn, blt -> zp, succ_mul -> zu, add_mul -> z6, zero_mul -> z7, min_eq_left -> ya, lt_succ_self -> yb, mul_one -> yp
open List renaming mem_singleton -> zd, replicate -> zl, length_eq_zero_iff -> zo, all_eq_true -> zq, drop_eq_getElem_cons -> zr, replicate_succ -> zw, length_replicate -> zy, getElem?_range -> yd, drop_zero -> ye, flatten_cons -> yf, ext_getElem? -> yg, getElem?_map -> yh, getElem_cons_zero -> ym, take_of_length_le -> yn, length_map -> yo, all_cons -> yr, map_cons -> yt
open Bool renaming and_eq_true -> zf, and_true -> yc, and_self -> yi
open Option.some renaming injEq -> zh
open Option renaming map_eq_some_iff -> zk, map_some -> zt, getD_some -> yj
open Go.Pe.OK renaming pure -> zm
open List.cons renaming injEq -> zx
open Go.Pe.Le renaming refl -> zz
open Prod.mk renaming injEq -> z8
open Int renaming eq_ofNat_of_zero_le -> yk
open Go.Pe renaming apart -> yq, Cx -> yv
open Go.Det.V renaming beq -> yu
namespace Go.Pe
open Go.Det
section
variable {B:Nat}{h0:H0}{F:Fz}{ρ:EA}{N:Nat}{C:Ctx}{st st':AQ}{fr:Fr}{h:H}
theorem MR.len{ks vs:Sh}{l:List (ks.T×vs.T)}{es:List (V×V×Nat)}(h:MR F ks vs l es):l.length=es.length:=by
 induction h with
 |nil=>rfl
 |cons _ _ _ a=>simp[a]
theorem Ac3(hr:SR B h0 F ρ st.nx st.ob h){ts:Array TypeId}{ps:List PV}{xs:List V}(d:BJ F ρ st.nx ps xs){v:PV}(c:(Vr C.T ts ps st).To v st'):OK B h0 F ρ st h [] (BU h<|GK C.T h ts xs) v st':=by
 unfold Vr at c;split at c
 case h_2=>simp at c
 rename_i t p a;simp only[BJ]at d;obtain⟨x,g,rfl,d,rfl⟩:=d;split at c
 case h_6=>simp at c
 case h_1=>
  rename_i s e;simp only[Bj]at c;obtain⟨rfl,rfl⟩:=c;obtain rfl:=FX d;exact zm hr (by simp only[GK,a,e,BU];rfl)<|DI _ _
 case h_2=>
  rename_i s l e;simp only[Bj]at c;obtain⟨rfl,rfl⟩:=c;simp only[PR,DC]at d;obtain⟨u,hu1,d⟩:=d;obtain rfl:x=u:=by simpa using hu1
  rcases d with⟨rfl,rfl|rfl|rfl⟩|⟨b,off,cap,o,j,rfl,_⟩
  ·exact zm hr (by simp only[GK,a,e,BU];rfl)<|DI _ _
  ·exact zm hr (by simp only[GK,a,e,BU];rfl)<|DI _ _
  ·exact zm hr (by simp only[GK,a,e,BU];rfl)<|DI _ _
  ·exact zm hr (by simp only[GK,a,e,BU];rfl)<|DI _ _
 case h_3=>
  rename_i id sz off len cap e;cases f:IU (st.obj id)with
  |false=>rw[f]at c;simp at c
  |true=>
   rw[f]at c;simp only[we,Bj]at c;obtain⟨rfl,rfl⟩:=c;obtain⟨b,n,h1⟩:=hr.live f;simp only[PR]at d;rcases d.2 b n h1 with⟨_,_,o,_,rfl⟩|⟨rfl,_,_,rfl|⟨_,rfl,_⟩⟩
   ·exact zm hr (by simp only[GK,a,e,BU];rfl)<|DI _ _
   ·exact zm hr (by simp only[GK,a,e,BU];rfl)<|DI _ _
   ·exact zm hr (by simp only[GK,a,e,BU];rfl)<|DI _ _
 case h_4=>
  rename_i e;simp only[Bj]at c;obtain⟨rfl,rfl⟩:=c;simp only[PR]at d;subst d;exact zm hr (by simp only[GK,a,e,BU];rfl)<|DI _ _
 case h_5=>
  rename_i id e;split at c
  case h_2=>simp at c
  rename_i ks vs l i;simp only[Bj]at c;obtain⟨rfl,rfl⟩:=c;obtain⟨b,n,y,h1,h2,⟨es,clk,rfl,h3⟩,_⟩:=hr.at i;simp only[PR]at d;obtain rfl:=d.2 b n h1;have f:l.length=es.length:=h3.len;refine zm hr (v':=i64 es.length) (by simp only[GK,a,e,h2,BU]) ?_;rw[<-f];exact DI _ _
theorem Afh(hr:SR B h0 F ρ st.nx st.ob h){ts:Array TypeId}{ps:List PV}{xs:List V}(a:BJ F ρ st.nx ps xs){v:PV}(b:(yY C.T ts ps st).To v st'):OK B h0 F ρ st h [] (BU h<|GK C.T h ts xs) v st':=Ac3 hr a.lz b
theorem Ae9(hr:SR B h0 F ρ st.nx st.ob h){f:Int->Int->Int}{g:V->V->Option V}(q:∀k x y,g (.int k x) (.int k y)=some (.int k<|f x y)){ps:List PV}{xs:List V}(b:BJ F ρ st.nx ps xs){v:PV}
  (c:(O0 f ps st).To v st'):OK B h0 F ρ st h [] (BU h<|Hf g xs) v st':=by
 have key:∀(ps:List PV) (xs:List V) (k:IntKind) (x z:Int),BJ F ρ st.nx ps xs->pmm f k x ps=some z->dfold g (.int k x) xs=some (.int k z):=by
  intro ps;induction ps with
  |nil=>intro xs k x z b a;simp at b;subst b;simp only[pmm,zh]at a;subst a;rfl
  |cons p ps r=>
   intro xs k x z b a;simp only[BJ]at b;obtain⟨u,j,rfl,i,l⟩:=b;unfold pmm at a;split at a
   case h_1=>rename_i e;cases e
   case h_2=>
    rename_i e;cases e;rename_i m y;cases d:(k==m)with
    |false=>rw[d]at a;cases a
    |true=>
     rw[d]at a;have d:=wj.1 d;subst d;obtain rfl:=C5 i;simp only[dfold,q];exact r j k _ z l a
   case h_3=>cases a
 unfold O0 at c;split at c
 case h_2=>simp at c
 rename_i k x o;split at c
 case h_2=>simp at c
 rename_i z a;simp only[Bj]at c;obtain⟨rfl,rfl⟩:=c;simp only[BJ]at b;obtain⟨u,j,rfl,i,l⟩:=b;obtain rfl:=C5 i;exact zm hr (v':=.int k z) (by simp only[Hf,key o j k x z l a,BU])<|DI _ _
theorem OK.new(hr:SR B h0 F ρ st.nx st.ob h){o:Obj}{x:O}{n:Nat}(a:o.frozen=false)(d:aI F (BI ρ st.nx<|some (h.nx,n)) (st.nx+1) n o x){v:PV}{v':V}
  (c:PR F (BI ρ st.nx<|some (h.nx,n)) (st.nx+1) v v'):OK B h0 F ρ st h [] (FQ<|some (v',h.push x)) v (st.push o):=by
 refine⟨v',h.push x,F,_,.inl rfl,c,hr.push a d,Le.new _,rfl,rfl,Nat.le_succ _,fun b e=>.inl ?_⟩;rw[H.Ce,wc ae]
theorem LV{n:Nat}:PR F (BI ρ N<|some (h.nx,n)) (N+1) (.ptr N 0) (.ptr h.nx 0):=by
 unfold PR;exact⟨yb _,fun b m a=>by simp[BI]at a;rw[a.1]⟩
theorem Aca{F:Fz}:∀ {s:Sh} {v:V},isZ s v=true->DC F s s.Iq [v]
 | .bool,.bool b,h=>by
  have:b=false:=by simpa [isZ]using h
  subst this;simp[DC,Sh.Iq]
 | .int k,.int a n,h=>by
  unfold isZ at h;rw[zf,w5,w5]at h;obtain⟨rfl,rfl⟩:=h;simp[DC,Sh.Iq]
theorem vH{T:Cg}{t:TypeId}{s:Sh}{n:Nat}(h:Acj T t=some (s,n)):∃i,T.inf t=some i/\n=i.zero.length/\(∀v∈i.zero,isZ s v=true)/\s.sz=1:=by
 unfold Acj at h;split at h
 case h_2=>cases h
 rename_i i e c;split at h
 case h_2=>cases h
 rename_i d a;cases b:(zi 32 (Det.EY i.zero)&&Det.Mz (isZ d) i.zero)with
 |false=>rw[b]at h;cases h
 |true=>
  rw[b]at h;cases h;rw[zf,Gf]at b;refine⟨i,c,Dw ..,zq.1 b.2,?_⟩;unfold zsh at a;split at a<;>first|(cases a;rfl)|cases a
theorem AaH(hr:SR B h0 F ρ st.nx st.ob h){t:TypeId}{v:PV}(c:(UC t C.T st).To v st'):OK B h0 F ρ st h [] (FQ<|Ho C.T h t) v st':=by
 unfold UC pS at c;split at c
 case h_1=>
  rename_i s n g;simp only[Bj]at c;obtain⟨rfl,rfl⟩:=c;obtain⟨i,f,rfl,hall,hs⟩:=vH g;have:Ho C.T h t=some (.ptr h.nx 0,h.push<|.cells i.zero t (0,0)):=by simp[Ho,f,Ja]
  rw[this];refine OK.new hr (o:=.arr false t s<|zl i.zero.length s.Iq) (n:=i.zero.length) rfl ⟨_,_,rfl,⟨by rw[zy,hs,yp],fun j k=>?_⟩,zc _,zy ..⟩ LV;have d:j<i.zero.length:=by simpa using k
  have:=hall i.zero[j]<|List.getElem_mem d;rw[List.getElem_replicate,hs,yp,zr d];exact Aca this
 split at c
 case h_2=>exact wh c (by simp)
 rename_i cs a;rw[Option.bind_eq_some_iff]at a;obtain⟨i,f,a⟩:=a;cases b:Mz V.ok i.zero with
 |false=>rw[b]at a;cases a
 |true=>
 rw[b]at a;cases a;rw[Gf]at b;simp only[Bj]at c;obtain⟨rfl,rfl⟩:=c;have:Ho C.T h t=some (.ptr h.nx 0,h.push<|.cells i.zero t (0,0)):=by simp[Ho,f,Ja]
 rw[this];cases Abe C.T t with
 |true=>exact OK.new hr (o:=.tbox t<|i.zero.map Yg) (n:=0) rfl ⟨_,_,rfl,ET _,zc _,fun u e=>zq.1 b u e⟩ LV
 |false=>exact OK.new hr (o:=.box<|i.zero.map Yg) (n:=0) rfl ⟨_,_,_,rfl,ET _,zc _,fun u e=>zq.1 b u e⟩ LV
theorem AeF(hr:SR B h0 F ρ st.nx st.ob h){t:TypeId}{p:PV}{x:V}(b:PR F ρ st.nx p x){cs:List PV}(a:pcs st p=some cs)(d:cs.all (KP st)=true):OK B h0 F ρ st h [] (FQ<|some<|fB h t x) (.ptr st.nx 0) (st.push<|.box cs):=
 OK.new hr (o:=.box cs) (n:=0) rfl ⟨_,_,_,rfl,(Pg hr b a).mono<|Le.new _,zc _,fun u c=>V.NC<|zq.1 (Lt hr d<|Pg hr b a) u c⟩ LV
theorem Kr(hr:SR B h0 F ρ st.nx st.ob h){place:Nat->Option (Nat×Nat)}:∀ {l:List (Nat×PV)} {l':List (Nat×V)},PRn F ρ st.nx l l'->∀ {cs:List PV} {xs:List V},BJ F ρ st.nx cs xs->∀ {out:List PV},S2 st place cs l=some out->
  ∃g,Je place xs l'=some g/\BJ F ρ st.nx out g:=by
 intro l l' k;induction k with
 |nil=>intro cs xs b out a;cases a;exact⟨xs,rfl,b⟩
 |@cons i p v l l' hp _ m=>
  intro cs xs b out a;unfold S2 at a;unfold Je;split at a
  case h_1=>cases a
  rename_i off size f;split at a
  case h_2=>cases a
  rename_i vs e;cases c:(zg (Det.EY vs) size&&zi (Nat.add off size) (Det.EY cs))with
  |false=>rw[c]at a;cases a
  |true=>
   rw[c]at a;have j:=Pg hr hp e;rw[Dw,Dw,j.len,b.len]at c;have d:(zg v.cells.length size&&zi (off+size) xs.length)=true:=c;rw[f];simp only[d,we];have:=j.CN off b;rw[Kj v.cells]at this;exact m this a
theorem Aad(hr:SR B h0 F ρ st.nx st.ob h){t:TypeId}{l:List (Nat×PV)}{l':List (Nat×V)}(g:PRn F ρ st.nx l l'){v:PV}(k:(ov st<|Xx C.T st t l).To v st'):OK B h0 F ρ st h [] (BU h<|Lf C.T t l') v st':=by
 simp only[SC]at k;obtain⟨a,rfl⟩:=k;unfold Xx at a;split at a
 case h_3=>cases a
 case h_1=>
  rename_i i fs d c;split at a
  case h_2=>cases a
  rename_i pl b;rw[zk]at a;obtain⟨out,f,rfl⟩:=a;obtain⟨ys,g1,g2⟩:=Kr hr g (ET i.zero) f;exact zm hr (v':=.agg ys) (by simp only[Lf,d,c,b,g1,zt,BU]) (by unfold PR;exact⟨_,rfl,g2⟩)
 case h_2=>
  rename_i i o e d c;split at a
  case h_2=>cases a
  rename_i j m;rw[zk]at a;obtain⟨out,f,rfl⟩:=a;obtain⟨ys,g1,g2⟩:=Kr hr g (ET i.zero) f;exact zm hr (v':=.agg ys) (by simp only[Lf,d,c,m,g1,zt,BU]) (by unfold PR;exact⟨_,rfl,g2⟩)
theorem Lh(z:List V):∀n,BJ F ρ N (K1 (z.map Yg) n)<|(zl n z).flatten
 |0=>by simp[K1]
 |n+1=>by
  simp only[K1,zw,yf];exact(ET z).append<|Lh z n
theorem HW(z:List V):∀n,F6 z (n*z.length)=(zl n z).flatten:=by
 intro n;apply yg;intro i;unfold F6;by_cases e:z.length=0
 ·have:z=[]:=zo.1 e;subst this;have:(zl n ([]:List V)).flatten=[]:=by induction n with|zero=>rfl|succ n d=>simp[zw]
  rw[this];simp
 ·have c:0<z.length:=Nat.pos_of_ne_zero e;induction n generalizing i with
  |zero=>simp
  |succ n d=>
   rw[zw,yf];by_cases a:i<z.length
   ·rw[List.getElem?_append_left a,yh,yd<|by rw[zu];omega];simp only[zt,Nat.mod_eq_of_lt a];simp[List.getD_eq_getElem?_getD,a]
   ·rw[List.getElem?_append_right ae, <-d (i-z.length)];rw[yh,yh];by_cases b:i<(n+1)*z.length
    ·rw[yd b,yd<|by rw[zu]at b;omega];simp only[zt];rw[Nat.mod_eq_sub_mod ae]
    ·rw[List.getElem?_eq_none (by simp;omega),List.getElem?_eq_none<|by simp;rw[zu]at b;omega]
theorem PU{sz n:Nat}{o:Nat}(c:o=0\/o=sz):PR F (BI ρ N<|some (h.nx,n)) (N+1) (.sl N sz 0 n none) (.sl h.nx 0 n n o):=by
 unfold PR;refine⟨yb _,fun b m a=>.inl ?_⟩;simp[BI]at a;obtain⟨rfl,rfl⟩:=a;exact⟨zc _,by show 0+n<=n;omega,o,c,by rw[z7];rfl⟩
theorem Nl{place:Nat->Option (Nat×Nat)}:∀ {l:List (Nat×V)} {xs a:List V},Je place xs l=some a->a.length=xs.length
 |[],xs,a,h=>by cases h;rfl
 |(i,v)::l,xs,a,h=>by
  unfold Je at h;split at h
  ·cases h
  ·rename_i off size _;cases b:(zg v.cells.length size&&zi (off+size) xs.length)with
   |false=>rw[b]at h;cases h
   |true=>
    rw[b]at h;rw[Nl h,Jy]
end
section
variable {B:Nat}{h0:H0}{F:Fz}{ρ:EA}{N:Nat}{C:Ctx}{st st':AQ}{fr:Fr}{h h':H}
theorem Ez.nil{s:Sh}:Ez F s [] []:=⟨by simp,fun i a=>by simp at a⟩
theorem Ez.cons{s:Sh}{x:s.T}{l:List s.T}{a b:List V}(c:DC F s x a)(d:Ez F s l b):Ez F s (x::l) (a++b):=by
 refine⟨by rw[List.length_append,c.len,d.1,List.length_cons,zu];omega,fun i f=>?_⟩;cases i with
 |zero=>
  simp only[z7,ye,ym];rw[<-c.len,List.take_left];exact c
 |succ i=>
  have e:(a++b).drop ((i+1)*s.sz)=b.drop (i*s.sz):=by
   rw[zu,Nat.add_comm,GB, <-c.len,List.drop_left]
  rw[e];exact d.2 i (by simpa using f)
theorem Ez.pX{s:Sh}{x:s.T}{l:List s.T}{cs:List V}(h:Ez F s (x::l) cs):∃a b,cs=a++b/\DC F s x a/\Ez F s l b:=by
 have h0:=h.2 0 (by simp);simp only[z7,ye,ym]at h0;refine⟨cs.take s.sz,cs.drop s.sz,(List.take_append_drop _ _).symm,h0,?_,fun i c=>?_⟩
 ·rw[List.length_drop,h.1,List.length_cons,zu];omega
 ·have:=h.2 (i+1) (by simpa using c);rw[<-GB,Nat.add_comm, <-zu];exact this
theorem Ez.append{s:Sh}:∀ {l m:List s.T} {a b:List V},Ez F s l a->Ez F s m b->Ez F s (l++m) (a++b)
 |[],m,a,b,h,h'=>by
  have:a=[]:=zo.1 (by rw[h.1];simp);subst this;simpa using h'
 |x::l,m,a,b,h,h'=>by
  obtain⟨c,d,rfl,e,f⟩:=h.pX;rw[List.append_assoc,List.cons_append];exact Ez.cons e<|f.append h'
theorem Ez.replicate{s:Sh}{z:s.T}{c:List V}(a:DC F s z c):∀n,Ez F s (zl n z)<|(zl n c).flatten
 |0=>Ez.nil
 |n+1=>by
  rw[zw,zw,yf];exact Ez.cons a<|Ez.replicate a n
theorem Ez.Ul{s:Sh}:∀ {l:List s.T} {a:List V},Ez F s l a->a.all V.one=true
 |[],a,h=>by
  have:a=[]:=zo.1 (by rw[h.1];simp);subst this;rfl
 |x::l,a,h=>by
  obtain⟨c,d,rfl,b,e⟩:=h.pX;rw[List.all_append,e.Ul,yc];exact zq.2 b.Ul
theorem Ez.part{s:Sh}{l:List s.T}{cs:List V}(h:Ez F s l cs){off len:Nat}(f:off+len<=l.length):Ez F s ((l.drop off).take len) ((cs.drop<|off*s.sz).take<|len*s.sz):=by
 have c:(off+len)*s.sz<=l.length*s.sz:=zj _ f;rw[z6]at c;have g:=h.1;refine⟨by simp;rw[ya ae,ya ae],fun i d=>?_⟩;have a:i<len:=by simp at d;omega
 have b:(i+1)*s.sz<=len*s.sz:=zj _ a;rw[zu]at b;rw[List.getElem_take,List.getElem_drop];have:=h.2 (off+i) ae;have e:(((cs.drop<|off*s.sz).take<|len*s.sz).drop<|i*s.sz).take s.sz=(cs.drop<|(off+i)*s.sz).take s.sz:=by
  rw[List.drop_take,List.take_take,List.drop_drop,z6,ya ae]
 rw[e];exact this
theorem Adc(hr:SR B h0 F ρ st.nx st.ob h){t:TypeId}{p q:PV}{x y:V}(r:PR F ρ st.nx p x)(M:PR F ρ st.nx q y){v:PV}(a:(kY C.T t p q st).To v st'):OK B h0 F ρ st h [] (FQ<|Qx C.T h t x y) v st':=by
 unfold kY at a;split at a
 case h_2=>simp at a
 rename_i e k l A c L;obtain rfl:=C5 r;obtain rfl:=C5 M;split at a
 case h_2=>simp at a
 rename_i i s I R;cases d:(zp 0 i.zero.length&&zg i.zero.length i.size&&zg i.size s.sz)with
 |false=>rw[d]at a;simp at a
 |true=>
  rw[d]at a;simp only[zf]at d;obtain⟨⟨D,j⟩,K⟩:=d;simp only[we]at a;split at a
  case h_2=>simp at a
  rename_i z u;simp only[Cu,zf,w5]at a;obtain⟨⟨⟨⟨O,G⟩,m⟩,E⟩,rfl,rfl⟩:=a;have f:l=c:=G;subst f;obtain⟨n,rfl,hn⟩:=EG O;rw[hn]at m ⊢;have w:=ze j;have P:=ze K;have J:Qx C.T h t (.int k<|Int.ofNat n) (.int A<|Int.ofNat n)=some (.sl h.nx 0 n n 0,h.push<|.cells (F6 i.zero<|n*i.size) e (0,0)):=by
   have a1:zi n n=true:=zn<|zc _;have a2:zp n 9223372036854775808=true:=D1 (by have:(Int.ofNat n:Int)<9223372036854775808:=E;simp at this;omega);have a3:zi (i.bytes*n) 281474976710656=true:=zn m;simp only[Qx,L,I,a1,a2,a3,D,j,yi,we,Ja]
  rw[J];have g:=Df (ET (F:=F) (ρ:=ρ) (N:=st.nx) i.zero) u;have b:Ez F s (zl n z) (F6 i.zero<|n*i.size):=by
   rw[<-w,HW];exact Ez.replicate g n
  exact OK.new hr (o:=.arr false e s<|zl n z) (n:=n) rfl ⟨_,_,rfl,b,zc _,by simp⟩ (PU<|.inl rfl)
theorem Xu(hr:SR B h0 F ρ st.nx st.ob h){s:Sh}{p:PV}{x:V}(f:PR F ρ st.nx p x){c:Bool}{l:List s.T}(d:Is st s p=some (c,l))(G:c=true):
  Qu x=some l.length/\(s.sz=1\/Rl x=true)/\∃cs,src h s.sz x l.length=some cs/\Ez F s l cs:=by
 unfold Is at d;split at d
 case h_1=>
  cases d;simp only[PR]at f;subst f;exact⟨rfl,.inr rfl,[],rfl,Ez.nil⟩
 case h_2=>
  rename_i a l';rw[zk]at d;obtain⟨r,q,A⟩:=d;obtain⟨e,he⟩:=CU q;have z:a=s:=by cases e;rfl
  subst z;have:r=l':=by have:=he;cases this;rfl
  subst this;cases A;simp only[PR,DC]at f;obtain⟨u,K,f⟩:=f;obtain rfl:x=u:=by simpa using K
  rcases f with⟨rfl,rfl|rfl|rfl⟩|⟨b,off,cap,o,D,rfl,P,E,m,U,M⟩
  ·exact⟨rfl,.inr rfl,[],rfl,Ez.nil⟩
  ·exact⟨rfl,.inr rfl,[],rfl,Ez.nil⟩
  ·exact⟨rfl,.inr rfl,[],rfl,Ez.nil⟩
  ·obtain⟨te,fz,S⟩:=hr.frz b D E;suffices hD:Ez F a l ((D.drop off).take<|l.length*a.sz)from⟨rfl,.inr rfl,_,rd_some S m hD.ok,hD⟩
   refine⟨?_,fun i O=>?_⟩
   ·simp;rw[ya ae]
   ·have J:(i+1)*a.sz<=l.length*a.sz:=zj _ O;rw[zu]at J;have e:(((D.drop off).take<|l.length*a.sz).drop<|i*a.sz).take a.sz=(D.drop<|off+i*a.sz).take a.sz:=by
     rw[List.drop_take,List.take_take,List.drop_drop,ya ae]
    rw[e];exact M i O
 case h_3=>
  rename_i id sz off len cap;split at d
  case h_2=>cases d
  rename_i R te a l' Z;cases g:zg sz a.sz with
  |false=>rw[g]at d;cases d
  |true=>
   rw[g]at d;have g:=ze g;simp only[we,zk]at d;obtain⟨r,q,A⟩:=d;obtain⟨e,he⟩:=CU q;have z:a=s:=by cases e;rfl
   subst z;have:r=l':=by have:=he;cases this;rfl
   subst this;cases A;simp only[w5]at G;obtain⟨b,n,y,P,E,⟨cs,fz,rfl,m,M,U⟩,_⟩:=hr.at Z;simp only[PR]at f;have v:((r.drop off).take len).length=len:=by simp;omega
   have k:(off+len)*a.sz<=r.length*a.sz:=zj _ G;rw[z6]at k;rw[v];rcases f.2 b n P with⟨_,_,o,_,rfl⟩|⟨rfl,_,hof,rfl|⟨L,rfl,w⟩⟩
   ·refine⟨rfl,.inr rfl,_,rd_some E ?_ ?_,?_⟩
    ·rw[g,m.1];exact k
    ·rw[g];exact(m.part G).ok
    ·rw[g];exact m.part G
   ·refine⟨rfl,.inr rfl,[],rfl,?_⟩;simpa using Ez.nil
   ·refine⟨rfl,.inr rfl,_,rd_some E ?_ ?_,?_⟩
    ·rw[g]at w;rw[m.1];simp at k ⊢;omega
    ·simp
    ·simp;exact Ez.nil
 case h_5=>cases d
 case h_4=>
  rename_i t;rw[zk]at d;obtain⟨r,q,A⟩:=d;obtain⟨e,he⟩:=CU q;have z:s=.int .u8:=by cases e;rfl
  subst z;have:r=List.map (fun b:UInt8=>(b.toNat:Int)) t:=by have:=he;cases this;rfl
  subst this;cases A;obtain rfl:=FX f;refine⟨by simp[Qu],.inl rfl,_,rfl,?_⟩;rw[yo,List.take_length];refine⟨by simp[Sh.sz],fun j Y=>?_⟩;have I:j<t.length:=by simpa using Y
  have W:((t.map fun b=>V.int .u8 (b.toNat:Int)).drop<|j*1).take 1=[V.int .u8 ((t[j]).toNat:Int)]:=by
   rw[yp,zr<|by simpa using I];simp
  show DC _ (.int .u8) _<|((t.map fun b=>V.int .u8 (b.toNat:Int)).drop<|j*1).take 1;rw[W];simp[DC]
theorem fU(hr:SR B h0 F ρ st.nx st.ob h){s:Sh}{p:PV}{x:V}(d:PR F ρ st.nx p x){c:Bool}{l:List s.T}(b:P2 st s p=some (c,l))(a:c=true):
  Qu x=some l.length/\(s.sz=1\/Rl x=true)/\∃cs,src h s.sz x l.length=some cs/\Ez F s l cs:=Xu hr d.lz b a
theorem SR.congr(hr:SR B h0 F ρ N st.ob h)(a:∀c,h'.get c=h.get c)(f:h'.nx=h.nx):SR B h0 F ρ N st.ob h':=
 ⟨fun id o m=>by obtain⟨b,n,x,e,q,g⟩:=hr.obj id o m;exact⟨b,n,x,e,(a b).trans q,g⟩,hr.inj,fun b cs d=>by obtain⟨t,fz,e⟩:=hr.frz b cs d;exact⟨t,fz,(a b).trans e⟩,hr.own,hr.dead,
  fun b d i=>(a b).trans<|hr.old b d i,fun b o d=>by rw[f];exact hr.lt b o<|(a b).symm.trans d,by rw[f];exact hr.le,hr.fo,hr.gl,fun c l=>by obtain⟨k,j,p⟩:=hr.pn c l;exact⟨(a c).trans k,j,p⟩⟩
theorem SR.jF{ob:Ob}(hr:SR B h0 F ρ N ob h){o:Obj}{x:O}{b n:Nat}(L:h.get b=some x)(g:∀id o m,AS ob id=some o->ρ id≠some (b,m))(T:F b=none)(Y:h0.dU B b)(K:b∉h0.pin)(P:o.frozen=false)
  (M:aI F (BI ρ N<|some (b,n)) (N+1) n o x):SR B h0 F (BI ρ N<|some (b,n)) (N+1) ((N,o)::ob) h:=by
 have v:Le F ρ N F (BI ρ N<|some (b,n)) (N+1):=Le.new _;have a:∀j,AS ((N,o)::ob) j=if j=N then some o else AS ob j:=by
  simp only[AS,BA];grind
 refine⟨fun j oj d=>?_,fun i j oi oj c m r t d f q=>?_,hr.frz,fun id c m l=>?_,fun j d=>?_,hr.old,hr.lt,hr.le,hr.fo,hr.gl,fun c I=>?_⟩
 ·rw[a]at d;by_cases e:j=N
  ·grind [BI]
  ·rw[wc e]at d;obtain⟨c,m,y,f,q,A,D⟩:=hr.obj j oj d;exact⟨c,m,y,by simp[BI,e,f],q,A.mono v,D⟩
 ·rw[a]at t d;have key:∀k ok m,(if k=N then some o else AS ob k)=some ok->BI ρ N (some (b,n)) k=some (c,m)->(k=N/\c=b)\/(k≠N/\AS ob k=some ok/\ρ k=some (c,m)/\c≠b):=by
   intro k ok m J p;by_cases e:k=N
   ·simp_all [BI]
   ·simp only[BI,e,vf]at p;grind
  rcases key i oi m t f with⟨w,u⟩|⟨w,u,E,W⟩<;>rcases key j oj r d q with⟨z,s⟩|⟨z,s,G,S⟩
  ·omega
  ·omega
  ·omega
  ·exact hr.inj i j oi oj c m r u s E G
 ·unfold BI at l;split at l
  ·grind
  ·have:=hr.own id c m l;grind
 ·rw[a]at d;by_cases e:j=N
  ·grind
  ·rw[wc e]at d;simp[BI,e,hr.dead j d]
 ·obtain⟨U,R,V⟩:=hr.pn c I;grind [BI]
theorem PF{off:Nat}{cs:List V}(h:off<=cs.length):CN off [] cs=cs:=by
 apply yg;simp_all [HT,wc]
theorem Wb{off:Nat}{vs cs:List V}(h:off+vs.length<=cs.length):CN off vs cs=cs.take off++(vs++cs.drop (off+vs.length)):=by
 apply yg;intro j;rw[HT h];grind
theorem Ez.mB{s:Sh}{l new:List s.T}{cs b:List V}{a:Nat}(h:Ez F s l cs)(e:Ez F s new b)(f:a+new.length<=l.length):
  Ez F s (l.take a++(new++l.drop (a+new.length))) (CN (a*s.sz) b cs):=by
 have j:=h.1;have i:=e.1;have g:(a+new.length)*s.sz<=l.length*s.sz:=zj _ f;rw[Wb ah];have c:=h.part (off:=0) (len:=a) ae;have d:=h.part (off:=a+new.length) (len:=l.length-(a+new.length)) ae;rw[z7,ye,ye]at c;rw[yn (by simp),yn<|by simp_all [Nat.sub_mul]]at d;rw[i, <-z6];exact c.append<|e.append d
def Gd:List PV->List Nat
 | .sl id _ _ _ _::_=>[id]
 |_=>[]
theorem eO{s b:Sh}{x:b.T}{c:Bool}{l:List s.T}(d:P2 st s (.dat b x)=some (c,l)):c=true:=by
 unfold P2 at d;cases b with
 |list a=>
  grind [zk,Is,lz]
 |nlist a=>
  grind [zk,Is,lz]
 |str=>
  grind [zk,Is,lz]
 |_=>cases d
theorem pK(hr:SR B h0 F ρ st.nx st.ob h){ts:Array TypeId}{ps:List PV}{xs:List V}(L:BJ F ρ st.nx ps xs){v:PV}(d:(Tv C.T ts ps st).To v st'):OK B h0 F ρ st h (Gd ps) (FQ<|Ha C.T h ts xs) v st':=by
 unfold Tv at d;split at d
 case h_2=>simp at d
 rename_i t tx p q hts htx;simp only[BJ]at L;obtain⟨x,_,rfl,L,y,_,rfl,hy,rfl⟩:=L;split at d
 case h_2=>simp at d
 rename_i e ex hu hux;have hss:TU ex=true:=by
  cases hq:TU ex with
  |true=>rfl
  |false=>simp_all
 rw[hss]at d;simp only[we]at d;split at d
 case h_2=>simp at d
 rename_i i s hi hs;cases hc:(zp 0 i.bytes&&zp 0 i.size&&zg i.zero.length i.size&&zg i.size s.sz)with
 |false=>simp_all
 |true=>
  rw[hc]at d;simp only[zf]at hc;obtain⟨⟨⟨c1,c2⟩,c3⟩,c4⟩:=hc;have e4:=ze c4;simp only[we]at d;split at d
  case h_2=>simp at d
  rename_i c new hel;have head:c=true->∃cs,src h i.size y new.length=some cs/\Ez F s new cs/\Ha C.T h ts [x,y]=(match x with
      | .nils=>bif zg new.length 0 then some (.nils,h)
       else bif zi ((3*new.length+2000)*i.bytes) 562949953421312 then some (.sl h.nx 0 new.length new.length i.size,Ja h e cs)else none
      | .es0=>bif zg new.length 0 then some (.es0,h)
       else bif zi ((3*new.length+2000)*i.bytes) 562949953421312 then some (.sl h.nx 0 new.length new.length i.size,Ja h e cs)else none
      | .esl=>bif zg new.length 0 then some (.esl,h)else none
      | .sl b off len cap o=>
       bif zi (len+new.length) cap then(wr h b (off+len*i.size) cs).map fun h'=>(.sl b off (len+new.length) cap o,h')
       else bif zi ((3*(len+new.length)+2000)*i.bytes) 562949953421312 then
        match src h i.size x len with
        |some old=>
         bif zg o 0 then some (.sl h.nx 0 (len+new.length) (len+new.length) i.size,Ja h e<|old++cs)
         else
          match h.get b with
          |some (.cells _ te fz)=>
           bif zg off 0&&zg o i.size&&zg te e&&zi fz.2 fz.1&&cs.all V.one then some (.sl h.nx 0 (len+new.length) (len+new.length) i.size,(h.kill b).push<|.cells (old++cs) e (0,0))
           else none
          |_=>none
        |none=>none
       else none
      |_=>none):=by
   intro hc;obtain⟨g1,D,cs,K,g4⟩:=fU hr hy hel hc;rw[<-e4]at K;refine⟨cs,K,g4,?_⟩;have Y:(zp 0 i.bytes&&zp 0 i.size&&zg i.zero.length i.size&&(zg i.size 1||Rl y))=true:=by
    grind
   have hint:isInt ex=false:=by cases ex<;>first|rfl|cases hss
   simp only[Ha,hts,htx,hu,hux,g1,hi,hint,Y,we,K];cases x<;>rfl
  split at d
  case h_3=>simp at d
  case h_1=>
   simp only[PR]at L;subst L;have grow:c=true->0<new.length->(3*new.length+2000)*i.bytes<=lH->OK B h0 F ρ st h (Gd [PV.nil,q]) (FQ<|Ha C.T h ts [.nils,y]) (.sl st.nx s.sz 0 new.length none) (st.push<|.arr false e s new):=by
    intro k1 k2 k3;obtain⟨cs,g1,D,K⟩:=head k1;have O:zg new.length 0=false:=by grind [BA]
    have b2:zi ((3*new.length+2000)*i.bytes) 562949953421312=true:=zn k3;rw[K];simp only[O,b2,wg,we];exact OK.new hr (o:=.arr false e s new) (n:=new.length) rfl ⟨_,_,rfl,D,zc _,rfl⟩ (PU<|.inr e4)
   have same:c=true->new.length=0->OK B h0 F ρ st h (Gd [PV.nil,q]) (FQ<|Ha C.T h ts [.nils,y]) .nil st:=by
    intro k1 k2;obtain⟨cs,g1,D,K⟩:=head k1;have O:zg new.length 0=true:=by rw[k2];rfl
    rw[K];simp only[O,we];exact⟨.nils,h,F,ρ,.inl rfl,by simp[PR],hr,zz,rfl,rfl,zc _,(by simp)⟩
   split at d
   case h_1=>
    simp_all [P2,Is,lz]
   case h_2=>
    have hc':c=true:=by
     exact eO hel
    by_cases hn:0<new.length
    ·rw[w4 hn]at d;cases d with
     |tt d=>
      simp_all
    ·rw[w8 hn]at d;cases d with
     |ff d=>
      simp_all
   case h_3=>
    by_cases hn:0<new.length
    ·rw[w4 hn]at d;cases d with
     |tt d=>
      simp_all
    ·rw[w8 hn]at d;cases d with
     |ff d=>
      simp_all
   simp_all
  case h_2=>
   rename_i id sz off len cap;split at d
   case h_2=>simp at d
   rename_i e' f l ho;split at d
   case h_2=>simp at d
   rename_i l' hl';obtain⟨ecast,hcast⟩:=CU hl';have es:f=s:=ah
   subst es;have:l'=l:=ah
   subst this;cases M:(zg e e'&&zg sz f.sz)with
   |false=>simp_all
   |true=>
    rw[M]at d;simp only[zf]at M;have ee:=ze M.1;have esz:=ze M.2;subst ee;subst esz;simp only[we]at d;split at d
    case h_2=>
     rename_i k;simp only[Cu,zf,w5]at d;obtain⟨⟨⟨k1,k2⟩,k3⟩,rfl,rfl⟩:=d;obtain⟨cs,g1,D,K⟩:=head k1;obtain⟨b,n,z,h1,h2,⟨bs,fz,rfl,h3,h4,h5⟩,h6,_⟩:=hr.at ho;simp only[PR]at L;rw[K];have hone:cs.all V.one=true:=D.Ul;have hcl:cs.length=new.length*f.sz:=D.1;have hbl:=h3.1;have hle:(off+len+new.length)*f.sz<=l'.length*f.sz:=zj _ ae;have hexp:(off+len+new.length)*f.sz=off*f.sz+len*f.sz+new.length*f.sz:=ah
     have hsp:=Ez.mB h3 D (a:=off+len) ae;have A:(l'.take (off+len)++(new++l'.drop (off+len+new.length))).length=l'.length:=by simp;omega
     rcases L.2 b n h1 with⟨_,g6,o,g5,rfl⟩|⟨e0,ek,g6,g7⟩
     ·simp only[yj]at g6;have hw:wr h b (off*f.sz+len*i.size) cs=some (h.put b<|.cells (CN ((off+len)*f.sz) cs bs) e fz):=by
       grind [NW,z6]
      have O:zi (len+new.length) k=true:=(by simp_all);refine⟨.sl b (off*f.sz) (len+new.length) k o,h.put b<|.cells (CN ((off+len)*f.sz) cs bs) e fz,F,ρ,.inl ?_,?_,hr.set ho h1 h2 rfl rfl (o':=.arr false e f _) ⟨_,fz,rfl,hsp,h4,A.trans h5⟩,zz,rfl,rfl,zc _,fun c _=>?_⟩
      ·simp only[yj,O,we,hw,zt,FQ]
      ·simp only[PR];refine⟨L.1,fun b' n' hb'=>.inl ?_⟩;grind
      ·rw[H.B6];by_cases e:c=b
       ·grind [Gd]
       grind
     ·cases ek;subst e0;have hn0:new.length=0:=ae
      have R:new=[]:=ah;subst R;have Z:cs=[]:=(by grind [zo]);subst Z;have hlp:CN ((off+0)*f.sz) [] bs=bs:=(by grind [PF]);have S:∀c,(h.put b<|.cells (CN ((off+0)*f.sz) [] bs) e fz).get c=h.get c:=by
       intro c;rw[hlp,H.B6];grind
      have hset:=hr.set ho h1 h2 rfl rfl (o':=.arr false e f _) (x':=.cells (CN ((off+0)*f.sz) [] bs) e fz) ⟨_,fz,rfl,hsp,h4,A.trans h5⟩;have E:SR B h0 F ρ st.nx (DZ st.ob id<|.arr false e f<|l'.take (off+0)++([]++l'.drop (off+0+0))) h:=
       SR.congr (st:=⟨st.n,st.fr,DZ st.ob id _,st.nx⟩) hset ah rfl
      have hpr:∀w,(w=.esl\/∃r,w=.sl b r 0 0 0/\r<=off*f.sz)->PR F ρ st.nx (.sl id f.sz off (Nat.add 0 0)<|some 0) w:=by
       grind [PR]
      rcases g7 with rfl|⟨r,rfl,W⟩
      ·exact⟨.esl,h,F,ρ,.inl rfl,hpr _<|.inl rfl,E,zz,rfl,rfl,zc _,(by simp)⟩
      ·have hob:r<=bs.length:=by
        omega
       have hw:wr h b (r+0*i.size) []=some (h.put b<|.cells (CN (r+0*i.size) [] bs) e fz):=NW h2 ae h4 rfl;have U:∀c,(h.put b<|.cells (CN (r+0*i.size) [] bs) e fz).get c=h.get c:=by
        simp_all [PF]
       refine⟨.sl b r 0 0 0,h.put b<|.cells (CN (r+0*i.size) [] bs) e fz,F,ρ,.inl ?_,hpr _<|.inr ⟨r,rfl,W⟩,SR.congr (st:=⟨st.n,st.fr,DZ st.ob id _,st.nx⟩) E U rfl,zz,rfl,rfl,zc _,ah⟩;simp_all [zi,FQ]
    simp only[Cu,zf,w5]at d;obtain⟨⟨⟨⟨k1,k2⟩,k3⟩,k4⟩,rfl,rfl⟩:=d;subst k2;obtain⟨cs,g1,D,K⟩:=head k1;obtain⟨b,n,z,h1,h2,⟨bs,fz,rfl,h3,h4,h5⟩,h6,_⟩:=hr.at ho;have hFb:=h6 rfl;simp only[PR]at L;have hB:=(hr.own id b n h1).2;have hPb:b∉h0.pin:=fun hp=>(hr.pn b hp).2.2 id n h1
    have hidN:=ae;obtain⟨_,_,o,g5,rfl⟩:len<=len/\0+len<=n/\∃o,(o=0\/o=f.sz)/\x=.sl b (0*f.sz) len len o:=by
     rcases L.2 b n h1 with g|⟨_,e,_⟩
     ·exact g
     grind
    have hbl:bs.length=len*i.size:=by rw[h3.1,k3,e4]
    have I:∀j oj m,AS (G1 st.ob id) j=some oj->BI ρ id none j≠some (b,m):=by
     intro j oj m hj hjr;rw[DN]at hj;split at hj
     ·cases hj
     ·rename_i hne;simp only[BI,hne,vf]at hjr;exact hne<|hr.inj j id oj _ b m n hj ho hjr h1
    have J:=hr.del id;have P:Le F ρ st.nx F (BI ρ id none) st.nx:=Le.JV id;have hnew:Ez F f (l'++new) (bs++cs):=h3.append D;have A:(l'++new).length=len+new.length:=ah
    have hone:cs.all V.one=true:=D.Ul;rw[K];simp only;by_cases hn:new.length=0
    ·
     have R:new=[]:=ah;have Z:cs=[]:=zo.1 (by rw[D.1,hn,z7]);subst Z;have O:zi (len+new.length) len=true:=(by simp_all);have hw:wr h b (0*f.sz+len*i.size) []=some (h.put b<|.cells (CN (0*f.sz+len*i.size) [] bs) e fz):=NW h2 ah h4 rfl;have S:∀c,(h.put b<|.cells (CN (0*f.sz+len*i.size) [] bs) e fz).get c=h.get c:=by
      simp_all [PF]
     refine⟨.sl b (0*f.sz) (len+new.length) len o,h.put b<|.cells (CN (0*f.sz+len*i.size) [] bs) e fz,F,BI (BI ρ id none) st.nx<|some (b,n),.inl ?_,?_,?_,P.trans<|Le.new _,rfl,rfl,zc _,ah⟩
     ·simp only[O,we,hw,zt,FQ]
     ·unfold PR;refine⟨yb _,fun b' n' hb=>.inl ?_⟩;simp_all [BI]
     ·refine SR.jF (ob:=G1 st.ob id) ?_ (x:=.cells bs e fz) ah I hFb hB hPb rfl ⟨bs,fz,rfl,?_,h4,?_⟩
      ·exact SR.congr (st:=⟨st.n,st.fr,G1 st.ob id,st.nx⟩) J S rfl
      ·grind
      omega
    ·
     have O:zi (len+new.length) len=false:=by
      cases hb:zi (len+new.length) len with
      |false=>rfl
      |true=>have:=Nat.le_of_ble_eq_true hb;omega
     have b2:zi ((3*(len+new.length)+2000)*i.bytes) 562949953421312=true:=zn k4;have hsrc:src h i.size (.sl b (0*f.sz) len len o) len=some bs:=by
      show rd h b (0*f.sz) (len*i.size)=_;rw[rd_some h2 ae<|fun u hu=>h3.ok u ah];grind
     simp only[O,b2,wg,we,hsrc];have fin:∀ {G:H},SR B h0 F (BI ρ id none) st.nx (G1 st.ob id) G->G.nx=h.nx->(∀c,c≠b->G.get c=h.get c)->
       OK B h0 F ρ st h [id] (FQ<|some (.sl h.nx 0 (len+new.length) (len+new.length) i.size,G.push<|.cells (bs++cs) e (0,0))) (.sl st.nx f.sz 0 (Nat.add len new.length) none) ((st.Gu id).push<|.arr false e f<|l'++new):=by
      intro G hr1 hnx hg;have hp:=hr1.push (o:=.arr false e f<|l'++new) (x:=.cells (bs++cs) e (0,0)) (n:=len+new.length) rfl ⟨_,_,rfl,hnew,zc _,A⟩;refine⟨_,_,F,_,.inl rfl,?_,hp,P.trans<|Le.new _,rfl,rfl,by simp_all,fun c hc=>?_⟩
      ·rw[<-hnx];exact PU<|.inr e4
      ·rw[H.Ce,wc ae];grind
     rcases g5 with rfl|rfl
     ·exact fin J rfl (fun _ _=>rfl)
     ·have b3:zg f.sz 0=false:=by
       rw[<-e4];cases hb:zg i.size 0 with
       |false=>rfl
       |true=>simp_all
      have b4:(zg (0*f.sz) 0&&zg f.sz i.size&&zg e e&&zi fz.2 fz.1&&cs.all V.one)=true:=by
       simp_all
      simp only[b3,wg,h2,b4,we];exact fin (J.kill I hFb hB hPb) rfl (by simp_all)
theorem FJ:∀ {s:Sh} {x:s.T} {v:V},DV F s x v->PR F ρ N (Cx s x) v
 | .pair a b,x,v,h=>by obtain⟨cs,rfl,c⟩:=h.1 rfl;unfold Cx PR;exact⟨cs,rfl,Dl c⟩
 | .unit,x,v,h=>by obtain⟨cs,rfl,c⟩:=h.1 rfl;simp only[DC]at c;subst c;unfold Cx PR;exact⟨[],rfl,by simp⟩
 | .int _,x,v,h=>by have:=h.2 rfl;unfold Cx PR;exact this
 | .bool,x,v,h=>by have:=h.2 rfl;unfold Cx PR;exact this
 | .str,x,v,h=>by have:=h.2 rfl;unfold Cx PR;exact this
 | .list _,x,v,h=>by have:=h.2 rfl;unfold Cx PR;exact this
 | .nlist _,x,v,h=>by have:=h.2 rfl;unfold Cx PR;exact this
 | .fnv,x,v,h=>by
  have:=h.2 rfl;simp only[DC,zx,ve]at this;subst this;unfold Cx;cases (x:Option Fn)<;>simp[PR]
 | .ptr s,x,v,h=>by
  have:=h.2 rfl;simp only[DC]at this;obtain⟨b,o,g,c,f,d,e⟩:=this;unfold Cx PR;exact⟨b,o,g,List.singleton_inj.1 c,f,d,e⟩
theorem vY{s:Sh}{p:PV}{x:s.T}{v:V}(hp:PR F ρ N p v)(b:asV s p=some x):DV F s x v:=by
 unfold asV at b;cases a:(Ni p==s.RV)with
 |false=>rw[a]at b;cases b
 |true=>
  rw[a]at b;simp only[we]at b;have a:Ni p=s.RV:=by simpa using a
  refine⟨fun e=>?_,fun e=>?_⟩
  ·rw[e]at a;cases p<;>simp only[Ni]at a<;>try (cases a;done)
   rename_i l;simp only[PR]at hp;obtain⟨cs,rfl,c⟩:=hp;exact⟨cs,rfl,Df c b⟩
  ·rw[e]at a;have:p.cells=[p]:=by cases p<;>first|rfl|(simp[Ni]at a)
   rw[this]at b;exact Df (by simpa using hp) b
theorem iV{T:Cg}{t:TypeId}{s:Sh}(h:kSh T t=some s):(∃k,s=.int k/\T.und t=some (.int k))\/(s=.str/\T.und t=some .string)\/(s=.bool/\T.und t=some .bool):=by
 unfold kSh at h;split at h
 ·rename_i k a;cases h;exact .inl ⟨k,rfl,a⟩
 ·rename_i a;cases h;exact .inr<|.inl ⟨rfl,a⟩
 ·rename_i a;cases h;exact .inr<|.inr ⟨rfl,a⟩
 ·cases h
theorem Y2{T:Cg}{t:TypeId}{s:Sh}(a:kSh T t=some s){p:PV}{x:s.T}{v:V}(hp:PR F ρ N p v)(b:asD s p=some x):DV F s x v:=by
 have:=G2 hp b;rcases iV a with⟨k,rfl,_⟩|⟨rfl,_⟩|⟨rfl,_⟩<;>exact⟨fun e=>(by cases e),fun _=>this⟩
theorem Uo{T:Cg}{t:TypeId}{s:Sh}(f:kSh T t=some s){x:s.T}{v:V}(e:DV F s x v):∃d,T.und t=some d/\Jm T t d v=true/\(∀es,Lb T t v es=Ma T t v es 0)/\∀y u,DV F s y u->lC T t v u=some (YS s x y):=by
 rcases iV f with⟨k,rfl,a⟩|⟨rfl,a⟩|⟨rfl,a⟩<;>
 ·have b:=e.2 rfl;simp only[DC,zx,ve]at b;subst b;refine⟨_,a,rfl,fun _=>rfl,fun y u g=>?_⟩;have c:=g.2 rfl;simp only[DC,zx,ve]at c;subst c;simp[lC,a,YS]
theorem RD{T:Cg}{t:TypeId}{ks vs:Sh}(I:kSh T t=some ks){k:ks.T}{p:V}(s:DV F ks k p):∀ {l:List (ks.T×vs.T)} {es:List (V×V×Nat)},MR F ks vs l es->∀i,∃r,Ma T t p es i=some r/\
  (match r with
   |none=>Eh ks vs k l=none/\TA ks vs k l=l/\∀x f c,DV F vs x f->MR F ks vs (HP ks vs k x l) (es++[(p,f,c)])
   |some (j,u)=>(∃v,Eh ks vs k l=some v/\DV F vs v u)/\i<=j/\MR F ks vs (TA ks vs k l) (es.eraseIdx<|j-i)/\∀x f,DV F vs x f->MR F ks vs (HP ks vs k x l) (XR es (j-i) p f)):=by
 intro l es K;induction K with
 |nil=>intro i;exact⟨none,rfl,rfl,rfl,fun x f c m=>.cons s m .nil⟩
 |@cons a b l J G n es o q A M=>
  intro i;obtain⟨d,_,_,_,w⟩:=Uo I s;have w:=w a J o;unfold Ma;rw[w];cases g:YS ks k a with
  |true=>
   refine⟨some (i,G),rfl,⟨b,by simp[Eh,g],q⟩,zc _,?_,fun x f m=>?_⟩
   ·simp only[Nat.sub_self,List.eraseIdx_cons_zero,TA,g,we];exact A
   ·simp only[Nat.sub_self,HP,g,we,XR,List.modify_zero_cons];exact .cons s m A
  |false=>
   obtain⟨r,L,D⟩:=M<|i+1;refine⟨r,L,?_⟩;cases r with
   |none=>
    obtain⟨z,y,E⟩:=D;refine⟨by simp only[Eh,g,wg];exact z,by simp only[TA,g,wg,y],fun x f c m=>?_⟩;simp only[HP,g,wg,List.cons_append];exact .cons o q<|E x f c m
   |some O=>
    obtain⟨j,u⟩:=O;obtain⟨⟨v,z,y⟩,E,k4,k5⟩:=D;have e:j-i=(j-(i+1))+1:=ae
    refine⟨⟨v,by simp only[Eh,g,wg];exact z,y⟩,by omega,?_,fun x f m=>?_⟩
    ·rw[e];simp only[List.eraseIdx_cons_succ,TA,g,wg];exact .cons o q k4
    ·rw[e];simp only[HP,g,wg,XR,List.modify_succ_cons];exact .cons o q<|k5 x f m
theorem Aaa(hr:SR B h0 F ρ st.nx st.ob h){t:TypeId}{v:PV}(a:(YL C.T t st).To v st'):OK B h0 F ρ st h [] (FQ<|Js h none) v st':=by
 unfold YL at a;split at a
 case h_2=>simp at a
 split at a
 case h_2=>simp at a
 rename_i ks vs d e;simp only[Bj]at a;obtain⟨rfl,rfl⟩:=a;refine OK.new hr (o:=.map ks vs []) (x:=.map [] 0) (n:=0) rfl ⟨[],0,rfl,.nil⟩ ?_;unfold PR;exact⟨yb _,fun b m c=>by simp[BI]at c;rw[c.1]⟩
theorem eJ(hr:SR B h0 F ρ st.nx st.ob h){ks vs:Sh}{m:PV}{l:List (ks.T×vs.T)}{x:V}(c:PR F ρ st.nx m x)(a:nZ st ks vs m=some l):∃es,entries h x=some es/\MR F ks vs l es:=by
 unfold nZ at a;split at a
 ·cases a;simp only[PR]at c;subst c;exact⟨[],rfl,.nil⟩
 ·rename_i id;split at a
  case h_2=>cases a
  rename_i g d l' i;obtain⟨e,f⟩:=CU a;simp only[Sh.list.injEq,Sh.pair.injEq]at e;obtain⟨rfl,rfl⟩:=e;obtain rfl:l'=l:=f;obtain⟨b,n,o,h1,h2,⟨es,clk,rfl,h4⟩,_⟩:=hr.at i;simp only[PR]at c;obtain rfl:=c.2 b n h1;exact⟨es,by simp[entries,h2],h4⟩
 ·cases a
theorem sU{ks vs:Sh}{ok:Bool}{z:vs.T}{x:ks.T}:∀ {l:List (ks.T×vs.T)} {v:PV},(plk ks vs ok z x st l).To v st'->st=st'/\((Eh ks vs x l=none/\v=bif ok then .tup [Cx vs z,.bl false]else Cx vs z)\/∃w,Eh ks vs x l=some w/\v=bif ok then .tup [Cx vs w,.bl true]else Cx vs w)
 |[],v,d=>by
  unfold plk at d;simp only[Bj]at d;exact⟨d.2,.inl ⟨rfl,d.1.symm⟩⟩
 |(a,b)::l,v,d=>by
  unfold plk at d;generalize f:YS ks x a=c at d;cases d with
  |tt d=>
   simp only[Bj]at d;exact⟨d.2,.inr ⟨b,by simp[Eh,f],d.1.symm⟩⟩
  |ff d=>
   obtain⟨g,i⟩:=sU d;have e:Eh ks vs x ((a,b)::l)=Eh ks vs x l:=by simp[Eh,f]
   rw[e];exact⟨g,i⟩
theorem mA(hr:SR B h0 F ρ st.nx st.ob h){t:TypeId}{p q:PV}{x y:V}(M:PR F ρ st.nx p x)(Z:PR F ρ st.nx q y){ok:Bool}{v:PV}(a:(TT C.T t p q ok st).To v st'):OK B h0 F ρ st h [] (BU h<|Fq C.T h t x y ok) v st':=by
 unfold TT at a;split at a
 case h_2=>simp at a
 rename_i kt e W;split at a
 case h_2=>simp at a
 rename_i ks vs i g P J;split at a
 case h_2=>simp at a
 rename_i k l z K L O;cases b:(vAg i.zv==vs.RV)with
 |false=>rw[b]at a;simp at a
 |true=>
  rw[b]at a;simp only[we]at a;have o:=Y2 g Z K;obtain⟨es,R,U⟩:=eJ hr M L;obtain⟨kd,g1,g2,g3,_⟩:=Uo g o;obtain⟨r,r1,r2⟩:=RD g o U 0;have d:DV F vs z i.zv:=by
   have s:DC F vs z i.zv.cells:=Df (ET (F:=F) (ρ:=ρ) (N:=st.nx) i.zero) O;have b:vAg i.zv=vs.RV:=by simpa using b
   refine⟨fun e=>?_,fun e=>?_⟩
   ·rw[e]at b;cases c:i.zv<;>rw[c]at b<;>simp only[vAg]at b<;>try (cases b;done)
    rw[c]at s;exact⟨_,rfl,s⟩
   ·rw[e]at b;have:i.zv.cells=[i.zv]:=by cases c:i.zv<;>rw[c]at b<;>first|rfl|(simp[vAg]at b)
    rw[<-this];exact s
  unfold Fq;simp only[W,g1,R,g2,we,g3,r1];cases I:vs.Aaf with
  |true=>
   rw[I]at a;simp only[we]at a;have D:=sU a;obtain⟨S,E⟩:=D;subst S;rcases E with⟨Y,c⟩|⟨w,A,c⟩
   ·cases r with
    |none=>
     simp only[J];cases ok with
     |true=>exact zm hr rfl (by rw[c];simp only[we,PR];exact⟨_,rfl,_,_,rfl,FJ d,_,_,rfl,by simp[PR],rfl⟩)
     |false=>exact zm hr rfl (by rw[c];exact FJ d)
    |some G=>
     obtain⟨⟨v',f,_⟩,_⟩:=r2;rw[Y]at f;cases f
   ·cases r with
    |none=>rw[r2.1]at A;cases A
    |some G=>
     obtain⟨⟨v',f,m⟩,_⟩:=r2;rw[A]at f;cases f;cases ok with
     |true=>exact zm hr rfl (by rw[c];simp only[we,PR];exact⟨_,rfl,_,_,rfl,FJ m,_,_,rfl,by simp[PR],rfl⟩)
     |false=>exact zm hr rfl (by rw[c];exact FJ m)
  |false=>
  rw[I]at a;simp only[wg,Bj]at a;obtain⟨rfl,rfl⟩:=a;cases r with
  |none=>
   obtain⟨f,_⟩:=r2;simp only[J,f,Option.getD_none,Option.isSome_none];cases ok with
   |true=>exact zm hr rfl (by simp only[we,PR];exact⟨_,rfl,_,_,rfl,FJ d,_,_,rfl,Ea _,rfl⟩)
   |false=>exact zm hr rfl (FJ d)
  |some G=>
   obtain⟨j,u⟩:=G;obtain⟨⟨v,f,m⟩,_⟩:=r2;simp only[f,yj,Option.isSome_some];cases ok with
   |true=>exact zm hr rfl (by simp only[we,PR];exact⟨_,rfl,_,_,rfl,FJ m,_,_,rfl,Ea _,rfl⟩)
   |false=>exact zm hr rfl (FJ m)
theorem lT(hr:SR B h0 F ρ st.nx st.ob h){t:TypeId}{p q r:PV}{x y z:V}(G:PR F ρ st.nx p x)(R:PR F ρ st.nx q y)(I:PR F ρ st.nx r z){v:PV}(g:(U8 C.T t p q r st).To v st'):
  ∃id,p=.mp id/\OK B h0 F ρ st h [id] (qY<|H7 C.T h t x y z) v st':=by
 unfold U8 at g;split at g
 case h_2=>simp at g
 rename_i U e id P;split at g
 case h_2=>simp at g
 rename_i ks f vs l i A;split at g
 case h_2=>simp at g
 rename_i k K w E M L;obtain⟨u,J⟩:=CU M;simp only[Sh.list.injEq,Sh.pair.injEq,ve]at u;subst u;obtain rfl:l=K:=J;simp only[Bj]at g;obtain⟨rfl,rfl⟩:=g;have s:=Y2 i R E;have m:=vY I L;obtain⟨b,n,o,h1,h2,⟨es,clk,rfl,h4⟩,_⟩:=hr.at A;have j:=G;simp only[PR]at j;obtain rfl:=j.2 b n h1;obtain⟨kd,g1,g2,g3,_⟩:=Uo i s;obtain⟨r',r1,r2⟩:=RD i s h4 0;refine⟨id,rfl,?_⟩;have fin:∀d a,MR F f vs (HP f vs k w l) d->OK B h0 F ρ st h [id] (qY<|some<|h.put b<|.map d a) (.tup []) (st.setObj id<|.map f vs<|HP f vs k w l):=by
  intro d a O;refine⟨.tup [],_,F,ρ,.inr ⟨rfl,rfl⟩,by simp[PR],hr.set A h1 h2 rfl rfl ⟨d,a,rfl,O⟩,zz,rfl,rfl,zc _,fun c _=>?_⟩;by_cases D:c=b
  ·exact .inr ⟨id,zd.2 rfl,n,D▸h1⟩
  ·exact .inl (by rw[H.B6,wc D])
 unfold H7;simp only[P,g1,h2,g2,we,g3,r1];cases r' with
 |none=>exact fin _ _<|r2.2.2 w z clk m
 |some S=>exact fin _ _<|r2.2.2.2 w z m
theorem tP(hr:SR B h0 F ρ st.nx st.ob h){ts:Array TypeId}{ps:List PV}{xs:List V}(p:BJ F ρ st.nx ps xs){v:PV}(a:(Un C.T ts ps st).To v st'):
  ∃id z,ps=.mp id::z/\OK B h0 F ρ st h [id] (FQ<|Mq C.T h ts xs) v st':=by
 unfold Un at a;split at a
 case h_2=>simp at a
 rename_i t id q j;split at a
 case h_2=>simp at a
 rename_i I e G;split at a
 case h_2=>simp at a
 rename_i ks f vs l g s;split at a
 case h_2=>simp at a
 rename_i k D u w;obtain⟨m,A⟩:=CU w;simp only[Sh.list.injEq,Sh.pair.injEq,ve]at m;subst m;obtain rfl:l=D:=A;simp only[Bj]at a;obtain⟨rfl,rfl⟩:=a;simp only[BJ]at p;obtain⟨x,xs',rfl,hx1,y,xs'',rfl,hy,rfl⟩:=p;have i:=Y2 g hy u;obtain⟨b,n,o,h1,h2,⟨es,clk,rfl,h4⟩,_⟩:=hr.at s;obtain rfl:=hx1.2 b n h1;obtain⟨kd,g1,g2,g3,_⟩:=Uo g i;obtain⟨r',r1,r2⟩:=RD g i h4 0;refine⟨id,_,rfl,?_⟩;have fin:∀d,MR F f vs (TA f vs k l) d->OK B h0 F ρ st h [id] (FQ<|some (.tup [],h.put b<|.map d clk)) (.tup []) (st.setObj id<|.map f vs<|TA f vs k l):=by
  intro d E;refine⟨.tup [],_,F,ρ,.inl rfl,by simp[PR],hr.set s h1 h2 rfl rfl ⟨d,clk,rfl,E⟩,zz,rfl,rfl,zc _,fun c _=>?_⟩;by_cases r:c=b
  ·exact .inr ⟨id,zd.2 rfl,n,r▸h1⟩
  ·exact .inl (by rw[H.B6,wc r])
 unfold Mq;simp only[j,G,g1,h2,g2,we,g3,r1];cases r' with
 |none=>exact fin es (by rw[r2.2.1];exact h4)
 |some J=>
  have:=r2.2.2.1;simp only[Nat.sub_zero]at this;exact fin _ this
theorem SR.same(hr:SR B h0 F ρ st.nx st.ob h){id b n:Nat}{o o':Obj}{x:O}(j:st.obj id=some o)(i:ρ id=some (b,n))(f:h.get b=some x)(g:o.frozen=false)(d:o'.frozen=false)
  (k:aI F ρ st.nx n o' x):SR B h0 F ρ st.nx (DZ st.ob id o') h:=by
 have a:∀c,h.get c=(h.put b x).get c:=by
  intro c;rw[H.B6];by_cases e:c=b
  ·rw[wd e,e,f]
  ·rw[wc e]
 exact SR.congr (st:=⟨st.n,st.fr,DZ st.ob id o',st.nx⟩) (hr.set j i f g d k) a rfl
theorem uN(hr:SR B h0 F ρ st.nx st.ob h){ts:Array TypeId}{ps:List PV}{xs:List V}(j:BJ F ρ st.nx ps xs){v:PV}(d:(Ya C.T ts ps st).To v st'):OK B h0 F ρ st h (Gd ps) (FQ<|Gy C.T h ts xs) v st':=by
 unfold Ya at d;split at d
 case h_2=>simp at d
 rename_i t p f;simp only[BJ]at j;obtain⟨x,_,rfl,j,rfl⟩:=j;split at d
 case h_2=>simp at d
 rename_i e r;split at d
 case h_3=>simp at d
 case h_1=>
  simp only[Bj]at d;obtain⟨rfl,rfl⟩:=d;simp only[PR]at j;subst j;exact⟨.tup [],h,F,ρ,.inl (by simp[Gy,f,r,FQ]),by simp[PR],hr,zz,rfl,rfl,zc _,fun _ _=>.inl rfl⟩
 rename_i id sz off len cap;split at d
 case h_2=>simp at d
 rename_i i m s l O D;cases u:(zg sz s.sz&&zp 0 i.zero.length&&zg i.zero.length s.sz&&Det.Mz V.one i.zero)with
 |false=>rw[u]at d;simp at d
 |true=>
  rw[u]at d;simp only[zf,Gf]at u;obtain⟨⟨⟨A,L⟩,G⟩,Y⟩:=u;have A:=ze A;have G:=ze G;subst A;simp only[we]at d;split at d
  case h_2=>simp at d
  rename_i z P;simp only[Cu,w5]at d;obtain⟨J,rfl,rfl⟩:=d;obtain⟨b,n,y,h1,h2,⟨bs,fz,rfl,h3,h4,h5⟩,h6,_⟩:=hr.at D;have w:DC F s z i.zero:=Df (ET (F:=F) (ρ:=ρ) (N:=st.nx) i.zero) P;have g:=Ez.replicate w len;have q:=Ez.mB h3 g (a:=off) (by simpa using J);rw[zy]at q;have k:(l.take off++(zl len z++l.drop (off+len))).length=l.length:=by simp;omega
  have skip:Gy C.T h ts [x]=some (.tup [],h)->len=0->OK B h0 F ρ st h (Gd [.sl id s.sz off len cap]) (FQ<|Gy C.T h ts [x]) (.tup []) (st.setObj id<|.arr false m s<|l.take off++(zl len z++l.drop (off+len))):=by
   intro R h0;subst h0;have el:l.take off++(zl 0 z++l.drop (off+0))=l:=by simp
   refine⟨.tup [],h,F,ρ,.inl (by rw[R];rfl),by simp[PR],hr.same D h1 h2 rfl rfl (o':=.arr false m s _) ⟨bs,fz,rfl,?_,h4,?_⟩,zz,rfl,rfl,zc _,fun _ _=>.inl rfl⟩
   ·rw[el];exact h3
   ·rw[el];exact h5
  simp only[PR]at j;rcases j.2 b n h1 with⟨_,S,o,U,rfl⟩|⟨I,W,S,rfl|⟨E,rfl,_⟩⟩
  ·by_cases h0:len=0
   ·exact skip (by simp[Gy,f,r,h0]) h0
   ·have M:wr h b (off*s.sz) (F6 i.zero<|len*i.zero.length)=some (h.put b<|.cells (CN (off*s.sz) ((zl len i.zero).flatten) bs) m fz):=by
     rw[HW];refine NW h2 ?_ h4 ?_
     ·rw[g.1,zy, <-z6,h3.1];exact zj _ J
     ·exact g.Ul
    have K:zg len 0=false:=by rw[BA];simp[h0]
    refine⟨.tup [],h.put b<|.cells (CN (off*s.sz) ((zl len i.zero).flatten) bs) m fz,F,ρ,.inl ?_,by simp[PR],hr.set D h1 h2 rfl rfl (o':=.arr false m s _) ⟨_,fz,rfl,q,h4,k.trans h5⟩,zz,rfl,rfl,zc _,fun c _=>?_⟩
    ·simp only[Gy,f,r,K,wg,O,L,we,M,zt,FQ]
    ·rw[H.B6];by_cases e:c=b
     ·exact .inr ⟨id,by simp[Gd],n,e▸h1⟩
     ·rw[wc e];exact .inl rfl
  ·exact skip (by simp[Gy,f,r]) I
  ·exact skip (by simp[Gy,f,r]) I
theorem wC(hr:SR B h0 F ρ st.nx st.ob h){t:TypeId}{p:PV}{x:V}(d:PR F ρ st.nx p x){v:PV}(a:(Y1 C.T t p st).To v st'):OK B h0 F ρ st h [] (FQ<|H9 C.T h t x) v st':=by
 unfold Y1 at a;split at a
 case h_2=>simp at a
 rename_i s b;simp only[Bj]at a;obtain⟨rfl,rfl⟩:=a;obtain rfl:=FX d;have c:H9 C.T h t (.str s)=some (.ptr h.nx 0,h.push<|.siter s 0):=by simp[H9,Ti,b]
 rw[c];exact OK.new hr (o:=.siter s 0) (n:=0) rfl rfl LV
theorem Ada(hr:SR B h0 F ρ st.nx st.ob h){p:PV}{x:V}(j:PR F ρ st.nx p x){i:Bool}{v:PV}(a:(nO p i st).To v st'):i=true/\∃id off,p=.ptr id off/\OK B h0 F ρ st h [id] (FQ<|Oi h x i) v st':=by
 unfold nO at a;split at a
 case h_2=>simp at a
 rename_i id;split at a
 case h_2=>simp at a
 rename_i s pos k;obtain⟨b,n,y,d,f,g,m,_⟩:=hr.at k;simp only[aI]at g;subst g;simp only[PR]at j;obtain rfl:=j.2 b n d;refine⟨rfl,id,0,rfl,?_⟩;by_cases hp:pos<s.length
 ·rw[w4 hp]at a;cases a with
  |tt a=>
   simp only[Bj]at a;obtain⟨rfl,rfl⟩:=a;have l:Oi h (.ptr b 0) true=some (.tup [.bool true,i64 pos,.int .i32<|rune s pos],h.put b<|.siter s<|pos+KT s pos):=by
    simp only[Oi,f,HE,w4 hp,we];rfl
   refine⟨_,_,F,ρ,.inl (by rw[l];rfl),?_,hr.set k d f rfl rfl (o':=.siter s _) rfl,zz,rfl,rfl,zc _,fun c _=>?_⟩
   ·simp[PR,DC,i64]
   ·rw[H.B6];by_cases e:c=b
    ·exact .inr ⟨id,zd.2 rfl,n,e▸d⟩
    ·rw[wc e];exact .inl rfl
 ·rw[w8 hp]at a;cases a with
  |ff a=>
   simp only[Bj]at a;obtain⟨rfl,rfl⟩:=a;refine⟨.tup [.bool false],h,F,ρ,.inl ?_,by simp[PR],hr,zz,rfl,rfl,zc _,fun _ _=>.inl rfl⟩;simp only[Oi,f,HE,w8 hp,wg,FQ]
end
section
variable {B:Nat}{h0:H0}{F:Fz}{ρ:EA}{N:Nat}{C:Ctx}{st st':AQ}{h:H}
def Adm:List PV->List Nat
 | .eptr id _ _ _::_=>[id]
 |_=>[]
theorem yG(hr:SR B h0 F ρ st.nx st.ob h){ps:List PV}{xs:List V}(c:BJ F ρ st.nx ps xs){v:PV}(a:(XC ps st).To v st'):OK B h0 F ρ st h [] (BU h<|P9 xs) v st':=by
 unfold XC at a;split at a
 case h_2=>simp at a
 rename_i id sz off len;cases d:IU (st.obj id)with
 |false=>rw[d]at a;simp at a
 |true=>
  rw[d]at a;simp only[we,Cu,w5]at a;obtain⟨i,rfl,rfl⟩:=a;obtain⟨o,ho⟩:=YO d;obtain⟨b,n,z,g1,_⟩:=hr.at ho;simp only[BJ]at c;obtain⟨x,_,rfl,c,rfl⟩:=c;simp only[PR]at c;obtain⟨_,_,o',_,rfl⟩:len<=len/\off+len<=n/\∃o,(o=0\/o=sz)/\x=.sl b (off*sz) len len o:=by
   rcases c.2 b n g1 with g|⟨_,e,_⟩
   ·exact g
   ·cases e
  refine zm hr (v':=.ptr b<|off*sz) ?_ ?_
  ·have:zp 0 len=true:=by rw[Nat.blt_eq];exact i
   simp only[P9,this,we];rfl
  ·simp only[PR];refine⟨c.1,fun b' n' f=>?_⟩;rw[g1]at f;cases f;rfl
theorem nJ{k:IntKind}:∀ {l:List Int} {cs:List V},Ez F (.int k) l cs->cs=l.map (V.int k):=by
 intro l cs a;have c:cs.length=l.length:=by rw[a.1];simp[Sh.sz]
 apply List.ext_getElem
 ·rw[yo];exact c
 ·intro i b f;have d:i<l.length:=ae
  have:=a.2 i d;have e:(cs.drop<|i*Sh.sz (.int k)).take (Sh.sz<|.int k)=[cs[i]]:=by
   rw[show Sh.sz (.int k)=1 from rfl,yp,zr b];rfl
  rw[e]at this;simpa [DC]using this
theorem Pw:∀ {l:List Int},SX l=true->G8 (l.map<|V.int .u8)=some (Ye l)
 |[],_=>rfl
 |x::l,h=>by
  unfold SX at h;rw[yr,zf,zf,w5,w5]at h;have b:=Pw (l:=l) h.2;obtain⟨n,rfl⟩:=yk h.1.1;have a:zp n 256=true:=by rw[Nat.blt_eq];omega
  have c:Tl (.int .u8 (n:Int))=some (UInt8.ofNat n):=by
   show(bif zp n 256 then some (UInt8.ofNat n)else none)=_;rw[a];rfl
  rw[yt];unfold G8;rw[c,b];rfl
theorem XS{l:List Int}(h:SX l=true)(n:Nat):SX (l.take n)=true:=by
 unfold SX at*;rw[zq]at*;exact fun x a=>h x<|List.mem_of_mem_take a
theorem Ad6(hr:SR B h0 F ρ st.nx st.ob h){ts:Array TypeId}{ps:List PV}{xs:List V}(f:BJ F ρ st.nx ps xs){v:PV}(a:(jJ C.T ts.toList ps st).To v st'):OK B h0 F ρ st h (Adm ps) (FQ<|S6 C.T h ts.toList xs) v st':=by
 unfold jJ at a;split at a
 case h_2=>simp at a
 rename_i pt it id sz i n u;split at a
 case h_2=>simp at a
 rename_i e q s l hu L;split at a
 case h_2=>simp at a
 rename_i W D P A;cases I:(zg W.size 1&&zg e q)with
 |false=>rw[I]at a;simp at a
 |true=>
  rw[I]at a;simp only[we,Cu,zf,w5]at a;obtain⟨⟨⟨⟨⟨k1,w⟩,M⟩,J⟩,U⟩,rfl,rfl⟩:=a;subst k1;obtain⟨es,he⟩:=CU A;have Z:s=.int .u8:=by cases es;rfl
  subst Z;have:D=l:=by have:=he;cases this;rfl
  subst this;obtain⟨m,rfl⟩:=yk<|Int.le_of_lt w;simp only[Int.toNat_natCast]at M J;obtain⟨b,n',z,h1,h2,⟨cs,fz,rfl,h3,h4,h5⟩,h6,_⟩:=hr.at L;have E:=h6 rfl;simp only[BJ]at f;obtain⟨x,_,rfl,f,y,_,rfl,hy,rfl⟩:=f;obtain rfl:=C5 hy;simp only[PR]at f;obtain rfl:=f.2 b n' h1;have hB:=(hr.own id b n' h1).2;have G:b∉h0.pin:=fun hp=>(hr.pn b hp).2.2 id n' h1
  have d:∀j oj m,AS (G1 st.ob id) j=some oj->BI ρ id none j≠some (b,m):=by
   intro j oj m r g;rw[DN]at r;split at r
   ·cases r
   ·rename_i k;simp only[BI,k,vf]at g;exact k<|hr.inj j id oj _ b m n' r L g h1
  have p:=hr.del id;have o:=nJ h3;have t:cs.take m=(D.take m).map (V.int .u8):=by rw[o,List.map_take]
  have R:=Pw<|XS U m;have S:S6 C.T h ts.toList [.ptr b<|0*sz+0,.int .i64 (m:Int)]=some (.str<|Ye<|D.take m,h.kill b):=by
   rw[z7];unfold S6;rw[u];show(match C.T.und pt,h.get b with
    |some (.pointer e),some (.cells cs q fz)=>(match C.T.inf e,G8 (cs.take m)with
     |some i,some l=>bif zg i.size 1&&zg e q&&zp 0 m&&zi m cs.length&&zi m 9223372036854775807&&zi fz.2 fz.1 then some (V.str l,h.kill b)else none
     |_,_=>none)
    |_,_=>none)=_
   rw[hu,h2];show(match C.T.inf e,G8 (cs.take m)with
    |some i,some l=>bif zg i.size 1&&zg e q&&zp 0 m&&zi m cs.length&&zi m 9223372036854775807&&zi fz.2 fz.1 then some (V.str l,h.kill b)else none
    |_,_=>none)=_
   rw[P,t,R];have w:(0:Int)<(m:Int):=w;have c1:zp 0 m=true:=by rw[Nat.blt_eq];omega
   have O:zi m cs.length=true:=zn (by rw[o,yo];exact M);have c3:zi m 9223372036854775807=true:=zn J;have Y:zi fz.2 fz.1=true:=zn h4;simp only[I,c1,O,c3,Y,yi,we]
  rw[S];refine⟨_,_,F,BI ρ id none,.inl rfl,Nh _,p.kill d E hB G,Le.JV id,rfl,rfl,zc _,fun c _=>?_⟩;rw[H.C6];by_cases K:c=b
  ·exact .inr ⟨id,zd.2 rfl,n',K▸h1⟩
  ·rw[wc K];exact .inl rfl
end
section
variable {B:Nat}{h0:H0}{C:Ctx}{F F1 F':Fz}{ρ:EA}{N:Nat}{st st':AQ}{fr:Fr}{h h':H}
def PC(F:Fz)(p:PV)(v:V):Prop:=∀ρ N,PR F ρ N p v
def Na(F:Fz)(ps:List PV)(vs:List V):Prop:=∀ρ N,BJ F ρ N ps vs
theorem Le.gQ(a:∀b cs,F b=some cs->F1 b=some cs):Le F ρ N F1 ρ N:=⟨a,fun _ _=>.inl rfl,zc _⟩
theorem PC.mono(a:∀b cs,F b=some cs->F1 b=some cs){p:PV}{v:V}(hp:PC F p v):PC F1 p v:=fun ρ N=>(hp ρ N).mono<|Le.gQ a
theorem Na.cons{p:PV}{ps:List PV}{v:V}{vs:List V}(a:PC F p v)(b:Na F ps vs):Na F (p::ps) (v::vs):=fun ρ N=>(Bo ..).2 ⟨a ρ N,b ρ N⟩
theorem Na.dc{s:Sh}{ps:List PV}{vs:List V}{x:s.T}(hp:Na F ps vs)(a:Dv s ps=some x):DC F s x vs:=Df (hp (fun _=>none) 0) a
theorem PC.Cx:∀ {s:Sh} {x:s.T} {cs:List V},DC F s x cs->(s.RV=true->PC F (Cx s x) (.agg cs))/\(s.RV=false->∀v,cs=[v]->PC F (Cx s x) v)
 | .pair a b,x,cs,h=>⟨fun _ ρ N=>by unfold yv PR;exact⟨cs,rfl,Dl h⟩,fun e=>by cases e⟩
 | .unit,x,cs,h=>⟨fun _ ρ N=>by simp only[DC]at h;subst h;unfold yv PR;exact⟨[],rfl,by simp⟩,fun e=>by cases e⟩
 | .int _,x,cs,h=>⟨fun e=>(by cases e),fun _ v c ρ N=>by subst c;unfold yv PR;exact h⟩
 | .bool,x,cs,h=>⟨fun e=>(by cases e),fun _ v c ρ N=>by subst c;unfold yv PR;exact h⟩
 | .str,x,cs,h=>⟨fun e=>(by cases e),fun _ v c ρ N=>by subst c;unfold yv PR;exact h⟩
 | .list _,x,cs,h=>⟨fun e=>(by cases e),fun _ v c ρ N=>by subst c;unfold yv PR;exact h⟩
 | .nlist _,x,cs,h=>⟨fun e=>(by cases e),fun _ v c ρ N=>by subst c;unfold yv PR;exact h⟩
 | .fnv,x,cs,h=>⟨fun e=>(by cases e),fun _ v c ρ N=>by
   subst c;simp only[DC,zx,ve]at h;subst h;unfold yv;cases (x:Option Fn)<;>simp[PR]⟩
 | .ptr s,x,cs,h=>⟨fun e=>(by cases e),fun _ v c ρ N=>by
   subst c;simp only[DC]at h;obtain⟨b,o,j,d,i,f,g⟩:=h;unfold yv PR;exact⟨b,o,j,List.singleton_inj.1 d,i,f,g⟩⟩
theorem SR.Aeu{ob a:Ob}(hr:SR B h0 F ρ N ob h)(c:∀j,AS a j=AS ob j):SR B h0 F ρ N a h:=
 ⟨fun id o f=>hr.obj id o<|c id▸f,fun id id' o o' b n n' e g=>hr.inj id id' o o' b n n' (c id▸e)<|c id'▸g,hr.frz,hr.own,fun id d=>hr.dead id<|c id▸d,hr.old,hr.lt,hr.le,hr.fo,hr.gl,hr.pn⟩
theorem Acp{s:Sh}{l:List s.T}{cs:List V}{b:Nat}(j:F b=some cs)(e:Ez F s l cs){off len:Nat}(d:off+len<=l.length){cap o:Nat}(c:len<=cap)(k:o=0\/o=s.sz):
  DC F (.list s) ((l.drop off).take len) [.sl b (off*s.sz) len cap o]:=by
 have a:((l.drop off).take len).length=len:=by simp;omega
 simp only[DC];refine⟨_,rfl,.inr ⟨b,off*s.sz,cap,o,cs,by rw[a],by rw[a];exact c,j,?_,k,fun i f=>?_⟩⟩
 ·rw[a,e.1, <-z6];exact zj _ d
 ·rw[a]at f;have g:=e.2 (off+i) ae;have m:((l.drop off).take len)[i]=l[off+i]'ae:=by simp
  rw[m, <-z6];exact g
theorem MK(st:AQ)(p:PV):(BO st p).nx=st.nx/\(BO st p).fr=st.fr/\(BO st p).n=st.n:=by
 unfold BO;split
 ·split<;>exact⟨rfl,rfl,rfl⟩
 ·exact⟨rfl,rfl,rfl⟩
theorem DM:∀(ps:List PV) (st:AQ),(BB ps st).nx=st.nx/\(BB ps st).fr=st.fr/\(BB ps st).n=st.n
 |[],_=>⟨rfl,rfl,rfl⟩
 |p::ps,st=>by
  obtain⟨a,c,b⟩:=DM ps<|BO st p;obtain⟨g1,g2,g3⟩:=MK st p;exact⟨a.trans g1,c.trans g2,b.trans g3⟩
theorem JM:∀(ps a:List PV) (st:AQ),BB (ps++a) st=BB a (BB ps st)
 |[],_,_=>rfl
 |p::ps,a,st=>JM ps a<|BO st p
def Ep:Option Obj->Option Obj->Prop
 |some (.arr _ e s l),o=>∃fz,o=some (.arr fz e s l)
 |a,b=>b=a
theorem Ep.refl(o:Option Obj):Ep o o:=by
 cases o with
 |none=>rfl
 |some o=>cases o<;>first|rfl|exact⟨_,rfl⟩
theorem N1(st:AQ)(p:PV)(j:Nat):Ep (st.obj j) ((BO st p).obj j):=by
 unfold BO;split
 case h_2=>exact Ep.refl _
 split
 case h_2=>exact Ep.refl _
 rename_i id _ _ _ _ _ fz e s l a;show Ep (AS st.ob j)<|AS (DZ st.ob id<|.arr true e s l) j;rw[Hv _ _ _ _<|by show(st.obj id).isSome=true;rw[a];rfl];split
 ·rename_i b;subst b;show Ep (st.obj j) _;rw[a];exact⟨_,rfl⟩
 ·exact Ep.refl _
theorem rV{st st':AQ}(h:∀id,Ep (st.obj id)<|st'.obj id)(p:PV):B4 st' p=B4 st p:=by
 unfold B4;cases p<;>try rfl
 rename_i id sz off len cap;have:=h id;cases a:st.obj id with
 |none=>rw[a]at this;simp only[a,show st'.obj id=none from this]
 |some o=>
  rw[a]at this;cases o with
  |arr fz e s l=>
   obtain⟨fz',b⟩:=this;simp only[a,b]
  |box _=>simp only[a,show st'.obj id=_ from this]
  |tbox _ _=>simp only[a,show st'.obj id=_ from this]
  |map _ _ _=>simp only[a,show st'.obj id=_ from this]
  |siter _ _=>simp only[a,show st'.obj id=_ from this]
  |lp _ _ _ _ _ _ _ _=>simp only[a,show st'.obj id=_ from this]
theorem M9{st st':AQ}(h:∀id,Ep (st.obj id)<|st'.obj id):∀ps:List PV,Dr st' ps=Dr st ps
 |[]=>rfl
 |p::ps=>by unfold Dr;rw[rV h p,M9 h ps]
theorem Ep.trans{a b c:Option Obj}(d:Ep a b)(f:Ep b c):Ep a c:=by
 cases a with
 |none=>have:b=none:=d;subst this;exact f
 |some o=>
  cases o with
  |arr fz e s l=>obtain⟨fz',rfl⟩:=d;exact f
  |box _=>have:b=_:=d;subst this;exact f
  |tbox _ _=>have:b=_:=d;subst this;exact f
  |map _ _ _=>have:b=_:=d;subst this;exact f
  |siter _ _=>have:b=_:=d;subst this;exact f
  |lp _ _ _ _ _ _ _ _=>have:b=_:=d;subst this;exact f
theorem NY:∀(ps:List PV) (st:AQ) (id:Nat),Ep (st.obj id)<|(BB ps st).obj id
 |[],_,_=>Ep.refl _
 |p::ps,st,id=>(N1 st p id).trans<|NY ps (BO st p) id
theorem VW{st st':AQ}(h:∀id,Ep (st.obj id)<|st'.obj id)(s:Sh)(p:PV):FG st' s p=FG st s p:=by
 unfold FG;rw[M9 h]
theorem NK{st st':AQ}(h:∀id,Ep (st.obj id)<|st'.obj id):∀(l:List Sh) (ps:List PV),Dt st' l ps=Dt st l ps
 |[],[]=>rfl
 |[],_::_=>rfl
 |[a],[p]=>VW h a p
 |[a],[]=>rfl
 |[a],_::_::_=>rfl
 |a::b::l,[]=>rfl
 |a::b::l,p::ps=>by unfold Dt;rw[VW h a p,NK h (b::l) ps]
theorem NV(hr:SR B h0 F ρ st.nx st.ob h){p:PV}{v:V}(hp:PR F ρ st.nx p v):
  ∃F1,SR B h0 F1 ρ (BO st p).nx (BO st p).ob h/\(∀b cs,F b=some cs->F1 b=some cs)/\∀x,B4 st p=some (true,x)->PC F1 x v:=by
 have same:∀ {q:PV},(∀x,B4 st q=some (true,x)->PC F x v)->BO st q=st->∃F1,SR B h0 F1 ρ (BO st q).nx (BO st q).ob h/\(∀b cs,F b=some cs->F1 b=some cs)/\∀x,B4 st q=some (true,x)->PC F1 x v:=
  fun D P=>⟨F,by rw[P];exact hr,fun _ _ h=>h,D⟩
 cases p with
 |sl id sz off len cap=>
  cases d:st.obj id with
  |none=>exact same (fun x a=>by simp[B4,d]at a) (by simp[BO,d])
  |some o=>
   cases o with
   |box _=>exact same (fun x a=>by simp[B4,d]at a) (by simp[BO,d])
   |tbox _ _=>exact same (fun x a=>by simp[B4,d]at a) (by simp[BO,d])
   |map _ _ _=>exact same (fun x a=>by simp[B4,d]at a) (by simp[BO,d])
   |siter _ _=>exact same (fun x a=>by simp[B4,d]at a) (by simp[BO,d])
   |lp _ _ _ _ _ _ _ _=>exact same (fun x a=>by simp[B4,d]at a) (by simp[BO,d])
   |arr fz e s l=>
    obtain⟨b,n,x,D,P,⟨cs,fz',rfl,Z,h5,h6⟩,h7,h8⟩:=hr.at d;have E:BO st (.sl id sz off len cap)=st.setObj id (.arr true e s l):=by simp[BO,d]
    have r:∀j,AS (DZ st.ob id<|.arr true e s l) j=if j=id then some (.arr true e s l)else AS st.ob j:=fun j=>Hv _ _ _ _ (by show(st.obj id).isSome=true;rw[d];rfl)
    have fin:∀ {G:Fz},G b=some cs->(∀b cs,F b=some cs->G b=some cs)->∀x,B4 st (.sl id sz off len cap)=some (true,x)->PC G x v:=by
     intro G hG hFG x a ρ' N';simp only[B4,d]at a;cases u:zg sz s.sz with
     |false=>rw[u]at a;simp at a
     |true=>
      rw[u]at a;simp only[we,zh,z8,w5]at a;obtain⟨A,rfl⟩:=a;have u:=ze u;subst u;unfold PR;simp only[PR]at hp;rcases hp.2 b n D with⟨K,R,o,U,rfl⟩|⟨rfl,rfl,U,rfl|⟨L,rfl,k4⟩⟩
      ·exact Acp hG (Z.mono hFG) A K U
      ·simp[DC]
      ·simp only[List.take_zero,DC];refine⟨_,rfl,.inr ⟨b,L,0,0,cs,rfl,zc _,hG,?_,.inl rfl,fun i hi=>by simp at hi⟩⟩;simp only[List.length_nil,z7,Nat.add_zero];rw[Z.1];exact Nat.le_trans k4 (zj _<|by rw[h6];exact U)
    cases I:fz with
    |true=>
     subst I;obtain⟨cs',t',fz2,K,R⟩:=h8 rfl;cases K;refine⟨F,?_,fun _ _ h=>h,fin R<|fun _ _ h=>h⟩;rw[E];refine SR.Aeu hr fun j=>?_
     show AS (DZ st.ob id _) j=_;rw[r];split
     ·rename_i O;subst O;exact d.symm
     ·rfl
    |false=>
     subst I;have T:F b=none:=h7 rfl;have f:∀c cs',F c=some cs'->(fun c=>if c=b then some cs else F c) c=some cs':=by
      intro c cs' w;have:c≠b:=fun e=>by rw[e,T]at w;cases w
      simp[this,w]
     refine⟨fun c=>if c=b then some cs else F c,?_,f,fin (by simp) f⟩;rw[E];have A:Le F ρ st.nx (fun c=>if c=b then some cs else F c) ρ st.nx:=Le.gQ f;have z:∀k ok,AS (DZ st.ob id<|.arr true e s l) k=some ok->∃o2,AS st.ob k=some o2:=by
      intro k ok W;rw[r]at W;by_cases ek:k=id
      ·exact⟨_,ek▸d⟩
      ·rw[wc ek]at W;exact⟨ok,W⟩
     refine⟨fun j oj g=>?_,fun i j oi oj c m m' hi g S Y=>?_,fun c cs' w=>?_,hr.own,fun j g=>?_,hr.old,hr.lt,hr.le,fun c cs' w=>?_,hr.gl,hr.pn⟩
     ·have g:AS (DZ st.ob id<|.arr true e s l) j=some oj:=g;rw[r]at g;by_cases O:j=id
      ·subst O;simp only[wk,zh]at g;subst g;refine⟨b,n,_,D,P,⟨cs,fz',rfl,Z.mono f,h5,h6⟩,fun e=>(by cases e),fun _=>⟨cs,_,_,rfl,by simp⟩⟩
      ·rw[wc O]at g;obtain⟨c,m,y,S,Y,g3,g4,g5⟩:=hr.obj j oj g;have M:c≠b:=fun J=>O<|hr.inj j id oj _ c m n g d S<|J▸D
       exact⟨c,m,y,S,Y,g3.mono A,fun e=>by simp[M,g4 e],fun e=>by obtain⟨a1,a2,a3,a4,a5⟩:=g5 e;exact⟨a1,a2,a3,a4,by simp[M,a5]⟩⟩
     ·obtain⟨_,K⟩:=z i oi hi;obtain⟨_,R⟩:=z j oj g;exact hr.inj i j _ _ c m m' K R S Y
     ·split at w
      ·rename_i J;cases w;subst J;exact⟨_,_,P⟩
      ·exact hr.frz c cs' w
     ·have g:AS (DZ st.ob id<|.arr true e s l) j=none:=g;rw[r]at g;split at g
      ·cases g
      ·exact hr.dead j g
     ·split at w
      ·rename_i J;subst J;exact .inr (hr.own id c n D).2
      ·exact hr.fo c cs' w
 |dat s x=>exact same (fun y t ρ' N'=>by simp only[B4,zh,z8,true_and]at t;subst t;unfold PR at hp ⊢;exact hp) rfl
 |bl b=>exact same (fun y t ρ' N'=>by simp only[B4,zh,z8,true_and]at t;subst t;unfold PR at hp ⊢;exact hp) rfl
 |nil=>exact same (fun y t ρ' N'=>by simp only[B4,zh,z8,true_and]at t;subst t;unfold PR at hp ⊢;exact hp) rfl
 |Bb s x off=>exact same (fun y t ρ' N'=>by simp only[B4,zh,z8,true_and]at t;subst t;unfold PR at hp ⊢;exact hp) rfl
 |any|ub|yl _|nilp|nilm|nilf|nili|agg _|tup _|ptr _ _|eptr _ _ _ _|mp _|fn _ _ _=>exact same (fun x a=>by simp[B4]at a) rfl
theorem Jg:∀ {ps:List PV} {vs:List V} {st:AQ} {F:Fz},SR B h0 F ρ st.nx st.ob h->BJ F ρ st.nx ps vs->
  ∃F1,SR B h0 F1 ρ (BB ps st).nx (BB ps st).ob h/\(∀b cs,F b=some cs->F1 b=some cs)/\∀xs,Dr st ps=some (true,xs)->Na F1 xs vs
 |[],vs,st,F,hr,hp=>⟨F,hr,fun _ _ h=>h,fun xs a=>by
  cases a;have j:vs=[]:=by simpa using hp
  subst j;intro ρ' N';simp⟩
 |p::ps,vs,st,F,hr,hp=>by
  simp only[BJ]at hp;obtain⟨v,vs,rfl,i,r⟩:=hp;obtain⟨F1,g1,g2,g3⟩:=NV hr i;have f:BJ F1 ρ (BO st p).nx ps vs:=by rw[(MK st p).1];exact r.mono<|Le.gQ g2
  obtain⟨m,s,g,q⟩:=Jg g1 f;refine⟨m,s,fun b cs l=>g b cs<|g2 b cs l,fun xs a=>?_⟩;unfold Dr at a;split at a
  case h_2=>cases a
  rename_i c x d e k o;simp only[zh,z8,zf]at a;obtain⟨⟨rfl,rfl⟩,rfl⟩:=a;exact Na.cons ((g3 x k).mono g) (q e (by rw[M9<|N1 st p];exact o))
theorem lJ(hr:SR B h0 F ρ st.nx st.ob h){t:TypeId}{n:Nat}{l:List (Nat×PV)}{l':List (Nat×V)}(G:PRn F ρ st.nx l l'){v:PV}(a:(UR C.T t n l st).To v st'):OK B h0 F ρ st h [] (FQ<|Fj C.T h t n l') v st':=by
 unfold UR at a;split at a
 case h_2=>simp at a
 rename_i e M;split at a
 case h_2=>simp at a
 rename_i i s I Y;cases p:(zi (Nat.mul n i.size) 16777216&&zp 0 i.zero.length&&zg i.zero.length i.size&&zg i.size s.sz)with
 |false=>rw[p]at a;simp at a
 |true=>
  rw[p]at a;simp only[zf]at p;obtain⟨⟨⟨L,E⟩,m⟩,K⟩:=p;simp only[we]at a;split at a
  case h_2=>simp at a
  rename_i cs j;split at a
  case h_2=>
   split at a
   case h_2=>simp at a
   rename_i c cs' P;split at a
   case h_2=>simp at a
   rename_i el f;simp only[Cu]at a;obtain⟨rfl,rfl,rfl⟩:=a;have z:=ze m;have A:=ze K;have u:BJ F ρ st.nx (K1 (i.zero.map Yg) n) (F6 i.zero<|n*i.size):=by
    rw[<-z,HW];exact Lh _ _
   obtain⟨g,k,y⟩:=Kr hr G u j;have b:g.length=n*s.sz:=by
    rw[<-A];rw[Nl k];simp[F6]
   obtain⟨F1,R,U,S⟩:=Jg hr y;obtain⟨D,q⟩:=Ko (S cs' P ρ st.nx) f b;have w:Fj C.T h t n l'=some (.sl h.nx 0 n n 0,h.push<|.cells g e (0,0)):=by
    have d:zi (n*i.size) 16777216=true:=L;simp only[Fj,M,I,d,E,m,yi,we,k,Ja]
   rw[w];obtain⟨J,O,W⟩:=DM cs st;have r:=OK.new (F:=F1) (ρ:=ρ) (st:=BB cs st) R (o:=.arr false e s el) (x:=.cells g e (0,0)) (n:=n) (v:=.sl (BB cs st).nx s.sz 0 n none) (v':=.sl h.nx 0 n n 0) rfl ⟨_,_,rfl,q.mono<|fun _ _ h=>h,zc _,D⟩ (PU<|.inl rfl);obtain⟨v',h',F',ρ',q1,q2,q3,q4,q5,q6,q7,q8⟩:=r;rw[J]at q2;exact⟨v',h',F',ρ',q1,q2,q3,(by rw[J]at q4;exact(Le.gQ U).trans q4),q5.trans O,q6.trans W,q7,q8⟩
  rename_i el f;simp only[Bj]at a;obtain⟨rfl,rfl⟩:=a;have z:=ze m;have A:=ze K;have u:BJ F ρ st.nx (K1 (i.zero.map Yg) n) (F6 i.zero<|n*i.size):=by
   rw[<-z,HW];exact Lh _ _
  obtain⟨g,k,y⟩:=Kr hr G u j;have b:g.length=n*s.sz:=by
   rw[<-A];rw[Nl k];simp[F6]
  obtain⟨D,q⟩:=Ko y f b;have w:Fj C.T h t n l'=some (.sl h.nx 0 n n 0,h.push<|.cells g e (0,0)):=by
   have d:zi (n*i.size) 16777216=true:=L;simp only[Fj,M,I,d,E,m,yi,we,k,Ja]
  rw[w];exact OK.new hr (o:=.arr false e s el) (n:=n) rfl ⟨_,_,rfl,q.mono<|fun _ _ h=>h,zc _,D⟩ (PU<|.inl rfl)
end
section
variable {B:Nat}{h0:H0}{F:Fz}{ρ:EA}{N:Nat}{C:Ctx}{st st':AQ}{fr:Fr}{h h':H}
theorem Er{x:Operand}{k:PV->PO}{v:PV}:(v1 st x k).To v st'↔∃p,RH st x=some p/\(k p).To v st':=by
 unfold v1;cases RH st x with
 |none=>simp
 |some p=>simp
theorem pN(b:FP F ρ N st fr){x:Option Operand}{k:Option PV->PO}{v:PV}(a:(o1 st x k).To v st'):∃p y,Xs C fr x=some y/\Xp F ρ N p y/\(k p).To v st':=by
 unfold o1 at a;cases x with
 |none=>exact⟨none,none,rfl,rfl,a⟩
 |some x=>
  obtain⟨p,c,d⟩:=Er.1 a;obtain⟨y,g1,g2⟩:=Cn (C:=C) b c;exact⟨some p,some y,by simp[Xs,g1],⟨y,rfl,g2⟩,d⟩
theorem eU(hr:SR B h0 F ρ st.nx st.ob h){b:Builtin}{ts:Array TypeId}{ps:List PV}{xs:List V}(c:BJ F ρ st.nx ps xs){v:PV}(a:(JB C.T b ts ps st).To v st'):
  OK B h0 F ρ st h (match b with| .append| .clear=>Gd ps| .unsafeString=>Adm ps|_=>[]) (EJ C h b ts xs) v st':=by
 unfold JB at a;split at a
 case h_8=>simp at a
 case h_7=>exact Ad6 hr c a
 case h_6=>exact yG hr c a
 case h_5=>exact uN hr c a
 case h_1=>exact Afh hr c a
 case h_2=>exact pK hr c a
 case h_3=>exact Ae9 (g:=rG) hr (fun k x y=>by simp[rG,imax]) c a
 case h_4=>exact Ae9 (g:=rB) hr (fun k x y=>by simp[rB,Fa]) c a
theorem vB(hr:Rel B h0 F ρ st fr h){o:Oper}{v:PV}(e:(pop o.op C.T st).To v st'):
  ∃O,OK B h0 F ρ st h O (G3 C fr h o) v st'/\∀sp I,Hu sp st o.op=some I->∀i∈O,i∈I:=by
 have nil:∀ {d:Option OR} {op:Op},OK B h0 F ρ st h [] d v st'->∃O,OK B h0 F ρ st h O d v st'/\∀sp I,Hu sp st op=some I->∀i∈O,i∈I:=fun h=>⟨[],h,fun _ _ _ i M=>by cases M⟩
 have A:∀ {x p},RH st x=some p->∃y,ev C fr x=some y/\PR F ρ st.nx p y:=fun hp=>Cn hr.fp hp
 unfold pop at e;rw[Dk];unfold Hi;cases Y:o.op<;>rw[Y]at e<;>simp only[Kz,M0]at e<;>simp only
 case move x|assign x=>
  simp only[Yc,SC]at e;obtain⟨G,rfl⟩:=e;obtain⟨y,E,D⟩:=A G;refine nil ?_;rw[E];exact zm hr.sr rfl D
 case pick c a b=>
  simp only[kC,Er]at e;obtain⟨p,G,q,L,r,V,e⟩:=e;obtain⟨x,E,D⟩:=A G;obtain⟨y,g3,g4⟩:=A L;obtain⟨z,g5,g6⟩:=A V;obtain⟨t,rfl,R⟩:=Adb hr.sr D g4 g6 e;refine nil ?_;rw[E];simp only;cases t
  ·simpa [g5]using R
  ·simpa [g3]using R
 case alloc t=>exact nil<|AaH hr.sr e
 case box t x=>
  simp only[AaS,Er]at e;obtain⟨p,G,e⟩:=e;obtain⟨y,E,D⟩:=A G;split at e
  case h_2=>simp at e
  rename_i cs Z;cases hs:Det.Mz (KP st) cs with
  |false=>rw[hs]at e;simp at e
  |true=>
  rw[hs]at e;simp only[we,Bj]at e;obtain⟨rfl,rfl⟩:=e;refine nil ?_;rw[E];exact AeF hr.sr D Z (by rw[<-Gf];exact hs)
 case build t ps=>
  simp only[bF]at e;split at e
  case h_2=>simp at e
  rename_i l P;obtain⟨l',E,D⟩:=QV (C:=C) hr.fp P;refine nil ?_;rw[E];exact Aad hr.sr D e
 case buildSlice t n ps=>
  simp only[W6]at e;split at e
  case h_2=>simp at e
  rename_i l P;obtain⟨l',E,D⟩:=QV (C:=C) hr.fp P;refine nil ?_;rw[E];exact lJ hr.sr D e
 case load t x=>
  simp only[mJ,Er]at e;obtain⟨p,G,e⟩:=e;obtain⟨y,E,D⟩:=A G;refine nil ?_;rw[E];exact qL hr.sr D e
 case store t x y=>
  simp only[bR,Er]at e;obtain⟨p,G,q,L,e⟩:=e;obtain⟨a,E,D⟩:=A G;obtain⟨b,g3,g4⟩:=A L;obtain⟨id,hid,R⟩:=xD hr.sr D g4 e;refine⟨[id],by rw[E,g3];exact R,fun sp I g=>?_⟩;simp only[Hu,G]at g;rcases hid with⟨off,rfl⟩|⟨sz,j,off,rfl⟩<;>(simp only[zh]at g;subst g;intro i M;exact M)
 case nilCheck x=>
  simp only[Rd,Er]at e;obtain⟨p,G,e⟩:=e;obtain⟨y,E,D⟩:=A G;rw[E];split at e
  case h_4=>simp at e
  case h_1=>
   rename_i id off;cases P:IU (st.obj id)with
   |false=>rw[P]at e;simp at e
   |true=>
    rw[P]at e;simp only[we,Bj]at e;obtain⟨rfl,rfl⟩:=e;obtain⟨b,n,k1⟩:=hr.sr.live P;have J:=D;simp only[PR]at J;obtain rfl:=J.2 b n k1;exact nil<|zm hr.sr rfl D
  case h_2=>
   rename_i id sz j off;cases P:IU (st.obj id)with
   |false=>rw[P]at e;simp at e
   |true=>
    rw[P]at e;simp only[we,Bj]at e;obtain⟨rfl,rfl⟩:=e;obtain⟨b,n,k1⟩:=hr.sr.live P;have J:=D;simp only[PR]at J;obtain rfl:=J.2 b n k1;exact nil<|zm hr.sr rfl D
  case h_3=>
   simp only[Bj]at e;obtain⟨rfl,rfl⟩:=e;have J:=D;simp only[PR]at J;obtain⟨b,o',cs,rfl,_⟩:=J;exact nil<|zm hr.sr rfl D
 case binOp op t x y t2=>
  simp only[Aa8,Er]at e;obtain⟨p,G,q,L,e⟩:=e;obtain⟨a,E,D⟩:=A G;obtain⟨b,g3,g4⟩:=A L;refine nil ?_;rw[E,g3];split at e
  case h_2=>exact Afe hr.sr D g4 e
  rename_i r S;simp only[Bj]at e;obtain⟨rfl,rfl⟩:=e;unfold AbE at S;split at S
  case h_3=>cases S
  all_goals
   rename_i m hu;cases W:(Z7 x||Z7 y)with
   |false=>rw[W]at S;cases S
   |true=>
    rw[W]at S;cases S;simp only[PR]at D g4;subst D g4;exact zm hr.sr (by simp only[KJ,wW,hu,W,we,BU])<|oB _
 case unOp op t x=>
  simp only[Afm,Er]at e;obtain⟨p,G,e⟩:=e;obtain⟨y,E,D⟩:=A G;refine nil ?_;rw[E];exact Ag1 hr.sr D e
 case convert s d x=>
  simp only[jC,Er]at e;obtain⟨p,G,e⟩:=e;obtain⟨y,E,D⟩:=A G;refine nil ?_;rw[E];exact AcS hr.sr D e
 case makeFunc f a b=>
  simp only[qF]at e;split at e
  case h_2=>simp at e
  rename_i x y hx hy;simp only[Bj]at e;obtain⟨rfl,rfl⟩:=e;obtain⟨u,E,D⟩:=FB (C:=C) hr.fp hx;obtain⟨w,g3,g4⟩:=FB (C:=C) hr.fp hy;refine nil ?_;rw[E,g3];exact zm hr.sr rfl (by unfold PR;exact⟨_,_,rfl,D,g4⟩)
 case makeMap t r=>
  simp only[bJ]at e;split at e
  case h_2=>simp at e
  refine nil ?_;exact Aaa hr.sr e
 case lookup t x i ok=>
  simp only[WQ,Er]at e;obtain⟨p,G,q,L,e⟩:=e;obtain⟨a,E,D⟩:=A G;obtain⟨b,g3,g4⟩:=A L;refine nil ?_;rw[E,g3];exact mA hr.sr D g4 e
 case mapUpdate t m k x|insert t m k x=>
  simp only[Pz,Er]at e;obtain⟨p,G,q,L,r,V,e⟩:=e;obtain⟨a,E,D⟩:=A G;obtain⟨b,g3,g4⟩:=A L;obtain⟨c,g5,g6⟩:=A V;obtain⟨id,rfl,R⟩:=lT hr.sr D g4 g6 e;refine⟨[id],by rw[E,g3,g5];exact R,fun sp I g=>?_⟩;simp only[Hu,G,zh]at g;subst g;intro i M;exact M
 case makeSlice t l c=>
  simp only[pL,Er]at e;obtain⟨p,G,q,L,e⟩:=e;obtain⟨a,E,D⟩:=A G;obtain⟨b,g3,g4⟩:=A L;refine nil ?_;rw[E,g3];exact Adc hr.sr D g4 e
 case slice t x lo M mx=>
  simp only[cD,Er]at e;obtain⟨p,G,e⟩:=e;obtain⟨a,E,D⟩:=A G;obtain⟨l,l',k1,k2,e⟩:=pN (C:=C) hr.fp e;obtain⟨m,m',k3,k4,e⟩:=pN (C:=C) hr.fp e;obtain⟨n,n',k5,k6,e⟩:=pN (C:=C) hr.fp e;refine nil ?_;rw[E,k1,k3,k5];exact yH hr.sr D k2 k4 k6 e
 case fieldAddr t x f=>
  simp only[aY,Er]at e;obtain⟨p,G,e⟩:=e;obtain⟨y,E,D⟩:=A G;refine nil ?_;rw[E];exact uK hr.sr D e
 case field t x f=>
  simp only[ZM,Er]at e;obtain⟨p,G,e⟩:=e;obtain⟨y,E,D⟩:=A G;refine nil ?_;rw[E];exact Aaq hr.sr D e
 case indexAddr t x i=>
  simp only[ZY,Er]at e;obtain⟨p,G,q,L,e⟩:=e;obtain⟨a,E,D⟩:=A G;obtain⟨b,g3,g4⟩:=A L;refine nil ?_;rw[E,g3];exact vP hr.sr D g4 e
 case index t x i=>
  simp only[ZW,Er]at e;obtain⟨p,G,q,L,e⟩:=e;obtain⟨a,E,D⟩:=A G;obtain⟨b,g3,g4⟩:=A L;refine nil ?_;rw[E,g3];exact Aau hr.sr D g4 e
 case extract x i=>
  simp only[Sy,Er]at e;obtain⟨p,G,e⟩:=e;obtain⟨y,E,D⟩:=A G;refine nil ?_;rw[E];exact eA hr.sr D e
 case range t x=>
  simp only[cR,Er]at e;obtain⟨p,G,e⟩:=e;obtain⟨y,E,D⟩:=A G;refine nil ?_;rw[E];exact wC hr.sr D e
 case next x i=>
  simp only[rF,Er]at e;obtain⟨p,G,e⟩:=e;obtain⟨y,E,D⟩:=A G;obtain⟨rfl,id,off,rfl,R⟩:=Ada hr.sr D e;refine⟨[id],by rw[E];exact R,fun sp I g=>?_⟩;simp only[Hu]at g;cases g
 case call c=>
  simp only[TM]at e;split at e
  case h_1=>simp at e
  rename_i args K;obtain⟨args',E,D⟩:=FB (C:=C) hr.fp K;split at e
  case h_2=>simp at e
  case h_1=>
   rename_i b U;split at e
   case h_1=>
    obtain⟨id,qs,rfl,R⟩:=tP hr.sr D e;refine⟨[id],by rw[U,E];exact R,fun sp I g=>?_⟩;simp only[Hu,U,K,zh]at g;subst g;intro i M;exact M
   case h_2=>
   have:=eU hr.sr D e;refine⟨_,by rw[U,E];exact this,fun sp I g=>?_⟩;simp only[Hu,U,K]at g;cases b<;>simp only at g ⊢<;>try (first|(intro i M;cases M;done)|(cases g;done))
   case append=>
    cases args with
    |nil=>simp[Gd]
    |cons p ps=>cases p<;>simp only[zh]at g<;>subst g<;>(intro i M;exact M)
   case unsafeString=>
    cases args with
    |nil=>simp[Adm]
    |cons p ps=>cases p<;>first|(cases g;done)|(cases g;intro i M;exact M)
end
section
variable {B:Nat}{h0:H0}{F:Fz}{ρ:EA}{N:Nat}{X:AL}{st st':AQ}{fr:Fr}{h h':H}{Q:PV->Ob->Prop}{n:Nat}
@[simp] theorem Dz(st:AQ)(t:Nat)(p:PV)(s:Nat):(st.set t p).get s=if s=t then p else st.get s:=by
 unfold AQ.get AQ.set;grind [PM.Dz]
theorem Rel.set(hr:Rel B h0 F ρ st fr h){t:Nat}{p:PV}{x:V}(hp:PR F ρ st.nx p x):Rel B h0 F ρ (st.set t p) ⟨fr.n,fr.m.set t<|some x⟩ h:=by
 refine⟨⟨hr.fp.n,fun s=>?_⟩,hr.sr⟩;rw[Dz];unfold Fr.get;simp only[PM.Dz];split
 ·exact hp
 ·exact hr.fp.slot s
theorem Rel.note(hr:Rel B h0 F ρ st fr h){t:Nat}{p:PV}(hp:PR F ρ st.nx p (fr.get t)):Rel B h0 F ρ (st.set t p) fr h:=by
 refine⟨⟨hr.fp.n,fun s=>?_⟩,hr.sr⟩;rw[Dz];split
 ·rename_i e;subst e;exact hp
 ·exact hr.fp.slot s
theorem Rel.put(hr:Rel B h0 F ρ st fr h){d:Option Nat}{p:PV}{x:V}(hp:PR F ρ st.nx p x)(a:st.put d p=some st'):∃fr',fr.put d x=some fr'/\Rel B h0 F ρ st' fr' h/\st'.nx=st.nx/\st'.ob=st.ob:=by
 unfold AQ.put at a;unfold Fr.put;cases d with
 |none=>grind
 |some t=>
  simp only at a ⊢;have c:st.n=fr.n:=hr.fp.n;rw[c]at a;cases b:zp t fr.n with
  |false=>grind
  |true=>
   rw[b]at a;simp only[we,zh]at a;subst a;exact⟨_,rfl,hr.set hp,rfl,rfl⟩
structure DD(B:Nat)(h0:H0)(F:Fz)(ρ:EA)(N:Nat)(h:H)(st':AQ)(fr':Fr)(h':H)(F':Fz)(ρ':EA):Prop where
 rel:Rel B h0 F' ρ' st' fr' h'
 le:Le F ρ N F' ρ' st'.nx
 nx:h.nx<=h'.nx
theorem DD.refl(hr:Rel B h0 F ρ st fr h):DD B h0 F ρ st.nx h st fr h F ρ:=⟨hr,zz,zc _⟩
theorem DD.trans{F' f:Fz}{ρ' e:EA}{d:AQ}{fr' c:Fr}{g:H}(a:DD B h0 F ρ N h st' fr' h' F' ρ')(b:DD B h0 F' ρ' st'.nx h' d c g f e):DD B h0 F ρ N h d c g f e:=
 ⟨b.rel,a.le.trans b.le,Nat.le_trans a.nx b.nx⟩
def Aew(X:AL)(ρ:EA)(h:H)(args':List V):Cal->Cl->Prop
 | .fn g,c=>c=.fn g args'/\X.C.prim g=none/\∃i,X.C.fn g=some i
 | .rnd id,c=>∃b n ls,ρ id=some (b,n)/\h.get b=some (.loop ls)/\args'.length=ls.ps.size/\c=.rnd b ls (Hz ls.ps.toList args' ls.fr)
inductive Oj (X:AL) (ρ:EA) (h:H) (args':List V):Cal->List (V×H)->Prop where
 |Bi {g:Cal} {c:Cl} {l:List (V×H)} {M:Nat}:Aew X ρ h args' g c->(∀m,M<=m->Det.Bi X.C m c h=some l)->Oj X ρ h args' g l
 |prim {g:FuncId} {q:List V->H->Option (V×H)} {x:V×H}:X.C.prim g=some q->q args' h=some x->Oj X ρ h args' (.fn g) [x]
def FR(B:Nat)(h0:H0)(X:AL)(nd:Bool)(call:GM):Prop:=
 ∀ {Q:PV->Ob->Prop} {n:Nat} {g:Cal} {args:List PV} {st:AQ} {k:PV->AQ->Tr},Ev X Q n (call g args st k)->∀ {F:Fz} {ρ:EA} {fr:Fr} {h:H} {args':List V},Rel B h0 F ρ st fr h->BJ F ρ st.nx args args'->
  ∃l,Oj X ρ h args' g l/\(nd=false->∃x,l=[x])/\
   ∀x∈l,∃n',n'<=n/\∃r st',Ev X Q n' (k r st')/\∃F' ρ',PR F' ρ' st'.nx r x.1/\DD B h0 F ρ st.nx h st' fr x.2 F' ρ'/\(∀a,g=.fn a->∀sp,X.sp a=some sp->∀b,b<h.nx->x.2.get b=h.get b)
theorem Ev.Fh{c:Bool}{a b:Tr}(d:Ev X Q n (.ite c a b)):(c=true/\Ev X Q n a)\/(c=false/\Ev X Q n b):=by
 cases d with
 |ite e f=>
  grind
theorem Ev.VC{a b:Tr}(c:Ev X Q n (.both a b)):Ev X Q n a/\Ev X Q n b:=by
 cases c with
 |both d e=>grind
theorem Ev.AG:¬Ev X Q n .fail:=fun h=>by cases h
theorem Ev.bV{v:PV}{ob:Ob}(a:Ev X Q n (.leaf v ob)):Q v ob:=by
 cases a with
 |leaf h=>exact h
theorem Oc(hr:Rel B h0 F ρ st fr h){ops:Array Oper}{o:Oper}{yes no:AQ->Tr}(a:Ev X Q n (guarded ops o st yes no)):
  ∃f,Rel B h0 F ρ f fr h/\f.nx=st.nx/\f.ob=st.ob/\((Bf fr ops o=true/\Ev X Q n (yes f))\/(Bf fr ops o=false/\Ev X Q n (no f))):=by
 unfold guarded at a;unfold Bf;cases r:o.guard with
 |none=>grind
 |some s=>
  obtain⟨j,g⟩:=s;rw[r]at a;simp only at a ⊢;cases u:(ops[j]?).bind (·.dst)with
  |none=>grind [Ev.AG]
  |some t=>
   rw[u]at a;simp only at a ⊢;rw[show st.n=fr.n from hr.fp.n]at a;cases k:zp t fr.n with
   |false=>grind [Ev.AG]
   |true=>
    rw[k]at a;have i:=hr.fp.slot t;split at a
    case h_1=>
     rename_i b d;rw[d]at i;rw[Qc i];grind
    case h_2=>
     rename_i b d;rw[d]at i;have m:=LJ i;have note:∀c:Bool,b=c->Rel B h0 F ρ (st.set t<|.bl c) fr h:=by
      rintro c rfl;exact hr.note (by rw[m];rfl)
     cases g with
     |true=>
      rcases a.Fh with⟨e,a⟩|⟨e,a⟩
      ·exact⟨_,note true e,rfl,rfl,ah⟩
      ·exact⟨_,note false e,rfl,rfl,ah⟩
     |false=>
      rcases a.Fh with⟨e,a⟩|⟨e,a⟩
      ·exact⟨_,note true e,rfl,rfl,ah⟩
      ·exact⟨_,note false e,rfl,rfl,ah⟩
    case h_5=>grind [Ev.AG]
    case h_4=>
     rename_i d;rw[d]at i;obtain⟨b,m⟩:=i;have note:∀c:Bool,b=c->Rel B h0 F ρ (st.set t<|.bl c) fr h:=by
      rintro c rfl;exact hr.note (by rw[m];rfl)
     obtain⟨q,p⟩:=a.VC;cases b with
     |true=>
      cases g with
      |true=>exact⟨_,note true rfl,rfl,rfl,ah⟩
      |false=>exact⟨_,note true rfl,rfl,rfl,ah⟩
     |false=>
      cases g with
      |true=>exact⟨_,note false rfl,rfl,rfl,ah⟩
      |false=>exact⟨_,note false rfl,rfl,rfl,ah⟩
    case h_3=>
     rename_i l d;rw[d]at i;simp only[PR]at i;grind
theorem Kg{d:Option Nat}{k:AQ->Tr}:∀ {l:PO},Ev X Q n (SK d k l)->∃u s g,l.To u s/\s.put d u=some g/\Ev X Q n (k g)
 | .bad,f=>wh f Ev.AG
 | .val u s,f=>by
  simp only[SK]at f;split at f
  ·rename_i s1 m;exact⟨u,s,s1,.val,m,f⟩
  grind [Ev.AG]
 | .ite c a b,f=>by
  rcases f.Fh with⟨rfl,e⟩|⟨rfl,e⟩
  ·obtain⟨u,s,s1,i,j⟩:=Kg e;exact⟨u,s,s1,.tt i,j⟩
  ·obtain⟨u,s,s1,i,j⟩:=Kg e;exact⟨u,s,s1,.ff i,j⟩
inductive Did (X:AL) (fr:Fr) (h:H) (o:Oper):List (V×H)->Prop where
 |val {x:V} {h':H}:G3 X.C fr h o=some (.val x h')->Did X fr h o [(x,h')]
 |skip {h':H}:G3 X.C fr h o=some (.skip h')->Did X fr h o [(.tup [],h')]
 |alts {l:List (V×H)}:G3 X.C fr h o=some (.alts l)->Did X fr h o l
 |call {g:FuncId} {args:List V} {l:List (V×H)} {M:Nat}:G3 X.C fr h o=some (.enter g args)->(∀m,M<=m->Bi X.C m (.fn g args) h=some l)->Did X fr h o l
 |round {b:Nat} {ls:LS} {f:Fr} {l:List (V×H)} {M:Nat}:G3 X.C fr h o=some (.round b ls f)->(∀m,M<=m->Bi X.C m (.rnd b ls f) h=some l)->Did X fr h o l
theorem Iz{nd:Bool}{call:GM}(j:FR B h0 X nd call)(hr:Rel B h0 F ρ st fr h){o:Oper}{k:AQ->Tr}(J:Ev X Q n (Ib X.C.T call o st k)):
  ∃l,Did X fr h o l/\((nd=false->(∃x,l=[x])/\∀l',G3 X.C fr h o≠some (.alts l'))/\((∀id a,NO st o.op≠ .yes (.rnd id) a)->∀b ls f,G3 X.C fr h o≠some (.round b ls f)))/\∀x∈l,∃n',n'<=n/\∃e,Ev X Q n' (k e)/\∃F' ρ' fr',fr.put o.dst x.1=some fr'/\DD B h0 F ρ st.nx h e fr' x.2 F' ρ'/\
   ∀y,Hu X.sp st o.op=some y->∀b,b<h.nx->x.2.get b=h.get b\/∃id∈y,∃m,ρ id=some (b,m):=by
 unfold Ib at J;split at J
 case h_2=>grind [Ev.AG]
 case h_1=>
  rename_i g args w;unfold NO at w;split at w
  case h_2=>cases w
  rename_i c W;split at w
  case h_2=>cases w
  rename_i f L;split at w
  case h_3=>cases w
  case h_2=>
   rename_i id ps R E;cases w;obtain⟨fv,f1,P⟩:=Cn (C:=X.C) hr.fp R;obtain⟨av,a1,a2⟩:=FB (C:=X.C) hr.fp E;simp only[PR]at P;obtain⟨l,hcd,hnd,hall⟩:=j J hr a2;obtain⟨hcd1,Z⟩:=hcd;obtain⟨b,m,ls,c1,c2,c3,rfl⟩:=hcd1;have d:G3 X.C fr h o=some (.round b ls<|Hz ls.ps.toList av ls.fr):=by
    simp_all [Dk,Hi,IG]
   refine⟨l,.round d Z,⟨ah,fun hno=>?_⟩,fun x I=>?_⟩
   ·grind [NO]
   obtain⟨n',U,r,st',p,F',ρ',hp,G,Y⟩:=hall x I;split at p
   case h_2=>grind [Ev.AG]
   rename_i e z;obtain⟨fr',A,K,O,S⟩:=G.rel.put hp z;refine⟨n',U,e,p,F',ρ',fr',A,⟨K,by rw[O];exact G.le,G.nx⟩,fun y v b hb=>?_⟩;grind [Hu]
  rename_i g' first cap ps R E
  cases w;obtain⟨fv,f1,P⟩:=Cn (C:=X.C) hr.fp R;obtain⟨av,a1,a2⟩:=FB (C:=X.C) hr.fp E;simp only[PR]at P;obtain⟨fa,fb,rfl,f3,f4⟩:=P;have D:BJ F ρ st.nx (first++ps++cap) (fa++av++fb):=(f3.append a2).append f4;obtain⟨l,hcd,hnd,hall⟩:=j J hr D;have M:Did X fr h o l/\(∀l',G3 X.C fr h o≠some (.alts l'))/\∀b ls f,G3 X.C fr h o≠some (.round b ls f):=by
   cases hcd with
   |Bi w Z=>
    obtain⟨rfl,V,i,hfn⟩:=w;have d:G3 X.C fr h o=some (.enter g'<|fa++av++fb):=by
     simp_all [Dk,Hi,IG]
    exact⟨.call d Z,ah,ah⟩
   |prim hq I=>
    rename_i q x;have d:G3 X.C fr h o=some (.val x.1 x.2):=by
     grind [Dk,Hi,IG,FQ]
    exact⟨.val d,ah,ah⟩
  refine⟨l,M.1,ah,fun x I=>?_⟩;obtain⟨n',U,r,st',p,F',ρ',hp,G,Y⟩:=hall x I;split at p
  case h_2=>grind [Ev.AG]
  rename_i e z;obtain⟨fr',A,K,O,S⟩:=G.rel.put hp z;refine⟨n',U,e,p,F',ρ',fr',A,⟨K,by rw[O];exact G.le,G.nx⟩,fun y v b hb=>?_⟩;simp only[W,Hu,L,R]at v;grind
 case h_3=>
  obtain⟨u,s,e,h1,h2,h3⟩:=Kg J;obtain⟨tch,⟨v',h',F',ρ',A,K,O,S,g5,g6,g7,g8⟩,htch⟩:=vB (C:=X.C) hr h1;have hrs:Rel B h0 F' ρ' s fr h':=⟨⟨by rw[g6];exact hr.fp.n,fun t=>by
   have:s.get t=st.get t:=by unfold AQ.get;rw[g5]
   rw[this];exact(hr.fp.slot t).mono S⟩,O⟩
  obtain⟨fr',k1,k2,k3,k4⟩:=hrs.put K h2;refine⟨[(v',h')],?_,ah,fun x I=>?_⟩
  ·rcases A with A|⟨A,rfl⟩
   ·exact .val A
   ·exact .skip A
  ·cases zd.1 I;refine⟨n,zc _,e,h3,F',ρ',fr',k1,⟨k2,by grind,g7⟩,fun y v b hb=>?_⟩;grind
theorem Adt{α a:Type}{f:α->Option (List a)}{x:α}:bl [x] f=f x:=by
 grind [bl]
theorem Kp{α d:Type}{f:Nat->Nat->α->Option (List d)}{P:d->Prop}{nd:Bool}{l:List α}(c:nd=false->∃x,l=[x])(h:∀a∈l,∃r M,(∀m,M<=m->∀q,M<=q->f m q a=some r)/\(nd=false->∃x,r=[x])/\∀y∈r,P y):
  ∃r M,(∀m,M<=m->∀q,M<=q->bl l (f m q)=some r)/\(nd=false->∃x,r=[x])/\∀y∈r,P y:=by
 cases nd with
 |false=>
  obtain⟨x,rfl⟩:=c rfl;simp_all [Adt]
 |true=>
  clear c;suffices hs:∃r M,(∀m,M<=m->∀q,M<=q->bl l (f m q)=some r)/\∀y∈r,P y by
   simp_all
  induction l with
  |nil=>exact⟨[],0,fun _ _ _ _=>rfl,(by simp)⟩
  |cons a l e=>
   obtain⟨r,M,i,_,g⟩:=h a (by simp);obtain⟨r2,M2,h3,h4⟩:=e (by simp_all);cases l with
   |nil=>exact⟨r,M,(by grind [bl]),g⟩
   |cons b l=>
    refine⟨r++r2,max M M2,fun m k q j=>?_,fun y o=>?_⟩
    ·grind [bl]
    grind
theorem RB{d:Option Nat}{P:Fr×H->Prop}:∀ {l:List (V×H)},(∀x∈l,∃fr',fr.put d x.1=some fr'/\P (fr',x.2))->∃r,Ix fr d l=some r/\(∀y∈r,P y)/\((∃x,l=[x])->∃y,r=[y])
 |[],_=>⟨[],rfl,(by simp),(by simp)⟩
 |x::l,h=>by
  obtain⟨fr',c,e⟩:=h x (by simp);obtain⟨r,h3,h4,_⟩:=RB (l:=l) (fun y b=>h y ah);refine⟨(fr',x.2)::r,?_,fun y b=>?_,fun⟨z,a⟩=>?_⟩
  ·grind [Ix]
  ·grind
  ·cases a;cases h3;simp
theorem Did.Ag5{l:List (V×H)}{o:Oper}{ops:Array Oper}(a:Did X fr h o l)(p:Bf fr ops o=true){P:Fr×H->Prop}(hp:∀x∈l,∃fr',fr.put o.dst x.1=some fr'/\P (fr',x.2)):
  ∃r M,(∀m,M<=m->step1 X.C (Bi X.C m) ops o fr h=some r)/\((∃x,l=[x])->∃y,r=[y])/\∀y∈r,P y:=by
 obtain⟨r,k,c,d⟩:=RB hp;cases a with
 |@val x h' a=>
  obtain⟨fr',j,e⟩:=hp _<|zd.2 rfl;exact⟨[(fr',h')],0,(by simp_all [step1,I9]),(by simp),ah⟩
 |@skip h' a=>
  obtain⟨fr',j,e⟩:=hp _<|zd.2 rfl;exact⟨[(fr',h')],0,(by simp_all [step1,I9]),(by simp),ah⟩
 |alts a=>exact⟨r,0,(by simp_all [step1,I9]),d,c⟩
 |@call g args l M a i=>exact⟨r,M,(by simp_all [step1,I9]),d,c⟩
 |@round b ls f l M a i=>exact⟨r,M,(by simp_all [step1,I9]),d,c⟩
theorem dQ{T:Cg}{h:H}{s d:TypeId}{b off:Nat}:Gz T h s d (.ptr b off)=none:=by
 simp_all [Gz]
theorem rA(hr:Rel B h0 F ρ st fr h){o:Oper}{v:PV}(a:Ab1 X.C.T st o.op=some v):OK B h0 F ρ st h [] (I9 X.C fr h o) v st:=by
 have fin:∀ {s d:TypeId} {x:Operand} {b off:Nat} {u:V},o.op=.convert s d x->ev X.C fr x=some (.ptr b off)->Bb X.C.T h s d (.ptr b off)=some u->PR F ρ st.nx v u->OK B h0 F ρ st h [] (I9 X.C fr h o) v st:=by
  intro s d x b off u c g f A;have p:G3 X.C fr h o=none:=by
   rw[Dk];unfold Hi;rw[c];simp only[g,dQ];rfl
  refine zm hr.sr (v':=u) ?_ A;grind [I9]
 unfold Ab1 at a;split at a
 case h_2=>cases a
 rename_i s d x c;split at a
 case h_3=>cases a
 case h_1=>
  rename_i t id off q w k;split at a
  case h_2=>cases a
  rename_i i tb cs r l;cases j:(zp 0 i.size&&zp off (Det.EY cs))with
  |false=>grind
  |true=>
   rw[j]at a;cases a;obtain⟨y,g,f⟩:=Cn (C:=X.C) hr.fp k;obtain⟨b,n,z,k1,k2,⟨bs,fz,rfl,k4,_⟩,_⟩:=hr.sr.at l;have m:=f;obtain rfl:=m.2 b n k1;refine fin c g ?_ f;unfold Bb;rw[Dw,k4.len]at j;grind
 case h_2=>
  rename_i u id off q w k;split at a
  case h_2=>cases a
  rename_i i e cs r l;cases j:(zp 0 i.size&&zi i.size (Det.EY cs)&&zg e u&&zg off 0)with
  |false=>grind
  |true=>
   rw[j]at a;cases a;obtain⟨y,g,f⟩:=Cn (C:=X.C) hr.fp k;obtain⟨b,n,z,k1,k2,⟨bs,fz,rfl,k4,_⟩,_⟩:=hr.sr.at l;have m:=f;obtain rfl:=m.2 b n k1;have h0:off=0:=by
    simp_all
   subst h0;refine fin c g (u:=.ptr b 0) ?_ f;unfold Bb;rw[Dw,k4.len]at j;grind
theorem WB(hr:Rel B h0 F ρ st fr h){o:Oper}{v:PV}{c:AQ}(a:TR X.C.T st o.op=some (v,c)):OK B h0 F ρ st h [] (I9 X.C fr h o) v c:=by
 unfold TR at a;split at a
 case h_2=>cases a
 rename_i s d x f;split at a
 case h_2=>cases a
 rename_i e l m r g;split at a
 case h_2=>cases a
 cases a;obtain⟨y,q,k⟩:=Cn (C:=X.C) hr.fp g;obtain rfl:=FX k;have i:G3 X.C fr h o=none:=by
  rw[Dk];unfold Hi;rw[f];simp only[q,Gz,m,r];rfl
 have g:I9 X.C fr h o=FQ (some (.sl h.nx 0 l.length l.length 1,h.push<|.cells (l.map fun b=>.int .u8<|.ofNat b.toNat) e (0,0))):=by
  simp_all [Bb,I9,UN]
 rw[g];refine OK.new hr.sr (o:=.arr false e (.int .u8)<|l.map fun b=>(b.toNat:Int)) (n:=l.length) rfl ⟨l.map fun b=>V.int .u8<|.ofNat b.toNat,(0,0),rfl,⟨by simp[Sh.sz],fun j u=>?_⟩,zc _,by simp⟩ ?_
 ·have p:j<l.length:=ah
  have t:((l.map fun b=>V.int .u8<|.ofNat b.toNat).drop<|j*1).take 1=[V.int .u8<|.ofNat (l[j]).toNat]:=by
   simp_all [zr]
  grind [DC,Sh.sz]
 simp_all [PR,BI]
theorem X0(hr:Rel B h0 F ρ st fr h){o:Oper}{v:PV}{a:AQ}(b:X4 X.C.T st o.op=some (v,a)):OK B h0 F ρ st h [] (I9 X.C fr h o) v a:=by
 grind [X4,WB,rA]
theorem W4{nd:Bool}{call:GM}(e:FR B h0 X nd call){ops:Array Oper}:∀ {l:List Oper} {n:Nat} {st:AQ} {F:Fz} {ρ:EA} {fr:Fr} {h:H} {k:AQ->Tr},Rel B h0 F ρ st fr h->Ev X Q n (prun X.C.T call ops l st k)->
  ∃r M,(∀m,M<=m->TV X.C (Bi X.C m) ops l fr h=some r)/\(nd=false->∃x,r=[x])/\∀x∈r,∃n',n'<=n/\∃a,Ev X Q n' (k a)/\∃F' ρ',DD B h0 F ρ st.nx h a x.1 x.2 F' ρ'
 |[],n,st,F,ρ,fr,h,k,hr,c=>⟨[(fr,h)],0,fun _ _=>rfl,(by simp),fun x hx=>by cases zd.1 hx;exact⟨n,zc _,st,c,F,ρ,DD.refl hr⟩⟩
 |o::d,n,st,F,ρ,fr,h,k,hr,c=>by
  unfold prun at c;obtain⟨a,j,e1,e2,q⟩:=Oc hr c;have fin:∀ {l:List (Fr×H)},(∃M,∀m,M<=m->step1 X.C (Bi X.C m) ops o fr h=some l)->(nd=false->∃x,l=[x])->
    (∀y∈l,∃n',n'<=n/\∃b,Ev X Q n' (prun X.C.T call ops d b k)/\∃F' ρ',DD B h0 F ρ st.nx h b y.1 y.2 F' ρ')->
    ∃r M,(∀m,M<=m->TV X.C (Bi X.C m) ops (o::d) fr h=some r)/\(nd=false->∃x,r=[x])/\∀x∈r,∃n',n'<=n/\∃a,Ev X Q n' (k a)/\∃F' ρ',DD B h0 F ρ st.nx h a x.1 x.2 F' ρ':=by
   rintro l ⟨M1,U⟩ w hl;obtain⟨r,M,I,A,J⟩:=Kp (f:=fun m _ (x:Fr×H)=>TV X.C (Bi X.C m) ops d x.1 x.2) (P:=fun x=>∃n',n'<=n/\∃a,Ev X Q n' (k a)/\∃F' ρ',DD B h0 F ρ st.nx h a x.1 x.2 F' ρ') w fun y G=>by
    obtain⟨n1,hn1,b,R,F1,ρ1,i⟩:=hl y G;obtain⟨r,M,I,J,A⟩:=W4 e i.rel R;refine⟨r,M,ah,J,fun z hz=>?_⟩;obtain⟨n2,hn2,st3,he3,F2,ρ2,hwent2⟩:=A z hz;exact⟨n2,ae,st3,he3,F2,ρ2,i.trans hwent2⟩
   refine⟨r,max M M1,fun m hm=>?_,A,J⟩;simp only[TV,U m ae];exact I m ae m ae
  rcases q with⟨E,c⟩|⟨E,c⟩
  ·unfold Abg at c;split at c
   case h_1=>
    rename_i v p hb;split at c
    case h_2=>grind [Ev.AG]
    rename_i b g;obtain⟨v',h',F',ρ',s,K,V,Y,g5,g6,g7,g8⟩:=X0 j hb;have W:Rel B h0 F' ρ' p fr h':=⟨⟨by rw[g6];exact j.fp.n,fun t=>by
     have:p.get t=a.get t:=by unfold AQ.get;rw[g5]
     rw[this];exact(j.fp.slot t).mono Y⟩,V⟩
    have O:∃u,PR F' ρ' p.nx v u/\∀fr',fr.put o.dst u=some fr'->∀m,step1 X.C (Bi X.C m) ops o fr h=some [(fr',h')]:=by
     rcases s with s|⟨s,rfl⟩
     ·exact⟨v',K,fun fr' L m=>by simp only[step1,E,we,s,L]⟩
     ·exact⟨.tup [],K,fun fr' L m=>by simp only[step1,E,we,s,L]⟩
    obtain⟨u,hu,Eu⟩:=O;obtain⟨fr',L,k2,k3,k4⟩:=W.put hu g;refine fin (l:=[(fr',h')]) ⟨0,ah⟩ (by simp) fun y G=>?_
    cases zd.1 G;exact⟨n,zc _,b,c,F',ρ',k2,by grind,g7⟩
   obtain⟨l,D,hnd,Z⟩:=Iz e j c;obtain⟨r,M,I,J,A⟩:=D.Ag5 (ops:=ops) (P:=fun y=>∃n',n'<=n/\∃b,Ev X Q n' (prun X.C.T call ops d b k)/\∃F' ρ',DD B h0 F ρ st.nx h b y.1 y.2 F' ρ') E ah;exact fin ⟨M,I⟩ ah A
  ·unfold NP at c;split at c
   case h_2=>grind [Ev.AG]
   rename_i b g;obtain⟨S,s,K,V,Y⟩:=j.put (x:=.tup []) (by simp[PR]) g;refine fin (l:=[(S,h)]) ⟨0,fun m _=>by simp only[step1,E,wg,s]⟩ (by simp) fun y G=>?_
   cases zd.1 G;exact⟨n,zc _,b,c,F,ρ,K,by rw[V,e1];exact zz,zc _⟩
mutual
theorem NQ:∀v:V,yu v v=true
 | .bool b=>by simp[yu]
 | .int k n=>by simp[yu]
 | .str s=>by simp[yu]
 | .nilp=>rfl
 | .ptr a i=>by simp[yu]
 | .nils=>rfl
 | .sl a b c d e=>by simp[yu]
 | .esl=>rfl
 | .es0=>rfl
 | .junk=>rfl
 | .nilm=>rfl
 | .map a=>by simp[yu]
 | .yld a=>by simp[yu]
 | .nilf=>rfl
 | .nili=>rfl
 | .fn f a b=>by simp only[yu,GJ a,GJ b,yc,wj]
 | .iface t x=>by simp only[yu,NQ x,yc];simp
 | .agg a=>by exact GJ a
 | .tup a=>by exact GJ a
theorem GJ:∀vs:List V,V.LK vs vs=true
 |[]=>rfl
 |v::vs=>by simp only[V.LK,NQ v,GJ vs,yc]
end
theorem rD{T:Cg}{t:TypeId}{a x:V}(c:FC T h t a=some x):∃b off o,a=.ptr b off/\h.get b=some o/\(∀g:H,g.get b=h.get b->FC T g t a=some x)/\
  ∀(g:H) cs t1 f t2 e,h.get b=some (.cells cs t1 f)->g.get b=some (.cells cs t2 e)->FC T g t a=some x:=by
 unfold FC at c;split at c
 case h_2=>cases c
 rename_i b off d i m r;have k:∃o,h.get b=some o:=by
  cases j:h.get b with
  |some o=>simp
  |none=>
   grind [rd]
 obtain⟨o,l⟩:=k;refine⟨b,off,o,rfl,l,fun g j=>?_,fun g cs t1 f t2 e q p=>?_⟩
 ·simp_all [FC,rd]
 ·unfold FC;grind [rd]
def S8(C:Ctx)(F:Fz)(bl:List Nat)(h:H)(fr:Fr)(o:Oper)(x:V):Prop:=
 ∀g:H,(∀b cs,F b=some cs->∃t fz,g.get b=some (.cells cs t fz))->(∀b∈bl,g.get b=h.get b)->∃z,G3 C fr g o=some (.val x z)
theorem X6:∀ {s:Sh} {x:s.T} {cs:List V} {b:Nat},DC F s x cs->V.map b∉cs
 | .int _,_,_,_,h,hm=>by grind [DC]
 | .bool,_,_,_,h,hm=>by grind [DC]
 | .str,_,_,_,h,hm=>by grind [DC]
 | .list s,l,_,_,h,hm=>by
  simp only[DC]at h;grind
 | .pair a b,x,_,_,h,hm=>by
  obtain⟨c,d,rfl,e,f⟩:=h;rcases List.mem_append.1 hm with hm|hm
  ·exact X6 e hm
  ·exact X6 f hm
 | .unit,_,_,_,h,hm=>by grind [DC]
 | .fnv,x,_,_,h,hm=>by simp only[DC]at h;grind
 | .ptr _,x,_,_,h,hm=>by simp only[DC]at h;grind
 | .nlist s,l,_,_,h,hm=>by
  simp only[DC]at h;grind
theorem Y0{s:Sh}{x:s.T}{b:Nat}(hp:PR F ρ N (.dat s x) (.map b)):False:=by
 exact X6 hp<|zd.2 rfl
theorem Yq{b:Nat}(hp:PR F ρ N .nil (.map b)):False:=by
 grind [PR]
theorem qR(hr:SR B h0 F ρ st.nx st.ob h){o:Oper}{c:Call}(e:o.op=.call c)(d:c.callee=.builtin .len){id sz off len:Nat}{cap:Option Nat}(f:NA st c.args.toList=some [.sl id sz off len cap]){u:PV}{s:AQ}
  (a:(pop o.op X.C.T st).To u s) {b:Nat} (hp:PR F ρ st.nx (.sl id sz off len cap) (.map b)):False:=by
 rw[e]at a;simp only[pop,TM,f,d,JB,yY,Vr,yt,List.map_nil,lz]at a;split at a;split at a
 case h_3=>
  cases g:IU (st.obj id)with
  |false=>simp_all
  |true=>
   obtain⟨b',n,i⟩:=hr.live g;grind [PR]
 all_goals first|(simp at a;done)|grind|(cases he)
theorem QC{T:Cg}{ts:Array TypeId}{a:V}{g:H}(c:∀b,a≠ .map b)(h:H):GK T g ts [a]=GK T h ts [a]:=by
 unfold GK;grind
theorem gF(hr:Rel B h0 F ρ st fr h){o:Oper}{x:V}(A:G3 X.C fr h o=some (.val x h)){l:List Nat}(G:yV st o.op=some l)(U:∃u s,(pop o.op X.C.T st).To u s):
  ∃bl,S8 X.C F bl h fr o x/\∀b∈bl,b<h.nx/\∃id∈l,id<st.nx/\∀y,ρ id=some y->y.1=b:=by
 unfold yV at G;rw[Dk]at A;unfold Hi at A;split at G
 case h_5=>cases G
 case h_4 t y i ok q=>
  simp only[q]at A;have f:∀g,G3 X.C fr g o=(match ev X.C fr y,ev X.C fr i with|some v,some u=>BU g (Fq X.C.T g t v u ok)|_,_=>none):=(by grind [Dk,Hi]);cases M:ev X.C fr y with
  |none=>grind
  |some a=>
   cases Y:ev X.C fr i with
   |none=>grind
   |some u=>
    rw[M,Y]at A;simp only at A;obtain⟨x',w,D⟩:=GV A;cases D;have E:∀g:H,entries g a=entries h a->Fq X.C.T g t a u ok=some x:=by
     grind [Fq]
    split at G
    case h_3=>cases G
    case h_1=>
     rename_i id hp;obtain⟨S,r,m⟩:=Cn (C:=X.C) hr.fp hp;rw[M]at r;cases r;have W:∃es,entries h a=some es:=by
      grind [Fq]
     obtain⟨es,D⟩:=W;cases G;by_cases K:∃b,a=.map b
     ·obtain⟨b,rfl⟩:=K;have I:∃ob,h.get b=some ob:=by
       cases L:h.get b with
       |none=>simp[entries,L]at D
       |some ob=>simp
      obtain⟨ob,I⟩:=I;simp only[PR]at m;refine⟨[b],fun g _ L=>⟨g,?_⟩,fun b' P=>?_⟩
      ·rw[f,M,Y];simp only;rw[E g<|by simp_all [entries]];rfl
      ·cases zd.1 P;refine⟨hr.sr.lt b ob I,id,(by simp),m.1,fun z hz=>?_⟩;grind
     ·refine⟨[],fun g _ L=>⟨g,?_⟩,(by simp)⟩;rw[f,M,Y];simp only;rw[E g ?_];rfl;cases a<;>first|rfl|grind
    case h_2=>
     rename_i hp;obtain⟨S,r,m⟩:=Cn (C:=X.C) hr.fp hp;rw[M]at r;cases r;simp only[PR]at m;subst m;cases G;refine⟨[],fun g _ L=>⟨g,?_⟩,(by simp)⟩;rw[f,M,Y];simp only;rw[E g rfl];rfl
 case h_1 t y q=>
  simp only[q]at A;have f:∀g,G3 X.C fr g o=(match ev X.C fr y with|some v=>BU g (FC X.C.T g t v)|none=>none):=(by grind [Dk,Hi]);cases M:ev X.C fr y with
  |none=>grind
  |some a=>
   rw[M]at A;simp only at A;obtain⟨x',w,D⟩:=GV A;cases D;obtain⟨b,off,ob,rfl,I,E,hfz⟩:=rD w;have hblt:=hr.sr.lt b ob I;have live:∀id,id<st.nx->(∀z,ρ id=some z->z.1=b)->l=[id]->∃bl,S8 X.C F bl h fr o x/\∀b∈bl,b<h.nx/\∃id∈l,id<st.nx/\∀y,ρ id=some y->y.1=b:=by
    rintro id hlt hid rfl;refine⟨[b],fun g _ L=>⟨g,?_⟩,fun b' P=>?_⟩
    ·rw[f,M];simp only;rw[E g ah];rfl
    simp_all
   split at G
   case h_4=>cases G
   case h_1=>
    rename_i id R hp;obtain⟨S,r,m⟩:=Cn (C:=X.C) hr.fp hp;grind [PR]
   case h_2=>
    rename_i id sz j R hp;obtain⟨S,r,m⟩:=Cn (C:=X.C) hr.fp hp;grind [PR]
   case h_3=>
    rename_i s y' R hp;obtain⟨S,r,m⟩:=Cn (C:=X.C) hr.fp hp;rw[M]at r;cases r;simp only[PR]at m;obtain⟨b',o',cs,D,hF,_⟩:=m;cases D;obtain⟨t1,f1,k1⟩:=hr.sr.frz b cs hF;refine⟨[],fun g L _=>⟨g,?_⟩,(by simp)⟩;obtain⟨t2,f2,k2⟩:=L b cs hF;rw[f,M];simp only;rw[hfz g cs t1 f1 t2 f2 k1 k2];rfl
 case h_2 s d y q=>
  simp only[q]at A;have f:∀g,G3 X.C fr g o=(match ev X.C fr y with|some v=>BU g (Gz X.C.T g s d v)|none=>none):=(by grind [Dk,Hi]);have fin:∀a,ev X.C fr y=some a->(∀g,Gz X.C.T g s d a=Gz X.C.T h s d a)->∃bl,S8 X.C F bl h fr o x/\∀b∈bl,b<h.nx/\∃id∈l,id<st.nx/\∀y,ρ id=some y->y.1=b:=by
   intro a ha L;rw[ha]at A;simp only at A;obtain⟨x',w,D⟩:=GV A;cases D;exact⟨[],fun g _ _=>⟨g,by rw[f,ha];simp only;rw[L,w];rfl⟩,(by simp)⟩
  split at G
  case h_3=>cases G
  case h_1=>
   rename_i k z hp;obtain⟨S,r,m⟩:=Cn (C:=X.C) hr.fp hp;simp only[PR,DC,zx,ve]at m;subst m;exact fin _ r fun g=>by
    unfold Gz;grind
  case h_2=>
   rename_i z hp;obtain⟨S,r,m⟩:=Cn (C:=X.C) hr.fp hp;simp only[PR,DC,zx,ve]at m;subst m;exact fin _ r fun g=>by
    unfold Gz;grind
 case h_3 c q=>
  simp only[q]at A;split at G
  case h_5=>cases G
  case h_4=>
   rename_i id p J;obtain⟨Z,r,m⟩:=FB (C:=X.C) hr.fp J;simp only[BJ]at m;obtain⟨a,as',rfl,m,rfl⟩:=m;have f:∀g,G3 X.C fr g o=BU g (GK X.C.T g c.argTypes [a]):=fun g=>by rw[Dk];unfold Hi;simp only[q,p,r];rfl
   simp only[p,r,EJ]at A;obtain⟨x',w,D⟩:=GV A;cases D;cases G;by_cases K:∃b,a=.map b
   ·obtain⟨b,rfl⟩:=K;simp only[PR]at m;by_cases I:∃ob,h.get b=some ob
    ·obtain⟨ob,I⟩:=I;refine⟨[b],fun g _ L=>⟨g,?_⟩,fun b' P=>?_⟩
     ·rw[f];have:GK X.C.T g c.argTypes [.map b]=GK X.C.T h c.argTypes [.map b]:=by
       unfold GK;grind
      rw[this,w];rfl
     ·cases zd.1 P;refine⟨hr.sr.lt b ob I,id,(by simp),m.1,fun z hz=>?_⟩;grind
    ·have hnone:h.get b=none:=by
      cases L:h.get b with
      |none=>rfl
      |some ob=>grind
     refine⟨[],fun g _ _=>⟨g,?_⟩,(by simp)⟩;obtain⟨uu,s,O⟩:=U;exfalso;rw[q]at O;simp only[pop,TM,J,p,JB,yY,Vr,yt,List.map_nil,lz]at O;split at O
     case h_2=>simp at O
     rename_i t x _ D;cases D;split at O
     case h_5=>
      rename_i D;cases D;split at O
      case h_2=>simp at O
      rename_i ks vs l ho;obtain⟨b1,n1,o1,q1,q2,_⟩:=hr.sr.at ho;grind
     all_goals first|(simp at O;done)|grind|(cases D)
   ·refine⟨[],fun g _ _=>⟨g,?_⟩,(by simp)⟩;rw[f,QC ah h,w];rfl
  all_goals
   rename_i p J;obtain⟨Z,r,m⟩:=FB (C:=X.C) hr.fp J;obtain⟨a,as',rfl,m,rfl⟩:=m;have f:∀g,G3 X.C fr g o=BU g (GK X.C.T g c.argTypes [a]):=fun g=>by rw[Dk];unfold Hi;simp only[q,p,r];rfl
   simp only[p,r,EJ]at A;have hnm:∀b,a≠ .map b:=by
    intro b e;subst e;first
     |exact Y0 m
     |exact Yq m
     |(obtain⟨u,s,O⟩:=U
       exact qR hr.sr q p J O m)
   obtain⟨x',w,D⟩:=GV A;cases D;refine⟨[],fun g _ _=>⟨g,?_⟩,fun b I=>by cases I⟩;rw[f];rw[QC hnm h,w];rfl
structure iY(C:Ctx)(F:Fz)(ρ:EA)(N:Nat)(h:H)(r:Nat×Option (List Nat))(c:Rc):Prop where
 i:c.i=r.1
 k:∀l,r.2=some l->∃bl,S8 C F bl h c.f c.o c.v/\∀b∈bl,b<h.nx/\∃id∈l,id<N/\∀y,ρ id=some y->y.1=b
def XI(C:Ctx)(F:Fz)(ρ:EA)(N:Nat)(h:H):Rs->List Rc->Prop
 |[],l=>l=[]
 |r::a,l=>∃c cs,l=c::cs/\iY C F ρ N h r c/\XI C F ρ N h a cs
theorem iY.mono{F':Fz}{ρ':EA}{N':Nat}{r:Nat×Option (List Nat)}{c:Rc}(f:iY X.C F ρ N h r c)(d:Le F ρ N F' ρ' N')(w:h.nx<=h'.nx)
  (v:∀l,r.2=some l->∀b,b<h.nx->(∃id∈l,id<N/\∀y,ρ id=some y->y.1=b)->h'.get b=h.get b):iY X.C F' ρ' N' h' r c:=by
 refine⟨f.i,fun l e=>?_⟩;obtain⟨bl,m,u⟩:=f.k l e;refine⟨bl,fun g o x=>m g (fun b cs s=>o b cs<|d.fz b cs s)<|fun b a=>?_,fun b a=>?_⟩
 ·grind
 ·obtain⟨z,id,q,j,p⟩:=u b a;exact⟨ae,id,q,Nat.lt_of_lt_of_le j d.n,fun y t=>p y<|d.at j t⟩
theorem XI.mono{F':Fz}{ρ':EA}{N':Nat}(e:Le F ρ N F' ρ' N')(f:h.nx<=h'.nx)(i:∀b,b<h.nx->h'.get b=h.get b):∀ {d:Rs} {cs:List Rc},XI X.C F ρ N h d cs->XI X.C F' ρ' N' h' d cs
 |[],_,a=>a
 |r::d,_,a=>by
  obtain⟨c,cs,rfl,g,j⟩:=a;exact⟨c,cs,rfl,g.mono e f ah,XI.mono e f i j⟩
theorem XI.apart{F':Fz}{ρ':EA}{fr':Fr}{anc:Nat->Nat->Bool}{i:Nat}{t:Option (List Nat)}(hr:Rel B h0 F ρ st fr h)(f:DD B h0 F ρ st.nx h st' fr' h' F' ρ')
  (E:∀d,t=some d->∀b,b<h.nx->h'.get b=h.get b\/∃id∈d,∃m,ρ id=some (b,m)):
  ∀ {p:Rs} {cs:List Rc},XI X.C F ρ st.nx h p cs->yq anc i st t p=true->cs.all (still X.C anc i h')=true/\XI X.C F' ρ' st'.nx h' (behind st t p) cs
 |[],_,s,_=>by
  cases s;exact⟨rfl,rfl⟩
 |r::p,_,s,x=>by
  obtain⟨c,cs,rfl,j,S⟩:=s;unfold yq at x;rw[yr,zf]at x;obtain⟨h3,h4⟩:=XI.apart hr f E S (by exact x.2);have key:(W5 r.2 t&&LP st r.2)=true->∀l,r.2=some l->∀b,b<h.nx->(∃id∈l,id<st.nx/\∀y,ρ id=some y->y.1=b)->h'.get b=h.get b:=by
   rintro o l g b K ⟨id,A,I,R⟩;simp only[zf,g]at o;have a:=zq.1 o.2 id A;obtain⟨u,M,D⟩:=hr.sr.live a;obtain rfl:u=b:=R _ D;cases t with
   |none=>
    grind [W5]
   |some d=>
    rcases E d rfl u K with e|⟨id',T,m,v⟩
    ·exact e
    ·obtain⟨o1,P⟩:=JA a;have w:∃q,AS st.ob id'=some q:=by
      cases G:AS st.ob id' with
      |some q=>simp
      |none=>rw[hr.sr.dead id' G]at v;cases v
     obtain⟨q,w⟩:=w;obtain rfl:=hr.sr.inj id id' o1 q u M m P w D v;grind [Nat.beq_refl,W5]
  refine⟨?_,c,cs,rfl,?_,h4⟩
  ·rw[yr,h3,yc];unfold still;rw[j.i];cases L:anc i r.1 with
   |true=>rfl
   |false=>
    have g:∃l,r.2=some l:=by
     cases J:r.2 with
     |some l=>simp
     |none=>grind [W5]
    obtain⟨l,g⟩:=g;obtain⟨bl,A,I⟩:=j.k l g;obtain⟨z,hz⟩:=A h' (fun b cs O=>f.rel.sr.frz b cs<|f.le.fz b cs O) ah;grind [NQ]
  ·show iY X.C F' ρ' st'.nx h' (bif W5 r.2 t&&LP st r.2 then r else(r.1,none)) c;cases o:(W5 r.2 t&&LP st r.2)with
   |true=>exact j.mono f.le f.nx<|key o
   |false=>
    exact⟨j.i,(by simp)⟩
theorem T4{C:Ctx}{o:Oper}(g:CL o=true){r:OR}(a:G3 C fr h o=some r):∃ob f,iC C fr o=some (ob,f)/\r=.val (f h.nx) (h.push ob):=by
 rw[Dk]at a;unfold Hi at a;unfold CL at g;unfold iC;split at g
 case h_4=>cases g
 case h_1 t b=>
  simp only[b]at a ⊢;unfold Ho at a;cases d:C.T.inf t with
  |none=>rw[d]at a;cases a
  |some i=>rw[d]at a;cases a;exact⟨_,_,rfl,rfl⟩
 case h_2 t x b=>
  simp only[b]at a ⊢;cases c:ev C fr x with
  |none=>rw[c]at a;cases a
  |some y=>rw[c]at a;cases a;exact⟨_,_,rfl,rfl⟩
 case h_3 t n ps b=>
  simp only[b]at a ⊢;cases c:XW C fr ps.toList with
  |none=>grind
  |some y=>
   rw[c]at a;simp only at a ⊢;unfold Fj at a;unfold YR;split at a
   case h_2=>cases a
   rename_i e l;simp only[l];split at a
   case h_2=>cases a
   rename_i i d;simp only[d];cases k:(zi (n*i.size) 16777216&&zp 0 (i.zero.length)&&zg i.zero.length i.size)with
   |false=>rw[k]at a;cases a
   |true=>
    rw[k]at a;split at a
    case h_2=>cases a
    rename_i cs j;cases a;simp only[j];exact⟨_,_,rfl,rfl⟩
theorem Aem{T:Cg}{call:GM}{st:AQ}{o:Oper}{k:AQ->Tr}(a:EM o=true):Ib T call o st k=SK o.dst k (pop o.op T st):=by
 grind [NO,EM,Ib]
theorem AdA{call:GM}(a:FR B h0 X false call)(hr:Rel B h0 F ρ st fr h){o:Oper}(j:EM o=true){k:AQ->Tr}(g:Ev X Q n (Ib X.C.T call o st k)):
  ∃n',n'<=n/\∃b,Ev X Q n' (k b)/\∃F' ρ' x fr',G3 X.C fr h o=some (.val x h)/\fr.put o.dst x=some fr'/\DD B h0 F ρ st.nx h b fr' h F' ρ'/\∃u s,(pop o.op X.C.T st).To u s:=by
 obtain⟨l,c,f,d⟩:=Iz a hr g;obtain⟨⟨⟨x,h'⟩,rfl⟩,_⟩:=f.1 rfl;obtain⟨n',hn,b,he1,F',ρ',fr',hput,hw,_⟩:=d _<|zd.2 rfl;have i:∃u s,(pop o.op X.C.T st).To u s:=by
  grind [Aem,Kg]
 cases c with
 |val e=>
  grind [rd_val]
 |skip e=>grind [rd_val]
 |call e _=>grind [rd_val]
 |round e _=>grind [rd_val]
 |alts e=>grind
theorem Pq{call:GM}(r:FR B h0 X false call){ops:Array Oper}{anc:Nat->Nat->Bool}:∀ {L:List Nat} {n:Nat} {st:AQ} {F:Fz} {ρ:EA} {fr:Fr} {h:H} {k:AQ->Tr} {K:Rs} {cs:List Rc},Rel B h0 F ρ st fr h->XI X.C F ρ st.nx h K cs->
  Ev X Q n (KS X.C.T X.sp call ops anc L st K k)->
  ∃n',n'<=n/\∃e,Ev X Q n' (k e)/\∃F' ρ' fr' h',DD B h0 F ρ st.nx h e fr' h' F' ρ'/\∃M,∀m,M<=m->∃cs',Wq X.C (Bi X.C m) ops anc L ⟨fr,h,cs⟩=some ⟨fr',h',cs'⟩
 |[],n,st,F,ρ,fr,h,k,K,cs,hr,_,c=>⟨n,zc _,st,c,F,ρ,fr,h,DD.refl hr,0,fun _ _=>⟨cs,rfl⟩⟩
 |i::is,n,st,F,ρ,fr,h,k,K,cs,hr,G,c=>by
  unfold KS at c;cases ho:ops[i]? with
  |none=>grind [Ev.AG]
  |some o=>
   rw[ho]at c;simp only at c;obtain⟨e,v,J,e2,R⟩:=Oc hr c;rw[<-J]at G;have fin:∀ {n1:Nat} {j:AQ} {F1:Fz} {u:EA} {s:Fr} {O:H} {rs2:Rs} {cs2:List Rc},n1<=n->DD B h0 F ρ st.nx h j s O F1 u->XI X.C F1 u j.nx O rs2 cs2->Ev X Q n1 (KS X.C.T X.sp call ops anc is j rs2 k)->
     (∃M,∀m,M<=m->∃x,IC X.C (Bi X.C m) ops anc i ⟨fr,h,cs⟩=some (x,⟨s,O,cs2⟩))->
     ∃n',n'<=n/\∃e,Ev X Q n' (k e)/\∃F' ρ' fr' h',DD B h0 F ρ st.nx h e fr' h' F' ρ'/\∃M,∀m,M<=m->∃cs',Wq X.C (Bi X.C m) ops anc (i::is) ⟨fr,h,cs⟩=some ⟨fr',h',cs'⟩:=by
    rintro n1 j F1 u s O rs2 cs2 w hw q p ⟨M1,hM1⟩;obtain⟨n2,hn2,st3,he3,F2,ρ2,fr2,h2,hw2,M2,hM2⟩:=Pq r hw.rel q p;refine⟨n2,ae,st3,he3,F2,ρ2,fr2,h2,hw.trans hw2,max M1 M2,fun m hm=>?_⟩;obtain⟨x,hx⟩:=hM1 m ae;obtain⟨cs',hcs'⟩:=hM2 m ae;grind [Wq]
   rcases R with⟨hw,c⟩|⟨hw,c⟩
   ·cases U:EM o with
    |true=>
     rw[U]at c;simp only[we]at c;obtain⟨n1,w,j,p,F1,u,x,s,z,d,a,hto⟩:=AdA r v U c;rw[J]at a;have q:XI X.C F1 u j.nx h K cs:=G.mono (by rw[J];exact a.le) ae (by simp);cases Y:R4 o with
     |false=>
      rw[Y]at p;refine fin (cs2:=cs) w a q p ⟨0,fun m _=>⟨x,?_⟩⟩;unfold IC;grind
     |true=>
      rw[Y]at p;refine fin (cs2:=⟨i,o,fr,x⟩::cs) (rs2:=(i,yV e o.op)::K) w a ⟨_,_,rfl,⟨rfl,fun l hl=>?_⟩,q⟩ p ⟨0,fun m _=>⟨x,?_⟩⟩
      ·obtain⟨bl,Z,V⟩:=gF v z hl hto;refine⟨bl,fun g hg W=>Z g (fun b cs hF=>hg b cs<|a.le.fz b cs hF) W,fun b W=>?_⟩;obtain⟨j1,id,j2,j3,j4⟩:=V b W;rw[J]at j3;exact⟨j1,id,j2,Nat.lt_of_lt_of_le j3 a.le.n,fun y hy=>j4 y<|a.le.at j3 hy⟩
      ·unfold IC;grind
    |false=>
     rw[U]at c;simp only[wg]at c;cases S:CL o with
     |true=>
      rw[S]at c;simp only[we]at c;obtain⟨l,D,P,E⟩:=Iz r v c;obtain⟨⟨⟨x,O⟩,rfl⟩,hna⟩:=P.1 rfl;obtain⟨n1,w,j,p,F1,u,s,d,a,_⟩:=E _<|zd.2 rfl;rw[J]at a;simp only at d a;have hv:∃ob f,iC X.C fr o=some (ob,f)/\x=f h.nx/\O=h.push ob:=by
       cases D with
       |val z=>obtain⟨ob,f,Z,V⟩:=T4 S z;grind
       |skip z=>grind [T4]
       |call z _=>grind [T4]
       |round z _=>grind [T4]
       |alts z=>grind
      obtain⟨ob1,f,Z,rfl,rfl⟩:=hv;have q:XI X.C F1 u j.nx (h.push ob1) K cs:=G.mono (by rw[J];exact a.le) (by simp) (fun b W=>by simp[Nat.ne_of_lt W]);refine fin (cs2:=cs) w a q p ⟨0,fun m _=>⟨f h.nx,?_⟩⟩;unfold IC;grind
     |false=>
      rw[S]at c;simp only[wg]at c;cases A:(yq anc i e (Hu X.sp e o.op) K&&nT e o.op)with
      |false=>grind [Ev.AG]
      |true=>
       rw[A]at c;simp only[we]at c;simp only[zf]at A;obtain⟨I,hnr⟩:=A;obtain⟨l,D,P,E⟩:=Iz r v c;obtain⟨⟨⟨x,O⟩,rfl⟩,hna⟩:=P.1 rfl;obtain⟨n1,w,j,p,F1,u,s,d,a,htch⟩:=E _<|zd.2 rfl;simp only at d a htch;obtain⟨Z,V⟩:=XI.apart v a htch G I;rw[J]at a;refine fin w a V p ?_;have hh:∃M,∀m,M<=m->Eu X.C (Bi X.C m) fr h o=some (x,O):=by
        cases D with
        |val z=>exact⟨0,(by grind [Eu])⟩
        |skip z=>exact⟨0,(by grind [Eu])⟩
        |alts z=>grind
        |round z _=>grind [nT]
        |@call g args _ M z hM=>exact⟨M,(by grind [Eu])⟩
       obtain⟨M,hM⟩:=hh;refine⟨M,fun m hm=>⟨x,?_⟩⟩;unfold IC;grind
   ·cases hv:Da o with
    |false=>
     rw[hv]at c;unfold NP at c;split at c
     case h_2=>grind [Ev.AG]
     rename_i j d;obtain⟨s,g1,g2,g3,g4⟩:=v.put (x:=.tup []) (by simp[PR]) d;refine fin (cs2:=cs) ae ⟨g2,by rw[g3,J];exact zz,zc _⟩ ah c ⟨0,fun m _=>⟨.tup [],?_⟩⟩;unfold IC;grind
    |true=>
     rw[hv]at c;cases I:yq anc i e (some []) K with
     |false=>grind [Ev.AG]
     |true=>
      rw[I]at c;unfold NP at c;split at c
      case h_2=>grind [Ev.AG]
      rename_i j d;obtain⟨s,g1,g2,g3,g4⟩:=v.put (x:=.tup []) (by simp[PR]) d;have a:DD B h0 F ρ e.nx h j s h F ρ:=⟨g2,by rw[g3];exact zz,zc _⟩;obtain⟨Z,V⟩:=XI.apart (t:=some []) v a (by simp) G I;rw[J]at a;refine fin ae a V c ⟨0,fun m _=>⟨.tup [],?_⟩⟩;unfold IC;grind
theorem eH{call:GM}(c:FR B h0 X false call){ops:Array Oper}{k:AQ->Tr}(hr:Rel B h0 F ρ st fr h)(e:Ev X Q n (KS X.C.T X.sp call ops (Ff ops).a (Ff ops).ord st [] k)):
  ∃n',n'<=n/\∃b,Ev X Q n' (k b)/\∃F' ρ' fr' h',DD B h0 F ρ st.nx h b fr' h' F' ρ'/\∃M,∀m,M<=m->I8 X.C (Bi X.C m) ops fr h=some (fr',h'):=by
 obtain⟨n',g,b,d,F',ρ',fr',h',f,M,j⟩:=Pq (cs:=[]) c hr (by rfl) e;refine⟨n',g,b,d,F',ρ',fr',h',f,M,fun m i=>?_⟩;grind [I8]
end
end Go.Pe
