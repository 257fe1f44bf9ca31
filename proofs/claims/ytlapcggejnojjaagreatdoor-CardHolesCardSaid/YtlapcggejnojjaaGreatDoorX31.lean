import Derived.Test.YtlapcggejnojjaaGreatDoorX21
/- A part of a proof (no law is stated here). Made by program out of texts by AI agents. -/
open Go.Pe.Ends renaming tt → zc, leaf → zd, ff → ze
open Go.Sp renaming first → zf
section
namespace Go.Pe
open Sp
open Go.Det
theorem SF:∀g sp,cG.sp g=some sp→Ac A4 g sp:=Ab T38.ok (Ab T39.ok (Ab T8.ok (Ab T9.ok (Ab T17.ok (Ab T18.ok (Ab T51.ok (Ab T52.ok (fun g sp h=>by cases h))))))))
theorem Qa{h:List (Int×Int)}{p:List UInt8}{l:List (Int×List UInt8)}(hp:Na.pre (h,(p,l))=true):h.length≤45∧p.length≤100∧l.length≤45:=by
 have hp:(decide (h.length≤45)&&decide (p.length≤100)&&decide (l.length≤45))=true:=hp;simp only[Bool.and_eq_true,decide_eq_true_eq]at hp;exact⟨hp.1.1,hp.1.2,hp.2⟩
theorem Wa(h:List (Int×Int))(l:List (Int×List UInt8)):((l.length:Int) !=(h.length:Int))=decide (l.length≠h.length):=by
 rw[Bool.eq_iff_iff,bne_iff_ne,decide_eq_true_eq];omega
theorem T19.ok:Ac A4 19 Na:=by
 refine AJ (X:=cG) rfl SF (d:=9) (by kernel_rfl) (by kernel_rfl) (by kernel_rfl) (fun⟨(h:List (Int×Int)),((p:List UInt8),(l:List (Int×List UInt8)))⟩ hp=>?_) (Ad (by kernel_rfl));obtain⟨a,b,c⟩:=Qa hp;refine Ends.eq (T19.Ay h (p,l)) (zc (decide_eq_true (by omega)) (zc (decide_eq_true (by simp;omega)) (zc rfl (zc rfl (zc (decide_eq_true (by simp;omega)) (zc rfl (zd ?_)))))));rw[Wa];exact Af.of rfl rfl rfl
theorem T20.ok:Ac A4 20 Na:=by
 refine AJ (X:=cG) rfl SF (d:=9) (by kernel_rfl) (by kernel_rfl) (by kernel_rfl) (fun⟨(h:List (Int×Int)),((p:List UInt8),(l:List (Int×List UInt8)))⟩ hp=>?_) (Ad (by kernel_rfl));obtain⟨a,b,c⟩:=Qa hp;have key:∀(v:Int) ob,v=Pq h p l→Af Na (h,(p,l)) (.dat i64 v) ob:=fun v ob h=>Af.of rfl rfl h
 unfold Pq at key;have f1:∀ {x y:Int} {r:List Int},x≠0→zf (x::r)=x:=fun h=>if_pos h
 have f0:∀ {r:List Int},zf (0::r)=zf r:=if_neg (by decide)
 have hl:decide (l.length≤1000000)=true:=decide_eq_true (by omega);refine Ends.eq (T20.Ay h (p,l)) (zc (decide_eq_true (by omega)) ?_);simp only[Wa];by_cases c1:De h=0
 ·rw[c1]at key ⊢;rw[f0]at key;refine zc rfl (zc (decide_eq_true (by show p.length≤1000000;omega)) ?_);by_cases c2:Sp.isName p=true
  ·have e:BS (!Sp.isName p) 8=0:=by rw[c2];rfl
   rw[e,f0]at key;refine ze (by simp[c2]) (zc rfl ?_);by_cases c3:l.length=h.length
   ·have e:BS (decide (l.length≠h.length)) 2=0:=by rw[decide_eq_false (fun k=>k c3)];rfl
    rw[e,f0]at key;refine ze (decide_eq_false (fun k=>k c3)) (zc rfl (zc hl (zd (key _ _ ?_))));unfold zf zf
    split
    ·rfl
    ·rename_i k;simpa using k
   ·have e:BS (decide (l.length≠h.length)) 2=2:=by rw[decide_eq_true c3];rfl
    rw[e]at key;exact zc (decide_eq_true c3) (ze rfl (zd (key _ _ rfl)))
  ·have c2:Sp.isName p=false:=by simpa using c2
   have e:BS (!Sp.isName p) 8=8:=by rw[c2];rfl
   rw[e]at key;refine zc (by simp[c2]) (ze rfl ?_);exact ze rfl (zd (key _ _ rfl))
 ·rw[f1 c1 (y:=0)]at key;have e:(De h==(0:Int))=false:=by rw[beq_eq_false_iff_ne];exact c1
  exact ze e (ze e (ze e (zd (key _ _ rfl))))
theorem XL:∀g sp,fL.sp g=some sp→Ac A4 g sp:=Ab IG (Ab T17.ok (Ab T18.ok (Ab T19.ok (Ab T20.ok (fun g sp h=>by cases h)))))
theorem T6.ok:Ac A4 6 H3:=by
 refine AJ (X:=fL) rfl XL (d:=9) (by kernel_rfl) (by kernel_rfl) rfl (fun⟨(h:List (Int×Int)),((p:List UInt8),(l:List (Int×List UInt8)))⟩ _=>?_) (Ad (by kernel_rfl));have fin:∀ob,Af H3 (h,(p,l)) (.dat .bool true) ob:=fun ob=>Af.of rfl rfl rfl
 refine Ends.eq (T6.Ay h (p,l)) (Ends.ite (fun _=>zc rfl (zd (fin _))) (fun c1=>Ends.ite (fun _=>zc rfl (zd (fin _))) (fun c2=>Ends.ite (fun _=>zc rfl (zd (fin _))) (fun c3=>?_))));have c1:¬(h.length:Int)>45:=of_decide_eq_false c1;have c2:¬(l.length:Int)>45:=of_decide_eq_false c2;have c3:¬(p.length:Int)>100:=of_decide_eq_false c3;have hl:decide (h.length≤1000000)=true:=decide_eq_true (by omega);have hp:(decide (h.length≤45)&&decide (p.length≤100)&&decide (l.length≤45))=true:=by simp;omega
 exact zc hl (zc hl (zc (by simp) (zc hp (zc hp (zc (by simp) (zc rfl (zd (fin _))))))))
end Go.Pe
end
