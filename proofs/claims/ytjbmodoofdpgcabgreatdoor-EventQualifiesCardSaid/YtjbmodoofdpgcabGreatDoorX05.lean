import Derived.Test.YtjbmodoofdpgcabGreatDoorX03
import Derived.Below
/- A part of a proof; no law is stated here. -/
noncomputable section
namespace Go.Det
section
abbrev Oh:=FuncId->Option (List V->H->Option (V×H))
def HR(P:Program)(s:Oh):Prop:=∀f q,s f=some q->∀(p:Pl) (h:H) (w:World) (args:List V) (args':Array Value) v h',R p h w->Gp p->Ab p args args'.toList->q args h=some (v,h')->
 Calls P f args' w fun e w'=>∃v' p',e=.returned v'/\Aa p' v v'/\Ext p h w p' h' w'
def Us(a b:Oh):Oh:=fun f=>match a f with
 |some q=>some q
 |none=>b f
variable {P:Program}
theorem SX{a b:Oh}(c:HR P a)(d:HR P b):HR P (Us a b):=by
 grind [Us,HR]
def O2(C:Ctx)(s:Oh):Ctx:={ C with spec:=s }
theorem PL{C:Ctx}(a:C.Ok P){s:Oh}(h:HR P s):(O2 C s).Ok P where
 T:=a.T
 fn:=a.fn
 prim:=a.prim
 spec:=h
theorem J8{C:Ctx}(a:CZ C)(s:Oh):CZ (O2 C s):=a
theorem MH{C:Ctx}(b:C.Ok P)(a:CZ C)(c:P.follows .mixedOrders=true){n:Nat}{L:G6}(h:CB C n L=true):HR P (ED L):=RM (C':=C) b a c h
def IV(C:Ctx)(n:Nat)(L:G6):Oh:=fun f=>match ED L f with
 |none=>none
 |some q=>some fun args h=>match q args h with
  |some x=>some x
  |none=>match Aj C n (.fn f args) h with
   |some [x]=>some x
   |_=>none
theorem Oe{C:Ctx}(l:C.Ok P)(c:CZ C)(i:P.follows .mixedOrders=true){n k:Nat}{L:G6}(u:CB C k L=true):HR P (IV C n L):=by
 intro f q d p h w args args' v h' o g a b;unfold IV at d;cases j:ED L f with
 |none=>grind
 |some s=>
  rw[j]at d;cases d;simp only at b;split at b
  case h_1=>rename_i x t;cases b;exact MH l c i u f s j p h w args args' v h' o g a t
  case h_2=>
   split at b
   case h_2=>cases b
   rename_i x r;refine((Dv l c i n).fn f args h _ r p w args' o g a).mono ?_;rintro e w' ⟨v1,z,v',p',m,rfl,A,y⟩;grind
theorem N6{p:Pl}{h:H}{w w':World}(c:R p h w)(a:Go.RowKit.Below w.heap.size w w')(e:w.drawn<=w'.drawn):Ext p h w p h w':=by
 obtain⟨g,i,d,f,j⟩:=a;refine⟨(by simp),⟨c.len,fun b o a=>?_,c.inj⟩,f,ae,ae,g,d,i,ae,e⟩;obtain⟨r,m,y,g1,g2,g3⟩:=c.obj b o a;grind
end
end Go.Det
