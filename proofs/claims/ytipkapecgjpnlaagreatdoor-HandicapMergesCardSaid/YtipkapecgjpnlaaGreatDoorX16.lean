import Derived.Test.YtipkapecgjpnlaaGreatDoorCards
import Derived.Test.YtipkapecgjpnlaaGreatDoorX15
import Derived.WalkKit
import Derived.ProofKit
import Derived.Deep.DeepHandedRow
import Derived.Lay
import Derived.LaidLaws
/- A part of a proof; no law is stated here. -/
noncomputable section
namespace Go.Pe
open Go.Det Go.RowKit Go.ChangeShapes Go.WideShapes Go.ChangeAt
open Go.Proofs Go.Proofs.YtipkapecgjpnlaaGreatDoor
theorem eO:ownKnob Tryz.prog.godebug=none:=by kernel_rfl
abbrev fM:List (String×DataW Unit):=Rows.handicapScoresRow.laid
def W7(os:Os):World:=World.laidAll Tryz.prog os fM
theorem UX(os:Os)(args:Array Value):laidMetH Tryz.prog fM ((W7 os).forCall (fun _ _=>0) ⟨#[],args,[]⟩).memory:=by
 rw[MakeChecks.laidMetH_plain _ _ _ ag];exact laidMet_laidAll _ ag ag
theorem MG{H:Type}{enc:TypeId×Value->H}{C:Checked}{os:Os}{f:FuncId}{fn:Func}{s:OpenSpec}{a:List PathCond}{apart:Bool}{b:List (String×DataW Unit)}(w0:World)(args:Array Value)(e:w0.os=os)
  (g:(w0.forCall (fun _ _=>0) ⟨#[],args,[]⟩).Shaped C.prog)
  (c:Input.okWideB C.prog (w0.forCall (fun _ _=>0) ⟨#[],args,[]⟩) f ⟨#[],args,[]⟩=true)
  (d:s.preRow enc C.prog fn a apart b (w0.forCall (fun _ _=>0) ⟨#[],args,[]⟩).memory args):
  ∃(w:World) (tape:Tape) (i:Input),w.os=os/\(w.forCall tape i).Shaped C.prog/\i.vars=[]/\Input.okWide C.prog (w.forCall tape i) .any w.heap.size f i/\
   s.preRow enc C.prog fn a apart b (w.forCall tape i).memory i.args/\({}:Assume).holds C.prog (lone (Frame.enter C.prog f i.args .normal) []<|w.forCall tape i):=
 ⟨w0,fun _ _=>0,⟨#[],args,[]⟩,e,g,(Input.okWide_of_okWideB (base:=0) c).1,(Input.okWide_of_okWideB c).2,d,by
  simp only[Assume.holds];exact⟨by simp,by simp,by simp,by simp,by simp⟩⟩
end Go.Pe
