import Derived.Test.YtnbinppdjnlhpaaGreatDoorX36
import Derived.Test.YtnbinppdjnlhpaaGreatDoorX28
/- A part of the proofs of the laws of one chapter (no law is stated here). Made by program out of texts by AI agents. -/
section
/- EventSeeded: the call. -/
namespace Go.Proofs.YtnbinppdjnlhpaaGreatDoor
open Go Go.RowKit Go.ChangeShapes Go.WideShapes Go.ChangeAt Go.Det Go.Pe
open Go.Proofs.Tryz (prog)
namespace EventSeeded
theorem calls (W : World) (n a b : Int) (ha : 0 ≤ a ∧ a ≤ 255) (hb : 0 ≤ b ∧ b ≤ 255) : Calls prog 9 #[.int .i64 n, .int .u8 a, .int .u8 b] W fun e W' => e = .returned (.bool true) ∧ Below W.heap.size W W' := by
  refine calls_of_spec T9.ok (n, a, b) (by simp [cEventSeeded, ha, hb]) (args := [.int .i64 n, .int .u8 a, .int .u8 b]) (fun ρ N => ?_) ?_ (fun F' v h => res_true h)
  · simp [valsOf, dats, cEventSeeded, PRs, PR, DC, Pe.i64]
  · simp [VRels, VRel]
set_option maxRecDepth 100000 in
theorem contract (H : Type) (enc : TypeId × Value → H) (W : World) (base : Nat) (args : Array Value) (ds gs : List (DataW H)) (before : List MemPlace)
    (hval : ∀ (j : Nat) t v, Tryz.f9.params[j]? = some t → args[j]? = some v → Value.okWide prog W .any base t v)
    (hW : DataW.Whole enc prog Tryz.f9.params.toList Rows.eventSeededSpec.vars false W args.toList ds gs before) :
    Calls prog 9 args W fun e W' => ∃ v, e = .returned v ∧ Rows.eventSeededSpec.post enc prog Tryz.f9 false true false false W args v W' := by
  have hW' := hW
  obtain ⟨p, q, hA0, hV, rfl, hfz, hnd⟩ := hW
  have hA : DataW.TrodAll enc prog W 0 (fun _ => true) true Tryz.f9.params.toList args.toList ds p := hA0
  rw [Tryz.params9] at hA hval
  obtain ⟨v0, vs0, d0, ds0, p0, q0, hargs, rfl, rfl, h0, r0⟩ := trodAll_cons hA
  obtain ⟨v1, vs1, d1, ds1, p1, q1, rfl, rfl, rfl, h1, r1⟩ := trodAll_cons r0
  obtain ⟨v2, vs2, d2, ds2, p2, q2, rfl, rfl, rfl, h2, r2⟩ := trodAll_cons r1
  obtain ⟨rfl, rfl, rfl⟩ := trodAll_nil r2
  obtain rfl := arr_of hargs
  have hv0 : Value.okWide prog W .any base 3 v0 := hval 0 3 v0 (by simp) (by simp)
  have hv1 : Value.okWide prog W .any base 5 v1 := hval 1 5 v1 (by simp) (by simp)
  have hv2 : Value.okWide prog W .any base 5 v2 := hval 2 5 v2 (by simp) (by simp)
  obtain ⟨n, rfl, rfl, rfl, _⟩ := open_int Tryz.underlying3 hv0 h0
  obtain ⟨a, rfl, rfl, rfl, wa⟩ := open_int Tryz.underlying5 hv1 h1
  obtain ⟨b, rfl, rfl, rfl, wb⟩ := open_int Tryz.underlying5 hv2 h2
  have ha : 0 ≤ a ∧ a ≤ 255 := by simpa [Lit.wf, IntKind.min, IntKind.max, IntKind.signed, IntKind.bits] using wa
  have hb : 0 ≤ b ∧ b ≤ 255 := by simpa [Lit.wf, IntKind.min, IntKind.max, IntKind.signed, IntKind.bits] using wb
  exact (calls W n a b ha hb).mono fun e W' ⟨he, hb⟩ => ⟨_, he, post_true (L := [3, 5]) hW' rfl (by kernel_rfl) Tryz.underlying4 rfl hb (by kernel_rfl) (by kernel_rfl)⟩
end EventSeeded
end Go.Proofs.YtnbinppdjnlhpaaGreatDoor
end
