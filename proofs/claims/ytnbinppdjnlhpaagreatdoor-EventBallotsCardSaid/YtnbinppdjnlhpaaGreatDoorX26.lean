import Derived.Test.YtnbinppdjnlhpaaGreatDoorX17
import Derived.Test.YtnbinppdjnlhpaaGreatDoorX25
/- A part of the proofs of the laws of one chapter (no law is stated here). Made by program out of texts by AI agents. -/
section
/- From a function's contract to the call in the model, for arguments without memory. -/
namespace Go.Pe
open Go.Det Go.RowKit
noncomputable section
open Go.Proofs.Tryz (prog)
theorem calls_of_spec {f : FuncId} {sp : PSpec} (ok : SpecOk C7p f sp) (i : (prodS sp.ins).T) (hpre : sp.pre i = true) {args : List V} {args' : Array Value} {W : World} (hP : PCs (fun _ => none) (valsOf sp.ins i) args)
    (ha : VRels [] args args'.toList) (hres : ∀ F' v, PC F' (one (valsOf sp.outs (sp.f i))) v → v = .bool true) :
    Calls prog f args' W fun e W' => e = .returned (.bool true) ∧ Below W.heap.size W W' := by
  obtain ⟨l, M, h1, _, h2⟩ := ok.run (fun _ => none) hE args i (fun b cs h => by cases h) (fun b o h => by simp [hE, H.get] at h) hP hpre
  refine ((ecall_ok C7p_ok C7p_certs mixed7 M).fn f args hE l (h1 M (Nat.le_refl _)) [] W args' (R_empty W) (fun g hg => absurd hg (Nat.not_lt_zero _)) ha).mono ?_
  rintro e w' ⟨v, h', v', p', hm, rfl, hv, hx⟩
  obtain ⟨_, _, _, F', _, _, _, hr⟩ := h2 _ hm
  obtain rfl := hres F' v hr
  refine ⟨?_, below_of_ext hx⟩
  simp only [VRel] at hv
  rw [hv]
theorem res_true {F' : Fz} {v : V} (h : PC F' (.dat .bool true) v) : v = .bool true := by
  have := h (fun _ => none) 0
  simp only [PR, DC] at this
  simpa using this
end
end Go.Pe
end
