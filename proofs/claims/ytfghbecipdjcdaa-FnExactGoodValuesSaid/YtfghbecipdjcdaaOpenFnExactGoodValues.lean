/- What the law FnExactGoodValues is called with, told as lists and numbers: each type of its parameters opened. No condition. -/
import Derived.Test.YtfghbecipdjcdaaPFnExactGoodValuesx0
import Derived.Test.YtfghbecipdjcdaaOpens
import Derived.KernelRfl
namespace Go.Proofs.Ytfghbecipdjcdaa.OFnExactGoodValues
open Go.RowKit Go.Proofs.Ytfghbecipdjcdaa.PFnExactGoodValues Go.Proofs.YtfghbecipdjcdaaW.PrintWords Go.Proofs.YtfghbecipdjcdaaO

def Ok151 (x : S151) : Prop := (x.f0.size ≤ 140737488351232) ∧ (In64 x.f1) ∧ (x.f2.size ≤ 140737488351232)
theorem opens151 : Opens Try.prog 151 k151 Ok151 :=
  Opens.imp (opens_iso _ (fun x => (⟨x.1, x.2.1, x.2.2⟩ : S151)) (fun _ => rfl) (opens_struct Try.underlying151 (by kernel_rfl) (opensL_cons rfl (by kernel_rfl) (opens_string Try.underlying9) (opensL_cons rfl (by kernel_rfl) (opens_i64 Try.underlying3) (opensL_one rfl (by kernel_rfl) (opens_string Try.underlying9)))))) fun x h => by
    obtain ⟨h0, h1, h2⟩ := h
    exact ⟨h0, h1, h2⟩


end Go.Proofs.Ytfghbecipdjcdaa.OFnExactGoodValues
