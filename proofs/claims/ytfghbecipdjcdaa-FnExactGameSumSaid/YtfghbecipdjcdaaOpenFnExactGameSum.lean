/- What the law FnExactGameSum is called with, told as lists and numbers: each type of its parameters opened. No condition. -/
import Derived.Test.YtfghbecipdjcdaaPFnExactGameSumx0
import Derived.Test.YtfghbecipdjcdaaOpens
import Derived.KernelRfl
namespace Go.Proofs.Ytfghbecipdjcdaa.OFnExactGameSum
open Go.RowKit Go.Proofs.Ytfghbecipdjcdaa.PFnExactGameSum Go.Proofs.YtfghbecipdjcdaaW.PrintWords Go.Proofs.YtfghbecipdjcdaaO

def Ok188 (x : S188) : Prop := (In64 x.f0) ∧ (In64 x.f1) ∧ (In64 x.f2)
theorem opens188 : Opens Try.prog 188 k188 Ok188 :=
  Opens.imp (opens_iso _ (fun x => (⟨x.1, x.2.1, x.2.2⟩ : S188)) (fun _ => rfl) (opens_struct Try.underlying188 (by kernel_rfl) (opensL_cons rfl (by kernel_rfl) (opens_i64 Try.underlying3) (opensL_cons rfl (by kernel_rfl) (opens_i64 Try.underlying3) (opensL_one rfl (by kernel_rfl) (opens_i64 Try.underlying3)))))) fun x h => by
    obtain ⟨h0, h1, h2⟩ := h
    exact ⟨h0, h1, h2⟩


end Go.Proofs.Ytfghbecipdjcdaa.OFnExactGameSum
