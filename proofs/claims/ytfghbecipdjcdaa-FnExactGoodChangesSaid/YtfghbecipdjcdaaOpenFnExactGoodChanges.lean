/- What the law FnExactGoodChanges is called with, told as lists and numbers: each type of its parameters opened. No condition. -/
import Derived.Test.YtfghbecipdjcdaaPFnExactGoodChangesx0
import Derived.Test.YtfghbecipdjcdaaOpens
import Derived.KernelRfl
namespace Go.Proofs.Ytfghbecipdjcdaa.OFnExactGoodChanges
open Go.RowKit Go.Proofs.Ytfghbecipdjcdaa.PFnExactGoodChanges Go.Proofs.YtfghbecipdjcdaaW.PrintWords Go.Proofs.YtfghbecipdjcdaaO

def Ok158 (x : S158) : Prop := (In64 x.f0) ∧ (In64 x.f1) ∧ (x.f2.size ≤ 140737488351232) ∧ (x.f3.size ≤ 140737488351232) ∧ (In64 x.f4)
theorem opens158 : Opens Try.prog 158 k158 Ok158 :=
  Opens.imp (opens_iso _ (fun x => (⟨x.1, x.2.1, x.2.2.1, x.2.2.2.1, x.2.2.2.2⟩ : S158)) (fun _ => rfl) (opens_struct Try.underlying158 (by kernel_rfl) (opensL_cons rfl (by kernel_rfl) (opens_i64 Try.underlying3) (opensL_cons rfl (by kernel_rfl) (opens_i64 Try.underlying3) (opensL_cons rfl (by kernel_rfl) (opens_string Try.underlying9) (opensL_cons rfl (by kernel_rfl) (opens_string Try.underlying9) (opensL_one rfl (by kernel_rfl) (opens_i64 Try.underlying3)))))))) fun x h => by
    obtain ⟨h0, h1, h2, h3, h4⟩ := h
    exact ⟨h0, h1, h2, h3, h4⟩


end Go.Proofs.Ytfghbecipdjcdaa.OFnExactGoodChanges
