/- What the law FnExactSeenAgo is called with, told as lists and numbers: each type of its parameters opened. No condition. -/
import Derived.Test.YtligkajfedkldaaPFnExactSeenAgox0
import Derived.Test.YtligkajfedkldaaOpens
import Derived.KernelRfl
namespace Go.Proofs.Ytligkajfedkldaa.OFnExactSeenAgo
open Go.RowKit Go.Proofs.Ytligkajfedkldaa.PFnExactSeenAgo Go.Proofs.YtligkajfedkldaaW.PrintWords Go.Proofs.YtligkajfedkldaaO

def Ok246 (x : S246) : Prop := (In64 x.f0) ∧ (In64 x.f1) ∧ (In64 x.f2) ∧ (In64 x.f3)
theorem opens246 : Opens Try.prog 246 k246 Ok246 :=
  Opens.imp (opens_iso _ (fun x => (⟨x.1, x.2.1, x.2.2.1, x.2.2.2⟩ : S246)) (fun _ => rfl) (opens_struct Try.underlying246 (by kernel_rfl) (opensL_cons rfl (by kernel_rfl) (opens_i64 Try.underlying3) (opensL_cons rfl (by kernel_rfl) (opens_i64 Try.underlying3) (opensL_cons rfl (by kernel_rfl) (opens_i64 Try.underlying3) (opensL_one rfl (by kernel_rfl) (opens_i64 Try.underlying3))))))) fun x h => by
    obtain ⟨h0, h1, h2, h3⟩ := h
    exact ⟨h0, h1, h2, h3⟩


end Go.Proofs.Ytligkajfedkldaa.OFnExactSeenAgo
