/- What the law FnExactSeen is called with, told as lists and numbers: each type of its parameters opened. No condition. -/
import Derived.Test.YtligkajfedkldaaPFnExactSeenx0
import Derived.Test.YtligkajfedkldaaOpens
import Derived.KernelRfl
namespace Go.Proofs.Ytligkajfedkldaa.OFnExactSeen
open Go.RowKit Go.Proofs.Ytligkajfedkldaa.PFnExactSeen Go.Proofs.YtligkajfedkldaaW.PrintWords Go.Proofs.YtligkajfedkldaaO

def Ok46 (x : S46) : Prop := (In64 x.f0) ∧ (In64 x.f1) ∧ (In64 x.f2) ∧ (In64 x.f3)
theorem opens46 : Opens Try.prog 46 k46 Ok46 :=
  Opens.imp (opens_iso _ (fun x => (⟨x.1, x.2.1, x.2.2.1, x.2.2.2⟩ : S46)) (fun _ => rfl) (opens_struct Try.underlying46 (by kernel_rfl) (opensL_cons rfl (by kernel_rfl) (opens_i64 Try.underlying3) (opensL_cons rfl (by kernel_rfl) (opens_i64 Try.underlying3) (opensL_cons rfl (by kernel_rfl) (opens_i64 Try.underlying3) (opensL_one rfl (by kernel_rfl) (opens_i64 Try.underlying3))))))) fun x h => by
    obtain ⟨h0, h1, h2, h3⟩ := h
    exact ⟨h0, h1, h2, h3⟩
def Ok164 (x : S164) : Prop := (In64 x.f0) ∧ (In64 x.f1) ∧ (In64 x.f2) ∧ (In64 x.f3) ∧ (Ok46 x.f5)
theorem opens164 : Opens Try.prog 164 k164 Ok164 :=
  Opens.imp (opens_iso _ (fun x => (⟨x.1, x.2.1, x.2.2.1, x.2.2.2.1, x.2.2.2.2.1, x.2.2.2.2.2⟩ : S164)) (fun _ => rfl) (opens_struct Try.underlying164 (by kernel_rfl) (opensL_cons rfl (by kernel_rfl) (opens_i64 Try.underlying3) (opensL_cons rfl (by kernel_rfl) (opens_i64 Try.underlying3) (opensL_cons rfl (by kernel_rfl) (opens_i64 Try.underlying3) (opensL_cons rfl (by kernel_rfl) (opens_i64 Try.underlying3) (opensL_cons rfl (by kernel_rfl) (opens_bool Try.underlying4) (opensL_one rfl (by kernel_rfl) opens46)))))))) fun x h => by
    obtain ⟨h0, h1, h2, h3, h4, h5⟩ := h
    exact ⟨h0, h1, h2, h3, h5⟩


end Go.Proofs.Ytligkajfedkldaa.OFnExactSeen
