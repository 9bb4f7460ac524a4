/- What the law FnExactGoodThings is called with, told as lists and numbers: each type of its parameters opened. No condition. -/
import Derived.Test.YtijfjlpoihhkbaaPFnExactGoodThingsx0
import Derived.Test.YtijfjlpoihhkbaaOpens
import Derived.KernelRfl
namespace Go.Proofs.Ytijfjlpoihhkbaa.OFnExactGoodThings
open Go.RowKit Go.Proofs.Ytijfjlpoihhkbaa.PFnExactGoodThings Go.Proofs.YtijfjlpoihhkbaaW.PrintWords Go.Proofs.YtijfjlpoihhkbaaO

def Ok107 (x : S107) : Prop := (In64 x.f0) ∧ (In64 x.f1) ∧ (In64 x.f2) ∧ (In64 x.f3)
theorem opens107 : Opens Try.prog 107 k107 Ok107 :=
  Opens.imp (opens_iso _ (fun x => (⟨x.1, x.2.1, x.2.2.1, x.2.2.2⟩ : S107)) (fun _ => rfl) (opens_struct Try.underlying107 (by kernel_rfl) (opensL_cons rfl (by kernel_rfl) (opens_i64 Try.underlying3) (opensL_cons rfl (by kernel_rfl) (opens_i64 Try.underlying3) (opensL_cons rfl (by kernel_rfl) (opens_i64 Try.underlying3) (opensL_one rfl (by kernel_rfl) (opens_i64 Try.underlying3))))))) fun x h => by
    obtain ⟨h0, h1, h2, h3⟩ := h
    exact ⟨h0, h1, h2, h3⟩


end Go.Proofs.Ytijfjlpoihhkbaa.OFnExactGoodThings
