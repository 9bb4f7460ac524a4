/- The law FnExactKeyParts over a number: it answers true. No condition. -/
import Derived.Test.YtngbbglnbdmldaaPFnExactKeyPartsx1
namespace Go.Proofs.Ytngbbglnbdmldaa.Pure
open Go.RowKit Go.Proofs.Ytngbbglnbdmldaa.PFnExactKeyParts Go.Proofs.YtngbbglnbdmldaaW.PrintWords Go.Proofs.YtngbbglnbdmldaaW.PrintLast
set_option linter.unusedVariables false
set_option linter.unusedSimpArgs false

theorem same (a : Int) : impl_KeyParts.f a = spec_KeyParts.f a := rfl
theorem total (a : Int) : ∃ r, spec_KeyParts.f a = some r := by
  unfold spec_KeyParts.f spec_l1In.f
  by_cases h : a ≥ 0
  · rw [if_pos h]
    simp only [Option.bind_some]
    repeat' (first | exact ⟨_, rfl⟩ | split)
  · rw [if_neg h]
    exact ⟨_, rfl⟩
theorem FnExactKeyParts : laws_FnExactKeyParts.Pure := by
  intro a _
  obtain ⟨⟨r1, r2, r3, r4, r5, r6, r7, r8, r9, r10⟩, hr⟩ := total a
  unfold laws_FnExactKeyParts.f
  rw [same, hr]
  simp [laws_eqItem.f, laws_eqPlaced.f]
end Go.Proofs.Ytngbbglnbdmldaa.Pure
