/- The law FnExactGoodItem over plain numbers: it answers true. No condition beyond the numbers' own kinds. -/
import Derived.Test.YtijfjlpoihhkbaaPFnExactGoodItemx1
import Derived.Test.YtijfjlpoihhkbaaOpenFnExactGoodItem
import Derived.Test.YtijfjlpoihhkbaaPlain
namespace Go.Proofs.Ytijfjlpoihhkbaa.Pure
open Go.RowKit Go.Proofs.Ytijfjlpoihhkbaa.PFnExactGoodItem Go.Proofs.Ytijfjlpoihhkbaa.OFnExactGoodItem Go.Proofs.YtijfjlpoihhkbaaW.PrintWords Go.Proofs.YtijfjlpoihhkbaaW.PrintLast Go.Proofs.YtijfjlpoihhkbaaO

theorem in_same (a b c : Int) : impl_inRange.f a b c = spec_l1In.f a b c := by
  unfold impl_inRange.f spec_l1In.f
  rfl

theorem in_some (a b c : Int) : spec_l1In.f a b c = some (decide (b ≤ a ∧ a ≤ c)) := by
  unfold spec_l1In.f
  split <;> simp_all <;> omega

theorem FnExactGoodItem : ∀ (a0_0 : Int) (a0_1 : Int) (a0_2 : Int) (a0_3 : Int) (a0_4 : Bool) (a0_5 : Int) (a0_6 : Int) (a0_7 : Int) (a0_8 : Int), (In64 a0_0) → (In64 a0_1) → (In64 a0_2) → (In64 a0_3) → (In64 a0_5) → (In64 a0_6) → (In64 a0_7) → (In64 a0_8) → laws_FnExactGoodItem.f a0_0 a0_1 a0_2 a0_3 a0_4 a0_5 a0_6 a0_7 a0_8 = some true := by
  intro a b c d e f g h i _ _ _ _ _ _ _ _
  simp only [laws_FnExactGoodItem.f, laws_toItem.f, laws_toPlaced.f, spec_GoodItem.f, impl_GoodItem.f, spec_l20Box.f, impl_isBox.f, impl_isRoom.f, in_same, in_some, Option.bind_some]
  repeat (first | rfl | (split <;> try simp_all))

end Go.Proofs.Ytijfjlpoihhkbaa.Pure
