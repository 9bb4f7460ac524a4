/- The law FnExactSortKey over plain numbers: it answers true. No condition beyond the numbers' own kinds. -/
import Derived.Test.YtijfjlpoihhkbaaPFnExactSortKeyx1
import Derived.Test.YtijfjlpoihhkbaaPlain
namespace Go.Proofs.Ytijfjlpoihhkbaa.Pure
open Go.RowKit Go.Proofs.Ytijfjlpoihhkbaa.PFnExactSortKey Go.Proofs.YtijfjlpoihhkbaaW.PrintWords Go.Proofs.YtijfjlpoihhkbaaW.PrintLast Go.Proofs.YtijfjlpoihhkbaaW.PrintMore Go.Proofs.YtijfjlpoihhkbaaO

theorem in_same (a b c : Int) : impl_inRange.f a b c = spec_l1In.f a b c := rfl
theorem in_some (a b c : Int) : spec_l1In.f a b c = some (decide (b ≤ a ∧ a ≤ c)) := by
  unfold spec_l1In.f
  split <;> simp_all <;> omega
theorem good_same (a b c d : Int) (e : Bool) (f g h i : Int) : ∃ r, spec_GoodItem.f a b c d e f g h i = some r ∧ impl_GoodItem.f a b c d e f g h i = some r ∧ (r = true → 0 ≤ a ∧ a ≤ 7 ∧ 0 ≤ b ∧ b ≤ 255 ∧ 0 ≤ c ∧ c ≤ 255 ∧ 0 ≤ d ∧ d ≤ 4095) := by
  have e : impl_GoodItem.f a b c d e f g h i = spec_GoodItem.f a b c d e f g h i := by
    simp only [spec_GoodItem.f, impl_GoodItem.f, spec_l20Box.f, impl_isBox.f, impl_isRoom.f, in_same, in_some, Option.bind_some]
  rw [e]
  simp only [spec_GoodItem.f, spec_l20Box.f, in_some, Option.bind_some]
  by_cases h0 : decide (0 ≤ a ∧ a ≤ 7) = true
  · by_cases h1 : decide (0 ≤ b ∧ b ≤ 255) = true
    · by_cases h2 : decide (0 ≤ c ∧ c ≤ 255) = true
      · by_cases h3 : decide (0 ≤ d ∧ d ≤ 4095) = true
        · rw [if_pos h0, if_pos h1, if_pos h2, if_pos h3]
          have h0 := of_decide_eq_true h0
          have h1 := of_decide_eq_true h1
          have h2 := of_decide_eq_true h2
          have h3 := of_decide_eq_true h3
          have hb : 0 ≤ a ∧ a ≤ 7 ∧ 0 ≤ b ∧ b ≤ 255 ∧ 0 ≤ c ∧ c ≤ 255 ∧ 0 ≤ d ∧ d ≤ 4095 := by omega
          repeat' split
          all_goals exact ⟨_, rfl, rfl, fun _ => hb⟩
        · rw [if_pos h0, if_pos h1, if_pos h2, if_neg h3]; exact ⟨_, rfl, rfl, fun h => by cases h⟩
      · rw [if_pos h0, if_pos h1, if_neg h2]; exact ⟨_, rfl, rfl, fun h => by cases h⟩
    · rw [if_pos h0, if_neg h1]; exact ⟨_, rfl, rfl, fun h => by cases h⟩
  · rw [if_neg h0]; exact ⟨_, rfl, rfl, fun h => by cases h⟩
theorem key_same (L m s d : Int) (c : Bool) (f g h i : Int) (hb : 0 ≤ L ∧ L ≤ 7 ∧ 0 ≤ m ∧ m ≤ 255 ∧ 0 ≤ s ∧ s ≤ 255 ∧ 0 ≤ d ∧ d ≤ 4095) : ∃ r, spec_l20Key.f L m s d c f g h i = some r ∧ impl_Item_key.f L m s d c f g h i = some r := by
  obtain ⟨h1, h2, h3, h4, h5, h6, h7, h8⟩ := hb
  cases c with
  | true =>
    refine ⟨L * 536870912 + 268435456 + (4095 - d) * 65536 + m * 256 + s, ?_, ?_⟩
    · unfold spec_l20Key.f
      rw [if_pos rfl, w64 (n := L * 536870912) (by omega) (by omega), w64 (n := L * 536870912 + 268435456) (by omega) (by omega), w64 (n := 4095 - d) (by omega) (by omega), w64 (n := (4095 - d) * 65536) (by omega) (by omega),
        w64 (n := L * 536870912 + 268435456 + (4095 - d) * 65536) (by omega) (by omega), w64 (n := m * 256) (by omega) (by omega), w64 (n := L * 536870912 + 268435456 + (4095 - d) * 65536 + m * 256) (by omega) (by omega), w64 (by omega) (by omega)]
    · unfold impl_Item_key.f
      rw [if_pos rfl, w64 (n := L * 536870912) (by omega) (by omega), w64 (n := 4095 - d) (by omega) (by omega), w64 (n := (4095 - d) * 65536) (by omega) (by omega), w64 (n := m * 256) (by omega) (by omega),
        or64 29 536870912 (L * 536870912) 268435456 rfl (by omega) (by omega) (by omega) (by omega) (by omega) (by omega),
        or64 28 268435456 (L * 536870912 + 268435456) ((4095 - d) * 65536) rfl (by omega) (by omega) (by omega) (by omega) (by omega) (by omega),
        or64 16 65536 (L * 536870912 + 268435456 + (4095 - d) * 65536) (m * 256) rfl (by omega) (by omega) (by omega) (by omega) (by omega) (by omega),
        or64 8 256 (L * 536870912 + 268435456 + (4095 - d) * 65536 + m * 256) s rfl (by omega) (by omega) (by omega) (by omega) (by omega) (by omega)]
  | false =>
    refine ⟨L * 536870912 + m * 1048576 + s * 4096 + d, ?_, ?_⟩
    · unfold spec_l20Key.f
      rw [if_neg (by decide), w64 (n := L * 536870912) (by omega) (by omega), w64 (n := m * 1048576) (by omega) (by omega), w64 (n := L * 536870912 + m * 1048576) (by omega) (by omega), w64 (n := s * 4096) (by omega) (by omega),
        w64 (n := L * 536870912 + m * 1048576 + s * 4096) (by omega) (by omega), w64 (by omega) (by omega)]
    · unfold impl_Item_key.f
      rw [if_neg (by decide), w64 (n := L * 536870912) (by omega) (by omega), w64 (n := m * 1048576) (by omega) (by omega), w64 (n := s * 4096) (by omega) (by omega),
        or64 29 536870912 (L * 536870912) (m * 1048576) rfl (by omega) (by omega) (by omega) (by omega) (by omega) (by omega),
        or64 20 1048576 (L * 536870912 + m * 1048576) (s * 4096) rfl (by omega) (by omega) (by omega) (by omega) (by omega) (by omega),
        or64 12 4096 (L * 536870912 + m * 1048576 + s * 4096) d rfl (by omega) (by omega) (by omega) (by omega) (by omega) (by omega)]
theorem FnExactSortKey : ∀ (a0_0 : Int) (a0_1 : Int) (a0_2 : Int) (a0_3 : Int) (a0_4 : Bool) (a0_5 : Int) (a0_6 : Int) (a0_7 : Int) (a0_8 : Int), (In64 a0_0) → (In64 a0_1) → (In64 a0_2) → (In64 a0_3) → (In64 a0_5) → (In64 a0_6) → (In64 a0_7) → (In64 a0_8) → laws_FnExactSortKey.f a0_0 a0_1 a0_2 a0_3 a0_4 a0_5 a0_6 a0_7 a0_8 = some true := by
  intro a b c d e f g h i _ _ _ _ _ _ _ _
  obtain ⟨r, hs, hi, hr⟩ := good_same a b c d e f g h i
  simp only [laws_FnExactSortKey.f, laws_toItem.f, laws_toPlaced.f, Option.bind_some, spec_SortKey.f, impl_SortKey.f, hs, hi]
  cases r with
  | false => rfl
  | true =>
    obtain ⟨q, ks, ki⟩ := key_same a b c d e f g h i (hr rfl)
    simp [ks, ki]
end Go.Proofs.Ytijfjlpoihhkbaa.Pure
