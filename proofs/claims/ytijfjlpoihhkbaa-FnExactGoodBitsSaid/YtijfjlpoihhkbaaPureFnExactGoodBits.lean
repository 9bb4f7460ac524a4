/- The law FnExactGoodBits over a number and a plain list of bytes: it answers true. No condition beyond the numbers' own kinds and what fits in memory. -/
import Derived.Test.YtijfjlpoihhkbaaPFnExactGoodBitsx2
import Derived.Test.YtijfjlpoihhkbaaOpenFnExactGoodBits
import Derived.Test.YtijfjlpoihhkbaaPlain
namespace Go.Proofs.Ytijfjlpoihhkbaa.Pure
open Go.RowKit Go.Proofs.Ytijfjlpoihhkbaa.PFnExactGoodBits Go.Proofs.Ytijfjlpoihhkbaa.OFnExactGoodBits Go.Proofs.YtijfjlpoihhkbaaW.PrintWords Go.Proofs.YtijfjlpoihhkbaaW.PrintLast Go.Proofs.YtijfjlpoihhkbaaW.PrintMore Go.Proofs.YtijfjlpoihhkbaaO

theorem st_laws_toByteS_l0 {r : (List Int)} {x0 : List Int} {x3 : List Int} {x4 : Int} (h : Ev (fun k => if x4 < (x0.length : Int) then (if 0 ≤ x4 then (if x4 < (x3.length : Int) then (laws_toByteS.l0 k x0 (x3.set (x4 : Int).toNat (rd x0 x4)) (wrap64 (x4 + 1))) else (none)) else (none)) else (some x3)) r) : Ev (fun k => laws_toByteS.l0 k x0 x3 x4) r := Ev.step (fun k => by rw [laws_toByteS.l0]) h
theorem st_impl_GoodBits_j0 {r : (Bool)} {x17 : Bool} {x120000 : Int} {x120001 : List Int} (h : Ev (fun k => if x17 = true then (some false) else (impl_GoodBits.l0 k x120000 x120000 x120001)) r) : Ev (fun k => impl_GoodBits.j0 k x17 x120000 x120001) r := Ev.step (fun k => by rw [impl_GoodBits.j0]) h
theorem st_impl_GoodBits_l0 {r : (Bool)} {x3 : Int} {x120000 : Int} {x120001 : List Int} (h : Ev (fun k => if x3 < (wrap64 (8 * (x120001.length : Int))) then ((impl_Bits_bit.f x120000 x120001 x3).bind fun t121 => (if t121 = 1 then (some false) else (impl_GoodBits.l0 k (wrap64 (x3 + 1)) x120000 x120001))) else (some true)) r) : Ev (fun k => impl_GoodBits.l0 k x3 x120000 x120001) r := Ev.step (fun k => by rw [impl_GoodBits.l0]) h
theorem st_laws_eqByteS_l0 {r : (Bool)} {x0 : List Int} {x1 : List Int} {x5 : Int} (h : Ev (fun k => if x5 < (x0.length : Int) then (if 0 ≤ x5 then (if x5 < (x1.length : Int) then (if (rd x0 x5) = (rd x1 x5) then (laws_eqByteS.l0 k x0 x1 (wrap64 (x5 + 1))) else (some false)) else (none)) else (none)) else (some true)) r) : Ev (fun k => laws_eqByteS.l0 k x0 x1 x5) r := Ev.step (fun k => by rw [laws_eqByteS.l0]) h
theorem in_same (a b c : Int) : impl_inRange.f a b c = spec_l1In.f a b c := rfl
theorem in_some (a b c : Int) : spec_l1In.f a b c = some (decide (b ≤ a ∧ a ≤ c)) := by
  unfold spec_l1In.f
  split <;> simp_all <;> omega
/-! ### bits in bytes -/
def AreBytes (l : List Int) : Prop := ∀ y ∈ l, InU8 y
theorem rd_byte {l : List Int} (h : AreBytes l) {i : Nat} (hi : i < l.length) : 0 ≤ rd l (i : Int) ∧ rd l (i : Int) ≤ 255 := by
  rw [rd_get hi]; exact h _ (List.getElem_mem hi)
/-- Bit number n, from the front. -/
def bitAt (l : List Int) (n : Nat) : Int := rd l ((n / 8 : Nat) : Int) / 2 ^ (7 - n % 8) % 2
theorem bitAt_range (l : List Int) (n : Nat) : 0 ≤ bitAt l n ∧ bitAt l n ≤ 1 := by unfold bitAt; omega
theorem bit_impl (s : Int) (l : List Int) (h : AreBytes l) (n : Nat) (hn : n < 8 * l.length) (hl : l.length ≤ 1048576) : impl_Bits_bit.f s l (n : Int) = some (bitAt l n) := by
  have e1 : wrap64 (Int.tdiv (n : Int) 8) = ((n / 8 : Nat) : Int) := by rw [Int.tdiv_eq_ediv_of_nonneg (by omega)]; rw [w64 (by omega) (by omega)]; omega
  have e2 : wrap64 (7 - Int.tmod (n : Int) 8) = ((7 - n % 8 : Nat) : Int) := by rw [Int.tmod_eq_emod_of_nonneg (by omega)]; rw [w64 (by omega) (by omega)]; omega
  obtain ⟨r0, r1⟩ := rd_byte h (i := n / 8) (by omega)
  unfold impl_Bits_bit.f
  rw [e1, e2, if_pos (by omega), if_pos (by omega), if_pos (by omega)]
  congr 1
  have e3 : shr .u8 (rd l ((n / 8 : Nat) : Int)) ((7 - n % 8 : Nat) : Int) = rd l ((n / 8 : Nat) : Int) / 2 ^ (7 - n % 8) := by
    unfold shr
    rw [Int.toNat_natCast, Nat.min_eq_left (by show 7 - n % 8 ≤ 8; omega)]
  rw [e3]
  have hp : (0 : Int) < 2 ^ (7 - n % 8) := Int.pow_pos (by omega)
  have q0 : 0 ≤ rd l ((n / 8 : Nat) : Int) / 2 ^ (7 - n % 8) := Int.ediv_nonneg r0 (Int.le_of_lt hp)
  have q1 : rd l ((n / 8 : Nat) : Int) / 2 ^ (7 - n % 8) ≤ rd l ((n / 8 : Nat) : Int) := Int.ediv_le_self _ r0
  rw [and8 1 1 _ rfl (by omega) q0 (by omega), w64 (by omega) (by omega)]
  rfl
/-- The bits behind the last one are 0. -/
theorem tail_impl (s : Int) (l : List Int) (h : AreBytes l) (hl : l.length ≤ 1048576) (q : Nat) (hq : q + 1 = l.length) : ∀ d : Nat, d ≤ 8 → ∀ b : Bool, (b = true ↔ rd l (q : Int) % 2 ^ d = 0) → Ev (fun k => impl_GoodBits.l0 k ((8 * q + (8 - d) : Nat) : Int) s l) b := by
  have e8 : wrap64 (8 * (l.length : Int)) = 8 * l.length := w64 (by omega) (by omega)
  intro d
  induction d with
  | zero =>
    intro _ b hb
    refine st_impl_GoodBits_l0 (ev_neg (by rw [e8]; omega) (ev_some ?_))
    exact (hb.2 (by simp [Int.emod_one])).symm
  | succ d ih =>
    intro hd b hb
    obtain ⟨r0, r1⟩ := rd_byte h (i := q) (by omega)
    refine st_impl_GoodBits_l0 (ev_pos (by rw [e8]; omega) (ev_bindc (bit_impl s l h _ (by omega) hl) ?_))
    have hbit : bitAt l (8 * q + (8 - (d + 1))) = rd l (q : Int) / 2 ^ d % 2 := by
      unfold bitAt
      rw [show (8 * q + (8 - (d + 1))) / 8 = q by omega, show 7 - (8 * q + (8 - (d + 1))) % 8 = d by omega]
    have hm : rd l (q : Int) % 2 ^ (d + 1) = rd l (q : Int) % 2 ^ d + 2 ^ d * (rd l (q : Int) / 2 ^ d % 2) := by
      obtain ⟨v, hv⟩ := Int.eq_ofNat_of_zero_le r0
      rw [hv]
      have := Nat.mod_pow_succ (b := 2) (k := d) (x := v)
      exact_mod_cast this
    have hp : (0 : Int) < 2 ^ d := Int.pow_pos (by omega)
    have hr := Int.emod_nonneg (rd l (q : Int)) (Int.ne_of_gt hp)
    rw [hbit]
    refine ev_ite (fun h1 => ev_some (bool_false hb ?_).symm) fun h1 => ?_
    · rw [hm, h1]; omega
    · have h0 : rd l (q : Int) / 2 ^ d % 2 = 0 := by omega
      have e : wrap64 (((8 * q + (8 - (d + 1)) : Nat) : Int) + 1) = ((8 * q + (8 - d) : Nat) : Int) := by rw [w64 (by omega) (by omega)]; omega
      rw [e]
      refine ih (by omega) b ?_
      rw [hb, hm, h0]; simp
def BitsOk (s : Int) (l : List Int) : Prop := 0 ≤ s ∧ s ≤ 4000 ∧ (l.length : Int) = (s + 7) / 8 ∧ (s % 8 = 0 ∨ rd l ((l.length : Int) - 1) % 2 ^ (8 - (s % 8).toNat) = 0)
theorem bits_impl (s : Int) (l : List Int) (h : AreBytes l) (hl : l.length ≤ 1048576) (b : Bool) (hb : b = true ↔ BitsOk s l) : Ev (fun k => impl_GoodBits.f k s l) b := by
  have j0t : Ev (fun k => impl_GoodBits.j0 k true s l) false := st_impl_GoodBits_j0 (ev_pos rfl (ev_some rfl))
  refine ev_bindc ((in_same _ _ _).trans (in_some _ _ _)) (ev_ite (fun hs => ?_) fun hs => ?_)
  · have hs := of_decide_eq_true hs
    have e : wrap64 (Int.tdiv (wrap64 (s + 7)) 8) = (s + 7) / 8 := by
      rw [w64 (n := s + 7) (by omega) (by omega), Int.tdiv_eq_ediv_of_nonneg (by omega), w64 (by omega) (by omega)]
    rw [e]
    by_cases hn : (l.length : Int) = (s + 7) / 8
    · rw [show ((l.length : Int) != (s + 7) / 8) = false by simpa using hn]
      refine st_impl_GoodBits_j0 (ev_neg (by decide) ?_)
      have e8 : wrap64 (8 * (l.length : Int)) = 8 * l.length := w64 (by omega) (by omega)
      by_cases h8 : s % 8 = 0
      · refine st_impl_GoodBits_l0 (ev_neg (by rw [e8]; omega) (ev_some ?_))
        exact (hb.2 ⟨hs.1, hs.2, hn, .inl h8⟩).symm
      · have hlen : ((l.length - 1 : Nat) : Int) = (l.length : Int) - 1 := by omega
        have := tail_impl s l h hl (l.length - 1) (by omega) (8 - (s % 8).toNat) (by omega) b (by
          rw [hb, hlen]; unfold BitsOk
          constructor
          · rintro ⟨_, _, _, h' | h'⟩
            · exact absurd h' h8
            · exact h'
          · exact fun h' => ⟨hs.1, hs.2, hn, .inr h'⟩)
        rw [show ((8 * (l.length - 1) + (8 - (8 - (s % 8).toNat)) : Nat) : Int) = s by omega] at this
        exact this
    · rw [show ((l.length : Int) != (s + 7) / 8) = true by simpa using hn, bool_false hb (fun h => hn h.2.2.1)]
      exact j0t
  · rw [bool_false hb (fun h => hs (decide_eq_true ⟨h.1, h.2.1⟩))]
    exact j0t
theorem bits_spec (s : Int) (l : List Int) (h : AreBytes l) (b : Bool) (hb : b = true ↔ BitsOk s l) : spec_GoodBits.f s l = some b := by
  unfold spec_GoodBits.f
  rw [in_some, Option.bind_some]
  by_cases hs : 0 ≤ s ∧ s ≤ 4000
  · rw [if_pos (decide_eq_true hs)]
    have e : wrap64 (Int.tdiv (wrap64 (s + 7)) 8) = (s + 7) / 8 := by
      rw [w64 (n := s + 7) (by omega) (by omega), Int.tdiv_eq_ediv_of_nonneg (by omega), w64 (by omega) (by omega)]
    rw [e]
    by_cases hn : (l.length : Int) = (s + 7) / 8
    · rw [if_pos hn, Int.tmod_eq_emod_of_nonneg hs.1]
      by_cases h8 : s % 8 = 0
      · rw [if_pos h8]
        exact congrArg some (hb.2 ⟨hs.1, hs.2, hn, .inl h8⟩).symm
      · have e1 : wrap64 ((l.length : Int) - 1) = (l.length : Int) - 1 := w64 (by omega) (by omega)
        have e2 : IntKind.u64.wrap (s % 8) = s % 8 := wrap_u64 (by omega) (by omega)
        rw [if_neg h8, e1, e2, if_pos (by omega), if_pos (by omega), if_pos (by omega)]
        congr 1
        obtain ⟨q, hq⟩ : ∃ q : Nat, (l.length : Int) - 1 = (q : Int) := ⟨l.length - 1, by omega⟩
        obtain ⟨r0, r1⟩ := rd_byte h (i := q) (by omega)
        obtain ⟨v, hv⟩ := Int.eq_ofNat_of_zero_le r0
        obtain ⟨m, hm⟩ : ∃ m : Nat, s % 8 = (m : Int) := ⟨(s % 8).toNat, by omega⟩
        have key : (v * 2 ^ m) % 256 = (v % 2 ^ (8 - m)) * 2 ^ m := by
          have e256 : 256 = 2 ^ (8 - m) * 2 ^ m := by rw [← Nat.pow_add, show 8 - m + m = 8 by omega]
          rw [e256, Nat.mul_mod_mul_right]
        have hp : 0 < 2 ^ m := Nat.two_pow_pos m
        have hsh : shl .u8 (rd l (q : Int)) (m : Int) = (((v * 2 ^ m) % 256 : Nat) : Int) := by
          unfold shl
          rw [hv, Int.toNat_natCast, Nat.min_eq_left (show m ≤ IntKind.u8.bits from (by omega : m ≤ 8)), IntKind.wrap_u8, Int.natCast_emod, Int.natCast_mul, Int.natCast_pow]
          rfl
        rw [hq, hm, hsh, key, Bool.eq_iff_iff, hb]
        have hv' : rd l (q : Int) % 2 ^ (8 - (s % 8).toNat) = ((v % 2 ^ (8 - m) : Nat) : Int) := by
          rw [hv, hm, Int.toNat_natCast, Int.natCast_emod, Int.natCast_pow]; rfl
        unfold BitsOk
        rw [hq, hv']
        constructor
        · intro h'
          have h' : (((v % 2 ^ (8 - m)) * 2 ^ m : Nat) : Int) = 0 := by simpa using h'
          have h' : (v % 2 ^ (8 - m)) * 2 ^ m = 0 := by exact_mod_cast h'
          rcases Nat.mul_eq_zero.1 h' with h' | h'
          · exact ⟨hs.1, hs.2, hn, .inr (by exact_mod_cast h')⟩
          · omega
        · rintro ⟨_, _, _, h' | h'⟩
          · exact absurd h' h8
          · have h' : v % 2 ^ (8 - m) = 0 := by exact_mod_cast h'
            rw [h']; simp
    · rw [if_neg hn]
      exact congrArg some (bool_false hb (fun h => hn h.2.2.1)).symm
  · rw [if_neg (by simpa using hs)]
    exact congrArg some (bool_false hb (fun h => hs ⟨h.1, h.2.1⟩)).symm
theorem bits_same (s : Int) (l : List Int) (h : AreBytes l) (hl : l.length ≤ 1048576) : ∃ b, spec_GoodBits.f s l = some b ∧ Ev (fun k => impl_GoodBits.f k s l) b ∧ (b = true ↔ BitsOk s l) := by
  obtain ⟨b, hb⟩ := bool_of (BitsOk s l)
  exact ⟨b, bits_spec s l h b hb, bits_impl s l h hl b hb, hb⟩
/-! ### the law's own helpers over bits -/
theorem szByteS_some (xs : List Int) (left : Int) (h0 : 0 ≤ left) (h1 : left ≤ 4611686018427387904) (hl : xs.length ≤ 4611686018427387903) : (∃ r, laws_szByteS.f xs left = some r ∧ r < 0) ∨ ∃ r, laws_szByteS.f xs left = some r ∧ 0 ≤ r ∧ r + (xs.length : Int) = left := by
  unfold laws_szByteS.f
  rw [w64 (n := left - (xs.length : Int)) (by omega) (by omega)]
  by_cases h : left - (xs.length : Int) < 0
  · exact .inl ⟨-1, if_pos h, by omega⟩
  · exact .inr ⟨_, if_neg h, by omega, by omega⟩
theorem szBits_some (a : Int) (xs : List Int) (left : Int) (h0 : 0 ≤ left) (h1 : left ≤ 4611686018427387904) (hl : xs.length ≤ 4611686018427387903) : (∃ r, laws_szBits.f a xs left = some r ∧ r < 0) ∨ ∃ r, laws_szBits.f a xs left = some r ∧ 0 ≤ r ∧ r + (xs.length : Int) = left := by
  unfold laws_szBits.f
  rcases szByteS_some xs left h0 h1 hl with ⟨r, hr, h⟩ | ⟨r, hr, h, h'⟩
  · rw [hr]; exact .inl ⟨-1, if_pos h, by omega⟩
  · rw [hr]; exact .inr ⟨r, if_neg (by omega), h, h'⟩
theorem toByteS_ev (xs : List Int) (h : xs.length ≤ 1048576) : Ev (fun k => laws_toByteS.f k xs) xs := by
  refine ev_pos (by omega) (ev_pos (by omega) ?_)
  have := ev_copy laws_toByteS.l0 (fun _ xs i => some (rd xs i)) id (fun _ _ _ _ => rfl) xs (by omega) (fun i hi => ev_some (rd_get hi)) (List.replicate (((xs.length : Int) : Int).toNat) 0) (by simp)
  rwa [List.map_id] at this
theorem toBits_ev (a : Int) (xs : List Int) (h : xs.length ≤ 1048576) : Ev (fun k => laws_toBits.f k a xs) (a, xs) := Ev.bind (toByteS_ev xs h) (ev_some rfl)
theorem eqByteS_ev (xs : List Int) (h : xs.length ≤ 1048576) : Ev (fun k => laws_eqByteS.f k xs xs) true := by
  refine ev_pos rfl ?_
  exact ev_alike_self laws_eqByteS.l0 (fun _ xs ys i => some (decide (rd xs i = rd ys i))) (fun k xs ys i => by
    simp only [laws_eqByteS.l0, Option.bind_some, decide_eq_true_eq]) xs (by omega) (fun i hi => ev_some (by simp))
theorem eqBits_ev (a : Int) (xs : List Int) (h : xs.length ≤ 1048576) : Ev (fun k => laws_eqBits.f k a xs a xs) true := ev_pos rfl (Ev.bind (eqByteS_ev xs h) (ev_pos rfl (ev_some rfl)))
theorem FnExactGoodBits : ∀ (a0_0 : Int) (l0_1 : List (Int)), (In64 a0_0) → (l0_1.length * 1 ≤ 140737488351232 ∧ ∀ y ∈ l0_1, InU8 y) → ∃ k, laws_FnExactGoodBits.f k a0_0 l0_1 = some true := by
  intro a xs _ ⟨hl, hx⟩
  refine Ev.rounds (g := fun k => laws_FnExactGoodBits.f k a xs) ?_
  rcases szBits_some a xs 1048576 (by omega) (by omega) (by omega) with ⟨r, hr, h⟩ | ⟨r, hr, h, h'⟩
  · exact ev_bindc hr (ev_pos h (ev_some rfl))
  · have tx := toBits_ev a xs (by omega)
    obtain ⟨b, hs, hi, _⟩ := bits_same a xs hx (by omega)
    exact ev_bindc hr (ev_neg (by omega) (Ev.bind tx (ev_bindc hs (Ev.bind tx (Ev.bind hi (ev_neg (by simp) (Ev.bind tx (Ev.bind (eqBits_ev a xs (by omega)) (ev_pos rfl (ev_some rfl))))))))))
end Go.Proofs.Ytijfjlpoihhkbaa.Pure
