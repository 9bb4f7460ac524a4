/- The law FnExactTakeBits over numbers and a plain list of bytes: it answers true. No condition beyond the numbers' own kinds and what fits in memory. -/
import Derived.Test.YtijfjlpoihhkbaaPFnExactTakeBitsx2
import Derived.Test.YtijfjlpoihhkbaaOpenFnExactTakeBits
import Derived.Test.YtijfjlpoihhkbaaPlain
namespace Go.Proofs.Ytijfjlpoihhkbaa.Pure
open Go.RowKit Go.Proofs.Ytijfjlpoihhkbaa.PFnExactTakeBits Go.Proofs.Ytijfjlpoihhkbaa.OFnExactTakeBits Go.Proofs.YtijfjlpoihhkbaaW.PrintWords Go.Proofs.YtijfjlpoihhkbaaW.PrintLast Go.Proofs.YtijfjlpoihhkbaaW.PrintMore Go.Proofs.YtijfjlpoihhkbaaO

theorem st_laws_toByteS_l0 {r : (List Int)} {x0 : List Int} {x3 : List Int} {x4 : Int} (h : Ev (fun k => if x4 < (x0.length : Int) then (if 0 ≤ x4 then (if x4 < (x3.length : Int) then (laws_toByteS.l0 k x0 (x3.set (x4 : Int).toNat (rd x0 x4)) (wrap64 (x4 + 1))) else (none)) else (none)) else (some x3)) r) : Ev (fun k => laws_toByteS.l0 k x0 x3 x4) r := Ev.step (fun k => by rw [laws_toByteS.l0]) h
theorem st_laws_eqByteS_l0 {r : (Bool)} {x0 : List Int} {x1 : List Int} {x5 : Int} (h : Ev (fun k => if x5 < (x0.length : Int) then (if 0 ≤ x5 then (if x5 < (x1.length : Int) then (if (rd x0 x5) = (rd x1 x5) then (laws_eqByteS.l0 k x0 x1 (wrap64 (x5 + 1))) else (some false)) else (none)) else (none)) else (some true)) r) : Ev (fun k => laws_eqByteS.l0 k x0 x1 x5) r := Ev.step (fun k => by rw [laws_eqByteS.l0]) h
theorem st_spec_l23Take_l0 {r : (Int)} {x1 : Int} {x2 : Int} {x7 : Int} {x8 : Int} {x123000 : Int} {x123001 : List Int} (h : Ev (fun k => if x8 < (wrap64 (x1 + x2)) then (if 0 ≤ (wrap64 (Int.tdiv x8 8)) then (if (wrap64 (Int.tdiv x8 8)) < (x123001.length : Int) then (if 0 ≤ (IntKind.u64.wrap (wrap64 (7 - (Int.tmod x8 8)))) then (spec_l23Take.l0 k x1 x2 (wrap64 ((wrap64 (2 * x7)) + (wrap64 (Go.bits .and .u8 (shr .u8 (rd x123001 (wrap64 (Int.tdiv x8 8))) (IntKind.u64.wrap (wrap64 (7 - (Int.tmod x8 8))))) 1)))) (wrap64 (x8 + 1)) x123000 x123001) else (none)) else (none)) else (none)) else (some x7)) r) : Ev (fun k => spec_l23Take.l0 k x1 x2 x7 x8 x123000 x123001) r := Ev.step (fun k => by rw [spec_l23Take.l0]) h
theorem st_impl_GoodBits_j0 {r : (Bool)} {x17 : Bool} {x131000 : Int} {x131001 : List Int} (h : Ev (fun k => if x17 = true then (some false) else (impl_GoodBits.l0 k x131000 x131000 x131001)) r) : Ev (fun k => impl_GoodBits.j0 k x17 x131000 x131001) r := Ev.step (fun k => by rw [impl_GoodBits.j0]) h
theorem st_impl_GoodBits_l0 {r : (Bool)} {x3 : Int} {x131000 : Int} {x131001 : List Int} (h : Ev (fun k => if x3 < (wrap64 (8 * (x131001.length : Int))) then ((impl_Bits_bit.f x131000 x131001 x3).bind fun t132 => (if t132 = 1 then (some false) else (impl_GoodBits.l0 k (wrap64 (x3 + 1)) x131000 x131001))) else (some true)) r) : Ev (fun k => impl_GoodBits.l0 k x3 x131000 x131001) r := Ev.step (fun k => by rw [impl_GoodBits.l0]) h
theorem st_impl_Bits_take_l0 {r : (Int × Bool)} {x1 : Int} {x8 : Int} {x17 : Int} {x18 : Int} {x135000 : Int} {x135001 : List Int} (h : Ev (fun k => if x18 < x17 then ((impl_Bits_bit.f x135000 x135001 (wrap64 (x1 + x18))).bind fun t136 => (impl_Bits_take.l0 k x1 (Go.bits .or .i64 (wrap64 (x8 * 2)) t136) x17 (wrap64 (x18 + 1)) x135000 x135001)) else (some (x8, true))) r) : Ev (fun k => impl_Bits_take.l0 k x1 x8 x17 x18 x135000 x135001) r := Ev.step (fun k => by rw [impl_Bits_take.l0]) h
theorem st_laws_FnExactTakeBits_j0 {r : (Bool)} {x42 : Bool} {x143000 : Int} {x143001 : List Int} {x155000 : Int} {x155001 : List Int} (h : Ev (fun k => if x42 = true then (some false) else ((laws_toBits.f k x143000 x143001).bind fun bt157 => ((laws_eqBits.f k x155000 x155001 bt157.1 bt157.2).bind fun t161 => (if t161 = true then (some true) else (some false))))) r) : Ev (fun k => laws_FnExactTakeBits.j0 k x42 x143000 x143001 x155000 x155001) r := Ev.step (fun k => by rw [laws_FnExactTakeBits.j0]) h
theorem in_same (a b c : Int) : impl_inRange.f a b c = spec_l1In.f a b c := rfl
theorem in_some (a b c : Int) : spec_l1In.f a b c = some (decide (b ≤ a ∧ a ≤ c)) := by
  unfold spec_l1In.f
  split <;> simp_all <;> omega
/-! ### bits in bytes -/
def AreBytes (l : List Int) : Prop := ∀ y ∈ l, InU8 y
theorem rd_byte {l : List Int} (h : AreBytes l) {i : Nat} (hi : i < l.length) : 0 ≤ rd l (i : Int) ∧ rd l (i : Int) ≤ 255 := by
  rw [rd_get hi]; exact h _ (List.getElem_mem hi)
/-- Bit number n, from the front. -/
def bitAt (l : List Int) (n : Nat) : Int := rd l ((n / 8 : Nat) : Int) / 2 ^ (7 - n % 8) % 2
theorem bitAt_range (l : List Int) (n : Nat) : 0 ≤ bitAt l n ∧ bitAt l n ≤ 1 := by unfold bitAt; omega
theorem bit_value (l : List Int) (h : AreBytes l) (n : Nat) (hn : n < 8 * l.length) : wrap64 (Go.bits .and .u8 (shr .u8 (rd l ((n / 8 : Nat) : Int)) ((7 - n % 8 : Nat) : Int)) 1) = bitAt l n := by
  obtain ⟨r0, r1⟩ := rd_byte h (i := n / 8) (by omega)
  have e3 : shr .u8 (rd l ((n / 8 : Nat) : Int)) ((7 - n % 8 : Nat) : Int) = rd l ((n / 8 : Nat) : Int) / 2 ^ (7 - n % 8) := by
    unfold shr
    rw [Int.toNat_natCast, Nat.min_eq_left (show 7 - n % 8 ≤ IntKind.u8.bits from (by omega : 7 - n % 8 ≤ 8))]
  rw [e3]
  have hp : (0 : Int) < 2 ^ (7 - n % 8) := Int.pow_pos (by omega)
  have q0 : 0 ≤ rd l ((n / 8 : Nat) : Int) / 2 ^ (7 - n % 8) := Int.ediv_nonneg r0 (Int.le_of_lt hp)
  have q1 : rd l ((n / 8 : Nat) : Int) / 2 ^ (7 - n % 8) ≤ rd l ((n / 8 : Nat) : Int) := Int.ediv_le_self _ r0
  rw [and8 1 1 _ rfl (by omega) q0 (by omega), w64 (by omega) (by omega)]
  rfl
theorem bit_impl (s : Int) (l : List Int) (h : AreBytes l) (n : Nat) (hn : n < 8 * l.length) (hl : l.length ≤ 1048576) : impl_Bits_bit.f s l (n : Int) = some (bitAt l n) := by
  have e1 : wrap64 (Int.tdiv (n : Int) 8) = ((n / 8 : Nat) : Int) := by rw [Int.tdiv_eq_ediv_of_nonneg (by omega)]; rw [w64 (by omega) (by omega)]; omega
  have e2 : wrap64 (7 - Int.tmod (n : Int) 8) = ((7 - n % 8 : Nat) : Int) := by rw [Int.tmod_eq_emod_of_nonneg (by omega)]; rw [w64 (by omega) (by omega)]; omega
  unfold impl_Bits_bit.f
  rw [e1, e2, if_pos (by omega), if_pos (by omega), if_pos (by omega), bit_value l h n hn]
/-- The bits behind the last one are 0. -/
theorem tail_impl (s : Int) (l : List Int) (h : AreBytes l) (hl : l.length ≤ 1048576) (q : Nat) (hq : q + 1 = l.length) : ∀ d : Nat, d ≤ 8 → ∀ b : Bool, (b = true ↔ rd l (q : Int) % 2 ^ d = 0) → Ev (fun k => impl_GoodBits.l0 k ((8 * q + (8 - d) : Nat) : Int) s l) b := by
  have e8 : wrap64 (8 * (l.length : Int)) = 8 * l.length := w64 (by omega) (by omega)
  intro d
  induction d with
  | zero =>
    intro _ b hb
    refine st_impl_GoodBits_l0 (ev_neg (by rw [e8]; omega) (ev_some ?_))
    exact (hb.2 (by simp [Int.emod_one])).symm
  | succ d ih =>
    intro hd b hb
    obtain ⟨r0, r1⟩ := rd_byte h (i := q) (by omega)
    refine st_impl_GoodBits_l0 (ev_pos (by rw [e8]; omega) (ev_bindc (bit_impl s l h _ (by omega) hl) ?_))
    have hbit : bitAt l (8 * q + (8 - (d + 1))) = rd l (q : Int) / 2 ^ d % 2 := by
      unfold bitAt
      rw [show (8 * q + (8 - (d + 1))) / 8 = q by omega, show 7 - (8 * q + (8 - (d + 1))) % 8 = d by omega]
    have hm : rd l (q : Int) % 2 ^ (d + 1) = rd l (q : Int) % 2 ^ d + 2 ^ d * (rd l (q : Int) / 2 ^ d % 2) := by
      obtain ⟨v, hv⟩ := Int.eq_ofNat_of_zero_le r0
      rw [hv]
      have := Nat.mod_pow_succ (b := 2) (k := d) (x := v)
      exact_mod_cast this
    have hp : (0 : Int) < 2 ^ d := Int.pow_pos (by omega)
    have hr := Int.emod_nonneg (rd l (q : Int)) (Int.ne_of_gt hp)
    rw [hbit]
    refine ev_ite (fun h1 => ev_some (bool_false hb ?_).symm) fun h1 => ?_
    · rw [hm, h1]; omega
    · have h0 : rd l (q : Int) / 2 ^ d % 2 = 0 := by omega
      have e : wrap64 (((8 * q + (8 - (d + 1)) : Nat) : Int) + 1) = ((8 * q + (8 - d) : Nat) : Int) := by rw [w64 (by omega) (by omega)]; omega
      rw [e]
      refine ih (by omega) b ?_
      rw [hb, hm, h0]; simp
def BitsOk (s : Int) (l : List Int) : Prop := 0 ≤ s ∧ s ≤ 4000 ∧ (l.length : Int) = (s + 7) / 8 ∧ (s % 8 = 0 ∨ rd l ((l.length : Int) - 1) % 2 ^ (8 - (s % 8).toNat) = 0)
theorem bits_impl (s : Int) (l : List Int) (h : AreBytes l) (hl : l.length ≤ 1048576) (b : Bool) (hb : b = true ↔ BitsOk s l) : Ev (fun k => impl_GoodBits.f k s l) b := by
  have j0t : Ev (fun k => impl_GoodBits.j0 k true s l) false := st_impl_GoodBits_j0 (ev_pos rfl (ev_some rfl))
  refine ev_bindc ((in_same _ _ _).trans (in_some _ _ _)) (ev_ite (fun hs => ?_) fun hs => ?_)
  · have hs := of_decide_eq_true hs
    have e : wrap64 (Int.tdiv (wrap64 (s + 7)) 8) = (s + 7) / 8 := by
      rw [w64 (n := s + 7) (by omega) (by omega), Int.tdiv_eq_ediv_of_nonneg (by omega), w64 (by omega) (by omega)]
    rw [e]
    by_cases hn : (l.length : Int) = (s + 7) / 8
    · rw [show ((l.length : Int) != (s + 7) / 8) = false by simpa using hn]
      refine st_impl_GoodBits_j0 (ev_neg (by decide) ?_)
      have e8 : wrap64 (8 * (l.length : Int)) = 8 * l.length := w64 (by omega) (by omega)
      by_cases h8 : s % 8 = 0
      · refine st_impl_GoodBits_l0 (ev_neg (by rw [e8]; omega) (ev_some ?_))
        exact (hb.2 ⟨hs.1, hs.2, hn, .inl h8⟩).symm
      · have hlen : ((l.length - 1 : Nat) : Int) = (l.length : Int) - 1 := by omega
        have := tail_impl s l h hl (l.length - 1) (by omega) (8 - (s % 8).toNat) (by omega) b (by
          rw [hb, hlen]; unfold BitsOk
          constructor
          · rintro ⟨_, _, _, h' | h'⟩
            · exact absurd h' h8
            · exact h'
          · exact fun h' => ⟨hs.1, hs.2, hn, .inr h'⟩)
        rw [show ((8 * (l.length - 1) + (8 - (8 - (s % 8).toNat)) : Nat) : Int) = s by omega] at this
        exact this
    · rw [show ((l.length : Int) != (s + 7) / 8) = true by simpa using hn, bool_false hb (fun h => hn h.2.2.1)]
      exact j0t
  · rw [bool_false hb (fun h => hs (decide_eq_true ⟨h.1, h.2.1⟩))]
    exact j0t
theorem bits_spec (s : Int) (l : List Int) (h : AreBytes l) (b : Bool) (hb : b = true ↔ BitsOk s l) : spec_GoodBits.f s l = some b := by
  unfold spec_GoodBits.f
  rw [in_some, Option.bind_some]
  by_cases hs : 0 ≤ s ∧ s ≤ 4000
  · rw [if_pos (decide_eq_true hs)]
    have e : wrap64 (Int.tdiv (wrap64 (s + 7)) 8) = (s + 7) / 8 := by
      rw [w64 (n := s + 7) (by omega) (by omega), Int.tdiv_eq_ediv_of_nonneg (by omega), w64 (by omega) (by omega)]
    rw [e]
    by_cases hn : (l.length : Int) = (s + 7) / 8
    · rw [if_pos hn, Int.tmod_eq_emod_of_nonneg hs.1]
      by_cases h8 : s % 8 = 0
      · rw [if_pos h8]
        exact congrArg some (hb.2 ⟨hs.1, hs.2, hn, .inl h8⟩).symm
      · have e1 : wrap64 ((l.length : Int) - 1) = (l.length : Int) - 1 := w64 (by omega) (by omega)
        have e2 : IntKind.u64.wrap (s % 8) = s % 8 := wrap_u64 (by omega) (by omega)
        rw [if_neg h8, e1, e2, if_pos (by omega), if_pos (by omega), if_pos (by omega)]
        congr 1
        obtain ⟨q, hq⟩ : ∃ q : Nat, (l.length : Int) - 1 = (q : Int) := ⟨l.length - 1, by omega⟩
        obtain ⟨r0, r1⟩ := rd_byte h (i := q) (by omega)
        obtain ⟨v, hv⟩ := Int.eq_ofNat_of_zero_le r0
        obtain ⟨m, hm⟩ : ∃ m : Nat, s % 8 = (m : Int) := ⟨(s % 8).toNat, by omega⟩
        have key : (v * 2 ^ m) % 256 = (v % 2 ^ (8 - m)) * 2 ^ m := by
          have e256 : 256 = 2 ^ (8 - m) * 2 ^ m := by rw [← Nat.pow_add, show 8 - m + m = 8 by omega]
          rw [e256, Nat.mul_mod_mul_right]
        have hp : 0 < 2 ^ m := Nat.two_pow_pos m
        have hsh : shl .u8 (rd l (q : Int)) (m : Int) = (((v * 2 ^ m) % 256 : Nat) : Int) := by
          unfold shl
          rw [hv, Int.toNat_natCast, Nat.min_eq_left (show m ≤ IntKind.u8.bits from (by omega : m ≤ 8)), IntKind.wrap_u8, Int.natCast_emod, Int.natCast_mul, Int.natCast_pow]
          rfl
        rw [hq, hm, hsh, key, Bool.eq_iff_iff, hb]
        have hv' : rd l (q : Int) % 2 ^ (8 - (s % 8).toNat) = ((v % 2 ^ (8 - m) : Nat) : Int) := by
          rw [hv, hm, Int.toNat_natCast, Int.natCast_emod, Int.natCast_pow]; rfl
        unfold BitsOk
        rw [hq, hv']
        constructor
        · intro h'
          have h' : (((v % 2 ^ (8 - m)) * 2 ^ m : Nat) : Int) = 0 := by simpa using h'
          have h' : (v % 2 ^ (8 - m)) * 2 ^ m = 0 := by exact_mod_cast h'
          rcases Nat.mul_eq_zero.1 h' with h' | h'
          · exact ⟨hs.1, hs.2, hn, .inr (by exact_mod_cast h')⟩
          · omega
        · rintro ⟨_, _, _, h' | h'⟩
          · exact absurd h' h8
          · have h' : v % 2 ^ (8 - m) = 0 := by exact_mod_cast h'
            rw [h']; simp
    · rw [if_neg hn]
      exact congrArg some (bool_false hb (fun h => hn h.2.2.1)).symm
  · rw [if_neg (by simpa using hs)]
    exact congrArg some (bool_false hb (fun h => hs ⟨h.1, h.2.1⟩)).symm
theorem bits_same (s : Int) (l : List Int) (h : AreBytes l) (hl : l.length ≤ 1048576) : ∃ b, spec_GoodBits.f s l = some b ∧ Ev (fun k => impl_GoodBits.f k s l) b ∧ (b = true ↔ BitsOk s l) := by
  obtain ⟨b, hb⟩ := bool_of (BitsOk s l)
  exact ⟨b, bits_spec s l h b hb, bits_impl s l h hl b hb, hb⟩
/-! ### the law's own helpers over bits -/
theorem szByteS_some (xs : List Int) (left : Int) (h0 : 0 ≤ left) (h1 : left ≤ 4611686018427387904) (hl : xs.length ≤ 4611686018427387903) : (∃ r, laws_szByteS.f xs left = some r ∧ r < 0) ∨ ∃ r, laws_szByteS.f xs left = some r ∧ 0 ≤ r ∧ r + (xs.length : Int) = left := by
  unfold laws_szByteS.f
  rw [w64 (n := left - (xs.length : Int)) (by omega) (by omega)]
  by_cases h : left - (xs.length : Int) < 0
  · exact .inl ⟨-1, if_pos h, by omega⟩
  · exact .inr ⟨_, if_neg h, by omega, by omega⟩
theorem szBits_some (a : Int) (xs : List Int) (left : Int) (h0 : 0 ≤ left) (h1 : left ≤ 4611686018427387904) (hl : xs.length ≤ 4611686018427387903) : (∃ r, laws_szBits.f a xs left = some r ∧ r < 0) ∨ ∃ r, laws_szBits.f a xs left = some r ∧ 0 ≤ r ∧ r + (xs.length : Int) = left := by
  unfold laws_szBits.f
  rcases szByteS_some xs left h0 h1 hl with ⟨r, hr, h⟩ | ⟨r, hr, h, h'⟩
  · rw [hr]; exact .inl ⟨-1, if_pos h, by omega⟩
  · rw [hr]; exact .inr ⟨r, if_neg (by omega), h, h'⟩
theorem toByteS_ev (xs : List Int) (h : xs.length ≤ 1048576) : Ev (fun k => laws_toByteS.f k xs) xs := by
  refine ev_pos (by omega) (ev_pos (by omega) ?_)
  have := ev_copy laws_toByteS.l0 (fun _ xs i => some (rd xs i)) id (fun _ _ _ _ => rfl) xs (by omega) (fun i hi => ev_some (rd_get hi)) (List.replicate (((xs.length : Int) : Int).toNat) 0) (by simp)
  rwa [List.map_id] at this
theorem toBits_ev (a : Int) (xs : List Int) (h : xs.length ≤ 1048576) : Ev (fun k => laws_toBits.f k a xs) (a, xs) := Ev.bind (toByteS_ev xs h) (ev_some rfl)
theorem eqByteS_ev (xs : List Int) (h : xs.length ≤ 1048576) : Ev (fun k => laws_eqByteS.f k xs xs) true := by
  refine ev_pos rfl ?_
  exact ev_alike_self laws_eqByteS.l0 (fun _ xs ys i => some (decide (rd xs i = rd ys i))) (fun k xs ys i => by
    simp only [laws_eqByteS.l0, Option.bind_some, decide_eq_true_eq]) xs (by omega) (fun i hi => ev_some (by simp))
theorem eqBits_ev (a : Int) (xs : List Int) (h : xs.length ≤ 1048576) : Ev (fun k => laws_eqBits.f k a xs a xs) true := ev_pos rfl (Ev.bind (eqByteS_ev xs h) (ev_pos rfl (ev_some rfl)))
/-! ### bits taken -/
/-- The number that m bits from a on tell. -/
def takeOf (l : List Int) (a : Nat) : Nat → Int
  | 0 => 0
  | m + 1 => 2 * takeOf l a m + bitAt l (a + m)
theorem takeOf_range (l : List Int) (a : Nat) : ∀ m : Nat, 0 ≤ takeOf l a m ∧ takeOf l a m < 2 ^ m
  | 0 => by simp [takeOf]
  | m + 1 => by
    have h := takeOf_range l a m
    have hb := bitAt_range l (a + m)
    rw [takeOf, Int.pow_succ]
    omega
theorem takeOf_small (l : List Int) (a m : Nat) (hm : m ≤ 32) : 0 ≤ takeOf l a m ∧ takeOf l a m < 4294967296 := by
  have h := takeOf_range l a m
  have : (2 : Int) ^ m ≤ 2 ^ 32 := by exact_mod_cast Nat.pow_le_pow_right (by omega) hm
  have e : (2 : Int) ^ 32 = 4294967296 := by decide
  omega
theorem many_some (m : Int) : impl_isMany.f m = some (decide (0 ≤ m ∧ m ≤ 32)) := by
  unfold impl_isMany.f
  rw [in_same, in_some]; rfl
theorem take_impl (s : Int) (l : List Int) (h : AreBytes l) (hl : l.length ≤ 1048576) (a m : Nat) (hm : m ≤ 32) (hf : a + m ≤ 8 * l.length) (hs : 0 ≤ (a : Int) ∧ (a : Int) ≤ wrap64 (s - (m : Int))) : Ev (fun k => impl_Bits_take.f k s l (a : Int) (m : Int)) (takeOf l a m, true) := by
  refine ev_bindc ((in_same _ _ _).trans (in_some _ _ _)) (ev_pos (decide_eq_true hs) ?_)
  refine ev_for1 m (fun k i (v : Int) => impl_Bits_take.l0 k (a : Int) v (m : Int) (i : Int) s l) (fun i v => v = takeOf l a i) (takeOf l a m, true) ?_ ?_ 0 0 (Nat.zero_le _) rfl
  · rintro v rfl
    exact st_impl_Bits_take_l0 (ev_neg (by omega) (ev_some rfl))
  · rintro i v hi rfl
    refine .inr ⟨_, rfl, fun r hr => st_impl_Bits_take_l0 (ev_pos (by omega) ?_)⟩
    have e : wrap64 ((a : Int) + (i : Int)) = ((a + i : Nat) : Int) := by rw [w64 (by omega) (by omega)]; omega
    have ht := takeOf_small l a i (by omega)
    have hb := bitAt_range l (a + i)
    rw [e, w64s i (by omega)]
    refine ev_bindc (bit_impl s l h _ (by omega) hl) ?_
    rw [w64 (n := takeOf l a i * 2) (by omega) (by omega), or64 1 2 (takeOf l a i * 2) (bitAt l (a + i)) rfl (by omega) (by omega) (by omega) (by omega) (by omega) (by omega), Int.mul_comm]
    exact hr
theorem take_spec (s : Int) (l : List Int) (h : AreBytes l) (hl : l.length ≤ 1048576) (a m : Nat) (hm : m ≤ 32) (hf : a + m ≤ 8 * l.length) : Ev (fun k => spec_l23Take.f k s l (a : Int) (m : Int)) (takeOf l a m) := by
  have eam : wrap64 ((a : Int) + (m : Int)) = ((a + m : Nat) : Int) := by rw [w64 (by omega) (by omega)]; omega
  have := ev_for1 m (fun k i (v : Int) => spec_l23Take.l0 k (a : Int) (m : Int) v ((a + i : Nat) : Int) s l) (fun i v => v = takeOf l a i) (takeOf l a m) ?_ ?_ 0 0 (Nat.zero_le _) rfl
  · exact this
  · rintro v rfl
    exact st_spec_l23Take_l0 (ev_neg (by rw [eam]; omega) (ev_some rfl))
  · rintro i v hi rfl
    refine .inr ⟨_, rfl, fun r hr => st_spec_l23Take_l0 ?_⟩
    have ht := takeOf_small l a i (by omega)
    have hb := bitAt_range l (a + i)
    have w1 : wrap64 (2 * takeOf l a i) = 2 * takeOf l a i := w64 (by omega) (by omega)
    have w2 : wrap64 (2 * takeOf l a i + bitAt l (a + i)) = 2 * takeOf l a i + bitAt l (a + i) := w64 (by omega) (by omega)
    have w3 := w64s (a + i) (by omega)
    have hlt : a + i < 8 * l.length := by omega
    have hlt2 : a + i < a + m := by omega
    have hbi := bit_value l h (a + i) hlt
    have hr' : Ev (fun k => spec_l23Take.l0 k (a : Int) (m : Int) (2 * takeOf l a i + bitAt l (a + i)) ((a + i + 1 : Nat) : Int) s l) r := hr
    clear hr ht hb
    generalize 2 * takeOf l a i = q at w1 w2 hr'
    generalize a + i = n at *
    have e1 : wrap64 (Int.tdiv (n : Int) 8) = ((n / 8 : Nat) : Int) := by rw [Int.tdiv_eq_ediv_of_nonneg (by omega)]; rw [w64 (by omega) (by omega)]; omega
    have e2 : wrap64 (7 - Int.tmod (n : Int) 8) = ((7 - n % 8 : Nat) : Int) := by rw [Int.tmod_eq_emod_of_nonneg (by omega)]; rw [w64 (by omega) (by omega)]; omega
    have e3 : IntKind.u64.wrap ((7 - n % 8 : Nat) : Int) = ((7 - n % 8 : Nat) : Int) := wrap_u64 (by omega) (by omega)
    simp only [e1, e2, e3, hbi, w1, w2, w3]
    exact ev_pos (by rw [eam]; omega) (ev_pos (by omega) (ev_pos (by omega) (ev_pos (by omega) hr')))
theorem same (s : Int) (l : List Int) (h : AreBytes l) (hl : l.length ≤ 1048576) (a m : Int) (ha : In64 a) : ∃ w, Ev (fun k => spec_TakeBits.f k s l a m) w ∧ Ev (fun k => impl_TakeBits.f k s l a m) w := by
  obtain ⟨b, hs, hi, hb⟩ := bits_same s l h hl
  cases b with
  | false => exact ⟨(0, false), ev_bindc hs (ev_neg (by decide) (ev_some rfl)), Ev.bind hi (ev_neg (by decide) (ev_some rfl))⟩
  | true =>
    have hok := hb.1 rfl
    by_cases hm : 0 ≤ m ∧ m ≤ 32
    · have hm' : decide (0 ≤ m ∧ m ≤ 32) = true := decide_eq_true hm
      obtain ⟨m, rfl⟩ := Int.eq_ofNat_of_zero_le hm.1
      have e : wrap64 (s - (m : Int)) = s - m := w64 (by have := hok.1; omega) (by have := hok.2.1; omega)
      by_cases ha0 : 0 ≤ a ∧ a ≤ s - m
      · obtain ⟨a, rfl⟩ := Int.eq_ofNat_of_zero_le ha0.1
        have hfit : a + m ≤ 8 * l.length := by have := hok.2.2.1; omega
        have ts := take_spec s l h hl a m (by omega) hfit
        have ti := take_impl s l h hl a m (by omega) hfit (by rw [e]; omega)
        exact ⟨(takeOf l a m, true), ev_bindc hs (ev_pos rfl (ev_bindc (in_some _ _ _) (ev_pos hm' (ev_neg (by omega) (ev_neg (by rw [e]; omega) (Ev.bind ts (ev_some rfl))))))), Ev.bind hi (ev_pos rfl (ev_bindc (many_some _) (ev_pos hm' (Ev.bind ti (ev_some rfl)))))⟩
      · refine ⟨(0, false), ev_bindc hs (ev_pos rfl (ev_bindc (in_some _ _ _) (ev_pos hm' ?_))), Ev.bind hi (ev_pos rfl (ev_bindc (many_some _) (ev_pos hm' (Ev.bind (a := (0, false)) ?_ (ev_some rfl)))))⟩
        · exact ev_ite (fun _ => ev_some rfl) fun h1 => ev_pos (by rw [e]; omega) (ev_some rfl)
        · refine ev_bindc ((in_same _ _ _).trans (in_some _ _ _)) (ev_neg ?_ (ev_some rfl))
          rw [e]; simpa using ha0
    · have hm' : ¬ decide (0 ≤ m ∧ m ≤ 32) = true := by simpa using hm
      exact ⟨(0, false), ev_bindc hs (ev_pos rfl (ev_bindc (in_some _ _ _) (ev_neg hm' (ev_some rfl)))), Ev.bind hi (ev_pos rfl (ev_bindc (many_some _) (ev_neg hm' (ev_some rfl))))⟩
theorem FnExactTakeBits : ∀ (a0_0 : Int) (l0_1 : List (Int)) (a1 : Int) (a2 : Int), (In64 a0_0) → (l0_1.length * 1 ≤ 140737488351232 ∧ ∀ y ∈ l0_1, InU8 y) → (In64 a1) → (In64 a2) → ∃ k, laws_FnExactTakeBits.f k a0_0 l0_1 a1 a2 = some true := by
  intro s xs a m _ ⟨hl, hx⟩ ha _
  refine Ev.rounds (g := fun k => laws_FnExactTakeBits.f k s xs a m) ?_
  rcases szBits_some s xs 1048576 (by omega) (by omega) (by omega) with ⟨r, hr, h⟩ | ⟨r, hr, h, h'⟩
  · exact ev_bindc hr (ev_pos h (ev_some rfl))
  · have tx := toBits_ev s xs (by omega)
    obtain ⟨w, hs, hi⟩ := same s xs hx (by omega) a m ha
    refine ev_bindc hr (ev_neg (by omega) (Ev.bind tx (Ev.bind hs (Ev.bind tx (Ev.bind hi (ev_pos rfl ?_))))))
    have e : (w.2 != w.2) = false := by simp
    rw [e]
    exact st_laws_FnExactTakeBits_j0 (ev_neg (by decide) (Ev.bind tx (Ev.bind (eqBits_ev s xs (by omega)) (ev_pos rfl (ev_some rfl)))))
end Go.Proofs.Ytijfjlpoihhkbaa.Pure
