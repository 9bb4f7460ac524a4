/- Texts of the row of the law FnExactStepCloud, laid together. -/
import Derived.Test.YthgfobcckoedaaaZFnExactStepCloud0
import Derived.Test.YthgfobcckoedaaaZFnExactStepCloud8
import Derived.Laws.BitsLemmas
namespace Go.Proofs.YthgfobcckoedaaaO
open Go.RowKit Go.Proofs.YthgfobcckoedaaaW.PrintWords Go.Proofs.YthgfobcckoedaaaW.PrintLast Go.Proofs.YthgfobcckoedaaaW.PrintMore
theorem w64 {n : Int} (h : -9223372036854775808 ≤ n) (k : n ≤ 9223372036854775807) : wrap64 n = n := by unfold wrap64; omega
theorem w64s (i : Nat) (h : i < 4611686018427387904) : wrap64 ((i : Int) + 1) = ((i + 1 : Nat) : Int) := by unfold wrap64; omega
theorem ev_eq {α : Type} {x : Option α} {r : α} (h : x = some r) : Ev (fun _ => x) r := ⟨0, fun _ _ => h⟩
theorem ev_some {α : Type} {x r : α} (h : x = r) : Ev (fun _ => some x) r := ⟨0, fun _ _ => by rw [h]⟩
theorem ev_pos {α : Type} {c : Prop} [Decidable c] {f g : Nat → Option α} {r : α} (h : c) (k : Ev f r) : Ev (fun n => if c then f n else g n) r := by
  obtain ⟨K, hK⟩ := k
  exact ⟨K, fun n hn => (if_pos h).trans (hK n hn)⟩
theorem ev_neg {α : Type} {c : Prop} [Decidable c] {f g : Nat → Option α} {r : α} (h : ¬ c) (k : Ev g r) : Ev (fun n => if c then f n else g n) r := by
  obtain ⟨K, hK⟩ := k
  exact ⟨K, fun n hn => (if_neg h).trans (hK n hn)⟩
theorem ev_ite {α : Type} {c : Prop} [Decidable c] {f g : Nat → Option α} {r : α} (h : c → Ev f r) (k : ¬ c → Ev g r) : Ev (fun n => if c then f n else g n) r := by
  by_cases hc : c
  · exact ev_pos hc (h hc)
  · exact ev_neg hc (k hc)
theorem ev_bindc {α β : Type} {x : Option α} {f : Nat → α → Option β} {a : α} {r : β} (h : x = some a) (k : Ev (fun n => f n a) r) : Ev (fun n => x.bind (f n)) r := by
  subst h; exact k
theorem ev_for {σ ρ : Type} (n : Nat) (L : Nat → Nat → σ → Option ρ) (I : Nat → σ → Prop) (Q : ρ → Prop)
    (hend : ∀ s, I n s → ∃ r, Ev (fun k => L k n s) r ∧ Q r)
    (hstep : ∀ i s, i < n → I i s → (∃ r, Ev (fun k => L k i s) r ∧ Q r) ∨ ∃ s', I (i + 1) s' ∧ ∀ r, Ev (fun k => L k (i + 1) s') r → Ev (fun k => L k i s) r) :
    ∀ i s, i ≤ n → I i s → ∃ r, Ev (fun k => L k i s) r ∧ Q r := by
  have key : ∀ d i s, i + d = n → I i s → ∃ r, Ev (fun k => L k i s) r ∧ Q r := by
    intro d
    induction d with
    | zero => intro i s hi h; obtain rfl : i = n := by omega
              exact hend s h
    | succ d ih =>
      intro i s hi h
      rcases hstep i s (by omega) h with h' | ⟨s', hI, hr⟩
      · exact h'
      · obtain ⟨r, hr', hQ⟩ := ih (i + 1) s' (by omega) hI
        exact ⟨r, hr r hr', hQ⟩
  intro i s hi h
  exact key (n - i) i s (by omega) h
theorem ev_for1 {σ ρ : Type} (n : Nat) (L : Nat → Nat → σ → Option ρ) (I : Nat → σ → Prop) (a : ρ)
    (hend : ∀ s, I n s → Ev (fun k => L k n s) a)
    (hstep : ∀ i s, i < n → I i s → Ev (fun k => L k i s) a ∨ ∃ s', I (i + 1) s' ∧ ∀ r, Ev (fun k => L k (i + 1) s') r → Ev (fun k => L k i s) r) :
    ∀ i s, i ≤ n → I i s → Ev (fun k => L k i s) a := by
  intro i s hi h
  obtain ⟨r, hr, rfl⟩ := ev_for n L I (fun r => r = a) (fun s hs => ⟨a, hend s hs, rfl⟩) (fun i s hi hs => (hstep i s hi hs).imp (fun h => ⟨a, h, rfl⟩) id) i s hi h
  exact hr
theorem rd_get {xs : List Int} {i : Nat} (h : i < xs.length) : rd xs (i : Int) = xs[i] := by simp [rd, List.getD_eq_getElem?_getD, h]
theorem getD_get {α : Type} {d : α} {xs : List α} {i : Nat} (h : i < xs.length) : xs.getD (i : Int).toNat d = xs[i] := by simp [List.getD_eq_getElem?_getD, h]
theorem ev_alike {α β : Type} (L : Nat → List α → List β → Int → Option Bool) (e : Nat → List α → List β → Int → Option Bool) (g : α → β → Bool)
    (hL : ∀ k xs ys i, L (k + 1) xs ys i = if i < (xs.length : Int) then (if 0 ≤ i then (if i < (ys.length : Int) then ((e k xs ys i).bind fun v => if v = true then L k xs ys (wrap64 (i + 1)) else some false) else none) else none) else some true)
    (xs : List α) (ys : List β) (hx : xs.length < 4611686018427387904) (hy : ys.length = xs.length) (he : ∀ i : Nat, ∀ (h : i < xs.length) (h' : i < ys.length), Ev (fun k => e k xs ys (i : Int)) (g xs[i] ys[i]))
    (b : Bool) (hb : b = true ↔ ∀ i : Nat, ∀ (h : i < xs.length) (h' : i < ys.length), g xs[i] ys[i] = true) :
    Ev (fun k => L k xs ys 0) b := by
  refine ev_for1 xs.length (fun k i (_ : Unit) => L k xs ys (i : Int)) (fun i _ => ∀ j, j < i → ∀ (h : j < xs.length) (h' : j < ys.length), g xs[j] ys[j] = true) b ?_ ?_ 0 () (Nat.zero_le _) (fun j hj => by omega)
  · intro _ h
    refine Ev.step (fun k => hL k xs ys _) (ev_neg (by omega) (ev_some ?_))
    exact (hb.2 fun i hi hi' => h i hi hi hi').symm
  · intro i _ hi h
    have hi' : i < ys.length := by omega
    by_cases hg : g xs[i] ys[i] = true
    · refine .inr ⟨(), fun j hj h1 h2 => ?_, fun r hr => ?_⟩
      · rcases Nat.lt_or_ge j i with hji | hji
        · exact h j hji h1 h2
        · obtain rfl : j = i := by omega
          exact hg
      · refine Ev.step (fun k => hL k xs ys _) (ev_pos (by omega) (ev_pos (by omega) (ev_pos (by omega) (Ev.bind (he i hi hi') (ev_pos hg ?_)))))
        rw [w64s i (by omega)]
        exact hr
    · refine .inl (Ev.step (fun k => hL k xs ys _) (ev_pos (by omega) (ev_pos (by omega) (ev_pos (by omega) (Ev.bind (he i hi hi') (ev_neg hg (ev_some ?_)))))))
      cases b with
      | false => rfl
      | true => exact absurd (hb.1 rfl i hi hi') hg
theorem ev_alike_self {α : Type} (L : Nat → List α → List α → Int → Option Bool) (e : Nat → List α → List α → Int → Option Bool)
    (hL : ∀ k xs ys i, L (k + 1) xs ys i = if i < (xs.length : Int) then (if 0 ≤ i then (if i < (ys.length : Int) then ((e k xs ys i).bind fun v => if v = true then L k xs ys (wrap64 (i + 1)) else some false) else none) else none) else some true)
    (xs : List α) (hx : xs.length < 4611686018427387904) (he : ∀ i : Nat, ∀ (_ : i < xs.length), Ev (fun k => e k xs xs (i : Int)) true) :
    Ev (fun k => L k xs xs 0) true :=
  ev_alike L e (fun _ _ => true) hL xs xs hx rfl (fun i h _ => he i h) true ⟨fun _ _ _ _ => rfl, fun _ => rfl⟩
theorem bool_false {P : Prop} {b : Bool} (h : b = true ↔ P) (k : ¬ P) : b = false := by
  cases b with
  | false => rfl
  | true => exact absurd (h.1 rfl) k
theorem ev_all (n : Nat) (L : Nat → Nat → Option Bool) (ok : Nat → Prop) (e b : Bool) (hb : b = true ↔ e = true ∧ ∀ i, i < n → ok i) (hend : Ev (fun k => L k n) e)
    (hyes : ∀ i, i < n → (∀ j, j < i → ok j) → ok i → ∀ r, Ev (fun k => L k (i + 1)) r → Ev (fun k => L k i) r) (hno : ∀ i, i < n → (∀ j, j < i → ok j) → ¬ ok i → Ev (fun k => L k i) false) : Ev (fun k => L k 0) b := by
  refine ev_for1 n (fun k i (_ : Unit) => L k i) (fun i _ => ∀ j, j < i → ok j) b ?_ ?_ 0 () (Nat.zero_le _) (fun j hj => by omega)
  · intro _ h
    have : b = e := by
      cases e with
      | false => exact bool_false hb (fun h => by simp at h)
      | true => exact hb.2 ⟨rfl, h⟩
    rw [this]
    exact hend
  · intro i _ hi h
    by_cases ho : ok i
    · refine .inr ⟨(), fun j hj => ?_, hyes i hi h ho⟩
      rcases Nat.lt_or_ge j i with h1 | h1
      · exact h j h1
      · obtain rfl : j = i := by omega
        exact ho
    · have : b = false := bool_false hb (fun h => ho (h.2 i hi))
      rw [this]
      exact .inl (hno i hi h ho)
theorem wrap_u64 {n : Int} (h0 : 0 ≤ n) (h1 : n ≤ 18446744073709551615) : IntKind.u64.wrap n = n := by
  have e : IntKind.u64.wrap n = n % 18446744073709551616 := by simp only [IntKind.wrap, IntKind.bits, IntKind.signed]; rfl
  rw [e]; omega
def Chain {α : Type} (E : α → Int → Int → Prop) : List α → Int → Int → Prop
  | [], c, d => c = d
  | x :: r, c, d => ∃ m, E x c m ∧ Chain E r m d
theorem Chain.snoc {α : Type} {E : α → Int → Int → Prop} : ∀ {l : List α} {c m d : Int} {x : α}, Chain E l c m → E x m d → Chain E (l ++ [x]) c d
  | [], _, _, _, _, h, k => by cases h; exact ⟨_, k, rfl⟩
  | _ :: _, _, _, _, _, ⟨q, h1, h2⟩, k => ⟨q, h1, Chain.snoc h2 k⟩
theorem Chain.le {α : Type} {E : α → Int → Int → Prop} (hm : ∀ x c d, E x c d → c ≤ d) : ∀ {l : List α} {c d : Int}, Chain E l c d → c ≤ d
  | [], _, _, h => Int.le_of_eq h
  | _ :: _, _, _, ⟨_, h1, h2⟩ => Int.le_trans (hm _ _ _ h1) (Chain.le hm h2)
theorem ev_mark {α : Type} (L : Nat → List α → Int → Nat → Option (Int × List α)) (E : α → Int → Int → Prop) (G : α → Prop) (W : Int) (hW : 0 ≤ W) (hW' : W ≤ 1099511627776)
    (hend : ∀ zs c, Ev (fun k => L k zs c zs.length) (c, zs))
    (hstep : ∀ zs c i, ∀ hi : i < zs.length, i < 1048576 → G zs[i] → 0 ≤ c → c ≤ 2305843009213693952 → ∃ x' c', E x' c c' ∧ c ≤ c' ∧ c' ≤ c + W ∧ ∀ r, Ev (fun k => L k (zs.set i x') c' (i + 1)) r → Ev (fun k => L k zs c i) r)
    (xs : List α) (hG : ∀ x ∈ xs, G x) (hl : xs.length ≤ 1048576) (c : Int) (hc0 : 0 ≤ c) (hc1 : c ≤ 1152921504606846976) :
    ∃ ys d, Chain E ys c d ∧ c ≤ d ∧ d ≤ c + W * xs.length ∧ ys.length = xs.length ∧ Ev (fun k => L k xs c 0) (d, ys) := by
  have key : ∀ n i : Nat, ∀ zs : List α, ∀ m : Int, i + n = xs.length → zs.length = xs.length → zs.drop i = xs.drop i → Chain E (zs.take i) c m → c ≤ m → m ≤ c + W * i →
      ∃ ys d, Chain E ys c d ∧ c ≤ d ∧ d ≤ c + W * xs.length ∧ ys.length = xs.length ∧ Ev (fun k => L k zs m i) (d, ys) := by
    intro n
    induction n with
    | zero =>
      intro i zs m hi hz hd hch h1 h2
      obtain rfl : i = zs.length := by omega
      rw [List.take_length] at hch
      rw [← hz]
      exact ⟨zs, m, hch, h1, h2, rfl, hend zs m⟩
    | succ n ih =>
      intro i zs m hi hz hd hch h1 h2
      have hlt : i < zs.length := by omega
      have hx : i < xs.length := by omega
      have hget : zs[i] = xs[i] := by
        have e1 := List.drop_eq_getElem_cons hlt
        have e2 := List.drop_eq_getElem_cons hx
        rw [hd, e2] at e1
        exact (List.cons.inj e1).1.symm
      have hWi : W * (i : Int) ≤ 1099511627776 * 1048576 := Int.mul_le_mul hW' (by omega) (by omega) (by omega)
      obtain ⟨x', c', hE, hc, hcW, hr⟩ := hstep zs m i hlt (by omega) (by rw [hget]; exact hG _ (List.getElem_mem hx)) (by omega) (by omega)
      obtain ⟨ys, d, g1, g2, g3, g4, g5⟩ := ih (i + 1) (zs.set i x') c' (by omega) (by simpa using hz) (by
          rw [List.drop_set_of_lt (by omega)]
          have e1 := List.drop_eq_getElem_cons hlt
          have e2 := List.drop_eq_getElem_cons hx
          rw [hd, e2] at e1
          exact (List.cons.inj e1).2.symm) (by
          rw [List.take_succ_eq_append_getElem (by simpa using hlt), List.take_set_of_le (Nat.le_refl i), List.getElem_set_self]
          exact Chain.snoc hch hE) (by omega) (by
          have : W * ((i + 1 : Nat) : Int) = W * i + W := by rw [Int.natCast_add, Int.mul_add]; simp
          omega)
      exact ⟨ys, d, g1, g2, g3, g4, hr _ g5⟩
  have := key xs.length 0 xs c (by omega) rfl rfl (by simp [Chain]) (Int.le_refl _) (by simp)
  exact this
theorem ev_held {α : Type} (H : Nat → List α → Int → Nat → Option Int) (E : α → Int → Int → Prop) (hm : ∀ x c d, E x c d → c ≤ d)
    (hend : ∀ ys c, Ev (fun k => H k ys c ys.length) c)
    (hstep : ∀ ys c c' i, ∀ hi : i < ys.length, i < 1048576 → E ys[i] c c' → 0 ≤ c → c' ≤ 2305843009213693952 → ∀ r, Ev (fun k => H k ys c' (i + 1)) r → Ev (fun k => H k ys c i) r)
    (ys : List α) (hl : ys.length ≤ 1048576) (c d : Int) (hc0 : 0 ≤ c) (hd : d ≤ 2305843009213693952) (h : Chain E ys c d) : Ev (fun k => H k ys c 0) d := by
  have key : ∀ n i : Nat, ∀ m : Int, i + n = ys.length → 0 ≤ m → Chain E (ys.drop i) m d → Ev (fun k => H k ys m i) d := by
    intro n
    induction n with
    | zero =>
      intro i m hi h0 hch
      obtain rfl : i = ys.length := by omega
      rw [List.drop_length] at hch
      obtain rfl : m = d := hch
      exact hend ys m
    | succ n ih =>
      intro i m hi h0 hch
      have hlt : i < ys.length := by omega
      rw [List.drop_eq_getElem_cons hlt] at hch
      obtain ⟨m', hE, hch⟩ := hch
      have h1 := hm _ _ _ hE
      exact hstep ys m m' i hlt (by omega) hE h0 (by have := Chain.le hm hch; omega) d (ih (i + 1) m' (by omega) (by omega) hch)
  exact key ys.length 0 c (by omega) hc0 h
theorem ev_index {α : Type} (L : Nat → List α → Int → Int → Option Int) (p : Nat → List α → Int → Option Bool)
    (hL : ∀ k xs n i, L (k + 1) xs n i = if i < n then (if 0 ≤ i then (if i < (xs.length : Int) then ((p k xs i).bind fun t => if t = true then some i else L k xs n (wrap64 (i + 1))) else none) else none) else some (-1))
    (xs : List α) (hx : xs.length < 4611686018427387904) (P : Nat → Bool) (he : ∀ i : Nat, i < xs.length → Ev (fun k => p k xs (i : Int)) (P i)) :
    ∃ r, Ev (fun k => L k xs (xs.length : Int) 0) r ∧ ((r = -1 ∧ ∀ i, i < xs.length → P i = false) ∨ ∃ i : Nat, i < xs.length ∧ r = (i : Int) ∧ P i = true ∧ ∀ j, j < i → P j = false) := by
  refine ev_for xs.length (fun k i (_ : Unit) => L k xs (xs.length : Int) (i : Int)) (fun i _ => ∀ j, j < i → P j = false) (fun r => (r = -1 ∧ ∀ i, i < xs.length → P i = false) ∨ ∃ i : Nat, i < xs.length ∧ r = (i : Int) ∧ P i = true ∧ ∀ j, j < i → P j = false) ?_ ?_ 0 () (Nat.zero_le _) (fun j hj => by omega)
  · intro _ h
    exact ⟨-1, Ev.step (fun k => hL k xs _ _) (ev_neg (by omega) (ev_some rfl)), .inl ⟨rfl, h⟩⟩
  · intro i _ hi h
    cases hP : P i with
    | true =>
      refine .inl ⟨(i : Int), Ev.step (fun k => hL k xs _ _) (ev_pos (by omega) (ev_pos (by omega) (ev_pos (by omega) (Ev.bind (he i hi) (ev_pos hP (ev_some rfl)))))), .inr ⟨i, hi, rfl, hP, h⟩⟩
    | false =>
      refine .inr ⟨(), fun j hj => ?_, fun r hr => Ev.step (fun k => hL k xs _ _) (ev_pos (by omega) (ev_pos (by omega) (ev_pos (by omega) (Ev.bind (he i hi) (ev_neg (by rw [hP]; decide) ?_)))))⟩
      · rcases Nat.lt_or_ge j i with h1 | h1
        · exact h j h1
        · obtain rfl : j = i := by omega
          exact hP
      · rw [w64s i (by omega)]
        exact hr
theorem ev_contains {α : Type} (L : Nat → List α → Int → Int → Option Int) (p : Nat → List α → Int → Option Bool)
    (hL : ∀ k xs n i, L (k + 1) xs n i = if i < n then (if 0 ≤ i then (if i < (xs.length : Int) then ((p k xs i).bind fun t => if t = true then some i else L k xs n (wrap64 (i + 1))) else none) else none) else some (-1))
    (xs : List α) (hx : xs.length < 4611686018427387904) (P : Nat → Bool) (he : ∀ i : Nat, i < xs.length → Ev (fun k => p k xs (i : Int)) (P i)) (b : Bool) (hb : b = true ↔ ∃ i, i < xs.length ∧ P i = true) :
    Ev (fun k => (L k xs (xs.length : Int) 0).bind fun t => some (decide (t ≥ 0))) b := by
  obtain ⟨r, hr, h⟩ := ev_index L p hL xs hx P he
  refine Ev.bind hr (ev_some ?_)
  rw [Bool.eq_iff_iff, decide_eq_true_eq, hb]
  rcases h with ⟨rfl, h⟩ | ⟨i, hi, rfl, hP, _⟩
  · constructor
    · intro h'; omega
    · rintro ⟨i, hi, hP⟩; rw [h i hi] at hP; cases hP
  · exact ⟨fun _ => ⟨i, hi, hP⟩, fun _ => by omega⟩
theorem exev_bind {α β : Type} {g : Nat → Option α} {f : Nat → α → Option β} {a : α} {Q : β → Prop} (h : Ev g a) (k : ∃ r, Ev (fun n => f n a) r ∧ Q r) : ∃ r, Ev (fun n => (g n).bind (f n)) r ∧ Q r := by
  obtain ⟨r, hr, hq⟩ := k
  exact ⟨r, Ev.bind h hr, hq⟩
theorem exev_pos {α : Type} {c : Prop} [Decidable c] {f g : Nat → Option α} {Q : α → Prop} (h : c) (k : ∃ r, Ev f r ∧ Q r) : ∃ r, Ev (fun n => if c then f n else g n) r ∧ Q r := by
  obtain ⟨r, hr, hq⟩ := k
  exact ⟨r, ev_pos h hr, hq⟩
theorem exev_neg {α : Type} {c : Prop} [Decidable c] {f g : Nat → Option α} {Q : α → Prop} (h : ¬ c) (k : ∃ r, Ev g r ∧ Q r) : ∃ r, Ev (fun n => if c then f n else g n) r ∧ Q r := by
  obtain ⟨r, hr, hq⟩ := k
  exact ⟨r, ev_neg h hr, hq⟩
theorem exev_ite {α : Type} {c : Prop} [Decidable c] {f g : Nat → Option α} {Q : α → Prop} (h : c → ∃ r, Ev f r ∧ Q r) (k : ¬ c → ∃ r, Ev g r ∧ Q r) : ∃ r, Ev (fun n => if c then f n else g n) r ∧ Q r := by
  by_cases hc : c
  · exact exev_pos hc (h hc)
  · exact exev_neg hc (k hc)
theorem exev_some {α : Type} {x : α} {Q : α → Prop} (h : Q x) : ∃ r, Ev (fun _ => some x) r ∧ Q r := ⟨x, ev_some rfl, h⟩
theorem ev_copy2 {α β τ : Type} (L : Nat → List α → List β → Int → Option (List β)) (e : Nat → List α → Int → Option τ) (mk : τ → β) (g : α → β)
    (hL : ∀ k xs ys i, L (k + 1) xs ys i = if i < (xs.length : Int) then (if 0 ≤ i then ((e k xs i).bind fun v => if i < (ys.length : Int) then L k xs (ys.set (i : Int).toNat (mk v)) (wrap64 (i + 1)) else none) else none) else some ys)
    (xs : List α) (hx : xs.length < 4611686018427387904) (he : ∀ i : Nat, ∀ h : i < xs.length, ∃ t, Ev (fun k => e k xs (i : Int)) t ∧ mk t = g xs[i]) (ys : List β) (hy : ys.length = xs.length) :
    Ev (fun k => L k xs ys 0) (xs.map g) := by
  refine ev_for1 xs.length (fun k i ys => L k xs ys (i : Int)) (fun i ys => ys.length = xs.length ∧ ∀ j, j < i → ys[j]? = (xs.map g)[j]?) (xs.map g) ?_ ?_ 0 ys (Nat.zero_le _) ⟨hy, fun j hj => by omega⟩
  · intro ys ⟨hl, h⟩
    refine Ev.step (fun k => hL k xs ys _) (ev_neg (by omega) (ev_some ?_))
    apply List.ext_getElem?
    intro j
    rcases Nat.lt_or_ge j xs.length with hj | hj
    · exact h j hj
    · rw [List.getElem?_eq_none (by omega), List.getElem?_eq_none (by simpa using hj)]
  · intro i ys hi ⟨hl, h⟩
    obtain ⟨t, ht, hmk⟩ := he i hi
    refine .inr ⟨ys.set i (g xs[i]), ⟨by simpa using hl, fun j hj => ?_⟩, fun r hr => ?_⟩
    · rcases Nat.lt_or_ge j i with hji | hji
      · rw [List.getElem?_set_ne (by omega)]
        exact h j hji
      · obtain rfl : j = i := by omega
        rw [List.getElem?_set_self (by omega), List.getElem?_map, List.getElem?_eq_getElem hi]
        rfl
    · refine Ev.step (fun k => hL k xs ys _) (ev_pos (by omega) (ev_pos (by omega) (Ev.bind ht (ev_pos (by omega) ?_))))
      rw [w64s i (by omega), hmk]
      exact hr
end Go.Proofs.YthgfobcckoedaaaO
namespace Go.Proofs.Ythgfobcckoedaaa.Pure
open Go.RowKit Go.Proofs.Ythgfobcckoedaaa.PFnExactStepCloud Go.Proofs.Ythgfobcckoedaaa.OFnExactStepCloud Go.Proofs.YthgfobcckoedaaaW.PrintWords Go.Proofs.YthgfobcckoedaaaW.PrintLast Go.Proofs.YthgfobcckoedaaaW.PrintMore Go.Proofs.YthgfobcckoedaaaO
set_option linter.unusedVariables false
set_option linter.unusedSimpArgs false
theorem st_spec_GoodCloud_j0 {r : (Bool)} {x20 : Bool} {x117000 : Int} {x117001 : Int} {x117002 : List (S48)} (h : Ev (fun k => if x20 = true then (some false) else (spec_GoodCloud.l0 k x117002 (x117002.length : Int) 0)) r) : Ev (fun k => spec_GoodCloud.j0 k x20 x117000 x117001 x117002) r := Ev.step (fun k => by rw [spec_GoodCloud.j0]) h
theorem st_spec_GoodCloud_l0 {r : (Bool)} {x22 : List (S48)} {x23 : Int} {x24 : Int} (h : Ev (fun k => if x24 < x23 then (if 0 ≤ x24 then (if x24 < (x22.length : Int) then ((spec_GoodFixed.f ((rd_T48 x22 x24).f0)).bind fun t121 => (if t121 = true then ((spec_GoodFixed.f ((rd_T48 x22 x24).f1)).bind fun t122 => (if t122 = true then ((spec_GoodFixed.f ((rd_T48 x22 x24).f2)).bind fun t123 => (if t123 = true then ((spec_GoodFixed.f ((rd_T48 x22 x24).f3)).bind fun t124 => (if t124 = true then ((spec_l1In.f ((rd_T48 x22 x24).f4) 1 200).bind fun t125 => (if t125 = true then (spec_GoodCloud.l0 k x22 x23 (wrap64 (x24 + 1))) else (some false))) else (some false))) else (some false))) else (some false))) else (some false))) else (none)) else (none)) else (some true)) r) : Ev (fun k => spec_GoodCloud.l0 k x22 x23 x24) r := Ev.step (fun k => by rw [spec_GoodCloud.l0]) h
theorem st_laws_FnExactStepCloud_j0 {r : (Bool)} {x7 : Bool} {x10 : Bool} {x46 : Bool} {x331000 : Int} {x331001 : Int} {x331002 : Int} {x331003 : Int} {x331004 : Int} {x331005 : Int} {x331006 : Int} {x332000 : Int} {x332001 : Int} {x332002 : List (S68)} {x352000 : Int} {x352001 : Int} {x352002 : List (S48)} {x358000 : Int} {x358001 : Int} {x358002 : List (S48)} {x372000 : Int} {x372001 : Int} {x372002 : List (S48)} (h : Ev (fun k => if x46 = true then (some false) else ((laws_toCloud.f k x332000 x332001 x332002).bind fun bt373 => ((laws_eqCloud.f k x358000 x358001 x358002 bt373.1 bt373.2.1 bt373.2.2).bind fun t378 => (if t378 = true then ((laws_markCloud.f k x358000 x358001 x358002 1).bind fun bt379 => (if bt379.1 < 0 then (laws_FnExactStepCloud.j1 k x7 true x331000 x331001 x331002 x331003 x331004 x331005 x331006 x332000 x332001 x332002 x352000 x352001 x352002 x372000 x372001 x372002) else ((laws_eqCloud.f k x372000 x372001 x372002 x352000 x352001 x352002).bind fun t381 => (if t381 = true then (laws_FnExactStepCloud.j1 k x7 (x10 != x7) x331000 x331001 x331002 x331003 x331004 x331005 x331006 x332000 x332001 x332002 x352000 x352001 x352002 x372000 x372001 x372002) else (laws_FnExactStepCloud.j1 k x7 true x331000 x331001 x331002 x331003 x331004 x331005 x331006 x332000 x332001 x332002 x352000 x352001 x352002 x372000 x372001 x372002))))) else (some false))))) r) : Ev (fun k => laws_FnExactStepCloud.j0 k x7 x10 x46 x331000 x331001 x331002 x331003 x331004 x331005 x331006 x332000 x332001 x332002 x352000 x352001 x352002 x358000 x358001 x358002 x372000 x372001 x372002) r := Ev.step (fun k => by rw [laws_FnExactStepCloud.j0]) h
theorem st_laws_FnExactStepCloud_j1 {r : (Bool)} {x7 : Bool} {x67 : Bool} {x331000 : Int} {x331001 : Int} {x331002 : Int} {x331003 : Int} {x331004 : Int} {x331005 : Int} {x331006 : Int} {x332000 : Int} {x332001 : Int} {x332002 : List (S68)} {x352000 : Int} {x352001 : Int} {x352002 : List (S48)} {x372000 : Int} {x372001 : Int} {x372002 : List (S48)} (h : Ev (fun k => if x67 = true then (some false) else ((laws_markCloud.f k x372000 x372001 x372002 1).bind fun bt382 => ((laws_heldCloud.f k x372000 x372001 bt382.2 1).bind fun t384 => (if t384 < 0 then (some false) else (if t384 = bt382.1 then ((laws_toEmitter.f x331000 x331001 x331002 x331003 x331004 x331005 x331006).bind fun bt385 => ((laws_toCloud.f k x332000 x332001 x332002).bind fun bt392 => ((impl_StepCloud.f k bt385.1 bt385.2.1 bt385.2.2.1 bt385.2.2.2.1 bt385.2.2.2.2.1 bt385.2.2.2.2.2.1 bt385.2.2.2.2.2.2 bt392.1 bt392.2.1 bt392.2.2).bind fun bt397 => ((laws_eqCloud.f k bt397.1 bt397.2.1 bt397.2.2.1 x352000 x352001 x352002).bind fun t404 => (if t404 = true then (laws_FnExactStepCloud.j2 k bt382.1 (bt397.2.2.2 != x7) x372000 x372001 bt382.2) else (laws_FnExactStepCloud.j2 k bt382.1 true x372000 x372001 bt382.2)))))) else (some false)))))) r) : Ev (fun k => laws_FnExactStepCloud.j1 k x7 x67 x331000 x331001 x331002 x331003 x331004 x331005 x331006 x332000 x332001 x332002 x352000 x352001 x352002 x372000 x372001 x372002) r := Ev.step (fun k => by rw [laws_FnExactStepCloud.j1]) h
theorem st_laws_FnExactStepCloud_j2 {r : (Bool)} {x12 : Int} {x95 : Bool} {x372000 : Int} {x372001 : Int} {x372002 : List (S48)} (h : Ev (fun k => if x95 = true then (some false) else ((laws_heldCloud.f k x372000 x372001 x372002 1).bind fun t405 => (if t405 < 0 then (some false) else (if t405 = x12 then (some true) else (some false))))) r) : Ev (fun k => laws_FnExactStepCloud.j2 k x12 x95 x372000 x372001 x372002) r := Ev.step (fun k => by rw [laws_FnExactStepCloud.j2]) h
theorem st_spec_l1Near_j0 {r : (Int)} {x0 : Bool} {x2 : Int} {x144000 : Int} {x144001 : Int} (h : Ev (fun k => (spec_l1Over.f k x144000 x144001 (IntKind.u64.wrap (2 * x2)) 4398046511104).bind fun t146 => (if x0 = true then ((spec_l1Cut.f (wrap64 (-(wrap64 (t146))))).bind fun t147 => (some t147)) else ((spec_l1Cut.f (wrap64 (t146))).bind fun t148 => (some t148)))) r) : Ev (fun k => spec_l1Near.j0 k x0 x2 x144000 x144001) r := Ev.step (fun k => by rw [spec_l1Near.j0]) h
theorem st_spec_FixMul_j0 {r : (Int)} {x0 : Int} {x1 : Int} {x12 : Bool} (h : Ev (fun k => if x12 = true then (some 0) else ((spec_l1Abs.f x0).bind fun t151 => ((spec_l1Abs.f x1).bind fun t152 => ((spec_l1Times.f (IntKind.u64.wrap (t151)) (IntKind.u64.wrap (t152))).bind fun bt153 => ((spec_l1Near.f k ((decide (x0 < 0)) != (decide (x1 < 0))) bt153.1 bt153.2 65536).bind fun t155 => (some t155)))))) r) : Ev (fun k => spec_FixMul.j0 k x0 x1 x12) r := Ev.step (fun k => by rw [spec_FixMul.j0]) h
theorem st_spec_StepCloud_j0 {r : (Int × Int × (List (S48)) × Bool)} {x27 : Bool} {x171000 : Int} {x171001 : Int} {x171002 : Int} {x171003 : Int} {x171004 : Int} {x171005 : Int} {x171006 : Int} {x172000 : Int} {x172001 : Int} {x172002 : List (S48)} (h : Ev (fun k => if x27 = true then (some (0, 0, ([] : List (S48)), false)) else (spec_StepCloud.l0 k x172002 (x172002.length : Int) 0 x171000 x171001 x171002 x171003 x171004 x171005 x171006 x172000 x172001 x172002 x172000 (wrap64 (x172001 + 1)) ([] : List (S48)))) r) : Ev (fun k => spec_StepCloud.j0 k x27 x171000 x171001 x171002 x171003 x171004 x171005 x171006 x172000 x172001 x172002) r := Ev.step (fun k => by rw [spec_StepCloud.j0]) h
theorem st_spec_StepCloud_l0 {r : (Int × Int × (List (S48)) × Bool)} {x36 : List (S48)} {x37 : Int} {x38 : Int} {x171000 : Int} {x171001 : Int} {x171002 : Int} {x171003 : Int} {x171004 : Int} {x171005 : Int} {x171006 : Int} {x172000 : Int} {x172001 : Int} {x172002 : List (S48)} {x176000 : Int} {x176001 : Int} {x176002 : List (S48)} (h : Ev (fun k => if x38 < x37 then (if 0 ≤ x38 then (if x38 < (x36.length : Int) then (if (wrap64 (((rd_T48 x36 x38).f4) - 1)) = 0 then (spec_StepCloud.l0 k x36 x37 (wrap64 (x38 + 1)) x171000 x171001 x171002 x171003 x171004 x171005 x171006 x172000 x172001 x172002 x176000 x176001 x176002) else (if x176002.length < 3518437208883 then (spec_StepCloud.l0 k x36 x37 (wrap64 (x38 + 1)) x171000 x171001 x171002 x171003 x171004 x171005 x171006 x172000 x172001 x172002 x176000 x176001 (x176002 ++ [(⟨wrap64 (((rd_T48 x36 x38).f0) + ((rd_T48 x36 x38).f2)), wrap64 (((rd_T48 x36 x38).f1) + ((rd_T48 x36 x38).f3)), (rd_T48 x36 x38).f2, wrap64 (((rd_T48 x36 x38).f3) - x171006), wrap64 (((rd_T48 x36 x38).f4) - 1)⟩ : S48)])) else (none))) else (none)) else (none)) else (if x171002 = 0 then (none) else (if (Int.tmod x172001 x171002) = 0 then (spec_StepCloud.l1 k 0 x171000 x171001 x171002 x171003 x171004 x171005 x171006 x176000 x176001 x176002) else ((spec_GoodCloud.f k x176000 x176001 x176002).bind fun t193 => (if t193 = true then (some (x176000, x176001, x176002, true)) else (some (0, 0, ([] : List (S48)), false))))))) r) : Ev (fun k => spec_StepCloud.l0 k x36 x37 x38 x171000 x171001 x171002 x171003 x171004 x171005 x171006 x172000 x172001 x172002 x176000 x176001 x176002) r := Ev.step (fun k => by rw [spec_StepCloud.l0]) h
theorem st_spec_StepCloud_l1 {r : (Int × Int × (List (S48)) × Bool)} {x9 : Int} {x171000 : Int} {x171001 : Int} {x171002 : Int} {x171003 : Int} {x171004 : Int} {x171005 : Int} {x171006 : Int} {x176000 : Int} {x176001 : Int} {x176002 : List (S48)} (h : Ev (fun k => if x9 < x171003 then (spec_StepCloud.j3 k x9 (decide ((x176002.length : Int) < 60)) x171000 x171001 x171002 x171003 x171004 x171005 x171006 x176000 x176001 x176002) else (spec_StepCloud.j3 k x9 false x171000 x171001 x171002 x171003 x171004 x171005 x171006 x176000 x176001 x176002)) r) : Ev (fun k => spec_StepCloud.l1 k x9 x171000 x171001 x171002 x171003 x171004 x171005 x171006 x176000 x176001 x176002) r := Ev.step (fun k => by rw [spec_StepCloud.l1]) h
theorem st_spec_StepCloud_j3 {r : (Int × Int × (List (S48)) × Bool)} {x9 : Int} {x89 : Bool} {x171000 : Int} {x171001 : Int} {x171002 : Int} {x171003 : Int} {x171004 : Int} {x171005 : Int} {x171006 : Int} {x176000 : Int} {x176001 : Int} {x176002 : List (S48)} (h : Ev (fun k => if x89 = true then ((spec_l1Coin.f x176000).bind fun bt182 => ((spec_l1Coin.f bt182.1).bind fun bt184 => ((spec_CosOf.f k (Int.tmod bt182.2 4096)).bind fun t186 => ((spec_FixMul.f k (wrap64 (Int.tdiv (wrap64 (x171005 * bt184.2)) 32768)) t186).bind fun t187 => ((spec_SinOf.f k (Int.tmod bt182.2 4096)).bind fun t188 => ((spec_FixMul.f k (wrap64 (Int.tdiv (wrap64 (x171005 * bt184.2)) 32768)) t188).bind fun t189 => (if x176002.length < 3518437208883 then (spec_StepCloud.l1 k (wrap64 (x9 + 1)) x171000 x171001 x171002 x171003 x171004 x171005 x171006 bt184.1 x176001 (x176002 ++ [(⟨x171000, x171001, t187, t189, x171004⟩ : S48)])) else (none)))))))) else ((spec_GoodCloud.f k x176000 x176001 x176002).bind fun t181 => (if t181 = true then (some (x176000, x176001, x176002, true)) else (some (0, 0, ([] : List (S48)), false))))) r) : Ev (fun k => spec_StepCloud.j3 k x9 x89 x171000 x171001 x171002 x171003 x171004 x171005 x171006 x176000 x176001 x176002) r := Ev.step (fun k => by rw [spec_StepCloud.j3]) h
theorem st_impl_areFixed_l0 {r : (Bool)} {x5 : List Int} {x6 : Int} {x7 : Int} (h : Ev (fun k => if x7 < x6 then (if 0 ≤ x7 then (if x7 < (x5.length : Int) then ((impl_GoodFixed.f (rd x5 x7)).bind fun t225 => (if t225 = true then (impl_areFixed.l0 k x5 x6 (wrap64 (x7 + 1))) else (some false))) else (none)) else (none)) else (some true)) r) : Ev (fun k => impl_areFixed.l0 k x5 x6 x7) r := Ev.step (fun k => by rw [impl_areFixed.l0]) h
theorem st_impl_FixMul_j0 {r : (Int)} {x0 : Int} {x1 : Int} {x5 : Int} {x6 : Int} {x7 : Int} (h : Ev (fun _ => if ((IntKind.u64.wrap (x5 + (add64c x6 x7))) / 65536) = 0 then (if ((decide (x0 < 0)) != (decide (x1 < 0))) = true then (some (wrap64 (-(wrap64 (mn (Go.bits .or .u64 (IntKind.u64.wrap ((IntKind.u64.wrap (x5 + (add64c x6 x7))) * 281474976710656)) ((add64 x6 x7) / 65536)) 1099511627776))))) else (some (wrap64 (mn (Go.bits .or .u64 (IntKind.u64.wrap ((IntKind.u64.wrap (x5 + (add64c x6 x7))) * 281474976710656)) ((add64 x6 x7) / 65536)) 1099511627776)))) else (if ((decide (x0 < 0)) != (decide (x1 < 0))) = true then (some (-1099511627776)) else (some 1099511627776))) r) : Ev (fun k => impl_FixMul.j0 k x0 x1 x5 x6 x7) r := Ev.step (fun k => by rw [impl_FixMul.j0]) h
theorem st_impl_Emitter_step_l0 {r : (Int × Int × (List (S48)) × Bool)} {x19 : List (S48)} {x20 : Int} {x21 : Int} {x261000 : Int} {x261001 : Int} {x261002 : Int} {x261003 : Int} {x261004 : Int} {x261005 : Int} {x261006 : Int} {x262000 : Int} {x262001 : Int} {x262002 : List (S48)} {x264000 : Int} {x264001 : Int} {x264002 : List (S48)} (h : Ev (fun k => if x21 < x20 then (if 0 ≤ x21 then (if x21 < (x19.length : Int) then (if (wrap64 (((rd_T48 x19 x21).f4) - 1)) > 0 then (if x264002.length < 3518437208883 then (impl_Emitter_step.l0 k x19 x20 (wrap64 (x21 + 1)) x261000 x261001 x261002 x261003 x261004 x261005 x261006 x262000 x262001 x262002 x264000 x264001 (x264002 ++ [(⟨wrap64 (((rd_T48 x19 x21).f0) + ((rd_T48 x19 x21).f2)), wrap64 (((rd_T48 x19 x21).f1) + ((rd_T48 x19 x21).f3)), (rd_T48 x19 x21).f2, wrap64 (((rd_T48 x19 x21).f3) - x261006), wrap64 (((rd_T48 x19 x21).f4) - 1)⟩ : S48)])) else (none)) else (impl_Emitter_step.l0 k x19 x20 (wrap64 (x21 + 1)) x261000 x261001 x261002 x261003 x261004 x261005 x261006 x262000 x262001 x262002 x264000 x264001 x264002)) else (none)) else (none)) else (if x261002 = 0 then (none) else (if (Int.tmod x262001 x261002) = 0 then (impl_Emitter_step.l1 k 0 x261000 x261001 x261002 x261003 x261004 x261005 x261006 x264000 x264001 x264002) else ((impl_GoodCloud.f k x264000 x264001 x264002).bind fun t281 => (some (x264000, x264001, x264002, t281)))))) r) : Ev (fun k => impl_Emitter_step.l0 k x19 x20 x21 x261000 x261001 x261002 x261003 x261004 x261005 x261006 x262000 x262001 x262002 x264000 x264001 x264002) r := Ev.step (fun k => by rw [impl_Emitter_step.l0]) h
theorem st_impl_Emitter_step_l1 {r : (Int × Int × (List (S48)) × Bool)} {x9 : Int} {x261000 : Int} {x261001 : Int} {x261002 : Int} {x261003 : Int} {x261004 : Int} {x261005 : Int} {x261006 : Int} {x264000 : Int} {x264001 : Int} {x264002 : List (S48)} (h : Ev (fun k => if x9 < x261003 then (if (x264002.length : Int) < 60 then ((impl_Emitter_born.f k x261000 x261001 x261002 x261003 x261004 x261005 x261006 x264000).bind fun bt269 => (if x264002.length < 3518437208883 then (impl_Emitter_step.l1 k (wrap64 (x9 + 1)) x261000 x261001 x261002 x261003 x261004 x261005 x261006 bt269.2.2.2.2.2 x264001 (x264002 ++ [(⟨bt269.1, bt269.2.1, bt269.2.2.1, bt269.2.2.2.1, bt269.2.2.2.2.1⟩ : S48)])) else (none))) else ((impl_GoodCloud.f k x264000 x264001 x264002).bind fun t279 => (some (x264000, x264001, x264002, t279)))) else ((impl_GoodCloud.f k x264000 x264001 x264002).bind fun t280 => (some (x264000, x264001, x264002, t280)))) r) : Ev (fun k => impl_Emitter_step.l1 k x9 x261000 x261001 x261002 x261003 x261004 x261005 x261006 x264000 x264001 x264002) r := Ev.step (fun k => by rw [impl_Emitter_step.l1]) h
theorem st_impl_RunCloud_j0 {r : (Int × Int × (List (S48)) × Bool)} {x2 : Int} {x25 : Bool} {x283000 : Int} {x283001 : Int} {x283002 : Int} {x283003 : Int} {x283004 : Int} {x283005 : Int} {x283006 : Int} {x284000 : Int} {x284001 : Int} {x284002 : List (S48)} (h : Ev (fun k => if x25 = true then (some (0, 0, ([] : List (S48)), false)) else ((impl_Spark_33.f x284002).bind fun t288 => (impl_RunCloud.l0 k x2 0 x283000 x283001 x283002 x283003 x283004 x283005 x283006 x284000 x284001 t288))) r) : Ev (fun k => impl_RunCloud.j0 k x2 x25 x283000 x283001 x283002 x283003 x283004 x283005 x283006 x284000 x284001 x284002) r := Ev.step (fun k => by rw [impl_RunCloud.j0]) h
theorem st_impl_RunCloud_l0 {r : (Int × Int × (List (S48)) × Bool)} {x35 : Int} {x36 : Int} {x283000 : Int} {x283001 : Int} {x283002 : Int} {x283003 : Int} {x283004 : Int} {x283005 : Int} {x283006 : Int} {x292000 : Int} {x292001 : Int} {x292002 : List (S48)} (h : Ev (fun k => if x36 < x35 then ((impl_Emitter_step.f k x283000 x283001 x283002 x283003 x283004 x283005 x283006 x292000 x292001 x292002).bind fun bt292 => (if bt292.2.2.2 = true then (impl_RunCloud.l0 k x35 (wrap64 (x36 + 1)) x283000 x283001 x283002 x283003 x283004 x283005 x283006 bt292.1 bt292.2.1 bt292.2.2.1) else (some (0, 0, ([] : List (S48)), false)))) else (some (x292000, x292001, x292002, true))) r) : Ev (fun k => impl_RunCloud.l0 k x35 x36 x283000 x283001 x283002 x283003 x283004 x283005 x283006 x292000 x292001 x292002) r := Ev.step (fun k => by rw [impl_RunCloud.l0]) h
theorem in_some (a b c : Int) : spec_l1In.f a b c = some (decide (b ≤ a ∧ a ≤ c)) := by
  unfold spec_l1In.f
  split <;> simp_all <;> omega
theorem in_same (a b c : Int) : impl_inRange.f a b c = spec_l1In.f a b c := rfl
theorem szSparkS_some (xs : List S68) (g : xs.length * 40 ≤ 140737488351232 ∧ ∀ y ∈ xs, Ok68 y) (left : Int) (h0 : 0 ≤ left) (h1 : left ≤ 1048576) : ∃ r, Ev (fun _ => laws_szSparkS.f xs left) r ∧ (r < 0 ∨ 0 ≤ r ∧ r ≤ left ∧ xs.length ≤ 1048576) := by
  have g1 := g.1
  unfold laws_szSparkS.f
  rw [w64 (n := left - (xs.length : Int)) (by omega) (by omega)]
  refine exev_ite (fun _ => exev_some (.inl (by omega))) fun hc => ?_
  exact exev_some (.inr ⟨by omega, by omega, by omega⟩)
theorem szCloud_some (a0 : Int) (a1 : Int) (l2 : List S68) (ga0 : In64 a0) (ga1 : In64 a1) (gl2 : l2.length * 40 ≤ 140737488351232 ∧ ∀ y ∈ l2, Ok68 y) (left : Int) (h0 : 0 ≤ left) (h1 : left ≤ 1048576) : ∃ r, Ev (fun _ => laws_szCloud.f a0 a1 l2 left) r ∧ (r < 0 ∨ 0 ≤ r ∧ r ≤ left ∧ (l2.length ≤ 1048576)) := by
  unfold laws_szCloud.f
  obtain ⟨r0, hr0, hq0⟩ := szSparkS_some l2 gl2 (left) (by omega) (by omega)
  refine exev_bind hr0 (exev_ite (fun _ => exev_some (.inl (by omega))) fun c0 => ?_)
  rcases hq0 with hq0 | ⟨u0, v0, w0⟩
  · omega
  exact exev_some (.inr ⟨by omega, by omega, w0⟩)
def cv68 (x : S68) : S48 := ⟨x.f0, x.f1, x.f2, x.f3, x.f4⟩
theorem toSparkS_ev (xs : List S68) (h : xs.length ≤ 1048576) : Ev (fun k => laws_toSparkS.f k xs) (xs.map cv68) := by
  refine ev_pos (by omega) (ev_pos (by have := h; omega) ?_)
  refine ev_copy2 laws_toSparkS.l0 (fun k xs i => laws_toSpark.f ((rd_T68 xs i).f0) ((rd_T68 xs i).f1) ((rd_T68 xs i).f2) ((rd_T68 xs i).f3) ((rd_T68 xs i).f4)) (fun t => (⟨t.1, t.2.1, t.2.2.1, t.2.2.2.1, t.2.2.2.2⟩ : S48)) cv68 (fun _ _ _ _ => rfl) xs (by have := h; omega) (fun i hi => ?_) _ (by simp)
  · have e : rd_T68 xs (i : Int) = xs[i] := getD_get hi
    rw [e]
    exact ⟨_, ev_eq rfl, rfl⟩
theorem toCloud_ev (a0 : Int) (a1 : Int) (l2 : List S68) (hl2 : l2.length ≤ 1048576) : Ev (fun k => laws_toCloud.f k a0 a1 l2) (a0, a1, (l2.map cv68)) := by
  unfold laws_toCloud.f
  repeat (first | exact ev_some rfl | refine Ev.bind (toSparkS_ev _ hl2) ?_ | refine ev_bindc rfl ?_)
theorem eqSpark_self (a0 : Int) (a1 : Int) (a2 : Int) (a3 : Int) (a4 : Int) : laws_eqSpark.f a0 a1 a2 a3 a4 a0 a1 a2 a3 a4 = some true := by
  simp [laws_eqSpark.f]
theorem eqSparkS_ev (xs : List S48) (h : xs.length ≤ 1048576) : Ev (fun k => laws_eqSparkS.f k xs xs) true := by
  refine ev_pos rfl (ev_alike_self laws_eqSparkS.l0 (fun k xs ys i => laws_eqSpark.f ((rd_T48 xs i).f0) ((rd_T48 xs i).f1) ((rd_T48 xs i).f2) ((rd_T48 xs i).f3) ((rd_T48 xs i).f4) ((rd_T48 ys i).f0) ((rd_T48 ys i).f1) ((rd_T48 ys i).f2) ((rd_T48 ys i).f3) ((rd_T48 ys i).f4)) (fun _ _ _ _ => rfl) xs (by have := h; omega) (fun i hi => ?_))
  · exact ev_eq (eqSpark_self _ _ _ _ _)
theorem eqCloud_ev (a0 : Int) (a1 : Int) (l2 : List S48) (hl2 : l2.length ≤ 1048576) : Ev (fun k => laws_eqCloud.f k a0 a1 l2 a0 a1 l2) true := by
  unfold laws_eqCloud.f
  repeat (first | exact ev_some rfl | refine Ev.bind (eqSparkS_ev l2 hl2) ?_ | refine ev_pos rfl ?_ | refine ev_neg (by simp) ?_)
def MarkSparkS (x : S48) (c d : Int) : Prop := x = (⟨c, c + 1, c + 1 + 1, c + 1 + 1 + 1, c + 1 + 1 + 1 + 1⟩ : S48) ∧ d = c + 1 + 1 + 1 + 1 + 1
theorem rd_set48 {xs : List S48} {i : Nat} (h : i < xs.length) (v : S48) : rd_T48 (xs.set i v) (i : Int) = v := by
  unfold rd_T48
  rw [getD_get (by simpa using h), List.getElem_set_self]
theorem markSparkS_ev (xs : List S48) (hl : xs.length ≤ 1048576) (c : Int) (hc0 : 0 ≤ c) (hc1 : c ≤ 1152921504606846976) :
    ∃ ys d, Chain MarkSparkS ys c d ∧ c ≤ d ∧ d ≤ c + 5 * xs.length ∧ ys.length = xs.length ∧ Ev (fun k => laws_markSparkS.f k xs c) (d, ys) := by
  refine ev_mark (fun k zs c i => laws_markSparkS.l0 k zs c (i : Int)) MarkSparkS (fun _ => True) 5 (by omega) (by omega) ?_ ?_ xs (fun _ _ => trivial) hl c hc0 hc1
  · intro zs c
    exact Ev.step (fun _ => rfl) (ev_neg (by omega) (ev_some rfl))
  · intro zs c i hi h20 _ h0 h1
    refine ⟨_, _, ⟨rfl, rfl⟩, by omega, by omega, fun r hr => Ev.step (fun _ => rfl) (ev_pos (by omega) (ev_pos (by omega) ?_))⟩
    simp only [Option.bind_some, Int.toNat_natCast, rd_set48 hi, List.set_set, w64s i (by omega), w64 (n := c + 1) (by omega) (by omega), w64 (n := c + 1 + 1) (by omega) (by omega), w64 (n := c + 1 + 1 + 1) (by omega) (by omega), w64 (n := c + 1 + 1 + 1 + 1) (by omega) (by omega), w64 (n := c + 1 + 1 + 1 + 1 + 1) (by omega) (by omega)]
    exact hr
theorem heldSparkS_ev (ys : List S48) (hl : ys.length ≤ 1048576) (c d : Int) (hc : 0 ≤ c) (hd : d ≤ 2305843009213693952) (h : Chain MarkSparkS ys c d) : Ev (fun k => laws_heldSparkS.f k ys c) d := by
  refine ev_held (fun k zs c i => laws_heldSparkS.l0 k zs c (i : Int)) MarkSparkS (fun x c d h => by have := h.2; omega) ?_ ?_ ys hl c d hc hd h
  · intro zs c
    exact Ev.step (fun _ => rfl) (ev_neg (by omega) (ev_some rfl))
  · intro zs c c' i hi h20 hE h0 h1 r hr
    obtain ⟨hx, rfl⟩ := hE
    have hg : rd_T48 zs (i : Int) = (⟨c, c + 1, c + 1 + 1, c + 1 + 1 + 1, c + 1 + 1 + 1 + 1⟩ : S48) := (getD_get hi).trans hx
    refine Ev.step (fun _ => rfl) (ev_pos (by omega) (ev_pos (by omega) ?_))
    rw [hg]
    simp only [w64s i (by omega), w64 (n := c + 1) (by omega) (by omega), w64 (n := c + 1 + 1) (by omega) (by omega), w64 (n := c + 1 + 1 + 1) (by omega) (by omega), w64 (n := c + 1 + 1 + 1 + 1) (by omega) (by omega), w64 (n := c + 1 + 1 + 1 + 1 + 1) (by omega) (by omega)]
    exact ev_pos (by trivial) (ev_pos (by trivial) (ev_pos (by trivial) (ev_pos (by trivial) (ev_pos (by trivial) (hr)))))
theorem uw (n : Nat) (h : n < 18446744073709551616) : IntKind.u64.wrap (n : Int) = (n : Int) := wrap_u64 (by omega) (by omega)
theorem td32 (n : Nat) : Int.tdiv (n : Int) 4294967296 = ((n / 4294967296 : Nat) : Int) := by rw [Int.tdiv_eq_ediv_of_nonneg (by omega)]; omega
theorem tm32 (n : Nat) : Int.tmod (n : Int) 4294967296 = ((n % 4294967296 : Nat) : Int) := by rw [Int.tmod_eq_emod_of_nonneg (by omega)]; omega
theorem ed32 (n : Nat) : (n : Int) / 4294967296 = ((n / 4294967296 : Nat) : Int) := by omega
theorem b64 : (2 : Nat) ^ IntKind.u64.bits = 18446744073709551616 := by decide
theorem or_gen (X y : Nat) (e : X ||| y = X + y) (h : X + y < 18446744073709551616) : Go.bits .or .u64 (X : Int) (y : Int) = ((X + y : Nat) : Int) := by
  have hx' : X % 2 ^ IntKind.u64.bits = X := by rw [b64]; omega
  have hy' : y % 2 ^ IntKind.u64.bits = y := by rw [b64]; omega
  simp only [Go.bits, BitVec.ofInt_natCast, BitVec.toNat_or, BitVec.toNat_ofNat, hx', hy', e]
  exact uw _ h
theorem or_nat (x y k M : Nat) (hM : 2 ^ k = M) (hy : y < M) : x * M ||| y = x * M + y := by
  subst hM
  have h := Nat.shiftLeft_add_eq_or_of_lt hy x
  rw [Nat.shiftLeft_eq] at h
  exact h.symm
theorem or_split (x y : Nat) (hx : x < 4294967296) (hy : y < 4294967296) : Go.bits .or .u64 ((x * 4294967296 : Nat) : Int) (y : Int) = ((x * 4294967296 + y : Nat) : Int) :=
  or_gen _ y (or_nat x y 32 4294967296 (by decide) hy) (by omega)
theorem or_zero (y : Nat) (hy : y < 18446744073709551616) : Go.bits .or .u64 0 (y : Int) = (y : Int) := by
  have hy' : y % 2 ^ IntKind.u64.bits = y := by rw [b64]; omega
  have h0 : (0 : Int) = ((0 : Nat) : Int) := rfl
  rw [h0]
  simp only [Go.bits, BitVec.ofInt_natCast, BitVec.toNat_or, BitVec.toNat_ofNat, hy', Nat.zero_mod, Nat.zero_or]
  exact uw _ hy
theorem and_mask (x : Nat) (hx : x < 18446744073709551616) : Go.bits .and .u64 (x : Int) 4294967295 = ((x % 4294967296 : Nat) : Int) := by
  have e : x &&& 4294967295 = x % 4294967296 := Nat.and_two_pow_sub_one_eq_mod x 32
  have hx' : x % 2 ^ IntKind.u64.bits = x := by rw [b64]; omega
  have hm : 4294967295 % 2 ^ IntKind.u64.bits = 4294967295 := by rw [b64]
  have h0 : (4294967295 : Int) = ((4294967295 : Nat) : Int) := rfl
  rw [h0]
  simp only [Go.bits, BitVec.ofInt_natCast, BitVec.toNat_and, BitVec.toNat_ofNat, hx', hm, e]
  exact uw _ (by omega)
theorem times_small (a b : Nat) (ha : a ≤ 4398046511104) (hb : b ≤ 262144) : spec_l1Times.f (a : Int) (b : Int) = some (0, ((a * b : Nat) : Int)) := by
  have hA : a = a / 4294967296 * 4294967296 + a % 4294967296 := by omega
  generalize hah : a / 4294967296 = ah at hA
  generalize hal : a % 4294967296 = al at hA
  have h1 : ah ≤ 1024 := by omega
  have h2 : al < 4294967296 := by omega
  have p0 : al * b ≤ 4294967296 * 262144 := Nat.mul_le_mul (by omega) hb
  have p1 : ah * b ≤ 1024 * 262144 := Nat.mul_le_mul h1 hb
  have hb0 : b / 4294967296 = 0 := by omega
  have hb1 : b % 4294967296 = b := by omega
  have hab : a * b = ah * b * 4294967296 + al * b := by rw [hA, Nat.add_mul, Nat.mul_right_comm]
  have q0 : al * b / 4294967296 ≤ 262144 := by omega
  unfold spec_l1Times.f
  simp only [td32, tm32, hah, hal, hb0, hb1]
  generalize hm : al * b = m at *
  generalize hn : ah * b = n at *
  have c1 : (((al : Nat) : Int)) * ((b : Nat) : Int) = ((m : Nat) : Int) := by rw [← hm]; exact (Int.natCast_mul _ _).symm
  have c2 : (((ah : Nat) : Int)) * ((b : Nat) : Int) = ((n : Nat) : Int) := by rw [← hn]; exact (Int.natCast_mul _ _).symm
  have z : ((0 : Nat) : Int) = 0 := rfl
  have u0 : IntKind.u64.wrap 0 = 0 := wrap_u64 (by omega) (by omega)
  simp only [z, u0, Int.mul_zero, uw al (by omega), uw ah (by omega), uw b (by omega), c1, c2, uw m (by omega), uw n (by omega), td32, tm32, uw (m / 4294967296) (by omega), Int.zero_add, Int.add_zero]
  have c3 : ((n : Nat) : Int) + ((m / 4294967296 : Nat) : Int) = ((n + m / 4294967296 : Nat) : Int) := (Int.natCast_add _ _).symm
  simp only [c3, uw (n + m / 4294967296) (by omega), td32, tm32]
  have c4 : (n + m / 4294967296) / 4294967296 = 0 := by omega
  have c5 : (n + m / 4294967296) % 4294967296 = n + m / 4294967296 := by omega
  simp only [c4, c5, z, u0, uw (n + m / 4294967296) (by omega), td32, Int.add_zero]
  have c6 : (((n + m / 4294967296 : Nat) : Int)) * 4294967296 = (((n + m / 4294967296) * 4294967296 : Nat) : Int) := by omega
  rw [c6, uw _ (by omega), or_split _ _ (by omega) (by omega), hab]
  have c7 : (n + m / 4294967296) * 4294967296 + m % 4294967296 = n * 4294967296 + m := by omega
  rw [c7]
theorem mul64_small (a b : Nat) (ha : a ≤ 4294967295) (hb : b ≤ 262144) : bits_Mul64.f (a : Int) (b : Int) = some (0, ((a * b : Nat) : Int)) := by
  have p0 : a * b ≤ 4294967295 * 262144 := Nat.mul_le_mul ha hb
  have hb0 : b / 4294967296 = 0 := by omega
  have hb1 : b % 4294967296 = b := by omega
  have ha0 : a / 4294967296 = 0 := by omega
  have ha1 : a % 4294967296 = a := by omega
  have z : ((0 : Nat) : Int) = 0 := rfl
  have u0 : IntKind.u64.wrap 0 = 0 := wrap_u64 (by omega) (by omega)
  have c1 : ((a : Nat) : Int) * ((b : Nat) : Int) = ((a * b : Nat) : Int) := (Int.natCast_mul _ _).symm
  unfold bits_Mul64.f
  simp only [ed32, ha0, hb0, z, Int.mul_zero, Int.zero_mul, u0, and_mask a (by omega), and_mask b (by omega), ha1, hb1, c1, uw (a * b) (by omega), Int.zero_add]
  generalize a * b = m at *
  simp only [uw (m / 4294967296) (by omega), ed32, and_mask (m / 4294967296) (by omega)]
  have e1 : m / 4294967296 / 4294967296 = 0 := by omega
  have e2 : m / 4294967296 % 4294967296 = m / 4294967296 := by omega
  simp only [e1, e2, z, Int.add_zero, Int.zero_add, u0, uw (m / 4294967296) (by omega), ed32]
theorem over_l (N : Nat) (hN : N ≤ 576460752303423488) : ∀ (d lo hi : Nat), hi - lo ≤ d → lo ≤ N / 131072 → N / 131072 ≤ hi → hi ≤ 4398046511104 → Ev (fun k => spec_l1Over.l0 k 131072 (lo : Int) (hi : Int) 0 (N : Int)) ((N / 131072 : Nat) : Int)
  | d, lo, hi, hd, h1, h2, h3 => by
    by_cases h : lo < hi
    · obtain ⟨m, hm⟩ : ∃ m, m = lo + (hi - lo + 1) / 2 := ⟨_, rfl⟩
      have em : IntKind.u64.wrap ((lo : Int) + (IntKind.u64.wrap (Int.tdiv (IntKind.u64.wrap ((IntKind.u64.wrap ((hi : Int) - (lo : Int))) + 1)) 2))) = (m : Int) := by
        rw [wrap_u64 (n := (hi : Int) - (lo : Int)) (by omega) (by omega), wrap_u64 (n := (hi : Int) - (lo : Int) + 1) (by omega) (by omega), Int.tdiv_eq_ediv_of_nonneg (by omega), wrap_u64 (n := ((hi : Int) - (lo : Int) + 1) / 2) (by omega) (by omega), wrap_u64 (by omega) (by omega), hm]
        omega
      have e1 : IntKind.u64.wrap ((m : Int) - 1) = ((m - 1 : Nat) : Int) := by rw [wrap_u64 (by omega) (by omega)]; omega
      have ht := times_small m 131072 (by omega) (by omega)
      refine Ev.step (fun _ => rfl) (ev_pos (by omega) ?_)
      simp only [em, e1]
      refine ev_bindc ht ?_
      have hl : spec_l1Less.f 0 (N : Int) 0 ((m * 131072 : Nat) : Int) = some (decide ((N : Int) < ((m * 131072 : Nat) : Int))) := by
        unfold spec_l1Less.f
        rw [if_neg (by decide), if_pos rfl]
      refine ev_bindc hl ?_
      by_cases hc : N < m * 131072
      · exact ev_pos (decide_eq_true (by omega)) (over_l N hN (d - 1) lo (m - 1) (by omega) h1 (by omega) (by omega))
      · exact ev_neg (by rw [decide_eq_true_eq]; omega) (over_l N hN (d - 1) m hi (by omega) (by omega) h2 h3)
    · obtain rfl : lo = N / 131072 := by omega
      exact Ev.step (fun _ => rfl) (ev_neg (by omega) (ev_some rfl))
  termination_by d lo hi => hi - lo
def negOf (a b : Int) : Bool := (decide (a < 0)) != (decide (b < 0))
def quoOf (a b : Int) : Nat := (a.natAbs * b.natAbs + (if negOf a b = true then 32767 else 32768)) / 65536
def fixOf (a b : Int) : Int := if negOf a b = true then -((quoOf a b : Nat) : Int) else ((quoOf a b : Nat) : Int)
theorem fix_bound (a b : Int) (ha : a.natAbs ≤ 1000000) (hb : b.natAbs ≤ 131072) : a.natAbs * b.natAbs ≤ 131072000000 := Nat.mul_le_mul ha hb
theorem good_spec (a : Int) (h : a.natAbs ≤ 1000000) : spec_GoodFixed.f a = some true := by
  unfold spec_GoodFixed.f
  rw [in_some]
  exact congrArg some (decide_eq_true (by omega))
theorem abs_spec (a : Int) (h : a.natAbs ≤ 1000000) : spec_l1Abs.f a = some (a.natAbs : Int) := by
  unfold spec_l1Abs.f
  by_cases h0 : a < 0
  · rw [if_pos h0, w64 (by omega) (by omega)]; congr 1; omega
  · rw [if_neg h0]; congr 1; omega
theorem size_impl (a : Int) (h : a.natAbs ≤ 1000000) : impl_size.f a = some (a.natAbs : Int) := by
  unfold impl_size.f mx
  rw [w64 (by omega) (by omega)]
  congr 1
  split <;> omega
theorem fix_spec (a b : Int) (ha : a.natAbs ≤ 1000000) (hb : b.natAbs ≤ 131072) : Ev (fun k => spec_FixMul.f k a b) (fixOf a b) := by
  have hP := fix_bound a b ha hb
  refine ev_bindc (good_spec a ha) (ev_pos rfl (ev_bindc (good_spec b (by omega)) ?_))
  refine st_spec_FixMul_j0 (ev_neg (by decide) ?_)
  refine ev_bindc (abs_spec a ha) ?_
  refine ev_bindc (abs_spec b (by omega)) ?_
  rw [uw _ (by omega), uw _ (by omega)]
  refine ev_bindc (times_small _ _ (by omega) (by omega)) (Ev.bind (a := fixOf a b) ?_ (ev_some rfl))
  generalize hp : a.natAbs * b.natAbs = p at *
  have s1 : spec_l1Plus.f 0 (p : Int) (p : Int) = some (0, ((2 * p : Nat) : Int)) := by
    have e : (p : Int) + (p : Int) = ((2 * p : Nat) : Int) := by omega
    unfold spec_l1Plus.f
    rw [e, uw _ (by omega), if_neg (by omega)]
  have s2 : spec_l1Sum.f 0 (p : Int) 0 (p : Int) = some (0, ((2 * p : Nat) : Int)) := by
    have u0 : IntKind.u64.wrap (0 + 0) = 0 := wrap_u64 (by omega) (by omega)
    unfold spec_l1Sum.f
    rw [s1]
    show some (IntKind.u64.wrap (0 + 0), _) = _
    rw [u0]
  have s3 : spec_l1Plus.f 0 ((2 * p : Nat) : Int) 65536 = some (0, ((2 * p + 65536 : Nat) : Int)) := by
    have e : ((2 * p : Nat) : Int) + 65536 = ((2 * p + 65536 : Nat) : Int) := by omega
    unfold spec_l1Plus.f
    rw [e, uw _ (by omega), if_neg (by omega)]
  have u2 : IntKind.u64.wrap (2 * 65536) = 131072 := wrap_u64 (by omega) (by omega)
  refine ev_bindc s2 (ev_bindc s3 ?_)
  have hcut : ∀ z : Int, -1000000000 ≤ z → z ≤ 1000000000 → spec_l1Cut.f z = some z := fun z h0 h1 => by
    unfold spec_l1Cut.f
    rw [if_neg (by omega), if_neg (by omega)]
  unfold fixOf
  show Ev _ (if negOf a b = true then _ else _)
  by_cases hn : negOf a b = true
  · have hq : quoOf a b = (2 * p + 65535) / 131072 := by unfold quoOf; rw [if_pos hn, hp]; omega
    have e1 : IntKind.u64.wrap (((2 * p + 65536 : Nat) : Int) - 1) = ((2 * p + 65535 : Nat) : Int) := by rw [wrap_u64 (by omega) (by omega)]; omega
    have hb' : quoOf a b ≤ 4000000 := by omega
    rw [if_pos hn]
    refine ev_pos hn (ev_neg (by omega) (st_spec_l1Near_j0 ?_))
    simp only [u2, e1]
    refine Ev.bind (a := ((quoOf a b : Nat) : Int)) ?_ (ev_pos trivial ?_)
    · rw [hq]; exact over_l (2 * p + 65535) (by omega) 4398046511104 0 4398046511104 (by omega) (by omega) (by omega) (by omega)
    · rw [w64 (n := ((quoOf a b : Nat) : Int)) (by omega) (by omega), w64 (by omega) (by omega)]
      exact ev_bindc (hcut _ (by omega) (by omega)) (ev_some rfl)
  · have hq : quoOf a b = (2 * p + 65536) / 131072 := by unfold quoOf; rw [if_neg hn, hp]; omega
    have hb' : quoOf a b ≤ 4000000 := by omega
    rw [if_neg hn]
    refine ev_neg hn (st_spec_l1Near_j0 ?_)
    simp only [u2]
    refine Ev.bind (a := ((quoOf a b : Nat) : Int)) ?_ (ev_neg (by decide) ?_)
    · rw [hq]; exact over_l (2 * p + 65536) (by omega) 4398046511104 0 4398046511104 (by omega) (by omega) (by omega) (by omega)
    · rw [w64 (by omega) (by omega)]
      exact ev_bindc (hcut _ (by omega) (by omega)) (ev_some rfl)
abbrev FixOk (x : Int) : Prop := -1099511627776 ≤ x ∧ x ≤ 1099511627776
theorem fixed_impl (x : Int) : impl_GoodFixed.f x = some (decide (-1099511627776 ≤ x ∧ x ≤ 1099511627776)) := by
  unfold impl_GoodFixed.f
  rw [in_same, in_some]; rfl
theorem fixed_spec (x : Int) : spec_GoodFixed.f x = some (decide (-1099511627776 ≤ x ∧ x ≤ 1099511627776)) := by
  unfold spec_GoodFixed.f
  rw [in_some]; rfl
theorem areFixed_ev (l : List Int) (hl : l.length ≤ 1000) (b : Bool) (hb : b = true ↔ ∀ i : Nat, i < l.length → FixOk (rd l (i : Int))) : Ev (fun k => impl_areFixed.f k l) b := by
  refine ev_all l.length (fun k i => impl_areFixed.l0 k l (l.length : Int) (i : Int)) (fun i => FixOk (rd l (i : Int))) true b ⟨fun h => ⟨rfl, hb.1 h⟩, fun h => hb.2 h.2⟩ ?_ ?_ ?_
  · exact st_impl_areFixed_l0 (ev_neg (by omega) (ev_some rfl))
  · intro i hi _ hok r hr
    refine st_impl_areFixed_l0 (ev_pos (by omega) (ev_pos (by omega) (ev_pos (by omega) (ev_bindc (fixed_impl _) (ev_pos (decide_eq_true hok) ?_)))))
    rw [w64s i (by omega)]
    exact hr
  · intro i hi _ hok
    exact st_impl_areFixed_l0 (ev_pos (by omega) (ev_pos (by omega) (ev_pos (by omega) (ev_bindc (fixed_impl _) (ev_neg (by rw [decide_eq_true_eq]; exact hok) (ev_some rfl))))))
theorem two_fixed (a b : Int) (ha : a.natAbs ≤ 1000000) (hb : b.natAbs ≤ 131072) : Ev (fun k => impl_areFixed.f k ([a, b] : List Int)) true := by
  refine areFixed_ev [a, b] (by simp) true ⟨fun _ i hi => ?_, fun _ => rfl⟩
  rw [rd_get hi]
  unfold FixOk
  match i, hi with
  | 0, _ => show _ ≤ a ∧ a ≤ _; omega
  | 1, _ => show _ ≤ b ∧ b ≤ _; omega
theorem fix_impl (a b : Int) (ha : a.natAbs ≤ 1000000) (hb : b.natAbs ≤ 131072) : Ev (fun k => impl_FixMul.f k a b) (fixOf a b) := by
  have hP := fix_bound a b ha hb
  refine Ev.bind (two_fixed a b ha hb) (ev_pos rfl (ev_bindc (size_impl a ha) (ev_bindc (size_impl b (by omega)) ?_)))
  rw [uw _ (by omega), uw _ (by omega)]
  refine ev_bindc (mul64_small _ _ (by omega) (by omega)) ?_
  generalize hp : a.natAbs * b.natAbs = p at *
  have key : ∀ c : Nat, c ≤ 32768 → add64 (p : Int) (c : Int) = ((p + c : Nat) : Int) ∧ add64c (p : Int) (c : Int) = 0 := fun c hc => by
    unfold add64 add64c
    simp only [Int.toNat_natCast]
    omega
  have u0 : IntKind.u64.wrap (0 + 0) = 0 := wrap_u64 (by omega) (by omega)
  have u1 : IntKind.u64.wrap (0 * 281474976710656) = 0 := wrap_u64 (by omega) (by omega)
  have hd : ∀ c : Nat, ((p + c : Nat) : Int) / 65536 = (((p + c) / 65536 : Nat) : Int) := fun c => by omega
  show Ev (fun k => if negOf a b = true then _ else _) _
  by_cases hn : negOf a b = true
  · have hq : quoOf a b = (p + 32767) / 65536 := by unfold quoOf; rw [if_pos hn, hp]
    obtain ⟨k1, k2⟩ := key 32767 (by omega)
    have e : ((32768 : Int) - 1) = ((32767 : Nat) : Int) := rfl
    have hm : mn (Go.bits .or .u64 0 ((quoOf a b : Nat) : Int)) 1099511627776 = ((quoOf a b : Nat) : Int) := by rw [or_zero _ (by omega)]; unfold mn; rw [if_neg (by omega)]
    refine ev_pos hn (st_impl_FixMul_j0 ?_)
    rw [e, k1, k2, hd, ← hq, u0]
    refine ev_pos (by decide) (ev_pos hn ?_)
    rw [u1, hm, w64 (n := ((quoOf a b : Nat) : Int)) (by omega) (by omega), w64 (by omega) (by omega)]
    exact ev_some (by unfold fixOf; rw [if_pos hn])
  · have hq : quoOf a b = (p + 32768) / 65536 := by unfold quoOf; rw [if_neg hn, hp]
    obtain ⟨k1, k2⟩ := key 32768 (by omega)
    have e : (32768 : Int) = ((32768 : Nat) : Int) := rfl
    have hm : mn (Go.bits .or .u64 0 ((quoOf a b : Nat) : Int)) 1099511627776 = ((quoOf a b : Nat) : Int) := by rw [or_zero _ (by omega)]; unfold mn; rw [if_neg (by omega)]
    refine ev_neg hn (st_impl_FixMul_j0 ?_)
    rw [e, k1, k2, hd, ← hq, u0]
    refine ev_pos (by decide) (ev_neg hn ?_)
    rw [u1, hm, w64 (by omega) (by omega)]
    exact ev_some (by unfold fixOf; rw [if_neg hn])
theorem mod_spec (a : Nat) (ha : a ≤ 1000000) : spec_l1Mod.f (a : Int) 4096 = some ((a % 4096 : Nat) : Int) := by
  have e1 : Int.tdiv (a : Int) 4096 = ((a / 4096 : Nat) : Int) := by rw [Int.tdiv_eq_ediv_of_nonneg (by omega)]; omega
  have hd : spec_l1Down.f (a : Int) 4096 = some ((a / 4096 : Nat) : Int) := by
    unfold spec_l1Down.f
    rw [if_neg (by decide), e1, w64 (by omega) (by omega)]
    split
    · rfl
    · rw [if_neg (by rw [decide_eq_false (show ¬ (a : Int) < 0 by omega)]; decide)]
  unfold spec_l1Mod.f
  rw [hd]
  show some (wrap64 _) = _
  rw [w64 (n := 4096 * ((a / 4096 : Nat) : Int)) (by omega) (by omega), w64 (by omega) (by omega)]
  congr 1
  omega
theorem mod_impl (a : Nat) (ha : a ≤ 1000000) : impl_mod.f (a : Int) 4096 = some ((a % 4096 : Nat) : Int) := by
  unfold impl_mod.f
  have t1 : Int.tmod (a : Int) 4096 = ((a % 4096 : Nat) : Int) := by rw [Int.tmod_eq_emod_of_nonneg (by omega)]; omega
  have t2 : Int.tmod (((a % 4096 : Nat) : Int) + 4096) 4096 = ((a % 4096 : Nat) : Int) := by rw [Int.tmod_eq_emod_of_nonneg (by omega)]; omega
  rw [if_neg (by decide), t1, w64 (by omega) (by omega), t2]
theorem tab_bound : ∀ j : Fin 17, 0 ≤ rd impl_SinOf.tab (j.val : Int) ∧ rd impl_SinOf.tab (j.val : Int) ≤ 65536 := by decide
theorem tab_b (j : Nat) (h : j < 17) : 0 ≤ rd impl_SinOf.tab (j : Int) ∧ rd impl_SinOf.tab (j : Int) ≤ 65536 := tab_bound ⟨j, h⟩
theorem mul_b (x : Int) (y : Int) (h0 : 0 ≤ x) (h1 : x ≤ 65536) (g0 : 0 ≤ y) (g1 : y ≤ 64) : 0 ≤ x * y ∧ x * y ≤ 65536 * y := ⟨Int.mul_nonneg h0 g0, Int.mul_le_mul_of_nonneg_right h1 g0⟩
theorem at_bound (c : Nat) (h : c < 1024) : 0 ≤ impl_SinOf.at_ (c : Int) ∧ impl_SinOf.at_ (c : Int) ≤ 65536 := by
  have b1 := tab_b (c / 64) (by omega)
  have b2 := tab_b (c / 64 + 1) (by omega)
  have e1 : ((c : Int)) / 64 = ((c / 64 : Nat) : Int) := by omega
  have e2 : ((c : Int)) / 64 + 1 = ((c / 64 + 1 : Nat) : Int) := by omega
  unfold impl_SinOf.at_
  rw [e2, e1]
  have m1 := mul_b _ (64 - (c : Int) % 64) b1.1 b1.2 (by omega) (by omega)
  have m2 := mul_b _ ((c : Int) % 64) b2.1 b2.2 (by omega) (by omega)
  generalize rd impl_SinOf.tab ((c / 64 : Nat) : Int) * (64 - (c : Int) % 64) = u at *
  generalize rd impl_SinOf.tab ((c / 64 + 1 : Nat) : Int) * ((c : Int) % 64) = v at *
  omega
theorem sin_base (c : Nat) (h : c < 1024) : Ev (fun k => spec_SinOf.f k (c : Int)) (impl_SinOf.at_ (c : Int)) := by
  have b1 := tab_b (c / 64) (by omega)
  have b2 := tab_b (c / 64 + 1) (by omega)
  have e0 : c % 4096 = c := by omega
  have e1 : wrap64 (Int.tdiv (c : Int) 64) = ((c / 64 : Nat) : Int) := by rw [Int.tdiv_eq_ediv_of_nonneg (by omega), w64 (by omega) (by omega)]; omega
  have e2 : wrap64 (((c / 64 : Nat) : Int) + 1) = ((c / 64 + 1 : Nat) : Int) := w64s _ (by omega)
  have e3 : Int.tmod (c : Int) 64 = (c : Int) % 64 := Int.tmod_eq_emod_of_nonneg (by omega)
  have m1 := mul_b _ (64 - (c : Int) % 64) b1.1 b1.2 (by omega) (by omega)
  have m2 := mul_b _ ((c : Int) % 64) b2.1 b2.2 (by omega) (by omega)
  have hm := mod_spec c (by omega)
  rw [e0] at hm
  have ht : spec_l1Table.f = some impl_SinOf.tab := rfl
  have hl : (impl_SinOf.tab.length : Int) = 17 := rfl
  refine Ev.step (fun k => by rw [spec_SinOf.f]) ?_
  refine ev_bindc hm (ev_neg (by omega) (ev_neg (by omega) (ev_neg (by omega) (ev_bindc ht ?_))))
  simp only [e1, e2, e3, hl]
  refine ev_pos (by omega) (ev_pos (by omega) (ev_pos (by omega) (ev_pos (by omega) (ev_some ?_))))
  rw [w64 (n := 64 - (c : Int) % 64) (by omega) (by omega)]
  have e4 : ((c : Int)) / 64 = ((c / 64 : Nat) : Int) := by omega
  have e5 : ((c : Int)) / 64 + 1 = ((c / 64 + 1 : Nat) : Int) := by omega
  unfold impl_SinOf.at_
  rw [e5, e4]
  generalize rd impl_SinOf.tab ((c / 64 : Nat) : Int) * (64 - (c : Int) % 64) = u at *
  generalize rd impl_SinOf.tab ((c / 64 + 1 : Nat) : Int) * ((c : Int) % 64) = v at *
  rw [w64 (n := u) (by omega) (by omega), w64 (n := v) (by omega) (by omega), w64 (n := u + v) (by omega) (by omega), w64 (n := u + v + 32) (by omega) (by omega), Int.tdiv_eq_ediv_of_nonneg (by omega), w64 (by omega) (by omega)]
theorem low_bound (b : Nat) (h : b < 2048) : 0 ≤ impl_SinOf.low (b : Int) ∧ impl_SinOf.low (b : Int) ≤ 65536 := by
  unfold impl_SinOf.low
  split
  · have := at_bound (2048 - b) (by omega)
    rw [show (2048 : Int) - (b : Int) = ((2048 - b : Nat) : Int) by omega]
    exact this
  · split
    · omega
    · exact at_bound b (by omega)
theorem sin_low (b : Nat) (h : b < 2048) : Ev (fun k => spec_SinOf.f k (b : Int)) (impl_SinOf.low (b : Int)) := by
  have hm := mod_spec b (by omega)
  rw [show b % 4096 = b by omega] at hm
  unfold impl_SinOf.low
  by_cases h1 : (b : Int) > 1024
  · rw [if_pos h1]
    have hs := sin_base (2048 - b) (by omega)
    rw [show ((2048 - b : Nat) : Int) = (2048 : Int) - (b : Int) by omega] at hs
    refine Ev.step (fun k => by rw [spec_SinOf.f]) ?_
    refine ev_bindc hm (ev_neg (by omega) (ev_pos (by omega) ?_))
    rw [w64 (n := (2048 : Int) - (b : Int)) (by omega) (by omega)]
    exact Ev.bind hs (ev_some rfl)
  · rw [if_neg h1]
    by_cases h2 : (b : Int) = 1024
    · rw [if_pos h2]
      refine Ev.step (fun k => by rw [spec_SinOf.f]) ?_
      exact ev_bindc hm (ev_neg (by omega) (ev_neg (by omega) (ev_pos h2 (ev_some rfl))))
    · rw [if_neg h2]; exact sin_base b (by omega)
def sinAt (a : Nat) : Int := if a % 4096 < 2048 then impl_SinOf.low ((a % 4096 : Nat) : Int) else -(impl_SinOf.low ((a % 4096 - 2048 : Nat) : Int))
theorem sin_bound (a : Nat) : (sinAt a).natAbs ≤ 65536 := by
  unfold sinAt
  split
  · have := low_bound (a % 4096) (by omega); omega
  · have := low_bound (a % 4096 - 2048) (by omega); omega
theorem sin_spec (a : Nat) (ha : a ≤ 1000000) : Ev (fun k => spec_SinOf.f k (a : Int)) (sinAt a) := by
  by_cases h : a % 4096 < 2048
  · have e : sinAt a = impl_SinOf.low ((a % 4096 : Nat) : Int) := if_pos h
    rw [e]
    -- the sine of a is the sine of its rest
    have hm := mod_spec a ha
    obtain ⟨k0, hk⟩ := sin_low (a % 4096) h
    have hm2 := mod_spec (a % 4096) (by omega)
    rw [show a % 4096 % 4096 = a % 4096 by omega] at hm2
    refine ⟨k0, fun k hk' => ?_⟩
    cases k with
    | zero =>
      have this : spec_SinOf.f 0 ((a % 4096 : Nat) : Int) = _ := hk 0 hk'
      rw [spec_SinOf.f] at this
      cases this
    | succ k =>
      have this : spec_SinOf.f (k + 1) ((a % 4096 : Nat) : Int) = _ := hk (k + 1) hk'
      show spec_SinOf.f (k + 1) (a : Int) = _
      rw [spec_SinOf.f, hm2] at this
      rw [spec_SinOf.f, hm]
      exact this
  · have e : sinAt a = -(impl_SinOf.low ((a % 4096 - 2048 : Nat) : Int)) := if_neg h
    have hb := low_bound (a % 4096 - 2048) (by omega)
    rw [e]
    refine Ev.step (fun k => by rw [spec_SinOf.f]) ?_
    refine ev_bindc (mod_spec a ha) (ev_pos (by omega) ?_)
    rw [w64 (by omega) (by omega), show ((a % 4096 : Nat) : Int) - 2048 = ((a % 4096 - 2048 : Nat) : Int) by omega]
    refine Ev.bind (sin_low _ (by omega)) (ev_some ?_)
    rw [w64 (by omega) (by omega)]
theorem sin_impl (a : Nat) (ha : a ≤ 1000000) : impl_SinOf.f (a : Int) = some (sinAt a) := by
  unfold impl_SinOf.f sinAt
  rw [mod_impl a ha, Option.bind_some, if_pos (by omega)]
  by_cases h : a % 4096 < 2048
  · rw [if_pos (by omega), if_pos h]
  · have hb := low_bound (a % 4096 - 2048) (by omega)
    rw [if_neg (by omega), if_pos (by omega), if_neg h, show ((a % 4096 : Nat) : Int) - 2048 = ((a % 4096 - 2048 : Nat) : Int) by omega, w64 (by omega) (by omega)]
theorem cos_spec (a : Nat) (ha : a ≤ 900000) : Ev (fun k => spec_CosOf.f k (a : Int)) (sinAt (a % 4096 + 1024)) := by
  unfold spec_CosOf.f
  refine ev_bindc (mod_spec a (by omega)) ?_
  rw [w64 (by omega) (by omega), show ((a % 4096 : Nat) : Int) + 1024 = ((a % 4096 + 1024 : Nat) : Int) by omega]
  exact Ev.bind (sin_spec _ (by omega)) (ev_some rfl)
theorem cos_impl (a : Nat) (ha : a ≤ 900000) : impl_CosOf.f (a : Int) = some (sinAt (a % 4096 + 1024)) := by
  unfold impl_CosOf.f
  rw [mod_impl a (by omega), Option.bind_some, w64 (by omega) (by omega), show ((a % 4096 : Nat) : Int) + 1024 = ((a % 4096 + 1024 : Nat) : Int) by omega, sin_impl _ (by omega), Option.bind_some]
def nextOf (s : Int) : Int := (s * 1103515245 + 12345) % 2147483648
theorem next_range (s : Int) : 0 ≤ nextOf s ∧ nextOf s ≤ 2147483647 := by unfold nextOf; omega
theorem coin_eq (s : Int) (h : 0 ≤ s ∧ s ≤ 2147483647) : Int.tmod (wrap64 ((wrap64 (s * 1103515245)) + 12345)) 2147483648 = nextOf s ∧ wrap64 (Int.tdiv (Int.tmod (wrap64 ((wrap64 (s * 1103515245)) + 12345)) 2147483648) 65536) = nextOf s / 65536 := by
  have hn := next_range s
  have e : Int.tmod (wrap64 ((wrap64 (s * 1103515245)) + 12345)) 2147483648 = nextOf s := by
    rw [w64 (n := s * 1103515245) (by omega) (by omega), w64 (by omega) (by omega), Int.tmod_eq_emod_of_nonneg (by omega)]; rfl
  rw [e, Int.tdiv_eq_ediv_of_nonneg (by omega), w64 (by omega) (by omega)]
  exact ⟨rfl, rfl⟩
theorem coin_spec (s : Int) (h : 0 ≤ s ∧ s ≤ 2147483647) : spec_l1Coin.f s = some (nextOf s, nextOf s / 65536) := by
  unfold spec_l1Coin.f
  rw [(coin_eq s h).2, (coin_eq s h).1]
theorem seed_impl (s : Int) : impl_isSeed.f s = some (decide (0 ≤ s ∧ s ≤ 2147483647)) := by
  unfold impl_isSeed.f
  rw [in_same, in_some]; rfl
theorem seed_spec (s : Int) : spec_l1Seed.f s = some (decide (0 ≤ s ∧ s ≤ 2147483647)) := by
  unfold spec_l1Seed.f
  rw [in_some]; rfl
theorem coin_impl (s : Int) (h : 0 ≤ s ∧ s ≤ 2147483647) : impl_NextCoin.f s = some (nextOf s, nextOf s / 65536) := by
  unfold impl_NextCoin.f
  rw [seed_impl, Option.bind_some, if_pos (decide_eq_true h), (coin_eq s h).2, (coin_eq s h).1]
def turnOf (s : Int) : Nat := (nextOf s / 65536 % 4096).toNat
def speedOf (v s : Int) : Int := v * (nextOf (nextOf s) / 65536) / 32768
theorem speed_bound (v s : Int) (hv : 0 ≤ v ∧ v ≤ 1000000) : 0 ≤ speedOf v s ∧ speedOf v s ≤ 1000000 := by
  have hn := next_range (nextOf s)
  have h1 : 0 ≤ v * (nextOf (nextOf s) / 65536) := Int.mul_nonneg hv.1 (by omega)
  have h2 : v * (nextOf (nextOf s) / 65536) ≤ 1000000 * (nextOf (nextOf s) / 65536) := Int.mul_le_mul_of_nonneg_right hv.2 (by omega)
  unfold speedOf
  omega
theorem speed_eq (v s : Int) (hv : 0 ≤ v ∧ v ≤ 1000000) : wrap64 (Int.tdiv (wrap64 (v * (nextOf (nextOf s) / 65536))) 32768) = speedOf v s := by
  have hn := next_range (nextOf s)
  have hb := speed_bound v s hv
  have h1 : 0 ≤ v * (nextOf (nextOf s) / 65536) := Int.mul_nonneg hv.1 (by omega)
  have h2 : v * (nextOf (nextOf s) / 65536) ≤ 1000000 * (nextOf (nextOf s) / 65536) := Int.mul_le_mul_of_nonneg_right hv.2 (by omega)
  rw [w64 (n := v * (nextOf (nextOf s) / 65536)) (by omega) (by omega), Int.tdiv_eq_ediv_of_nonneg h1]
  exact w64 (by unfold speedOf at hb; omega) (by unfold speedOf at hb; omega)
theorem turn_eq (s : Int) : Int.tmod (nextOf s / 65536) 4096 = ((turnOf s : Nat) : Int) := by
  have hn := next_range s
  unfold turnOf
  rw [Int.tmod_eq_emod_of_nonneg (by omega), Int.toNat_of_nonneg (by omega)]
theorem turn_lt (s : Int) : turnOf s < 4096 := by unfold turnOf; omega
def dxOf (v s : Int) : Int := fixOf (speedOf v s) (sinAt (turnOf s % 4096 + 1024))
def dyOf (v s : Int) : Int := fixOf (speedOf v s) (sinAt (turnOf s))
theorem born_impl (x y e u l v f s : Int) (hv : 0 ≤ v ∧ v ≤ 1000000) (hs : 0 ≤ s ∧ s ≤ 2147483647) : Ev (fun k => impl_Emitter_born.f k x y e u l v f s) (x, y, dxOf v s, dyOf v s, l, nextOf (nextOf s)) := by
  have hb := speed_bound v s hv
  have ht := turn_lt s
  unfold impl_Emitter_born.f
  refine ev_bindc (coin_impl s hs) (ev_bindc (coin_impl _ (next_range s)) ?_)
  simp only [turn_eq, speed_eq v s hv]
  refine ev_bindc (cos_impl _ (by omega)) (Ev.bind (fix_impl _ _ (by omega) (by have := sin_bound (turnOf s % 4096 + 1024); omega)) (ev_bindc (sin_impl _ (by omega)) (Ev.bind (fix_impl _ _ (by omega) (by have := sin_bound (turnOf s); omega)) (ev_some rfl))))
theorem good_emitter_same (x y e u l v f : Int) : impl_GoodEmitter.f x y e u l v f = spec_GoodEmitter.f x y e u l v f := by
  unfold impl_GoodEmitter.f spec_GoodEmitter.f impl_isFar.f
  simp only [in_same, in_some, Option.bind_some]
def SparkOk (x : S48) : Prop := FixOk x.f0 ∧ FixOk x.f1 ∧ FixOk x.f2 ∧ FixOk x.f3 ∧ (1 ≤ x.f4 ∧ x.f4 ≤ 200)
def CloudOk (s st : Int) (l : List S48) : Prop := (0 ≤ s ∧ s ≤ 2147483647) ∧ (0 ≤ st ∧ st ≤ 200) ∧ l.length ≤ 60 ∧ ∀ i : Nat, i < l.length → SparkOk (rd_T48 l (i : Int))
theorem cloud_spec (s st : Int) (l : List S48) (b : Bool) (hb : b = true ↔ CloudOk s st l) : Ev (fun k => spec_GoodCloud.f k s st l) b := by
  have no : ¬ CloudOk s st l → false = b := fun h => by cases b with | false => rfl | true => exact absurd (hb.1 rfl) h
  unfold spec_GoodCloud.f
  refine ev_bindc (seed_spec s) (ev_ite (fun h0 => ?_) fun h0 => st_spec_GoodCloud_j0 (ev_pos rfl (ev_some (no fun h => h0 (decide_eq_true h.1)))))
  refine ev_bindc (in_some _ _ _) (ev_ite (fun h1 => ?_) fun h1 => st_spec_GoodCloud_j0 (ev_pos rfl (ev_some (no fun h => h1 (decide_eq_true h.2.1)))))
  refine st_spec_GoodCloud_j0 (ev_ite (fun h2 => ev_some (no fun h => by have := h.2.2.1; have := of_decide_eq_true h2; omega)) fun h2 => ?_)
  have h2' : l.length ≤ 60 := by
    rcases Nat.lt_or_ge 60 l.length with h | h
    · exact absurd (decide_eq_true (by omega)) h2
    · exact h
  refine ev_all l.length (fun k i => spec_GoodCloud.l0 k l (l.length : Int) (i : Int)) (fun i => SparkOk (rd_T48 l (i : Int))) true b ⟨fun h => ⟨rfl, (hb.1 h).2.2.2⟩, fun h => hb.2 ⟨of_decide_eq_true h0, of_decide_eq_true h1, h2', h.2⟩⟩ ?_ ?_ ?_
  · exact st_spec_GoodCloud_l0 (ev_neg (by omega) (ev_some rfl))
  · intro i hi _ hok r hr
    obtain ⟨g0, g1, g2, g3, g4⟩ := hok
    refine st_spec_GoodCloud_l0 (ev_pos (by omega) (ev_pos (by omega) (ev_pos (by omega) (ev_bindc (fixed_spec _) (ev_pos (decide_eq_true g0) (ev_bindc (fixed_spec _) (ev_pos (decide_eq_true g1) (ev_bindc (fixed_spec _) (ev_pos (decide_eq_true g2) (ev_bindc (fixed_spec _) (ev_pos (decide_eq_true g3) (ev_bindc (in_some _ _ _) (ev_pos (decide_eq_true g4) ?_)))))))))))))
    rw [w64s i (by omega)]
    exact hr
  · intro i hi _ hok
    exact st_spec_GoodCloud_l0 (ev_pos (by omega) (ev_pos (by omega) (ev_pos (by omega) (ev_bindc (fixed_spec _) (ev_ite (fun g0 => ev_bindc (fixed_spec _) (ev_ite (fun g1 => ev_bindc (fixed_spec _) (ev_ite (fun g2 => ev_bindc (fixed_spec _) (ev_ite (fun g3 => ev_bindc (in_some _ _ _) (ev_ite (fun g4 => absurd ⟨of_decide_eq_true g0, of_decide_eq_true g1, of_decide_eq_true g2, of_decide_eq_true g3, of_decide_eq_true g4⟩ hok) fun _ => ev_some rfl)) fun _ => ev_some rfl)) fun _ => ev_some rfl)) fun _ => ev_some rfl)) fun _ => ev_some rfl)))))
theorem bool_for (p : Prop) : ∃ b : Bool, b = true ↔ p := by
  rcases Classical.em p with h | h
  · exact ⟨true, fun _ => h, fun _ => rfl⟩
  · exact ⟨false, (fun e => by cases e), fun h' => absurd h' h⟩
theorem spark_impl (x : S48) (c : Bool) (hc : c = true ↔ ¬ SparkOk x) : Ev (fun k => impl_GoodCloud_1.f k x.f0 x.f1 x.f2 x.f3 x.f4) c := by
  obtain ⟨b, hb⟩ := bool_for (∀ i : Nat, i < ([x.f0, x.f1, x.f2, x.f3] : List Int).length → FixOk (rd [x.f0, x.f1, x.f2, x.f3] (i : Int)))
  have four : b = true ↔ FixOk x.f0 ∧ FixOk x.f1 ∧ FixOk x.f2 ∧ FixOk x.f3 := by
    rw [hb]
    constructor
    · intro h
      exact ⟨h 0 (by simp), h 1 (by simp), h 2 (by simp), h 3 (by simp)⟩
    · rintro ⟨a0, a1, a2, a3⟩ i hi
      match i, hi with
      | 0, _ => exact a0
      | 1, _ => exact a1
      | 2, _ => exact a2
      | 3, _ => exact a3
  unfold impl_GoodCloud_1.f
  refine Ev.bind (areFixed_ev _ (by simp) b hb) (ev_ite (fun h => ev_bindc ((in_same _ _ _).trans (in_some _ _ _)) (ev_some ?_)) fun h => ev_some ?_)
  · have hf := four.1 h
    rw [Bool.eq_iff_iff, hc]
    unfold SparkOk
    rw [Bool.not_eq_true', decide_eq_false_iff_not]
    exact ⟨fun g h => g h.2.2.2.2, fun g h => g ⟨hf.1, hf.2.1, hf.2.2.1, hf.2.2.2, h⟩⟩
  · refine (hc.2 fun hs => h (four.2 ⟨hs.1, hs.2.1, hs.2.2.1, hs.2.2.2.1⟩)).symm
theorem cloud_impl (s st : Int) (l : List S48) (hl : l.length ≤ 1048576) (b : Bool) (hb : b = true ↔ CloudOk s st l) : Ev (fun k => impl_GoodCloud.f k s st l) b := by
  have no : ¬ CloudOk s st l → false = b := fun h => by cases b with | false => rfl | true => exact absurd (hb.1 rfl) h
  unfold impl_GoodCloud.f
  refine ev_bindc (seed_impl s) (ev_ite (fun h0 => ?_) fun h0 => ev_some (no fun h => h0 (decide_eq_true h.1)))
  refine ev_bindc ((in_same _ _ _).trans (in_some _ _ _)) (ev_ite (fun h1 => ?_) fun h1 => ev_some (no fun h => h1 (decide_eq_true h.2.1)))
  refine ev_ite (fun h2 => ?_) fun h2 => ev_some (no fun h => h2 (by have := h.2.2.1; omega))
  obtain ⟨P, hP⟩ : ∃ P : Nat → Bool, ∀ i : Nat, P i = true ↔ ¬ SparkOk (rd_T48 l (i : Int)) := ⟨fun i => Classical.choose (bool_for (¬ SparkOk (rd_T48 l (i : Int)))), fun i => Classical.choose_spec (bool_for (¬ SparkOk (rd_T48 l (i : Int))))⟩
  obtain ⟨c, hc⟩ := bool_for (∃ i, i < l.length ∧ P i = true)
  have := ev_contains slices_IndexFunc_w47.l0 (fun k xs i => impl_GoodCloud_1.f k (rd_T48 xs i).f0 (rd_T48 xs i).f1 (rd_T48 xs i).f2 (rd_T48 xs i).f3 (rd_T48 xs i).f4) (fun _ _ _ _ => rfl) l (by omega) P (fun i _ => spark_impl _ _ (hP i)) c hc
  refine Ev.bind (f := fun _ t => some (!t)) this (ev_some ?_)
  rw [Bool.eq_iff_iff, hb, Bool.not_eq_true', ← Bool.not_eq_true, hc]
  constructor
  · intro hcn
    refine ⟨of_decide_eq_true h0, of_decide_eq_true h1, by omega, fun i hi => ?_⟩
    rcases Classical.em (SparkOk (rd_T48 l (i : Int))) with h | h
    · exact h
    · exact absurd ⟨i, hi, (hP i).2 h⟩ hcn
  · rintro h ⟨i, hi, hp⟩
    exact (hP i).1 hp (h.2.2.2 i hi)
def movedOf (f : Int) (x : S48) : S48 := ⟨wrap64 (x.f0 + x.f2), wrap64 (x.f1 + x.f3), x.f2, wrap64 (x.f3 - f), wrap64 (x.f4 - 1)⟩
def keptOf (f : Int) (l : List S48) : Nat → List S48
  | 0 => []
  | i + 1 => if (rd_T48 l (i : Int)).f4 = 1 then keptOf f l i else keptOf f l i ++ [movedOf f (rd_T48 l (i : Int))]
theorem kept_len (f : Int) (l : List S48) : ∀ i, (keptOf f l i).length ≤ i
  | 0 => Nat.le_refl _
  | i + 1 => by
    have := kept_len f l i
    unfold keptOf
    split
    · omega
    · rw [List.length_append]; simp only [List.length_cons, List.length_nil]; omega
def outOf (s st : Int) (l : List S48) (b : Bool) : Int × Int × List S48 × Bool := if b = true then (s, st, l, true) else (0, 0, [], false)
theorem burst_same (x y e u li v f : Int) (hv : 0 ≤ v ∧ v ≤ 1000000) (hu : u ≤ 20) (st : Int) : ∀ (d n : Nat) (s : Int) (l : List S48), u.toNat - n ≤ d → (0 ≤ s ∧ s ≤ 2147483647) → l.length ≤ 60 → n ≤ 20 →
    ∃ s' l' b, Ev (fun k => spec_StepCloud.l1 k (n : Int) x y e u li v f s st l) (outOf s' st l' b) ∧ Ev (fun k => impl_Emitter_step.l1 k (n : Int) x y e u li v f s st l) (s', st, l', b) ∧ (b = true → CloudOk s' st l') ∧ l'.length ≤ 60
  | d, n, s, l, hd, hs, hl, hn => by
    have fin : ∃ s' l' b, Ev (fun k => spec_StepCloud.j3 k (n : Int) false x y e u li v f s st l) (outOf s' st l' b) ∧ Ev (fun k => (impl_GoodCloud.f k s st l).bind fun t => some (s, st, l, t)) (s', st, l', b) ∧ (b = true → CloudOk s' st l') ∧ l'.length ≤ 60 := by
      obtain ⟨b, hb⟩ := bool_for (CloudOk s st l)
      refine ⟨s, l, b, st_spec_StepCloud_j3 (ev_neg (by decide) (Ev.bind (cloud_spec s st l b hb) ?_)), Ev.bind (cloud_impl s st l (by omega) b hb) (ev_some rfl), hb.1, hl⟩
      cases b with
      | true => exact ev_pos rfl (ev_some rfl)
      | false => exact ev_neg (by decide) (ev_some rfl)
    by_cases h : (n : Int) < u
    · by_cases h2 : (l.length : Int) < 60
      · obtain ⟨d, rfl⟩ : ∃ d', d = d' + 1 := ⟨d - 1, by omega⟩
        obtain ⟨s', l', b, g1, g2, g3, g4⟩ := burst_same x y e u li v f hv hu st d (n + 1) (nextOf (nextOf s)) (l ++ [⟨x, y, dxOf v s, dyOf v s, li⟩]) (by omega) (next_range _) (by rw [List.length_append]; simp only [List.length_cons, List.length_nil]; omega) (by omega)
        have hb := speed_bound v s hv
        have ht := turn_lt s
        refine ⟨s', l', b, ?_, ?_, g3, g4⟩
        · refine st_spec_StepCloud_l1 (ev_pos h ?_)
          rw [decide_eq_true h2]
          refine st_spec_StepCloud_j3 (ev_pos rfl (ev_bindc (coin_spec s hs) (ev_bindc (coin_spec _ (next_range s)) ?_)))
          simp only [turn_eq, speed_eq v s hv]
          refine Ev.bind (cos_spec _ (by omega)) (Ev.bind (fix_spec _ _ (by omega) (by have := sin_bound (turnOf s % 4096 + 1024); omega)) (Ev.bind (sin_spec _ (by omega)) (Ev.bind (fix_spec _ _ (by omega) (by have := sin_bound (turnOf s); omega)) (ev_pos (by omega) ?_))))
          rw [w64s n (by omega)]
          exact g1
        · refine st_impl_Emitter_step_l1 (ev_pos h (ev_pos h2 (Ev.bind (born_impl x y e u li v f s hv hs) (ev_pos (by omega) ?_))))
          rw [w64s n (by omega)]
          exact g2
      · obtain ⟨s', l', b, g1, g2, g3, g4⟩ := fin
        refine ⟨s', l', b, st_spec_StepCloud_l1 (ev_pos h ?_), st_impl_Emitter_step_l1 (ev_pos h (ev_neg h2 g2)), g3, g4⟩
        rw [decide_eq_false h2]
        exact g1
    · obtain ⟨s', l', b, g1, g2, g3, g4⟩ := fin
      exact ⟨s', l', b, st_spec_StepCloud_l1 (ev_neg h g1), st_impl_Emitter_step_l1 (ev_neg h g2), g3, g4⟩
  termination_by d => d
theorem end_same (x y e u li v f : Int) (he : 1 ≤ e) (hv : 0 ≤ v ∧ v ≤ 1000000) (hu : u ≤ 20) (s st st1 : Int) (hs : 0 ≤ s ∧ s ≤ 2147483647) (l : List S48) (hl : l.length ≤ 60) :
    ∃ s' l' b, Ev (fun k => if e = 0 then none else (if Int.tmod st e = 0 then (spec_StepCloud.l1 k 0 x y e u li v f s st1 l) else ((spec_GoodCloud.f k s st1 l).bind fun t => (if t = true then (some (s, st1, l, true)) else (some (0, 0, ([] : List S48), false)))))) (outOf s' st1 l' b) ∧
      Ev (fun k => if e = 0 then none else (if Int.tmod st e = 0 then (impl_Emitter_step.l1 k 0 x y e u li v f s st1 l) else ((impl_GoodCloud.f k s st1 l).bind fun t => (some (s, st1, l, t))))) (s', st1, l', b) ∧ (b = true → CloudOk s' st1 l') ∧ l'.length ≤ 60 := by
  by_cases h : Int.tmod st e = 0
  · obtain ⟨s', l', b, g1, g2, g3, g4⟩ := burst_same x y e u li v f hv hu st1 u.toNat 0 s l (by omega) hs hl (by omega)
    exact ⟨s', l', b, ev_neg (by omega) (ev_pos h g1), ev_neg (by omega) (ev_pos h g2), g3, g4⟩
  · obtain ⟨b, hb⟩ := bool_for (CloudOk s st1 l)
    refine ⟨s, l, b, ev_neg (by omega) (ev_neg h (Ev.bind (cloud_spec s st1 l b hb) ?_)), ev_neg (by omega) (ev_neg h (Ev.bind (cloud_impl s st1 l (by omega) b hb) (ev_some rfl))), hb.1, hl⟩
    cases b with
    | true => exact ev_pos rfl (ev_some rfl)
    | false => exact ev_neg (by decide) (ev_some rfl)
theorem step_same (x y e u li v f : Int) (he : 1 ≤ e) (hv : 0 ≤ v ∧ v ≤ 1000000) (hu : u ≤ 20) (s st : Int) (l : List S48) (hc : CloudOk s st l) :
    ∃ s' l' b, Ev (fun k => spec_StepCloud.l0 k l (l.length : Int) 0 x y e u li v f s st l s (wrap64 (st + 1)) []) (outOf s' (wrap64 (st + 1)) l' b) ∧ Ev (fun k => impl_Emitter_step.f k x y e u li v f s st l) (s', wrap64 (st + 1), l', b) ∧ (b = true → CloudOk s' (wrap64 (st + 1)) l') ∧ l'.length ≤ 60 := by
  have hl := hc.2.2.1
  obtain ⟨s', l', b, g1, g2, g3, g4⟩ := end_same x y e u li v f he hv hu s st (wrap64 (st + 1)) hc.1 (keptOf f l l.length) (Nat.le_trans (kept_len f l _) hl)
  refine ⟨s', l', b, ?_, ?_, g3, g4⟩
  · refine ev_for1 l.length (fun k i t => spec_StepCloud.l0 k l (l.length : Int) (i : Int) x y e u li v f s st l s (wrap64 (st + 1)) t) (fun i t => t = keptOf f l i) _ ?_ ?_ 0 [] (Nat.zero_le _) rfl
    · rintro t rfl
      exact st_spec_StepCloud_l0 (ev_neg (by omega) g1)
    · rintro i t hi rfl
      have hk := kept_len f l i
      have h4 := (hc.2.2.2 i hi).2.2.2.2
      refine .inr ⟨keptOf f l (i + 1), rfl, fun r hr => st_spec_StepCloud_l0 (ev_pos (by omega) (ev_pos (by omega) (ev_pos (by omega) ?_)))⟩
      rw [w64s i (by omega)]
      unfold keptOf at hr
      by_cases h1 : (rd_T48 l (i : Int)).f4 = 1
      · rw [if_pos h1] at hr
        exact ev_pos (by rw [w64 (by omega) (by omega)]; omega) hr
      · rw [if_neg h1] at hr
        exact ev_neg (by rw [w64 (by omega) (by omega)]; omega) (ev_pos (by omega) hr)
  · refine ev_for1 l.length (fun k i t => impl_Emitter_step.l0 k l (l.length : Int) (i : Int) x y e u li v f s st l s (wrap64 (st + 1)) t) (fun i t => t = keptOf f l i) _ ?_ ?_ 0 [] (Nat.zero_le _) rfl
    · rintro t rfl
      exact st_impl_Emitter_step_l0 (ev_neg (by omega) g2)
    · rintro i t hi rfl
      have hk := kept_len f l i
      have h4 := (hc.2.2.2 i hi).2.2.2.2
      refine .inr ⟨keptOf f l (i + 1), rfl, fun r hr => st_impl_Emitter_step_l0 (ev_pos (by omega) (ev_pos (by omega) (ev_pos (by omega) ?_)))⟩
      rw [w64s i (by omega)]
      unfold keptOf at hr
      by_cases h1 : (rd_T48 l (i : Int)).f4 = 1
      · rw [if_pos h1] at hr
        exact ev_neg (by rw [w64 (by omega) (by omega)]; omega) hr
      · rw [if_neg h1] at hr
        exact ev_pos (by rw [w64 (by omega) (by omega)]; omega) (ev_pos (by omega) hr)
def EmitterOk (x y e u li v f : Int) : Prop := 1 ≤ e ∧ (0 ≤ v ∧ v ≤ 1000000) ∧ u ≤ 20
theorem emitter_ok (x y e u li v f : Int) : ∃ b, spec_GoodEmitter.f x y e u li v f = some b ∧ (b = true → EmitterOk x y e u li v f) := by
  unfold spec_GoodEmitter.f EmitterOk
  simp only [in_some, Option.bind_some]
  repeat' split
  all_goals first
    | exact ⟨false, rfl, fun h => by cases h⟩
    | (refine ⟨_, rfl, fun h => ?_⟩; simp only [decide_eq_true_eq] at *; omega)
theorem stepcloud_same (x y e u li v f s st : Int) (l : List S48) (hl : l.length ≤ 1048576) :
    ∃ s' st' l' b, Ev (fun k => spec_StepCloud.f k x y e u li v f s st l) (s', st', l', b) ∧ Ev (fun k => impl_StepCloud.f k x y e u li v f s st l) (s', st', l', b) ∧ l'.length ≤ 60 := by
  obtain ⟨g, hg, he⟩ := emitter_ok x y e u li v f
  have hgi : impl_GoodEmitter.f x y e u li v f = some g := (good_emitter_same _ _ _ _ _ _ _).trans hg
  have out : ∀ r, Ev (fun k => impl_RunCloud.f k x y e u li v f s st l 1) r → Ev (fun k => impl_StepCloud.f k x y e u li v f s st l) r := fun r hr => by
    unfold impl_StepCloud.f
    exact Ev.bind hr (ev_some rfl)
  cases g with
  | false =>
    refine ⟨0, 0, [], false, ?_, out _ ?_, by simp⟩
    · unfold spec_StepCloud.f
      exact ev_bindc hg (ev_neg (by decide) (st_spec_StepCloud_j0 (ev_pos rfl (ev_some rfl))))
    · unfold impl_RunCloud.f
      exact ev_bindc hgi (ev_neg (by decide) (st_impl_RunCloud_j0 (ev_pos rfl (ev_some rfl))))
  | true =>
    obtain ⟨c, hc⟩ := bool_for (CloudOk s st l)
    have cs := cloud_spec s st l c hc
    have ci := cloud_impl s st l hl c hc
    cases c with
    | false =>
      refine ⟨0, 0, [], false, ?_, out _ ?_, by simp⟩
      · unfold spec_StepCloud.f
        exact ev_bindc hg (ev_pos rfl (Ev.bind cs (ev_neg (by decide) (st_spec_StepCloud_j0 (ev_pos rfl (ev_some rfl))))))
      · unfold impl_RunCloud.f
        exact ev_bindc hgi (ev_pos rfl (Ev.bind ci (ev_neg (by decide) (st_impl_RunCloud_j0 (ev_pos rfl (ev_some rfl))))))
    | true =>
      have hok := hc.1 rfl
      have h2 := hok.2.1
      have h3 := hok.2.2.1
      obtain ⟨e1, e2, e3⟩ := he rfl
      have hw : wrap64 (200 - st) = 200 - st := w64 (by omega) (by omega)
      by_cases hst : st = 200
      · refine ⟨0, 0, [], false, ?_, out _ ?_, by simp⟩
        · unfold spec_StepCloud.f
          refine ev_bindc hg (ev_pos rfl (Ev.bind cs (ev_pos rfl (st_spec_StepCloud_j0 (ev_pos (by rw [hst]; rfl) (ev_some rfl))))))
        · unfold impl_RunCloud.f
          refine ev_bindc hgi (ev_pos rfl (Ev.bind ci (ev_pos rfl (ev_bindc ((in_same _ _ _).trans (in_some _ _ _)) ?_))))
          rw [hw, decide_eq_false (by omega)]
          exact st_impl_RunCloud_j0 (ev_pos rfl (ev_some rfl))
      · obtain ⟨s', l', b, g1, g2, _, g4⟩ := step_same x y e u li v f e1 e2 e3 s st l hok
        refine ⟨(outOf s' (wrap64 (st + 1)) l' b).1, (outOf s' (wrap64 (st + 1)) l' b).2.1, (outOf s' (wrap64 (st + 1)) l' b).2.2.1, (outOf s' (wrap64 (st + 1)) l' b).2.2.2, ?_, out _ ?_, ?_⟩
        · unfold spec_StepCloud.f
          exact ev_bindc hg (ev_pos rfl (Ev.bind cs (ev_pos rfl (st_spec_StepCloud_j0 (ev_neg (by simpa using hst) g1)))))
        · unfold impl_RunCloud.f
          refine ev_bindc hgi (ev_pos rfl (Ev.bind ci (ev_pos rfl (ev_bindc ((in_same _ _ _).trans (in_some _ _ _)) ?_))))
          rw [hw, decide_eq_true (by omega)]
          have h33 : impl_Spark_33.f l = some l := if_pos (by omega)
          refine st_impl_RunCloud_j0 (ev_neg (by decide) (ev_bindc h33 (st_impl_RunCloud_l0 (ev_pos (by decide) (Ev.bind g2 ?_)))))
          cases b with
          | false => exact ev_neg (by simp) (ev_some rfl)
          | true => exact ev_pos rfl (st_impl_RunCloud_l0 (ev_neg (by rw [w64 (by omega) (by omega)]; omega) (ev_some rfl)))
        · unfold outOf
          split
          · exact g4
          · simp
theorem markCloud_ev (a b : Int) {l ys : List S48} {c d : Int} (h : Ev (fun k => laws_markSparkS.f k l c) (d, ys)) : Ev (fun k => laws_markCloud.f k a b l c) (d, ys) := Ev.bind h (ev_some rfl)
theorem heldCloud_ev (a b : Int) {l : List S48} {c d : Int} (hd : 0 ≤ d) (h : Ev (fun k => laws_heldSparkS.f k l c) d) : Ev (fun k => laws_heldCloud.f k a b l c) d := Ev.bind h (ev_neg (by omega) (ev_some rfl))
theorem FnExactStepCloud : ∀ (a0_0 : Int) (a0_1 : Int) (a0_2 : Int) (a0_3 : Int) (a0_4 : Int) (a0_5 : Int) (a0_6 : Int) (a1_0 : Int) (a1_1 : Int) (l1_2 : List (S68)), (In64 a0_0) → (In64 a0_1) → (In64 a0_2) → (In64 a0_3) → (In64 a0_4) → (In64 a0_5) → (In64 a0_6) → (In64 a1_0) → (In64 a1_1) → (l1_2.length * 40 ≤ 140737488351232 ∧ ∀ y ∈ l1_2, Ok68 y) → ∃ k, laws_FnExactStepCloud.f k a0_0 a0_1 a0_2 a0_3 a0_4 a0_5 a0_6 a1_0 a1_1 l1_2 = some true := by
  intro x y e u li v f s st xs _ _ _ _ _ _ _ gs gst gl
  refine Ev.rounds (g := fun k => laws_FnExactStepCloud.f k x y e u li v f s st xs) ?_
  obtain ⟨r, hr, h | ⟨h0, h1, hx⟩⟩ := szCloud_some s st xs gs gst gl 1048576 (by omega) (by omega)
  · exact Ev.bind hr (ev_pos h (ev_some rfl))
  · have tx := toCloud_ev s st xs hx
    have te : laws_toEmitter.f x y e u li v f = some (x, y, e, u, li, v, f) := rfl
    have hx' : (xs.map cv68).length ≤ 1048576 := by rw [List.length_map]; exact hx
    obtain ⟨s', st', m, t, hs, hi, hm⟩ := stepcloud_same x y e u li v f s st (xs.map cv68) hx'
    obtain ⟨y1, d1, _, p0, _, _, hm1⟩ := markSparkS_ev (xs.map cv68) hx' 1 (by omega) (by omega)
    obtain ⟨y2, d2, hch, q0, q1, ml, hm2⟩ := markSparkS_ev m (by omega) 1 (by omega) (by omega)
    have hh := heldCloud_ev s' st' (by omega) (heldSparkS_ev y2 (by omega) 1 d2 (by omega) (by omega) hch)
    have hm1 := markCloud_ev s st hm1
    have hm2 := markCloud_ev s' st' hm2
    have ee := eqCloud_ev s' st' m (by omega)
    have ex := eqCloud_ev s st (xs.map cv68) hx'
    have et : (t != t) = false := by simp
    refine Ev.bind hr (ev_neg (by omega) (ev_bindc te (Ev.bind tx (Ev.bind hs (Ev.bind tx (ev_bindc te (Ev.bind hi (Ev.bind ee (ev_pos rfl ?_)))))))))
    simp only [et]
    refine st_laws_FnExactStepCloud_j0 (ev_neg (by decide) (Ev.bind tx (Ev.bind ex (ev_pos rfl (Ev.bind hm1 (ev_neg (by omega) (Ev.bind ee (ev_pos rfl ?_))))))))
    simp only [et]
    refine st_laws_FnExactStepCloud_j1 (ev_neg (by decide) (Ev.bind hm2 (Ev.bind hh (ev_neg (by omega) (ev_pos rfl (ev_bindc te (Ev.bind tx (Ev.bind hi (Ev.bind ee (ev_pos rfl ?_))))))))))
    simp only [et]
    exact st_laws_FnExactStepCloud_j2 (ev_neg (by decide) (Ev.bind hh (ev_neg (by omega) (ev_pos rfl (ev_some rfl)))))
end Go.Proofs.Ythgfobcckoedaaa.Pure
