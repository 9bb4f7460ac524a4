/- Texts of the row of the law FnExactGoodAssets, laid together. -/
import Derived.Test.YtifejplilaefiaaZFnExactGoodAssets0
import Derived.Test.YtifejplilaefiaaZFnExactGoodAssets4
import Derived.Laws.BitsLemmas
namespace Go.Proofs.YtifejplilaefiaaO
open Go.RowKit Go.Proofs.YtifejplilaefiaaW.PrintWords Go.Proofs.YtifejplilaefiaaW.PrintLast Go.Proofs.YtifejplilaefiaaW.PrintMore
theorem w64 {n : Int} (h : -9223372036854775808 ≤ n) (k : n ≤ 9223372036854775807) : wrap64 n = n := by unfold wrap64; omega
theorem w64s (i : Nat) (h : i < 4611686018427387904) : wrap64 ((i : Int) + 1) = ((i + 1 : Nat) : Int) := by unfold wrap64; omega
theorem ev_some {α : Type} {x r : α} (h : x = r) : Ev (fun _ => some x) r := ⟨0, fun _ _ => by rw [h]⟩
theorem ev_pos {α : Type} {c : Prop} [Decidable c] {f g : Nat → Option α} {r : α} (h : c) (k : Ev f r) : Ev (fun n => if c then f n else g n) r := by
  obtain ⟨K, hK⟩ := k
  exact ⟨K, fun n hn => (if_pos h).trans (hK n hn)⟩
theorem ev_neg {α : Type} {c : Prop} [Decidable c] {f g : Nat → Option α} {r : α} (h : ¬ c) (k : Ev g r) : Ev (fun n => if c then f n else g n) r := by
  obtain ⟨K, hK⟩ := k
  exact ⟨K, fun n hn => (if_neg h).trans (hK n hn)⟩
theorem ev_ite {α : Type} {c : Prop} [Decidable c] {f g : Nat → Option α} {r : α} (h : c → Ev f r) (k : ¬ c → Ev g r) : Ev (fun n => if c then f n else g n) r := by
  by_cases hc : c
  · exact ev_pos hc (h hc)
  · exact ev_neg hc (k hc)
theorem ev_bindc {α β : Type} {x : Option α} {f : Nat → α → Option β} {a : α} {r : β} (h : x = some a) (k : Ev (fun n => f n a) r) : Ev (fun n => x.bind (f n)) r := by
  subst h; exact k
theorem ev_for {σ ρ : Type} (n : Nat) (L : Nat → Nat → σ → Option ρ) (I : Nat → σ → Prop) (Q : ρ → Prop)
    (hend : ∀ s, I n s → ∃ r, Ev (fun k => L k n s) r ∧ Q r)
    (hstep : ∀ i s, i < n → I i s → (∃ r, Ev (fun k => L k i s) r ∧ Q r) ∨ ∃ s', I (i + 1) s' ∧ ∀ r, Ev (fun k => L k (i + 1) s') r → Ev (fun k => L k i s) r) :
    ∀ i s, i ≤ n → I i s → ∃ r, Ev (fun k => L k i s) r ∧ Q r := by
  have key : ∀ d i s, i + d = n → I i s → ∃ r, Ev (fun k => L k i s) r ∧ Q r := by
    intro d
    induction d with
    | zero => intro i s hi h; obtain rfl : i = n := by omega
              exact hend s h
    | succ d ih =>
      intro i s hi h
      rcases hstep i s (by omega) h with h' | ⟨s', hI, hr⟩
      · exact h'
      · obtain ⟨r, hr', hQ⟩ := ih (i + 1) s' (by omega) hI
        exact ⟨r, hr r hr', hQ⟩
  intro i s hi h
  exact key (n - i) i s (by omega) h
theorem ev_for1 {σ ρ : Type} (n : Nat) (L : Nat → Nat → σ → Option ρ) (I : Nat → σ → Prop) (a : ρ)
    (hend : ∀ s, I n s → Ev (fun k => L k n s) a)
    (hstep : ∀ i s, i < n → I i s → Ev (fun k => L k i s) a ∨ ∃ s', I (i + 1) s' ∧ ∀ r, Ev (fun k => L k (i + 1) s') r → Ev (fun k => L k i s) r) :
    ∀ i s, i ≤ n → I i s → Ev (fun k => L k i s) a := by
  intro i s hi h
  obtain ⟨r, hr, rfl⟩ := ev_for n L I (fun r => r = a) (fun s hs => ⟨a, hend s hs, rfl⟩) (fun i s hi hs => (hstep i s hi hs).imp (fun h => ⟨a, h, rfl⟩) id) i s hi h
  exact hr
theorem rd_get {xs : List Int} {i : Nat} (h : i < xs.length) : rd xs (i : Int) = xs[i] := by simp [rd, List.getD_eq_getElem?_getD, h]
theorem rdOf_get {α : Type} {d : α} {xs : List α} {i : Nat} (h : i < xs.length) : rdOf d xs (i : Int) = xs[i] := by simp [rdOf, List.getD_eq_getElem?_getD, h]
theorem getD_get {α : Type} {d : α} {xs : List α} {i : Nat} (h : i < xs.length) : xs.getD (i : Int).toNat d = xs[i] := by simp [List.getD_eq_getElem?_getD, h]
theorem ev_copy {α β : Type} (L : Nat → List α → List β → Int → Option (List β)) (e : Nat → List α → Int → Option β) (g : α → β)
    (hL : ∀ k xs ys i, L (k + 1) xs ys i = if i < (xs.length : Int) then (if 0 ≤ i then (if i < (ys.length : Int) then ((e k xs i).bind fun v => L k xs (ys.set (i : Int).toNat v) (wrap64 (i + 1))) else none) else none) else some ys)
    (xs : List α) (hx : xs.length < 4611686018427387904) (he : ∀ i : Nat, ∀ h : i < xs.length, Ev (fun k => e k xs (i : Int)) (g xs[i])) (ys : List β) (hy : ys.length = xs.length) :
    Ev (fun k => L k xs ys 0) (xs.map g) := by
  refine ev_for1 xs.length (fun k i ys => L k xs ys (i : Int)) (fun i ys => ys.length = xs.length ∧ ∀ j, j < i → ys[j]? = (xs.map g)[j]?) (xs.map g) ?_ ?_ 0 ys (Nat.zero_le _) ⟨hy, fun j hj => by omega⟩
  · intro ys ⟨hl, h⟩
    refine Ev.step (fun k => hL k xs ys _) (ev_neg (by omega) (ev_some ?_))
    apply List.ext_getElem?
    intro j
    rcases Nat.lt_or_ge j xs.length with hj | hj
    · exact h j hj
    · rw [List.getElem?_eq_none (by omega), List.getElem?_eq_none (by simpa using hj)]
  · intro i ys hi ⟨hl, h⟩
    refine .inr ⟨ys.set i (g xs[i]), ⟨by simpa using hl, fun j hj => ?_⟩, fun r hr => ?_⟩
    · rcases Nat.lt_or_ge j i with hji | hji
      · rw [List.getElem?_set_ne (by omega)]
        exact h j hji
      · obtain rfl : j = i := by omega
        rw [List.getElem?_set_self (by omega), List.getElem?_map, List.getElem?_eq_getElem hi]
        rfl
    · refine Ev.step (fun k => hL k xs ys _) (ev_pos (by omega) (ev_pos (by omega) (ev_pos (by omega) (Ev.bind (he i hi) ?_))))
      rw [w64s i (by omega)]
      exact hr
theorem ev_alike {α β : Type} (L : Nat → List α → List β → Int → Option Bool) (e : Nat → List α → List β → Int → Option Bool) (g : α → β → Bool)
    (hL : ∀ k xs ys i, L (k + 1) xs ys i = if i < (xs.length : Int) then (if 0 ≤ i then (if i < (ys.length : Int) then ((e k xs ys i).bind fun v => if v = true then L k xs ys (wrap64 (i + 1)) else some false) else none) else none) else some true)
    (xs : List α) (ys : List β) (hx : xs.length < 4611686018427387904) (hy : ys.length = xs.length) (he : ∀ i : Nat, ∀ (h : i < xs.length) (h' : i < ys.length), Ev (fun k => e k xs ys (i : Int)) (g xs[i] ys[i]))
    (b : Bool) (hb : b = true ↔ ∀ i : Nat, ∀ (h : i < xs.length) (h' : i < ys.length), g xs[i] ys[i] = true) :
    Ev (fun k => L k xs ys 0) b := by
  refine ev_for1 xs.length (fun k i (_ : Unit) => L k xs ys (i : Int)) (fun i _ => ∀ j, j < i → ∀ (h : j < xs.length) (h' : j < ys.length), g xs[j] ys[j] = true) b ?_ ?_ 0 () (Nat.zero_le _) (fun j hj => by omega)
  · intro _ h
    refine Ev.step (fun k => hL k xs ys _) (ev_neg (by omega) (ev_some ?_))
    exact (hb.2 fun i hi hi' => h i hi hi hi').symm
  · intro i _ hi h
    have hi' : i < ys.length := by omega
    by_cases hg : g xs[i] ys[i] = true
    · refine .inr ⟨(), fun j hj h1 h2 => ?_, fun r hr => ?_⟩
      · rcases Nat.lt_or_ge j i with hji | hji
        · exact h j hji h1 h2
        · obtain rfl : j = i := by omega
          exact hg
      · refine Ev.step (fun k => hL k xs ys _) (ev_pos (by omega) (ev_pos (by omega) (ev_pos (by omega) (Ev.bind (he i hi hi') (ev_pos hg ?_)))))
        rw [w64s i (by omega)]
        exact hr
    · refine .inl (Ev.step (fun k => hL k xs ys _) (ev_pos (by omega) (ev_pos (by omega) (ev_pos (by omega) (Ev.bind (he i hi hi') (ev_neg hg (ev_some ?_)))))))
      cases b with
      | false => rfl
      | true => exact absurd (hb.1 rfl i hi hi') hg
theorem ev_alike_self {α : Type} (L : Nat → List α → List α → Int → Option Bool) (e : Nat → List α → List α → Int → Option Bool)
    (hL : ∀ k xs ys i, L (k + 1) xs ys i = if i < (xs.length : Int) then (if 0 ≤ i then (if i < (ys.length : Int) then ((e k xs ys i).bind fun v => if v = true then L k xs ys (wrap64 (i + 1)) else some false) else none) else none) else some true)
    (xs : List α) (hx : xs.length < 4611686018427387904) (he : ∀ i : Nat, ∀ (_ : i < xs.length), Ev (fun k => e k xs xs (i : Int)) true) :
    Ev (fun k => L k xs xs 0) true :=
  ev_alike L e (fun _ _ => true) hL xs xs hx rfl (fun i h _ => he i h) true ⟨fun _ _ _ _ => rfl, fun _ => rfl⟩
theorem bool_of (P : Prop) : ∃ b : Bool, b = true ↔ P := ⟨@decide P (Classical.propDecidable P), by simp⟩
theorem bool_false {P : Prop} {b : Bool} (h : b = true ↔ P) (k : ¬ P) : b = false := by
  cases b with
  | false => rfl
  | true => exact absurd (h.1 rfl) k
theorem ev_all (n : Nat) (L : Nat → Nat → Option Bool) (ok : Nat → Prop) (e b : Bool) (hb : b = true ↔ e = true ∧ ∀ i, i < n → ok i) (hend : Ev (fun k => L k n) e)
    (hyes : ∀ i, i < n → (∀ j, j < i → ok j) → ok i → ∀ r, Ev (fun k => L k (i + 1)) r → Ev (fun k => L k i) r) (hno : ∀ i, i < n → (∀ j, j < i → ok j) → ¬ ok i → Ev (fun k => L k i) false) : Ev (fun k => L k 0) b := by
  refine ev_for1 n (fun k i (_ : Unit) => L k i) (fun i _ => ∀ j, j < i → ok j) b ?_ ?_ 0 () (Nat.zero_le _) (fun j hj => by omega)
  · intro _ h
    have : b = e := by
      cases e with
      | false => exact bool_false hb (fun h => by simp at h)
      | true => exact hb.2 ⟨rfl, h⟩
    rw [this]
    exact hend
  · intro i _ hi h
    by_cases ho : ok i
    · refine .inr ⟨(), fun j hj => ?_, hyes i hi h ho⟩
      rcases Nat.lt_or_ge j i with h1 | h1
      · exact h j h1
      · obtain rfl : j = i := by omega
        exact ho
    · have : b = false := bool_false hb (fun h => ho (h.2 i hi))
      rw [this]
      exact .inl (hno i hi h ho)
def Chain {α : Type} (E : α → Int → Int → Prop) : List α → Int → Int → Prop
  | [], c, d => c = d
  | x :: r, c, d => ∃ m, E x c m ∧ Chain E r m d
theorem Chain.snoc {α : Type} {E : α → Int → Int → Prop} : ∀ {l : List α} {c m d : Int} {x : α}, Chain E l c m → E x m d → Chain E (l ++ [x]) c d
  | [], _, _, _, _, h, k => by cases h; exact ⟨_, k, rfl⟩
  | _ :: _, _, _, _, _, ⟨q, h1, h2⟩, k => ⟨q, h1, Chain.snoc h2 k⟩
theorem ev_index {α : Type} (L : Nat → List α → Int → Int → Option Int) (p : Nat → List α → Int → Option Bool)
    (hL : ∀ k xs n i, L (k + 1) xs n i = if i < n then (if 0 ≤ i then (if i < (xs.length : Int) then ((p k xs i).bind fun t => if t = true then some i else L k xs n (wrap64 (i + 1))) else none) else none) else some (-1))
    (xs : List α) (hx : xs.length < 4611686018427387904) (P : Nat → Bool) (he : ∀ i : Nat, i < xs.length → Ev (fun k => p k xs (i : Int)) (P i)) :
    ∃ r, Ev (fun k => L k xs (xs.length : Int) 0) r ∧ ((r = -1 ∧ ∀ i, i < xs.length → P i = false) ∨ ∃ i : Nat, i < xs.length ∧ r = (i : Int) ∧ P i = true ∧ ∀ j, j < i → P j = false) := by
  refine ev_for xs.length (fun k i (_ : Unit) => L k xs (xs.length : Int) (i : Int)) (fun i _ => ∀ j, j < i → P j = false) (fun r => (r = -1 ∧ ∀ i, i < xs.length → P i = false) ∨ ∃ i : Nat, i < xs.length ∧ r = (i : Int) ∧ P i = true ∧ ∀ j, j < i → P j = false) ?_ ?_ 0 () (Nat.zero_le _) (fun j hj => by omega)
  · intro _ h
    exact ⟨-1, Ev.step (fun k => hL k xs _ _) (ev_neg (by omega) (ev_some rfl)), .inl ⟨rfl, h⟩⟩
  · intro i _ hi h
    cases hP : P i with
    | true =>
      refine .inl ⟨(i : Int), Ev.step (fun k => hL k xs _ _) (ev_pos (by omega) (ev_pos (by omega) (ev_pos (by omega) (Ev.bind (he i hi) (ev_pos hP (ev_some rfl)))))), .inr ⟨i, hi, rfl, hP, h⟩⟩
    | false =>
      refine .inr ⟨(), fun j hj => ?_, fun r hr => Ev.step (fun k => hL k xs _ _) (ev_pos (by omega) (ev_pos (by omega) (ev_pos (by omega) (Ev.bind (he i hi) (ev_neg (by rw [hP]; decide) ?_)))))⟩
      · rcases Nat.lt_or_ge j i with h1 | h1
        · exact h j h1
        · obtain rfl : j = i := by omega
          exact hP
      · rw [w64s i (by omega)]
        exact hr
theorem ev_contains {α : Type} (L : Nat → List α → Int → Int → Option Int) (p : Nat → List α → Int → Option Bool)
    (hL : ∀ k xs n i, L (k + 1) xs n i = if i < n then (if 0 ≤ i then (if i < (xs.length : Int) then ((p k xs i).bind fun t => if t = true then some i else L k xs n (wrap64 (i + 1))) else none) else none) else some (-1))
    (xs : List α) (hx : xs.length < 4611686018427387904) (P : Nat → Bool) (he : ∀ i : Nat, i < xs.length → Ev (fun k => p k xs (i : Int)) (P i)) (b : Bool) (hb : b = true ↔ ∃ i, i < xs.length ∧ P i = true) :
    Ev (fun k => (L k xs (xs.length : Int) 0).bind fun t => some (decide (t ≥ 0))) b := by
  obtain ⟨r, hr, h⟩ := ev_index L p hL xs hx P he
  refine Ev.bind hr (ev_some ?_)
  rw [Bool.eq_iff_iff, decide_eq_true_eq, hb]
  rcases h with ⟨rfl, h⟩ | ⟨i, hi, rfl, hP, _⟩
  · constructor
    · intro h'; omega
    · rintro ⟨i, hi, hP⟩; rw [h i hi] at hP; cases hP
  · exact ⟨fun _ => ⟨i, hi, hP⟩, fun _ => by omega⟩
theorem exev_bind {α β : Type} {g : Nat → Option α} {f : Nat → α → Option β} {a : α} {Q : β → Prop} (h : Ev g a) (k : ∃ r, Ev (fun n => f n a) r ∧ Q r) : ∃ r, Ev (fun n => (g n).bind (f n)) r ∧ Q r := by
  obtain ⟨r, hr, hq⟩ := k
  exact ⟨r, Ev.bind h hr, hq⟩
theorem exev_pos {α : Type} {c : Prop} [Decidable c] {f g : Nat → Option α} {Q : α → Prop} (h : c) (k : ∃ r, Ev f r ∧ Q r) : ∃ r, Ev (fun n => if c then f n else g n) r ∧ Q r := by
  obtain ⟨r, hr, hq⟩ := k
  exact ⟨r, ev_pos h hr, hq⟩
theorem exev_neg {α : Type} {c : Prop} [Decidable c] {f g : Nat → Option α} {Q : α → Prop} (h : ¬ c) (k : ∃ r, Ev g r ∧ Q r) : ∃ r, Ev (fun n => if c then f n else g n) r ∧ Q r := by
  obtain ⟨r, hr, hq⟩ := k
  exact ⟨r, ev_neg h hr, hq⟩
theorem exev_ite {α : Type} {c : Prop} [Decidable c] {f g : Nat → Option α} {Q : α → Prop} (h : c → ∃ r, Ev f r ∧ Q r) (k : ¬ c → ∃ r, Ev g r ∧ Q r) : ∃ r, Ev (fun n => if c then f n else g n) r ∧ Q r := by
  by_cases hc : c
  · exact exev_pos hc (h hc)
  · exact exev_neg hc (k hc)
theorem exev_some {α : Type} {x : α} {Q : α → Prop} (h : Q x) : ∃ r, Ev (fun _ => some x) r ∧ Q r := ⟨x, ev_some rfl, h⟩
theorem ev_copy2 {α β τ : Type} (L : Nat → List α → List β → Int → Option (List β)) (e : Nat → List α → Int → Option τ) (mk : τ → β) (g : α → β)
    (hL : ∀ k xs ys i, L (k + 1) xs ys i = if i < (xs.length : Int) then (if 0 ≤ i then ((e k xs i).bind fun v => if i < (ys.length : Int) then L k xs (ys.set (i : Int).toNat (mk v)) (wrap64 (i + 1)) else none) else none) else some ys)
    (xs : List α) (hx : xs.length < 4611686018427387904) (he : ∀ i : Nat, ∀ h : i < xs.length, ∃ t, Ev (fun k => e k xs (i : Int)) t ∧ mk t = g xs[i]) (ys : List β) (hy : ys.length = xs.length) :
    Ev (fun k => L k xs ys 0) (xs.map g) := by
  refine ev_for1 xs.length (fun k i ys => L k xs ys (i : Int)) (fun i ys => ys.length = xs.length ∧ ∀ j, j < i → ys[j]? = (xs.map g)[j]?) (xs.map g) ?_ ?_ 0 ys (Nat.zero_le _) ⟨hy, fun j hj => by omega⟩
  · intro ys ⟨hl, h⟩
    refine Ev.step (fun k => hL k xs ys _) (ev_neg (by omega) (ev_some ?_))
    apply List.ext_getElem?
    intro j
    rcases Nat.lt_or_ge j xs.length with hj | hj
    · exact h j hj
    · rw [List.getElem?_eq_none (by omega), List.getElem?_eq_none (by simpa using hj)]
  · intro i ys hi ⟨hl, h⟩
    obtain ⟨t, ht, hmk⟩ := he i hi
    refine .inr ⟨ys.set i (g xs[i]), ⟨by simpa using hl, fun j hj => ?_⟩, fun r hr => ?_⟩
    · rcases Nat.lt_or_ge j i with hji | hji
      · rw [List.getElem?_set_ne (by omega)]
        exact h j hji
      · obtain rfl : j = i := by omega
        rw [List.getElem?_set_self (by omega), List.getElem?_map, List.getElem?_eq_getElem hi]
        rfl
    · refine Ev.step (fun k => hL k xs ys _) (ev_pos (by omega) (ev_pos (by omega) (Ev.bind ht (ev_pos (by omega) ?_))))
      rw [w64s i (by omega), hmk]
      exact hr
theorem ev_size {α : Type} (L : Nat → List α → Int → Int → Option Int) (e : Nat → List α → Int → Int → Option Int) (C : α → Prop)
    (hL : ∀ k xs c i, L (k + 1) xs c i = if i < (xs.length : Int) then (if 0 ≤ i then ((e k xs c i).bind fun t => if t < 0 then some (-1) else L k xs t (wrap64 (i + 1))) else none) else some c)
    (xs : List α) (hx : xs.length < 4611686018427387904) (left : Int) (h0 : 0 ≤ left)
    (he : ∀ i : Nat, ∀ h : i < xs.length, ∀ c, 0 ≤ c → c ≤ left → ∃ r, Ev (fun k => e k xs c (i : Int)) r ∧ (r < 0 ∨ 0 ≤ r ∧ r ≤ c ∧ C xs[i])) :
    ∃ r, Ev (fun k => L k xs left 0) r ∧ (r < 0 ∨ 0 ≤ r ∧ r ≤ left ∧ ∀ x ∈ xs, C x) := by
  refine ev_for xs.length (fun k i c => L k xs c (i : Int)) (fun i c => 0 ≤ c ∧ c ≤ left ∧ ∀ j, ∀ h : j < xs.length, j < i → C xs[j]) (fun r => r < 0 ∨ 0 ≤ r ∧ r ≤ left ∧ ∀ x ∈ xs, C x) ?_ ?_ 0 left (Nat.zero_le _) ⟨h0, Int.le_refl _, fun j _ hj => by omega⟩
  · intro c ⟨hc0, hc1, h⟩
    refine ⟨c, Ev.step (fun k => hL k xs c _) (ev_neg (by omega) (ev_some rfl)), .inr ⟨hc0, hc1, fun x hx => ?_⟩⟩
    obtain ⟨j, hj, rfl⟩ := List.getElem_of_mem hx
    exact h j hj hj
  · intro i c hi ⟨hc0, hc1, h⟩
    obtain ⟨r, hr, hq⟩ := he i hi c hc0 hc1
    rcases hq with hq | ⟨q0, q1, q2⟩
    · exact .inl ⟨-1, Ev.step (fun k => hL k xs c _) (ev_pos (by omega) (ev_pos (by omega) (Ev.bind hr (ev_pos hq (ev_some rfl))))), .inl (by omega)⟩
    · refine .inr ⟨r, ⟨q0, by omega, fun j hj hji => ?_⟩, fun r' hr' => Ev.step (fun k => hL k xs c _) (ev_pos (by omega) (ev_pos (by omega) (Ev.bind hr (ev_neg (by omega) ?_))))⟩
      · rcases Nat.lt_or_ge j i with h1 | h1
        · exact h j hj h1
        · obtain rfl : j = i := by omega
          exact q2
      · rw [w64s i (by omega)]
        exact hr'
end Go.Proofs.YtifejplilaefiaaO
namespace Go.Proofs.Ytifejplilaefiaa.Pure
open Go.RowKit Go.Proofs.Ytifejplilaefiaa.PFnExactGoodAssets Go.Proofs.Ytifejplilaefiaa.OFnExactGoodAssets Go.Proofs.YtifejplilaefiaaW.PrintWords Go.Proofs.YtifejplilaefiaaW.PrintLast Go.Proofs.YtifejplilaefiaaW.PrintMore Go.Proofs.YtifejplilaefiaaO
set_option linter.unusedVariables false
set_option linter.unusedSimpArgs false
theorem st_spec_GoodName_j0 {r : (Bool)} {x0 : ByteArray} {x16 : Bool} (h : Ev (fun k => if x16 = true then (some false) else (spec_GoodName.l0 k x0 0)) r) : Ev (fun k => spec_GoodName.j0 k x0 x16) r := Ev.step (fun k => by rw [spec_GoodName.j0]) h
theorem st_spec_GoodName_l0 {r : (Bool)} {x0 : ByteArray} {x3 : Int} (h : Ev (fun k => if x3 < (x0.size : Int) then (if 0 ≤ x3 then ((spec_l1Letter.f (bt x0 x3)).bind fun t108 => (if t108 = true then (spec_GoodName.l0 k x0 (wrap64 (x3 + 1))) else ((spec_l1Digit.f (bt x0 x3)).bind fun t109 => (if t109 = true then (spec_GoodName.l0 k x0 (wrap64 (x3 + 1))) else (some false))))) else (none)) else (some true)) r) : Ev (fun k => spec_GoodName.l0 k x0 x3) r := Ev.step (fun k => by rw [spec_GoodName.l0]) h
theorem st_spec_l3Names_l0 {r : (Bool)} {x0 : List ByteArray} {x11 : List ByteArray} {x12 : Int} {x13 : Int} (h : Ev (fun k => if x13 < x12 then (if 0 ≤ x13 then (if x13 < (x11.length : Int) then ((spec_GoodName.f k (rdOf ByteArray.empty x11 x13)).bind fun t111 => (if t111 = true then (if x13 > 0 then (if 0 ≤ (wrap64 (x13 - 1)) then (if (wrap64 (x13 - 1)) < (x0.length : Int) then (if ((Op.bytesLess ((rdOf ByteArray.empty x0 (wrap64 (x13 - 1))).toList) ((rdOf ByteArray.empty x11 x13).toList)) = true) then (spec_l3Names.l0 k x0 x11 x12 (wrap64 (x13 + 1))) else (some false)) else (none)) else (none)) else (spec_l3Names.l0 k x0 x11 x12 (wrap64 (x13 + 1)))) else (some false))) else (none)) else (none)) else (some true)) r) : Ev (fun k => spec_l3Names.l0 k x0 x11 x12 x13) r := Ev.step (fun k => by rw [spec_l3Names.l0]) h
theorem st_spec_l21At_l0 {r : (Int)} {x1 : ByteArray} {x7 : List (S63)} {x8 : Int} {x9 : Int} (h : Ev (fun k => if x9 < x8 then (if 0 ≤ x9 then (if x9 < (x7.length : Int) then (if ((rd_T63 x7 x9).f0).toList = x1.toList then (some x9) else (spec_l21At.l0 k x1 x7 x8 (wrap64 (x9 + 1)))) else (none)) else (none)) else (some (-1))) r) : Ev (fun k => spec_l21At.l0 k x1 x7 x8 x9) r := Ev.step (fun k => by rw [spec_l21At.l0]) h
theorem st_spec_l1Has_l0 {r : (Bool)} {x1 : ByteArray} {x7 : List ByteArray} {x8 : Int} {x9 : Int} (h : Ev (fun k => if x9 < x8 then (if 0 ≤ x9 then (if x9 < (x7.length : Int) then (if (rdOf ByteArray.empty x7 x9).toList = x1.toList then (some true) else (spec_l1Has.l0 k x1 x7 x8 (wrap64 (x9 + 1)))) else (none)) else (none)) else (some false)) r) : Ev (fun k => spec_l1Has.l0 k x1 x7 x8 x9) r := Ev.step (fun k => by rw [spec_l1Has.l0]) h
theorem st_spec_l21Order_l0 {r : (List ByteArray)} {x0 : List (S63)} {x3 : List ByteArray} (h : Ev (fun k => spec_l21Order.l1 k x0 x3 false x0 (x0.length : Int) 0) r) : Ev (fun k => spec_l21Order.l0 k x0 x3) r := Ev.step (fun k => by rw [spec_l21Order.l0]) h
theorem st_spec_l21Order_l1 {r : (List ByteArray)} {x0 : List (S63)} {x3 : List ByteArray} {x4 : Bool} {x10 : List (S63)} {x11 : Int} {x12 : Int} (h : Ev (fun k => if x12 < x11 then (if 0 ≤ x12 then (if x12 < (x10.length : Int) then ((spec_l1Has.f k x3 ((rd_T63 x10 x12).f0)).bind fun t118 => (spec_l21Order.l2 k x0 x3 x4 (!t118) x10 x11 x12 ((rd_T63 x10 x12).f1) (((rd_T63 x10 x12).f1).length : Int) 0 ((rd_T63 x10 x12).f0) ((rd_T63 x10 x12).f1) ((rd_T63 x10 x12).f2))) else (none)) else (none)) else (if x4 = true then (spec_l21Order.l0 k x0 x3) else (some x3))) r) : Ev (fun k => spec_l21Order.l1 k x0 x3 x4 x10 x11 x12) r := Ev.step (fun k => by rw [spec_l21Order.l1]) h
theorem st_spec_l21Order_l2 {r : (List ByteArray)} {x0 : List (S63)} {x3 : List ByteArray} {x4 : Bool} {x7 : Bool} {x10 : List (S63)} {x11 : Int} {x12 : Int} {x22 : List ByteArray} {x23 : Int} {x24 : Int} {x118000 : ByteArray} {x118001 : List ByteArray} {x118002 : List Int} (h : Ev (fun k => if x24 < x23 then (if 0 ≤ x24 then (if x24 < (x22.length : Int) then (if x7 = true then ((spec_l1Has.f k x3 (rdOf ByteArray.empty x22 x24)).bind fun t120 => (spec_l21Order.l2 k x0 x3 x4 t120 x10 x11 x12 x22 x23 (wrap64 (x24 + 1)) x118000 x118001 x118002)) else (spec_l21Order.l2 k x0 x3 x4 false x10 x11 x12 x22 x23 (wrap64 (x24 + 1)) x118000 x118001 x118002)) else (none)) else (none)) else (if x7 = true then (if x3.length < 8796093022208 then (spec_l21Order.l0 k x0 (x3 ++ [x118000])) else (none)) else (spec_l21Order.l1 k x0 x3 x4 x10 x11 (wrap64 (x12 + 1))))) r) : Ev (fun k => spec_l21Order.l2 k x0 x3 x4 x7 x10 x11 x12 x22 x23 x24 x118000 x118001 x118002) r := Ev.step (fun k => by rw [spec_l21Order.l2]) h
theorem st_spec_GoodAssets_l0 {r : (Bool)} {x0 : List (S63)} {x10 : List (S63)} {x11 : Int} {x12 : Int} (h : Ev (fun k => if x12 < x11 then (if 0 ≤ x12 then (if x12 < (x10.length : Int) then ((spec_GoodName.f k ((rd_T63 x10 x12).f0)).bind fun t129 => (if t129 = true then (if x12 > 0 then (if 0 ≤ (wrap64 (x12 - 1)) then (if (wrap64 (x12 - 1)) < (x0.length : Int) then (if ((Op.bytesLess (((rd_T63 x0 (wrap64 (x12 - 1))).f0).toList) (((rd_T63 x10 x12).f0).toList)) = true) then ((spec_l3Names.f k ((rd_T63 x10 x12).f1) 10).bind fun t131 => (if t131 = true then (spec_GoodAssets.j1 k x0 x10 x11 x12 (decide ((((rd_T63 x10 x12).f2).length : Int) > 400)) ((rd_T63 x10 x12).f0) ((rd_T63 x10 x12).f1) ((rd_T63 x10 x12).f2)) else (spec_GoodAssets.j1 k x0 x10 x11 x12 true ((rd_T63 x10 x12).f0) ((rd_T63 x10 x12).f1) ((rd_T63 x10 x12).f2)))) else (spec_GoodAssets.j1 k x0 x10 x11 x12 true ((rd_T63 x10 x12).f0) ((rd_T63 x10 x12).f1) ((rd_T63 x10 x12).f2))) else (none)) else (none)) else ((spec_l3Names.f k ((rd_T63 x10 x12).f1) 10).bind fun t132 => (if t132 = true then (spec_GoodAssets.j1 k x0 x10 x11 x12 (decide ((((rd_T63 x10 x12).f2).length : Int) > 400)) ((rd_T63 x10 x12).f0) ((rd_T63 x10 x12).f1) ((rd_T63 x10 x12).f2)) else (spec_GoodAssets.j1 k x0 x10 x11 x12 true ((rd_T63 x10 x12).f0) ((rd_T63 x10 x12).f1) ((rd_T63 x10 x12).f2))))) else (spec_GoodAssets.j1 k x0 x10 x11 x12 true ((rd_T63 x10 x12).f0) ((rd_T63 x10 x12).f1) ((rd_T63 x10 x12).f2)))) else (none)) else (none)) else ((spec_l21Order.f k x0).bind fun t124 => (some ((t124.length : Int) == (x0.length : Int))))) r) : Ev (fun k => spec_GoodAssets.l0 k x0 x10 x11 x12) r := Ev.step (fun k => by rw [spec_GoodAssets.l0]) h
theorem st_spec_GoodAssets_j1 {r : (Bool)} {x0 : List (S63)} {x10 : List (S63)} {x11 : Int} {x12 : Int} {x47 : Bool} {x129000 : ByteArray} {x129001 : List ByteArray} {x129002 : List Int} (h : Ev (fun k => if x47 = true then (some false) else (spec_GoodAssets.l1 k x0 x10 x11 x12 x129001 (x129001.length : Int) 0)) r) : Ev (fun k => spec_GoodAssets.j1 k x0 x10 x11 x12 x47 x129000 x129001 x129002) r := Ev.step (fun k => by rw [spec_GoodAssets.j1]) h
theorem st_spec_GoodAssets_l1 {r : (Bool)} {x0 : List (S63)} {x10 : List (S63)} {x11 : Int} {x12 : Int} {x49 : List ByteArray} {x50 : Int} {x51 : Int} (h : Ev (fun k => if x51 < x50 then (if 0 ≤ x51 then (if x51 < (x49.length : Int) then ((spec_l21At.f k x0 (rdOf ByteArray.empty x49 x51)).bind fun t134 => (if t134 < 0 then (some false) else (spec_GoodAssets.l1 k x0 x10 x11 x12 x49 x50 (wrap64 (x51 + 1))))) else (none)) else (none)) else (spec_GoodAssets.l0 k x0 x10 x11 (wrap64 (x12 + 1)))) r) : Ev (fun k => spec_GoodAssets.l1 k x0 x10 x11 x12 x49 x50 x51) r := Ev.step (fun k => by rw [spec_GoodAssets.l1]) h
theorem st_impl_GoodName_l0 {r : (Bool)} {x0 : ByteArray} {x5 : Int} {x6 : Int} (h : Ev (fun k => if x6 < x5 then (if 0 ≤ x6 then (if x6 < (x0.size : Int) then ((impl_isLetter.f (bt x0 x6)).bind fun t167 => (if t167 = true then (impl_GoodName.l0 k x0 x5 (wrap64 (x6 + 1))) else (if (bt x0 x6) = 95 then (impl_GoodName.l0 k x0 x5 (wrap64 (x6 + 1))) else (if x6 = 0 then (some false) else ((impl_isDigit.f (bt x0 x6)).bind fun t168 => (if t168 = true then (impl_GoodName.l0 k x0 x5 (wrap64 (x6 + 1))) else (some false))))))) else (none)) else (none)) else ((impl_inRange.f (x0.size : Int) 1 20).bind fun t166 => (some t166))) r) : Ev (fun k => impl_GoodName.l0 k x0 x5 x6) r := Ev.step (fun k => by rw [impl_GoodName.l0]) h
theorem st_impl_areNames_l0 {r : (Bool)} {x0 : List ByteArray} {x5 : List ByteArray} {x6 : Int} {x7 : Int} (h : Ev (fun k => if x7 < x6 then (if 0 ≤ x7 then (if x7 < (x5.length : Int) then ((impl_GoodName.f k (rdOf ByteArray.empty x5 x7)).bind fun t170 => (if t170 = true then (if x7 > 0 then (if 0 ≤ (wrap64 (x7 - 1)) then (if (wrap64 (x7 - 1)) < (x0.length : Int) then (if ((Op.bytesLess ((rdOf ByteArray.empty x0 (wrap64 (x7 - 1))).toList) ((rdOf ByteArray.empty x5 x7).toList)) = true) then (impl_areNames.l0 k x0 x5 x6 (wrap64 (x7 + 1))) else (some false)) else (none)) else (none)) else (impl_areNames.l0 k x0 x5 x6 (wrap64 (x7 + 1)))) else (some false))) else (none)) else (none)) else (some true)) r) : Ev (fun k => impl_areNames.l0 k x0 x5 x6 x7) r := Ev.step (fun k => by rw [impl_areNames.l0]) h
theorem st_slices_Index_string_string_l0 {r : (Int)} {x0 : List ByteArray} {x1 : ByteArray} {x7 : Int} {x8 : Int} (h : Ev (fun k => if x8 < x7 then (if 0 ≤ x8 then (if x8 < (x0.length : Int) then (if x1.toList = (rdOf ByteArray.empty x0 x8).toList then (some x8) else (slices_Index_string_string.l0 k x0 x1 x7 (wrap64 (x8 + 1)))) else (none)) else (none)) else (some (-1))) r) : Ev (fun k => slices_Index_string_string.l0 k x0 x1 x7 x8) r := Ev.step (fun k => by rw [slices_Index_string_string.l0]) h
theorem st_impl_makeOrder_l0 {r : (List ByteArray)} {x0 : List (S63)} {x193000 : List ByteArray} (h : Ev (fun k => (slices_IndexFunc_w78.f k x0 x193000).bind fun t193 => (if t193 < 0 then (some x193000) else (if 0 ≤ t193 then (if t193 < (x0.length : Int) then (if x193000.length < 8796093022208 then (impl_makeOrder.l0 k x0 (x193000 ++ [(rd_T63 x0 t193).f0])) else (none)) else (none)) else (none)))) r) : Ev (fun k => impl_makeOrder.l0 k x0 x193000) r := Ev.step (fun k => by rw [impl_makeOrder.l0]) h
theorem st_impl_GoodAssets_l0 {r : (Bool)} {x5 : List (S63)} {x6 : Int} {x7 : Int} {x202000 : List (S63)} (h : Ev (fun k => if x7 < x6 then (if 0 ≤ x7 then (if x7 < (x5.length : Int) then ((impl_GoodName.f k ((rd_T63 x5 x7).f0)).bind fun t207 => (if t207 = true then (if x7 > 0 then (if 0 ≤ (wrap64 (x7 - 1)) then (if (wrap64 (x7 - 1)) < (x202000.length : Int) then (if ((Op.bytesLess (((rd_T63 x202000 (wrap64 (x7 - 1))).f0).toList) (((rd_T63 x5 x7).f0).toList)) = true) then ((impl_areNames.f k ((rd_T63 x5 x7).f1)).bind fun t209 => (if t209 = true then (if (((rd_T63 x5 x7).f1).length : Int) > 10 then (impl_GoodAssets.j1 k x5 x6 x7 true x202000 ((rd_T63 x5 x7).f0) ((rd_T63 x5 x7).f1) ((rd_T63 x5 x7).f2)) else (impl_GoodAssets.j1 k x5 x6 x7 (decide ((((rd_T63 x5 x7).f2).length : Int) > 400)) x202000 ((rd_T63 x5 x7).f0) ((rd_T63 x5 x7).f1) ((rd_T63 x5 x7).f2))) else (impl_GoodAssets.j1 k x5 x6 x7 true x202000 ((rd_T63 x5 x7).f0) ((rd_T63 x5 x7).f1) ((rd_T63 x5 x7).f2)))) else (impl_GoodAssets.j1 k x5 x6 x7 true x202000 ((rd_T63 x5 x7).f0) ((rd_T63 x5 x7).f1) ((rd_T63 x5 x7).f2))) else (none)) else (none)) else ((impl_areNames.f k ((rd_T63 x5 x7).f1)).bind fun t210 => (if t210 = true then (if (((rd_T63 x5 x7).f1).length : Int) > 10 then (impl_GoodAssets.j1 k x5 x6 x7 true x202000 ((rd_T63 x5 x7).f0) ((rd_T63 x5 x7).f1) ((rd_T63 x5 x7).f2)) else (impl_GoodAssets.j1 k x5 x6 x7 (decide ((((rd_T63 x5 x7).f2).length : Int) > 400)) x202000 ((rd_T63 x5 x7).f0) ((rd_T63 x5 x7).f1) ((rd_T63 x5 x7).f2))) else (impl_GoodAssets.j1 k x5 x6 x7 true x202000 ((rd_T63 x5 x7).f0) ((rd_T63 x5 x7).f1) ((rd_T63 x5 x7).f2))))) else (impl_GoodAssets.j1 k x5 x6 x7 true x202000 ((rd_T63 x5 x7).f0) ((rd_T63 x5 x7).f1) ((rd_T63 x5 x7).f2)))) else (none)) else (none)) else (if (x202000.length : Int) ≤ 30 then ((impl_makeOrder.f k x202000).bind fun t202 => (some ((t202.length : Int) == (x202000.length : Int)))) else (some false))) r) : Ev (fun k => impl_GoodAssets.l0 k x5 x6 x7 x202000) r := Ev.step (fun k => by rw [impl_GoodAssets.l0]) h
theorem st_impl_GoodAssets_j1 {r : (Bool)} {x5 : List (S63)} {x6 : Int} {x7 : Int} {x48 : Bool} {x202000 : List (S63)} {x207000 : ByteArray} {x207001 : List ByteArray} {x207002 : List Int} (h : Ev (fun k => if x48 = true then (some false) else ((slices_ContainsFunc_w37.f k x207001 x202000).bind fun t211 => (if t211 = true then (some false) else (impl_GoodAssets.l0 k x5 x6 (wrap64 (x7 + 1)) x202000)))) r) : Ev (fun k => impl_GoodAssets.j1 k x5 x6 x7 x48 x202000 x207000 x207001 x207002) r := Ev.step (fun k => by rw [impl_GoodAssets.j1]) h
theorem inr_some (a b c : Int) : impl_inRange.f a b c = some (decide (b ≤ a ∧ a ≤ c)) := by
  unfold impl_inRange.f
  split <;> simp_all <;> omega
def nameChar (c : Int) : Bool := decide (97 ≤ c ∧ c ≤ 122) || decide (65 ≤ c ∧ c ≤ 90) || decide (c = 95)
def digitChar (c : Int) : Bool := decide (48 ≤ c ∧ c ≤ 57)
def CharOk (s : ByteArray) (i : Nat) : Prop := nameChar (bt s (i : Int)) = true ∨ 0 < i ∧ digitChar (bt s (i : Int)) = true
def NameOk (s : ByteArray) : Prop := (1 ≤ s.size ∧ s.size ≤ 20) ∧ ∀ i, i < s.size → CharOk s i
theorem letter_spec (c : Int) : spec_l1Letter.f c = some (nameChar c) := by
  unfold spec_l1Letter.f nameChar
  repeat' split
  all_goals (congr 1; rw [Bool.eq_iff_iff]; simp; try omega)
theorem digit_spec (c : Int) : spec_l1Digit.f c = some (digitChar c) := by
  unfold spec_l1Digit.f digitChar
  repeat' split
  all_goals (congr 1; rw [Bool.eq_iff_iff]; simp; try omega)
theorem digit_impl (c : Int) : impl_isDigit.f c = some (digitChar c) := by
  unfold impl_isDigit.f digitChar
  repeat' split
  all_goals (congr 1; rw [Bool.eq_iff_iff]; simp; try omega)
theorem letter_impl (c : Int) : ∃ b, impl_isLetter.f c = some b ∧ (nameChar c = true ↔ b = true ∨ c = 95) := by
  unfold impl_isLetter.f nameChar
  repeat' split
  all_goals (refine ⟨_, rfl, ?_⟩; simp; try omega)
theorem name_impl (s : ByteArray) (hs : s.size ≤ 140737488351232) (b : Bool) (hb : b = true ↔ NameOk s) : Ev (fun k => impl_GoodName.f k s) b := by
  refine ev_all s.size (fun k i => impl_GoodName.l0 k s (s.size : Int) (i : Int)) (CharOk s) (decide (1 ≤ (s.size : Int) ∧ (s.size : Int) ≤ 20)) b ?_ ?_ ?_ ?_
  · rw [hb]; unfold NameOk; simp; omega
  · exact st_impl_GoodName_l0 (ev_neg (by omega) (ev_bindc (inr_some _ _ _) (ev_some rfl)))
  · intro i hi _ ho r hr
    refine st_impl_GoodName_l0 (ev_pos (by omega) (ev_pos (by omega) (ev_pos (by omega) ?_)))
    obtain ⟨q, hq, hn⟩ := letter_impl (bt s (i : Int))
    rw [w64s i (by omega)]
    refine ev_bindc hq (ev_ite (fun _ => hr) fun h1 => ev_ite (fun _ => hr) fun h2 => ?_)
    rcases ho with ho | ⟨ho, hd⟩
    · rcases hn.1 ho with h | h
      · exact absurd h h1
      · exact absurd h h2
    · exact ev_neg (by omega) (ev_bindc (digit_impl _) (ev_pos hd hr))
  · intro i hi _ ho
    refine st_impl_GoodName_l0 (ev_pos (by omega) (ev_pos (by omega) (ev_pos (by omega) ?_)))
    obtain ⟨q, hq, hn⟩ := letter_impl (bt s (i : Int))
    refine ev_bindc hq (ev_ite (fun h => absurd (.inl (hn.2 (.inl h))) ho) fun h1 => ev_ite (fun h => absurd (.inl (hn.2 (.inr h))) ho) fun h2 => ev_ite (fun _ => ev_some rfl) fun h3 => ?_)
    exact ev_bindc (digit_impl _) (ev_neg (fun h => ho (.inr ⟨by omega, h⟩)) (ev_some rfl))
theorem name_spec (s : ByteArray) (b : Bool) (hb : b = true ↔ NameOk s) : Ev (fun k => spec_GoodName.f k s) b := by
  have j0t : Ev (fun k => spec_GoodName.j0 k s true) false := st_spec_GoodName_j0 (ev_pos rfl (ev_some rfl))
  by_cases h1 : (s.size : Int) < 1
  · rw [bool_false hb (fun h => by have := h.1; omega)]
    exact ev_pos h1 j0t
  · by_cases h2 : (s.size : Int) > 20
    · rw [bool_false hb (fun h => by have := h.1; omega)]
      exact ev_neg h1 (ev_pos h2 j0t)
    · refine ev_neg h1 (ev_neg h2 (ev_pos (by omega) (ev_bindc (digit_spec _) ?_)))
      cases hd : digitChar (bt s 0) with
      | true =>
        rw [bool_false hb (fun h => by
          have h0 : CharOk s 0 := h.2 0 (by omega)
          rcases h0 with h0 | h0
          · have h0 : nameChar (bt s 0) = true := h0
            generalize bt s 0 = c at hd h0
            simp [nameChar, digitChar] at hd h0; omega
          · omega)]
        exact j0t
      | false =>
        refine st_spec_GoodName_j0 (ev_neg (by decide) ?_)
        refine ev_all s.size (fun k i => spec_GoodName.l0 k s (i : Int)) (CharOk s) true b ?_ ?_ ?_ ?_
        · rw [hb]; unfold NameOk; constructor
          · exact fun h => ⟨rfl, h.2⟩
          · exact fun h => ⟨by omega, h.2⟩
        · exact st_spec_GoodName_l0 (ev_neg (by omega) (ev_some rfl))
        · intro i hi _ ho r hr
          refine st_spec_GoodName_l0 (ev_pos (by omega) (ev_pos (by omega) (ev_bindc (letter_spec _) (ev_ite (fun _ => by rw [w64s i (by omega)]; exact hr) fun hl => ev_bindc (digit_spec _) ?_))))
          rcases ho with ho | ⟨_, ho⟩
          · exact absurd ho hl
          · refine ev_pos ho ?_
            rw [w64s i (by omega)]; exact hr
        · intro i hi _ ho
          refine st_spec_GoodName_l0 (ev_pos (by omega) (ev_pos (by omega) (ev_bindc (letter_spec _) (ev_neg (fun h => ho (.inl h)) (ev_bindc (digit_spec _) (ev_neg (fun h => ho ?_) (ev_some rfl)))))))
          rcases Nat.eq_zero_or_pos i with rfl | hp
          · have h' : digitChar (bt s 0) = true := h
            rw [hd] at h'; cases h'
          · exact .inr ⟨hp, h⟩
theorem szStringS_some (xs : List ByteArray) (g : xs.length * 16 ≤ 140737488351232 ∧ ∀ y ∈ xs, y.size ≤ 140737488351232) (left : Int) (h0 : 0 ≤ left) (h1 : left ≤ 1048576) : ∃ r, Ev (fun k => laws_szStringS.f k xs left) r ∧ (r < 0 ∨ 0 ≤ r ∧ r ≤ left ∧ (xs.length ≤ 1048576 ∧ ∀ y ∈ xs, y.size ≤ 1048576)) := by
  have g1 := g.1
  unfold laws_szStringS.f
  rw [w64 (n := left - (xs.length : Int)) (by omega) (by omega)]
  refine exev_ite (fun _ => exev_some (.inl (by omega))) fun hc => ?_
  have he : ∀ i : Nat, ∀ hi : i < xs.length, ∀ c : Int, 0 ≤ c → c ≤ left - (xs.length : Int) → ∃ r, Ev (fun k => some (wrap64 (c - ((rdOf ByteArray.empty xs (i : Int)).size : Int)))) r ∧ (r < 0 ∨ 0 ≤ r ∧ r ≤ c ∧ xs[i].size ≤ 1048576) := by
    intro i hi c h0 h1
    have e : rdOf ByteArray.empty xs (i : Int) = xs[i] := rdOf_get hi
    have gx := g.2 _ (List.getElem_mem hi)
    have ew : wrap64 (c - (xs[i].size : Int)) = c - (xs[i].size : Int) := w64 (by omega) (by omega)
    rw [e, ew]
    exact ⟨_, ev_some rfl, by by_cases hn : c - (xs[i].size : Int) < 0; exact .inl hn; exact .inr ⟨by omega, by omega, by omega⟩⟩
  obtain ⟨r, hr, hq⟩ := ev_size laws_szStringS.l0 (fun _ xs c i => some (wrap64 (c - ((rdOf ByteArray.empty xs i).size : Int)))) (fun y => y.size ≤ 1048576) (fun _ _ _ _ => rfl) xs (by omega) (left - (xs.length : Int)) (by omega) he
  refine ⟨r, hr, ?_⟩
  rcases hq with hq | ⟨q0, q1, q2⟩
  · exact .inl hq
  · exact .inr ⟨q0, by omega, by omega, q2⟩
theorem szByteS_some (xs : List Int) (g : xs.length * 1 ≤ 140737488351232 ∧ ∀ y ∈ xs, InU8 y) (left : Int) (h0 : 0 ≤ left) (h1 : left ≤ 1048576) : ∃ r, Ev (fun _ => laws_szByteS.f xs left) r ∧ (r < 0 ∨ 0 ≤ r ∧ r ≤ left ∧ xs.length ≤ 1048576) := by
  have g1 := g.1
  unfold laws_szByteS.f
  rw [w64 (n := left - (xs.length : Int)) (by omega) (by omega)]
  refine exev_ite (fun _ => exev_some (.inl (by omega))) fun hc => ?_
  exact exev_some (.inr ⟨by omega, by omega, by omega⟩)
def Fit62 (x : S62) : Prop := (x.f0.size ≤ 1048576) ∧ ((x.f1.length ≤ 1048576 ∧ ∀ y ∈ x.f1, y.size ≤ 1048576)) ∧ (x.f2.length ≤ 1048576)
theorem szAsset_some (a0 : ByteArray) (l1 : List ByteArray) (l2 : List Int) (ga0 : a0.size ≤ 140737488351232) (gl1 : l1.length * 16 ≤ 140737488351232 ∧ ∀ y ∈ l1, y.size ≤ 140737488351232) (gl2 : l2.length * 1 ≤ 140737488351232 ∧ ∀ y ∈ l2, InU8 y) (left : Int) (h0 : 0 ≤ left) (h1 : left ≤ 1048576) : ∃ r, Ev (fun k => laws_szAsset.f k a0 l1 l2 left) r ∧ (r < 0 ∨ 0 ≤ r ∧ r ≤ left ∧ (a0.size ≤ 1048576) ∧ ((l1.length ≤ 1048576 ∧ ∀ y ∈ l1, y.size ≤ 1048576)) ∧ (l2.length ≤ 1048576)) := by
  unfold laws_szAsset.f
  have e0 : wrap64 (left - (a0.size : Int)) = left - (a0.size : Int) := w64 (by omega) (by omega)
  rw [e0]
  refine exev_ite (fun _ => exev_some (.inl (by omega))) fun c0 => ?_
  obtain ⟨r1, hr1, hq1⟩ := szStringS_some l1 gl1 ((left - (a0.size : Int))) (by omega) (by omega)
  refine exev_bind hr1 (exev_ite (fun _ => exev_some (.inl (by omega))) fun c1 => ?_)
  rcases hq1 with hq1 | ⟨u1, v1, w1⟩
  · omega
  obtain ⟨r2, hr2, hq2⟩ := szByteS_some l2 gl2 (r1) (by omega) (by omega)
  refine exev_bind hr2 (exev_ite (fun _ => exev_some (.inl (by omega))) fun c2 => ?_)
  rcases hq2 with hq2 | ⟨u2, v2, w2⟩
  · omega
  exact exev_some (.inr ⟨by omega, by omega, (by omega), w1, w2⟩)
theorem szAssetS_some (xs : List S62) (g : xs.length * 64 ≤ 140737488351232 ∧ ∀ y ∈ xs, Ok62 y) (left : Int) (h0 : 0 ≤ left) (h1 : left ≤ 1048576) : ∃ r, Ev (fun k => laws_szAssetS.f k xs left) r ∧ (r < 0 ∨ 0 ≤ r ∧ r ≤ left ∧ (xs.length ≤ 1048576 ∧ ∀ y ∈ xs, Fit62 y)) := by
  have g1 := g.1
  unfold laws_szAssetS.f
  rw [w64 (n := left - (xs.length : Int)) (by omega) (by omega)]
  refine exev_ite (fun _ => exev_some (.inl (by omega))) fun hc => ?_
  have he : ∀ i : Nat, ∀ hi : i < xs.length, ∀ c : Int, 0 ≤ c → c ≤ left - (xs.length : Int) → ∃ r, Ev (fun k => laws_szAsset.f k ((rd_T62 xs (i : Int)).f0) ((rd_T62 xs (i : Int)).f1) ((rd_T62 xs (i : Int)).f2) c) r ∧ (r < 0 ∨ 0 ≤ r ∧ r ≤ c ∧ Fit62 xs[i]) := by
    intro i hi c h0 h1
    have e : rd_T62 xs (i : Int) = xs[i] := getD_get hi
    rw [e]
    have gx := g.2 _ (List.getElem_mem hi)
    obtain ⟨r, hr, hq⟩ := szAsset_some _ _ _ (gx.1) (gx.2.1) (gx.2.2) c h0 (by omega)
    exact ⟨r, hr, hq⟩
  obtain ⟨r, hr, hq⟩ := ev_size laws_szAssetS.l0 (fun k xs c i => laws_szAsset.f k ((rd_T62 xs i).f0) ((rd_T62 xs i).f1) ((rd_T62 xs i).f2) c) (fun y => Fit62 y) (fun _ _ _ _ => rfl) xs (by omega) (left - (xs.length : Int)) (by omega) he
  refine ⟨r, hr, ?_⟩
  rcases hq with hq | ⟨q0, q1, q2⟩
  · exact .inl hq
  · exact .inr ⟨q0, by omega, by omega, q2⟩
theorem toStringS_ev (xs : List ByteArray) (h : (xs.length ≤ 1048576 ∧ ∀ y ∈ xs, y.size ≤ 1048576)) : Ev (fun k => laws_toStringS.f k xs) xs := by
  refine ev_pos (by omega) (ev_pos (by omega) ?_)
  have := ev_copy laws_toStringS.l0 (fun _ xs i => some (rdOf ByteArray.empty xs i)) id (fun _ _ _ _ => rfl) xs (by omega) (fun i hi => ev_some (rdOf_get hi)) (List.replicate (((xs.length : Int) : Int).toNat) (⟨#[]⟩ : ByteArray)) (by simp)
  rwa [List.map_id] at this
theorem toByteS_ev (xs : List Int) (h : xs.length ≤ 1048576) : Ev (fun k => laws_toByteS.f k xs) xs := by
  refine ev_pos (by omega) (ev_pos (by omega) ?_)
  have := ev_copy laws_toByteS.l0 (fun _ xs i => some (rd xs i)) id (fun _ _ _ _ => rfl) xs (by omega) (fun i hi => ev_some (rd_get hi)) (List.replicate (((xs.length : Int) : Int).toNat) 0) (by simp)
  rwa [List.map_id] at this
def cv62 (x : S62) : S63 := ⟨x.f0, x.f1, x.f2⟩
def Fit63 (x : S63) : Prop := (x.f0.size ≤ 1048576) ∧ ((x.f1.length ≤ 1048576 ∧ ∀ y ∈ x.f1, y.size ≤ 1048576)) ∧ (x.f2.length ≤ 1048576)
theorem fit_cv62 {x : S62} (h : Fit62 x) : Fit63 (cv62 x) := by
  obtain ⟨h0, h1, h2⟩ := h
  exact ⟨h0, h1, h2⟩
theorem toAsset_ev (a0 : ByteArray) (l1 : List ByteArray) (l2 : List Int) (ha0 : a0.size ≤ 1048576) (hl1 : (l1.length ≤ 1048576 ∧ ∀ y ∈ l1, y.size ≤ 1048576)) (hl2 : l2.length ≤ 1048576) : Ev (fun k => laws_toAsset.f k a0 l1 l2) (a0, l1, l2) := by
  unfold laws_toAsset.f
  repeat (first | exact ev_some rfl | refine Ev.bind (toStringS_ev _ hl1) ?_ | refine Ev.bind (toByteS_ev _ hl2) ?_ | refine ev_bindc rfl ?_)
theorem toAssetS_ev (xs : List S62) (h : (xs.length ≤ 1048576 ∧ ∀ y ∈ xs, Fit62 y)) : Ev (fun k => laws_toAssetS.f k xs) (xs.map cv62) := by
  refine ev_pos (by omega) (ev_pos (by have := h.1; omega) ?_)
  refine ev_copy2 laws_toAssetS.l0 (fun k xs i => laws_toAsset.f k ((rd_T62 xs i).f0) ((rd_T62 xs i).f1) ((rd_T62 xs i).f2)) (fun t => (⟨t.1, t.2.1, t.2.2⟩ : S63)) cv62 (fun _ _ _ _ => rfl) xs (by have := h.1; omega) (fun i hi => ?_) _ (by simp)
  · have e : rd_T62 xs (i : Int) = xs[i] := getD_get hi
    rw [e]
    obtain ⟨hf0, hf1, hf2⟩ := h.2 _ (List.getElem_mem hi)
    exact ⟨_, toAsset_ev _ _ _ hf0 hf1 hf2, rfl⟩
theorem eqStringS_ev (xs : List ByteArray) (h : (xs.length ≤ 1048576 ∧ ∀ y ∈ xs, y.size ≤ 1048576)) : Ev (fun k => laws_eqStringS.f k xs xs) true := by
  refine ev_pos rfl ?_
  refine ev_for1 xs.length (fun k i (_ : Unit) => laws_eqStringS.l0 k xs xs (i : Int)) (fun _ _ => True) true ?_ ?_ 0 () (Nat.zero_le _) trivial
  · intro _ _
    exact Ev.step (fun _ => rfl) (ev_neg (by omega) (ev_some rfl))
  · intro i _ hi _
    refine .inr ⟨(), trivial, fun r hr => Ev.step (fun _ => rfl) (ev_pos (by omega) (ev_pos (by omega) (ev_pos (by omega) ?_)))⟩
    rw [w64s i (by have := h.1; omega)]
    exact ev_pos rfl hr
theorem eqByteS_ev (xs : List Int) (h : xs.length ≤ 1048576) : Ev (fun k => laws_eqByteS.f k xs xs) true := by
  refine ev_pos rfl ?_
  refine ev_for1 xs.length (fun k i (_ : Unit) => laws_eqByteS.l0 k xs xs (i : Int)) (fun _ _ => True) true ?_ ?_ 0 () (Nat.zero_le _) trivial
  · intro _ _
    exact Ev.step (fun _ => rfl) (ev_neg (by omega) (ev_some rfl))
  · intro i _ hi _
    refine .inr ⟨(), trivial, fun r hr => Ev.step (fun _ => rfl) (ev_pos (by omega) (ev_pos (by omega) (ev_pos (by omega) ?_)))⟩
    rw [w64s i (by have := h; omega)]
    exact ev_pos rfl hr
theorem eqAsset_ev (a0 : ByteArray) (l1 : List ByteArray) (l2 : List Int) (ha0 : a0.size ≤ 1048576) (hl1 : (l1.length ≤ 1048576 ∧ ∀ y ∈ l1, y.size ≤ 1048576)) (hl2 : l2.length ≤ 1048576) : Ev (fun k => laws_eqAsset.f k a0 l1 l2 a0 l1 l2) true := by
  unfold laws_eqAsset.f
  repeat (first | exact ev_some rfl | refine Ev.bind (eqStringS_ev l1 hl1) ?_ | refine Ev.bind (eqByteS_ev l2 hl2) ?_ | refine ev_pos rfl ?_ | refine ev_neg (by simp) ?_)
theorem eqAssetS_ev (xs : List S63) (h : (xs.length ≤ 1048576 ∧ ∀ y ∈ xs, Fit63 y)) : Ev (fun k => laws_eqAssetS.f k xs xs) true := by
  refine ev_pos rfl (ev_alike_self laws_eqAssetS.l0 (fun k xs ys i => laws_eqAsset.f k ((rd_T63 xs i).f0) ((rd_T63 xs i).f1) ((rd_T63 xs i).f2) ((rd_T63 ys i).f0) ((rd_T63 ys i).f1) ((rd_T63 ys i).f2)) (fun _ _ _ _ => rfl) xs (by have := h.1; omega) (fun i hi => ?_))
  · have e : rd_T63 xs (i : Int) = xs[i] := getD_get hi
    rw [e]
    obtain ⟨hf0, hf1, hf2⟩ := h.2 _ (List.getElem_mem hi)
    exact eqAsset_ev _ _ _ hf0 hf1 hf2
def NamesOk (l : List ByteArray) : Prop := ∀ i, i < l.length → NameOk (rdOf ByteArray.empty l (i : Int)) ∧ (0 < i → Op.bytesLess (rdOf ByteArray.empty l ((i : Int) - 1)).toList (rdOf ByteArray.empty l (i : Int)).toList = true)
theorem names_spec (l : List ByteArray) (hl : l.length ≤ 1048576) (b : Bool) (hb : b = true ↔ l.length ≤ 10 ∧ NamesOk l) : Ev (fun k => spec_l3Names.f k l 10) b := by
  refine ev_ite (fun h => ev_some (bool_false hb (fun h' => by have := h'.1; omega)).symm) fun h => ?_
  refine ev_all l.length (fun k i => spec_l3Names.l0 k l l (l.length : Int) (i : Int)) (fun i => NameOk (rdOf ByteArray.empty l (i : Int)) ∧ (0 < i → Op.bytesLess (rdOf ByteArray.empty l ((i : Int) - 1)).toList (rdOf ByteArray.empty l (i : Int)).toList = true)) true b ?_ ?_ ?_ ?_
  · rw [hb]; unfold NamesOk; constructor
    · exact fun h => ⟨rfl, h.2⟩
    · exact fun h' => ⟨by omega, h'.2⟩
  · exact st_spec_l3Names_l0 (ev_neg (by omega) (ev_some rfl))
  · intro i hi _ ⟨h0, h1⟩ r hr
    refine st_spec_l3Names_l0 (ev_pos (by omega) (ev_pos (by omega) (ev_pos (by omega) (Ev.bind (name_spec _ true ⟨fun _ => h0, fun _ => rfl⟩) (ev_pos rfl ?_)))))
    rw [w64s i (by omega), w64 (n := (i : Int) - 1) (by omega) (by omega)]
    exact ev_ite (fun hp => ev_pos (by omega) (ev_pos (by omega) (ev_pos (h1 (by omega)) hr))) fun _ => hr
  · intro i hi _ ho
    obtain ⟨c, hc⟩ := bool_of (NameOk (rdOf ByteArray.empty l (i : Int)))
    refine st_spec_l3Names_l0 (ev_pos (by omega) (ev_pos (by omega) (ev_pos (by omega) (Ev.bind (name_spec _ c hc) (ev_ite (fun h0 => ?_) fun _ => ev_some rfl)))))
    rw [w64 (n := (i : Int) - 1) (by omega) (by omega)]
    exact ev_ite (fun hp => ev_pos (by omega) (ev_pos (by omega) (ev_ite (fun h2 => absurd ⟨hc.1 h0, fun _ => h2⟩ ho) fun _ => ev_some rfl))) fun hp => absurd ⟨hc.1 h0, fun h => by omega⟩ ho
theorem names_impl (l : List ByteArray) (hx : l.length ≤ 1048576 ∧ ∀ y ∈ l, y.size ≤ 1048576) (b : Bool) (hb : b = true ↔ NamesOk l) : Ev (fun k => impl_areNames.f k l) b := by
  have hl := hx.1
  have hn : ∀ i : Nat, i < l.length → (rdOf ByteArray.empty l (i : Int)).size ≤ 140737488351232 := by
    intro i hi
    rw [rdOf_get hi]
    have := hx.2 _ (List.getElem_mem hi)
    omega
  refine ev_all l.length (fun k i => impl_areNames.l0 k l l (l.length : Int) (i : Int)) (fun i => NameOk (rdOf ByteArray.empty l (i : Int)) ∧ (0 < i → Op.bytesLess (rdOf ByteArray.empty l ((i : Int) - 1)).toList (rdOf ByteArray.empty l (i : Int)).toList = true)) true b ?_ ?_ ?_ ?_
  · rw [hb]; unfold NamesOk; constructor
    · exact fun h => ⟨rfl, h⟩
    · exact fun h' => h'.2
  · exact st_impl_areNames_l0 (ev_neg (by omega) (ev_some rfl))
  · intro i hi _ ⟨h0, h1⟩ r hr
    refine st_impl_areNames_l0 (ev_pos (by omega) (ev_pos (by omega) (ev_pos (by omega) (Ev.bind (name_impl _ (hn i hi) true ⟨fun _ => h0, fun _ => rfl⟩) (ev_pos rfl ?_)))))
    rw [w64s i (by omega), w64 (n := (i : Int) - 1) (by omega) (by omega)]
    exact ev_ite (fun hp => ev_pos (by omega) (ev_pos (by omega) (ev_pos (h1 (by omega)) hr))) fun _ => hr
  · intro i hi _ ho
    obtain ⟨c, hc⟩ := bool_of (NameOk (rdOf ByteArray.empty l (i : Int)))
    refine st_impl_areNames_l0 (ev_pos (by omega) (ev_pos (by omega) (ev_pos (by omega) (Ev.bind (name_impl _ (hn i hi) c hc) (ev_ite (fun h0 => ?_) fun _ => ev_some rfl)))))
    rw [w64 (n := (i : Int) - 1) (by omega) (by omega)]
    exact ev_ite (fun hp => ev_pos (by omega) (ev_pos (by omega) (ev_ite (fun h2 => absurd ⟨hc.1 h0, fun _ => h2⟩ ho) fun _ => ev_some rfl))) fun hp => absurd ⟨hc.1 h0, fun h => by omega⟩ ho
def hasB (l : List ByteArray) (s : ByteArray) : Bool := l.any fun y => y.toList == s.toList
theorem hasB_iff (l : List ByteArray) (s : ByteArray) : hasB l s = true ↔ ∃ j, j < l.length ∧ (rdOf ByteArray.empty l (j : Int)).toList = s.toList := by
  unfold hasB
  rw [List.any_eq_true]
  constructor
  · rintro ⟨y, hy, h⟩
    obtain ⟨j, hj, rfl⟩ := List.getElem_of_mem hy
    exact ⟨j, hj, by rw [rdOf_get hj]; simpa using h⟩
  · rintro ⟨j, hj, h⟩
    exact ⟨_, List.getElem_mem hj, by rw [rdOf_get hj] at h; simpa using h⟩
theorem hasB_snoc (l : List ByteArray) (x s : ByteArray) : hasB (l ++ [x]) s = (hasB l s || x.toList == s.toList) := by
  simp [hasB, List.any_append]
theorem has_spec (l : List ByteArray) (hl : l.length ≤ 1048576) (s : ByteArray) : Ev (fun k => spec_l1Has.f k l s) (hasB l s) := by
  refine ev_for1 l.length (fun k i (_ : Unit) => spec_l1Has.l0 k s l (l.length : Int) (i : Int)) (fun i _ => ∀ j, j < i → (rdOf ByteArray.empty l (j : Int)).toList ≠ s.toList) _ ?_ ?_ 0 () (Nat.zero_le _) (fun j hj => by omega)
  · intro _ h
    refine st_spec_l1Has_l0 (ev_neg (by omega) (ev_some ?_))
    rw [eq_comm, ← Bool.not_eq_true, hasB_iff]
    rintro ⟨j, hj, e⟩
    exact h j hj e
  · intro i _ hi h
    by_cases e : (rdOf ByteArray.empty l (i : Int)).toList = s.toList
    · refine .inl (st_spec_l1Has_l0 (ev_pos (by omega) (ev_pos (by omega) (ev_pos (by omega) (ev_pos e (ev_some ?_))))))
      rw [eq_comm, hasB_iff]
      exact ⟨i, hi, e⟩
    · refine .inr ⟨(), fun j hj => ?_, fun r hr => st_spec_l1Has_l0 (ev_pos (by omega) (ev_pos (by omega) (ev_pos (by omega) (ev_neg e ?_))))⟩
      · rcases Nat.lt_or_ge j i with h1 | h1
        · exact h j h1
        · obtain rfl : j = i := by omega
          exact e
      · rw [w64s i (by omega)]; exact hr
theorem has_impl (l : List ByteArray) (hl : l.length ≤ 1048576) (s : ByteArray) : Ev (fun k => slices_Contains_string_string.f k l s) (hasB l s) := by
  have key : ∃ r, Ev (fun k => slices_Index_string_string.f k l s) r ∧ (0 ≤ r ↔ hasB l s = true) := by
    refine ev_for l.length (fun k i (_ : Unit) => slices_Index_string_string.l0 k l s (l.length : Int) (i : Int)) (fun i _ => ∀ j, j < i → (rdOf ByteArray.empty l (j : Int)).toList ≠ s.toList) _ ?_ ?_ 0 () (Nat.zero_le _) (fun j hj => by omega)
    · intro _ h
      refine ⟨-1, st_slices_Index_string_string_l0 (ev_neg (by omega) (ev_some rfl)), ?_⟩
      rw [hasB_iff]
      exact ⟨fun h => by omega, fun ⟨j, hj, e⟩ => absurd e (h j hj)⟩
    · intro i _ hi h
      by_cases e : s.toList = (rdOf ByteArray.empty l (i : Int)).toList
      · refine .inl ⟨(i : Int), st_slices_Index_string_string_l0 (ev_pos (by omega) (ev_pos (by omega) (ev_pos (by omega) (ev_pos e (ev_some rfl))))), ?_⟩
        rw [hasB_iff]
        exact ⟨fun _ => ⟨i, hi, e.symm⟩, fun _ => by omega⟩
      · refine .inr ⟨(), fun j hj => ?_, fun r hr => st_slices_Index_string_string_l0 (ev_pos (by omega) (ev_pos (by omega) (ev_pos (by omega) (ev_neg e ?_))))⟩
        · rcases Nat.lt_or_ge j i with h1 | h1
          · exact h j h1
          · obtain rfl : j = i := by omega
            exact fun h => e h.symm
        · rw [w64s i (by omega)]; exact hr
  obtain ⟨r, hr, h⟩ := key
  refine Ev.bind hr (ev_some ?_)
  rw [Bool.eq_iff_iff, decide_eq_true_eq]
  exact h
def Ready (out : List ByteArray) (a : S63) : Prop := ¬ hasB out a.f0 = true ∧ ∀ j, j < a.f1.length → hasB out (rdOf ByteArray.empty a.f1 (j : Int)) = true
def NeedsFit (l : List S63) : Prop := ∀ i : Nat, i < l.length → (rd_T63 l (i : Int)).f1.length ≤ 1048576
def cnt (l : List S63) (out : List ByteArray) : Nat → Nat
  | 0 => 0
  | i + 1 => cnt l out i + (if hasB out (rd_T63 l (i : Int)).f0 = true then 0 else 1)
theorem cnt_le (l : List S63) (out : List ByteArray) : ∀ n, cnt l out n ≤ n
  | 0 => Nat.le_refl _
  | n + 1 => by
    have := cnt_le l out n
    unfold cnt
    split <;> omega
theorem cnt_mono (l : List S63) (out out' : List ByteArray) (h : ∀ s, hasB out s = true → hasB out' s = true) : ∀ n, cnt l out' n ≤ cnt l out n
  | 0 => Nat.le_refl _
  | n + 1 => by
    have := cnt_mono l out out' h n
    unfold cnt
    by_cases h1 : hasB out (rd_T63 l (n : Int)).f0 = true
    · rw [if_pos h1, if_pos (h _ h1)]; omega
    · rw [if_neg h1]; split <;> omega
theorem cnt_lt (l : List S63) (out out' : List ByteArray) (h : ∀ s, hasB out s = true → hasB out' s = true) (i : Nat) (h0 : ¬ hasB out (rd_T63 l (i : Int)).f0 = true) (h1 : hasB out' (rd_T63 l (i : Int)).f0 = true) : ∀ n, i < n → cnt l out' n < cnt l out n
  | 0, hi => by omega
  | n + 1, hi => by
    unfold cnt
    by_cases e : i = n
    · subst e
      have := cnt_mono l out out' h i
      rw [if_neg h0, if_pos h1]; omega
    · have := cnt_lt l out out' h i h0 h1 n (by omega)
      by_cases h2 : hasB out (rd_T63 l (n : Int)).f0 = true
      · rw [if_pos h2, if_pos (h _ h2)]; omega
      · rw [if_neg h2]; split <;> omega
theorem ready_impl (out : List ByteArray) (ho : out.length ≤ 1048576) (a : S63) (ha : a.f1.length ≤ 1048576) (b : Bool) (hb : b = true ↔ Ready out a) : Ev (fun k => impl_makeOrder_1.f k a.f0 a.f1 a.f2 out) b := by
  unfold impl_makeOrder_1.f
  refine Ev.bind (has_impl out ho a.f0) (ev_ite (fun h0 => ev_some (bool_false hb (fun h => h.1 h0)).symm) fun h0 => ?_)
  refine Ev.bind (ev_contains (fun k xs n i => slices_IndexFunc_w80.l0 k xs n i out) (fun k xs i => impl_makeOrder_1_1.f k (rdOf ByteArray.empty xs i) out) (fun _ _ _ _ => rfl) a.f1 (by omega) (fun j => !hasB out (rdOf ByteArray.empty a.f1 (j : Int))) (fun j _ => Ev.bind (has_impl out ho _) (ev_some rfl)) (!b) ?_) (ev_some (by simp))
  cases b with
  | true =>
    have hr := hb.1 rfl
    simp only [Bool.not_true, Bool.not_eq_true', false_iff, not_exists, not_and, Bool.false_eq_true]
    intro j hj
    rw [hr.2 j hj]; decide
  | false =>
    simp only [Bool.not_false, true_iff]
    rcases Classical.em (∃ j, j < a.f1.length ∧ (!hasB out (rdOf ByteArray.empty a.f1 (j : Int))) = true) with h | h
    · exact h
    · refine absurd (hb.2 ⟨h0, fun j hj => ?_⟩) (by decide)
      cases e : hasB out (rdOf ByteArray.empty a.f1 (j : Int)) with
      | true => rfl
      | false => exact absurd ⟨j, hj, by rw [e]; rfl⟩ h
theorem inner_spec (l : List S63) (out : List ByteArray) (ho : out.length ≤ 1048576) (i : Nat) (hi : i < 1048576) (a : S63) (ha : a.f1.length ≤ 1048576) (r : List ByteArray)
    (hyes : Ready out a → Ev (fun k => spec_l21Order.l0 k l (out ++ [a.f0])) r) (hno : ¬ Ready out a → Ev (fun k => spec_l21Order.l1 k l out false l (l.length : Int) ((i + 1 : Nat) : Int)) r) :
    Ev (fun k => spec_l21Order.l2 k l out false (!hasB out a.f0) l (l.length : Int) (i : Int) a.f1 (a.f1.length : Int) 0 a.f0 a.f1 a.f2) r := by
  refine ev_for1 a.f1.length (fun k j (x : Bool) => spec_l21Order.l2 k l out false x l (l.length : Int) (i : Int) a.f1 (a.f1.length : Int) (j : Int) a.f0 a.f1 a.f2) (fun j x => x = true ↔ ¬ hasB out a.f0 = true ∧ ∀ q, q < j → hasB out (rdOf ByteArray.empty a.f1 (q : Int)) = true) r ?_ ?_ 0 _ (Nat.zero_le _) ?_
  · intro x hx
    refine st_spec_l21Order_l2 (ev_neg (by omega) (ev_ite (fun h => ev_pos (by omega) (hyes (hx.1 h))) fun h => ?_))
    rw [w64s i (by omega)]
    exact hno fun h' => h (hx.2 h')
  · intro j x hj hx
    cases x with
    | true =>
      refine .inr ⟨hasB out (rdOf ByteArray.empty a.f1 (j : Int)), ?_, fun r' hr' => st_spec_l21Order_l2 (ev_pos (by omega) (ev_pos (by omega) (ev_pos (by omega) (ev_pos rfl (Ev.bind (has_spec out ho _) ?_)))))⟩
      · have hx := hx.1 rfl
        constructor
        · intro h
          refine ⟨hx.1, fun q hq => ?_⟩
          rcases Nat.lt_or_ge q j with h1 | h1
          · exact hx.2 q h1
          · obtain rfl : q = j := by omega
            exact h
        · exact fun h => h.2 j (by omega)
      · rw [w64s j (by omega)]; exact hr'
    | false =>
      refine .inr ⟨false, ?_, fun r' hr' => st_spec_l21Order_l2 (ev_pos (by omega) (ev_pos (by omega) (ev_pos (by omega) (ev_neg (by decide) ?_))))⟩
      · constructor
        · intro h; cases h
        · intro h; exact hx.2 ⟨h.1, fun q hq => h.2 q (by omega)⟩
      · rw [w64s j (by omega)]; exact hr'
  · constructor
    · intro h; exact ⟨by simpa using h, fun q hq => by omega⟩
    · intro h; simpa using h.1
theorem order_step (l : List S63) (hl : l.length ≤ 1048576) (hf : NeedsFit l) (out : List ByteArray) (ho : out.length ≤ l.length)
    (next : ∀ i : Nat, i < l.length → Ready out (rd_T63 l (i : Int)) → (∀ j, j < i → ¬ Ready out (rd_T63 l (j : Int))) → ∃ res, Ev (fun k => spec_l21Order.l0 k l (out ++ [(rd_T63 l (i : Int)).f0])) res ∧ Ev (fun k => impl_makeOrder.l0 k l (out ++ [(rd_T63 l (i : Int)).f0])) res ∧ res.length ≤ l.length) :
    ∃ res, Ev (fun k => spec_l21Order.l0 k l out) res ∧ Ev (fun k => impl_makeOrder.l0 k l out) res ∧ res.length ≤ l.length := by
  obtain ⟨P, hP⟩ : ∃ P : Nat → Bool, ∀ i : Nat, P i = true ↔ Ready out (rd_T63 l (i : Int)) := ⟨fun i => Classical.choose (bool_of (Ready out (rd_T63 l (i : Int)))), fun i => Classical.choose_spec (bool_of (Ready out (rd_T63 l (i : Int))))⟩
  have hno : ∀ i, P i = false → ¬ Ready out (rd_T63 l (i : Int)) := fun i h h' => by rw [(hP i).2 h'] at h; cases h
  obtain ⟨r, hr, h⟩ := ev_index (fun k xs n i => slices_IndexFunc_w78.l0 k xs n i out) (fun k xs i => impl_makeOrder_1.f k (rd_T63 xs i).f0 (rd_T63 xs i).f1 (rd_T63 xs i).f2 out) (fun _ _ _ _ => rfl) l (by omega) P (fun i hi => ready_impl out (by omega) _ (hf i hi) _ (hP i))
  have skip : ∀ (j : Nat) (res : List ByteArray), j < l.length → ¬ Ready out (rd_T63 l (j : Int)) → Ev (fun k => spec_l21Order.l1 k l out false l (l.length : Int) ((j + 1 : Nat) : Int)) res → Ev (fun k => spec_l21Order.l1 k l out false l (l.length : Int) (j : Int)) res := fun j res hj hn he =>
    st_spec_l21Order_l1 (ev_pos (by omega) (ev_pos (by omega) (ev_pos (by omega) (Ev.bind (has_spec out (by omega) _) (inner_spec l out (by omega) j (by omega) _ (hf j hj) res (fun h => absurd h hn) fun _ => he)))))
  rcases h with ⟨rfl, h⟩ | ⟨i, hi, rfl, h1, h2⟩
  · refine ⟨out, ?_, st_impl_makeOrder_l0 (Ev.bind hr (ev_pos (by omega) (ev_some rfl))), ho⟩
    refine st_spec_l21Order_l0 ?_
    refine ev_for1 l.length (fun k j (_ : Unit) => spec_l21Order.l1 k l out false l (l.length : Int) (j : Int)) (fun _ _ => True) out ?_ ?_ 0 () (Nat.zero_le _) trivial
    · intro _ _
      exact st_spec_l21Order_l1 (ev_neg (by omega) (ev_neg (by decide) (ev_some rfl)))
    · intro j _ hj _
      exact .inr ⟨(), trivial, fun res he => skip j res hj (hno j (h j hj)) he⟩
  · have hy := (hP i).1 h1
    obtain ⟨res, r1, r2, r3⟩ := next i hi hy (fun j hj => hno j (h2 j hj))
    refine ⟨res, ?_, st_impl_makeOrder_l0 (Ev.bind hr (ev_neg (by omega) (ev_pos (by omega) (ev_pos (by omega) (ev_pos (by omega) r2))))), r3⟩
    refine st_spec_l21Order_l0 ?_
    refine ev_for1 l.length (fun k j (_ : Unit) => spec_l21Order.l1 k l out false l (l.length : Int) (j : Int)) (fun j _ => j ≤ i) res ?_ ?_ 0 () (Nat.zero_le _) (Nat.zero_le _)
    · intro _ h; omega
    · intro j _ hj hji
      by_cases e : j = i
      · subst e
        exact .inl (st_spec_l21Order_l1 (ev_pos (by omega) (ev_pos (by omega) (ev_pos (by omega) (Ev.bind (has_spec out (by omega) _) (inner_spec l out (by omega) j (by omega) _ (hf j hj) res (fun _ => r1) fun h => absurd hy h))))))
      · exact .inr ⟨(), by omega, fun res' he => skip j res' hj (hno j (h2 j (by omega))) he⟩
theorem order_same (l : List S63) (hl : l.length ≤ 1048576) (hf : NeedsFit l) : ∀ (d : Nat) (out : List ByteArray), cnt l out l.length ≤ d → out.length + cnt l out l.length ≤ l.length →
    ∃ res, Ev (fun k => spec_l21Order.l0 k l out) res ∧ Ev (fun k => impl_makeOrder.l0 k l out) res ∧ res.length ≤ l.length := by
  intro d
  induction d with
  | zero =>
    intro out hd ho
    refine order_step l hl hf out (by omega) (fun i hi h0 h1 => ?_)
    have := cnt_lt l out (out ++ [(rd_T63 l (i : Int)).f0]) (fun s hs => by rw [hasB_snoc, hs]; rfl) i h0.1 (by rw [hasB_snoc]; simp) l.length hi
    omega
  | succ d ih =>
    intro out hd ho
    refine order_step l hl hf out (by omega) (fun i hi h0 h1 => ?_)
    have := cnt_lt l out (out ++ [(rd_T63 l (i : Int)).f0]) (fun s hs => by rw [hasB_snoc, hs]; rfl) i h0.1 (by rw [hasB_snoc]; simp) l.length hi
    exact ih _ (by omega) (by rw [List.length_append]; simp only [List.length_cons, List.length_nil]; omega)
def AtS (l : List S63) (s : ByteArray) : Prop := ∃ q, q < l.length ∧ (rd_T63 l (q : Int)).f0.toList = s.toList
theorem at_spec (l : List S63) (hl : l.length ≤ 1048576) (s : ByteArray) : ∃ r, Ev (fun k => spec_l21At.f k l s) r ∧ (r < 0 ↔ ¬ AtS l s) := by
  refine ev_for l.length (fun k i (_ : Unit) => spec_l21At.l0 k s l (l.length : Int) (i : Int)) (fun i _ => ∀ j, j < i → (rd_T63 l (j : Int)).f0.toList ≠ s.toList) (fun r => r < 0 ↔ ¬ AtS l s) ?_ ?_ 0 () (Nat.zero_le _) (fun j hj => by omega)
  · intro _ h
    refine ⟨-1, st_spec_l21At_l0 (ev_neg (by omega) (ev_some rfl)), ?_⟩
    exact ⟨fun _ ⟨j, hj, e⟩ => h j hj e, fun _ => by omega⟩
  · intro i _ hi h
    by_cases e : (rd_T63 l (i : Int)).f0.toList = s.toList
    · refine .inl ⟨(i : Int), st_spec_l21At_l0 (ev_pos (by omega) (ev_pos (by omega) (ev_pos (by omega) (ev_pos e (ev_some rfl))))), ?_⟩
      exact ⟨fun h => by omega, fun h => absurd ⟨i, hi, e⟩ h⟩
    · refine .inr ⟨(), fun j hj => ?_, fun r hr => st_spec_l21At_l0 (ev_pos (by omega) (ev_pos (by omega) (ev_pos (by omega) (ev_neg e ?_))))⟩
      · rcases Nat.lt_or_ge j i with h1 | h1
        · exact h j h1
        · obtain rfl : j = i := by omega
          exact e
      · rw [w64s i (by omega)]; exact hr
theorem at_impl (l : List S63) (hl : l.length ≤ 1048576) (s : ByteArray) : ∃ r, Ev (fun k => impl_assetAt.f k l s) r ∧ (r < 0 ↔ ¬ AtS l s) := by
  obtain ⟨r, hr, h⟩ := ev_index (fun k xs n i => slices_IndexFunc_w77.l0 k xs n i s) (fun _ xs i => impl_assetAt_1.f (rd_T63 xs i).f0 (rd_T63 xs i).f1 (rd_T63 xs i).f2 s) (fun _ _ _ _ => rfl) l (by omega) (fun i => (rd_T63 l (i : Int)).f0.toList == s.toList) (fun i _ => ev_some rfl)
  refine ⟨r, Ev.bind hr (ev_some rfl), ?_⟩
  rcases h with ⟨rfl, h⟩ | ⟨i, hi, rfl, h1, _⟩
  · exact ⟨fun _ ⟨j, hj, e⟩ => by have := h j hj; rw [e] at this; simp at this, fun _ => by omega⟩
  · exact ⟨fun h => by omega, fun h => absurd ⟨i, hi, by simpa using h1⟩ h⟩
def AssetOk (l : List S63) (i : Nat) : Prop :=
  NameOk (rd_T63 l i).f0 ∧ (0 < i → Op.bytesLess (rd_T63 l ((i : Int) - 1)).f0.toList (rd_T63 l i).f0.toList = true) ∧ ((rd_T63 l i).f1.length ≤ 10 ∧ NamesOk (rd_T63 l i).f1) ∧ (rd_T63 l i).f2.length ≤ 400 ∧ ∀ j, j < (rd_T63 l i).f1.length → AtS l (rdOf ByteArray.empty (rd_T63 l i).f1 (j : Int))
def AssetsOk (l : List S63) (res : List ByteArray) : Prop := l.length ≤ 30 ∧ (∀ i, i < l.length → AssetOk l i) ∧ res.length = l.length
theorem asset_spec (l : List S63) (hl : l.length ≤ 1048576) (hf : NeedsFit l) (i : Nat) (hi : i < l.length) (r : Bool) (hyes : AssetOk l i → Ev (fun k => spec_GoodAssets.l0 k l l (l.length : Int) ((i + 1 : Nat) : Int)) r) (hno : ¬ AssetOk l i → r = false) :
    Ev (fun k => spec_GoodAssets.l0 k l l (l.length : Int) (i : Int)) r := by
  have e : wrap64 ((i : Int) - 1) = (i : Int) - 1 := w64 (by omega) (by omega)
  have hfi := hf i hi
  obtain ⟨d, hd⟩ := bool_of (NameOk (rd_T63 l i).f0)
  have j1t : ¬ AssetOk l i → Ev (fun k => spec_GoodAssets.j1 k l l (l.length : Int) (i : Int) true (rd_T63 l i).f0 (rd_T63 l i).f1 (rd_T63 l i).f2) r := fun h => st_spec_GoodAssets_j1 (ev_pos rfl (ev_some (hno h).symm))
  refine st_spec_GoodAssets_l0 (ev_pos (by omega) (ev_pos (by omega) (ev_pos (by omega) (Ev.bind (name_spec _ d hd) (ev_ite (fun g0 => ?_) fun g0 => j1t fun h => g0 (hd.2 h.1))))))
  have g0 := hd.1 g0
  rw [e]
  have tail : (0 < i → Op.bytesLess (rd_T63 l ((i : Int) - 1)).f0.toList (rd_T63 l i).f0.toList = true) → Ev (fun k => (spec_l3Names.f k (rd_T63 l i).f1 10).bind fun t => if t = true then spec_GoodAssets.j1 k l l (l.length : Int) (i : Int) (decide (((rd_T63 l i).f2.length : Int) > 400)) (rd_T63 l i).f0 (rd_T63 l i).f1 (rd_T63 l i).f2 else spec_GoodAssets.j1 k l l (l.length : Int) (i : Int) true (rd_T63 l i).f0 (rd_T63 l i).f1 (rd_T63 l i).f2) r := by
    intro g1
    obtain ⟨c, hc⟩ := bool_of ((rd_T63 l i).f1.length ≤ 10 ∧ NamesOk (rd_T63 l i).f1)
    refine Ev.bind (names_spec _ hfi c hc) (ev_ite (fun g2 => ?_) fun g2 => j1t fun h => g2 (hc.2 h.2.2.1))
    have g2 := hc.1 g2
    refine st_spec_GoodAssets_j1 (ev_ite (fun g3 => ev_some (hno fun h => by have := h.2.2.2.1; have := of_decide_eq_true g3; omega).symm) fun g3 => ?_)
    have g3 : (rd_T63 l i).f2.length ≤ 400 := by
      rcases Nat.lt_or_ge 400 (rd_T63 l i).f2.length with h | h
      · exact absurd (decide_eq_true (by omega)) g3
      · exact h
    refine ev_for1 (rd_T63 l i).f1.length (fun k j (_ : Unit) => spec_GoodAssets.l1 k l l (l.length : Int) (i : Int) (rd_T63 l i).f1 ((rd_T63 l i).f1.length : Int) (j : Int)) (fun j _ => ∀ q, q < j → AtS l (rdOf ByteArray.empty (rd_T63 l i).f1 (q : Int))) r ?_ ?_ 0 () (Nat.zero_le _) (fun j hj => by omega)
    · intro _ h
      refine st_spec_GoodAssets_l1 (ev_neg (by omega) ?_)
      rw [w64s i (by omega)]
      exact hyes ⟨g0, g1, g2, g3, h⟩
    · intro j _ hj h
      obtain ⟨q, hq, hqs⟩ := at_spec l hl (rdOf ByteArray.empty (rd_T63 l i).f1 (j : Int))
      by_cases ha : AtS l (rdOf ByteArray.empty (rd_T63 l i).f1 (j : Int))
      · refine .inr ⟨(), fun q' hq' => ?_, fun r' hr' => st_spec_GoodAssets_l1 (ev_pos (by omega) (ev_pos (by omega) (ev_pos (by omega) (Ev.bind hq (ev_neg (fun h' => hqs.1 h' ha) ?_)))))⟩
        · rcases Nat.lt_or_ge q' j with h1 | h1
          · exact h q' h1
          · obtain rfl : q' = j := by omega
            exact ha
        · rw [w64s j (by omega)]; exact hr'
      · exact .inl (st_spec_GoodAssets_l1 (ev_pos (by omega) (ev_pos (by omega) (ev_pos (by omega) (Ev.bind hq (ev_pos (hqs.2 ha) (ev_some (hno fun h' => ha (h'.2.2.2.2 j hj)).symm)))))))
  exact ev_ite (fun hp => ev_pos (by omega) (ev_pos (by omega) (ev_ite (fun g1 => tail fun _ => g1) fun g1 => j1t fun h => g1 (h.2.1 (by omega))))) fun hp => tail (fun h => by omega)
theorem asset_impl (l : List S63) (hx : l.length ≤ 1048576 ∧ ∀ y ∈ l, Fit63 y) (i : Nat) (hi : i < l.length) (r : Bool) (hyes : AssetOk l i → Ev (fun k => impl_GoodAssets.l0 k l (l.length : Int) ((i + 1 : Nat) : Int) l) r) (hno : ¬ AssetOk l i → r = false) :
    Ev (fun k => impl_GoodAssets.l0 k l (l.length : Int) (i : Int) l) r := by
  have hl := hx.1
  have e : wrap64 ((i : Int) - 1) = (i : Int) - 1 := w64 (by omega) (by omega)
  have hfit : Fit63 (rd_T63 l (i : Int)) := by
    have e : rd_T63 l (i : Int) = l[i] := getD_get hi
    rw [e]
    exact hx.2 _ (List.getElem_mem hi)
  have hfi := hfit.2.1.1
  have hn0 := hfit.1
  obtain ⟨d, hd⟩ := bool_of (NameOk (rd_T63 l i).f0)
  have j1t : ¬ AssetOk l i → Ev (fun k => impl_GoodAssets.j1 k l (l.length : Int) (i : Int) true l (rd_T63 l i).f0 (rd_T63 l i).f1 (rd_T63 l i).f2) r := fun h => st_impl_GoodAssets_j1 (ev_pos rfl (ev_some (hno h).symm))
  refine st_impl_GoodAssets_l0 (ev_pos (by omega) (ev_pos (by omega) (ev_pos (by omega) (Ev.bind (name_impl _ (by omega) d hd) (ev_ite (fun g0 => ?_) fun g0 => j1t fun h => g0 (hd.2 h.1))))))
  have g0 := hd.1 g0
  rw [e]
  have tail : (0 < i → Op.bytesLess (rd_T63 l ((i : Int) - 1)).f0.toList (rd_T63 l i).f0.toList = true) → Ev (fun k => (impl_areNames.f k (rd_T63 l i).f1).bind fun t => if t = true then (if ((rd_T63 l i).f1.length : Int) > 10 then impl_GoodAssets.j1 k l (l.length : Int) (i : Int) true l (rd_T63 l i).f0 (rd_T63 l i).f1 (rd_T63 l i).f2 else impl_GoodAssets.j1 k l (l.length : Int) (i : Int) (decide (((rd_T63 l i).f2.length : Int) > 400)) l (rd_T63 l i).f0 (rd_T63 l i).f1 (rd_T63 l i).f2) else impl_GoodAssets.j1 k l (l.length : Int) (i : Int) true l (rd_T63 l i).f0 (rd_T63 l i).f1 (rd_T63 l i).f2) r := by
    intro g1
    obtain ⟨c, hc⟩ := bool_of (NamesOk (rd_T63 l i).f1)
    refine Ev.bind (names_impl _ hfit.2.1 c hc) (ev_ite (fun g2 => ?_) fun g2 => j1t fun h => g2 (hc.2 h.2.2.1.2))
    have g2 := hc.1 g2
    refine ev_ite (fun g4 => j1t fun h => by have := h.2.2.1.1; omega) fun g4 => ?_
    refine st_impl_GoodAssets_j1 (ev_ite (fun g3 => ev_some (hno fun h => by have := h.2.2.2.1; have := of_decide_eq_true g3; omega).symm) fun g3 => ?_)
    have g3 : (rd_T63 l i).f2.length ≤ 400 := by
      rcases Nat.lt_or_ge 400 (rd_T63 l i).f2.length with h | h
      · exact absurd (decide_eq_true (by omega)) g3
      · exact h
    obtain ⟨P, hP⟩ : ∃ P : Nat → Bool, ∀ j : Nat, P j = true ↔ ¬ AtS l (rdOf ByteArray.empty (rd_T63 l i).f1 (j : Int)) := ⟨fun j => Classical.choose (bool_of (¬ AtS l (rdOf ByteArray.empty (rd_T63 l i).f1 (j : Int)))), fun j => Classical.choose_spec (bool_of (¬ AtS l (rdOf ByteArray.empty (rd_T63 l i).f1 (j : Int))))⟩
    obtain ⟨b, hb⟩ := bool_of (∃ j, j < (rd_T63 l i).f1.length ∧ P j = true)
    refine Ev.bind (ev_contains (fun k xs n i => slices_IndexFunc_w37.l0 k xs n i l) (fun k xs i => impl_GoodAssets_1.f k (rdOf ByteArray.empty xs i) l) (fun _ _ _ _ => rfl) _ (by omega) P (fun j _ => ?_) b hb) (ev_ite (fun g5 => ev_some (hno fun h => ?_).symm) fun g5 => ?_)
    · obtain ⟨q, hq, hqs⟩ := at_impl l hl (rdOf ByteArray.empty (rd_T63 l i).f1 (j : Int))
      refine Ev.bind hq (ev_some ?_)
      rw [Bool.eq_iff_iff, decide_eq_true_eq, hqs, hP]
    · obtain ⟨j, hj, hp⟩ := hb.1 g5
      exact (hP j).1 hp (h.2.2.2.2 j hj)
    · rw [w64s i (by omega)]
      refine hyes ⟨g0, g1, ⟨by omega, g2⟩, g3, fun j hj => ?_⟩
      rcases Classical.em (AtS l (rdOf ByteArray.empty (rd_T63 l i).f1 (j : Int))) with h | h
      · exact h
      · exact absurd (hb.2 ⟨j, hj, (hP j).2 h⟩) g5
  exact ev_ite (fun hp => ev_pos (by omega) (ev_pos (by omega) (ev_ite (fun g1 => tail fun _ => g1) fun g1 => j1t fun h => g1 (h.2.1 (by omega))))) fun hp => tail (fun h => by omega)
theorem needs_fit (l : List S63) (hx : l.length ≤ 1048576 ∧ ∀ y ∈ l, Fit63 y) : NeedsFit l := by
  intro i hi
  have e : rd_T63 l (i : Int) = l[i] := getD_get hi
  rw [e]
  exact (hx.2 _ (List.getElem_mem hi)).2.1.1
theorem assets_same (l : List S63) (hx : l.length ≤ 1048576 ∧ ∀ y ∈ l, Fit63 y) :
    ∃ res b, Ev (fun k => spec_l21Order.f k l) res ∧ Ev (fun k => impl_makeOrder.f k l) res ∧ res.length ≤ l.length ∧ (b = true ↔ AssetsOk l res) ∧ Ev (fun k => spec_GoodAssets.f k l) b ∧ Ev (fun k => impl_GoodAssets.f k l) b := by
  have hl := hx.1
  have hf := needs_fit l hx
  obtain ⟨res, r1, r2, r3⟩ := order_same l hl hf (cnt l [] l.length) [] (Nat.le_refl _) (by have := cnt_le l [] l.length; simpa using this)
  obtain ⟨b, hb⟩ := bool_of (AssetsOk l res)
  have no : ∀ i, i < l.length → ¬ AssetOk l i → b = false := fun i hi h => bool_false hb fun h' => h (h'.2.1 i hi)
  refine ⟨res, b, r1, r2, r3, hb, ?_, ?_⟩
  · refine ev_ite (fun h => ev_some (bool_false hb (fun h' => by have := h'.1; omega)).symm) fun h => ?_
    refine ev_for1 l.length (fun k i (_ : Unit) => spec_GoodAssets.l0 k l l (l.length : Int) (i : Int)) (fun i _ => ∀ j, j < i → AssetOk l j) b ?_ ?_ 0 () (Nat.zero_le _) (fun j hj => by omega)
    · intro _ hall
      refine st_spec_GoodAssets_l0 (ev_neg (by omega) (Ev.bind r1 (ev_some ?_)))
      rw [Bool.eq_iff_iff, hb, beq_iff_eq]
      exact ⟨fun h' => ⟨by omega, hall, by omega⟩, fun h' => by have := h'.2.2; omega⟩
    · intro i _ hi hall
      by_cases ho : AssetOk l i
      · refine .inr ⟨(), fun j hj => ?_, fun r hr => asset_spec l hl hf i hi r (fun _ => hr) (fun h' => absurd ho h')⟩
        rcases Nat.lt_or_ge j i with h1 | h1
        · exact hall j h1
        · obtain rfl : j = i := by omega
          exact ho
      · exact .inl (asset_spec l hl hf i hi b (fun h' => absurd h' ho) (fun _ => no i hi ho))
  · refine ev_for1 l.length (fun k i (_ : Unit) => impl_GoodAssets.l0 k l (l.length : Int) (i : Int) l) (fun i _ => ∀ j, j < i → AssetOk l j) b ?_ ?_ 0 () (Nat.zero_le _) (fun j hj => by omega)
    · intro _ hall
      refine st_impl_GoodAssets_l0 (ev_neg (by omega) (ev_ite (fun h => Ev.bind r2 (ev_some ?_)) fun h => ev_some (bool_false hb (fun h' => by have := h'.1; omega)).symm))
      rw [Bool.eq_iff_iff, hb, beq_iff_eq]
      exact ⟨fun h' => ⟨by omega, hall, by omega⟩, fun h' => by have := h'.2.2; omega⟩
    · intro i _ hi hall
      by_cases ho : AssetOk l i
      · refine .inr ⟨(), fun j hj => ?_, fun r hr => asset_impl l hx i hi r (fun _ => hr) (fun h' => absurd ho h')⟩
        rcases Nat.lt_or_ge j i with h1 | h1
        · exact hall j h1
        · obtain rfl : j = i := by omega
          exact ho
      · exact .inl (asset_impl l hx i hi b (fun h' => absurd h' ho) (fun _ => no i hi ho))
theorem FnExactGoodAssets : ∀ (l0 : List (S62)), (l0.length * 64 ≤ 140737488351232 ∧ ∀ y ∈ l0, Ok62 y) → ∃ k, laws_FnExactGoodAssets.f k l0 = some true := by
  intro xs gl
  refine Ev.rounds (g := fun k => laws_FnExactGoodAssets.f k xs) ?_
  obtain ⟨r, hr, h | ⟨h0, h1, hx⟩⟩ := szAssetS_some xs gl 1048576 (by omega) (by omega)
  · exact Ev.bind hr (ev_pos h (ev_some rfl))
  · have tx := toAssetS_ev xs hx
    have hx' : (xs.map cv62).length ≤ 1048576 ∧ ∀ y ∈ xs.map cv62, Fit63 y := ⟨by rw [List.length_map]; exact hx.1, fun y hy => by obtain ⟨z, hz, rfl⟩ := List.mem_map.1 hy; exact fit_cv62 (hx.2 z hz)⟩
    obtain ⟨_, t, _, _, _, _, hs, hi⟩ := assets_same (xs.map cv62) hx'
    exact Ev.bind hr (ev_neg (by omega) (Ev.bind tx (Ev.bind hs (Ev.bind tx (Ev.bind hi (ev_neg (by simp) (Ev.bind tx (Ev.bind (eqAssetS_ev _ hx') (ev_pos rfl (ev_some rfl))))))))))
end Go.Proofs.Ytifejplilaefiaa.Pure
