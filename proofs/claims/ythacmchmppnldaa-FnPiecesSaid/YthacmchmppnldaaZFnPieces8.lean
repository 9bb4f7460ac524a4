/- Texts of a row. -/
import Derived.Test.YthacmchmppnldaaZFnPieces0
import Derived.SizedLaws
import Derived.ChangeArms
import Derived.OpenShut
import Derived.WideShapes
import Derived.WalkKit
import Derived.Test.YthacmchmppnldaaZFnPieces3
import Derived.KernelRfl
import Derived.Laws.BitsLemmas
import Derived.Test.YthacmchmppnldaaZFnPieces7
namespace Go.Proofs.YthacmchmppnldaaO
open Go.ChangeShapes Go.WideShapes Go.Proofs.YthacmchmppnldaaW.PrintWords Go.RowKit
def InU8 (n : Int) : Prop := 0 ≤ n ∧ n ≤ 255
def Opens {α : Type} (P : Program) (t : TypeId) (d : Kd α) (g : α → Prop) : Prop :=
  ∀ {H : Type} (enc : TypeId × Value → H) (w : World) (fuel : Nat) (cs : List Value) (y : DataW H) (ps : List MemPlace),
    DataW.trod enc P w 0 (fun _ => true) true fuel t cs = some (y, ps) → (∀ n ∈ y.weights P t, n ≤ reachBytes) → ∃ x, d.K w x cs ∧ g x
theorem Opens.imp {α : Type} {P : Program} {t : TypeId} {d : Kd α} {g g' : α → Prop} (h : Opens P t d g) (k : ∀ x, g x → g' x) : Opens P t d g' := by
  intro H enc w fuel cs y ps ht hw
  obtain ⟨x, hx, hg⟩ := h enc w fuel cs y ps ht hw
  exact ⟨x, hx, k x hg⟩
theorem opens_int {P : Program} {t : TypeId} {k : IntKind} (ht : P.underlying t = some (.int k)) : Opens P t (Kd.int k) (fun n => (Lit.int k n).wf = true) := by
  intro H enc w fuel cs y ps h _
  obtain ⟨n, rfl, _, hw⟩ := DataW.trod_int ht h
  exact ⟨n, rfl, hw⟩
theorem wf_u8 {n : Int} (h : (Lit.int .u8 n).wf = true) : InU8 n := bounds_u8 h
theorem opens_u8 {P : Program} {t : TypeId} (ht : P.underlying t = some (.int .u8)) : Opens P t (Kd.int .u8) InU8 := Opens.imp (opens_int ht) fun _ h => wf_u8 h
theorem exists_list {α : Type} (p : Nat → α → Prop) : ∀ n : Nat, (∀ i, i < n → ∃ x, p i x) → ∃ xs : List α, xs.length = n ∧ ∀ i x, xs[i]? = some x → p i x
  | 0, _ => ⟨[], rfl, fun i x h => by simp at h⟩
  | n + 1, h => by
    obtain ⟨xs, hl, hx⟩ := exists_list p n (fun i hi => h i (by omega))
    obtain ⟨x, hp⟩ := h n (by omega)
    refine ⟨xs ++ [x], by simp [hl], fun i y hy => ?_⟩
    rcases Nat.lt_or_ge i xs.length with hi | hi
    · rw [List.getElem?_append_left hi] at hy
      exact hx i y hy
    · have : i = n := by
        have := (List.getElem?_eq_some_iff.1 hy).1
        rw [List.length_append, List.length_singleton] at this
        omega
      subst this
      rw [List.getElem?_append_right hi] at hy
      rw [hl] at hy
      simp at hy
      subst hy
      exact hp
theorem add_add (ad : Addr) (i j : Nat) : (ad.add i).add j = ad.add (i + j) := by
  unfold Addr.add
  by_cases h1 : i = 0 <;> by_cases h2 : j = 0 <;> simp [h1, h2, Nat.add_assoc]
theorem weightsAll_mem {H : Type} {P : Program} {e : TypeId} : ∀ {l : List (DataW H)} {d : DataW H}, d ∈ l → ∀ n ∈ d.weights P e, n ∈ DataW.weightsAll P e l
  | [], d, h, _, _ => by simp at h
  | x :: r, d, h, n, hn => by
    simp only [DataW.weightsAll, List.mem_append]
    rcases List.mem_cons.1 h with rfl | h
    · exact .inl hn
    · exact .inr (weightsAll_mem h n hn)
theorem opens_slice {α : Type} {P : Program} {t e : TypeId} {d : Kd α} {g : α → Prop} {B : Nat} (ht : P.underlying t = some (.slice e)) (hs : P.cellsOf e = d.sz) (hB : P.bytesOf e = B) (h : Opens P e d g) :
    Opens P t (Kd.slice e d) (fun xs => xs.length * B ≤ 140737488351232 ∧ ∀ x ∈ xs, g x) := by
  intro H enc w fuel cs y ps hy hw
  rcases DataW.trod_slice ht hy with ⟨rfl, _⟩ | ⟨a, len, cap, elems, rest, n, rfl, rfl, hx, _, hlc, hcm, hel, hget, _, _⟩
  · exact ⟨[], ⟨none, 0, rfl, Nat.le_refl _, Kd.C_nil d w⟩, by simp⟩
  · obtain ⟨rfl, _⟩ := Prod.mk.inj hx
    simp only [DataW.weights, ht] at hw
    have hlen : len * B ≤ 140737488351232 := by
      have := hw _ List.mem_cons_self
      simp only [List.length_map, hB] at this
      have h2 : len * B ≤ (elems.length + rest.length) * B := Nat.mul_le_mul_right _ (by omega)
      exact Nat.le_trans h2 this
    have key : ∀ i, i < len → ∃ x, (∃ c, c.length = d.sz ∧ d.K w x c ∧ ∀ j u, c[j]? = some u → w.cell? (a.add (i * d.sz + j)) = some u) ∧ g x := by
      intro i hi
      have hg := hget i hi
      rw [List.getElem?_eq_getElem (by omega), Option.bind_eq_some_iff] at hg
      obtain ⟨c, hc, hd⟩ := hg
      obtain ⟨_, hcl, hcell⟩ := World.cells?_some hc
      obtain ⟨x, hK, hgx⟩ := h enc w n c _ _ hd (fun m hm => hw m (List.mem_cons_of_mem _ (List.mem_append_left _ (weightsAll_mem (List.mem_map_of_mem (List.getElem_mem _)) m hm))))
      refine ⟨x, ⟨c, hcl.trans hs, hK, fun j u hj => ?_⟩, hgx⟩
      have hjl : j < P.cellsOf e := by
        have := (List.getElem?_eq_some_iff.1 hj).1
        omega
      have := hcell j hjl
      rw [add_add, hj, hs] at this
      exact this
    obtain ⟨xs, hxl, hxs⟩ := exists_list _ len key
    refine ⟨xs, ⟨some a, cap, by rw [hxl], by omega, hxl ▸ ⟨hxl, by simp only [maxLen] at hcm; omega, fun _ => ⟨a, rfl, fun j p hp => (hxs j p hp).1⟩⟩⟩, by rw [hxl]; exact hlen, fun x hx => ?_⟩
    obtain ⟨i, hi, rfl⟩ := List.getElem_of_mem hx
    exact (hxs i _ (List.getElem?_eq_getElem hi)).2
theorem weights_of {H : Type} {P : Program} {ts : List TypeId} {ds : List (DataW H)} {j : Nat} {t : TypeId} {d : DataW H} (hsz : (DataW.weightsEach P ts ds).all (· ≤ reachBytes) = true) (ht : ts[j]? = some t) (hd : ds[j]? = some d) : ∀ n ∈ d.weights P t, n ≤ reachBytes := by
  intro n hn
  have := List.all_eq_true.1 hsz n (DataW.weights_mem_each ht hd n hn)
  simpa using this
theorem open_slice {α H : Type} {enc : TypeId × Value → H} {P : Program} {W : World} {t e : TypeId} {d : Kd α} {g : List α → Prop} {a : Option Addr} {len cap : Nat} {y : DataW H} {ps : List MemPlace} (h : Opens P t (Kd.slice e d) g)
    (hy : DataW.Trod enc P W 0 (fun _ => true) true t (.slice a len cap) y ps) (hw : ∀ n ∈ y.weights P t, n ≤ reachBytes) : ∃ xs : List α, len = xs.length ∧ xs.length ≤ cap ∧ d.C W a xs.length xs ∧ g xs := by
  obtain ⟨fuel, hf⟩ := hy
  obtain ⟨xs, ⟨A, c, he, hl, hC⟩, hg⟩ := h enc W fuel _ y ps hf hw
  have he' : Value.slice a len cap = .slice A xs.length c := by simpa [Value.cells] using he
  injection he' with h1 h2 h3
  subst h1 h2 h3
  exact ⟨xs, rfl, hl, hC, hg⟩
end Go.Proofs.YthacmchmppnldaaO
namespace Go.Proofs.Ythacmchmppnldaa.OFnPieces
open Go.RowKit Go.Proofs.Ythacmchmppnldaa.PFnPieces Go.Proofs.YthacmchmppnldaaW.PrintWords Go.Proofs.YthacmchmppnldaaO
end Go.Proofs.Ythacmchmppnldaa.OFnPieces
namespace Go.Proofs.YthacmchmppnldaaO
open Go.RowKit Go.Proofs.YthacmchmppnldaaW.PrintWords Go.Proofs.YthacmchmppnldaaW.PrintLast Go.Proofs.YthacmchmppnldaaW.PrintMore
theorem w64 {n : Int} (h : -9223372036854775808 ≤ n) (k : n ≤ 9223372036854775807) : wrap64 n = n := by unfold wrap64; omega
theorem w64s (i : Nat) (h : i < 4611686018427387904) : wrap64 ((i : Int) + 1) = ((i + 1 : Nat) : Int) := by unfold wrap64; omega
theorem ev_some {α : Type} {x r : α} (h : x = r) : Ev (fun _ => some x) r := ⟨0, fun _ _ => by rw [h]⟩
theorem ev_pos {α : Type} {c : Prop} [Decidable c] {f g : Nat → Option α} {r : α} (h : c) (k : Ev f r) : Ev (fun n => if c then f n else g n) r := by
  obtain ⟨K, hK⟩ := k
  exact ⟨K, fun n hn => (if_pos h).trans (hK n hn)⟩
theorem ev_neg {α : Type} {c : Prop} [Decidable c] {f g : Nat → Option α} {r : α} (h : ¬ c) (k : Ev g r) : Ev (fun n => if c then f n else g n) r := by
  obtain ⟨K, hK⟩ := k
  exact ⟨K, fun n hn => (if_neg h).trans (hK n hn)⟩
theorem ev_ite {α : Type} {c : Prop} [Decidable c] {f g : Nat → Option α} {r : α} (h : c → Ev f r) (k : ¬ c → Ev g r) : Ev (fun n => if c then f n else g n) r := by
  by_cases hc : c
  · exact ev_pos hc (h hc)
  · exact ev_neg hc (k hc)
theorem ev_bindc {α β : Type} {x : Option α} {f : Nat → α → Option β} {a : α} {r : β} (h : x = some a) (k : Ev (fun n => f n a) r) : Ev (fun n => x.bind (f n)) r := by
  subst h; exact k
theorem ev_for {σ ρ : Type} (n : Nat) (L : Nat → Nat → σ → Option ρ) (I : Nat → σ → Prop) (Q : ρ → Prop)
    (hend : ∀ s, I n s → ∃ r, Ev (fun k => L k n s) r ∧ Q r)
    (hstep : ∀ i s, i < n → I i s → (∃ r, Ev (fun k => L k i s) r ∧ Q r) ∨ ∃ s', I (i + 1) s' ∧ ∀ r, Ev (fun k => L k (i + 1) s') r → Ev (fun k => L k i s) r) :
    ∀ i s, i ≤ n → I i s → ∃ r, Ev (fun k => L k i s) r ∧ Q r := by
  have key : ∀ d i s, i + d = n → I i s → ∃ r, Ev (fun k => L k i s) r ∧ Q r := by
    intro d
    induction d with
    | zero => intro i s hi h; obtain rfl : i = n := by omega
              exact hend s h
    | succ d ih =>
      intro i s hi h
      rcases hstep i s (by omega) h with h' | ⟨s', hI, hr⟩
      · exact h'
      · obtain ⟨r, hr', hQ⟩ := ih (i + 1) s' (by omega) hI
        exact ⟨r, hr r hr', hQ⟩
  intro i s hi h
  exact key (n - i) i s (by omega) h
theorem ev_for1 {σ ρ : Type} (n : Nat) (L : Nat → Nat → σ → Option ρ) (I : Nat → σ → Prop) (a : ρ)
    (hend : ∀ s, I n s → Ev (fun k => L k n s) a)
    (hstep : ∀ i s, i < n → I i s → Ev (fun k => L k i s) a ∨ ∃ s', I (i + 1) s' ∧ ∀ r, Ev (fun k => L k (i + 1) s') r → Ev (fun k => L k i s) r) :
    ∀ i s, i ≤ n → I i s → Ev (fun k => L k i s) a := by
  intro i s hi h
  obtain ⟨r, hr, rfl⟩ := ev_for n L I (fun r => r = a) (fun s hs => ⟨a, hend s hs, rfl⟩) (fun i s hi hs => (hstep i s hi hs).imp (fun h => ⟨a, h, rfl⟩) id) i s hi h
  exact hr
theorem rd_get {xs : List Int} {i : Nat} (h : i < xs.length) : rd xs (i : Int) = xs[i] := by simp [rd, List.getD_eq_getElem?_getD, h]
theorem bool_of (P : Prop) : ∃ b : Bool, b = true ↔ P := ⟨@decide P (Classical.propDecidable P), by simp⟩
theorem bool_false {P : Prop} {b : Bool} (h : b = true ↔ P) (k : ¬ P) : b = false := by
  cases b with
  | false => rfl
  | true => exact absurd (h.1 rfl) k
theorem ev_all (n : Nat) (L : Nat → Nat → Option Bool) (ok : Nat → Prop) (e b : Bool) (hb : b = true ↔ e = true ∧ ∀ i, i < n → ok i) (hend : Ev (fun k => L k n) e)
    (hyes : ∀ i, i < n → (∀ j, j < i → ok j) → ok i → ∀ r, Ev (fun k => L k (i + 1)) r → Ev (fun k => L k i) r) (hno : ∀ i, i < n → (∀ j, j < i → ok j) → ¬ ok i → Ev (fun k => L k i) false) : Ev (fun k => L k 0) b := by
  refine ev_for1 n (fun k i (_ : Unit) => L k i) (fun i _ => ∀ j, j < i → ok j) b ?_ ?_ 0 () (Nat.zero_le _) (fun j hj => by omega)
  · intro _ h
    have : b = e := by
      cases e with
      | false => exact bool_false hb (fun h => by simp at h)
      | true => exact hb.2 ⟨rfl, h⟩
    rw [this]
    exact hend
  · intro i _ hi h
    by_cases ho : ok i
    · refine .inr ⟨(), fun j hj => ?_, hyes i hi h ho⟩
      rcases Nat.lt_or_ge j i with h1 | h1
      · exact h j h1
      · obtain rfl : j = i := by omega
        exact ho
    · have : b = false := bool_false hb (fun h => ho (h.2 i hi))
      rw [this]
      exact .inl (hno i hi h ho)
theorem wrap_u64 {n : Int} (h0 : 0 ≤ n) (h1 : n ≤ 18446744073709551615) : IntKind.u64.wrap n = n := by
  have e : IntKind.u64.wrap n = n % 18446744073709551616 := by simp only [IntKind.wrap, IntKind.bits, IntKind.signed]; rfl
  rw [e]; omega
def Chain {α : Type} (E : α → Int → Int → Prop) : List α → Int → Int → Prop
  | [], c, d => c = d
  | x :: r, c, d => ∃ m, E x c m ∧ Chain E r m d
theorem Chain.snoc {α : Type} {E : α → Int → Int → Prop} : ∀ {l : List α} {c m d : Int} {x : α}, Chain E l c m → E x m d → Chain E (l ++ [x]) c d
  | [], _, _, _, _, h, k => by cases h; exact ⟨_, k, rfl⟩
  | _ :: _, _, _, _, _, ⟨q, h1, h2⟩, k => ⟨q, h1, Chain.snoc h2 k⟩
end Go.Proofs.YthacmchmppnldaaO
namespace Go.Proofs.Ythacmchmppnldaa.Pure
open Go.RowKit Go.Proofs.Ythacmchmppnldaa.PFnPieces Go.Proofs.Ythacmchmppnldaa.OFnPieces Go.Proofs.YthacmchmppnldaaW.PrintWords Go.Proofs.YthacmchmppnldaaW.PrintLast Go.Proofs.YthacmchmppnldaaW.PrintMore Go.Proofs.YthacmchmppnldaaO
set_option linter.unusedVariables false
set_option linter.unusedSimpArgs false
theorem st_impl_RunClock_j0 {r : (Int × (List (S47)) × (List (S50)) × Bool)} {x1 : Int} {x22 : Bool} {x284000 : Int} {x284001 : List (S47)} (h : Ev (fun k => if x22 = true then (some (0, ([] : List (S47)), ([] : List (S50)), false)) else ((impl_Timer_15.f x284001).bind fun t287 => (impl_RunClock.l0 k x1 t287 (([] : List (S50)))))) r) : Ev (fun k => impl_RunClock.j0 k x1 x22 x284000 x284001) r := Ev.step (fun k => by rw [impl_RunClock.j0]) h
theorem st_impl_RunClock_l0 {r : (Int × (List (S47)) × (List (S50)) × Bool)} {x1 : Int} {x7 : List (S47)} {x8 : List (S50)} (h : Ev (fun k => impl_RunClock.l1 k x1 x7 x8 (-1) x7 (x7.length : Int) 0) r) : Ev (fun k => impl_RunClock.l0 k x1 x7 x8) r := Ev.step (fun k => by rw [impl_RunClock.l0]) h
theorem st_impl_RunClock_l1 {r : (Int × (List (S47)) × (List (S50)) × Bool)} {x1 : Int} {x7 : List (S47)} {x8 : List (S50)} {x9 : Int} {x28 : List (S47)} {x29 : Int} {x30 : Int} (h : Ev (fun k => if x30 < x29 then (if 0 ≤ x30 then (if x30 < (x28.length : Int) then (if ((rd_T47 x28 x30).f1) ≤ x1 then (if x9 < 0 then (impl_RunClock.l1 k x1 x7 x8 x30 x28 x29 (wrap64 (x30 + 1))) else (if 0 ≤ x9 then (if x9 < (x7.length : Int) then (if ((rd_T47 x28 x30).f1) < ((rd_T47 x7 x9).f1) then (impl_RunClock.l1 k x1 x7 x8 x30 x28 x29 (wrap64 (x30 + 1))) else (impl_RunClock.l1 k x1 x7 x8 x9 x28 x29 (wrap64 (x30 + 1)))) else (none)) else (none))) else (impl_RunClock.l1 k x1 x7 x8 x9 x28 x29 (wrap64 (x30 + 1)))) else (none)) else (none)) else (if x9 < 0 then (some (x1, x7, x8, true)) else (if 0 ≤ x9 then (if x9 < (x7.length : Int) then (if x8.length < 8796093022208 then ((some (x8 ++ [(⟨(rd_T47 x7 x9).f1, (rd_T47 x7 x9).f0⟩ : S50)] : List (S50))).bind fun y298 => (if (y298.length : Int) > 2000 then (some (0, ([] : List (S47)), ([] : List (S50)), false)) else (if ((rd_T47 x7 x9).f2) > 0 then (if ((rd_T47 x7 x9).f3) > 1 then ((some (x7.set (x9 : Int).toNat (⟨(rd_T47 x7 x9).f0, (rd_T47 x7 x9).f1, (rd_T47 x7 x9).f2, wrap64 (((rd_T47 x7 x9).f3) - 1)⟩ : S47) : List (S47))).bind fun y304 => (impl_RunClock.l0 k x1 (y304.set (x9 : Int).toNat (⟨(rd_T47 y304 x9).f0, wrap64 (((rd_T47 y304 x9).f1) + ((rd_T47 y304 x9).f2)), (rd_T47 y304 x9).f2, (rd_T47 y304 x9).f3⟩ : S47)) y298)) else ((impl_Timer_16.f x7 x9 (wrap64 (x9 + 1))).bind fun t308 => (impl_RunClock.l0 k x1 t308 y298))) else ((impl_Timer_16.f x7 x9 (wrap64 (x9 + 1))).bind fun t311 => (impl_RunClock.l0 k x1 t311 y298))))) else (none)) else (none)) else (none)))) r) : Ev (fun k => impl_RunClock.l1 k x1 x7 x8 x9 x28 x29 x30) r := Ev.step (fun k => by rw [impl_RunClock.l1]) h
theorem st_spec_RunClock_j0 {r : (Int × (List (S47)) × (List (S50)) × Bool)} {x1 : Int} {x21 : Bool} {x315000 : Int} {x315001 : List (S47)} (h : Ev (fun k => if x21 = true then (some (0, ([] : List (S47)), ([] : List (S50)), false)) else ((some (([] : List (S47)) : List (S47))).bind fun y318 => (if y318.length + x315001.length < 4398046511104 then (spec_RunClock.l0 k x1 (y318 ++ x315001) ([] : List (S50))) else (none)))) r) : Ev (fun k => spec_RunClock.j0 k x1 x21 x315000 x315001) r := Ev.step (fun k => by rw [spec_RunClock.j0]) h
theorem st_spec_RunClock_l0 {r : (Int × (List (S47)) × (List (S50)) × Bool)} {x1 : Int} {x7 : List (S47)} {x8 : List (S50)} (h : Ev (fun k => spec_RunClock.l1 k x1 x7 x8 (-1) x7 (x7.length : Int) 0) r) : Ev (fun k => spec_RunClock.l0 k x1 x7 x8) r := Ev.step (fun k => by rw [spec_RunClock.l0]) h
theorem st_spec_RunClock_l1 {r : (Int × (List (S47)) × (List (S50)) × Bool)} {x1 : Int} {x7 : List (S47)} {x8 : List (S50)} {x9 : Int} {x27 : List (S47)} {x28 : Int} {x29 : Int} (h : Ev (fun k => if x29 < x28 then (if 0 ≤ x29 then (if x29 < (x27.length : Int) then (if ((rd_T47 x27 x29).f1) ≤ x1 then (if x9 < 0 then (spec_RunClock.l1 k x1 x7 x8 x29 x27 x28 (wrap64 (x29 + 1))) else (if 0 ≤ x9 then (if x9 < (x7.length : Int) then (if ((rd_T47 x27 x29).f1) < ((rd_T47 x7 x9).f1) then (spec_RunClock.l1 k x1 x7 x8 x29 x27 x28 (wrap64 (x29 + 1))) else (spec_RunClock.l1 k x1 x7 x8 x9 x27 x28 (wrap64 (x29 + 1)))) else (none)) else (none))) else (spec_RunClock.l1 k x1 x7 x8 x9 x27 x28 (wrap64 (x29 + 1)))) else (none)) else (none)) else (if x9 < 0 then (some (x1, x7, x8, true)) else (if (x8.length : Int) = 2000 then (some (0, ([] : List (S47)), ([] : List (S50)), false)) else (if 0 ≤ x9 then (if x9 < (x7.length : Int) then (if x8.length < 8796093022208 then ((some (x8 ++ [(⟨(rd_T47 x7 x9).f1, (rd_T47 x7 x9).f0⟩ : S50)] : List (S50))).bind fun y329 => (if ((rd_T47 x7 x9).f2) > 0 then (if ((rd_T47 x7 x9).f3) > 1 then ((some (x7.set (x9 : Int).toNat (⟨(rd_T47 x7 x9).f0, (rd_T47 x7 x9).f1, (rd_T47 x7 x9).f2, wrap64 (((rd_T47 x7 x9).f3) - 1)⟩ : S47) : List (S47))).bind fun y335 => (spec_RunClock.l0 k x1 (y335.set (x9 : Int).toNat (⟨(rd_T47 y335 x9).f0, wrap64 (((rd_T47 y335 x9).f1) + ((rd_T47 y335 x9).f2)), (rd_T47 y335 x9).f2, (rd_T47 y335 x9).f3⟩ : S47)) y329)) else (if x9 ≤ (x7.length : Int) then (if 0 ≤ (wrap64 (x9 + 1)) then (if (wrap64 (x9 + 1)) ≤ (x7.length : Int) then (spec_RunClock.l0 k x1 (x7.eraseIdx (x9 : Int).toNat) y329) else (none)) else (none)) else (none))) else (if x9 ≤ (x7.length : Int) then (if 0 ≤ (wrap64 (x9 + 1)) then (if (wrap64 (x9 + 1)) ≤ (x7.length : Int) then (spec_RunClock.l0 k x1 (x7.eraseIdx (x9 : Int).toNat) y329) else (none)) else (none)) else (none)))) else (none)) else (none)) else (none))))) r) : Ev (fun k => spec_RunClock.l1 k x1 x7 x8 x9 x27 x28 x29) r := Ev.step (fun k => by rw [spec_RunClock.l1]) h
theorem st_laws_FnPieces_j0 {r : (Bool)} {x4 : Int} {x6 : List (S50)} {x7 : Bool} {x47 : Bool} {x371000 : Int} {x371001 : List (S47)} {x380000 : Int} {x380001 : List (S47)} (h : Ev (fun k => if x47 = true then (some false) else (if x7 = true then ((impl_RunClock.f k x371000 x371001 (wrap64 (x371000 + (wrap64 (Int.tdiv (wrap64 (x4 - x371000)) 2))))).bind fun bt390 => ((impl_RunClock.f k bt390.1 bt390.2.1 x4).bind fun bt399 => (if bt390.2.2.2 = true then (if bt399.2.2.2 = true then (if bt390.2.2.1.length + bt399.2.2.1.length < 8796093022208 then ((laws_sameFired.f k (bt390.2.2.1 ++ bt399.2.2.1) x6).bind fun t411 => (if t411 = true then (if bt399.1 = x380000 then ((laws_sameTimers.f k x380001 bt399.2.1).bind fun t412 => (some t412)) else (some false)) else (some false))) else (none)) else (some false)) else (some false)))) else (some true))) r) : Ev (fun k => laws_FnPieces.j0 k x4 x6 x7 x47 x371000 x371001 x380000 x380001) r := Ev.step (fun k => by rw [laws_FnPieces.j0]) h
theorem st_spec_GoodClock_j0 {r : (Bool)} {x14 : Bool} {x160000 : Int} {x160001 : List (S47)} (h : Ev (fun k => if x14 = true then (some false) else (spec_GoodClock.l0 k x160001 (x160001.length : Int) 0 x160000 x160001)) r) : Ev (fun k => spec_GoodClock.j0 k x14 x160000 x160001) r := Ev.step (fun k => by rw [spec_GoodClock.j0]) h
theorem st_spec_GoodClock_l0 {r : (Bool)} {x16 : List (S47)} {x17 : Int} {x18 : Int} {x160000 : Int} {x160001 : List (S47)} (h : Ev (fun k => if x18 < x17 then (if 0 ≤ x18 then (if x18 < (x16.length : Int) then ((spec_l1In.f ((rd_T47 x16 x18).f0) 0 999).bind fun t163 => (if t163 = true then (if x18 > 0 then (if 0 ≤ (wrap64 (x18 - 1)) then (if (wrap64 (x18 - 1)) < (x160001.length : Int) then (if ((rd_T47 x160001 (wrap64 (x18 - 1))).f0) ≥ ((rd_T47 x16 x18).f0) then (some false) else ((spec_l1In.f ((rd_T47 x16 x18).f1) (wrap64 (x160000 + 1)) 200000).bind fun t165 => (if t165 = true then ((spec_l1In.f ((rd_T47 x16 x18).f2) 0 100000).bind fun t166 => (if t166 = true then ((spec_l1In.f ((rd_T47 x16 x18).f3) 1 1000).bind fun t167 => (if t167 = true then (if ((rd_T47 x16 x18).f2) = 0 then (if ((rd_T47 x16 x18).f3) = 1 then (spec_GoodClock.l0 k x16 x17 (wrap64 (x18 + 1)) x160000 x160001) else (some false)) else (spec_GoodClock.l0 k x16 x17 (wrap64 (x18 + 1)) x160000 x160001)) else (some false))) else (some false))) else (some false)))) else (none)) else (none)) else ((spec_l1In.f ((rd_T47 x16 x18).f1) (wrap64 (x160000 + 1)) 200000).bind fun t168 => (if t168 = true then ((spec_l1In.f ((rd_T47 x16 x18).f2) 0 100000).bind fun t169 => (if t169 = true then ((spec_l1In.f ((rd_T47 x16 x18).f3) 1 1000).bind fun t170 => (if t170 = true then (if ((rd_T47 x16 x18).f2) = 0 then (if ((rd_T47 x16 x18).f3) = 1 then (spec_GoodClock.l0 k x16 x17 (wrap64 (x18 + 1)) x160000 x160001) else (some false)) else (spec_GoodClock.l0 k x16 x17 (wrap64 (x18 + 1)) x160000 x160001)) else (some false))) else (some false))) else (some false)))) else (some false))) else (none)) else (none)) else (some true)) r) : Ev (fun k => spec_GoodClock.l0 k x16 x17 x18 x160000 x160001) r := Ev.step (fun k => by rw [spec_GoodClock.l0]) h
theorem st_spec_AddTimer_l0 {r : (Int × (List (S47)) × Bool)} {x6 : List (S47)} {x7 : Bool} {x16 : List (S47)} {x17 : Int} {x18 : Int} {x172000 : Int} {x172001 : List (S47)} {x173000 : Int} {x173001 : Int} {x173002 : Int} {x173003 : Int} (h : Ev (fun k => if x18 < x17 then (if 0 ≤ x18 then (if x18 < (x16.length : Int) then (if x7 = true then (spec_AddTimer.j1 k x6 x7 x16 x17 x18 false x172000 x172001 x173000 x173001 x173002 x173003 ((rd_T47 x16 x18).f0) ((rd_T47 x16 x18).f1) ((rd_T47 x16 x18).f2) ((rd_T47 x16 x18).f3)) else (spec_AddTimer.j1 k x6 x7 x16 x17 x18 (decide (((rd_T47 x16 x18).f0) ≥ x173000)) x172000 x172001 x173000 x173001 x173002 x173003 ((rd_T47 x16 x18).f0) ((rd_T47 x16 x18).f1) ((rd_T47 x16 x18).f2) ((rd_T47 x16 x18).f3))) else (none)) else (none)) else (if x7 = true then ((spec_GoodClock.f k x172000 x6).bind fun t187 => (if t187 = true then (some (x172000, x6, true)) else (some (0, ([] : List (S47)), false)))) else (if x6.length < 4398046511104 then ((some (x6 ++ [(⟨x173000, x173001, x173002, x173003⟩ : S47)] : List (S47))).bind fun y188 => ((spec_GoodClock.f k x172000 y188).bind fun t192 => (if t192 = true then (some (x172000, y188, true)) else (some (0, ([] : List (S47)), false))))) else (none)))) r) : Ev (fun k => spec_AddTimer.l0 k x6 x7 x16 x17 x18 x172000 x172001 x173000 x173001 x173002 x173003) r := Ev.step (fun k => by rw [spec_AddTimer.l0]) h
theorem st_spec_AddTimer_j1 {r : (Int × (List (S47)) × Bool)} {x6 : List (S47)} {x7 : Bool} {x16 : List (S47)} {x17 : Int} {x18 : Int} {x30 : Bool} {x172000 : Int} {x172001 : List (S47)} {x173000 : Int} {x173001 : Int} {x173002 : Int} {x173003 : Int} {x177000 : Int} {x177001 : Int} {x177002 : Int} {x177003 : Int} (h : Ev (fun k => if x30 = true then (if x6.length < 4398046511104 then ((some (x6 ++ [(⟨x173000, x173001, x173002, x173003⟩ : S47)] : List (S47))).bind fun y177 => (if x177000 = x173000 then (spec_AddTimer.l0 k y177 true x16 x17 (wrap64 (x18 + 1)) x172000 x172001 x173000 x173001 x173002 x173003) else (if y177.length < 4398046511104 then (spec_AddTimer.l0 k (y177 ++ [(⟨x177000, x177001, x177002, x177003⟩ : S47)]) true x16 x17 (wrap64 (x18 + 1)) x172000 x172001 x173000 x173001 x173002 x173003) else (none)))) else (none)) else (if x177000 = x173000 then (spec_AddTimer.l0 k x6 x7 x16 x17 (wrap64 (x18 + 1)) x172000 x172001 x173000 x173001 x173002 x173003) else (if x6.length < 4398046511104 then (spec_AddTimer.l0 k (x6 ++ [(⟨x177000, x177001, x177002, x177003⟩ : S47)]) x7 x16 x17 (wrap64 (x18 + 1)) x172000 x172001 x173000 x173001 x173002 x173003) else (none)))) r) : Ev (fun k => spec_AddTimer.j1 k x6 x7 x16 x17 x18 x30 x172000 x172001 x173000 x173001 x173002 x173003 x177000 x177001 x177002 x177003) r := Ev.step (fun k => by rw [spec_AddTimer.j1]) h
theorem st_spec_l1Cur_clock_l0 {r : (Int × (List (S47)) × Int × Int)} {x4 : Int} {x1000 : List Int} {x1001 : Int} {x1002 : Int} {x198000 : Int} {x198001 : List (S47)} (h : Ev (fun k => if x4 > 0 then ((spec_l1Cur_timer.f k x1000 x1001 x1002 x198000).bind fun bt204 => ((spec_l1Cur_one.f x1000 bt204.2.2.2.2.1 bt204.2.2.2.2.2 3).bind fun bt211 => (if bt211.1 = true then ((spec_l1Cur_pick.f x1000 bt211.2.1 bt211.2.2 1000).bind fun bt214 => ((spec_AddTimer.f k x198000 x198001 bt214.1 bt204.2.1 bt204.2.2.1 bt204.2.2.2.1).bind fun bt217 => (if bt217.2.2 = true then (spec_l1Cur_clock.l0 k (wrap64 (x4 - 1)) x1000 bt214.2.1 bt214.2.2 bt217.1 bt217.2.1) else (spec_l1Cur_clock.l0 k (wrap64 (x4 - 1)) x1000 bt214.2.1 bt214.2.2 x198000 x198001)))) else ((spec_AddTimer.f k x198000 x198001 bt204.1 bt204.2.1 bt204.2.2.1 bt204.2.2.2.1).bind fun bt223 => (if bt223.2.2 = true then (spec_l1Cur_clock.l0 k (wrap64 (x4 - 1)) x1000 bt211.2.1 bt211.2.2 bt223.1 bt223.2.1) else (spec_l1Cur_clock.l0 k (wrap64 (x4 - 1)) x1000 bt211.2.1 bt211.2.2 x198000 x198001)))))) else ((spec_l1Cur_one.f x1000 x1001 x1002 30).bind fun bt229 => (if bt229.1 = true then ((spec_l1Cur_timer.f k x1000 bt229.2.1 bt229.2.2 x198000).bind fun bt232 => (if x198001.length < 4398046511104 then (spec_l1Cur_clock.j2 k x1000 bt232.2.2.2.2.1 bt232.2.2.2.2.2 x198000 (x198001 ++ [(⟨bt232.1, bt232.2.1, bt232.2.2.1, bt232.2.2.2.1⟩ : S47)])) else (none))) else (spec_l1Cur_clock.j2 k x1000 bt229.2.1 bt229.2.2 x198000 x198001)))) r) : Ev (fun k => spec_l1Cur_clock.l0 k x4 x1000 x1001 x1002 x198000 x198001) r := Ev.step (fun k => by rw [spec_l1Cur_clock.l0]) h
theorem st_spec_l1Cur_clock_j2 {r : (Int × (List (S47)) × Int × Int)} {x1000 : List Int} {x1001 : Int} {x1002 : Int} {x198000 : Int} {x198001 : List (S47)} (h : Ev (fun _ => (spec_l1Cur_one.f x1000 x1001 x1002 40).bind fun bt241 => (if bt241.1 = true then ((spec_l1Cur_among.f x1000 bt241.2.1 bt241.2.2 (([(-1), 100000, 100001] : List Int))).bind fun bt247 => (some (bt247.1, x198001, bt247.2.1, bt247.2.2))) else (some (x198000, x198001, bt241.2.1, bt241.2.2)))) r) : Ev (fun k => spec_l1Cur_clock.j2 k x1000 x1001 x1002 x198000 x198001) r := Ev.step (fun k => by rw [spec_l1Cur_clock.j2]) h
theorem st_impl_GoodClock_j0 {r : (Bool)} {x14 : Bool} {x278000 : Int} {x278001 : List (S47)} (h : Ev (fun k => if x14 = true then (some false) else (impl_GoodClock.l0 k x278001 (x278001.length : Int) 0 x278000 x278001)) r) : Ev (fun k => impl_GoodClock.j0 k x14 x278000 x278001) r := Ev.step (fun k => by rw [impl_GoodClock.j0]) h
theorem st_impl_GoodClock_l0 {r : (Bool)} {x16 : List (S47)} {x17 : Int} {x18 : Int} {x278000 : Int} {x278001 : List (S47)} (h : Ev (fun k => if x18 < x17 then (if 0 ≤ x18 then (if x18 < (x16.length : Int) then ((impl_isTimer.f ((rd_T47 x16 x18).f0) ((rd_T47 x16 x18).f1) ((rd_T47 x16 x18).f2) ((rd_T47 x16 x18).f3) x278000).bind fun t281 => (if t281 = true then (if x18 > 0 then (if 0 ≤ (wrap64 (x18 - 1)) then (if (wrap64 (x18 - 1)) < (x278001.length : Int) then (if ((rd_T47 x278001 (wrap64 (x18 - 1))).f0) ≥ ((rd_T47 x16 x18).f0) then (some false) else (impl_GoodClock.l0 k x16 x17 (wrap64 (x18 + 1)) x278000 x278001)) else (none)) else (none)) else (impl_GoodClock.l0 k x16 x17 (wrap64 (x18 + 1)) x278000 x278001)) else (some false))) else (none)) else (none)) else (some true)) r) : Ev (fun k => impl_GoodClock.l0 k x16 x17 x18 x278000 x278001) r := Ev.step (fun k => by rw [impl_GoodClock.l0]) h
theorem in_some (a b c : Int) : spec_l1In.f a b c = some (decide (b ≤ a ∧ a ≤ c)) := by
  unfold spec_l1In.f
  split <;> simp_all <;> omega
theorem in_same (a b c : Int) : impl_inRange.f a b c = spec_l1In.f a b c := rfl
def TimerOk (a : Int) (l : List S47) (i : Nat) : Prop := (0 ≤ (rd_T47 l (i : Int)).f0 ∧ (rd_T47 l (i : Int)).f0 ≤ 999) ∧ (a + 1 ≤ (rd_T47 l (i : Int)).f1 ∧ (rd_T47 l (i : Int)).f1 ≤ 200000) ∧ (0 ≤ (rd_T47 l (i : Int)).f2 ∧ (rd_T47 l (i : Int)).f2 ≤ 100000) ∧ (1 ≤ (rd_T47 l (i : Int)).f3 ∧ (rd_T47 l (i : Int)).f3 ≤ 1000) ∧ ((rd_T47 l (i : Int)).f2 = 0 → (rd_T47 l (i : Int)).f3 = 1)
def StandOk (a : Int) (l : List S47) (i : Nat) : Prop := TimerOk a l i ∧ (0 < i → (rd_T47 l ((i : Int) - 1)).f0 < (rd_T47 l (i : Int)).f0)
def ClockOk (a : Int) (l : List S47) : Prop := (0 ≤ a ∧ a ≤ 100000) ∧ l.length ≤ 20 ∧ ∀ i, i < l.length → StandOk a l i
theorem clock_spec (a : Int) (l : List S47) (t : Bool) (ht : t = true ↔ ClockOk a l) : Ev (fun k => spec_GoodClock.f k a l) t := by
  have j0t : Ev (fun k => spec_GoodClock.j0 k true a l) false := st_spec_GoodClock_j0 (ev_pos rfl (ev_some rfl))
  have no : ¬ ClockOk a l → t = false := bool_false ht
  refine ev_bindc (in_some _ _ _) (ev_ite (fun ha => ?_) fun ha => by rw [no (fun h => ha (decide_eq_true h.1))]; exact j0t)
  have ha := of_decide_eq_true ha
  by_cases hn : (l.length : Int) > 20
  · rw [decide_eq_true hn, no (fun h => by have := h.2.1; omega)]; exact j0t
  rw [decide_eq_false hn]
  refine st_spec_GoodClock_j0 (ev_neg (by decide) ?_)
  refine ev_all l.length (fun k i => spec_GoodClock.l0 k l (l.length : Int) (i : Int) a l) (StandOk a l) true t ?_ ?_ ?_ ?_
  · rw [ht]; unfold ClockOk; exact ⟨fun h => ⟨rfl, h.2.2⟩, fun h => ⟨ha, by omega, h.2⟩⟩
  · exact st_spec_GoodClock_l0 (ev_neg (by omega) (ev_some rfl))
  · intro i hi _ ⟨⟨h0, h1, h2, h3, h4⟩, h5⟩ r hr
    have e1 : wrap64 (a + 1) = a + 1 := w64 (by omega) (by omega)
    have e2 : wrap64 ((i : Int) - 1) = (i : Int) - 1 := w64 (by omega) (by omega)
    refine st_spec_GoodClock_l0 (ev_pos (by omega) (ev_pos (by omega) (ev_pos (by omega) (ev_bindc (in_some _ _ _) (ev_pos (decide_eq_true h0) ?_)))))
    rw [e1, e2]
    refine ev_ite (fun hi0 => ev_pos (by omega) (ev_pos (by omega) (ev_neg (by have := h5 (by omega); omega) ?_))) fun hi0 => ?_
    all_goals
      refine ev_bindc (in_some _ _ _) (ev_pos (decide_eq_true h1) (ev_bindc (in_some _ _ _) (ev_pos (decide_eq_true h2) (ev_bindc (in_some _ _ _) (ev_pos (decide_eq_true h3) ?_)))))
      refine ev_ite (fun hz => ?_) fun hz => ?_
      · refine ev_pos (h4 hz) ?_
        rw [w64s i (by omega)]; exact hr
      · rw [w64s i (by omega)]; exact hr
  · intro i hi _ ho
    have e1 : wrap64 (a + 1) = a + 1 := w64 (by omega) (by omega)
    have e2 : wrap64 ((i : Int) - 1) = (i : Int) - 1 := w64 (by omega) (by omega)
    have bad : Ev (fun _ => some false) false := ev_some rfl
    refine st_spec_GoodClock_l0 (ev_pos (by omega) (ev_pos (by omega) (ev_pos (by omega) (ev_bindc (in_some _ _ _) (ev_ite (fun h0 => ?_) fun _ => bad)))))
    rw [e1, e2]
    refine ev_ite (fun hi0 => ev_pos (by omega) (ev_pos (by omega) (ev_ite (fun _ => bad) fun h5 => ?_))) fun hi0 => ?_
    all_goals
      refine ev_bindc (in_some _ _ _) (ev_ite (fun h1 => ?_) fun _ => bad)
      refine ev_bindc (in_some _ _ _) (ev_ite (fun h2 => ?_) fun _ => bad)
      refine ev_bindc (in_some _ _ _) (ev_ite (fun h3 => ?_) fun _ => bad)
      refine ev_ite (fun hz => ?_) fun hz => ?_
      · by_cases h4 : (rd_T47 l (i : Int)).f3 = 1
        · exact absurd ⟨⟨of_decide_eq_true h0, of_decide_eq_true h1, of_decide_eq_true h2, of_decide_eq_true h3, fun _ => h4⟩, fun _ => by omega⟩ ho
        · exact ev_neg h4 bad
      · exact absurd ⟨⟨of_decide_eq_true h0, of_decide_eq_true h1, of_decide_eq_true h2, of_decide_eq_true h3, fun h => absurd h hz⟩, fun _ => by omega⟩ ho
theorem timer_impl (a : Int) (ha : 0 ≤ a ∧ a ≤ 100000) (l : List S47) (i : Nat) : ∃ c : Bool, impl_isTimer.f (rd_T47 l (i : Int)).f0 (rd_T47 l (i : Int)).f1 (rd_T47 l (i : Int)).f2 (rd_T47 l (i : Int)).f3 a = some c ∧ (c = true ↔ TimerOk a l i) := by
  have e1 : wrap64 (a + 1) = a + 1 := w64 (by omega) (by omega)
  unfold impl_isTimer.f impl_isTime.f TimerOk
  rw [e1]
  simp only [in_same, in_some, Option.bind_some]
  generalize rd_T47 l (i : Int) = x
  by_cases h0 : 0 ≤ x.f0 ∧ x.f0 ≤ 999
  · by_cases h1 : a + 1 ≤ x.f1 ∧ x.f1 ≤ 200000
    · by_cases h2 : 0 ≤ x.f2 ∧ x.f2 ≤ 100000
      · by_cases h3 : 1 ≤ x.f3 ∧ x.f3 ≤ 1000
        · rw [decide_eq_true h0, if_pos rfl, decide_eq_true h1, if_pos rfl, decide_eq_true h2, if_pos rfl, decide_eq_true h3, if_pos rfl]
          by_cases hz : x.f2 > 0
          · rw [if_pos hz]; exact ⟨_, rfl, ⟨fun _ => ⟨h0, h1, h2, h3, fun h => by omega⟩, fun _ => rfl⟩⟩
          · rw [if_neg hz]
            refine ⟨_, rfl, ⟨fun h => ⟨h0, h1, h2, h3, fun _ => by simpa using h⟩, fun h => ?_⟩⟩
            rw [h.2.2.2.2 (by omega)]; rfl
        · rw [decide_eq_true h0, if_pos rfl, decide_eq_true h1, if_pos rfl, decide_eq_true h2, if_pos rfl, decide_eq_false h3, if_neg (by decide)]
          exact ⟨_, rfl, ⟨fun h => (by cases h), fun h => absurd h.2.2.2.1 h3⟩⟩
      · rw [decide_eq_true h0, if_pos rfl, decide_eq_true h1, if_pos rfl, decide_eq_false h2, if_neg (by decide)]
        exact ⟨_, rfl, ⟨fun h => (by cases h), fun h => absurd h.2.2.1 h2⟩⟩
    · rw [decide_eq_true h0, if_pos rfl, decide_eq_false h1, if_neg (by decide)]
      exact ⟨_, rfl, ⟨fun h => (by cases h), fun h => absurd h.2.1 h1⟩⟩
  · rw [decide_eq_false h0, if_neg (by decide)]
    exact ⟨_, rfl, ⟨fun h => (by cases h), fun h => absurd h.1 h0⟩⟩
theorem clock_impl (a : Int) (l : List S47) (t : Bool) (ht : t = true ↔ ClockOk a l) : Ev (fun k => impl_GoodClock.f k a l) t := by
  have j0t : Ev (fun k => impl_GoodClock.j0 k true a l) false := st_impl_GoodClock_j0 (ev_pos rfl (ev_some rfl))
  have no : ¬ ClockOk a l → t = false := bool_false ht
  have time : impl_isTime.f a = some (decide (0 ≤ a ∧ a ≤ 100000)) := by unfold impl_isTime.f; rw [in_same, in_some]; rfl
  refine ev_bindc time (ev_ite (fun ha => ?_) fun ha => by rw [no (fun h => ha (decide_eq_true h.1))]; exact j0t)
  have ha := of_decide_eq_true ha
  by_cases hn : (l.length : Int) > 20
  · rw [decide_eq_true hn, no (fun h => by have := h.2.1; omega)]; exact j0t
  rw [decide_eq_false hn]
  refine st_impl_GoodClock_j0 (ev_neg (by decide) ?_)
  refine ev_all l.length (fun k i => impl_GoodClock.l0 k l (l.length : Int) (i : Int) a l) (StandOk a l) true t ?_ ?_ ?_ ?_
  · rw [ht]; unfold ClockOk; exact ⟨fun h => ⟨rfl, h.2.2⟩, fun h => ⟨ha, by omega, h.2⟩⟩
  · exact st_impl_GoodClock_l0 (ev_neg (by omega) (ev_some rfl))
  · intro i hi _ ⟨h4, h5⟩ r hr
    obtain ⟨c, hc, hc'⟩ := timer_impl a ha l i
    obtain rfl := hc'.2 h4
    have e2 : wrap64 ((i : Int) - 1) = (i : Int) - 1 := w64 (by omega) (by omega)
    refine st_impl_GoodClock_l0 (ev_pos (by omega) (ev_pos (by omega) (ev_pos (by omega) (ev_bindc hc (ev_pos rfl ?_)))))
    rw [e2]
    refine ev_ite (fun hi0 => ev_pos (by omega) (ev_pos (by omega) ?_)) fun hi0 => ?_
    · refine ev_neg (by have := h5 (by omega); omega) ?_
      rw [w64s i (by omega)]; exact hr
    · rw [w64s i (by omega)]; exact hr
  · intro i hi _ ho
    obtain ⟨c, hc, hc'⟩ := timer_impl a ha l i
    have e2 : wrap64 ((i : Int) - 1) = (i : Int) - 1 := w64 (by omega) (by omega)
    have bad : Ev (fun _ => some false) false := ev_some rfl
    refine st_impl_GoodClock_l0 (ev_pos (by omega) (ev_pos (by omega) (ev_pos (by omega) (ev_bindc hc (ev_ite (fun h0 => ?_) fun _ => bad)))))
    rw [e2]
    refine ev_ite (fun hi0 => ev_pos (by omega) (ev_pos (by omega) ?_)) fun hi0 => ?_
    · by_cases h5 : (rd_T47 l ((i : Int) - 1)).f0 ≥ (rd_T47 l (i : Int)).f0
      · exact ev_pos h5 bad
      · exact absurd ⟨hc'.1 h0, fun _ => by omega⟩ ho
    · exact absurd ⟨hc'.1 h0, fun h => by omega⟩ ho
theorem clock_rise {a : Int} {l : List S47} (h : ClockOk a l) : ∀ d i : Nat, i + d + 1 < l.length → (rd_T47 l (i : Int)).f0 < (rd_T47 l ((i + d + 1 : Nat) : Int)).f0 := by
  intro d
  induction d with
  | zero =>
    intro i hi
    have := (h.2.2 (i + 1) (by omega)).2 (by omega)
    have e : (((i + 1 : Nat) : Int) - 1) = (i : Int) := by omega
    rw [e] at this
    exact this
  | succ d ih =>
    intro i hi
    have h1 := ih i (by omega)
    have h2 := (h.2.2 (i + d + 1 + 1) (by omega)).2 (by omega)
    have e : (((i + d + 1 + 1 : Nat) : Int) - 1) = ((i + d + 1 : Nat) : Int) := by omega
    rw [e] at h2
    exact Int.lt_trans h1 h2
theorem clock_rises {a : Int} {l : List S47} (h : ClockOk a l) (i j : Nat) (hij : i < j) (hj : j < l.length) : (rd_T47 l (i : Int)).f0 < (rd_T47 l (j : Int)).f0 := by
  obtain ⟨d, rfl⟩ : ∃ d, j = i + d + 1 := ⟨j - i - 1, by omega⟩
  exact clock_rise h d i hj
theorem rd_timer (l : List S47) (i : Nat) (h : i < l.length) : rd_T47 l (i : Int) = l[i] := by
  simp [rd_T47, List.getD_eq_getElem?_getD, h]
theorem spot (l : List S47) (id : Int) : ∃ p : Nat, p ≤ l.length ∧ (∀ i : Nat, i < p → (rd_T47 l (i : Int)).f0 < id) ∧ (p < l.length → id ≤ (rd_T47 l (p : Int)).f0) := by
  have h : ∀ n : Nat, n ≤ l.length → (∀ i : Nat, i < n → (rd_T47 l (i : Int)).f0 < id) ∨ ∃ p : Nat, p < n ∧ (∀ i : Nat, i < p → (rd_T47 l (i : Int)).f0 < id) ∧ id ≤ (rd_T47 l (p : Int)).f0 := by
    intro n
    induction n with
    | zero => intro _; exact .inl (fun i hi => by omega)
    | succ n ih =>
      intro hn
      rcases ih (by omega) with h | ⟨p, hp, h1, h2⟩
      · by_cases hc : (rd_T47 l (n : Int)).f0 < id
        · refine .inl (fun i hi => ?_)
          rcases Nat.lt_or_ge i n with h' | h'
          · exact h i h'
          · obtain rfl : i = n := by omega
            exact hc
        · exact .inr ⟨n, by omega, h, by omega⟩
      · exact .inr ⟨p, by omega, h1, h2⟩
  rcases h l.length (Nat.le_refl _) with h | ⟨p, hp, h1, h2⟩
  · exact ⟨l.length, Nat.le_refl _, h, fun hh => by omega⟩
  · exact ⟨p, by omega, h1, fun _ => h2⟩
def put (l : List S47) (p e : Nat) (x : S47) : List S47 := l.take p ++ [x] ++ l.drop (p + e)
def same1 (l : List S47) (p : Nat) (id : Int) : Nat := if p < l.length ∧ (rd_T47 l (p : Int)).f0 = id then 1 else 0
theorem put_length (l : List S47) (p e : Nat) (x : S47) (hp : p ≤ l.length) : (put l p e x).length ≤ l.length + 1 := by
  simp only [put, List.length_append, List.length_take, List.length_drop, List.length_singleton]; omega
def outOf (a : Int) (l : List S47) (t : Bool) : Int × List S47 × Bool := if t = true then (a, l, true) else (0, [], false)
theorem add_spec (a : Int) (l : List S47) (hok : ClockOk a l) (x : S47) (p : Nat) (hp : p ≤ l.length) (h1 : ∀ i : Nat, i < p → (rd_T47 l (i : Int)).f0 < x.f0) (h2 : p < l.length → x.f0 ≤ (rd_T47 l (p : Int)).f0) (t : Bool) (ht : t = true ↔ ClockOk a (put l p (same1 l p x.f0) x)) :
    Ev (fun k => spec_AddTimer.l0 k [] false l (l.length : Int) 0 a l x.f0 x.f1 x.f2 x.f3) (outOf a (put l p (same1 l p x.f0) x) t) := by
  have hl := hok.2.1
  have hpl := put_length l p (same1 l p x.f0) x hp
  have hgood := clock_spec a (put l p (same1 l p x.f0) x) t ht
  refine ev_for1 l.length (fun k i (s : List S47 × Bool) => spec_AddTimer.l0 k s.1 s.2 l (l.length : Int) (i : Int) a l x.f0 x.f1 x.f2 x.f3) (fun i s => s = if i ≤ p then (l.take i, false) else (l.take p ++ [x] ++ (l.take i).drop (p + same1 l p x.f0), true)) _ ?_ ?_ 0 ([], false) (Nat.zero_le _) (by rw [if_pos (Nat.zero_le _)]; rfl)
  · intro s hs
    have hfin : ∀ r : Bool, Ev (fun k => (spec_GoodClock.f k a (put l p (same1 l p x.f0) x)).bind fun t131 => (if t131 = true then (some (a, put l p (same1 l p x.f0) x, true)) else (some (0, ([] : List (S47)), false)))) (outOf a (put l p (same1 l p x.f0) x) t) := fun _ => by
      refine Ev.bind hgood ?_
      unfold outOf
      cases t
      · exact ev_neg (by decide) (ev_some rfl)
      · exact ev_pos rfl (ev_some rfl)
    by_cases hpl' : l.length ≤ p
    · obtain rfl : p = l.length := by omega
      rw [if_pos (Nat.le_refl _), List.take_length] at hs
      subst hs
      have e : put l l.length (same1 l l.length x.f0) x = l ++ [x] := by
        unfold put
        rw [List.take_length, List.drop_eq_nil_of_le (by omega), List.append_nil]
      have hfin := hfin true
      rw [e] at hfin ⊢
      exact st_spec_AddTimer_l0 (ev_neg (by omega) (ev_neg (by simp) (ev_pos (by show l.length < _; omega) (ev_bindc rfl hfin))))
    · rw [if_neg hpl', List.take_length] at hs
      subst hs
      exact st_spec_AddTimer_l0 (ev_neg (by omega) (ev_pos rfl (hfin true)))
  · intro i s hi hs
    subst hs
    have hx := rd_timer l i hi
    have ei : (⟨(rd_T47 l (i : Int)).f0, (rd_T47 l (i : Int)).f1, (rd_T47 l (i : Int)).f2, (rd_T47 l (i : Int)).f3⟩ : S47) = l[i] := by rw [hx]
    have htk : l.take (i + 1) = l.take i ++ [l[i]] := List.take_succ_eq_append_getElem hi
    refine .inr ⟨_, rfl, fun r hr => ?_⟩
    rcases Nat.lt_trichotomy i p with hip | hip | hip
    · rw [if_pos (show i + 1 ≤ p by omega)] at hr
      rw [if_pos (show i ≤ p by omega)]
      have hlt := h1 i hip
      refine st_spec_AddTimer_l0 (ev_pos (by omega) (ev_pos (by omega) (ev_pos (by omega) (ev_neg (by simp) ?_))))
      rw [decide_eq_false (by omega)]
      show Ev (fun k => spec_AddTimer.j1 k (l.take i) false l (l.length : Int) (i : Int) false a l x.f0 x.f1 x.f2 x.f3 _ _ _ _) r
      refine st_spec_AddTimer_j1 (ev_neg (by decide) (ev_neg (by omega) (ev_pos (by rw [List.length_take]; omega) ?_)))
      rw [w64s i (by omega), ei, ← htk]
      exact hr
    · subst hip
      rw [if_neg (show ¬ i + 1 ≤ i by omega)] at hr
      rw [if_pos (Nat.le_refl i)]
      have hge := h2 hi
      refine st_spec_AddTimer_l0 (ev_pos (by omega) (ev_pos (by omega) (ev_pos (by omega) (ev_neg (by simp) ?_))))
      rw [decide_eq_true (by omega)]
      show Ev (fun k => spec_AddTimer.j1 k (l.take i) false l (l.length : Int) (i : Int) true a l x.f0 x.f1 x.f2 x.f3 _ _ _ _) r
      refine st_spec_AddTimer_j1 (ev_pos rfl (ev_pos (by rw [List.length_take]; omega) (ev_bindc rfl ?_)))
      by_cases he : (rd_T47 l (i : Int)).f0 = x.f0
      · refine ev_pos he ?_
        have e1 : same1 l i x.f0 = 1 := if_pos ⟨hi, he⟩
        rw [e1, List.drop_eq_nil_of_le (by rw [List.length_take]; omega), List.append_nil] at hr
        rw [w64s i (by omega)]
        exact hr
      · refine ev_neg he (ev_pos (by rw [List.length_append, List.length_take]; simp; omega) ?_)
        have e1 : same1 l i x.f0 = 0 := if_neg (fun h => he h.2)
        rw [e1, Nat.add_zero, htk, List.drop_left' (by rw [List.length_take]; omega)] at hr
        rw [w64s i (by omega), ei]
        exact hr
    · rw [if_neg (show ¬ i + 1 ≤ p by omega)] at hr
      rw [if_neg (show ¬ i ≤ p by omega)]
      have hr1 := clock_rises hok p i hip hi
      have hge := h2 (by omega)
      have e2 : same1 l p x.f0 ≤ 1 := by unfold same1; split <;> omega
      refine st_spec_AddTimer_l0 (ev_pos (by omega) (ev_pos (by omega) (ev_pos (by omega) (ev_pos rfl ?_))))
      show Ev (fun k => spec_AddTimer.j1 k (l.take p ++ [x] ++ (l.take i).drop (p + same1 l p x.f0)) true l (l.length : Int) (i : Int) false a l x.f0 x.f1 x.f2 x.f3 _ _ _ _) r
      refine st_spec_AddTimer_j1 (ev_neg (by decide) (ev_neg (by omega) (ev_pos (by simp only [List.length_append, List.length_take, List.length_drop, List.length_singleton]; omega) ?_)))
      rw [htk, List.drop_append_of_le_length (by rw [List.length_take]; omega), ← List.append_assoc] at hr
      rw [w64s i (by omega), ei]
      exact hr
abbrev R (l : List S47) (i : Nat) : S47 := rd_T47 l (i : Int)
def IsNext (l : List S47) (u : Int) (k : Nat) : Prop := k < l.length ∧ (R l k).f1 ≤ u ∧ ∀ j, j < l.length → (R l j).f1 ≤ u → (R l k).f1 ≤ (R l j).f1 ∧ ((R l j).f1 ≤ (R l k).f1 → k ≤ j)
def after (l : List S47) (k : Nat) : List S47 := if (R l k).f2 > 0 ∧ (R l k).f3 > 1 then l.set k ⟨(R l k).f0, (R l k).f1 + (R l k).f2, (R l k).f2, (R l k).f3 - 1⟩ else l.eraseIdx k
def fired (l : List S47) (k : Nat) : S50 := ⟨(R l k).f1, (R l k).f0⟩
def Run (u : Int) : List S50 → List S47 → List S47 → Prop
  | [], l, l' => l' = l ∧ ∀ j, j < l.length → u < (R l j).f1
  | f :: fs, l, l' => ∃ k, IsNext l u k ∧ f = fired l k ∧ Run u fs (after l k) l'
def TL (l : List S47) (i : Nat) : Prop := (0 ≤ (R l i).f0 ∧ (R l i).f0 ≤ 999) ∧ (0 ≤ (R l i).f1 ∧ (R l i).f1 ≤ 200000) ∧ (0 ≤ (R l i).f2 ∧ (R l i).f2 ≤ 100000) ∧ (1 ≤ (R l i).f3 ∧ (R l i).f3 ≤ 1000) ∧ ((R l i).f2 = 0 → (R l i).f3 = 1)
def Rising (l : List S47) : Prop := (l.map fun x => x.f0).Pairwise (· < ·)
def TLive (l : List S47) : Prop := l.length ≤ 20 ∧ (∀ i, i < l.length → TL l i) ∧ Rising l
theorem R_get {l : List S47} {i : Nat} (h : i < l.length) : R l i = l[i] := rd_timer l i h
theorem rising_at {l : List S47} (h : Rising l) (i j : Nat) (hij : i < j) (hj : j < l.length) : (R l i).f0 < (R l j).f0 := by
  have := List.pairwise_iff_getElem.1 h i j (by simpa using Nat.lt_trans hij hj) (by simpa using hj) hij
  simp only [List.getElem_map] at this
  rw [R_get hj, R_get (Nat.lt_trans hij hj)]
  exact this
theorem live_of {a : Int} {l : List S47} (h : ClockOk a l) : TLive l := by
  refine ⟨h.2.1, fun i hi => ?_, ?_⟩
  · have h0 := h.1
    obtain ⟨⟨h1, h2, h3, h4, h5⟩, _⟩ := h.2.2 i hi
    exact ⟨h1, ⟨by show (0 : Int) ≤ (rd_T47 l (i : Int)).f1; omega, h2.2⟩, h3, h4, h5⟩
  · unfold Rising
    rw [List.pairwise_iff_getElem]
    intro i j hi hj hij
    simp only [List.length_map] at hi hj
    have := clock_rises h i j hij hj
    rw [rd_timer l i hi, rd_timer l j hj] at this
    simpa using this
theorem clock_of {m : Int} {l : List S47} (hm : 0 ≤ m ∧ m ≤ 100000) (h : TLive l) (hl : ∀ j, j < l.length → m < (R l j).f1) : ClockOk m l := by
  refine ⟨hm, h.1, fun i hi => ?_⟩
  obtain ⟨h1, h2, h3, h4, h5⟩ := h.2.1 i hi
  have hlt : m < (rd_T47 l (i : Int)).f1 := hl i hi
  refine ⟨⟨h1, ⟨by omega, h2.2⟩, h3, h4, h5⟩, fun h0 => ?_⟩
  have h6 := rising_at h.2.2 (i - 1) i (by omega) hi
  have e : ((i : Int) - 1) = ((i - 1 : Nat) : Int) := by omega
  rw [e]; exact h6
theorem live_after {u : Int} (hu : u ≤ 100000) {l : List S47} {k : Nat} (h : TLive l) (hk : IsNext l u k) : TLive (after l k) := by
  obtain ⟨hl, ht, hr⟩ := h
  obtain ⟨k1, k2, _⟩ := hk
  have hT := ht k k1
  unfold after
  split
  · rename_i hc
    have hval : ∀ i, i < l.length → R (l.set k ⟨(R l k).f0, (R l k).f1 + (R l k).f2, (R l k).f2, (R l k).f3 - 1⟩) i = if i = k then ⟨(R l k).f0, (R l k).f1 + (R l k).f2, (R l k).f2, (R l k).f3 - 1⟩ else R l i := by
      intro i hi
      rw [R_get (by rw [List.length_set]; exact hi), List.getElem_set]
      by_cases he : k = i
      · rw [if_pos he, if_pos he.symm]
      · rw [if_neg he, if_neg (fun h => he h.symm), R_get hi]
    refine ⟨by rw [List.length_set]; exact hl, fun i hi => ?_, ?_⟩
    · rw [List.length_set] at hi
      unfold TL
      rw [hval i hi]
      by_cases he : i = k
      · rw [if_pos he]
        obtain ⟨h1, h2, h3, h4, h5⟩ := hT
        exact ⟨h1, ⟨by show 0 ≤ (R l k).f1 + (R l k).f2; omega, by show (R l k).f1 + (R l k).f2 ≤ 200000; omega⟩, h3, ⟨by show 1 ≤ (R l k).f3 - 1; omega, by show (R l k).f3 - 1 ≤ 1000; omega⟩, fun h0 => absurd h0 (by show ¬ (R l k).f2 = 0; omega)⟩
      · rw [if_neg he]; exact ht i hi
    · have e : (l.set k ⟨(R l k).f0, (R l k).f1 + (R l k).f2, (R l k).f2, (R l k).f3 - 1⟩).map (fun x => x.f0) = l.map fun x => x.f0 := by
        rw [List.map_set]
        refine List.ext_getElem (by simp) (fun j h1 h2 => ?_)
        rw [List.getElem_set]
        split
        · rename_i hij
          subst hij
          simp only [List.getElem_map]
          rw [R_get k1]
        · rfl
      unfold Rising
      rw [e]; exact hr
  · have hval : ∀ i, i < (l.eraseIdx k).length → ∃ j, j < l.length ∧ R (l.eraseIdx k) i = R l j := by
      intro i hi
      rw [R_get hi]
      have hm : (l.eraseIdx k)[i] ∈ l := List.mem_of_mem_eraseIdx (List.getElem_mem hi)
      obtain ⟨j, hj, he⟩ := List.getElem_of_mem hm
      exact ⟨j, hj, by rw [R_get hj, he]⟩
    refine ⟨Nat.le_trans (List.length_eraseIdx_le _ _) hl, fun i hi => ?_, hr.sublist ((List.eraseIdx_sublist _ _).map _)⟩
    obtain ⟨j, hj, he⟩ := hval i hi
    unfold TL
    rw [he]; exact ht j hj
theorem run_live {u : Int} (hu : u ≤ 100000) : ∀ (fs : List S50) (l l' : List S47), TLive l → Run u fs l l' → TLive l' ∧ ∀ j, j < l'.length → u < (R l' j).f1
  | [], l, l', h, ⟨e, hl⟩ => by subst e; exact ⟨h, hl⟩
  | f :: fs, l, l', h, ⟨k, hk, _, hr⟩ => run_live hu fs _ _ (live_after hu h hk) hr
theorem run_split {m u : Int} (hmu : m ≤ u) : ∀ (fs : List S50) (l l' : List S47), Run u fs l l' → ∃ a b lm, Run m a l lm ∧ Run u b lm l' ∧ fs = a ++ b
  | [], l, l', h => ⟨[], [], l, ⟨rfl, fun j hj => by have := h.2 j hj; omega⟩, h, rfl⟩
  | f :: fs, l, l', ⟨k, hk, hf, hr⟩ => by
    by_cases hm : (R l k).f1 ≤ m
    · obtain ⟨a, b, lm, h1, h2, h3⟩ := run_split hmu fs _ _ hr
      exact ⟨f :: a, b, lm, ⟨k, ⟨hk.1, hm, fun j hj hjm => hk.2.2 j hj (by omega)⟩, hf, h1⟩, h2, by rw [h3]; rfl⟩
    · refine ⟨[], f :: fs, l, ⟨rfl, fun j hj => ?_⟩, ⟨k, hk, hf, hr⟩, rfl⟩
      by_cases hj2 : (R l j).f1 ≤ u
      · have := (hk.2.2 j hj hj2).1; omega
      · omega
def Nx (l : List S47) (u s : Int) : Prop := (s = -1 ∧ ∀ j, j < l.length → u < (R l j).f1) ∨ ∃ k : Nat, s = (k : Int) ∧ IsNext l u k
def NxTo (l : List S47) (u : Int) (i : Nat) (s : Int) : Prop := (s = -1 ∧ ∀ j, j < i → u < (R l j).f1) ∨ ∃ k : Nat, s = (k : Int) ∧ k < i ∧ (R l k).f1 ≤ u ∧ ∀ j, j < i → (R l j).f1 ≤ u → (R l k).f1 ≤ (R l j).f1 ∧ ((R l j).f1 ≤ (R l k).f1 → k ≤ j)
theorem nx_skip {l : List S47} {u : Int} {i : Nat} {s : Int} (h : NxTo l u i s) (hs : u < (R l i).f1 ∨ ∃ k : Nat, s = (k : Int) ∧ (R l k).f1 ≤ (R l i).f1) : NxTo l u (i + 1) s := by
  rcases h with ⟨h1, h2⟩ | ⟨k, rfl, k1, k2, k3⟩
  · refine .inl ⟨h1, fun j hj => ?_⟩
    rcases Nat.lt_or_ge j i with h | h
    · exact h2 j h
    · obtain rfl : j = i := by omega
      rcases hs with h | ⟨k, hk, _⟩
      · exact h
      · omega
  · refine .inr ⟨k, rfl, by omega, k2, fun j hj hju => ?_⟩
    rcases Nat.lt_or_ge j i with h | h
    · exact k3 j h hju
    · obtain rfl : j = i := by omega
      rcases hs with h | ⟨k', hk, hle⟩
      · omega
      · obtain rfl : k = k' := by omega
        exact ⟨hle, fun _ => by omega⟩
theorem nx_take {l : List S47} {u : Int} {i : Nat} {s : Int} (h : NxTo l u i s) (hu : (R l i).f1 ≤ u) (hs : s = -1 ∨ ∃ k : Nat, s = (k : Int) ∧ (R l i).f1 < (R l k).f1) : NxTo l u (i + 1) (i : Int) := by
  refine .inr ⟨i, rfl, by omega, hu, fun j hj hju => ?_⟩
  rcases Nat.lt_or_ge j i with hji | hji
  · rcases h with ⟨_, h2⟩ | ⟨k, rfl, k1, k2, k3⟩
    · have := h2 j hji; omega
    · rcases hs with h | ⟨k', hk, hlt⟩
      · omega
      · obtain rfl : k = k' := by omega
        have := (k3 j hji hju).1
        exact ⟨by omega, fun h => by omega⟩
  · obtain rfl : j = i := by omega
    exact ⟨Int.le_refl _, fun _ => Nat.le_refl _⟩
theorem scan_impl (u : Int) (l : List S47) (hl : l.length ≤ 1000) (out : List S50) (r : Int × List S47 × List S50 × Bool) (hend : ∀ s, Nx l u s → Ev (fun k => impl_RunClock.l1 k u l out s l (l.length : Int) (l.length : Int)) r) : Ev (fun k => impl_RunClock.l1 k u l out (-1) l (l.length : Int) 0) r := by
  refine ev_for1 l.length (fun k i s => impl_RunClock.l1 k u l out s l (l.length : Int) (i : Int)) (fun i s => NxTo l u i s) r ?_ ?_ 0 (-1) (Nat.zero_le _) (.inl ⟨rfl, fun j hj => by omega⟩)
  · intro s hs
    refine hend s ?_
    rcases hs with h | ⟨k, hk, k1, k2, k3⟩
    · exact .inl h
    · exact .inr ⟨k, hk, k1, k2, k3⟩
  · intro i s hi hs
    have e : ∀ r, (Ev (fun k => impl_RunClock.l1 k u l out s l (l.length : Int) ((i + 1 : Nat) : Int)) r → Ev (fun k => impl_RunClock.l1 k u l out s l (l.length : Int) (wrap64 ((i : Int) + 1))) r) ∧ (Ev (fun k => impl_RunClock.l1 k u l out (i : Int) l (l.length : Int) ((i + 1 : Nat) : Int)) r → Ev (fun k => impl_RunClock.l1 k u l out (i : Int) l (l.length : Int) (wrap64 ((i : Int) + 1))) r) := fun r => by rw [w64s i (by omega)]; exact ⟨id, id⟩
    by_cases hu : (R l i).f1 ≤ u
    · rcases hs with ⟨rfl, h2⟩ | ⟨k, rfl, k1, k2, k3⟩
      · exact .inr ⟨(i : Int), nx_take (.inl ⟨rfl, h2⟩) hu (.inl rfl), fun r hr => st_impl_RunClock_l1 (ev_pos (by omega) (ev_pos (by omega) (ev_pos (by omega) (ev_pos hu (ev_pos (by decide) ((e r).2 hr))))))⟩
      · by_cases hlt : (R l i).f1 < (R l k).f1
        · exact .inr ⟨(i : Int), nx_take (.inr ⟨k, rfl, k1, k2, k3⟩) hu (.inr ⟨k, rfl, hlt⟩), fun r hr => st_impl_RunClock_l1 (ev_pos (by omega) (ev_pos (by omega) (ev_pos (by omega) (ev_pos hu (ev_neg (by omega) (ev_pos (by omega) (ev_pos (by omega) (ev_pos hlt ((e r).2 hr)))))))))⟩
        · exact .inr ⟨(k : Int), nx_skip (.inr ⟨k, rfl, k1, k2, k3⟩) (.inr ⟨k, rfl, by omega⟩), fun r hr => st_impl_RunClock_l1 (ev_pos (by omega) (ev_pos (by omega) (ev_pos (by omega) (ev_pos hu (ev_neg (by omega) (ev_pos (by omega) (ev_pos (by omega) (ev_neg hlt ((e r).1 hr)))))))))⟩
    · exact .inr ⟨s, nx_skip hs (.inl (by omega)), fun r hr => st_impl_RunClock_l1 (ev_pos (by omega) (ev_pos (by omega) (ev_pos (by omega) (ev_neg hu ((e r).1 hr)))))⟩
theorem scan_spec (u : Int) (l : List S47) (hl : l.length ≤ 1000) (out : List S50) (r : Int × List S47 × List S50 × Bool) (hend : ∀ s, Nx l u s → Ev (fun k => spec_RunClock.l1 k u l out s l (l.length : Int) (l.length : Int)) r) : Ev (fun k => spec_RunClock.l1 k u l out (-1) l (l.length : Int) 0) r := by
  refine ev_for1 l.length (fun k i s => spec_RunClock.l1 k u l out s l (l.length : Int) (i : Int)) (fun i s => NxTo l u i s) r ?_ ?_ 0 (-1) (Nat.zero_le _) (.inl ⟨rfl, fun j hj => by omega⟩)
  · intro s hs
    refine hend s ?_
    rcases hs with h | ⟨k, hk, k1, k2, k3⟩
    · exact .inl h
    · exact .inr ⟨k, hk, k1, k2, k3⟩
  · intro i s hi hs
    have e : ∀ r, (Ev (fun k => spec_RunClock.l1 k u l out s l (l.length : Int) ((i + 1 : Nat) : Int)) r → Ev (fun k => spec_RunClock.l1 k u l out s l (l.length : Int) (wrap64 ((i : Int) + 1))) r) ∧ (Ev (fun k => spec_RunClock.l1 k u l out (i : Int) l (l.length : Int) ((i + 1 : Nat) : Int)) r → Ev (fun k => spec_RunClock.l1 k u l out (i : Int) l (l.length : Int) (wrap64 ((i : Int) + 1))) r) := fun r => by rw [w64s i (by omega)]; exact ⟨id, id⟩
    by_cases hu : (R l i).f1 ≤ u
    · rcases hs with ⟨rfl, h2⟩ | ⟨k, rfl, k1, k2, k3⟩
      · exact .inr ⟨(i : Int), nx_take (.inl ⟨rfl, h2⟩) hu (.inl rfl), fun r hr => st_spec_RunClock_l1 (ev_pos (by omega) (ev_pos (by omega) (ev_pos (by omega) (ev_pos hu (ev_pos (by decide) ((e r).2 hr))))))⟩
      · by_cases hlt : (R l i).f1 < (R l k).f1
        · exact .inr ⟨(i : Int), nx_take (.inr ⟨k, rfl, k1, k2, k3⟩) hu (.inr ⟨k, rfl, hlt⟩), fun r hr => st_spec_RunClock_l1 (ev_pos (by omega) (ev_pos (by omega) (ev_pos (by omega) (ev_pos hu (ev_neg (by omega) (ev_pos (by omega) (ev_pos (by omega) (ev_pos hlt ((e r).2 hr)))))))))⟩
        · exact .inr ⟨(k : Int), nx_skip (.inr ⟨k, rfl, k1, k2, k3⟩) (.inr ⟨k, rfl, by omega⟩), fun r hr => st_spec_RunClock_l1 (ev_pos (by omega) (ev_pos (by omega) (ev_pos (by omega) (ev_pos hu (ev_neg (by omega) (ev_pos (by omega) (ev_pos (by omega) (ev_neg hlt ((e r).1 hr)))))))))⟩
    · exact .inr ⟨s, nx_skip hs (.inl (by omega)), fun r hr => st_spec_RunClock_l1 (ev_pos (by omega) (ev_pos (by omega) (ev_pos (by omega) (ev_neg hu ((e r).1 hr)))))⟩
theorem nx_one {l : List S47} {u s : Int} {k : Nat} (hk : IsNext l u k) (h : Nx l u s) : s = (k : Int) := by
  rcases h with ⟨_, h⟩ | ⟨k', rfl, h⟩
  · have := h k hk.1
    have := hk.2.1
    omega
  · have h1 := hk.2.2 k' h.1 h.2.1
    have h2 := h.2.2 k hk.1 hk.2.1
    have := h1.2 h2.1
    have := h2.2 h1.1
    omega
theorem nx_none {l : List S47} {u s : Int} (hn : ∀ j, j < l.length → u < (R l j).f1) (h : Nx l u s) : s = -1 := by
  rcases h with ⟨h, _⟩ | ⟨k', rfl, h⟩
  · exact h
  · have := hn k' h.1
    have := h.2.1
    omega
theorem next_or {l : List S47} (u : Int) : (∀ j, j < l.length → u < (R l j).f1) ∨ ∃ k, IsNext l u k := by
  have key : ∀ i, i ≤ l.length → ∃ s, NxTo l u i s := by
    intro i
    induction i with
    | zero => exact fun _ => ⟨-1, .inl ⟨rfl, fun j hj => by omega⟩⟩
    | succ i ih =>
      intro hi
      obtain ⟨s, hs⟩ := ih (by omega)
      by_cases hu : (R l i).f1 ≤ u
      · rcases hs with ⟨rfl, h2⟩ | ⟨k, rfl, k1, k2, k3⟩
        · exact ⟨_, nx_take (.inl ⟨rfl, h2⟩) hu (.inl rfl)⟩
        · by_cases hlt : (R l i).f1 < (R l k).f1
          · exact ⟨_, nx_take (.inr ⟨k, rfl, k1, k2, k3⟩) hu (.inr ⟨k, rfl, hlt⟩)⟩
          · exact ⟨_, nx_skip (.inr ⟨k, rfl, k1, k2, k3⟩) (.inr ⟨k, rfl, by omega⟩)⟩
      · exact ⟨s, nx_skip hs (.inl (by omega))⟩
  obtain ⟨s, hs⟩ := key l.length (Nat.le_refl _)
  rcases hs with ⟨_, h⟩ | ⟨k, _, k1, k2, k3⟩
  · exact .inl h
  · exact .inr ⟨k, k1, k2, k3⟩
theorem rd_set_self (l : List S47) (k : Nat) (x : S47) (h : k < l.length) : rd_T47 (l.set k x) (k : Int) = x := by
  rw [rd_timer _ k (by rw [List.length_set]; exact h), List.getElem_set_self]
theorem round_impl {u : Int} (hu : u ≤ 100000) {l : List S47} (h : TLive l) {k : Nat} (hk : IsNext l u k) (out : List S50) (hlen : out.length < 2000) (r : Int × List S47 × List S50 × Bool)
    (next : Ev (fun n => impl_RunClock.l0 n u (after l k) (out ++ [fired l k])) r) : Ev (fun n => impl_RunClock.l0 n u l out) r := by
  have hl := h.1
  obtain ⟨h1, h2, h3, h4, h5⟩ := h.2.1 k hk.1
  have hkl := hk.1
  have h4' : 1 ≤ (rd_T47 l (k : Int)).f3 ∧ (rd_T47 l (k : Int)).f3 ≤ 1000 := h4
  refine st_impl_RunClock_l0 (scan_impl u l (by omega) out r fun s hs => ?_)
  obtain rfl := nx_one hk hs
  have hdel : impl_Timer_16.f l (k : Int) (wrap64 ((k : Int) + 1)) = some (l.eraseIdx k) := by
    rw [w64s k (by omega)]
    unfold impl_Timer_16.f
    rw [if_pos (by omega), if_pos (by omega), if_pos (by omega)]; rfl
  refine st_impl_RunClock_l1 (ev_neg (by omega) (ev_neg (by omega) (ev_pos (by omega) (ev_pos (by omega) (ev_pos (by omega) (ev_bindc rfl (ev_neg (by rw [List.length_append, List.length_singleton]; omega) ?_)))))))
  unfold after at next
  by_cases hc2 : (R l k).f2 > 0
  · by_cases hc3 : (R l k).f3 > 1
    · rw [if_pos ⟨hc2, hc3⟩] at next
      refine ev_pos hc2 (ev_pos hc3 (ev_bindc rfl ?_))
      rw [Int.toNat_natCast, rd_set_self l k _ hkl, List.set_set, w64 (n := (rd_T47 l (k : Int)).f3 - 1) (by omega) (by omega)]
      show Ev (fun n => impl_RunClock.l0 n u (l.set k ⟨(R l k).f0, wrap64 ((R l k).f1 + (R l k).f2), (R l k).f2, (R l k).f3 - 1⟩) (out ++ [fired l k])) r
      rw [w64 (by omega) (by omega)]
      exact next
    · rw [if_neg (fun h => hc3 h.2)] at next
      exact ev_pos hc2 (ev_neg hc3 (ev_bindc hdel next))
  · rw [if_neg (fun h => hc2 h.1)] at next
    exact ev_neg hc2 (ev_bindc hdel next)
theorem round_spec {u : Int} (hu : u ≤ 100000) {l : List S47} (h : TLive l) {k : Nat} (hk : IsNext l u k) (out : List S50) (hlen : out.length < 2000) (r : Int × List S47 × List S50 × Bool)
    (next : Ev (fun n => spec_RunClock.l0 n u (after l k) (out ++ [fired l k])) r) : Ev (fun n => spec_RunClock.l0 n u l out) r := by
  have hl := h.1
  obtain ⟨h1, h2, h3, h4, h5⟩ := h.2.1 k hk.1
  have hkl := hk.1
  have h4' : 1 ≤ (rd_T47 l (k : Int)).f3 ∧ (rd_T47 l (k : Int)).f3 ≤ 1000 := h4
  refine st_spec_RunClock_l0 (scan_spec u l (by omega) out r fun s hs => ?_)
  obtain rfl := nx_one hk hs
  refine st_spec_RunClock_l1 (ev_neg (by omega) (ev_neg (by omega) (ev_neg (by omega) (ev_pos (by omega) (ev_pos (by omega) (ev_pos (by omega) (ev_bindc rfl ?_)))))))
  unfold after at next
  by_cases hc2 : (R l k).f2 > 0
  · by_cases hc3 : (R l k).f3 > 1
    · rw [if_pos ⟨hc2, hc3⟩] at next
      refine ev_pos hc2 (ev_pos hc3 (ev_bindc rfl ?_))
      rw [Int.toNat_natCast, rd_set_self l k _ hkl, List.set_set, w64 (n := (rd_T47 l (k : Int)).f3 - 1) (by omega) (by omega)]
      show Ev (fun n => spec_RunClock.l0 n u (l.set k ⟨(R l k).f0, wrap64 ((R l k).f1 + (R l k).f2), (R l k).f2, (R l k).f3 - 1⟩) (out ++ [fired l k])) r
      rw [w64 (by omega) (by omega)]
      exact next
    · rw [if_neg (fun h => hc3 h.2)] at next
      refine ev_pos hc2 (ev_neg hc3 (ev_pos (by omega) ?_))
      rw [w64s k (by omega)]
      exact ev_pos (by omega) (ev_pos (by omega) next)
  · rw [if_neg (fun h => hc2 h.1)] at next
    refine ev_neg hc2 (ev_pos (by omega) ?_)
    rw [w64s k (by omega)]
    exact ev_pos (by omega) (ev_pos (by omega) next)
theorem loop_impl {u : Int} (hu : u ≤ 100000) : ∀ (fs : List S50) (l l' : List S47) (out : List S50), Run u fs l l' → TLive l → out.length + fs.length ≤ 2000 → Ev (fun n => impl_RunClock.l0 n u l out) (u, l', out ++ fs, true)
  | [], l, l', out, ⟨e, hno⟩, h, _ => by
    subst e
    rw [List.append_nil]
    have hl := h.1
    refine st_impl_RunClock_l0 (scan_impl u l' (by omega) out _ fun s hs => ?_)
    rw [nx_none hno hs]
    exact st_impl_RunClock_l1 (ev_neg (by omega) (ev_pos (by decide) (ev_some rfl)))
  | f :: fs, l, l', out, ⟨k, hk, hf, hr⟩, h, hlen => by
    rw [List.length_cons] at hlen
    refine round_impl hu h hk out (by omega) _ ?_
    have := loop_impl hu fs _ _ (out ++ [fired l k]) hr (live_after hu h hk) (by rw [List.length_append, List.length_singleton]; omega)
    rw [hf]
    rw [List.append_assoc] at this
    exact this
theorem loop_spec {u : Int} (hu : u ≤ 100000) : ∀ (fs : List S50) (l l' : List S47) (out : List S50), Run u fs l l' → TLive l → out.length + fs.length ≤ 2000 → Ev (fun n => spec_RunClock.l0 n u l out) (u, l', out ++ fs, true)
  | [], l, l', out, ⟨e, hno⟩, h, _ => by
    subst e
    rw [List.append_nil]
    have hl := h.1
    refine st_spec_RunClock_l0 (scan_spec u l' (by omega) out _ fun s hs => ?_)
    rw [nx_none hno hs]
    exact st_spec_RunClock_l1 (ev_neg (by omega) (ev_pos (by decide) (ev_some rfl)))
  | f :: fs, l, l', out, ⟨k, hk, hf, hr⟩, h, hlen => by
    rw [List.length_cons] at hlen
    refine round_spec hu h hk out (by omega) _ ?_
    have := loop_spec hu fs _ _ (out ++ [fired l k]) hr (live_after hu h hk) (by rw [List.length_append, List.length_singleton]; omega)
    rw [hf]
    rw [List.append_assoc] at this
    exact this
theorem run_or {u : Int} (hu : u ≤ 100000) : ∀ (n : Nat) (l : List S47) (out : List S50), out.length + n = 2000 → TLive l →
    (∃ fs l', Run u fs l l' ∧ out.length + fs.length ≤ 2000) ∨ (Ev (fun k => impl_RunClock.l0 k u l out) (0, [], [], false) ∧ Ev (fun k => spec_RunClock.l0 k u l out) (0, [], [], false)) := by
  intro n
  induction n with
  | zero =>
    intro l out hn h
    have hl := h.1
    rcases next_or (l := l) u with hno | ⟨k, hk⟩
    · exact .inl ⟨[], l, ⟨rfl, hno⟩, by simp; omega⟩
    · have hkl := hk.1
      refine .inr ⟨st_impl_RunClock_l0 (scan_impl u l (by omega) out _ fun s hs => ?_), st_spec_RunClock_l0 (scan_spec u l (by omega) out _ fun s hs => ?_)⟩
      · obtain rfl := nx_one hk hs
        exact st_impl_RunClock_l1 (ev_neg (by omega) (ev_neg (by omega) (ev_pos (by omega) (ev_pos (by omega) (ev_pos (by omega) (ev_bindc rfl (ev_pos (by rw [List.length_append, List.length_singleton]; omega) (ev_some rfl))))))))
      · obtain rfl := nx_one hk hs
        exact st_spec_RunClock_l1 (ev_neg (by omega) (ev_neg (by omega) (ev_pos (by omega) (ev_some rfl))))
  | succ n ih =>
    intro l out hn h
    rcases next_or (l := l) u with hno | ⟨k, hk⟩
    · exact .inl ⟨[], l, ⟨rfl, hno⟩, by simp; omega⟩
    · rcases ih (after l k) (out ++ [fired l k]) (by rw [List.length_append, List.length_singleton]; omega) (live_after hu h hk) with ⟨fs, l', h1, h2⟩ | ⟨h1, h2⟩
      · rw [List.length_append, List.length_singleton] at h2
        exact .inl ⟨fired l k :: fs, l', ⟨k, hk, rfl, h1⟩, by rw [List.length_cons]; omega⟩
      · exact .inr ⟨round_impl hu h hk out (by omega) _ h1, round_spec hu h hk out (by omega) _ h2⟩
theorem clone_impl (l : List S47) (h : l.length ≤ 1000) : impl_Timer_15.f l = some l := if_pos (by omega)
theorem run_impl {a u : Int} {l l' : List S47} {fs : List S50} (h : ClockOk a l) (hu : a ≤ u ∧ u ≤ 100000) (hr : Run u fs l l') (hf : fs.length ≤ 2000) : Ev (fun k => impl_RunClock.f k a l u) (u, l', fs, true) := by
  have hl := h.2.1
  have := loop_impl hu.2 fs l l' [] hr (live_of h) (by simp; omega)
  exact Ev.bind (clock_impl a l true ⟨fun _ => h, fun _ => rfl⟩) (ev_pos rfl (ev_bindc ((in_same _ _ _).trans (in_some _ _ _)) (by rw [decide_eq_true hu]; exact st_impl_RunClock_j0 (ev_neg (by decide) (ev_bindc (clone_impl l (by omega)) this)))))
theorem run_same (a : Int) (l : List S47) (hl : l.length ≤ 1000) (u : Int) : ∃ res : Int × List S47 × List S50 × Bool, Ev (fun k => spec_RunClock.f k a l u) res ∧ Ev (fun k => impl_RunClock.f k a l u) res ∧
    (res = (0, [], [], false) ∨ (ClockOk a l ∧ (a ≤ u ∧ u ≤ 100000) ∧ ∃ fs l', Run u fs l l' ∧ fs.length ≤ 2000 ∧ res = (u, l', fs, true))) := by
  obtain ⟨t, ht⟩ := bool_of (ClockOk a l)
  cases t with
  | false => exact ⟨_, Ev.bind (clock_spec a l false ht) (ev_neg (by decide) (st_spec_RunClock_j0 (ev_pos rfl (ev_some rfl)))), Ev.bind (clock_impl a l false ht) (ev_neg (by decide) (st_impl_RunClock_j0 (ev_pos rfl (ev_some rfl)))), .inl rfl⟩
  | true =>
    have h := ht.1 rfl
    have hl20 := h.2.1
    by_cases hu : a ≤ u ∧ u ≤ 100000
    · have ps : ∀ r, Ev (fun k => spec_RunClock.l0 k u l []) r → Ev (fun k => spec_RunClock.f k a l u) r := fun r hr => Ev.bind (clock_spec a l true ht) (ev_pos rfl (ev_bindc (in_some _ _ _) (by rw [decide_eq_true hu]; exact st_spec_RunClock_j0 (ev_neg (by decide) (ev_bindc rfl (ev_pos (by simp only [List.length_nil]; omega) hr))))))
      rcases run_or hu.2 2000 l [] rfl (live_of h) with ⟨fs, l', h1, h2⟩ | ⟨h1, h2⟩
      · have h2 : fs.length ≤ 2000 := by simpa using h2
        have := loop_spec hu.2 fs l l' [] h1 (live_of h) (by simp; omega)
        exact ⟨_, ps _ this, run_impl h hu h1 h2, .inr ⟨h, hu, fs, l', h1, h2, rfl⟩⟩
      · refine ⟨_, ps _ h2, ?_, .inl rfl⟩
        exact Ev.bind (clock_impl a l true ht) (ev_pos rfl (ev_bindc ((in_same _ _ _).trans (in_some _ _ _)) (by rw [decide_eq_true hu]; exact st_impl_RunClock_j0 (ev_neg (by decide) (ev_bindc (clone_impl l (by omega)) h1)))))
    · exact ⟨_, Ev.bind (clock_spec a l true ht) (ev_pos rfl (ev_bindc (in_some _ _ _) (by rw [decide_eq_false hu]; exact st_spec_RunClock_j0 (ev_pos rfl (ev_some rfl))))), Ev.bind (clock_impl a l true ht) (ev_pos rfl (ev_bindc ((in_same _ _ _).trans (in_some _ _ _)) (by rw [decide_eq_false hu]; exact st_impl_RunClock_j0 (ev_pos rfl (ev_some rfl))))), .inl rfl⟩
theorem and255 (a : Int) : 0 ≤ Go.bits .and .u64 a 255 ∧ Go.bits .and .u64 a 255 ≤ 255 := by
  have h : (BitVec.ofInt 64 a &&& BitVec.ofInt 64 255).toNat ≤ 255 := by
    rw [BitVec.toNat_and]
    exact Nat.le_trans Nat.and_le_right (by decide)
  have e : Go.bits .and .u64 a 255 = IntKind.u64.wrap (((BitVec.ofInt 64 a &&& BitVec.ofInt 64 255).toNat : Nat) : Int) := rfl
  rw [e, wrap_u64 (by omega) (by omega)]
  omega
theorem next_some (code : List Int) (hc : ∀ y ∈ code, InU8 y) (at_ seed : Int) (h0 : 0 ≤ at_) (h1 : at_ ≤ 1099511627776) : ∃ v s, spec_l1Cur_next.f code at_ seed = some (v, at_ + 1, s) ∧ 0 ≤ v ∧ v < 256 := by
  have e : wrap64 (at_ + 1) = at_ + 1 := w64 (by omega) (by omega)
  have hw : ∀ a : Int, wrap64 (Go.bits .and .u64 a 255) = Go.bits .and .u64 a 255 := fun a => by have := and255 a; exact w64 (by omega) (by omega)
  unfold spec_l1Cur_next.f
  rw [e]
  by_cases h : at_ < (code.length : Int)
  · obtain ⟨i, rfl⟩ : ∃ i : Nat, at_ = (i : Int) := ⟨at_.toNat, by omega⟩
    have hv : 0 ≤ rd code (i : Int) ∧ rd code (i : Int) < 256 := by
      rw [rd_get (by omega)]
      have := hc _ (List.getElem_mem (by omega : i < code.length))
      exact ⟨this.1, by have := this.2; omega⟩
    have hr : wrap64 (rd code (i : Int)) = rd code (i : Int) := w64 (by omega) (by omega)
    rw [if_pos h, if_pos h0, hr]
    by_cases h2 : (i : Int) + 1 ≤ (code.length : Int)
    · rw [if_pos h2]; exact ⟨_, _, rfl, hv.1, hv.2⟩
    · rw [if_neg h2, hw]; exact ⟨_, _, rfl, (and255 _).1, by have := (and255 (IntKind.u64.wrap ((IntKind.u64.wrap ((IntKind.u64.wrap (seed * 6364136223846793005)) + (IntKind.u64.wrap (rd code (i : Int))))) + 1442695040888963407) / 1099511627776)).2; omega⟩
  · rw [if_neg h]
    by_cases h2 : at_ + 1 ≤ (code.length : Int)
    · rw [if_pos h2]; exact ⟨0, _, rfl, by omega, by omega⟩
    · rw [if_neg h2, hw]; exact ⟨_, _, rfl, (and255 _).1, by have := (and255 (IntKind.u64.wrap ((IntKind.u64.wrap ((IntKind.u64.wrap (seed * 6364136223846793005)))) + 1442695040888963407) / 1099511627776)).2; omega⟩
theorem pick_some (code : List Int) (hc : ∀ y ∈ code, InU8 y) (at_ seed n : Int) (h0 : 0 ≤ at_) (h1 : at_ ≤ 1099511627776) (n1 : 1 ≤ n) (n2 : n ≤ 200) : ∃ v a s, spec_l1Cur_pick.f code at_ seed n = some (v, a, s) ∧ 0 ≤ v ∧ v < n ∧ at_ ≤ a ∧ a ≤ at_ + 1 := by
  unfold spec_l1Cur_pick.f
  by_cases h : n ≤ 1
  · rw [if_pos h]; exact ⟨0, at_, seed, rfl, by omega, by omega, by omega, by omega⟩
  · obtain ⟨v, s, hv, v0, v1⟩ := next_some code hc at_ seed h0 h1
    rw [if_neg h, hv]
    simp only [Option.bind_some]
    rw [if_neg (by omega), if_neg (by omega)]
    refine ⟨Int.tmod v n, at_ + 1, s, rfl, Int.tmod_nonneg _ v0, Int.tmod_lt_of_pos _ (by omega), by omega, by omega⟩
theorem pick_any (code : List Int) (hc : ∀ y ∈ code, InU8 y) (at_ seed n : Int) (h0 : 0 ≤ at_) (h1 : at_ ≤ 1000000000) (n1 : 1 ≤ n) : ∃ v a s, spec_l1Cur_pick.f code at_ seed n = some (v, a, s) ∧ at_ ≤ a ∧ a ≤ at_ + 2 := by
  unfold spec_l1Cur_pick.f
  by_cases h : n ≤ 1
  · rw [if_pos h]; exact ⟨0, at_, seed, rfl, by omega, by omega⟩
  · obtain ⟨v, s, hv, _, _⟩ := next_some code hc at_ seed h0 (by omega)
    rw [if_neg h, hv]
    simp only [Option.bind_some]
    by_cases h2 : n > 200
    · obtain ⟨v2, s2, hv2, _, _⟩ := next_some code hc (at_ + 1) s (by omega) (by omega)
      rw [if_pos h2, hv2]
      simp only [Option.bind_some]
      rw [if_neg (by omega)]
      exact ⟨_, _, _, rfl, by omega, by omega⟩
    · rw [if_neg h2, if_neg (by omega)]
      exact ⟨_, _, _, rfl, by omega, by omega⟩
theorem one_any (code : List Int) (hc : ∀ y ∈ code, InU8 y) (at_ seed n : Int) (h0 : 0 ≤ at_) (h1 : at_ ≤ 1000000000) (n1 : 1 ≤ n) : ∃ v a s, spec_l1Cur_one.f code at_ seed n = some (v, a, s) ∧ at_ ≤ a ∧ a ≤ at_ + 2 := by
  obtain ⟨v, a, s, h, h2⟩ := pick_any code hc at_ seed n h0 h1 n1
  exact ⟨_, _, _, by unfold spec_l1Cur_one.f; rw [h]; rfl, h2⟩
theorem among_any (code : List Int) (hc : ∀ y ∈ code, InU8 y) (at_ seed : Int) (l : List Int) (h0 : 0 ≤ at_) (h1 : at_ ≤ 1000000000) (n1 : 1 ≤ l.length) (n2 : l.length ≤ 200) : ∃ v a s, spec_l1Cur_among.f code at_ seed l = some (v, a, s) ∧ v ∈ l ∧ at_ ≤ a ∧ a ≤ at_ + 2 := by
  obtain ⟨v, a, s, h, v0, v1, a0, a1⟩ := pick_some code hc at_ seed (l.length : Int) h0 (by omega) (by omega) (by omega)
  obtain ⟨i, rfl⟩ : ∃ i : Nat, v = (i : Int) := ⟨v.toNat, by omega⟩
  refine ⟨rd l (i : Int), a, s, ?_, ?_, a0, by omega⟩
  · unfold spec_l1Cur_among.f
    rw [h]
    simp only [Option.bind_some]
    rw [if_pos v0, if_pos v1]
  · rw [rd_get (by omega)]; exact List.getElem_mem _
theorem timer_any (code : List Int) (hc : ∀ y ∈ code, InU8 y) (at_ seed now : Int) (h0 : 0 ≤ at_) (h1 : at_ ≤ 100000000) : ∃ x0 x1 x2 x3 a s, Ev (fun k => spec_l1Cur_timer.f k code at_ seed now) (x0, x1, x2, x3, a, s) ∧ at_ ≤ a ∧ a ≤ at_ + 20 := by
  have fin : ∀ (a s y0 y1 y2 y3 : Int), at_ ≤ a → a ≤ at_ + 10 → ∃ x0 x1 x2 x3 a' s', Ev (fun k => spec_l1Cur_timer.j0 k now code a s y0 y1 y2 y3) (x0, x1, x2, x3, a', s') ∧ at_ ≤ a' ∧ a' ≤ at_ + 20 := by
    intro a s y0 y1 y2 y3 g0 g1
    obtain ⟨p, b, t, hp, b0, b1⟩ := pick_any code hc a s 40 (by omega) (by omega) (by omega)
    by_cases e0 : p = 0
    · obtain ⟨c, d, w, hcc, _, d0, d1⟩ := among_any code hc b t [0, 1000, 1001, 2] (by omega) (by omega) (by simp) (by simp)
      exact ⟨_, _, _, _, d, w, Ev.step (fun _ => rfl) (ev_bindc hp (ev_pos e0 (ev_bindc hcc (ev_some rfl)))), by omega, by omega⟩
    · by_cases e1 : p = 1
      · obtain ⟨c, d, w, hcc, _, d0, d1⟩ := among_any code hc b t [-1, 100000, 100001] (by omega) (by omega) (by simp) (by simp)
        exact ⟨_, _, _, _, d, w, Ev.step (fun _ => rfl) (ev_bindc hp (ev_neg e0 (ev_pos e1 (ev_bindc hcc (ev_some rfl))))), by omega, by omega⟩
      · by_cases e2 : p = 2
        · obtain ⟨c, d, w, hcc, _, d0, d1⟩ := among_any code hc b t [now, 200000, 200001, 9223372036854775807] (by omega) (by omega) (by simp) (by simp)
          exact ⟨_, _, _, _, d, w, Ev.step (fun _ => rfl) (ev_bindc hp (ev_neg e0 (ev_neg e1 (ev_pos e2 (ev_bindc hcc (ev_some rfl)))))), by omega, by omega⟩
        · by_cases e3 : p = 3
          · obtain ⟨c, d, w, hcc, _, d0, d1⟩ := among_any code hc b t [-1, 999, 1000] (by omega) (by omega) (by simp) (by simp)
            exact ⟨_, _, _, _, d, w, Ev.step (fun _ => rfl) (ev_bindc hp (ev_neg e0 (ev_neg e1 (ev_neg e2 (ev_pos e3 (ev_bindc hcc (ev_some rfl))))))), by omega, by omega⟩
          · exact ⟨_, _, _, _, b, t, Ev.step (fun _ => rfl) (ev_bindc hp (ev_neg e0 (ev_neg e1 (ev_neg e2 (ev_neg e3 (ev_some rfl)))))), by omega, by omega⟩
  obtain ⟨p1, a1, s1, hp1, g0, g1⟩ := pick_any code hc at_ seed 8 h0 (by omega) (by omega)
  obtain ⟨p2, a2, s2, hp2, g2, g3⟩ := pick_any code hc a1 s1 30 (by omega) (by omega) (by omega)
  obtain ⟨b, a3, s3, hb, g4, g5⟩ := one_any code hc a2 s2 2 (by omega) (by omega) (by omega)
  cases b with
  | true =>
    obtain ⟨p4, a4, s4, hp4, g6, g7⟩ := pick_any code hc a3 s3 9 (by omega) (by omega) (by omega)
    obtain ⟨p5, a5, s5, hp5, g8, g9⟩ := pick_any code hc a4 s4 12 (by omega) (by omega) (by omega)
    obtain ⟨x0, x1, x2, x3, a', s', h, q⟩ := fin a5 s5 p1 (wrap64 ((wrap64 (now + 1)) + p2)) (wrap64 (1 + p4)) (wrap64 (1 + p5)) (by omega) (by omega)
    exact ⟨x0, x1, x2, x3, a', s', ev_bindc hp1 (ev_bindc hp2 (ev_bindc hb (ev_pos rfl (ev_bindc hp4 (ev_bindc hp5 h))))), q⟩
  | false =>
    obtain ⟨x0, x1, x2, x3, a', s', h, q⟩ := fin a3 s3 p1 (wrap64 ((wrap64 (now + 1)) + p2)) 0 1 (by omega) (by omega)
    exact ⟨x0, x1, x2, x3, a', s', ev_bindc hp1 (ev_bindc hp2 (ev_bindc hb (ev_neg (by simp) h))), q⟩
theorem add_any (a : Int) (l : List S47) (y0 y1 y2 y3 : Int) : ∃ (b : Int) (m : List S47) (t : Bool), Ev (fun k => spec_AddTimer.f k a l y0 y1 y2 y3) (b, m, t) ∧ (t = true → b = a ∧ m.length ≤ 20) := by
  obtain ⟨t, ht⟩ := bool_of (ClockOk a l)
  cases t with
  | false => exact ⟨0, [], false, Ev.bind (clock_spec a l false ht) (ev_neg (by decide) (ev_some rfl)), fun h => by cases h⟩
  | true =>
    have hok := ht.1 rfl
    obtain ⟨p, hp, h1, h2⟩ := spot l y0
    obtain ⟨t2, ht2⟩ := bool_of (ClockOk a (put l p (same1 l p y0) ⟨y0, y1, y2, y3⟩))
    have hs := add_spec a l hok ⟨y0, y1, y2, y3⟩ p hp h1 h2 t2 ht2
    cases t2 with
    | false => exact ⟨0, [], false, Ev.bind (clock_spec a l true ht) (ev_pos rfl hs), fun h => by cases h⟩
    | true => exact ⟨a, _, true, Ev.bind (clock_spec a l true ht) (ev_pos rfl hs), fun _ => ⟨rfl, (ht2.1 rfl).2.1⟩⟩
theorem clock_loop (code : List Int) (hc : ∀ y ∈ code, InU8 y) (a : Int) : ∀ (n : Nat) (l : List S47) (at_ seed : Int), l.length ≤ 20 → 0 ≤ at_ → at_ + 100 * n ≤ 1000000 →
    ∃ b m a' s', Ev (fun k => spec_l1Cur_clock.l0 k (n : Int) code at_ seed a l) (b, m, a', s') ∧ m.length ≤ 1000 ∧ 0 ≤ a' ∧ a' ≤ 2000000
  | 0, l, at_, seed, hl, h0, h1 => by
    have fin : ∀ (l' : List S47) (c d : Int), l'.length ≤ 21 → at_ ≤ c → c ≤ at_ + 100 → ∃ b m a' s', Ev (fun k => spec_l1Cur_clock.j2 k code c d a l') (b, m, a', s') ∧ m.length ≤ 1000 ∧ 0 ≤ a' ∧ a' ≤ 2000000 := by
      intro l' c d hl' c0 c1
      obtain ⟨b, e, f, hb, e0, e1⟩ := one_any code hc c d 40 (by omega) (by omega) (by omega)
      cases b with
      | true =>
        obtain ⟨v, g, h, hv, _, g0, g1⟩ := among_any code hc e f [-1, 100000, 100001] (by omega) (by omega) (by simp) (by simp)
        exact ⟨_, _, g, h, st_spec_l1Cur_clock_j2 (ev_bindc hb (ev_pos rfl (ev_bindc hv (ev_some rfl)))), by omega, by omega, by omega⟩
      | false => exact ⟨_, _, e, f, st_spec_l1Cur_clock_j2 (ev_bindc hb (ev_neg (by simp) (ev_some rfl))), by omega, by omega, by omega⟩
    obtain ⟨b, e, f, hb, e0, e1⟩ := one_any code hc at_ seed 30 h0 (by omega) (by omega)
    cases b with
    | true =>
      obtain ⟨x0, x1, x2, x3, g, h, hx, g0, g1⟩ := timer_any code hc e f a (by omega) (by omega)
      obtain ⟨b, m, a', s', hr, q⟩ := fin (l ++ [⟨x0, x1, x2, x3⟩]) g h (by rw [List.length_append, List.length_singleton]; omega) (by omega) (by omega)
      exact ⟨b, m, a', s', st_spec_l1Cur_clock_l0 (ev_neg (by omega) (ev_bindc hb (ev_pos rfl (Ev.bind hx (ev_pos (by omega) hr))))), q⟩
    | false =>
      obtain ⟨b, m, a', s', hr, q⟩ := fin l e f (by omega) (by omega) (by omega)
      exact ⟨b, m, a', s', st_spec_l1Cur_clock_l0 (ev_neg (by omega) (ev_bindc hb (ev_neg (by simp) hr))), q⟩
  | n + 1, l, at_, seed, hl, h0, h1 => by
    have e1 : wrap64 (((n + 1 : Nat) : Int) - 1) = (n : Int) := by rw [w64 (by omega) (by omega)]; omega
    obtain ⟨x0, x1, x2, x3, g, h, hx, g0, g1⟩ := timer_any code hc at_ seed a h0 (by omega)
    obtain ⟨b, e, f, hb, e0, e2⟩ := one_any code hc g h 3 (by omega) (by omega) (by omega)
    cases b with
    | true =>
      obtain ⟨p, c, d, hp, c0, c1⟩ := pick_any code hc e f 1000 (by omega) (by omega) (by omega)
      obtain ⟨b', m', t, ha, hat⟩ := add_any a l p x1 x2 x3
      cases t with
      | true =>
        obtain ⟨rfl, hm⟩ := hat rfl
        obtain ⟨b, m, a', s', hr, q⟩ := clock_loop code hc b' n m' c d hm (by omega) (by omega)
        refine ⟨b, m, a', s', st_spec_l1Cur_clock_l0 (ev_pos (by omega) (Ev.bind hx (ev_bindc hb (ev_pos rfl (ev_bindc hp (Ev.bind ha (ev_pos rfl ?_))))))), q⟩
        rw [e1]; exact hr
      | false =>
        obtain ⟨b, m, a', s', hr, q⟩ := clock_loop code hc a n l c d hl (by omega) (by omega)
        refine ⟨b, m, a', s', st_spec_l1Cur_clock_l0 (ev_pos (by omega) (Ev.bind hx (ev_bindc hb (ev_pos rfl (ev_bindc hp (Ev.bind ha (ev_neg (by simp) ?_))))))), q⟩
        rw [e1]; exact hr
    | false =>
      obtain ⟨b', m', t, ha, hat⟩ := add_any a l x0 x1 x2 x3
      cases t with
      | true =>
        obtain ⟨rfl, hm⟩ := hat rfl
        obtain ⟨b, m, a', s', hr, q⟩ := clock_loop code hc b' n m' e f hm (by omega) (by omega)
        refine ⟨b, m, a', s', st_spec_l1Cur_clock_l0 (ev_pos (by omega) (Ev.bind hx (ev_bindc hb (ev_neg (by simp) (Ev.bind ha (ev_pos rfl ?_)))))), q⟩
        rw [e1]; exact hr
      | false =>
        obtain ⟨b, m, a', s', hr, q⟩ := clock_loop code hc a n l e f hl (by omega) (by omega)
        refine ⟨b, m, a', s', st_spec_l1Cur_clock_l0 (ev_pos (by omega) (Ev.bind hx (ev_bindc hb (ev_neg (by simp) (Ev.bind ha (ev_neg (by simp) ?_)))))), q⟩
        rw [e1]; exact hr
theorem draw_clock (code : List Int) (hc : ∀ y ∈ code, InU8 y) : ∃ (a : Int) (l : List S47) (u : Int), Ev (fun k => spec_DrawRunClock.f k code) (a, l, u) ∧ l.length ≤ 1000 := by
  have clk : ∃ b m a' s', Ev (fun k => spec_l1Cur_clock.f k code 0 0) (b, m, a', s') ∧ m.length ≤ 1000 ∧ 0 ≤ a' ∧ a' ≤ 2000000 := by
    obtain ⟨p, a1, s1, hp, g0, g1⟩ := pick_any code hc 0 0 20 (by omega) (by omega) (by omega)
    obtain ⟨n, a2, s2, hn, n0, n1, g2, g3⟩ := pick_some code hc a1 s1 6 (by omega) (by omega) (by omega) (by omega)
    obtain ⟨b, a3, s3, hb, g4, g5⟩ := one_any code hc a2 s2 20 (by omega) (by omega) (by omega)
    cases b with
    | true =>
      obtain ⟨b, m, a', s', hr, q⟩ := clock_loop code hc p 30 [] a3 s3 (by simp) (by omega) (by omega)
      exact ⟨b, m, a', s', ev_bindc hp (ev_bindc hn (ev_bindc hb (ev_pos rfl (Ev.step (fun _ => rfl) hr)))), q⟩
    | false =>
      obtain ⟨c, rfl⟩ : ∃ c : Nat, n = (c : Int) := ⟨n.toNat, by omega⟩
      obtain ⟨b, m, a', s', hr, q⟩ := clock_loop code hc p c [] a3 s3 (by simp) (by omega) (by omega)
      exact ⟨b, m, a', s', ev_bindc hp (ev_bindc hn (ev_bindc hb (ev_neg (by simp) (Ev.step (fun _ => rfl) hr)))), q⟩
  obtain ⟨b, m, a1, s1, hclk, hm, a0, a2⟩ := clk
  obtain ⟨p, a3, s3, hp, g0, g1⟩ := pick_any code hc a1 s1 80 (by omega) (by omega) (by omega)
  obtain ⟨o, a4, s4, ho, g2, g3⟩ := one_any code hc a3 s3 20 (by omega) (by omega) (by omega)
  cases o with
  | true =>
    obtain ⟨c, d, w, hcc, _, d0, d1⟩ := among_any code hc a4 s4 [wrap64 (b - 1), 100000, 100001] (by omega) (by omega) (by simp) (by simp)
    exact ⟨b, m, c, Ev.bind hclk (ev_bindc hp (ev_bindc ho (ev_pos rfl (ev_bindc hcc (ev_some rfl))))), hm⟩
  | false => exact ⟨b, m, _, Ev.bind hclk (ev_bindc hp (ev_bindc ho (ev_neg (by simp) (ev_some rfl)))), hm⟩
theorem sameFired_ev (xs : List S50) (h : xs.length ≤ 100000) : Ev (fun k => laws_sameFired.f k xs xs) true := by
  refine ev_pos rfl ?_
  refine ev_for1 xs.length (fun k i (_ : Unit) => laws_sameFired.l0 k xs xs (xs.length : Int) (i : Int)) (fun _ _ => True) _ ?_ ?_ 0 () (Nat.zero_le _) trivial
  · intro _ _; exact Ev.step (fun _ => rfl) (ev_neg (by omega) (ev_some rfl))
  · intro i _ hi _
    refine .inr ⟨(), trivial, fun r hr => Ev.step (fun _ => rfl) (ev_pos (by omega) (ev_pos (by omega) (ev_pos (by omega) (ev_pos (by omega) (ev_neg (by simp) ?_)))))⟩
    rw [w64s i (by omega)]; exact hr
theorem sameTimers_ev (xs : List S47) (h : xs.length ≤ 100000) : Ev (fun k => laws_sameTimers.f k xs xs) true := by
  refine ev_pos rfl ?_
  refine ev_for1 xs.length (fun k i (_ : Unit) => laws_sameTimers.l0 k xs xs (xs.length : Int) (i : Int)) (fun _ _ => True) _ ?_ ?_ 0 () (Nat.zero_le _) trivial
  · intro _ _; exact Ev.step (fun _ => rfl) (ev_neg (by omega) (ev_some rfl))
  · intro i _ hi _
    refine .inr ⟨(), trivial, fun r hr => Ev.step (fun _ => rfl) (ev_pos (by omega) (ev_pos (by omega) (ev_pos (by omega) (ev_pos (by omega) (ev_neg (by simp) ?_)))))⟩
    rw [w64s i (by omega)]; exact hr
theorem FnPieces : ∀ (l0 : List (Int)), (l0.length * 1 ≤ 140737488351232 ∧ ∀ y ∈ l0, InU8 y) → ∃ k, laws_FnPieces.f k l0 = some true := by
  intro code gc
  refine Ev.rounds (g := fun k => laws_FnPieces.f k code) ?_
  refine ev_ite (fun _ => ev_some rfl) fun _ => ?_
  obtain ⟨a, l, u, hd, hl⟩ := draw_clock code gc.2
  obtain ⟨res, hs, hi, hres⟩ := run_same a l hl u
  refine Ev.bind hd (Ev.bind hi (Ev.bind hs (ev_neg (by simp) ?_)))
  rcases hres with rfl | ⟨hok, hu, fs, l', hr, hf, rfl⟩
  · refine Ev.bind (sameFired_ev [] (by simp)) ?_
    exact st_laws_FnPieces_j0 (ev_neg (by simp) (ev_neg (by simp) (ev_some rfl)))
  · refine Ev.bind (sameFired_ev fs (by omega)) ?_
    have ha := hok.1
    have em : wrap64 (a + (wrap64 (Int.tdiv (wrap64 (u - a)) 2))) = a + (u - a) / 2 := by
      rw [w64 (n := u - a) (by omega) (by omega), Int.tdiv_eq_ediv_of_nonneg (by omega), w64 (n := (u - a) / 2) (by omega) (by omega), w64 (by omega) (by omega)]
    have hm1 : a ≤ a + (u - a) / 2 := by omega
    have hm2 : a + (u - a) / 2 ≤ u := by omega
    obtain ⟨fa, fb, lm, r1, r2, rfl⟩ := run_split hm2 fs l l' hr
    rw [List.length_append] at hf
    obtain ⟨v1, v2⟩ := run_live (by omega) fa l lm (live_of hok) r1
    have hok2 := clock_of ⟨by omega, by omega⟩ v1 v2
    have i1 := run_impl hok ⟨hm1, by omega⟩ r1 (by omega)
    have i2 := run_impl hok2 ⟨hm2, hu.2⟩ r2 (by omega)
    have hll := (run_live hu.2 (fa ++ fb) l l' (live_of hok) hr).1.1
    refine st_laws_FnPieces_j0 (ev_neg (by simp) (ev_pos rfl ?_))
    simp only [em]
    exact Ev.bind i1 (Ev.bind i2 (ev_pos rfl (ev_pos rfl (ev_pos (by show fa.length + fb.length < _; omega) (Ev.bind (sameFired_ev (fa ++ fb) (by rw [List.length_append]; omega)) (ev_pos rfl (ev_pos rfl (Ev.bind (sameTimers_ev l' (by omega)) (ev_some rfl)))))))))
end Go.Proofs.Ythacmchmppnldaa.Pure
