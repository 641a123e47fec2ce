/- Keys in order, and where one stands, or would. -/
import Derived.Test.YtohdhkddnnokfaaBase
namespace Go.Sx
/-- things in a strict order, any two of which are comparable -/
class KOrd (α : Type) where
  lt : α → α → Prop
  irr : ∀ a, ¬ lt a a
  tr : ∀ {a b c}, lt a b → lt b c → lt a c
  tot : ∀ a b, lt a b ∨ a = b ∨ lt b a
instance : KOrd Int := ⟨fun a b => a < b, fun a => by omega, fun h g => by omega, fun a b => by omega⟩
def ltB : List UInt8 → List UInt8 → Prop
  | [], [] => False
  | [], _ :: _ => True
  | _ :: _, [] => False
  | a :: us, b :: ws => a.toNat < b.toNat ∨ a = b ∧ ltB us ws
theorem ltB_irr : ∀ a : List UInt8, ¬ ltB a a
  | [] => id
  | a :: us => by
    rintro (h | ⟨_, h⟩)
    · omega
    · exact ltB_irr us h
theorem ltB_tr : ∀ {a b c : List UInt8}, ltB a b → ltB b c → ltB a c
  | [], [], _, h, _ => h.elim
  | [], _ :: _, [], _, h => h.elim
  | [], _ :: _, _ :: _, _, _ => trivial
  | _ :: _, [], _, h, _ => h.elim
  | _ :: _, _ :: _, [], _, h => h.elim
  | a :: us, b :: ws, c :: zs, h, g => by
    rcases h with h | ⟨rfl, h⟩
    · rcases g with g | ⟨rfl, g⟩
      · exact .inl (by omega)
      · exact .inl h
    · rcases g with g | ⟨rfl, g⟩
      · exact .inl g
      · exact .inr ⟨rfl, ltB_tr h g⟩
theorem ltB_tot : ∀ a b : List UInt8, ltB a b ∨ a = b ∨ ltB b a
  | [], [] => .inr (.inl rfl)
  | [], _ :: _ => .inl trivial
  | _ :: _, [] => .inr (.inr trivial)
  | a :: us, b :: ws => by
    by_cases h : a = b
    · subst h
      rcases ltB_tot us ws with h | rfl | h
      · exact .inl (.inr ⟨rfl, h⟩)
      · exact .inr (.inl rfl)
      · exact .inr (.inr (.inr ⟨rfl, h⟩))
    · have : a.toNat ≠ b.toNat := fun e => h (UInt8.toNat_inj.1 e)
      rcases Nat.lt_or_gt_of_ne this with h | h
      · exact .inl (.inl h)
      · exact .inr (.inr (.inl h))
instance : KOrd (List UInt8) := ⟨ltB, ltB_irr, ltB_tr, ltB_tot⟩
section
variable {α β : Type} [KOrd α]
noncomputable instance (a b : α) : Decidable (KOrd.lt a b) := Classical.propDecidable _
noncomputable def posS (xs : List α) (x : α) : Nat := (xs.takeWhile fun a => decide (KOrd.lt a x)).length
def sortS (xs : List α) : Prop := xs.Pairwise KOrd.lt
theorem posS_le (xs : List α) (x : α) : posS xs x ≤ xs.length := by
  unfold posS
  exact List.Sublist.length_le (List.takeWhile_sublist _)
theorem posS_eq : ∀ {xs : List α} {x : α} {i : Nat}, i ≤ xs.length → (∀ (a : Nat) (h : a < xs.length), a < i → KOrd.lt xs[a] x) → (∀ h : i < xs.length, ¬ KOrd.lt xs[i] x) → posS xs x = i
  | [], x, i, h, _, _ => by
    have : i = 0 := by simpa using h
    rw [this]
    rfl
  | y :: ys, x, 0, _, _, h2 => by
    have := h2 (Nat.zero_lt_succ _)
    unfold posS
    rw [List.takeWhile_cons, if_neg (by simpa using this)]
    rfl
  | y :: ys, x, i + 1, h, h1, h2 => by
    have h0 := h1 0 (Nat.zero_lt_succ _) (Nat.zero_lt_succ _)
    have ih := @posS_eq ys x i (by simpa using h) (fun a ha hi => by have := h1 (a + 1) (by rw [List.length_cons]; omega) (by omega); simpa using this) (fun hi => by have := h2 (by rw [List.length_cons]; omega); simpa using this)
    unfold posS at ih ⊢
    rw [List.takeWhile_cons, if_pos (by simpa using h0), List.length_cons, ih]
theorem posS_lt {xs : List α} {x : α} {a : Nat} (ha : a < xs.length) (h : a < posS xs x) : KOrd.lt xs[a] x := by
  unfold posS at h
  have h1 : (xs.takeWhile fun a => decide (KOrd.lt a x))[a] = xs[a] := by
    have := List.takeWhile_prefix (p := fun a => decide (KOrd.lt a x)) (l := xs)
    exact (List.IsPrefix.getElem this h)
  have h2 := List.all_eq_true.1 (List.all_takeWhile (p := fun a => decide (KOrd.lt a x)) (l := xs)) _ (List.getElem_mem h)
  rw [h1] at h2
  simpa using h2
theorem posS_ge : ∀ {xs : List α} {x : α} (_ : posS xs x < xs.length), ∃ h : posS xs x < xs.length, ¬ KOrd.lt xs[posS xs x] x
  | [], x, h => absurd h (by simp)
  | y :: ys, x, h => by
    by_cases hy : KOrd.lt y x
    · have e : posS (y :: ys) x = posS ys x + 1 := by unfold posS; rw [List.takeWhile_cons, if_pos (by simpa using hy), List.length_cons]
      rw [e, List.length_cons] at h
      obtain ⟨h1, h2⟩ := @posS_ge ys x (by omega)
      refine ⟨by rw [e, List.length_cons]; exact h, ?_⟩
      simpa [e] using h2
    · have e : posS (y :: ys) x = 0 := by unfold posS; rw [List.takeWhile_cons, if_neg (by simpa using hy)]; rfl
      refine ⟨by rw [e]; exact Nat.zero_lt_succ _, ?_⟩
      simpa [e] using hy
theorem sort_lt {xs : List α} (hs : sortS xs) {a b : Nat} (hb : b < xs.length) (hab : a < b) : KOrd.lt (xs[a]'(by omega)) xs[b] := List.pairwise_iff_getElem.1 hs a b (by omega) hb hab
theorem posS_found {xs : List α} {x : α} (hs : sortS xs) : xs[posS xs x]? = some x ↔ x ∈ xs := by
  refine ⟨fun h => List.mem_of_getElem? h, fun h => ?_⟩
  obtain ⟨i, hi, rfl⟩ := List.mem_iff_getElem.1 h
  have : posS xs xs[i] = i := posS_eq (by omega) (fun a ha hai => sort_lt hs hi hai) (fun h => KOrd.irr _)
  rw [this, List.getElem?_eq_getElem hi]
theorem sort_insert {xs : List α} {x : α} (hs : sortS xs) (hx : x ∉ xs) : sortS (xs.take (posS xs x) ++ x :: xs.drop (posS xs x)) := by
  have hle := posS_le xs x
  refine List.pairwise_append.2 ⟨List.Pairwise.sublist (List.take_sublist _ _) hs, List.pairwise_cons.2 ⟨fun y hy => ?_, List.Pairwise.sublist (List.drop_sublist _ _) hs⟩, fun y hy z hz => ?_⟩
  · obtain ⟨i, hi, rfl⟩ := List.mem_iff_getElem.1 hy
    rw [List.length_drop] at hi
    rw [List.getElem_drop]
    obtain ⟨h1, h2⟩ := posS_ge (xs := xs) (x := x) (by omega)
    have h3 : KOrd.lt x xs[posS xs x] := by
      rcases KOrd.tot xs[posS xs x] x with h | h | h
      · exact absurd h h2
      · exact absurd (h ▸ List.getElem_mem h1) hx
      · exact h
    cases i with
    | zero => exact h3
    | succ i => exact KOrd.tr h3 (sort_lt hs (by omega) (by omega))
  · obtain ⟨i, hi, rfl⟩ := List.mem_iff_getElem.1 hy
    rw [List.length_take] at hi
    rw [List.getElem_take]
    have hyx : KOrd.lt xs[i] x := posS_lt (by omega) (by omega)
    rcases List.mem_cons.1 hz with rfl | hz
    · exact hyx
    · obtain ⟨j, hj, rfl⟩ := List.mem_iff_getElem.1 hz
      rw [List.length_drop] at hj
      rw [List.getElem_drop]
      exact sort_lt hs (by omega) (by omega)
theorem sort_erase {xs : List α} (hs : sortS xs) (i : Nat) : sortS (xs.take i ++ xs.drop (i + 1)) := by
  rw [← List.eraseIdx_eq_take_drop_succ]
  exact List.Pairwise.sublist (List.eraseIdx_sublist _ _) hs
end
end Go.Sx
