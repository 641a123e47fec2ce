/- Sessions: the plain laws of SessionRoom. -/
import Derived.Test.YtohdhkddnnokfaaE8
namespace Go.Sx
open Go.Proofs Go.RowKit
def rmU (zs : List Int) (i : Nat) : Int := match zs[i]? with
  | some z => z % 300
  | none => 500
def rmL (zs : List Int) (n : Nat) : List Int := (List.range n).map (rmU zs)
theorem rmL_succ (zs : List Int) (n : Nat) : rmL zs (n + 1) = rmL zs n ++ [rmU zs n] := by
  unfold rmL
  rw [List.range_succ, List.map_append]
  rfl
theorem rmL_len (zs : List Int) (n : Nat) : (rmL zs n).length = n := by unfold rmL; rw [List.length_map, List.length_range]
def rmT (zs : List Int) (n : Nat) : List (Int × SeV) := exA 0 (rmL zs n)
theorem rmT_len (zs : List Int) (n : Nat) : (rmT zs n).length = n := by unfold rmT; rw [exA_len, rmL_len]
theorem rmT_succ (zs : List Int) (n : Nat) : rmT zs (n + 1) = rmT zs n ++ [((n : Int) + 1, ⟨(n : Int) + 1, 0, rmU zs n, none, 0, 0⟩)] := by
  unfold rmT
  rw [rmL_succ, exA_app, rmL_len]
  simp only [exA, Nat.zero_add]
  rfl
theorem reg_rm {most : Int} {zs : List Int} {n : Nat} (h : (n : Int) < most) : regE most (rmT zs n) ((n : Int) + 1) (rmU zs n) = rmT zs (n + 1) := by
  have h1 := reg_ex (most := most) (now := rmU zs n) (xs := rmL zs n) (by rw [rmL_len]; exact h)
  rw [rmL_len, ← rmL_succ] at h1
  exact h1
theorem rm_keys {zs : List Int} {n : Nat} {j : Int} (h : j ∈ keysT (rmT zs n)) : 1 ≤ j ∧ j ≤ n := by
  have := exA_keys h
  rw [rmL_len] at this
  omega
theorem eld_step (zs : List Int) (n : Nat) : eldO (rmT zs (n + 1)) = eldF (eldO (rmT zs n)) ((n : Int) + 1, ⟨(n : Int) + 1, 0, rmU zs n, none, 0, 0⟩) := by rw [rmT_succ, eldO_snoc]
theorem eld_fold (l : List (Int × SeV)) {o : Option (Int × Int)} {k u : Int} (h : l.foldl eldF o = some (k, u)) : o = some (k, u) ∨ k ∈ keysT l := by
  induction l generalizing o with
  | nil => exact .inl h
  | cons r l ih =>
    rcases ih h with h1 | h1
    · unfold eldF at h1
      cases o with
      | none =>
        dsimp only at h1
        injection h1 with h1
        injection h1 with h1 _
        exact .inr (by rw [← h1]; exact List.mem_cons_self ..)
      | some p =>
        obtain ⟨i, v⟩ := p
        dsimp only at h1
        split at h1
        · injection h1 with h1
          injection h1 with h1 _
          exact .inr (by rw [← h1]; exact List.mem_cons_self ..)
        · exact .inl h1
    · exact .inr (List.mem_cons_of_mem _ h1)
theorem eld_in {l : List (Int × SeV)} {k u : Int} (h : eldO l = some (k, u)) : k ∈ keysT l := by
  rcases eld_fold l h with h1 | h1
  · cases h1
  · exact h1
theorem eld_some (o : Option (Int × Int)) (r : Int × SeV) : ∃ k u, eldF o r = some (k, u) := by
  unfold eldF
  cases o with
  | none => exact ⟨_, _, rfl⟩
  | some p =>
    obtain ⟨i, v⟩ := p
    dsimp only
    split
    · exact ⟨_, _, rfl⟩
    · exact ⟨_, _, rfl⟩
theorem rm_eld (zs : List Int) {n : Nat} (hn : 0 < n) : ∃ k u, eldO (rmT zs n) = some (k, u) ∧ k ∈ keysT (rmT zs n) := by
  match n, hn with
  | n + 1, _ =>
    obtain ⟨k, u, h⟩ := eld_some (eldO (rmT zs n)) ((n : Int) + 1, ⟨(n : Int) + 1, 0, rmU zs n, none, 0, 0⟩)
    rw [← eld_step] at h
    exact ⟨k, u, h, eld_in h⟩
theorem rm_sorted (zs : List Int) (n : Nat) : sortS (keysT (rmT zs n)) := by
  induction n with
  | zero => exact List.Pairwise.nil
  | succ n ih =>
    have h := put_sort (most := (n : Int) + 1) (k := (n : Int) + 1) (x := (⟨(n : Int) + 1, 0, rmU zs n, none, 0, 0⟩ : SeV)) ih
    rw [(put_last (fun j hj => by have := rm_keys hj; show j < _; omega) (by rw [rmT_len]; omega)).1, ← rmT_succ] at h
    exact h
/-- the table behind the one that is too many -/
theorem room_last (zs : List Int) {n : Nat} (h1 : 0 < n) (h2 : n ≤ 16) : ∃ l', regE (n : Int) (rmT zs n) 1000 600 = l' ++ [(1000, ⟨1000, 0, 600, none, 0, 0⟩)] ∧ l'.length + 1 = n ∧ (∀ p ∈ l', p.1 ≠ eldI (eldO (rmT zs n)) ∧ p.2.id = p.1 ∧ p.2.kA = none ∧ p.2.kn = 0 ∧ p.2.kc = 0) ∧ (1000 : Int) ≠ eldI (eldO (rmT zs n)) := by
  obtain ⟨k, u, he, hk⟩ := rm_eld zs h1
  have hs := rm_sorted zs n
  have hkb := rm_keys hk
  have hei : eldI (eldO (rmT zs n)) = k := by rw [he]; rfl
  have hni : ¬ (1000 : Int) ∈ keysT (rmT zs n) := fun h => by have := rm_keys h; omega
  have hdl := len_drop hs hk
  rw [rmT_len] at hdl
  refine ⟨dropT (rmT zs n) k, ?_, by omega, fun p hp => ?_, by rw [hei]; omega⟩
  · unfold regE roomE
    rw [if_pos ⟨hni, by rw [rmT_len]; exact Int.le_refl _⟩, hei, show getT (rmT zs n) 1000 = none by (unfold getT; rw [if_neg hni])]
    exact (put_last (fun j hj => by
      obtain ⟨x, hx⟩ := keys_mem.1 hj
      have h3 := ((mem_drop hs).1 hx).1
      have := rm_keys (keys_mem.2 ⟨x, h3⟩)
      show j < _
      omega) (by omega)).1
  · obtain ⟨h3, h4⟩ := (mem_drop hs).1 hp
    obtain ⟨_, _, g3, g4, g5, _, g7, _⟩ := exA_mem h3
    exact ⟨by rw [hei]; exact h4, g7, g3, g4, g5⟩
end Go.Sx
