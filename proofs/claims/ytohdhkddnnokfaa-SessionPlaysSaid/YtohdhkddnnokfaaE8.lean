/- Sessions: the plain laws of SessionExpires. -/
import Derived.Test.YtohdhkddnnokfaaE6
namespace Go.Sx
open Go.Proofs Go.RowKit
def exA : Nat → List Int → List (Int × SeV)
  | _, [] => []
  | n, x :: xs => (((n + 1 : Nat) : Int), ⟨((n + 1 : Nat) : Int), 0, x, none, 0, 0⟩) :: exA (n + 1) xs
theorem exA_len (n : Nat) (xs : List Int) : (exA n xs).length = xs.length := by
  induction xs generalizing n with
  | nil => rfl
  | cons x xs ih => simp [exA, ih]
theorem exA_app (n : Nat) (xs ys : List Int) : exA n (xs ++ ys) = exA n xs ++ exA (n + xs.length) ys := by
  induction xs generalizing n with
  | nil => rfl
  | cons x xs ih => simp only [List.cons_append, exA, ih, List.length_cons]; congr 3; omega
theorem exA_mem {n : Nat} {xs : List Int} {p : Int × SeV} (h : p ∈ exA n xs) : (n : Int) < p.1 ∧ p.1 ≤ n + xs.length ∧ p.2.kA = none ∧ p.2.kn = 0 ∧ p.2.kc = 0 ∧ p.2.us ∈ xs ∧ p.2.id = p.1 ∧ p.2.sq = 0 := by
  induction xs generalizing n with
  | nil => cases h
  | cons x xs ih =>
    rcases List.mem_cons.1 h with rfl | h
    · exact ⟨by dsimp only; omega, by dsimp only; rw [List.length_cons]; omega, rfl, rfl, rfl, List.mem_cons_self .., rfl, rfl⟩
    · obtain ⟨g1, g2, g3, g4, g5, g6, g7⟩ := ih h
      exact ⟨by omega, by rw [List.length_cons]; omega, g3, g4, g5, List.mem_cons_of_mem _ g6, g7⟩
theorem exA_keys {n : Nat} {xs : List Int} {j : Int} (h : j ∈ keysT (exA n xs)) : (n : Int) < j ∧ j ≤ n + xs.length := by
  obtain ⟨x, hx⟩ := keys_mem.1 h
  exact ⟨(exA_mem hx).1, (exA_mem hx).2.1⟩
theorem reg_ex {most now : Int} {xs : List Int} (hm : (xs.length : Int) < most) : regE most (exA 0 xs) ((xs.length : Int) + 1) now = exA 0 (xs ++ [now]) := by
  have hk : ∀ j ∈ keysT (exA 0 xs), KOrd.lt j ((xs.length : Int) + 1) := fun j hj => by
    have := exA_keys hj
    show j < _
    omega
  have hnew : ¬ (xs.length : Int) + 1 ∈ keysT (exA 0 xs) := fun h => by have := exA_keys h; omega
  have hl := exA_len 0 xs
  unfold regE roomE
  rw [if_neg (fun h => by rw [hl] at h; omega), (put_last hk (by rw [hl]; exact hm)).1, show getT (exA 0 xs) ((xs.length : Int) + 1) = none by (unfold getT; rw [if_neg hnew]), exA_app]
  simp only [Option.getD_none, zS, exA, Nat.zero_add]
  rfl
/-- keys that are dropped, one behind the other -/
theorem fold_drop {υ : Type} (ks : List Int) {l : List (Int × υ)} (hs : sortS (keysT l)) (hn : ks.Nodup) (hin : ∀ k ∈ ks, k ∈ keysT l) :
    sortS (keysT (ks.foldl (fun l k => dropT l k) l)) ∧ (ks.foldl (fun l k => dropT l k) l).length + ks.length = l.length ∧ ∀ p, p ∈ ks.foldl (fun l k => dropT l k) l ↔ p ∈ l ∧ p.1 ∉ ks := by
  induction ks generalizing l with
  | nil => exact ⟨hs, rfl, fun p => by simp⟩
  | cons k ks ih =>
    have hk := hin k (List.mem_cons_self ..)
    have hn' := List.nodup_cons.1 hn
    have h1 := drop_sort (k := k) hs
    have h2 : ∀ j ∈ ks, j ∈ keysT (dropT l k) := fun j hj => by
      obtain ⟨x, hx⟩ := keys_mem.1 (hin j (List.mem_cons_of_mem _ hj))
      exact keys_mem.2 ⟨x, (mem_drop hs).2 ⟨hx, fun h => hn'.1 (by have h : j = k := h; rw [← h]; exact hj)⟩⟩
    obtain ⟨g1, g2, g3⟩ := ih h1 hn'.2 h2
    have h4 := len_drop hs hk
    have h5 : 0 < l.length := by
      obtain ⟨x, hx⟩ := keys_mem.1 hk
      exact List.length_pos_of_mem hx
    refine ⟨g1, by rw [List.foldl_cons, List.length_cons]; omega, fun p => ?_⟩
    rw [List.foldl_cons, g3, mem_drop hs, List.mem_cons]
    constructor
    · rintro ⟨⟨a, b⟩, c⟩
      exact ⟨a, fun h => h.elim b c⟩
    · rintro ⟨a, b⟩
      exact ⟨⟨a, fun h => b (.inl h)⟩, fun h => b (.inr h)⟩
theorem sort_nodup {l : List Int} (h : sortS l) : l.Nodup := by
  unfold sortS at h
  exact h.imp fun {a b} h => Int.ne_of_lt h
theorem gone_sub (now life : Int) (l : List (Int × SeV)) : (goneS now life l).Sublist (keysT l) := by
  unfold goneS keysT
  exact List.Sublist.map _ List.filter_sublist
theorem gone_mem {now life : Int} {l : List (Int × SeV)} {k : Int} : k ∈ goneS now life l ↔ ∃ x, (k, x) ∈ l ∧ oldB now life (k, x) = true := by
  unfold goneS
  rw [List.mem_map]
  constructor
  · rintro ⟨⟨a, x⟩, h, rfl⟩
    exact ⟨x, List.mem_filter.1 h⟩
  · rintro ⟨x, h⟩
    exact ⟨(k, x), List.mem_filter.2 h, rfl⟩
theorem dropE_spec (now life : Int) {l : List (Int × SeV)} (hs : sortS (keysT l)) : (dropE now life l l).length + (goneS now life l).length = l.length ∧ (∀ p ∈ dropE now life l l, p ∈ l ∧ ¬ oldB now life p = true) ∧ sortS (keysT (dropE now life l l)) := by
  obtain ⟨g0, g1, g2⟩ := fold_drop (goneS now life l) hs ((gone_sub now life l).nodup (sort_nodup hs)) (fun k hk => (gone_sub now life l).subset hk)
  refine ⟨g1, fun p hp => ?_, g0⟩
  obtain ⟨h1, h2⟩ := (g2 p).1 hp
  exact ⟨h1, fun h => h2 (gone_mem.2 ⟨p.2, h1, h⟩)⟩
theorem gone_none {now life : Int} {l : List (Int × SeV)} (h : ∀ p ∈ l, ¬ oldB now life p = true) : goneS now life l = [] := by
  unfold goneS
  rw [List.filter_eq_nil_iff.2 h]
  rfl
theorem gone_app (now life : Int) (a b : List (Int × SeV)) : goneS now life (a ++ b) = goneS now life a ++ goneS now life b := by
  unfold goneS
  rw [List.filter_append, List.map_append]
theorem ex_step {ws : List Int} {i : Nat} {u : Int} (h : ws[i]? = some u) : exA 0 (ws.take (i + 1)) = exA 0 (ws.take i) ++ [((i : Int) + 1, ⟨(i : Int) + 1, 0, u, none, 0, 0⟩)] := by
  have hl : i < ws.length := (List.getElem?_eq_some_iff.1 h).1
  rw [List.take_add_one, h, exA_app, List.length_take, Nat.min_eq_left (by omega)]
  simp only [Option.toList, exA, Nat.zero_add]
  rfl
theorem old_iff {now life k u : Int} {x : SeV} (hx : x.us = u) : oldB now life (k, x) = true ↔ u < now ∧ life < now - u := by
  unfold oldB
  dsimp only
  rw [hx, Bool.and_eq_true, decide_eq_true_eq, decide_eq_true_eq]
theorem gone_at {now life : Int} {ws : List Int} {i : Nat} {u : Int} (h : ws[i]? = some u) (h1 : u < now) (h2 : life < now - u) : (goneS now life (exA 0 ws))[(goneS now life (exA 0 (ws.take i))).length]? = some ((i : Int) + 1) ∧ (goneS now life (exA 0 (ws.take (i + 1)))).length = (goneS now life (exA 0 (ws.take i))).length + 1 := by
  have hs : goneS now life (exA 0 (ws.take (i + 1))) = goneS now life (exA 0 (ws.take i)) ++ [(i : Int) + 1] := by
    rw [ex_step h, goneS_snoc, if_pos ((old_iff rfl).2 ⟨h1, h2⟩)]
  have ha : exA 0 ws = exA 0 (ws.take (i + 1)) ++ exA (0 + (ws.take (i + 1)).length) (ws.drop (i + 1)) := by rw [← exA_app, List.take_append_drop]
  constructor
  · rw [ha, gone_app, hs, List.append_assoc, List.getElem?_append_right (Nat.le_refl _), Nat.sub_self]
    rfl
  · rw [hs, List.length_append]
    rfl
theorem gone_not {now life : Int} {ws : List Int} {i : Nat} {u : Int} (h : ws[i]? = some u) (h1 : ¬ (u < now ∧ life < now - u)) : (goneS now life (exA 0 (ws.take (i + 1)))).length = (goneS now life (exA 0 (ws.take i))).length := by
  rw [ex_step h, goneS_snoc, if_neg (fun h2 => h1 ((old_iff rfl).1 h2)), List.append_nil]
/-- sessions that have answered nothing -/
def bare (l : List (Int × SeV)) : List (Int × Ses) := l.map fun p => (p.1, ⟨p.2, []⟩)
theorem bare_map (l : List (Int × SeV)) : mapX (bare l) = l := by
  unfold mapX bare
  rw [List.map_map]
  exact List.map_id'' (fun _ => rfl) l
theorem bare_ok {M : Mem} {l : List (Int × SeV)} (h : ∀ p ∈ l, p.2.kA = none ∧ p.2.kn = 0 ∧ p.2.kc = 0) : (∀ p ∈ bare l, p.2.ok M) ∧ ∀ p ∈ bare l, p.2.ks.length ≤ 1000000 := by
  constructor
  · intro p hp
    obtain ⟨q, hq, rfl⟩ := List.mem_map.1 hp
    obtain ⟨_, h2, h3⟩ := h q hq
    exact ⟨h2, by dsimp only; omega, by dsimp only; omega, Pl.nil⟩
  · intro p hp
    obtain ⟨q, hq, rfl⟩ := List.mem_map.1 hp
    exact Nat.zero_le _
end Go.Sx
