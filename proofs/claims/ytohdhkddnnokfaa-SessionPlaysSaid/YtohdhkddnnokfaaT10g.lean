/- The reference's tables. -/
import Derived.Test.YtohdhkddnnokfaaT7
import Derived.Test.YtohdhkddnnokfaaSxU
namespace Go.Sx
open Go.Proofs Go.RowKit
section
variable {κ υ : Type} [KOrd κ]
/-- the reference's table: its block, its keys and its values -/
def RTab (eT eK eV W : Nat) (kv : κ → Value) (cs : υ → List Value) (tb : Nat) (most : Int) (l : List (κ × υ)) (hp : Hp) : Prop :=
  sortS (keysT l) ∧ (l.length : Int) ≤ most ∧ most ≤ 4096 ∧ ∃ v1 v2 h1 h2, Own eK 1 v1 l.length ((keysT l).map kv) h1 ∧ Own eV W v2 l.length (flat cs l) h2 ∧ hp = (tb, .cells [.int .i64 most, v1, v2].toArray eT (0, 0)) :: (h1 ++ h2)
theorem put_sort {most : Int} {l : List (κ × υ)} {k : κ} {x : υ} (hs : sortS (keysT l)) : sortS (keysT (putT most l k x)) := by
  unfold putT
  split
  · rename_i h
    obtain ⟨hi, hik⟩ := posS_in hs h
    rw [keysT_set hi hik]
    exact hs
  · rename_i h
    split
    · exact hs
    · rw [keysT_append, keysT_take, show keysT ((k, x) :: l.drop (posS (keysT l) k)) = k :: keysT (l.drop (posS (keysT l) k)) from rfl, keysT_drop]
      exact sort_insert hs h
theorem drop_sort {l : List (κ × υ)} {k : κ} (hs : sortS (keysT l)) : sortS (keysT (dropT l k)) := by
  unfold dropT
  split
  · rw [keysT_append, keysT_take, keysT_drop]
    exact sort_erase hs _
  · exact hs
end
structure PrX where
  v : Value
  b : Nat
  hp : Hp
theorem Own.rdM {M : Mem} {H hp : Hp} {e sz m cap : Nat} {A : Option Addr} {xs : List Value} (h : Own e sz (.slice A m cap) m xs hp) (hm : ∀ p ∈ hp, p ∈ H) : Rd M H A xs := by
  have h2 := h.rd (M := M) (H := hp ++ []) (Tk.here hp [])
  rw [List.append_nil] at h2
  rcases h.2 with ⟨h3, h4, h5⟩ | ⟨b, cap', c, h3, h4, h5, h6, h7, h8⟩
  · exact .inl (List.length_eq_zero_iff.1 (by rw [h.len, h4, Nat.zero_mul]))
  · injection h3 with q1 q2 q3
    subst q1
    by_cases hx : xs = []
    · exact .inl hx
    · refine .inr ⟨⟨b, 0, none⟩, rfl, fun w hh j u hj => ?_⟩
      have hb := hh.own (b, .cells c e (0, 0)) (hm _ (by rw [h4]; exact List.mem_singleton_self _))
      rw [Addr.add_lit]
      rw [← h8, List.getElem?_take] at hj
      split at hj
      · dsimp only at hb
        simp only [World.cell?, hb]
        rw [Nat.zero_add, ← Array.getElem?_toList]
        exact hj
      · cases hj
theorem Own.take_rd {M : Mem} {H hp : Hp} {e sz m cap k : Nat} {A : Option Addr} {xs : List Value} (h : Own e sz (.slice A m cap) m xs hp) (ht : ∀ p ∈ hp, p ∈ H) : Rd M H A (xs.take k) := by
  have := h.rdM (M := M) ht
  unfold Rd at this ⊢
  rcases this with h | ⟨ad, h1, h2⟩
  · exact .inl (by rw [h]; exact List.take_nil)
  · refine .inr ⟨ad, h1, fun w hh j u hj => h2 w hh j u ?_⟩
    rw [List.getElem?_take] at hj
    split at hj
    · exact hj
    · cases hj
theorem Own.drop_rd {M : Mem} {H hp : Hp} {e sz m cap k : Nat} {A : Option Addr} {xs : List Value} (h : Own e sz (.slice A m cap) m xs hp) (ht : ∀ p ∈ hp, p ∈ H) (hk : k ≤ m) : Rd M H (adv A k sz cap) (xs.drop (k * sz)) := by
  by_cases hkm : k = m
  · rw [List.drop_of_length_le (by rw [h.len, hkm]; exact Nat.le_refl _)]
    exact Rd.nil
  · have hr := h.rdM (M := M) ht
    obtain ⟨b, cap', l, hv, hp', _⟩ := h.atC (by omega)
    injection hv with q1 _ q3
    have hmc : m ≤ cap := by obtain ⟨_, _, hv, h1, _⟩ := h.form; injection hv with _ _ q3; rw [q3]; exact h1
    unfold Rd at hr ⊢
    rcases hr with h | ⟨ad, h1, h2⟩
    · exact .inl (by rw [h]; exact List.drop_nil)
    · refine .inr ⟨ad.add (k * sz), ?_, fun w hh j u hj => ?_⟩
      · rw [h1]; unfold adv; rw [if_neg (by omega)]; rfl
      · rw [List.getElem?_drop] at hj
        rw [q1] at h1
        injection h1 with h1
        subst h1
        have := h2 w hh _ u hj
        rw [Addr.add_lit] at this ⊢
        rw [Addr.add_lit, Nat.add_assoc]
        exact this
attribute [local irreducible] C R Fin K Own OwnT Rd Pl Ok KOf RetOk OpsOf RP KP Res NoPanic KV KE
variable {M M' : Mem} {H H1 : Hp}
end Go.Sx
