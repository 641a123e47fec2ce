/- Tables that are ranged over: tell. -/
import Derived.Test.YtohdhkddnnokfaaT10g
namespace Go.Sx
open Go.Proofs Go.RowKit
/-- cells that lie in blocks of one's own -/
def RdB (hr : Hp) (A : Option Addr) (xs : List Value) : Prop :=
  xs = [] ∨ ∃ b o e, ∃ l : List Value, A = some ⟨b, o, none⟩ ∧ (b, Obj.cells l.toArray e (0, 0)) ∈ hr ∧ ∀ j u, xs[j]? = some u → l[o + j]? = some u
theorem RdB.get {hr : Hp} {A : Option Addr} {xs : List Value} (h : RdB hr A xs) {j : Nat} {u : Value} (hj : xs[j]? = some u) :
    ∃ b o e, ∃ l : List Value, A = some ⟨b, o, none⟩ ∧ (b, Obj.cells l.toArray e (0, 0)) ∈ hr ∧ ∀ j u, xs[j]? = some u → l[o + j]? = some u := by
  rcases h with h | h
  · rw [h] at hj; cases hj
  · exact h
theorem RdB.left {hr hs : Hp} {A : Option Addr} {xs : List Value} (h : RdB hr A xs) : RdB (hr ++ hs) A xs := by
  rcases h with h | ⟨b, o, e, l, h1, h2, h3⟩
  · exact .inl h
  · exact .inr ⟨b, o, e, l, h1, List.mem_append_left _ h2, h3⟩
theorem RdB.right {hr hs : Hp} {A : Option Addr} {xs : List Value} (h : RdB hs A xs) : RdB (hr ++ hs) A xs := by
  rcases h with h | ⟨b, o, e, l, h1, h2, h3⟩
  · exact .inl h
  · exact .inr ⟨b, o, e, l, h1, List.mem_append_right _ h2, h3⟩
theorem Own.rdB {e sz m cap k : Nat} {A : Option Addr} {xs : List Value} {hp : Hp} (h : Own e sz (.slice A m cap) m xs hp) (hk : k ≤ m) : RdB hp (adv A k sz cap) (xs.drop (k * sz)) := by
  by_cases hkm : k = m
  · exact .inl (List.drop_of_length_le (by rw [h.len, hkm]; exact Nat.le_refl _))
  · obtain ⟨b, cap', l, hv, rfl, g3, _, _, g6, _⟩ := h.atC (by omega)
    injection hv with q1 _ q3
    subst q1 q3
    refine .inr ⟨b, 0 + k * sz, e, l, adv_some _ _ _ _ _ (by omega), List.mem_singleton_self _, fun j u hj => ?_⟩
    rw [Nat.zero_add]
    exact drop_at g6 hj
theorem Own.rdB0 {e sz m cap : Nat} {A : Option Addr} {xs : List Value} {hp : Hp} (h : Own e sz (.slice A m cap) m xs hp) : RdB hp A xs := by
  by_cases hm : m = 0
  · exact .inl (List.length_eq_zero_iff.1 (by rw [h.len, hm, Nat.zero_mul]))
  · obtain ⟨b, cap', l, hv, rfl, g3, _, _, g6, _⟩ := h.atC (by omega)
    injection hv with q1 _ q3
    subst q1 q3
    exact .inr ⟨b, 0, e, l, rfl, List.mem_singleton_self _, fun j u hj => by rw [Nat.zero_add]; exact takeGet g6 hj⟩
theorem Arr.pre {X H R : Hp} (h : Arr H R) : Arr (X ++ H) (X ++ R) := Arr.app (Tk.here X H) h
theorem Arr.swap {X Y Z : Hp} : Arr (X ++ (Y ++ Z)) (Y ++ (X ++ Z)) := Arr.app (Tk.skipA X (Tk.here Y Z)) (Arr.all _)
structure TlX (σ : Type) where
  s : σ
  n : Nat
  nn : Int
attribute [local irreducible] C R Fin K Own OwnT Rd Pl Ok KOf RetOk OpsOf RP KP Res NoPanic KV KE Tab RTab
variable {M M' : Mem} {H H1 : Hp}
end Go.Sx
