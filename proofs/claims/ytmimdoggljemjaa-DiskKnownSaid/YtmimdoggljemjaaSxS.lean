/- Pieces of a row of one's own: with a top, and from somewhere on. -/
import Derived.Test.YtmimdoggljemjaaSxQ
namespace Go.Sx
open Go.RowKit
section
variable {P : Program} {L : Sl} {M : Mem} {H : Hp} {d : Option Tmp} {ty : TypeId} {pos : String} {af : Array Edge} {g : Option (Nat × Bool)}
theorem Ok.sliceHiMax {t e sz by_ : Nat} {z : Value} {x hi mx : Operand} {A : Option Addr} {m c : Nat} {k k' : IntKind} {i j : Int} [hs : Und P t (.slice e)] [hi_ : Inf P e sz by_ z] (hx : ev L x = some (.slice A m c)) (hhi : ev L hi = some (.int k i)) (hmx : ev L mx = some (.int k' j)) (h0 : 0 ≤ i) (h1 : i ≤ j) (h2 : j ≤ c) :
    Ok P ⟨d, .slice t x none (some hi) (some mx), ty, pos, af, g⟩ L M H (.slice A i.toNat j.toNat) := fun n D a w hf _ => by
  obtain ⟨inf, g1, _, _, _⟩ := hi_.h
  have h3 : i ≤ (j.toNat : Nat) := by omega
  have : A.map (fun x => x.add 0) = A := by cases A <;> simp [Addr.add]
  simp [execOp, Instr.sliceAt, Instr.slice, Instr.sliceBounds, run_underlying hs.h, hf.ev hx, hf.ev hhi, hf.ev hmx, bound_run _ _ _ _ h0 h3, bound_run _ _ _ _ (Int.le_trans h0 h1) h2, sizeOf, typeInfo, g1, this]
end
theorem OwnT.cut {e sz m cap k : Nat} {A : Option Addr} {xs : List Value} {hp : Hp} (h : OwnT e sz (.slice A m cap) m xs hp) (hk : k ≤ m) : OwnT e sz (.slice (adv A k sz cap) (m - k) (cap - k)) (m - k) (xs.drop (k * sz)) hp := by
  have hms : (m - k) * sz = m * sz - k * sz := Nat.sub_mul ..
  have hkm : k * sz ≤ m * sz := Nat.mul_le_mul_right _ hk
  refine ⟨by rw [List.length_drop, h.1, hms], ?_⟩
  rcases h.2 with ⟨h1, h2, h3⟩ | ⟨b, o, cap', c, h1, h2, h3, h4, h5, h6⟩
  · injection h1 with e1 e2 e3
    subst e1 e2 e3
    have : k = 0 := by omega
    subst this
    exact .inl ⟨by simp [adv], rfl, h3⟩
  · injection h1 with e1 _ e3
    subst e1 e3
    have hc1 : (cap - k) * sz = cap * sz - k * sz := Nat.sub_mul ..
    have hkc : k * sz ≤ cap * sz := Nat.mul_le_mul_right _ (Nat.le_trans hk h3)
    by_cases hc : k < cap
    · refine .inr ⟨b, o + k * sz, cap - k, c, by rw [adv_some _ _ _ _ _ hc], h2, by omega, by omega, by omega, ?_⟩
      rw [← h6, List.drop_take, List.drop_drop, hms]
    · have hkc' : cap = k := by omega
      have hmk : m = k := by omega
      subst hkc' hmk
      refine .inr ⟨b, o, 0, c, by simp [adv], h2, by omega, by unfold maxLen; omega, by omega, ?_⟩
      rw [Nat.sub_self, Nat.zero_mul, List.take_zero, ← h6, List.drop_of_length_le]
      rw [List.length_take]
      omega
theorem OwnT.hiMax {e sz m cap k : Nat} {A : Option Addr} {xs : List Value} {hp : Hp} (h : OwnT e sz (.slice A m cap) m xs hp) (hk : k ≤ m) : OwnT e sz (.slice A k k) k (xs.take (k * sz)) hp := by
  have hkm : k * sz ≤ m * sz := Nat.mul_le_mul_right _ hk
  refine ⟨by rw [List.length_take, h.1]; omega, ?_⟩
  rcases h.2 with ⟨h1, h2, h3⟩ | ⟨b, o, cap', c, h1, h2, h3, h4, h5, h6⟩
  · injection h1 with e1 e2 e3
    subst e1 e2 e3
    have : k = 0 := by omega
    subst this
    exact .inl ⟨rfl, rfl, h3⟩
  · injection h1 with e1 _ e3
    subst e1 e3
    have hkc : k * sz ≤ cap * sz := Nat.mul_le_mul_right _ (Nat.le_trans hk h3)
    refine .inr ⟨b, o, k, c, rfl, h2, by omega, by omega, by omega, ?_⟩
    rw [← h6, List.take_take, Nat.min_eq_left hkm]
/-- blocks that are lent for a call, and one that stays -/
def Ln (hrow : Hp) (x : Nat × Obj) (H H1 : Hp) : Prop := H.Perm (hrow ++ H1) ∧ x ∈ H1
section
variable {hrow H H1 : Hp} {x : Nat × Obj}
theorem Ln.here : Ln hrow x (hrow ++ x :: H) (x :: H) := ⟨List.Perm.refl _, List.mem_cons_self⟩
theorem Ln.skip (y : Nat × Obj) (h : Ln hrow x H H1) : Ln hrow x (y :: H) (y :: H1) :=
  ⟨(h.1.cons y).trans List.perm_middle.symm, List.mem_cons_of_mem _ h.2⟩
theorem Ln.left (B : Hp) (h : Ln hrow x H H1) : Ln hrow x (H ++ B) (H1 ++ B) :=
  ⟨by have := h.1.append_right B; rwa [List.append_assoc] at this, List.mem_append_left _ h.2⟩
theorem Ln.skipA (A : Hp) (h : Ln hrow x H H1) : Ln hrow x (A ++ H) (A ++ H1) :=
  ⟨by
    have h1 := h.1.append_left A
    refine h1.trans ?_
    rw [← List.append_assoc, ← List.append_assoc]
    exact List.perm_append_comm.append_right _, List.mem_append_right _ h.2⟩
theorem Ln.fst (h : Tk hrow H H1) : Ln hrow x (x :: H) (x :: H1) := ⟨(h.perm.cons x).trans List.perm_middle.symm, List.mem_cons_self⟩
end
theorem a_mm {p : Prop} (h : p := by
  (first | (simp only [List.mem_cons, List.mem_append, List.cons_append, true_or, or_true]; (first | done | fail)) | fail)) : p := h
theorem a_ln {p : Prop} (h : p := by
  (first | exact Ln.here | exact Ln.skip _ Ln.here | exact Ln.left _ Ln.here | exact Ln.left _ (Ln.skip _ Ln.here) | exact Ln.skip _ (Ln.skip _ Ln.here) | exact Ln.left _ (Ln.skip _ (Ln.skip _ Ln.here)) | exact Ln.skip _ (Ln.skip _ (Ln.skip _ Ln.here)) | exact Ln.left _ (Ln.skip _ (Ln.skip _ (Ln.skip _ Ln.here))) | exact Ln.skipA _ Ln.here | exact Ln.skip _ (Ln.skipA _ Ln.here) | exact Ln.left _ (Ln.skipA _ Ln.here) | exact Ln.skip _ (Ln.skip _ (Ln.skip _ (Ln.skip _ Ln.here))) | exact Ln.skip _ (Ln.skip _ (Ln.skipA _ Ln.here)) | exact Ln.skipA _ (Ln.skipA _ Ln.here) | (apply Ln.fst; exact a_tk) | (apply Ln.skip; apply Ln.fst; exact a_tk) | (apply Ln.left; apply Ln.fst; exact a_tk) | (apply Ln.left; apply Ln.skip; apply Ln.fst; exact a_tk) | (apply Ln.skip; apply Ln.skip; apply Ln.fst; exact a_tk) | (apply Ln.left; apply Ln.skip; apply Ln.skip; apply Ln.fst; exact a_tk) | fail)) : p := h
theorem K.lendT {P : Program} {f : Nat} {args : List Value} {T : Value → Prop} {M : Mem} {H H1 hrow : Hp} {x : Nat × Obj} (hl : Ln hrow x H H1) (h : x ∈ H1 → ∀ M2, M.le M2 → In M2 hrow → K P f args M2 H1 fun v M' H' => T v ∧ M' = M2 ∧ H' = H1) : K P f args M H fun v M' H' => T v ∧ M' = M ∧ H' = H := fun w hh => by
  have h0 : K P f args M (hrow ++ H1) fun v M' H' => T v ∧ M' = M ∧ H' = hrow ++ H1 :=
    K.lends (Arr.all _) fun M2 hM2 hin => (h hl.2 M2 hM2 hin).mono fun _ _ _ h => ⟨h.2.1, h.1, rfl, by rw [h.2.2]⟩
  refine (h0 w (hh.perm hl.1)).mono ?_
  rintro e w' ⟨v, M', H', h1, ⟨h2, rfl, rfl⟩, h3⟩
  exact ⟨v, M', H, h1, ⟨h2, rfl, rfl⟩, h3.perm hl.1.symm⟩
end Go.Sx
