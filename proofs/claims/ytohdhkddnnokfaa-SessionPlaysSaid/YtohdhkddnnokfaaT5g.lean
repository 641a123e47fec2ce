/- tables: what they hold, and their calls. -/
import Derived.Test.YtohdhkddnnokfaaT4g
namespace Go.Sx
open Go.Proofs Go.RowKit
def iC (x : Int) : List Value := [iV x]
def sC (x : List UInt8) : List Value := [sV x]
def wiV (x : Int × Int) : Value := .agg #[uV x.1, iV x.2]
def wiC (x : Int × Int) : List Value := [uV x.1, iV x.2]
def wsV (x : Int × List UInt8) : Value := .agg #[uV x.1, sV x.2]
def wsC (x : Int × List UInt8) : List Value := [uV x.1, sV x.2]
theorem iC_one (x : Int) : ∀ u ∈ iC x, u.oneCell' = true := by
  intro u hu
  simp only [iC, List.mem_cons, List.not_mem_nil, or_false] at hu
  subst hu; rfl
theorem sC_one (x : List UInt8) : ∀ u ∈ sC x, u.oneCell' = true := by
  intro u hu
  simp only [sC, List.mem_cons, List.not_mem_nil, or_false] at hu
  subst hu; rfl
theorem wiC_one (x : Int × Int) : ∀ u ∈ wiC x, u.oneCell' = true := by
  intro u hu
  simp only [wiC, List.mem_cons, List.not_mem_nil, or_false] at hu
  rcases hu with rfl | rfl <;> rfl
theorem wsC_one (x : Int × List UInt8) : ∀ u ∈ wsC x, u.oneCell' = true := by
  intro u hu
  simp only [wsC, List.mem_cons, List.not_mem_nil, or_false] at hu
  rcases hu with rfl | rfl <;> rfl
section
variable {κ υ : Type} {cs : υ → List Value} {W : Nat}
/-- the values' cells, one behind the other -/
def flat (cs : υ → List Value) (l : List (κ × υ)) : List Value := (l.map fun p => cs p.2).flatten
theorem flat_nil : flat cs ([] : List (κ × υ)) = [] := rfl
theorem flat_cons (p : κ × υ) (l : List (κ × υ)) : flat cs (p :: l) = cs p.2 ++ flat cs l := rfl
theorem flat_append (l m : List (κ × υ)) : flat cs (l ++ m) = flat cs l ++ flat cs m := by
  unfold flat
  rw [List.map_append, List.flatten_append]
theorem flat_length (h : ∀ x, (cs x).length = W) : ∀ l : List (κ × υ), (flat cs l).length = l.length * W
  | [] => by rw [flat_nil]; simp
  | p :: l => by rw [flat_cons, List.length_append, h, flat_length h l, List.length_cons, Nat.succ_mul, Nat.add_comm]
theorem flat_take (h : ∀ x, (cs x).length = W) (l : List (κ × υ)) (i : Nat) : (flat cs l).take (i * W) = flat cs (l.take i) := by
  by_cases hi : i ≤ l.length
  · have e : flat cs l = flat cs (l.take i) ++ flat cs (l.drop i) := by rw [← flat_append, List.take_append_drop]
    rw [e]
    exact List.take_left' (by rw [flat_length h, List.length_take, Nat.min_eq_left hi])
  · rw [List.take_of_length_le (i := i) (by omega), List.take_of_length_le]
    rw [flat_length h]
    exact Nat.mul_le_mul_right _ (by omega)
theorem flat_drop (h : ∀ x, (cs x).length = W) (l : List (κ × υ)) (i : Nat) : (flat cs l).drop (i * W) = flat cs (l.drop i) := by
  by_cases hi : i ≤ l.length
  · have e : flat cs l = flat cs (l.take i) ++ flat cs (l.drop i) := by rw [← flat_append, List.take_append_drop]
    rw [e]
    exact List.drop_left' (by rw [flat_length h, List.length_take, Nat.min_eq_left hi])
  · rw [List.drop_of_length_le (i := i) (by omega), List.drop_of_length_le, flat_nil]
    rw [flat_length h]
    exact Nat.mul_le_mul_right _ (by omega)
theorem flat_one (h1 : ∀ x, ∀ u ∈ cs x, u.oneCell' = true) (l : List (κ × υ)) : ∀ u ∈ flat cs l, u.oneCell' = true := by
  intro u hu
  unfold flat at hu
  rw [List.mem_flatten] at hu
  obtain ⟨a, ha, hu⟩ := hu
  obtain ⟨p, _, rfl⟩ := List.mem_map.1 ha
  exact h1 _ _ hu
theorem flat_mid {k : κ} {x : υ} {l m : List (κ × υ)} : flat cs l ++ cs x ++ flat cs m = flat cs (l ++ (k, x) :: m) := by
  rw [flat_append, flat_cons, List.append_assoc]
theorem set_take {l us xs : List Value} {o n : Nat} (h : l.take n = xs) (ho : o + us.length ≤ n) (hn : n ≤ l.length) : (l.take o ++ us ++ l.drop (o + us.length)).take n = xs.take o ++ us ++ xs.drop (o + us.length) := by
  have e1 : (l.take o).length = o := by rw [List.length_take]; omega
  rw [List.take_append, List.length_append, e1, List.take_of_length_le (by rw [List.length_append, e1]; exact ho), take_sub h (by omega), ← h, List.drop_take]
theorem flatGet (h : ∀ x, (cs x).length = W) {l : List (κ × υ)} {i : Nat} (hi : i < l.length) {j : Nat} {u : Value} (hu : (cs l[i].2)[j]? = some u) : (flat cs l)[i * W + j]? = some u := by
  have e : flat cs l = flat cs (l.take i) ++ (cs l[i].2 ++ flat cs (l.drop (i + 1))) := by
    rw [← flat_cons, ← flat_append, List.getElem_cons_drop, List.take_append_drop]
  have hl : (flat cs (l.take i)).length = i * W := by rw [flat_length h, List.length_take, Nat.min_eq_left (by omega)]
  rw [e, List.getElem?_append_right (by omega), hl, Nat.add_sub_cancel_left, List.getElem?_append_left]
  · exact hu
  · exact (List.getElem?_eq_some_iff.1 hu).1
end
section
variable {κ υ : Type} [KOrd κ]
noncomputable instance (priority := low) decMem (k : κ) (l : List κ) : Decidable (k ∈ l) := Classical.propDecidable _
def keysT (l : List (κ × υ)) : List κ := l.map Prod.fst
noncomputable def putT (most : Int) (l : List (κ × υ)) (k : κ) (x : υ) : List (κ × υ) :=
  if k ∈ keysT l then l.take (posS (keysT l) k) ++ (k, x) :: l.drop (posS (keysT l) k + 1) else if most ≤ (l.length : Int) then l else l.take (posS (keysT l) k) ++ (k, x) :: l.drop (posS (keysT l) k)
noncomputable def putB (most : Int) (l : List (κ × υ)) (k : κ) : Bool := decide (k ∈ keysT l ∨ (l.length : Int) < most)
omit [KOrd κ] in
theorem putB_in {most : Int} {l : List (κ × υ)} {k : κ} (h : k ∈ keysT l) : putB most l k = true := decide_eq_true (.inl h)
omit [KOrd κ] in
theorem putB_room {most : Int} {l : List (κ × υ)} {k : κ} (h : (l.length : Int) < most) : putB most l k = true := decide_eq_true (.inr h)
omit [KOrd κ] in
theorem putB_full {most : Int} {l : List (κ × υ)} {k : κ} (h : ¬ k ∈ keysT l) (h2 : ¬ (l.length : Int) < most) : putB most l k = false := decide_eq_false (fun e => e.elim h h2)
noncomputable def getT (l : List (κ × υ)) (k : κ) : Option υ := if k ∈ keysT l then (l[posS (keysT l) k]?).map Prod.snd else none
noncomputable def dropT (l : List (κ × υ)) (k : κ) : List (κ × υ) := if k ∈ keysT l then l.take (posS (keysT l) k) ++ l.drop (posS (keysT l) k + 1) else l
omit [KOrd κ] in
theorem keysT_append (l m : List (κ × υ)) : keysT (l ++ m) = keysT l ++ keysT m := List.map_append ..
omit [KOrd κ] in
theorem keysT_take (l : List (κ × υ)) (i : Nat) : keysT (l.take i) = (keysT l).take i := List.map_take ..
omit [KOrd κ] in
theorem keysT_drop (l : List (κ × υ)) (i : Nat) : keysT (l.drop i) = (keysT l).drop i := List.map_drop ..
omit [KOrd κ] in
theorem keysT_set {l : List (κ × υ)} {k : κ} {x : υ} {i : Nat} (hi : i < (keysT l).length) (h : (keysT l)[i] = k) : keysT (l.take i ++ (k, x) :: l.drop (i + 1)) = keysT l := by
  rw [keysT_append, keysT_take, show keysT ((k, x) :: l.drop (i + 1)) = k :: keysT (l.drop (i + 1)) from rfl, keysT_drop, ← h, List.getElem_cons_drop, List.take_append_drop]
omit [KOrd κ] in
theorem set_length {l : List (κ × υ)} {k : κ} {x : υ} {i : Nat} (hi : i < l.length) : (l.take i ++ (k, x) :: l.drop (i + 1)).length = l.length := by
  rw [List.length_append, List.length_cons, List.length_take, List.length_drop]
  omega
omit [KOrd κ] in
theorem mid_length {l : List (κ × υ)} {k : κ} {x : υ} {i : Nat} (hi : i ≤ l.length) : (l.take i ++ (k, x) :: l.drop i).length = l.length + 1 := by
  rw [List.length_append, List.length_cons, List.length_take, List.length_drop]
  omega
omit [KOrd κ] in
theorem keysT_mid {kv : κ → Value} {l : List (κ × υ)} {k : κ} {x : υ} {i : Nat} : ((keysT l).map kv).take i ++ [kv k] ++ ((keysT l).map kv).drop i = (keysT (l.take i ++ (k, x) :: l.drop i)).map kv := by
  rw [keysT_append, keysT_take, show keysT ((k, x) :: l.drop i) = k :: keysT (l.drop i) from rfl, keysT_drop, List.map_append, List.map_cons, List.map_take, List.map_drop, List.append_assoc]
  rfl
theorem posS_in {ks : List κ} {k : κ} (hs : sortS ks) (h : k ∈ ks) : ∃ hi : posS ks k < ks.length, ks[posS ks k] = k := by
  have := (posS_found hs (x := k)).2 h
  obtain ⟨h1, h2⟩ := List.getElem?_eq_some_iff.1 this
  exact ⟨h1, h2⟩
omit [KOrd κ] in
theorem keysT_length (l : List (κ × υ)) : (keysT l).length = l.length := List.length_map ..
/-- a table's block, its keys and its values -/
def Tab (eT eK eV W : Nat) (kv : κ → Value) (cs : υ → List Value) (tb : Nat) (most : Int) (l : List (κ × υ)) (hp : Hp) : Prop :=
  sortS (keysT l) ∧ (l.length : Int) ≤ most ∧ most ≤ 4096 ∧ ∃ v1 v2 h1 h2, Own eK 1 v1 l.length ((keysT l).map kv) h1 ∧ Own eV W v2 l.length (flat cs l) h2 ∧ hp = (tb, .cells [v1, v2, .int .i64 most].toArray eT (0, 0)) :: (h1 ++ h2)
end
attribute [local irreducible] C R Fin K Own OwnT Rd Pl Ok KOf RetOk OpsOf RP KP Res NoPanic KV
variable {M M' : Mem} {H H1 : Hp}
theorem bsL_u {e : Nat} {ks : List Int} {x : Int} {v : Value} {hrow : Hp} {y : Nat × Obj} (ho : Own e 1 v ks.length (ks.map uV) hrow) (hs : sortS ks) (hn : ks.length ≤ 1000000) (ht : Ln hrow y H H1) : K Try.prog 41 [v, uV x] M H fun v' M' H' => v' = .tuple #[.int .i64 (posS ks x), .bool (decide (x ∈ ks))] ∧ M' = M ∧ H' = H :=
  K.lendT ht fun hg M2 hM2 hin => by
    obtain ⟨A, cap, rfl, _, _⟩ := ho.form
    exact bs_u (ho.plIn hin) hs hn

end Go.Sx
