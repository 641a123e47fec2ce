/- What is put of another log: the plain law of RlogAlike. -/
import Derived.Test.YtcjijappnefgaaaR17
namespace Go.Sx
theorem mkE_ok {i t : Int} {l : En} (hi : numS i) (ht : 1 ≤ t ∧ t ≤ 72057594037927935) : entS (mkE i t l) ∧ (mkE i t l).term = t ∧ (mkE i t l).idx = i := by
  have hm : max 1 t = t := by omega
  refine ⟨?_, hm, rfl⟩
  unfold entS mkE
  dsimp only
  rw [hm]
  refine ⟨⟨ht.1, ht.2⟩, hi, ?_⟩
  have h0 : l.conf % 3 = 0 ∨ l.conf % 3 = 1 ∨ l.conf % 3 = 2 := by omega
  rcases h0 with h | h | h
  · rw [if_neg (by omega), if_neg (by omega)]
    exact .inl ⟨h, rfl, rfl⟩
  · rw [if_pos h, if_neg (by omega)]
    exact .inr (.inl ⟨h, by rw [List.length_cons]; omega, by rw [List.length_cons, List.length_take]; omega, rfl⟩)
  · rw [if_neg (by omega), if_pos h]
    exact .inr (.inr ⟨h, rfl, by unfold setS; omega⟩)
/-- the last one's term, or the one ahead -/
def lastT (t : Int) (es : List En) : Int := ((es.getLast?).map En.term).getD t
theorem lastT_cons {t : Int} {e : En} {es : List En} : lastT t (e :: es) = lastT e.term es := by
  unfold lastT
  cases es with
  | nil => rfl
  | cons x xs => rw [List.getLast?_cons_cons, List.getLast?_eq_some_getLast (List.cons_ne_nil x xs)]; rfl
theorem followS_app : ∀ {i t : Int} {xs ys : List En}, followS i t (xs ++ ys) ↔ followS i t xs ∧ followS (i + (xs.length : Int)) (lastT t xs) ys
  | i, t, [], ys => by
    have h : lastT t [] = t := rfl
    rw [h]
    simp [followS]
  | i, t, x :: xs, ys => by
    rw [List.cons_append, lastT_cons, List.length_cons]
    have e : ∀ (zs : List En), followS i t (x :: zs) ↔ entS x ∧ x.idx = (i + 1) % 18446744073709551616 ∧ t ≤ x.term ∧ followS (i + 1) x.term zs := fun _ => Iff.rfl
    rw [e, e, followS_app, show i + 1 + (xs.length : Int) = i + ((xs.length + 1 : Nat) : Int) by omega]
    constructor
    · rintro ⟨a, b, c, d, f⟩; exact ⟨⟨a, b, c, d⟩, f⟩
    · rintro ⟨⟨a, b, c, d⟩, f⟩; exact ⟨a, b, c, d, f⟩
theorem followS_le {i t t' : Int} {xs : List En} (h : followS i t xs) (ht : t' ≤ t) : followS i t' xs := by
  cases xs with
  | nil => exact trivial
  | cons x xs => exact ⟨h.1, h.2.1, by have := h.2.2.1; omega, h.2.2.2⟩
theorem hand_ok : ∀ {i t : Int} {ls : List En}, 0 ≤ i → i + ls.length ≤ 1000000 → 1 ≤ t → t + ls.length ≤ 1000000 → followS i t (handE i t ls) ∧ ∀ e ∈ handE i t ls, t ≤ e.term ∧ e.term ≤ t + ls.length
  | i, t, [], _, _, _, _ => ⟨trivial, fun e h => absurd h (List.not_mem_nil)⟩
  | i, t, l :: ls, h1, h2, h3, h4 => by
    rw [List.length_cons] at h2 h4
    have hq : 0 ≤ l.kind % 8 / 6 ∧ l.kind % 8 / 6 ≤ 1 := by omega
    obtain ⟨k1, k2⟩ := @hand_ok (i + 1) (t + l.kind % 8 / 6) ls (by omega) (by omega) (by omega) (by omega)
    obtain ⟨m1, m2, m3⟩ := @mkE_ok (i + 1) (t + l.kind % 8 / 6) l ⟨by omega, by omega⟩ ⟨by omega, by omega⟩
    rw [handE]
    refine ⟨⟨m1, by rw [m3]; omega, by rw [m2]; omega, by rw [m2]; exact k1⟩, fun e he => ?_⟩
    rcases List.mem_cons.1 he with rfl | he
    · rw [m2, List.length_cons]; omega
    · have := k2 e he
      rw [List.length_cons]; omega
theorem lastT_mem {t : Int} {xs : List En} : lastT t xs = t ∨ ∃ e ∈ xs, lastT t xs = e.term := by
  unfold lastT
  cases h : xs.getLast? with
  | none => exact .inl rfl
  | some e => exact .inr ⟨e, List.mem_of_getLast? h, rfl⟩
theorem putL_match {b : Ba} {es : List En} : ∀ {xs ys : List En} {p : Nat}, (∀ (i : Nat) (hi : i < xs.length), xs[i].idx = b.idx + ((p + i : Nat) : Int) + 1 ∧ ∃ (h : p + i < es.length), es[p + i].term = xs[i].term) → putL b es (xs ++ ys) = putL b es ys
  | [], ys, p, _ => rfl
  | x :: xs, ys, p, h => by
    obtain ⟨h1, h2, h3⟩ := h 0 (Nat.zero_lt_succ _)
    rw [List.getElem_cons_zero] at h1 h3
    have e : putL b es (x :: xs ++ ys) = if b.idx < x.idx ∧ x.idx ≤ lastS b es ∧ ((es[(x.idx - b.idx - 1).toNat]?).map En.term).getD 0 = x.term then putL b es (xs ++ ys) else (x.idx, es.take (x.idx - b.idx - 1).toNat ++ x :: (xs ++ ys)) := rfl
    have hl : lastS b es = b.idx + es.length := rfl
    have hp : (x.idx - b.idx - 1).toNat = p + 0 := by omega
    rw [e, if_pos ⟨by omega, by omega, by rw [hp, List.getElem?_eq_getElem h2]; exact h3⟩]
    refine putL_match (p := p + 1) fun i hi => ?_
    have := h (i + 1) (by rw [List.length_cons]; omega)
    rw [List.getElem_cons_succ] at this
    rw [show p + 1 + i = p + (i + 1) by omega]
    exact this
/-- two logs that were alike, and went on by other terms -/
structure Two (C A' B' : List En) (tm : Int) : Prop where
  a : followS 1 1 (C ++ A')
  b : followS 1 1 (C ++ B')
  at_ : ∀ e ∈ A', e.term ≤ tm + 9
  bt : ∀ e ∈ B', tm + 30 ≤ e.term
  len : C.length + A'.length + B'.length ≤ 1000
def b114 : Ba := ⟨1, 1, 14⟩
variable {C A' B' : List En} {tm : Int}
theorem Two.idx (h : Two C A' B' tm) {i : Nat} (hi : i < (C ++ B').length) : (C ++ B')[i].idx = 1 + (i : Int) + 1 := by
  have h1 := h.len
  rw [List.length_append] at hi
  rw [(followS_at h.b i (by rw [List.length_append]; exact hi)).2, Int.emod_eq_of_lt (by omega) (by omega)]
theorem term_at {es : List En} {k : Nat} (hk : 0 < k) (hl : k ≤ es.length) : termS b114 es (1 + (k : Int)) = (es[k - 1].term, true) := by
  unfold termS b114 lastS
  dsimp only
  rw [if_neg (by omega), if_pos (by omega), show (1 + (k : Int) - 1 - 1).toNat = k - 1 by omega, List.getElem?_eq_getElem]
  rfl
theorem term_out {es : List En} {k : Nat} (hl : es.length < k) : termS b114 es (1 + (k : Int)) = (0, false) := by
  unfold termS b114 lastS
  dsimp only
  rw [if_neg (by omega), if_neg (by omega)]
theorem term_base {es : List En} : termS b114 es 1 = (1, true) := by
  unfold termS b114
  rw [if_pos rfl]
/-- not alike ahead of it: nothing is put -/
theorem Two.no (h : Two C A' B' tm) {k m : Nat} (hk : C.length < k) (hkB : k ≤ (C ++ B').length) : putS b114 (C ++ A') (1 + (k : Int)) ((C ++ B')[k - 1]'(by omega)).term (((C ++ B').drop k).take m) = (0, false, C ++ A') := by
  unfold putS
  rw [if_neg]
  rintro ⟨h1, h2, _⟩
  by_cases hl : k ≤ (C ++ A').length
  · rw [term_at (by omega) hl] at h2
    dsimp only at h2
    rw [List.length_append] at hl hkB
    rw [List.getElem_append_right (by omega), List.getElem_append_right (by omega)] at h2
    have e1 := h.at_ _ (List.getElem_mem (l := A') (n := k - 1 - C.length) (by omega))
    have e2 := h.bt _ (List.getElem_mem (l := B') (n := k - 1 - C.length) (by omega))
    omega
  · rw [term_out (by omega)] at h1
    cases h1
theorem Two.yes (h : Two C A' B' tm) {k m : Nat} (hk : k ≤ C.length) (hm : k + m ≤ (C ++ B').length) {t : Int} (ht : t = lastT 1 ((C ++ B').take k)) : ∃ f, putS b114 (C ++ A') (1 + (k : Int)) t (((C ++ B').drop k).take m) = (f, true, if k + m ≤ C.length then C ++ A' else (C ++ B').take (k + m)) := by
  have hCk : (C ++ B').take k = C.take k := by rw [List.take_append, show k - C.length = 0 by omega, List.take_zero, List.append_nil]
  have hterm : termS b114 (C ++ A') (1 + (k : Int)) = (t, true) := by
    rw [ht, hCk]
    cases k with
    | zero => exact term_base
    | succ k =>
      rw [term_at (Nat.succ_pos _) (by rw [List.length_append]; omega), List.getElem_append_left (show k.succ - 1 < C.length by omega)]
      unfold lastT
      rw [List.getLast?_take, if_neg (Nat.succ_ne_zero _), List.getElem?_eq_getElem (show k + 1 - 1 < C.length by omega)]
      rfl
  have hfol : followS (1 + (k : Int)) t (((C ++ B').drop k).take m) := by
    have h1 : followS 1 1 ((C ++ B').take k ++ (C ++ B').drop k) := by rw [List.take_append_drop]; exact h.b
    have h2 := (followS_app.1 h1).2
    rw [← ht, List.length_take, Nat.min_eq_left (by omega)] at h2
    have h3 : followS (1 + (k : Int)) t (((C ++ B').drop k).take m ++ ((C ++ B').drop k).drop m) := by rw [List.take_append_drop]; exact h2
    exact (followS_app.1 h3).1
  unfold putS
  rw [hterm, if_pos ⟨rfl, rfl, hfol⟩]
  refine ⟨(putL b114 (C ++ A') (((C ++ B').drop k).take m)).1, ?_⟩
  have hsplit : ((C ++ B').drop k).take m = (C.drop k).take m ++ B'.take (m - (C.length - k)) := by
    rw [List.drop_append, show k - C.length = 0 by omega, List.drop_zero, List.take_append, List.length_drop]
  have hmatch : putL b114 (C ++ A') (((C ++ B').drop k).take m) = putL b114 (C ++ A') (B'.take (m - (C.length - k))) := by
    rw [hsplit]
    refine putL_match (p := k) fun i hi => ?_
    rw [List.length_take, List.length_drop] at hi
    have hiC : k + i < C.length := by omega
    have e1 : ((C.drop k).take m)[i]'(by rw [List.length_take, List.length_drop]; omega) = C[k + i] := by rw [List.getElem_take, List.getElem_drop]
    have e2 := h.idx (i := k + i) (by rw [List.length_append]; omega)
    rw [List.getElem_append_left hiC] at e2
    rw [e1, e2]
    exact ⟨rfl, by rw [List.length_append]; omega, by rw [List.getElem_append_left hiC]⟩
  by_cases hin : k + m ≤ C.length
  · rw [if_pos hin]
    have : putL b114 (C ++ A') (((C ++ B').drop k).take m) = (0, C ++ A') := by
      rw [hmatch, show m - (C.length - k) = 0 by omega, List.take_zero]
      rfl
    rw [this]
  · rw [if_neg hin]
    obtain ⟨q, hq⟩ : ∃ q, m - (C.length - k) = q + 1 := ⟨m - (C.length - k) - 1, by omega⟩
    rw [List.length_append] at hm
    cases hB : B' with
    | nil => rw [hB] at hm; simp at hm; omega
    | cons y ys =>
      have hy : y.idx = 1 + (C.length : Int) + 1 := by
        have := h.idx (i := C.length) (by rw [List.length_append, hB, List.length_cons]; omega)
        rw [List.getElem_append_right (Nat.le_refl _)] at this
        simpa [hB] using this
      have hyt : tm + 30 ≤ y.term := h.bt y (by rw [hB]; exact List.mem_cons_self)
      have hput : putL b114 (C ++ A') (((C ++ B').drop k).take m) = (y.idx, C ++ (y :: ys).take (m - (C.length - k))) := by
        rw [hmatch, hB, hq, List.take_succ_cons]
        have e : ∀ zs, putL b114 (C ++ A') (y :: zs) = if b114.idx < y.idx ∧ y.idx ≤ lastS b114 (C ++ A') ∧ (((C ++ A')[(y.idx - b114.idx - 1).toNat]?).map En.term).getD 0 = y.term then putL b114 (C ++ A') zs else (y.idx, (C ++ A').take (y.idx - b114.idx - 1).toNat ++ y :: zs) := fun _ => rfl
        have hpos : (y.idx - b114.idx - 1).toNat = C.length := by unfold b114; dsimp only; omega
        rw [e, if_neg, hpos, List.take_left]
        rintro ⟨_, h2, h3⟩
        have hl : lastS b114 (C ++ A') = 1 + ((C ++ A').length : Int) := rfl
        rw [hl, List.length_append] at h2
        have hA : 0 < A'.length := by omega
        rw [hpos, List.getElem?_append_right (Nat.le_refl _), Nat.sub_self, List.getElem?_eq_getElem hA] at h3
        have h4 := h.at_ _ (List.getElem_mem hA)
        have h5 : A'[0].term = y.term := h3
        omega
      rw [hB] at hput
      rw [hput, List.take_append, List.take_of_length_le (show C.length ≤ k + m by omega), show m - (C.length - k) = k + m - C.length by omega]
end Go.Sx
