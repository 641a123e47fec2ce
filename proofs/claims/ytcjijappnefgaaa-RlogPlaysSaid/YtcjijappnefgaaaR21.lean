/- Memory of one's own, written over. -/
import Derived.Test.YtcjijappnefgaaaR17
namespace Go.Sx
open Go.Proofs Go.RowKit
/-- a row of one's own, cell by cell -/
theorem Own.atS {e sz m : Nat} {v : Value} {xs : List Value} {hp : Hp} (h : Own e sz v m xs hp) (hm : 0 < m) : ∃ b cap, ∃ l : List Value, v = .slice (some ⟨b, 0, none⟩) m cap ∧ hp = [(b, .cells l.toArray e (0, 0))] ∧ m ≤ cap ∧ m * sz ≤ l.length ∧ l.take (m * sz) = xs ∧
    ∀ l' : List Value, l'.length = l.length → Own e sz v m (l'.take (m * sz)) [(b, .cells l'.toArray e (0, 0))] := by
  rcases h.2 with ⟨_, h2, _⟩ | ⟨b, cap, c, h1, h2, h3, h4, h5, h6⟩
  · omega
  · have hms : m * sz ≤ cap * sz := Nat.mul_le_mul_right _ h3
    refine ⟨b, cap, c.toList, h1, by rw [h2], h3, by rw [Array.length_toList, h5]; exact hms, h6, fun l' hl => ⟨?_, .inr ⟨b, cap, l'.toArray, h1, rfl, h3, h4, ?_, by simp⟩⟩⟩
    · rw [List.length_take, hl, Array.length_toList, h5]; omega
    · simp only [List.size_toArray]
      rw [hl, Array.length_toList]; exact h5
theorem take_get {l xs : List Value} {n j : Nat} {u : Value} (h : l.take n = xs) (hj : xs[j]? = some u) : l[j]? = some u := by
  rw [← h, List.getElem?_take] at hj
  split at hj
  · exact hj
  · cases hj
theorem take_set {l xs : List Value} {n j : Nat} {u : Value} (h : l.take n = xs) : (l.set j u).take n = xs.set j u := by
  rw [← h, List.take_set]
theorem owH_split {xs : List Ow} {i : Nat} (hi : i < xs.length) (y : Ow) : owH (xs.set i y) = owH (xs.take i) ++ (y.hp ++ owH (xs.drop (i + 1))) := by
  unfold owH
  rw [List.set_eq_take_append_cons_drop, if_pos hi, List.map_append, List.flatten_append, List.map_cons, List.flatten_cons]
theorem owH_at {xs : List Ow} {i : Nat} (hi : i < xs.length) : owH xs = owH (xs.take i) ++ (xs[i].hp ++ owH (xs.drop (i + 1))) := by
  have := owH_split hi xs[i]
  rwa [List.set_getElem_self] at this
theorem rowO_get {xs : List Ow} {i q : Nat} {u : Value} (hi : i < xs.length) (hq : (ecells xs[i].e xs[i].v)[q]? = some u) : (rowE (owE xs) (owV xs)).flatten[i * 5 + q]? = some u := by
  rw [rowE_ow]
  exact flat_get (sz := 5) _ (fun c hc => by obtain ⟨x, _, rfl⟩ := List.mem_map.1 hc; rfl) i q _ u (by rw [List.getElem?_map, List.getElem?_eq_getElem hi]; rfl) hq
theorem rowO_same {xs : List Ow} {i : Nat} (hi : i < xs.length) {y : Ow} (hc : ecells y.e y.v = ecells xs[i].e xs[i].v) : (rowE (owE (xs.set i y)) (owV (xs.set i y))).flatten = (rowE (owE xs) (owV xs)).flatten := by
  rw [rowE_ow, rowE_ow, List.map_set, hc]
  congr 1
  refine List.ext_getElem (by simp) fun n h1 h2 => ?_
  rw [List.getElem_set]
  split
  · rename_i h; subst h; rw [List.getElem_map]
  · rfl
theorem rowO_set {xs : List Ow} {i : Nat} (hi : i < xs.length) {y : Ow} {u : Value} (hc : ecells y.e y.v = (ecells xs[i].e xs[i].v).set 1 u) : (rowE (owE (xs.set i y)) (owV (xs.set i y))).flatten = (rowE (owE xs) (owV xs)).flatten.set (i * 5 + 1) u := by
  rw [rowE_ow, rowE_ow, rows_set (n := 5) (fun c hc => by obtain ⟨x, _, rfl⟩ := List.mem_map.1 hc; rfl) (i := i) (q := 1) (by rw [List.length_map]; exact hi) (by omega), List.map_set, List.getElem_map, hc]
theorem owD_set {xs : List Ow} (h : owD xs) {i : Nat} {y : Ow} (hy : Own 5 1 y.v y.e.data.length (y.e.data.map bv) y.hp) : owD (xs.set i y) := fun x hx => by
  rcases List.mem_or_eq_of_mem_set hx with hx | rfl
  · exact h x hx
  · exact hy
theorem OwnEs.over {v : Value} {ys : List Ow} {hrow : Hp} (h : OwnEs v ys hrow) {i : Nat} (hi : i < ys.length) : ∃ b cap, ∃ l : List Value, v = .slice (some ⟨b, 0, none⟩) ys.length cap ∧ hrow = [(b, .cells l.toArray 27 (0, 0))] ∧ ys.length ≤ cap ∧ ys.length * 5 ≤ l.length ∧
    (∀ (q : Nat) u, (ecells ys[i].e ys[i].v)[q]? = some u → l[i * 5 + q]? = some u) ∧
    ∀ (t : Int) (ds : List UInt8) (hp' : Hp), Own 5 1 ys[i].v ds.length (ds.map bv) hp' → OwnEs v (ys.set i ⟨{ ys[i].e with term := t, data := ds }, ys[i].v, hp'⟩) [(b, .cells (l.set (i * 5 + 1) (.int .u64 t)).toArray 27 (0, 0))] := by
  obtain ⟨b, cap, l, h1, h2, h3, h4, h5, h6⟩ := h.1.atS (by omega)
  refine ⟨b, cap, l, h1, h2, h3, h4, fun q u hq => take_get h5 (rowO_get hi hq), fun t ds hp' hd => ⟨?_, owD_set h.2 hd⟩⟩
  rw [rowO_set hi (u := .int .u64 t) rfl, List.length_set, ← take_set h5]
  exact h6 _ (by rw [List.length_set])
theorem OwnP.over {M : Mem} {v : Value} {es : List En} {hrow : Hp} (h : OwnP M v es hrow) {i : Nat} (hi : i < es.length) : ∃ b o cap, ∃ (l : List Value) (a : Value), v = .slice (some ⟨b, o, none⟩) es.length cap ∧ hrow = [(b, .cells l.toArray 27 (0, 0))] ∧ es.length ≤ cap ∧ o + es.length * 5 ≤ l.length ∧
    (∀ (q : Nat) u, (ecells es[i] a)[q]? = some u → l[o + (i * 5 + q)]? = some u) ∧
    ∀ t : Int, OwnP M v (es.set i { es[i] with idx := t }) [(b, .cells (l.set (o + (i * 5 + 2)) (.int .u64 t)).toArray 27 (0, 0))] := by
  obtain ⟨vs, h1, h2⟩ := h
  have hvl : vs.length = es.length := by rw [h2.1, List.length_map]
  obtain ⟨hxl, ⟨_, h0, _⟩ | ⟨b, o, cap, c, rfl, rfl, g3, g4, g5, g6⟩⟩ := h1
  · omega
  have hms : es.length * 5 ≤ cap * 5 := Nat.mul_le_mul_right _ g3
  have hiv : i < vs.length := by omega
  refine ⟨b, o, cap, c.toList, vs[i], rfl, by simp, g3, by have : c.toList.length = c.size := Array.length_toList; omega, fun q u hq => ?_, fun t => ⟨vs, ?_, ?_⟩⟩
  · have hg := flat_get _ (rowE_len es vs) i q _ u (rowE_i hi hiv) hq
    have := take_get g6 hg
    rwa [List.getElem?_drop] at this
  · have hrow2 : (rowE (es.set i { es[i] with idx := t }) vs).flatten = (rowE es vs).flatten.set (i * 5 + 2) (.int .u64 t) := by
      have hrl : i < (rowE es vs).length := by unfold rowE; rw [List.length_zipWith]; omega
      rw [rows_set (n := 5) (rowE_len es vs) (i := i) (q := 2) hrl (by omega)]
      congr 1
      refine List.ext_getElem (by unfold rowE; simp) fun n h1 h2 => ?_
      by_cases hn : i = n
      · subst hn
        rw [List.getElem_set_self]
        simp only [rowE, List.getElem_zipWith, List.getElem_set_self]
        rfl
      · rw [List.getElem_set_ne hn]
        simp only [rowE, List.getElem_zipWith, List.getElem_set_ne hn]
    rw [List.length_set, hrow2]
    refine ⟨by rw [List.length_set]; exact hxl, .inr ⟨b, o, cap, _, rfl, rfl, g3, g4, by simp only [List.size_toArray, List.length_set, Array.length_toList]; exact g5, ?_⟩⟩
    have hd : ((c.toList.set (o + (i * 5 + 2)) (.int .u64 t)).drop o) = (c.toList.drop o).set (i * 5 + 2) (.int .u64 t) := by
      rw [List.drop_set, if_neg (by omega)]
      congr 1
      omega
    show ((c.toList.set (o + (i * 5 + 2)) (.int .u64 t)).drop o).take (es.length * 5) = _
    rw [hd]
    exact take_set g6
  · have : (es.set i { es[i] with idx := t }).map En.data = es.map En.data := by
      rw [List.map_set]
      show (es.map En.data).set i es[i].data = _
      refine List.ext_getElem (by simp) fun n h1 h2 => ?_
      rw [List.getElem_set]
      split
      · rename_i hn; subst hn; rw [List.getElem_map]
      · rfl
    rw [this]
    exact h2
end Go.Sx
