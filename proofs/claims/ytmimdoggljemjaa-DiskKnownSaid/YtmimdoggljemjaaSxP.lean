/- Rows of structs: their cells; rows that are the tail of a block, and what is appended to them. -/
import Derived.Test.YtmimdoggljemjaaSxO
namespace Go.Sx
theorem rows_len {n : Nat} : ∀ {css : List (List Value)}, (∀ c ∈ css, c.length = n) → css.flatten.length = css.length * n
  | [], _ => by simp
  | c :: css, h => by
    rw [List.flatten_cons, List.length_append, h c (List.mem_cons_self ..), rows_len fun d hd => h d (List.mem_cons_of_mem _ hd), List.length_cons, Nat.add_mul, Nat.one_mul, Nat.add_comm]
theorem rows_get {n : Nat} : ∀ {css : List (List Value)}, (∀ c ∈ css, c.length = n) → ∀ {i q : Nat} {u : Value} (hi : i < css.length), (css[i])[q]? = some u → css.flatten[i * n + q]? = some u
  | [], _, i, _, _, hi, _ => absurd hi (Nat.not_lt_zero i)
  | c :: css, h, 0, q, u, _, hq => by
    have hq : c[q]? = some u := hq
    rw [Nat.zero_mul, Nat.zero_add, List.flatten_cons, List.getElem?_append_left (List.getElem?_eq_some_iff.1 hq).1]
    exact hq
  | c :: css, h, i + 1, q, u, hi, hq => by
    have hc := h c (List.mem_cons_self ..)
    have := rows_get (fun d hd => h d (List.mem_cons_of_mem _ hd)) (i := i) (q := q) (u := u) (by simpa using hi) hq
    rw [List.flatten_cons, List.getElem?_append_right (by rw [hc, Nat.add_mul]; omega), hc, show (i + 1) * n + q - n = i * n + q by rw [Nat.add_mul]; omega]
    exact this
theorem rows_take {n : Nat} : ∀ {css : List (List Value)}, (∀ c ∈ css, c.length = n) → ∀ k, css.flatten.take (k * n) = (css.take k).flatten
  | [], _, k => by simp
  | c :: css, h, 0 => by simp
  | c :: css, h, k + 1 => by
    have hc := h c (List.mem_cons_self ..)
    rw [List.flatten_cons, List.take_append, hc, List.take_of_length_le (by rw [hc, Nat.add_mul]; omega), show (k + 1) * n - n = k * n by rw [Nat.add_mul]; omega, rows_take (fun d hd => h d (List.mem_cons_of_mem _ hd)) k, List.take_succ_cons, List.flatten_cons]
theorem rows_drop {n : Nat} : ∀ {css : List (List Value)}, (∀ c ∈ css, c.length = n) → ∀ k, css.flatten.drop (k * n) = (css.drop k).flatten
  | [], _, k => by simp
  | c :: css, h, 0 => by simp
  | c :: css, h, k + 1 => by
    have hc := h c (List.mem_cons_self ..)
    rw [List.flatten_cons, List.drop_append, hc, List.drop_of_length_le (by rw [hc, Nat.add_mul]; omega), show (k + 1) * n - n = k * n by rw [Nat.add_mul]; omega, rows_drop (fun d hd => h d (List.mem_cons_of_mem _ hd)) k, List.drop_succ_cons, List.nil_append]
theorem rows_set {n : Nat} : ∀ {css : List (List Value)}, (∀ c ∈ css, c.length = n) → ∀ {i q : Nat} (hi : i < css.length) (_ : q < n) (v : Value), css.flatten.set (i * n + q) v = (css.set i ((css[i]).set q v)).flatten
  | [], _, i, _, hi, _, _ => absurd hi (Nat.not_lt_zero i)
  | c :: css, h, 0, q, _, hq, v => by
    have hc := h c (List.mem_cons_self ..)
    rw [Nat.zero_mul, Nat.zero_add, List.flatten_cons, List.set_append_left _ _ (by omega)]
    rfl
  | c :: css, h, i + 1, q, hi, hq, v => by
    have hc := h c (List.mem_cons_self ..)
    have := rows_set (fun d hd => h d (List.mem_cons_of_mem _ hd)) (i := i) (q := q) (by simpa using hi) hq v
    rw [List.flatten_cons, List.set_append_right _ _ (by rw [hc, Nat.add_mul]; omega), hc, show (i + 1) * n + q - n = i * n + q by rw [Nat.add_mul]; omega, this]
    rfl
section
variable {P : Program} {r : Option Nat} {n : Nat} {D : List Deferred} {L : Sl} {M : Mem} {H H1 : Hp} {Q : Post} {w w' : World}
/-- a slice that the holder may write and grow: nil, or a piece of a row of its own, with what room it has -/
def OwnT (e sz : Nat) (v : Value) (m : Nat) (xs : List Value) (hp : Hp) : Prop :=
  xs.length = m * sz ∧ ((v = .slice none 0 0 ∧ m = 0 ∧ hp = []) ∨
    ∃ b o cap c, v = .slice (some ⟨b, o, none⟩) m cap ∧ hp = [(b, .cells c e (0, 0))] ∧ m ≤ cap ∧ cap ≤ maxLen ∧ o + cap * sz ≤ c.size ∧ (c.toList.drop o).take (m * sz) = xs)
theorem Own.tail {e sz m : Nat} {v : Value} {xs : List Value} {hp : Hp} (h : Own e sz v m xs hp) : OwnT e sz v m xs hp := by
  refine ⟨h.1, ?_⟩
  rcases h.2 with h1 | ⟨b, cap, c, h1, h2, h3, h4, h5, h6⟩
  · exact .inl h1
  · exact .inr ⟨b, 0, cap, c, h1, h2, h3, h4, by omega, by rw [List.drop_zero]; exact h6⟩
theorem OwnT.nil (e sz : Nat) : OwnT e sz (.slice none 0 0) 0 [] [] := (Own.nil e sz).tail
theorem OwnT.form {e sz m : Nat} {v : Value} {xs : List Value} {hp : Hp} (h : OwnT e sz v m xs hp) : ∃ A cap, v = .slice A m cap ∧ m ≤ cap ∧ cap ≤ maxLen := by
  rcases h.2 with ⟨h1, h2, _⟩ | ⟨b, o, cap, c, h1, _, h2, h3, _⟩
  · exact ⟨none, 0, by rw [h1, h2], by omega, by unfold maxLen; omega⟩
  · exact ⟨_, cap, h1, h2, h3⟩
theorem OwnT.plIn {e sz m cap : Nat} {A : Option Addr} {xs : List Value} {hp : Hp} (h : OwnT e sz (.slice A m cap) m xs hp) (hi : In M hp) : Pl M A xs := by
  rcases h.2 with ⟨h1, h2, _⟩ | ⟨b, o, cap', c, h1, h2, h3, h4, h5, h6⟩
  · subst h2
    exact .inl (List.eq_nil_of_length_eq_zero (by simpa using h.1))
  · subst h2
    refine .inr ⟨b, o, c, e, (0, 0), by injection h1, hi.head, fun j u hj => ?_⟩
    have hl : j < m * sz := by have := (List.getElem?_eq_some_iff.1 hj).1; have := h.1; omega
    have : (c.toList.drop o)[j]? = some u := by
      rw [← h6, List.getElem?_take, if_pos hl] at hj; exact hj
    rw [List.getElem?_drop] at this
    simpa using this
theorem appendT_run {t ty e sz by_ m : Nat} {z : Value} {v : Value} {xs news : List Value} {hp : Hp} {A : Option Addr} {k c : Nat} [hs : Und P t (.slice e)] [hi : Inf P e sz by_ z] (hz : z.cells.size = sz) (hsz : 0 < sz) (hby : 0 < by_)
    (hown : OwnT e sz v m xs hp) (hh : Heap w M (hp ++ H)) (hl : news.length = k * sz) (hrd : Rd M (hp ++ H) A news) (hone : ∀ u ∈ news, u.oneCell' = true) (hbytes : (m + k) * by_ ≤ 140737488355328) :
    ∃ v' w' hp', (Builtin.append_ #[t, t] ty #[v, .slice A k c]).run P w = .ok v' w' ∧ OwnT e sz v' (m + k) (xs ++ news) hp' ∧ Heap w' M (hp' ++ H) := by
  obtain ⟨hxl, ⟨rfl, rfl, rfl⟩ | ⟨b, o, cap, cur, rfl, rfl, h3, h4, h5, h6⟩⟩ := hown
  · have hx : xs = [] := List.eq_nil_of_length_eq_zero (by simpa using hxl)
    subst hx
    obtain ⟨v', w', hp', g1, g2, g3⟩ := append_run (P := P) (t := t) (e := e) (ty := ty) (c := c) hz hsz hby (Own.nil e sz) hh hl hrd hone hbytes
    exact ⟨v', w', hp', g1, g2.tail, g3⟩
  obtain ⟨inf, g1, g2, g3, g4⟩ := hi.h
  have h63 : m + k ≤ maxLen := by
    have : (m + k) * 1 ≤ (m + k) * by_ := Nat.mul_le_mul_left _ hby
    unfold maxLen; omega
  have hrow := hh.own (b, .cells cur e (0, 0)) (by simp)
  rcases hrd with rfl | ⟨ad, rfl, hc⟩
  · have hk : k = 0 := by
      rcases Nat.eq_zero_or_pos k with h | h
      · exact h
      · have := Nat.mul_pos h hsz; simp at hl; omega
    subst hk
    refine ⟨_, w, [(b, .cells cur e (0, 0))], ?_, ⟨by simpa using hxl, .inr ⟨b, o, cap, cur, rfl, rfl, h3, h4, h5, by simpa using h6⟩⟩, hh⟩
    have h0 : (Builtin.firstCells sz 0 (.slice A 0 c)).run P w = .ok #[] w := by
      cases A <;> simp [Builtin.firstCells, loadCells, loadCellsFrom]
    simp [Builtin.append_, run_underlying hs.h, sizeOf, typeInfo, g1, g2, Builtin.lenOf, h3, h0, storeCells]
  by_cases hroom : m + k ≤ cap
  · have hfit : (m + k) * sz ≤ cap * sz := Nat.mul_le_mul_right _ hroom
    have hms : (m + k) * sz = m * sz + k * sz := Nat.add_mul ..
    have hfc := run_firstCells_some (P := P) w sz k ad k c news hl (hc w hh)
    have hst := run_storeCells_at (P := P) b (o + m * sz) e news 0 cur w hrow (by omega) hone
    refine ⟨_, w.setRow b (cur.toList.take (o + m * sz) ++ news ++ cur.toList.drop (o + m * sz + news.length)).toArray, [(b, .cells (cur.toList.take (o + m * sz) ++ news ++ cur.toList.drop (o + m * sz + news.length)).toArray e (0, 0))], ?_, ⟨by rw [List.length_append, hxl, hl, Nat.add_mul], .inr ⟨b, o, cap, _, rfl, rfl, hroom, h4, ?_, ?_⟩⟩, ?_⟩
    · simp only [Nat.add_zero] at hst
      simp [Builtin.append_, run_underlying hs.h, sizeOf, typeInfo, g1, g2, Builtin.lenOf, hroom, hfc, Addr.add_lit, hst]
    · simp only [List.size_toArray, List.length_append, List.length_take, List.length_drop, Array.length_toList]
      omega
    · have hlt : (cur.toList.take (o + m * sz)).length = o + m * sz := by rw [List.length_take, Array.length_toList]; omega
      rw [List.append_assoc, List.drop_append, show o - (cur.toList.take (o + m * sz)).length = 0 by omega, List.drop_zero, List.drop_take, show o + m * sz - o = m * sz by omega, h6, ← List.append_assoc, hms, ← hxl, ← hl, ← List.length_append]
      exact List.take_left
    · exact hh.put (At.head _ _ _) (setRow_same _ _ _ _ _ _ hrow) (fun k hk => setRow_other _ _ _ _ hk) rfl rfl
  · have holds : ∀ j u, xs[j]? = some u → w.cell? ((⟨b, o, none⟩ : Addr).add j) = some u := by
      intro j u hj
      have hlj : j < m * sz := by have := (List.getElem?_eq_some_iff.1 hj).1; omega
      have h9 : (cur.toList.drop o)[j]? = some u := by
        rw [← h6, List.getElem?_take, if_pos hlj] at hj; exact hj
      rw [List.getElem?_drop] at h9
      rw [Addr.add_lit]
      simpa [World.cell?, hrow] using h9
    obtain ⟨v', w', k1, k2, k3⟩ := run_append_arg_grows (P := P) w t ty e inf z sz by_ hs.h g1 g4 g2 g3 hz hsz ⟨b, o, none⟩ m cap xs hxl holds ad k c news hl (hc w hh) (by omega) h63 hbytes
    obtain ⟨_, ⟨q1, q2⟩ | ⟨g', cap', cur', q1, q2, q3, q4, q5, q6, q7⟩⟩ := k2
    · omega
    refine ⟨v', w', [(g', .cells cur' e (0, 0))], k1, Own.tail ⟨by rw [List.length_append, hxl, hl, Nat.add_mul], .inr ⟨g', cap', cur', q1, rfl, q4, q5, q6, q7⟩⟩, ?_⟩
    have hh0 : Heap w M ([] ++ H) := hh.tail
    refine hh0.grown k3.os k3.output (fun j hj _ => k3.block j hj (by simp)) (by simpa using q3) ?_ (by simp)
    intro p hp1
    simp only [List.mem_singleton] at hp1
    subst hp1
    exact .inr q2
section
variable {d : Option Tmp} {ty : TypeId} {pos : String} {af : Array Edge} {ops : Array Oper} {rest : List Oper}
theorem R.appendT {t e sz by_ m k c : Nat} {z : Value} {s x : Operand} {v : Value} {xs news : List Value} {hp : Hp} {A : Option Addr} [hst : Und P t (.slice e)] [hi : Inf P e sz by_ z]
    (hs : ev L s = some v) (hx : ev L x = some (.slice A k c)) (hown : OwnT e sz v m xs hp) (ht : Tk hp H H1) (hrd : Rd M (hp ++ H1) A news) (hl : news.length = k * sz) (hone : ∀ u ∈ news, u.oneCell' = true) (hbytes : (m + k) * by_ ≤ 140737488355328)
    (hz : z.cells.size = sz) (hsz : 0 < sz) (hby : 0 < by_) (hd : dok n d = true)
    (kk : ∀ v' hp', OwnT e sz v' (m + k) (xs ++ news) hp' → R false P r n ops rest Q D (bnd d v' L) M (hp' ++ H1)) :
    R false P r n ops (⟨d, .call ⟨.builtin .append, #[s, x], #[t, t]⟩, ty, pos, af, none⟩ :: rest) Q D L M H := by
  refine R.world rfl (by intro c h; cases h) fun a w hf hh => ?_
  have hh' := hh.perm ht.perm
  obtain ⟨v', w', hp', h1, h2, h3⟩ := appendT_run (P := P) (t := t) (e := e) (ty := ty) (c := c) hz hsz hby hown hh' hl hrd hone hbytes
  exact ⟨v', w', .inl (builtin_run (xs := [s, x]) (vs := [v, .slice A k c]) hf (.cons hs (.cons hx .nil)) (fun _ => rfl) h1), fun hf _ => kk v' hp' h2 _ _ (hf.put d hd v') h3⟩
end
end
/-- what a truth value says -/
class BoolP (a : Bool) (p : outParam Prop) : Prop where
  h : a = true ↔ p
instance {p : Prop} {_ : Decidable p} : BoolP (decide p) p := ⟨decide_eq_true_iff⟩
instance {p q : Int} : BoolP (p == q) (p = q) := ⟨beq_iff_eq⟩
instance {p q : Int} : BoolP (p != q) (¬ p = q) := ⟨bne_iff_ne⟩
instance {a : Bool} {p : Prop} [h : BoolP a p] : BoolP (!a) (¬ p) := ⟨by rw [← h.h]; cases a <;> simp⟩
instance {a b : Bool} {p q : Prop} [h : BoolP a p] [g : BoolP b q] : BoolP (a && b) (p ∧ q) := ⟨by rw [← h.h, ← g.h]; cases a <;> simp⟩
instance {a b : Bool} {p q : Prop} [h : BoolP a p] [g : BoolP b q] : BoolP (a || b) (p ∨ q) := ⟨by rw [← h.h, ← g.h]; cases a <;> simp⟩
theorem bo_t {b : Bool} {q : Prop} [g : BoolP b q] (h : q) : Value.bool true = Value.bool b := by rw [g.h.2 h]
theorem bo_f {b : Bool} {q : Prop} [g : BoolP b q] (h : ¬ q) : Value.bool false = Value.bool b := by
  cases b with
  | true => exact absurd (g.h.1 rfl) h
  | false => rfl
theorem bo_ {a b : Bool} {p q : Prop} [h : BoolP a p] [g : BoolP b q] (e : p ↔ q) : Value.bool a = Value.bool b := by
  rw [Bool.eq_iff_iff.2 (h.h.trans (e.trans g.h.symm))]
end Go.Sx
