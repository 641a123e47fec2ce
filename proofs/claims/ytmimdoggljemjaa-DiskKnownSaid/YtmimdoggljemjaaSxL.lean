/-
  What is read-only from some place on: blocks that become the pool's; bytes, and slices of bytes, that lie there; the arguments of such types.
-/
import Derived.Test.YtmimdoggljemjaaSxK
namespace Go.Sx
open Go.ChangeShapes Go.WideShapes Go.ChangeAt Go.RowKit
variable {P : Program} {r : Option Nat} {n : Nat} {D : List Deferred} {L L' : Sl} {M M' : Mem} {H H1 hp : Hp} {Q : Post}
theorem C.dropA {c : Code} {s : Hp} (h : C P r n c Q D L M H) : C P r n c Q D L M (s ++ H) := fun a w hf hh => h a w hf (hh.tailA s)
theorem Mem.puts_other : ∀ (hp : Hp) {M : Mem} {b : Nat}, b ∉ hp.map Prod.fst → (M.puts hp).at_ b = M.at_ b
  | [], _, _, _ => rfl
  | (c, o) :: hp, M, b, h => by
    simp only [List.map_cons, List.mem_cons, not_or] at h
    unfold Mem.puts
    rw [Mem.puts_other hp h.2]
    simp [Mem.put, h.1]
theorem Mem.puts_at : ∀ (hp : Hp) {M : Mem}, (hp.map Prod.fst).Nodup → ∀ p ∈ hp, (M.puts hp).at_ p.1 = some p.2
  | [], _, _, _, h => by cases h
  | (c, o) :: hp, M, hnd, p, h => by
    rw [List.map_cons, List.nodup_cons] at hnd
    unfold Mem.puts
    rcases List.mem_cons.1 h with rfl | h
    · rw [Mem.puts_other hp hnd.1]
      simp [Mem.put]
    · exact Mem.puts_at hp hnd.2 p h
/-- the blocks lie in the pool -/
def In (M : Mem) (hp : Hp) : Prop := ∀ p ∈ hp, M.at_ p.1 = some p.2
theorem In.mono (hM : M.le M') (h : In M hp) : In M' hp := fun p hp => hM.2.2 _ _ (h p hp)
theorem In.left {h1 h2 : Hp} (h : In M (h1 ++ h2)) : In M h1 := fun p hp => h p (List.mem_append_left _ hp)
theorem In.right {h1 h2 : Hp} (h : In M (h1 ++ h2)) : In M h2 := fun p hp => h p (List.mem_append_right _ hp)
theorem In.tail {x : Nat × Obj} (h : In M (x :: hp)) : In M hp := fun p hp => h p (List.mem_cons_of_mem _ hp)
theorem In.head {x : Nat × Obj} (h : In M (x :: hp)) : M.at_ x.1 = some x.2 := h x (List.mem_cons_self ..)
theorem Heap.into {w : World} (h : Heap w M (hp ++ H)) : In (M.puts hp) hp := by
  have hnd := h.nodup
  rw [List.map_append, List.nodup_append] at hnd
  exact Mem.puts_at hp hnd.1
theorem K.freezeT {f : Nat} {args : List Value} {T T' : Value → Mem → Hp → Prop} (h : K P f args M H T) (ht : ∀ v M' H', T v M' H' → ∃ hp H2, Arr H' (hp ++ H2) ∧ ∀ M2, M'.le M2 → In M2 hp → T' v M2 H2) : K P f args M H T' := fun w hh =>
  (h w hh).mono fun _ _ ⟨v, M', H', h1, h2, h3⟩ => by
    obtain ⟨hp, H2, ha, hk⟩ := ht v M' H' h2
    have h4 := ha.heap h3
    exact ⟨v, M'.puts hp, H2, h1, hk _ (Heap.le_puts hp h4) h4.into, Heap.freezes hp h4⟩
theorem C.ice {c : Code} (ha : Arr H (hp ++ H1)) (h : ∀ M2, M.le M2 → In M2 hp → C P r n c Q D L M2 H1) : C P r n c Q D L M H := fun a w hf hh =>
  have h4 := ha.heap hh
  h _ (Heap.le_puts hp h4) h4.into a w hf (Heap.freezes hp h4)
theorem R.ice {ops : Array Oper} {rest : List Oper} (ha : Arr H (hp ++ H1)) (h : ∀ M2, M.le M2 → In M2 hp → R false P r n ops rest Q D L M2 H1) : R false P r n ops rest Q D L M H := fun a w hf hh =>
  have h4 := ha.heap hh
  h _ (Heap.le_puts hp h4) h4.into a w hf (Heap.freezes hp h4)
theorem Fin.ice {e : Exit} (ha : Arr H (hp ++ H1)) (h : ∀ M2, M.le M2 → In M2 hp → Fin n e Q D L M2 H1) : Fin n e Q D L M H := fun a w hf hh =>
  have h4 := ha.heap hh
  h _ (Heap.le_puts hp h4) h4.into a w hf (Heap.freezes hp h4)
theorem Heap.thaws {w : World} : ∀ (hp : Hp) {M : Mem} {H : Hp}, (hp.map Prod.fst).Nodup → (∀ p ∈ hp, M.at_ p.1 = none) → Heap w (M.puts hp) H → Heap w M (hp ++ H)
  | [], _, _, _, _, h => h
  | (b, o) :: hp, M, H, hnd, hn, h => by
    rw [List.map_cons, List.nodup_cons] at hnd
    have h1 := Heap.thaws hp (M := M.put b o) hnd.2 (fun p hp => by
      have hne : p.1 ≠ b := fun e => hnd.1 (List.mem_map.2 ⟨p, hp, e⟩)
      simp [Mem.put, hne, hn p (List.mem_cons_of_mem _ hp)]) h
    exact Heap.thaw (hn _ (List.mem_cons_self ..)) h1
/-- blocks are lent to the pool for a call -/
theorem K.lends {f : Nat} {args : List Value} {T : Value → Mem → Hp → Prop} (ha : Arr H (hp ++ H1)) (h : ∀ M2, M.le M2 → In M2 hp → K P f args M2 H1 (fun v M' H' => M' = M2 ∧ T v M (hp ++ H'))) : K P f args M H T := fun w hh => by
  have h4 := ha.heap hh
  refine (h _ (Heap.le_puts hp h4) h4.into w (Heap.freezes hp h4)).mono ?_
  rintro e w' ⟨v, M', H', h1, ⟨rfl, h2⟩, h3⟩
  have hnd := h4.nodup
  rw [List.map_append, List.nodup_append] at hnd
  exact ⟨v, M, hp ++ H', h1, h2, Heap.thaws hp hnd.1 (fun p hp => h4.apart p (List.mem_append_left _ hp)) h3⟩
theorem Own.plIn {e sz m cap : Nat} {A : Option Addr} {xs : List Value} (h : Own e sz (.slice A m cap) m xs hp) (hi : In M hp) : Pl M A xs := by
  rcases h.2 with ⟨h1, h2, _⟩ | ⟨b, cap', c, h1, h2, h3, h4, h5, h6⟩
  · subst h2
    exact .inl (List.eq_nil_of_length_eq_zero (by simpa using h.1))
  · subst h2
    refine .inr ⟨b, 0, c, e, (0, 0), by injection h1, hi.head, fun j u hj => ?_⟩
    have hl : j < m * sz := by have := (List.getElem?_eq_some_iff.1 hj).1; have := h.1; omega
    rw [Nat.zero_add]
    have : c.toList[j]? = some u := by
      rw [← h6, List.getElem?_take, if_pos hl] at hj; exact hj
    simpa using this
theorem Pl.ofAt {b : Nat} {l : List Value} {e : TypeId} {fr : Nat × Nat} (h : M.at_ b = some (.cells l.toArray e fr)) : Pl M (some ⟨b, 0, none⟩) l :=
  .inr ⟨b, 0, l.toArray, e, fr, rfl, h, fun j u hj => by simpa using hj⟩
theorem In.one {b : Nat} {o : Obj} (h : In M [(b, o)]) : M.at_ b = some o := h.head
theorem KV.func {f : Nat} {fs cs : List Value} {vs : List Value} {T : Value → Mem → Hp → Prop} [he : Ent P f] (h : K P f (fs ++ vs ++ cs) M H T) : KV P (.func (.func f) fs.toArray cs.toArray) vs M H T :=
  .inl ⟨f, fs.toArray, cs.toArray, rfl, he, by simpa using h⟩
/-- bytes in the pool -/
def PlB (M : Mem) (v : Value) (bs : List UInt8) : Prop := ∃ A cap, v = .slice A bs.length cap ∧ bs.length ≤ cap ∧ cap ≤ 9223372036854775807 ∧ Pl M A (bs.map bv)
theorem PlB.mono {v : Value} {bs : List UInt8} (hM : M.le M') (h : PlB M v bs) : PlB M' v bs := by
  obtain ⟨A, cap, h1, h2, h3, h4⟩ := h
  exact ⟨A, cap, h1, h2, h3, h4.mono hM⟩
theorem Own.plB {v : Value} {e : Nat} {bs : List UInt8} (h : Own e 1 v bs.length (bs.map bv) hp) (hi : In M hp) : PlB M v bs := by
  obtain ⟨A, cap, rfl, h1, h2⟩ := h.form
  exact ⟨A, cap, rfl, h1, by unfold maxLen at h2; omega, h.plIn hi⟩
/-- slices of bytes in the pool: the heads, and what they hold -/
def PlV (M : Mem) (vs : List Value) (ls : List (List UInt8)) : Prop := vs.length = ls.length ∧ ∀ (i : Nat) v l, vs[i]? = some v → ls[i]? = some l → PlB M v l
theorem PlV.mono {vs : List Value} {ls : List (List UInt8)} (hM : M.le M') (h : PlV M vs ls) : PlV M' vs ls := ⟨h.1, fun i v l h1 h2 => (h.2 i v l h1 h2).mono hM⟩
theorem PlV.nil : PlV M [] [] := ⟨rfl, by simp⟩
theorem PlV.snoc {vs : List Value} {ls : List (List UInt8)} {v : Value} {l : List UInt8} (h : PlV M vs ls) (hv : PlB M v l) : PlV M (vs ++ [v]) (ls ++ [l]) := by
  refine ⟨by simp [h.1], fun i u k h1 h2 => ?_⟩
  rcases Nat.lt_or_ge i vs.length with hi | hi
  · rw [List.getElem?_append_left hi] at h1
    rw [List.getElem?_append_left (by rw [← h.1]; exact hi)] at h2
    exact h.2 i u k h1 h2
  · rw [List.getElem?_append_right hi] at h1
    rw [List.getElem?_append_right (by rw [← h.1]; exact hi), ← h.1] at h2
    cases hk : i - vs.length with
    | zero =>
      rw [hk] at h1 h2
      cases h1; cases h2
      exact hv
    | succ k => rw [hk] at h1; simp at h1
theorem PlV.take {vs : List Value} {ls : List (List UInt8)} (h : PlV M vs ls) (k : Nat) : PlV M (vs.take k) (ls.take k) := by
  refine ⟨by simp [h.1], fun i v l h1 h2 => ?_⟩
  rw [List.getElem?_take] at h1 h2
  split at h1
  · rename_i hi
    rw [if_pos hi] at h2
    exact h.2 i v l h1 h2
  · cases h1
def PlL (M : Mem) (v : Value) (ls : List (List UInt8)) : Prop := ∃ A cap vs, v = .slice A ls.length cap ∧ ls.length ≤ cap ∧ cap ≤ 9223372036854775807 ∧ Pl M A vs ∧ PlV M vs ls
theorem PlL.mono {v : Value} {ls : List (List UInt8)} (hM : M.le M') (h : PlL M v ls) : PlL M' v ls := by
  obtain ⟨A, cap, vs, h1, h2, h3, h4, h5⟩ := h
  exact ⟨A, cap, vs, h1, h2, h3, h4.mono hM, h5.mono hM⟩
/-- the cell that holds the i-th head -/
theorem Pl.get {A : Option Addr} {vs : List Value} (h : Pl M A vs) {i : Nat} {v : Value} (hi : vs[i]? = some v) : ∃ b o c e fr, A = some ⟨b, o, none⟩ ∧ M.at_ b = some (.cells c e fr) ∧ c[o + i]? = some v := by
  rcases h with rfl | ⟨b, o, c, e, fr, h1, h2, h3⟩
  · simp at hi
  · exact ⟨b, o, c, e, fr, h1, h2, h3 i v hi⟩
theorem PlV.at_ {A : Option Addr} {vs : List Value} {ls : List (List UInt8)} (hp : Pl M A vs) (hv : PlV M vs ls) {i : Nat} (hi : i < ls.length) :
    ∃ b o c e fr Ai ci, A = some ⟨b, o, none⟩ ∧ M.at_ b = some (.cells c e fr) ∧ c[o + i]? = some (.slice Ai ls[i].length ci) ∧ vs[i]? = some (.slice Ai ls[i].length ci) ∧ ls[i].length ≤ ci ∧ ci ≤ 9223372036854775807 ∧ Pl M Ai (ls[i].map bv) := by
  have h1 : vs[i]? = some (vs[i]'(by rw [hv.1]; exact hi)) := List.getElem?_eq_getElem _
  obtain ⟨b, o, c, e, fr, g1, g2, g3⟩ := hp.get h1
  obtain ⟨Ai, ci, k1, k2, k3, k4⟩ := hv.2 i _ _ h1 (List.getElem?_eq_getElem hi)
  rw [k1] at g3 h1
  exact ⟨b, o, c, e, fr, Ai, ci, g1, g2, g3, h1, k2, k3, k4⟩
theorem Own.plL {e : Nat} {v : Value} {vs : List Value} {ls : List (List UInt8)} (h : Own e 1 v ls.length vs hp) (hi : In M hp) (hv : PlV M vs ls) : PlL M v ls := by
  obtain ⟨A, cap, rfl, h1, h2⟩ := h.form
  exact ⟨A, cap, vs, rfl, h1, by unfold maxLen at h2; omega, h.plIn hi, hv⟩
section
variable {d : Option Tmp} {ty : TypeId} {pos : String} {af : Array Edge} {g : Option (Nat × Bool)} {t t' : TypeId} {x y : Operand} {p q : Nat}
/-- numbers of 64 bits that are Nat -/
theorem Ok.shrIN {k' : IntKind} (s c : Nat) (hx : ev L x = some (.int .i64 (p : Int))) (hy : ev L y = some (.int k' (s : Int))) (hs : s ≤ 64) (hc : 2 ^ s = c) : Ok P ⟨d, .binOp .shr t x y t', ty, pos, af, g⟩ L M H (.int .i64 ((p / c : Nat) : Int)) := by
  have h := Ok.shr (P := P) (d := d) (t := t) (t' := t') (ty := ty) (pos := pos) (af := af) (g := g) (M := M) (H := H) hx hy (by omega)
  have e : (p : Int).fdiv (2 ^ (min (s : Int).toNat IntKind.i64.bits)) = ((p / c : Nat) : Int) := by
    rw [show min (s : Int).toNat IntKind.i64.bits = s by show min (s : Int).toNat 64 = s; omega]
    rw [Int.fdiv_eq_ediv_of_nonneg _ (by exact_mod_cast Nat.zero_le (2 ^ s)), ← hc]
    exact_mod_cast rfl
  rw [e] at h
  exact h
theorem Ok.shlIN {k' : IntKind} (s c : Nat) (hx : ev L x = some (.int .i64 (p : Int))) (hy : ev L y = some (.int k' (s : Int))) (hs : s ≤ 64) (hc : 2 ^ s = c) (hb : p * c ≤ 9223372036854775807) : Ok P ⟨d, .binOp .shl t x y t', ty, pos, af, g⟩ L M H (.int .i64 ((p * c : Nat) : Int)) := by
  have h := Ok.shl (P := P) (d := d) (t := t) (t' := t') (ty := ty) (pos := pos) (af := af) (g := g) (M := M) (H := H) hx hy (by omega)
  have e : (p : Int) * 2 ^ (min (s : Int).toNat IntKind.i64.bits) = ((p * c : Nat) : Int) := by
    rw [show min (s : Int).toNat IntKind.i64.bits = s by show min (s : Int).toNat 64 = s; omega]
    rw [← hc]
    exact_mod_cast rfl
  rw [e, w64 (by omega) (by omega)] at h
  exact h
theorem Ok.eqFN {a b : Array TypeId} {c : Bool} (hu : P.underlying t = some (.func a b c)) {fn : Fn} {fs cs : Array Value} (hx : ev L x = some (.func fn fs cs)) (hy : ev L y = some .nilFunc) : Ok P ⟨d, .binOp .eql t x y t', ty, pos, af, g⟩ L M H (.bool false) := by
  refine Ok.bin hx hy (fun w => by simp [eqGuard]) fun w => ?_
  have h : ∀ d : Nat, (Op.equalIn (d + 1) t (.func fn fs cs) .nilFunc).run P w = .ok false w := fun d => by
    simp [Op.equalIn, run_underlying hu]
  simp only [binOp]
  simp [Op.equal, Op.maxDepth, h 9999]
theorem Ok.convLI {s : TypeId} {ds : TypeDesc} {k : IntKind} [hs : Und P s ds] [ht : Und P t (.int .u8)] (hx : ev L x = some (.int k (p : Int))) : Ok P ⟨d, .convert s t x, ty, pos, af, g⟩ L M H (bv (UInt8.ofNat p)) := by
  have h := Ok.conv (P := P) (d := d) (ty := ty) (pos := pos) (af := af) (g := g) (M := M) (H := H) (s := s) (t := t) (k' := .u8) hx
  have e : IntKind.u8.wrap (p : Int) = ((UInt8.ofNat p).toNat : Int) := by
    rw [UInt8.toNat_ofNat']
    show (p : Int) % 256 = _
    omega
  rw [e] at h
  exact h
end
section
variable {Hh : Type} {enc : TypeId × Value → Hh} {W : World} {t e : TypeId} {v : Value} {d : DataW Hh} {ps : List MemPlace} {b : Nat} {rc : Reach}
theorem rd_parts {u : TypeId} {z : Value} [hu : Und P e (.slice u)] [he : Und P u (.int .u8)] [hi : Inf P u 1 1 z] : ∀ (css : List (List Value)), (∀ c ∈ css, c.length = 1 ∧ ∃ m y, Trd enc P W m e c y ∧ Wgt P e y.1) → ∃ ls, PlV (Mem.of W) css.flatten ls ∧ ls.length = css.length ∧ ∀ l ∈ ls, l.length ≤ 140737488351232
  | [], _ => ⟨[], PlV.nil, rfl, by simp⟩
  | c :: css, h => by
    obtain ⟨ls, h1, h2, h8⟩ := rd_parts css (fun c hc => h c (List.mem_cons_of_mem _ hc))
    obtain ⟨_, m, y, h3, h4⟩ := h c (List.mem_cons_self ..)
    obtain ⟨A, bs, cap, rfl, h5, h6, h7⟩ := rd_bytes h3 h4
    refine ⟨bs :: ls, ⟨by simp [h1.1], fun i u k g1 g2 => ?_⟩, by simp [h2], fun l hl => ?_⟩
    rotate_left
    · rcases List.mem_cons.1 hl with rfl | hl
      · omega
      · exact h8 l hl
    cases i with
    | zero =>
      simp only [List.flatten_cons, List.cons_append, List.nil_append, List.getElem?_cons_zero, Option.some.injEq] at g1 g2
      subst g1; subst g2
      exact ⟨A, cap, rfl, h5, by omega, h6⟩
    | succ i =>
      simp only [List.flatten_cons, List.cons_append, List.nil_append, List.getElem?_cons_succ] at g1 g2
      exact h1.2 i u k g1 g2
theorem arg_parts {u : TypeId} {z z' : Value} [hu : Und P t (.slice e)] [hi : Inf P e 1 24 z] [hue : Und P e (.slice u)] [heu : Und P u (.int .u8)] [hiu : Inf P u 1 1 z'] (hval : Value.okWide P W rc b t v) (h : DataW.Trod enc P W 0 (fun _ => true) true t v d ps) (hw : Wgt P t d) :
    ∃ ls, PlL (Mem.of W) v ls ∧ ls.length ≤ 140737488351232 ∧ ∀ l ∈ ls, l.length ≤ 140737488351232 := by
  obtain ⟨A, css, cap, rfl, h1, h2, h3, h4⟩ := arg_slice hval h hw
  obtain ⟨ls, h5, h6, h7⟩ := rd_parts (u := u) css h4
  exact ⟨ls, ⟨A, cap, _, by rw [h6], by omega, by omega, h2, h5⟩, by omega, h7⟩
/-- a slice is as long as its reading -/
theorem trod_len {A : Option Addr} {m c : Nat} [hu : Und P t (.slice e)] (h : DataW.Trod enc P W 0 (fun _ => true) true t (.slice A m c) d ps) : m = 0 ∨ ∃ elems spare, d = .slice elems spare ∧ elems.length = m := by
  obtain ⟨k, hm⟩ := h
  rcases DataW.trod_slice hu.h hm with ⟨h1, h2⟩ | ⟨a, len, cap, elems, rest, n, _, h1, h2, _, hl, hm, hlen, hel, hsp, _⟩
  · left
    simp [Value.cells] at h1
    exact h1.2.1
  · right
    simp [Value.cells] at h1
    cases h2
    exact ⟨_, _, rfl, by simp; omega⟩
end
end Go.Sx
