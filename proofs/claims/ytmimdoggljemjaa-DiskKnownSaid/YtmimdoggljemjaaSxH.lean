/-
  Pointers held against nil.
-/
import Derived.Test.YtmimdoggljemjaaSxG
namespace Go.Sx
variable {P : Program} {r : Option Nat} {n : Nat} {D : List Deferred} {L L' : Sl} {M M' : Mem} {H : Hp} {Q : Post}
variable {d : Option Tmp} {ty : TypeId} {pos : String} {af : Array Edge} {g : Option (Nat × Bool)} {t t' e : TypeId} {x y : Operand} {p : Addr}
theorem Ok.eqPN [hu : Und P t (.pointer e)] (hx : ev L x = some (.pointer (some p))) (hy : ev L y = some (.pointer none)) : Ok P ⟨d, .binOp .eql t x y t', ty, pos, af, g⟩ L M H (.bool false) := by
  refine Ok.bin hx hy (fun w => by simp [eqGuard]) fun w => ?_
  have h : ∀ d : Nat, (Op.equalIn (d + 1) t (.pointer (some p)) (.pointer none)).run P w = .ok false w := fun d => by
    simp [Op.equalIn, run_underlying hu.h, sizeOf, typeInfo]
  simp only [binOp]
  simp [Op.equal, Op.maxDepth, h 9999]
theorem Ok.nePN [hu : Und P t (.pointer e)] (hx : ev L x = some (.pointer (some p))) (hy : ev L y = some (.pointer none)) : Ok P ⟨d, .binOp .neq t x y t', ty, pos, af, g⟩ L M H (.bool true) := by
  refine Ok.bin hx hy (fun w => by simp [eqGuard]) fun w => ?_
  have h : ∀ d : Nat, (Op.equalIn (d + 1) t (.pointer (some p)) (.pointer none)).run P w = .ok false w := fun d => by
    simp [Op.equalIn, run_underlying hu.h, sizeOf, typeInfo]
  simp only [binOp]
  simp [Op.equal, Op.maxDepth, h 9999]
theorem Pl.cell {A : Option Addr} {xs : List Value} (h : Pl M A xs) (hne : 0 < xs.length) : ∃ b o c e fr, A = some ⟨b, o, none⟩ ∧ M.at_ b = some (.cells c e fr) ∧ ∀ j u, xs[j]? = some u → c[o + j]? = some u := by
  rcases h with rfl | h
  · simp at hne
  · exact h
theorem picked.nil {ops : Array Oper} : picked ops [] [] := trivial
theorem picked.cons {ops : Array Oper} {i : Nat} {is : List Nat} {o : Oper} {rest : List Oper} (h : ops[i]? = some o) (hp : picked ops is rest) : picked ops (i :: is) (o :: rest) := ⟨h, hp⟩
theorem Ok.xorB {b c : UInt8} (hx : ev L x = some (bv b)) (hy : ev L y = some (bv c)) : Ok P ⟨d, .binOp .xor t x y t', ty, pos, af, g⟩ L M H (bv (b ^^^ c)) := by
  have h := Ok.xor (P := P) (d := d) (t := t) (t' := t') (ty := ty) (pos := pos) (af := af) (g := g) (M := M) (H := H) hx hy
  have hb : BitVec.ofInt IntKind.u8.bits (b.toNat : Int) = b.toBitVec := by
    show BitVec.ofInt 8 (b.toNat : Int) = b.toBitVec
    rw [BitVec.ofInt_natCast]
    exact BitVec.eq_of_toNat_eq (by simp)
  have hc : BitVec.ofInt IntKind.u8.bits (c.toNat : Int) = c.toBitVec := by
    show BitVec.ofInt 8 (c.toNat : Int) = c.toBitVec
    rw [BitVec.ofInt_natCast]
    exact BitVec.eq_of_toNat_eq (by simp)
  rw [hb, hc] at h
  have e : IntKind.u8.wrap ((b.toBitVec ^^^ c.toBitVec : BitVec 8).toNat : Int) = ((b ^^^ c).toNat : Int) := by
    have h1 : (b ^^^ c).toNat = (b.toBitVec ^^^ c.toBitVec).toNat := rfl
    have h2 : (b ^^^ c).toNat < 256 := UInt8.toNat_lt _
    rw [← h1]
    show ((b ^^^ c).toNat : Int) % 256 = _
    omega
  have e' : bv (b ^^^ c) = .int .u8 (IntKind.u8.wrap ((b.toBitVec ^^^ c.toBitVec : BitVec 8).toNat : Int)) := by rw [e, bv]
  rw [e']
  exact h
theorem C.seqR {id : Nat} {ops : Array Oper} {dr : Bool} {y : Code} (h : ∀ Kn : Act → World → Prop, KOf P r n y Q Kn → C P r n (.region id ops dr) (Exit.then Kn Q) D L M H) : C P r n (.seq (.region id ops dr) y) Q D L M H := C.seqK h
/-- a cell of an owned row of cells, and the row with another there -/
theorem Own.at_ {e m : Nat} {v : Value} {xs : List Value} {hp : Hp} (h : Own e 1 v m xs hp) {i : Nat} (hi : i < m) :
    ∃ (b cap : Nat) (l : List Value), v = .slice (some ⟨b, 0, none⟩) m cap ∧ hp = [(b, .cells l.toArray e (0, 0))] ∧ i < l.length ∧ l[i]? = xs[i]? ∧ ∀ u, Own e 1 v m (xs.set i u) [(b, .cells (l.set i u).toArray e (0, 0))] := by
  obtain ⟨hl, h⟩ := h
  rcases h with ⟨_, h, _⟩ | ⟨b, cap, c, rfl, rfl, h1, h2, h3, h4⟩
  · omega
  · refine ⟨b, cap, c.toList, rfl, by simp, by simp [h3]; omega, ?_, fun u => ⟨by simpa using hl, .inr ⟨b, cap, _, rfl, rfl, h1, h2, by simp [h3], ?_⟩⟩⟩
    · rw [← h4, List.getElem?_take]; simp; omega
    · simp only [Nat.mul_one] at h4 ⊢
      rw [List.take_set, h4]
theorem Own.of_cells {e b : Nat} {xs : List Value} (h : xs.length ≤ maxLen) : Own e 1 (.slice (some ⟨b, 0, none⟩) xs.length xs.length) xs.length xs [(b, .cells xs.toArray e (0, 0))] :=
  ⟨by simp, .inr ⟨b, xs.length, xs.toArray, rfl, rfl, Nat.le_refl _, h, by simp, by simp⟩⟩
theorem Ok.eqBo {b c : Bool} [hu : Und P t .bool] (hx : ev L x = some (.bool b)) (hy : ev L y = some (.bool c)) : Ok P ⟨d, .binOp .eql t x y t', ty, pos, af, g⟩ L M H (.bool (b == c)) :=
  Ok.bin hx hy (fun w => by simp [eqGuard]) fun w => by simp [binOp, Op.equal, Op.maxDepth, run_equalIn_bool w 9999 t b c hu.h]
theorem Ok.neBo {b c : Bool} [hu : Und P t .bool] (hx : ev L x = some (.bool b)) (hy : ev L y = some (.bool c)) : Ok P ⟨d, .binOp .neq t x y t', ty, pos, af, g⟩ L M H (.bool (b != c)) :=
  Ok.bin hx hy (fun w => by simp [eqGuard]) fun w => by simp [binOp, Op.equal, Op.maxDepth, run_equalIn_bool w 9999 t b c hu.h, bne]
theorem Ok.neBoS {b : Bool} [hu : Und P t .bool] (hx : ev L x = some (.bool b)) (hy : ev L y = some (.bool b)) : Ok P ⟨d, .binOp .neq t x y t', ty, pos, af, g⟩ L M H (.bool false) := by
  have h := Ok.neBo (P := P) (d := d) (t := t) (t' := t') (ty := ty) (pos := pos) (af := af) (g := g) (M := M) (H := H) hx hy
  rwa [show (b != b) = false by simp] at h
theorem Ok.eqBoS {b : Bool} [hu : Und P t .bool] (hx : ev L x = some (.bool b)) (hy : ev L y = some (.bool b)) : Ok P ⟨d, .binOp .eql t x y t', ty, pos, af, g⟩ L M H (.bool true) := by
  have h := Ok.eqBo (P := P) (d := d) (t := t) (t' := t') (ty := ty) (pos := pos) (af := af) (g := g) (M := M) (H := H) hx hy
  rwa [show (b == b) = true by simp] at h
theorem i64_bd {z : Int} (h : IntKind.i64.has z) : -9223372036854775808 ≤ z ∧ z ≤ 9223372036854775807 := by
  simpa [IntKind.has, IntKind.min, IntKind.max, IntKind.bits, IntKind.signed] using h
theorem u64_bd {z : Int} (h : IntKind.u64.has z) : 0 ≤ z ∧ z ≤ 18446744073709551615 := by
  simpa [IntKind.has, IntKind.min, IntKind.max, IntKind.bits, IntKind.signed] using h
section
variable {Hh : Type} {enc : TypeId × Value → Hh} {W : World} {m : Nat} {cs : List Value} {z : DataW Hh × List MemPlace}
/-- a struct's fields, each read and weighed -/
theorem rd_fields {fs : Array Field} (hu : P.underlying t = some (.struct fs)) (h : Trd enc P W m t cs z) (hw : Wgt P t z.1) :
    cs.length = P.cellsOf t ∧ ∃ k, ∀ (i ft off sz : Nat), (fs[i]?).map (fun f => (f.type, f.offset)) = some (ft, off) → P.cellsOf ft = sz → ∃ y, Trd enc P W k ft ((cs.drop off).take sz) y ∧ Wgt P ft y.1 := by
  obtain ⟨xs, k, _, rfl, h1, h2, h3⟩ := DataW.trod_struct hu h
  refine ⟨h1, k, fun i ft off sz hf0 hsz => ?_⟩
  obtain ⟨f, hf, he⟩ := Option.map_eq_some_iff.1 hf0
  cases he
  subst hsz
  have hi : i < xs.length := by
    rw [h2]
    exact (Array.getElem?_eq_some_iff.1 hf).1
  have h4 := h3 i f hf
  rw [List.getElem?_eq_getElem hi] at h4
  refine ⟨_, h4, fun u hu' => hw u ?_⟩
  simp only [DataW.weights, hu]
  exact DataW.weights_mem_each (j := i) (t := f.type) (d := xs[i].1) (by simp [List.getElem?_map, hf]) (by simp [List.getElem?_map, List.getElem?_eq_getElem hi]) u hu'
theorem flat_get {sz : Nat} : ∀ (css : List (List Value)) (_ : ∀ c ∈ css, c.length = sz) (i j : Nat) (c : List Value) (u : Value), css[i]? = some c → c[j]? = some u → css.flatten[i * sz + j]? = some u
  | [], _, _, _, _, _, h, _ => by simp at h
  | c :: css, hl, 0, j, c', u, h, hj => by
    simp only [List.getElem?_cons_zero, Option.some.injEq] at h
    subst h
    rw [Nat.zero_mul, Nat.zero_add, List.flatten_cons, List.getElem?_append_left (List.getElem?_eq_some_iff.1 hj).1]
    exact hj
  | c :: css, hl, i + 1, j, c', u, h, hj => by
    have hc := hl c (List.mem_cons_self ..)
    have := flat_get css (fun c h => hl c (List.mem_cons_of_mem _ h)) i j c' u (by simpa using h) hj
    rw [List.flatten_cons, List.getElem?_append_right (by rw [hc, Nat.succ_mul]; omega)]
    rw [show (i + 1) * sz + j - c.length = i * sz + j by rw [hc, Nat.succ_mul]; omega]
    exact this
end
theorem Ok.eqStrS {bs : List UInt8} (hx : ev L x = some (.string ⟨bs.toArray⟩)) (hy : ev L y = some (.string ⟨bs.toArray⟩)) : Ok P ⟨d, .binOp .eql t x y t', ty, pos, af, g⟩ L M H (.bool true) := by
  have h := Ok.eqStr (P := P) (d := d) (t := t) (t' := t') (ty := ty) (pos := pos) (af := af) (g := g) (M := M) (H := H) hx hy
  rwa [decide_eq_true rfl] at h
theorem Ok.neStrS {bs : List UInt8} (hx : ev L x = some (.string ⟨bs.toArray⟩)) (hy : ev L y = some (.string ⟨bs.toArray⟩)) : Ok P ⟨d, .binOp .neq t x y t', ty, pos, af, g⟩ L M H (.bool false) := by
  have h := Ok.neStr (P := P) (d := d) (t := t) (t' := t') (ty := ty) (pos := pos) (af := af) (g := g) (M := M) (H := H) hx hy
  rwa [decide_eq_true rfl] at h
theorem Own.shape {e m : Nat} {v : Value} {xs : List Value} {hp : Hp} (h : Own e 1 v m xs hp) : (hp = [] ∧ v = .slice none 0 0 ∧ m = 0 ∧ xs = []) ∨ ∃ b o, hp = [(b, o)] := by
  obtain ⟨hl, ⟨rfl, rfl, rfl⟩ | ⟨b, cap, c, _, rfl, _⟩⟩ := h
  · exact .inl ⟨rfl, rfl, rfl, List.eq_nil_of_length_eq_zero (by simpa using hl)⟩
  · exact .inr ⟨b, _, rfl⟩
theorem Ok.neIS {k : IntKind} {p : Int} (hx : ev L x = some (.int k p)) (hy : ev L y = some (.int k p)) : Ok P ⟨d, .binOp .neq t x y t', ty, pos, af, g⟩ L M H (.bool false) := by
  have h := Ok.neI (P := P) (d := d) (t := t) (t' := t') (ty := ty) (pos := pos) (af := af) (g := g) (M := M) (H := H) hx hy
  rwa [show (p != p) = false by simp] at h
end Go.Sx
