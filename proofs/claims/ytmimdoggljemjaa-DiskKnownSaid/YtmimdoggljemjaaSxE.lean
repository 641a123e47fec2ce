/-
  Slices' literals and makes; strings and bytes.
-/
import Derived.Test.YtmimdoggljemjaaSxD
namespace Go.Sx
open Go.RowKit
variable {P : Program} {r : Option Nat} {n : Nat} {D : List Deferred} {L L' : Sl} {M : Mem} {H H1 : Hp} {Q : Post}

/-- a byte's value -/
def bv (b : UInt8) : Value := .int .u8 (b.toNat : Int)
/-- a text's value -/
def str (bs : List UInt8) : Value := .string ⟨bs.toArray⟩
theorem bv_one (bs : List UInt8) : ∀ u ∈ bs.map bv, u.oneCell' = true := by
  intro u hu
  obtain ⟨b, _, rfl⟩ := List.mem_map.1 hu
  rfl

section
variable {d : Option Tmp} {ty : TypeId} {pos : String} {af : Array Edge} {ops : Array Oper} {rest : List Oper} {g : Option (Nat × Bool)}

theorem R.buildSlice {t e sz by_ len : Nat} {z : Value} {zs l : List Value} {ps : List (Nat × Operand)} {qs : List (Nat × Value)} [hs : Und P t (.slice e)] [hi : Inf P e sz by_ z] (hp : Prt L ps qs) (hzl : z.cells.toList = zs) (hle : Nat.ble (len * sz) 16777216 = true)
    (hF : Fills (fun i => some (i * sz, sz)) ((List.range (len * sz)).map fun i => zs[i % zs.length]!) qs l) (hd : dok n d = true)
    (k : ∀ b, R false P r n ops rest Q D (bnd d (.slice (some ⟨b, 0, none⟩) len len) L) M ((b, .cells l.toArray e (0, 0)) :: H)) : R false P r n ops (⟨d, .buildSlice t len ps.toArray, ty, pos, af, none⟩ :: rest) Q D L M H := by
  obtain ⟨inf, g1, g2, g3, g4⟩ := hi.h
  refine R.world rfl (by intro c h; cases h) fun a w hf hh => ⟨.slice (some ⟨w.heap.size, 0, none⟩) len len, w.alloc (.cells l.toArray e), .inl ?_, fun hf hh => k _ _ _ (hf.put d hd _) (hh.alloc _)⟩
  have h1 := hf.prt hp
  have h2 : (ps.toArray.map fun (x : Nat × Operand) => (x.1, a.eval x.2)) = qs.toArray := by simp [h1]
  have h3 := hF.run
  have hle' : ¬ (16777216 < len * sz) := by have := Nat.le_of_ble_eq_true hle; omega
  subst hzl
  simp only [execOp, h2]
  by_cases h0 : len * sz = 0
  · have hl : Instr.fill (fun i => some (i * sz, sz)) #[] qs = some l.toArray := by simpa [h0] using h3
    have hr0 : Array.range 0 = #[] := rfl
    simp [Instr.buildSlice, run_underlying hs.h, sizeOf, typeInfo, g1, g2, h0, hl, hr0, newRow, newObj, Sem.run, World.alloc_eq]
  · have hl : Instr.fill (fun i => some (i * sz, sz)) ((Array.range (len * sz)).map fun i => z.cells[i % z.cells.size]!) qs = some l.toArray := by
      rw [← h3]; congr 1
      apply Array.ext'
      rw [Array.toList_map, Array.toList_range]
      refine List.map_congr_left fun i _ => ?_
      simp [getElem!_def]
    simp [Instr.buildSlice, run_underlying hs.h, sizeOf, typeInfo, zeroValue, g1, g2, g4, h0, hle', hl, newRow, newObj, Sem.run, World.alloc_eq]

theorem madeCells_one (z : Value) (hz : z.cells = #[z]) (k : Nat) : madeCells z.cells k = (List.replicate k z).toArray := by
  unfold madeCells
  rw [hz]
  apply Array.ext'
  simp [Nat.mod_one, List.eq_replicate_iff]
theorem R.makeSlice {t e by_ : Nat} {z : Value} {x y : Operand} {kl kc : IntKind} {i j : Int} [hs : Und P t (.slice e)] [hi : Inf P e 1 by_ z] (hx : ev L x = some (.int kl i)) (hy : ev L y = some (.int kc j)) (h0 : 0 ≤ i) (h1 : i ≤ j) (hb : (by_ : Int) * j ≤ 281474976710656) (hj : j ≤ 9223372036854775807) (hz : z.cells = #[z]) (hd : dok n d = true)
    (k : ∀ b, R false P r n ops rest Q D (bnd d (.slice (some ⟨b, 0, none⟩) i.toNat j.toNat) L) M ((b, .cells (List.replicate j.toNat z).toArray e (0, 0)) :: H)) : R false P r n ops (⟨d, .makeSlice t x y, ty, pos, af, none⟩ :: rest) Q D L M H := by
  obtain ⟨inf, g1, g2, g3, g4⟩ := hi.h
  refine R.world rfl (by intro c h; cases h) fun a w hf hh => ⟨.slice (some ⟨w.heap.size, 0, none⟩) i.toNat j.toNat, w.alloc (.cells (List.replicate j.toNat z).toArray e), .inl ?_, fun hf hh => k _ _ _ (hf.put d hd _) (hh.alloc _)⟩
  have hr := run_make (P := P) w t e inf z hs.h g1 g4 kl kc i j h0 h1 (by rw [g3]; exact hb) hj
  rw [g2, Nat.mul_one, madeCells_one z hz] at hr
  simp [execOp, hf.ev hx, hf.ev hy, hr]

theorem fold_bytes (bs : List UInt8) : (bs.map fun b => ((b.toNat : Nat) : Int)).foldl (fun r n => r.push (UInt8.ofNat n.toNat)) ByteArray.empty = (⟨bs.toArray⟩ : ByteArray) := by
  rw [foldl_push_bytes]
  congr 1
  apply Array.ext'
  have : bs.map ((fun n : Int => UInt8.ofNat n.toNat) ∘ fun b => ((b.toNat : Nat) : Int)) = bs := by
    conv => rhs; rw [← List.map_id bs]
    apply List.map_congr_left
    intro b _
    simp
  rw [Array.toList_append]
  show ([] : List UInt8) ++ _ = _
  simpa using this
theorem Ok.toStr {s t e : TypeId} {x : Operand} {A : Option Addr} {c : Nat} {bs : List UInt8} [hs : Und P s (.slice e)] [he : Und P e (.int .u8)] [ht : Und P t .string] (hx : ev L x = some (.slice A bs.length c)) (hrd : Rd M H A (bs.map bv)) :
    Ok P ⟨d, .convert s t x, ty, pos, af, g⟩ L M H (str bs) := fun n D a w hf hh => by
  simp only [execOp, hf.ev hx, Sem.run_bind]
  rw [run_convert_bytes_string w s t e A bs.length c hs.h he.h ht.h]
  rcases hrd with h | ⟨ad, rfl, hc⟩
  · have : bs = [] := by simpa using h
    subst this
    cases A with
    | none => rfl
    | some ad =>
      have h0 := run_bytesToString (P := P) w ad 0 c [] (by simp [loadCells, loadCellsFrom])
      simp only [List.length_nil]
      rw [h0]
      rfl
  · have hl := run_firstCells_some (P := P) w 1 bs.length ad bs.length bs.length (bs.map bv) (by simp) (hc w hh)
    simp only [Builtin.firstCells, Nat.mul_one] at hl
    rw [run_bytesToString w ad bs.length c (bs.map fun b => ((b.toNat : Nat) : Int)) (by rw [hl]; simp [bv, Function.comp_def])]
    rw [fold_bytes]
    rfl

theorem toList_eq (bs : List UInt8) : (⟨bs.toArray⟩ : ByteArray).toList = bs := by
  rw [ByteArray.toList_eq]
theorem Ok.eqStr {t t' : TypeId} {x y : Operand} {bs cs : List UInt8} (hx : ev L x = some (.string ⟨bs.toArray⟩)) (hy : ev L y = some (.string ⟨cs.toArray⟩)) : Ok P ⟨d, .binOp .eql t x y t', ty, pos, af, g⟩ L M H (.bool (decide (bs = cs))) :=
  Ok.bin hx hy (fun w => by simp [eqGuard]) fun w => by
    have : (bs == cs) = decide (bs = cs) := by rw [Bool.eq_iff_iff]; simp
    simp [binOp, Op.stringOp, this]
theorem Ok.neStr {t t' : TypeId} {x y : Operand} {bs cs : List UInt8} (hx : ev L x = some (.string ⟨bs.toArray⟩)) (hy : ev L y = some (.string ⟨cs.toArray⟩)) : Ok P ⟨d, .binOp .neq t x y t', ty, pos, af, g⟩ L M H (.bool (!decide (bs = cs))) :=
  Ok.bin hx hy (fun w => by simp [eqGuard]) fun w => by
    have : (bs == cs) = decide (bs = cs) := by rw [Bool.eq_iff_iff]; simp
    simp [binOp, Op.stringOp, this]

/-- []byte("constant") -/
theorem R.convConst {t e : TypeId} {x : Operand} {b o m c : Nat} {l : List Value} {e' : TypeId} {f : Obj → Hp} [hs : Und P t (.slice e)] [he : Und P e (.int .u8)] (hx : ev L x = some (.slice (some ⟨b, o, none⟩) m c)) (hb : At H b (.cells l.toArray e' (0, 0)) f) (hd : dok n d = true)
    (k : R false P r n ops rest Q D (bnd d (.slice (some ⟨b, o, none⟩) m c) L) M (f (.cells l.toArray e' (l.length, l.length + 1)))) : R false P r n ops (⟨d, .convert t t x, ty, pos, af, none⟩ :: rest) Q D L M H := by
  refine R.world rfl (by intro c h; cases h) fun a w hf hh => ⟨.slice (some ⟨b, o, none⟩) m c, w.freeze ⟨b, l.length, none⟩ 1, .inl ?_, fun hf hh => k _ _ (hf.put d hd _) (hh.put hb ?_ ?_ rfl rfl)⟩
  · have h1 := hh.own _ hb.mem
    have hsh : w.shape? b = some (e', l.length) := by simp [World.shape?, h1]
    simp [execOp, hf.ev hx, convert, run_underlying hs.h, run_underlying he.h, markStringish, hsh, shape, Sem.run]
  · have h1 := hh.own _ hb.mem
    simp only [] at h1
    simp [World.freeze, Array.getElem?_modify, h1]
  · intro k' hk
    simp only [World.freeze, Nat.succ_ne_zero, if_false, Array.getElem?_modify]
    rw [if_neg (by simpa using Ne.symm hk)]
end

theorem Inf.of {t sz by_ : Nat} {z : Value} (h : (P.info? t).map (fun i => (i.zero, i.size, i.bytes)) = some (some z, sz, by_)) : Inf P t sz by_ z := by
  cases hi : P.info? t with
  | none => rw [hi] at h; cases h
  | some i =>
    rw [hi] at h
    simp only [Option.map_some, Option.some.injEq, Prod.mk.injEq] at h
    exact ⟨i, hi, h.2.1, h.2.2, h.1⟩
theorem FldV.of {t i off sz by_ : Nat} {ag : Bool} {z : Value} {fs : Array Field} {f : Field} {ds : TypeDesc} (ft : TypeId) [hu : Und P t (.struct fs)] [hd : Und P ft ds] [hi : Inf P ft sz by_ z] (hf : fs[i]? = some f) (he : f.type = ft) (ho : f.offset = off) (ha : aggD ds = ag) : FldV P t i off sz ag := by
  obtain ⟨inf, g1, g2, _, _⟩ := hi.h
  exact ⟨fs, f, ds, inf, hu.h, hf, ho, by rw [he]; exact hd.h, ha, by rw [he]; exact g1, g2⟩
theorem Bld.of {t sz by_ : Nat} {z : Value} {fs : Array Field} {places : List (Nat × Nat)} {zs : List Value} [hu : Und P t (.struct fs)] [hi : Inf P t sz by_ z] (hz : z.cells = zs.toArray)
    (hp : ∀ w, (fs.mapM fun f => do pure (f.offset, ← sizeOf f.type) : Sem (Array (Nat × Nat))).run P w = .ok places.toArray w) : Bld P t places zs := by
  obtain ⟨inf, g1, _, _, g4⟩ := hi.h
  refine ⟨fun w parts => ?_⟩
  have hpl : (fun i : Nat => places.toArray[i]?) = (fun i : Nat => places[i]?) := by funext i; simp
  have hp' := hp w
  simp only [Instr.build, zeroValue, typeInfo, Sem.run_bind, program, Sem.run, Result.andThen, g1, g4, Sem.run_pure, run_underlying hu.h, hp', hz, hpl]
  cases Instr.fill (fun i : Nat => places[i]?) zs.toArray parts.toList <;> rfl
theorem Ent.of {f : FuncId} {fn : Func} (hf : P.funcs[f]? = some fn) (hname : (fn.name == "runtime.NumGoroutine") = false) (hb : fn.body.isNone = false) : Ent P f := by
  refine ⟨fun args w => ?_⟩
  have h1 : fn.name ≠ "runtime.NumGoroutine" := by simpa using hname
  have h2 : fn.body ≠ none := by intro h; rw [h] at hb; cases hb
  simp [callFunc, hf, h1, h2]

/-! numbers that fit -/
theorem w64 {x : Int} (h0 : -9223372036854775808 ≤ x) (h1 : x ≤ 9223372036854775807) : IntKind.i64.wrap x = x := by rw [IntKind.wrap_i64]; omega
theorem wu64 {x : Int} (h0 : 0 ≤ x) (h1 : x ≤ 18446744073709551615) : IntKind.u64.wrap x = x := by
  show x % 2 ^ 64 = x
  omega
section
variable {L : Sl} {M : Mem} {H : Hp} {d : Option Tmp} {ty : TypeId} {pos : String} {af : Array Edge} {g : Option (Nat × Bool)} {t t' : TypeId} {x y : Operand} {p q : Int}
theorem Ok.remP {k : IntKind} (hx : ev L x = some (.int k p)) (hy : ev L y = some (.int k q)) (h0 : 0 ≤ p) (hq : 0 < q) : Ok P ⟨d, .binOp .rem t x y t', ty, pos, af, g⟩ L M H (.int k (p % q)) := by
  have := Ok.rem (P := P) (d := d) (t := t) (t' := t') (ty := ty) (pos := pos) (af := af) (g := g) (M := M) (H := H) hx hy (by omega)
  rwa [Int.tmod_eq_emod_of_nonneg h0] at this
theorem ediv_bd {p q : Int} (h0 : 0 ≤ p) (hq : 0 < q) : 0 ≤ p / q ∧ p / q ≤ p := ⟨Int.ediv_nonneg h0 (by omega), Int.ediv_le_self q h0⟩
theorem Ok.quoP (hx : ev L x = some (.int .i64 p)) (hy : ev L y = some (.int .i64 q)) (h0 : 0 ≤ p) (hq : 0 < q) (h1 : p ≤ 9223372036854775807) : Ok P ⟨d, .binOp .quo t x y t', ty, pos, af, g⟩ L M H (.int .i64 (p / q)) := by
  have := Ok.quo (P := P) (d := d) (t := t) (t' := t') (ty := ty) (pos := pos) (af := af) (g := g) (M := M) (H := H) hx hy (by omega)
  have hb := ediv_bd h0 hq
  rwa [Int.tdiv_eq_ediv_of_nonneg h0, w64 (by omega) (by omega)] at this
theorem Ok.quoU (hx : ev L x = some (.int .u64 p)) (hy : ev L y = some (.int .u64 q)) (h0 : 0 ≤ p) (hq : 0 < q) (h1 : p ≤ 18446744073709551615) : Ok P ⟨d, .binOp .quo t x y t', ty, pos, af, g⟩ L M H (.int .u64 (p / q)) := by
  have := Ok.quo (P := P) (d := d) (t := t) (t' := t') (ty := ty) (pos := pos) (af := af) (g := g) (M := M) (H := H) hx hy (by omega)
  have hb := ediv_bd h0 hq
  rwa [Int.tdiv_eq_ediv_of_nonneg h0, wu64 (by omega) (by omega)] at this
end
theorem pick_eq (n m : Int) (hm : 0 < m) : (if n.tmod m < 0 then n.tmod m + m else n.tmod m) = n % m ∧ -m < n.tmod m ∧ n.tmod m < m := by
  have h := Int.tmod_eq_emod (a := n) (b := m)
  have h0 := Int.emod_nonneg n (show m ≠ 0 by omega)
  have h1 := Int.emod_lt_of_pos n hm
  by_cases hc : 0 ≤ n ∨ m ∣ n
  · rw [if_pos hc] at h
    have h4 : n.tmod m = n % m := by rw [h]; simp
    rw [h4, if_neg (by omega)]; omega
  · rw [if_neg hc] at h
    have h2 : (m.natAbs : Int) = m := by omega
    have h3 : n % m ≠ 0 := fun e => hc (.inr (Int.dvd_of_emod_eq_zero e))
    have h4 : n.tmod m = n % m - m := by rw [h]; simp; omega
    rw [h4, if_pos (by omega)]; omega
/-- a number in a byte's place is a byte -/
theorem byte_ex (z : Int) : ∃ b : UInt8, Value.int .u8 (IntKind.u8.wrap z) = bv b := by
  have h : IntKind.u8.wrap z = z % 256 := rfl
  refine ⟨UInt8.ofNat (z % 256).toNat, ?_⟩
  rw [h, bv]
  have h1 : (UInt8.ofNat (z % 256).toNat).toNat = (z % 256).toNat := by
    rw [UInt8.toNat_ofNat']
    omega
  rw [h1]
  congr 1
  omega
theorem bv_at {bs : List UInt8} {o : Nat} (h : o < bs.length) : (bs.map bv)[o]? = some (bv bs[o]) := by simp [h]
theorem bv_set {bs : List UInt8} {o : Nat} {b : UInt8} : (bs.map bv).set o (bv b) = (bs.set o b).map bv := by rw [List.map_set]
theorem R.buildSlice0 {r : Option Nat} {n : Nat} {D : List Deferred} {L : Sl} {M : Mem} {H : Hp} {Q : Post} {d : Option Tmp} {ty : TypeId} {pos : String} {af : Array Edge} {ops : Array Oper} {rest : List Oper} {t e sz by_ : Nat} {z : Value} [hs : Und P t (.slice e)] [hi : Inf P e sz by_ z] (hd : dok n d = true)
    (k : ∀ b, R false P r n ops rest Q D (bnd d (.slice (some ⟨b, 0, none⟩) 0 0) L) M ((b, .cells #[] e (0, 0)) :: H)) : R false P r n ops (⟨d, .buildSlice t 0 #[], ty, pos, af, none⟩ :: rest) Q D L M H := by
  refine R.buildSlice (ps := []) (qs := []) (zs := z.cells.toList) (l := []) Prt.nil rfl (by simp) ?_ hd k
  simp only [Nat.zero_mul]
  exact Fills.nil _
theorem Own.empty {e sz b : Nat} : Own e sz (.slice (some ⟨b, 0, none⟩) 0 0) 0 [] [(b, .cells #[] e (0, 0))] := by
  refine ⟨by simp, .inr ⟨b, 0, #[], rfl, rfl, Nat.le_refl _, Nat.zero_le _, by simp, by simp⟩⟩
theorem Own.rd {M : Mem} {H H1 hp : Hp} {e sz m cap : Nat} {A : Option Addr} {xs : List Value} (h : Own e sz (.slice A m cap) m xs hp) (ht : Tk hp H H1) : Rd M H A xs := by
  rcases h.2 with ⟨h1, h2, _⟩ | ⟨b, cap', c, h1, h2, h3, h4, h5, h6⟩
  · subst h2
    have : xs = [] := List.eq_nil_of_length_eq_zero (by simpa using h.1)
    exact .inl this
  · refine .inr ⟨⟨b, 0, none⟩, by injection h1, fun w hh j u hj => ?_⟩
    have hb := (hh.perm ht.perm).own (b, .cells c e (0, 0)) (by subst h2; simp)
    rw [Addr.add_lit, Nat.zero_add]
    have hl : j < m * sz := by have := (List.getElem?_eq_some_iff.1 hj).1; have := h.1; omega
    have : c.toList[j]? = some u := by
      rw [← h6, List.getElem?_take, if_pos hl] at hj; exact hj
    simp only [World.cell?, hb]
    simpa using this
/-- an owned slice becomes the pool's -/
def Mem.puts (M : Mem) : Hp → Mem
  | [] => M
  | (b, o) :: hp => (M.put b o).puts hp
theorem Heap.freezes {w : World} : ∀ (hp : Hp) {M : Mem} {H : Hp}, Heap w M (hp ++ H) → Heap w (M.puts hp) H
  | [], _, _, h => h
  | (_, _) :: hp, _, _, h => Heap.freezes hp h.freeze
theorem Heap.le_puts {w : World} : ∀ (hp : Hp) {M : Mem} {H : Hp}, Heap w M (hp ++ H) → M.le (M.puts hp)
  | [], _, _, _ => Mem.le_refl _
  | (_, _) :: hp, _, _, h => (Mem.le_put h.pool_ne).trans_ (Heap.le_puts hp h.freeze)
theorem Own.pl {M : Mem} {hp : Hp} {e sz m cap : Nat} {A : Option Addr} {xs : List Value} (h : Own e sz (.slice A m cap) m xs hp) : Pl (M.puts hp) A xs := by
  rcases h.2 with ⟨h1, h2, _⟩ | ⟨b, cap', c, h1, h2, h3, h4, h5, h6⟩
  · subst h2
    exact .inl (List.eq_nil_of_length_eq_zero (by simpa using h.1))
  · refine .inr ⟨b, 0, c, e, (0, 0), by injection h1, by subst h2; exact Mem.put_at, fun j u hj => ?_⟩
    have hl : j < m * sz := by have := (List.getElem?_eq_some_iff.1 hj).1; have := h.1; omega
    rw [Nat.zero_add]
    have : c.toList[j]? = some u := by
      rw [← h6, List.getElem?_take, if_pos hl] at hj; exact hj
    simpa using this
section
variable {r : Option Nat} {n : Nat} {D : List Deferred} {L : Sl} {M : Mem} {H H1 hp : Hp} {Q : Post}
theorem C.freezes {c : Code} (ht : Tk hp H H1) (h : M.le (M.puts hp) → C P r n c Q D L (M.puts hp) H1) : C P r n c Q D L M H := fun a w hf hh =>
  h (Heap.le_puts hp (hh.perm ht.perm)) a w hf (Heap.freezes hp (hh.perm ht.perm))
theorem R.freezes {ops : Array Oper} {rest : List Oper} (ht : Tk hp H H1) (h : M.le (M.puts hp) → R false P r n ops rest Q D L (M.puts hp) H1) : R false P r n ops rest Q D L M H := fun a w hf hh =>
  h (Heap.le_puts hp (hh.perm ht.perm)) a w hf (Heap.freezes hp (hh.perm ht.perm))
theorem Fin.freezes {e : Exit} (ht : Tk hp H H1) (h : M.le (M.puts hp) → Fin n e Q D L (M.puts hp) H1) : Fin n e Q D L M H := fun a w hf hh =>
  h (Heap.le_puts hp (hh.perm ht.perm)) a w hf (Heap.freezes hp (hh.perm ht.perm))
end
theorem Pl.cutTake {M : Mem} {A : Option Addr} {xs : List UInt8} {l cap : Nat} (k : Nat) (h : Pl M A (xs.map bv)) (hc : xs.length ≤ cap) : Pl M (adv A l 1 cap) (((xs.drop l).take k).map bv) := by
  have h1 := (h.cut (l := l) (size := 1) (cap := cap) (by simpa using hc)).take k
  rwa [Nat.mul_one, ← List.map_drop, ← List.map_take] at h1
end Go.Sx
