/- Texts: one behind the other, parts, lengths, order. -/
import Derived.Test.YtmimdoggljemjaaSxW
namespace Go.Sx
open Go.RowKit
section
variable {P : Program} {L : Sl} {M : Mem} {H : Hp} {d : Option Tmp} {ty : TypeId} {pos : String} {af : Array Edge} {g : Option (Nat × Bool)} {t t' : TypeId} {x y : Operand} {a b : Txt} {k : IntKind} {i : Int}
theorem str_app (a b : Txt) : (⟨a.toArray⟩ : ByteArray) ++ (⟨b.toArray⟩ : ByteArray) = ⟨(a ++ b).toArray⟩ := by
  apply ByteArray.ext
  simp
theorem str_size (a : Txt) : (⟨a.toArray⟩ : ByteArray).size = a.length := List.size_toArray ..
theorem str_take (a : Txt) (n : Nat) : (⟨a.toArray⟩ : ByteArray).extract 0 n = ⟨(a.take n).toArray⟩ := by
  apply ByteArray.ext
  simp
theorem Ok.addStr (hx : ev L x = some (str a)) (hy : ev L y = some (str b)) (hl : a.length + b.length ≤ 9223372036854775807) : Ok P ⟨d, .binOp .add t x y t', ty, pos, af, g⟩ L M H (str (a ++ b)) :=
  Ok.bin hx hy (fun w => by simp [eqGuard, str]) fun w => by
    have h1 : ¬ (((⟨a.toArray⟩ : ByteArray).size + (⟨b.toArray⟩ : ByteArray).size : Nat) : Int) > IntKind.i64.max := by
      rw [str_size, str_size]
      show ¬ _ > (9223372036854775807 : Int)
      omega
    simp only [binOp, str, Op.stringOp, h1, if_false, str_app]
    rfl
theorem Ok.lenT [hs : Und P t .string] (hx : ev L x = some (str a)) : Ok P ⟨d, .call ⟨.builtin .len, #[x], #[t]⟩, ty, pos, af, g⟩ L M H (.int .i64 (a.length : Int)) := by
  have h := Ok.lenS (P := P) (d := d) (ty := ty) (pos := pos) (af := af) (g := g) (M := M) (H := H) (t := t) (s := ⟨a.toArray⟩) hx
  rwa [str_size] at h
theorem Ok.eqT (hx : ev L x = some (str a)) (hy : ev L y = some (str b)) : Ok P ⟨d, .binOp .eql t x y t', ty, pos, af, g⟩ L M H (.bool (decide (a = b))) := Ok.eqStr hx hy
theorem Ok.neT (hx : ev L x = some (str a)) (hy : ev L y = some (str b)) : Ok P ⟨d, .binOp .neq t x y t', ty, pos, af, g⟩ L M H (.bool (!decide (a = b))) := Ok.neStr hx hy
theorem Ok.ltT (hx : ev L x = some (str a)) (hy : ev L y = some (str b)) : Ok P ⟨d, .binOp .lss t x y t', ty, pos, af, g⟩ L M H (.bool (Op.bytesLess a b)) :=
  Ok.bin hx hy (fun w => by simp [eqGuard, str]) fun w => by
    simp [binOp, str, Op.stringOp]
theorem Ok.sliceT {hi : Operand} [hs : Und P t .string] (hx : ev L x = some (str a)) (hhi : ev L hi = some (.int k i)) (h0 : 0 ≤ i) (h1 : i ≤ a.length) : Ok P ⟨d, .slice t x none (some hi) none, ty, pos, af, g⟩ L M H (str (a.take i.toNat)) := fun n D act w hf _ => by
  have h2 : i ≤ ((⟨a.toArray⟩ : ByteArray).size : Nat) := by rw [str_size]; exact h1
  simp [execOp, str, Instr.sliceAt, Instr.slice, Instr.sliceBounds, run_underlying hs.h, hf.ev hx, hf.ev hhi, bound_run _ _ _ _ h0 h2, ← str_take]
theorem Ok.ltTr {p q : Int} (hx : ev L x = some (.int k p)) (hy : ev L y = some (.int k q)) (h : p < q) : Ok P ⟨d, .binOp .lss t x y t', ty, pos, af, g⟩ L M H (.bool true) := by
  have h1 := Ok.lt (P := P) (d := d) (t := t) (t' := t') (ty := ty) (pos := pos) (af := af) (g := g) (M := M) (H := H) hx hy
  rwa [decide_eq_true h] at h1
theorem Ok.gtTr {p q : Int} (hx : ev L x = some (.int k p)) (hy : ev L y = some (.int k q)) (h : q < p) : Ok P ⟨d, .binOp .gtr t x y t', ty, pos, af, g⟩ L M H (.bool true) := by
  have h1 := Ok.gt (P := P) (d := d) (t := t) (t' := t') (ty := ty) (pos := pos) (af := af) (g := g) (M := M) (H := H) hx hy
  rwa [decide_eq_true h] at h1
theorem Ok.ltF {p q : Int} (hx : ev L x = some (.int k p)) (hy : ev L y = some (.int k q)) (h : ¬ p < q) : Ok P ⟨d, .binOp .lss t x y t', ty, pos, af, g⟩ L M H (.bool false) := by
  have h1 := Ok.lt (P := P) (d := d) (t := t) (t' := t') (ty := ty) (pos := pos) (af := af) (g := g) (M := M) (H := H) hx hy
  rwa [decide_eq_false h] at h1
theorem Ok.gtF {p q : Int} (hx : ev L x = some (.int k p)) (hy : ev L y = some (.int k q)) (h : ¬ q < p) : Ok P ⟨d, .binOp .gtr t x y t', ty, pos, af, g⟩ L M H (.bool false) := by
  have h1 := Ok.gt (P := P) (d := d) (t := t) (t' := t') (ty := ty) (pos := pos) (af := af) (g := g) (M := M) (H := H) hx hy
  rwa [decide_eq_false h] at h1
theorem Ok.leTr {p q : Int} (hx : ev L x = some (.int k p)) (hy : ev L y = some (.int k q)) (h : p ≤ q) : Ok P ⟨d, .binOp .leq t x y t', ty, pos, af, g⟩ L M H (.bool true) := by
  have h1 := Ok.le (P := P) (d := d) (t := t) (t' := t') (ty := ty) (pos := pos) (af := af) (g := g) (M := M) (H := H) hx hy
  rwa [decide_eq_true h] at h1
theorem Ok.leF {p q : Int} (hx : ev L x = some (.int k p)) (hy : ev L y = some (.int k q)) (h : ¬ p ≤ q) : Ok P ⟨d, .binOp .leq t x y t', ty, pos, af, g⟩ L M H (.bool false) := by
  have h1 := Ok.le (P := P) (d := d) (t := t) (t' := t') (ty := ty) (pos := pos) (af := af) (g := g) (M := M) (H := H) hx hy
  rwa [decide_eq_false h] at h1
theorem Ok.eqIF {p q : Int} (hx : ev L x = some (.int k p)) (hy : ev L y = some (.int k q)) (h : p ≠ q) : Ok P ⟨d, .binOp .eql t x y t', ty, pos, af, g⟩ L M H (.bool false) := by
  have h1 := Ok.eqI (P := P) (d := d) (t := t) (t' := t') (ty := ty) (pos := pos) (af := af) (g := g) (M := M) (H := H) hx hy
  rwa [beq_false_of_ne h] at h1
theorem Ok.neIT {p q : Int} (hx : ev L x = some (.int k p)) (hy : ev L y = some (.int k q)) (h : p ≠ q) : Ok P ⟨d, .binOp .neq t x y t', ty, pos, af, g⟩ L M H (.bool true) := by
  have h1 := Ok.neI (P := P) (d := d) (t := t) (t' := t') (ty := ty) (pos := pos) (af := af) (g := g) (M := M) (H := H) hx hy
  rwa [show (p != q) = true by simpa using h] at h1
theorem Ok.toT {s t e : TypeId} {x : Operand} {A : Option Addr} {c : Nat} {bs : List UInt8} [hs : Und P s (.slice e)] [he : Und P e (.int .u8)] [ht : Und P t .string] (hx : ev L x = some (.slice A bs.length c)) (hrd : Rd M H A (bs.map bv)) :
    Ok P ⟨d, .convert s t x, ty, pos, af, g⟩ L M H (str bs) := Ok.toStr hx hrd
end
/-- an array's element, by its place -/
theorem Ok.indexAr {P : Program} {d : Option Tmp} {ty : TypeId} {pos : String} {af : Array Edge} {g : Option (Nat × Bool)} {L : Sl} {M : Mem} {H : Hp} {t e n sz by_ b o : Nat} {z : Value} {x ix : Operand} {k : IntKind} {i : Int} [hs : Und P t (.array n e)] [hi : Inf P e sz by_ z] (hx : ev L x = some (.pointer (some ⟨b, o, none⟩))) (hix : ev L ix = some (.int k i)) (h0 : 0 ≤ i) (h1 : i < n) :
    Ok P ⟨d, .indexAddr t x ix, ty, pos, af, g⟩ L M H (.pointer (some ⟨b, o + i.toNat * sz, none⟩)) := fun _ _ _ _ hf _ => by
  obtain ⟨inf, g1, g2, _, _⟩ := hi.h
  simp [execOp, Instr.indexAt, asIntOf, Instr.sureAddr, run_underlying hs.h, hf.ev hx, hf.ev hix, h0, h1, sizeOf, typeInfo, g1, g2, Addr.add_lit]
end Go.Sx
