/-
  Numbers of 32 bits, as Nat.
-/
import Derived.Test.YtmimdoggljemjaaSxJ
namespace Go.Sx
variable {P : Program} {n : Nat} {D : List Deferred} {L L' : Sl} {M M' : Mem} {H : Hp} {Q : Post}
variable {d : Option Tmp} {ty : TypeId} {pos : String} {af : Array Edge} {g : Option (Nat × Bool)} {t t' : TypeId} {x y : Operand} {p q : Nat}
/-- a number of 32 bits -/
def wv (p : Nat) : Value := .int .u32 (p : Int)
theorem wrap32 (z : Int) : IntKind.u32.wrap z = z % 4294967296 := rfl
theorem wu32 {z : Int} (h0 : 0 ≤ z) (h1 : z ≤ 4294967295) : IntKind.u32.wrap z = z := by
  rw [wrap32]
  omega
theorem ofInt32 (p : Nat) : BitVec.ofInt IntKind.u32.bits (p : Int) = BitVec.ofNat 32 p := by
  show BitVec.ofInt 32 (p : Int) = _
  exact BitVec.ofInt_natCast 32 p
theorem bits32 {f : BitVec 32 → BitVec 32 → BitVec 32} {r : Nat} (h : (f (BitVec.ofNat 32 p) (BitVec.ofNat 32 q)).toNat = r) :
    Value.int .u32 (IntKind.u32.wrap ((f (BitVec.ofNat 32 p) (BitVec.ofNat 32 q)).toNat : Int)) = wv r := by
  have h2 : (f (BitVec.ofNat 32 p) (BitVec.ofNat 32 q)).toNat < 4294967296 := BitVec.isLt _
  rw [h] at h2 ⊢
  rw [wu32 (by omega) (by omega)]
  rfl
theorem Ok.xorN (hx : ev L x = some (wv p)) (hy : ev L y = some (wv q)) (hp : p < 4294967296) (hq : q < 4294967296) : Ok P ⟨d, .binOp .xor t x y t', ty, pos, af, g⟩ L M H (wv (p ^^^ q)) := by
  have h := Ok.xor (P := P) (d := d) (t := t) (t' := t') (ty := ty) (pos := pos) (af := af) (g := g) (M := M) (H := H) hx hy
  rw [ofInt32, ofInt32] at h
  change Ok P _ L M H (Value.int .u32 (IntKind.u32.wrap ((((BitVec.ofNat 32 p) ^^^ (BitVec.ofNat 32 q) : BitVec 32)).toNat : Int))) at h
  rwa [bits32 (f := fun a b => a ^^^ b) (r := p ^^^ q) (by
    rw [BitVec.toNat_xor, BitVec.toNat_ofNat, BitVec.toNat_ofNat, Nat.mod_eq_of_lt hp, Nat.mod_eq_of_lt hq])] at h
theorem Ok.andN (hx : ev L x = some (wv p)) (hy : ev L y = some (wv q)) (hp : p < 4294967296) (hq : q < 4294967296) : Ok P ⟨d, .binOp .and t x y t', ty, pos, af, g⟩ L M H (wv (p &&& q)) := by
  have h := Ok.and (P := P) (d := d) (t := t) (t' := t') (ty := ty) (pos := pos) (af := af) (g := g) (M := M) (H := H) hx hy
  rw [ofInt32, ofInt32] at h
  change Ok P _ L M H (Value.int .u32 (IntKind.u32.wrap ((((BitVec.ofNat 32 p) &&& (BitVec.ofNat 32 q) : BitVec 32)).toNat : Int))) at h
  rwa [bits32 (f := fun a b => a &&& b) (r := p &&& q) (by
    rw [BitVec.toNat_and, BitVec.toNat_ofNat, BitVec.toNat_ofNat, Nat.mod_eq_of_lt hp, Nat.mod_eq_of_lt hq])] at h
theorem Ok.orN (hx : ev L x = some (wv p)) (hy : ev L y = some (wv q)) (hp : p < 4294967296) (hq : q < 4294967296) : Ok P ⟨d, .binOp .or t x y t', ty, pos, af, g⟩ L M H (wv (p ||| q)) := by
  have h := Ok.or (P := P) (d := d) (t := t) (t' := t') (ty := ty) (pos := pos) (af := af) (g := g) (M := M) (H := H) hx hy
  rw [ofInt32, ofInt32] at h
  change Ok P _ L M H (Value.int .u32 (IntKind.u32.wrap ((((BitVec.ofNat 32 p) ||| (BitVec.ofNat 32 q) : BitVec 32)).toNat : Int))) at h
  rwa [bits32 (f := fun a b => a ||| b) (r := p ||| q) (by
    rw [BitVec.toNat_or, BitVec.toNat_ofNat, BitVec.toNat_ofNat, Nat.mod_eq_of_lt hp, Nat.mod_eq_of_lt hq])] at h
/-- the complement -/
theorem Ok.notN (hx : ev L x = some (wv p)) (hp : p < 4294967296) : Ok P ⟨d, .unOp .xor t x, ty, pos, af, g⟩ L M H (wv (4294967295 ^^^ p)) := by
  have h := Ok.xorU (P := P) (d := d) (t := t) (ty := ty) (pos := pos) (af := af) (g := g) (M := M) (H := H) hx
  rw [ofInt32] at h
  have e : BitVec.ofInt IntKind.u32.bits (if IntKind.u32.signed then -1 else IntKind.u32.max) = BitVec.ofNat 32 4294967295 := rfl
  rw [e] at h
  change Ok P _ L M H (Value.int .u32 (IntKind.u32.wrap ((((BitVec.ofNat 32 4294967295) ^^^ (BitVec.ofNat 32 p) : BitVec 32)).toNat : Int))) at h
  rwa [bits32 (f := fun a b => a ^^^ b) (r := 4294967295 ^^^ p) (by
    rw [BitVec.toNat_xor, BitVec.toNat_ofNat, BitVec.toNat_ofNat, Nat.mod_eq_of_lt hp])] at h
theorem Ok.shrN {k' : IntKind} {s : Nat} (hx : ev L x = some (wv p)) (hy : ev L y = some (.int k' (s : Int))) (hs : s ≤ 32) : Ok P ⟨d, .binOp .shr t x y t', ty, pos, af, g⟩ L M H (wv (p / 2 ^ s)) := by
  have h := Ok.shr (P := P) (d := d) (t := t) (t' := t') (ty := ty) (pos := pos) (af := af) (g := g) (M := M) (H := H) hx hy (by omega)
  have e : (p : Int).fdiv (2 ^ (min (s : Int).toNat IntKind.u32.bits)) = ((p / 2 ^ s : Nat) : Int) := by
    rw [show min (s : Int).toNat IntKind.u32.bits = s by show min (s : Int).toNat 32 = s; omega]
    rw [Int.fdiv_eq_ediv_of_nonneg _ (by exact_mod_cast Nat.zero_le (2 ^ s))]
    exact_mod_cast rfl
  rw [e] at h
  exact h
theorem Ok.shrQ {k' : IntKind} (s c : Nat) (hx : ev L x = some (wv p)) (hy : ev L y = some (.int k' (s : Int))) (hs : s ≤ 32) (hc : 2 ^ s = c) : Ok P ⟨d, .binOp .shr t x y t', ty, pos, af, g⟩ L M H (wv (p / c)) := hc ▸ Ok.shrN hx hy hs
theorem Ok.shlN {k' : IntKind} {s : Nat} (hx : ev L x = some (wv p)) (hy : ev L y = some (.int k' (s : Int))) (hs : s ≤ 32) (hb : p * 2 ^ s < 4294967296) : Ok P ⟨d, .binOp .shl t x y t', ty, pos, af, g⟩ L M H (wv (p * 2 ^ s)) := by
  have h := Ok.shl (P := P) (d := d) (t := t) (t' := t') (ty := ty) (pos := pos) (af := af) (g := g) (M := M) (H := H) hx hy (by omega)
  have e : (p : Int) * 2 ^ (min (s : Int).toNat IntKind.u32.bits) = ((p * 2 ^ s : Nat) : Int) := by
    rw [show min (s : Int).toNat IntKind.u32.bits = s by show min (s : Int).toNat 32 = s; omega]
    exact_mod_cast rfl
  rw [e, wu32 (by omega) (by omega)] at h
  exact h
theorem Ok.quoN (hx : ev L x = some (wv p)) (hy : ev L y = some (wv q)) (hq : 0 < q) (hp : p < 4294967296) : Ok P ⟨d, .binOp .quo t x y t', ty, pos, af, g⟩ L M H (wv (p / q)) := by
  have h := Ok.quo (P := P) (d := d) (t := t) (t' := t') (ty := ty) (pos := pos) (af := af) (g := g) (M := M) (H := H) hx hy (by omega)
  have e : (p : Int).tdiv (q : Int) = ((p / q : Nat) : Int) := by
    rw [Int.tdiv_eq_ediv_of_nonneg (by omega)]
    exact_mod_cast rfl
  have hb : p / q ≤ p := Nat.div_le_self _ _
  rw [e] at h
  generalize p / q = m at hb h ⊢
  rw [wu32 (by omega) (by omega)] at h
  exact h
/-- a byte, as a number of 32 bits -/
theorem Ok.convW {b : UInt8} {s : TypeId} {ds : TypeDesc} [hs : Und P s ds] [ht : Und P t (.int .u32)] (hx : ev L x = some (bv b)) : Ok P ⟨d, .convert s t x, ty, pos, af, g⟩ L M H (wv b.toNat) := by
  have hb : b.toNat < 256 := b.toNat_lt
  exact Ok.convB hx (wu32 (by omega) (by omega))
/-- the lowest byte -/
theorem Ok.convL {s : TypeId} {ds : TypeDesc} [hs : Und P s ds] [ht : Und P t (.int .u8)] (hx : ev L x = some (wv p)) : Ok P ⟨d, .convert s t x, ty, pos, af, g⟩ L M H (bv (UInt8.ofNat p)) := by
  have h := Ok.conv (P := P) (d := d) (ty := ty) (pos := pos) (af := af) (g := g) (M := M) (H := H) (s := s) (t := t) (k' := .u8) hx
  have e : IntKind.u8.wrap (p : Int) = ((UInt8.ofNat p).toNat : Int) := by
    rw [UInt8.toNat_ofNat']
    show (p : Int) % 256 = _
    omega
  rw [e] at h
  exact h
/-- four bytes are a number -/
theorem or4 {a b c d : Nat} (ha : a < 256) (hb : b < 256) (hc : c < 256) : ((a ||| b * 2 ^ 8) ||| c * 2 ^ 16) ||| d * 2 ^ 24 = a + b * 256 + c * 65536 + d * 16777216 := by
  have e1 : a ||| b * 2 ^ 8 = a + b * 256 := by
    rw [Nat.or_comm, Nat.mul_comm, ← Nat.two_pow_add_eq_or_of_lt (by omega)]
    omega
  have e2 : (a + b * 256) ||| c * 2 ^ 16 = a + b * 256 + c * 65536 := by
    rw [Nat.or_comm, Nat.mul_comm, ← Nat.two_pow_add_eq_or_of_lt (by omega)]
    omega
  rw [e1, e2, Nat.or_comm, Nat.mul_comm, ← Nat.two_pow_add_eq_or_of_lt (by omega)]
  omega
end Go.Sx
