/-
  Bits of numbers of 64 bits; how a ranging ends, of any elements.
-/
import Derived.Test.YtmimdoggljemjaaSxL
namespace Go.Sx
variable {P : Program} {n : Nat} {D : List Deferred} {L L' : Sl} {M M' : Mem} {H : Hp} {Q : Post}
section
variable {d : Option Tmp} {ty : TypeId} {pos : String} {af : Array Edge} {g : Option (Nat × Bool)} {t t' : TypeId} {x y : Operand} {p q : Nat} {z : Int}
theorem ofInt64 (p : Nat) : BitVec.ofInt IntKind.i64.bits (p : Int) = BitVec.ofNat 64 p := by
  show BitVec.ofInt 64 (p : Int) = _
  exact BitVec.ofInt_natCast 64 p
theorem bits64 {b : BitVec 64} {r : Nat} (h : b.toNat = r) (hr : r ≤ 9223372036854775807) : Value.int .i64 (IntKind.i64.wrap (b.toNat : Int)) = .int .i64 (r : Int) := by
  rw [h, w64 (by omega) (by omega)]
theorem Ok.andIN (hx : ev L x = some (.int .i64 (p : Int))) (hy : ev L y = some (.int .i64 (q : Int))) (hp : p ≤ 9223372036854775807) (hq : q ≤ 9223372036854775807) : Ok P ⟨d, .binOp .and t x y t', ty, pos, af, g⟩ L M H (.int .i64 ((p &&& q : Nat) : Int)) := by
  have h := Ok.and (P := P) (d := d) (t := t) (t' := t') (ty := ty) (pos := pos) (af := af) (g := g) (M := M) (H := H) hx hy
  rw [ofInt64, ofInt64] at h
  change Ok P _ L M H (Value.int .i64 (IntKind.i64.wrap ((((BitVec.ofNat 64 p) &&& (BitVec.ofNat 64 q) : BitVec 64)).toNat : Int))) at h
  rwa [bits64 (r := p &&& q) (by rw [BitVec.toNat_and, BitVec.toNat_ofNat, BitVec.toNat_ofNat, Nat.mod_eq_of_lt (by omega), Nat.mod_eq_of_lt (by omega)]) (Nat.le_trans Nat.and_le_left hp)] at h
/-- with any number -/
theorem Ok.andIZ (hx : ev L x = some (.int .i64 (p : Int))) (hy : ev L y = some (.int .i64 z)) (hp : p ≤ 9223372036854775807) : Ok P ⟨d, .binOp .and t x y t', ty, pos, af, g⟩ L M H (.int .i64 ((p &&& (z % 18446744073709551616).toNat : Nat) : Int)) := by
  have h := Ok.and (P := P) (d := d) (t := t) (t' := t') (ty := ty) (pos := pos) (af := af) (g := g) (M := M) (H := H) hx hy
  rw [ofInt64] at h
  change Ok P _ L M H (Value.int .i64 (IntKind.i64.wrap ((((BitVec.ofNat 64 p) &&& (BitVec.ofInt 64 z) : BitVec 64)).toNat : Int))) at h
  rwa [bits64 (r := p &&& (z % 18446744073709551616).toNat) (by rw [BitVec.toNat_and, BitVec.toNat_ofNat, BitVec.toNat_ofInt, Nat.mod_eq_of_lt (by omega)]; rfl) (Nat.le_trans Nat.and_le_left hp)] at h
theorem Ok.orIN (hx : ev L x = some (.int .i64 (p : Int))) (hy : ev L y = some (.int .i64 (q : Int))) (hp : p ≤ 9223372036854775807) (hq : q ≤ 9223372036854775807) : Ok P ⟨d, .binOp .or t x y t', ty, pos, af, g⟩ L M H (.int .i64 ((p ||| q : Nat) : Int)) := by
  have h := Ok.or (P := P) (d := d) (t := t) (t' := t') (ty := ty) (pos := pos) (af := af) (g := g) (M := M) (H := H) hx hy
  rw [ofInt64, ofInt64] at h
  change Ok P _ L M H (Value.int .i64 (IntKind.i64.wrap ((((BitVec.ofNat 64 p) ||| (BitVec.ofNat 64 q) : BitVec 64)).toNat : Int))) at h
  have hlt : (p ||| q) < 2 ^ 63 := Nat.or_lt_two_pow (by omega) (by omega)
  rwa [bits64 (r := p ||| q) (by rw [BitVec.toNat_or, BitVec.toNat_ofNat, BitVec.toNat_ofNat, Nat.mod_eq_of_lt (by omega), Nat.mod_eq_of_lt (by omega)]) (by omega)] at h
theorem Ok.andNotIN (hx : ev L x = some (.int .i64 (p : Int))) (hy : ev L y = some (.int .i64 (q : Int))) (hp : p ≤ 9223372036854775807) (r : Nat) (hr : (BitVec.ofNat 64 p &&& ~~~ BitVec.ofNat 64 q).toNat = r) : Ok P ⟨d, .binOp .andNot t x y t', ty, pos, af, g⟩ L M H (.int .i64 (r : Int)) := by
  have h := Ok.andNot (P := P) (d := d) (t := t) (t' := t') (ty := ty) (pos := pos) (af := af) (g := g) (M := M) (H := H) hx hy
  rw [ofInt64, ofInt64] at h
  change Ok P _ L M H (Value.int .i64 (IntKind.i64.wrap ((((BitVec.ofNat 64 p) &&& ~~~ (BitVec.ofNat 64 q) : BitVec 64)).toNat : Int))) at h
  have hle : (BitVec.ofNat 64 p &&& ~~~ BitVec.ofNat 64 q).toNat ≤ p := by
    rw [BitVec.toNat_and, BitVec.toNat_ofNat, Nat.mod_eq_of_lt (by omega)]
    exact Nat.and_le_left
  rwa [bits64 hr (by omega)] at h
/-- the lowest bit -/
theorem Ok.and1 (hx : ev L x = some (.int .i64 z)) (hy : ev L y = some (.int .i64 1)) : Ok P ⟨d, .binOp .and t x y t', ty, pos, af, g⟩ L M H (.int .i64 (z % 2)) := by
  have h := Ok.and (P := P) (d := d) (t := t) (t' := t') (ty := ty) (pos := pos) (af := af) (g := g) (M := M) (H := H) hx hy
  change Ok P _ L M H (Value.int .i64 (IntKind.i64.wrap ((((BitVec.ofInt 64 z) &&& (BitVec.ofInt 64 1) : BitVec 64)).toNat : Int))) at h
  have e1 : (BitVec.ofInt 64 1).toNat = 1 := rfl
  have e : ((BitVec.ofInt 64 z) &&& (BitVec.ofInt 64 1) : BitVec 64).toNat = (z % 2).toNat := by
    rw [BitVec.toNat_and, e1, Nat.and_one_is_mod, BitVec.toNat_ofInt]
    have : ((2 ^ 64 : Nat) : Int) = 18446744073709551616 := rfl
    rw [this]
    omega
  rw [bits64 e (by omega)] at h
  have e2 : ((z % 2).toNat : Int) = z % 2 := by omega
  rwa [e2] at h
/-- moved to the right, whatever its sign -/
theorem Ok.shrZ {k' : IntKind} (s : Nat) (hx : ev L x = some (.int .i64 z)) (hy : ev L y = some (.int k' (s : Int))) (hs : s ≤ 64) : Ok P ⟨d, .binOp .shr t x y t', ty, pos, af, g⟩ L M H (.int .i64 (z / 2 ^ s)) := by
  have h := Ok.shr (P := P) (d := d) (t := t) (t' := t') (ty := ty) (pos := pos) (af := af) (g := g) (M := M) (H := H) hx hy (by omega)
  have e : z.fdiv (2 ^ (min (s : Int).toNat IntKind.i64.bits)) = z / 2 ^ s := by
    rw [show min (s : Int).toNat IntKind.i64.bits = s by show min (s : Int).toNat 64 = s; omega]
    rw [Int.fdiv_eq_ediv_of_nonneg _ (by exact_mod_cast Nat.zero_le (2 ^ s))]
  rw [e] at h
  exact h
end
/-- all of them were told, and each time one went on -/
inductive ToldG {α σ : Type} (St : σ → α → Bool → σ → Prop) (s0 : σ) : List α → σ → Prop
  | nil : ToldG St s0 [] s0
  | more {pre : List α} {r : α} {s s1 : σ} (h : ToldG St s0 pre s) (hs : St s r true s1) : ToldG St s0 (pre ++ [r]) s1
/-- how a ranging ends: all told, or one said no more -/
def EndsG {α σ : Type} (St : σ → α → Bool → σ → Prop) (s0 : σ) (l : List α) (s' : σ) : Prop :=
  ToldG St s0 l s' ∨ ∃ pre r rest s, l = pre ++ r :: rest ∧ ToldG St s0 pre s ∧ St s r false s'
end Go.Sx
