/-
  Pointers held against nil.
-/
import Derived.Test.YtdhgjihimjibdaaSxG
namespace Go.Sx
variable {P : Program} {r : Option Nat} {n : Nat} {D : List Deferred} {L L' : Sl} {M M' : Mem} {H : Hp} {Q : Post}
variable {d : Option Tmp} {ty : TypeId} {pos : String} {af : Array Edge} {g : Option (Nat × Bool)} {t t' e : TypeId} {x y : Operand} {p : Addr}
theorem Ok.eqPN [hu : Und P t (.pointer e)] (hx : ev L x = some (.pointer (some p))) (hy : ev L y = some (.pointer none)) : Ok P ⟨d, .binOp .eql t x y t', ty, pos, af, g⟩ L M H (.bool false) := by
  refine Ok.bin hx hy (fun w => by simp [eqGuard]) fun w => ?_
  have h : ∀ d : Nat, (Op.equalIn (d + 1) t (.pointer (some p)) (.pointer none)).run P w = .ok false w := fun d => by
    simp [Op.equalIn, run_underlying hu.h, sizeOf, typeInfo]
  simp only [binOp]
  simp [Op.equal, Op.maxDepth, h 9999]
theorem Ok.nePN [hu : Und P t (.pointer e)] (hx : ev L x = some (.pointer (some p))) (hy : ev L y = some (.pointer none)) : Ok P ⟨d, .binOp .neq t x y t', ty, pos, af, g⟩ L M H (.bool true) := by
  refine Ok.bin hx hy (fun w => by simp [eqGuard]) fun w => ?_
  have h : ∀ d : Nat, (Op.equalIn (d + 1) t (.pointer (some p)) (.pointer none)).run P w = .ok false w := fun d => by
    simp [Op.equalIn, run_underlying hu.h, sizeOf, typeInfo]
  simp only [binOp]
  simp [Op.equal, Op.maxDepth, h 9999]
end Go.Sx
