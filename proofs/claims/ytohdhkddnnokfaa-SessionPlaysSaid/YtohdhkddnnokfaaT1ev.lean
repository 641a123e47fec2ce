/- A session as a table has it: its answers lie elsewhere. -/
import Derived.Test.YtohdhkddnnokfaaT5g
namespace Go.Sx
structure SeV where
  id : Int
  sq : Int
  us : Int
  kA : Option Addr
  kn : Nat
  kc : Nat
def SeV.kv (x : SeV) : Value := .slice x.kA x.kn x.kc
def seV (x : SeV) : Value := .agg #[uV x.id, uV x.sq, uV x.us, x.kv]
def seC (x : SeV) : List Value := [uV x.id, uV x.sq, uV x.us, x.kv]
theorem seC_one (x : SeV) : ∀ u ∈ seC x, u.oneCell' = true := by
  intro u hu
  simp only [seC, List.mem_cons, List.not_mem_nil, or_false] at hu
  rcases hu with rfl | rfl | rfl | rfl <;> rfl
end Go.Sx
