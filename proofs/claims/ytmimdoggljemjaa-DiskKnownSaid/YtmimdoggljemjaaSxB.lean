/-
  The operations: what only computes or reads ('Ok'), what writes or makes memory, calls.
-/
import Derived.Test.YtmimdoggljemjaaSxA
import Derived.Laws.StructEq
import Derived.ArgAppend
import Derived.Lib.ConvBytes
namespace Go.Sx
open Go.RowKit

class Und (P : Program) (t : TypeId) (d : outParam TypeDesc) : Prop where
  h : P.underlying t = some d
class Inf (P : Program) (t : TypeId) (size bytes : outParam Nat) (z : outParam Value) : Prop where
  h : ∃ i, P.info? t = some i ∧ i.size = size ∧ i.bytes = bytes ∧ i.zero = some z
class Fld (P : Program) (t : TypeId) (i : Nat) (off : outParam Nat) : Prop where
  h : ∀ b o w, (Instr.fieldAt t (.pointer (some ⟨b, o, none⟩)) i).run P w = .ok (.pointer (some ⟨b, o + off, none⟩)) w
class Ent (P : Program) (f : FuncId) : Prop where
  h : ∀ args w, (callFunc f args).run P w = .ok (.enter f args) w
class Mix (P : Program) : Prop where
  h : P.follows .mixedOrders = true

variable {P : Program} {r : Option Nat} {n : Nat} {D : List Deferred} {L L' : Sl} {M : Mem} {H : Hp} {Q : Post}

/-- the operation leaves the world alone and yields v -/
def Ok (P : Program) (o : Oper) (L : Sl) (M : Mem) (H : Hp) (v : Value) : Prop :=
  ∀ n D a w, Fr n D L a → Heap w M H → (execOp a.eval o).run P w = .ok (.value v) w

theorem not_defer {o : Oper} {a : Act} {w w' : World} {v : Value} (h : (execOp a.eval o).run P w = .ok (.value v) w') : ∀ c, o.op ≠ .defer c := by
  intro c hc
  unfold execOp at h
  rw [hc] at h
  simp only [Sem.run_bind] at h
  cases hr : (resolve a.eval c o.type).run P w with
  | ok d w1 => rw [hr] at h; simp [Result.andThen] at h
  | halt x w1 => rw [hr] at h; simp [Result.andThen] at h
theorem semAt_eq {o : Oper} {a : Act} (r : Option Nat) (h : ∀ c, o.op ≠ .defer c) : o.semAt r a.eval = execOp a.eval o := by
  cases r with
  | none => exact congrFun (congrFun (by funext ρ o; cases o.op <;> rfl) _) _
  | some l => exact Oper.semAt_some l _ _ h

theorem R.step {dr : Bool} {d : Option Tmp} {op : Op} {ty : TypeId} {pos : String} {af : Array Edge} {v : Value} {ops : Array Oper} {rest : List Oper}
    (hok : Ok P ⟨d, op, ty, pos, af, none⟩ L M H v) (hd : dok n d = true) (k : R dr P r n ops rest Q D (bnd d v L) M H) : R dr P r n ops (⟨d, op, ty, pos, af, none⟩ :: rest) Q D L M H := by
  cases dr with
  | false =>
    intro a w hf hh
    have he := hok n D a w hf hh
    refine wpListIn_plain rfl fun Kn hK => ⟨fun f _ => F0_fn _ f, ?_⟩
    rw [semAt_eq _ (not_defer he), he]
    exact hK _ _ (k _ w (hf.put d hd v) hh)
  | true =>
    intro a hf
    refine ⟨fun w _ f _ => F0_fn _ f, ?_⟩
    rw [if_pos (by simp [Region.wanted])]
    refine ⟨v, fun w hh => ?_, k _ (hf.put d hd v)⟩
    unfold Oper.quietAtIn
    rw [hok n D a w hf hh]
    exact ⟨rfl, rfl⟩

theorem R.nil {dr : Bool} {ops : Array Oper} (h : Fin n .normal Q D L M H) : R dr P r n ops [] Q D L M H := by
  cases dr with
  | false => exact fun a w hf hh => h a w hf hh
  | true => exact fun a hf w hh => h a w hf hh

theorem R.weak {dr : Bool} {ops : Array Oper} {rest : List Oper} (hs : sub L' L) (h : R dr P r n ops rest Q D L' M H) : R dr P r n ops rest Q D L M H := by
  cases dr with
  | false => exact fun a w hf hh => h a w (hf.weak hs) hh
  | true => exact fun a hf => h a (hf.weak hs)
theorem R.perm {H' : Hp} {ops : Array Oper} {rest : List Oper} (hp : H.Perm H') (h : R false P r n ops rest Q D L M H') : R false P r n ops rest Q D L M H := fun a w hf hh => h a w hf (hh.perm hp)
theorem R.drop {x : Nat × Obj} {ops : Array Oper} {rest : List Oper} (h : R false P r n ops rest Q D L M H) : R false P r n ops rest Q D L M (x :: H) := fun a w hf hh => h a w hf hh.tail
theorem R.freeze {b : Nat} {o : Obj} {ops : Array Oper} {rest : List Oper} (h : M.at_ b = none → R false P r n ops rest Q D L (M.put b o) H) : R false P r n ops rest Q D L M ((b, o) :: H) := fun a w hf hh => h hh.pool_ne a w hf hh.freeze

/-! guards -/
/-- the slots that a region's operations write -/
def OpsOf (ds : List (Option Tmp)) (ops : Array Oper) : Prop := ∀ (j : Nat) (d : Tmp), ds[j]? = some (some d) → (ops[j]?).bind (fun o : Oper => o.dst) = some d
theorem OpsOf.self (l : List Oper) : OpsOf (l.map (·.dst)) l.toArray := by
  intro j d h
  rw [List.getElem?_map] at h
  rw [List.getElem?_toArray]
  cases hl : l[j]? with
  | none => rw [hl] at h; cases h
  | some o => rw [hl] at h; simpa using h
theorem C.regionK {id : Nat} {l : List Oper} (h : ∀ ops, OpsOf (l.map (·.dst)) ops → R false P r n ops l Q D L M H) : C P r n (.region id l.toArray false) Q D L M H := C.region (h _ (OpsOf.self l))
theorem C.regionQK {id : Nat} {l : List Oper} (hm : P.follows .mixedOrders = true) (hB : Region.lexB .any l.toArray = true) (h : ∀ ops, OpsOf (l.map (·.dst)) ops → R true P none n ops l Q D L M H) : C P none n (.region id l.toArray true) Q D L M H := C.regionQ hm hB (h _ (OpsOf.self l))
theorem wanted_guard {a : Act} {ops : Array Oper} {d : Option Tmp} {op : Op} {ty : TypeId} {pos : String} {af : Array Edge} {j : Nat} {want b : Bool} {ds : List (Option Tmp)} {dj : Tmp}
    (hf : Fr n D L a) (ho : OpsOf ds ops) (hdj : ds[j]? = some (some dj)) (hb : lk L dj = some (.bool b)) (hlt : Nat.ble (dj + 1) n = true) :
    Region.wanted ⟨d, op, ty, pos, af, some (j, want)⟩ (yielded ops a.tmps) = (b == want) := by
  have h1 := hf.slot _ _ hb
  have hlt' : dj < a.tmps.size := by rw [hf.size]; exact Nat.lt_of_succ_le (Nat.le_of_ble_eq_true hlt)
  have h2 : a.tmps[dj]? = some (.bool b) := by
    rw [Array.getElem?_eq_getElem hlt']
    rw [← h1]; simp [Array.getD, hlt']
  simp only [Region.wanted, yielded, ho j dj hdj, Option.bind_some, h2]
  cases b <;> cases want <;> rfl
theorem R.guardT {dr : Bool} {d : Option Tmp} {op : Op} {ty : TypeId} {pos : String} {af : Array Edge} {j : Nat} {want : Bool} {ds : List (Option Tmp)} {dj : Tmp} {ops : Array Oper} {rest : List Oper}
    (ho : OpsOf ds ops) (hdj : ds[j]? = some (some dj)) (hb : lk L dj = some (.bool want)) (hlt : Nat.ble (dj + 1) n = true)
    (k : R dr P r n ops (⟨d, op, ty, pos, af, none⟩ :: rest) Q D L M H) : R dr P r n ops (⟨d, op, ty, pos, af, some (j, want)⟩ :: rest) Q D L M H := by
  cases dr with
  | false =>
    intro a w hf hh
    have hw := wanted_guard (d := d) (op := op) (ty := ty) (pos := pos) (af := af) (want := want) hf ho hdj hb hlt
    have hk := k a w hf hh
    unfold wpListIn at hk ⊢
    rw [hw, if_pos (by simp)]
    rw [if_pos (by simp [Region.wanted])] at hk
    exact hk
  | true =>
    intro a hf
    have hw := wanted_guard (d := d) (op := op) (ty := ty) (pos := pos) (af := af) (want := want) hf ho hdj hb hlt
    have hk := k a hf
    unfold wpQuietIn at hk ⊢
    rw [hw, if_pos (by simp)]
    rw [if_pos (by simp [Region.wanted])] at hk
    exact hk
theorem R.guardF {dr : Bool} {d : Option Tmp} {op : Op} {ty : TypeId} {pos : String} {af : Array Edge} {j : Nat} {want b : Bool} {ds : List (Option Tmp)} {dj : Tmp} {ops : Array Oper} {rest : List Oper}
    (ho : OpsOf ds ops) (hdj : ds[j]? = some (some dj)) (hb : lk L dj = some (.bool b)) (hlt : Nat.ble (dj + 1) n = true) (hne : (b == want) = false) (hd : dok n d = true)
    (k : R dr P r n ops rest Q D (bnd d undef L) M H) : R dr P r n ops (⟨d, op, ty, pos, af, some (j, want)⟩ :: rest) Q D L M H := by
  cases dr with
  | false =>
    intro a w hf hh
    have hw := wanted_guard (d := d) (op := op) (ty := ty) (pos := pos) (af := af) (want := want) hf ho hdj hb hlt
    unfold wpListIn
    rw [hw, hne]
    exact ⟨fun f _ => F0_fn _ f, k _ w (hf.put d hd undef) hh⟩
  | true =>
    intro a hf
    have hw := wanted_guard (d := d) (op := op) (ty := ty) (pos := pos) (af := af) (want := want) hf ho hdj hb hlt
    unfold wpQuietIn
    rw [hw, hne]
    exact ⟨fun w _ f _ => F0_fn _ f, k _ (hf.put d hd undef)⟩
/-- a truth value in a slot is taken apart -/
theorem R.case {dr : Bool} {ops : Array Oper} {rest : List Oper} (s : Tmp) {b : Bool} (hb : lk L s = some (.bool b))
    (h1 : b = true → R dr P r n ops rest Q D ((s, .bool true) :: L) M H) (h2 : b = false → R dr P r n ops rest Q D ((s, .bool false) :: L) M H) : R dr P r n ops rest Q D L M H := by
  have hs : ∀ c, b = c → sub ((s, .bool c) :: L) L := by
    intro c hc t v ht
    rw [lk_cons] at ht
    split at ht
    · rename_i e; subst e; cases ht; rw [hb, hc]
    · exact ht
  cases b with
  | true => exact R.weak (hs _ rfl) (h1 rfl)
  | false => exact R.weak (hs _ rfl) (h2 rfl)
/-- the guard asks for a truth value that is not known yet -/
theorem R.guardC {dr : Bool} {d : Option Tmp} {op : Op} {ty : TypeId} {pos : String} {af : Array Edge} {j : Nat} {want b : Bool} {ds : List (Option Tmp)} {dj : Tmp} {ops : Array Oper} {rest : List Oper}
    (ho : OpsOf ds ops) (hdj : ds[j]? = some (some dj)) (hb : lk L dj = some (.bool b))
    (h1 : b = true → R dr P r n ops (⟨d, op, ty, pos, af, some (j, want)⟩ :: rest) Q D ((dj, .bool true) :: L) M H)
    (h2 : b = false → R dr P r n ops (⟨d, op, ty, pos, af, some (j, want)⟩ :: rest) Q D ((dj, .bool false) :: L) M H) : R dr P r n ops (⟨d, op, ty, pos, af, some (j, want)⟩ :: rest) Q D L M H :=
  let _ := ho; let _ := hdj
  R.case dj hb h1 h2

section
variable {dr : Bool} {d : Option Tmp} {op : Op} {ty : TypeId} {pos : String} {af : Array Edge} {j : Nat} {want : Bool} {ds : List (Option Tmp)} {dj : Tmp} {ops : Array Oper} {rest : List Oper}
theorem R.guardDec {p : Prop} {_ : Decidable p} (ho : OpsOf ds ops) (hdj : ds[j]? = some (some dj)) (hb : lk L dj = some (.bool (decide p)))
    (h1 : p → R dr P r n ops (⟨d, op, ty, pos, af, some (j, want)⟩ :: rest) Q D ((dj, .bool true) :: L) M H)
    (h2 : ¬ p → R dr P r n ops (⟨d, op, ty, pos, af, some (j, want)⟩ :: rest) Q D ((dj, .bool false) :: L) M H) : R dr P r n ops (⟨d, op, ty, pos, af, some (j, want)⟩ :: rest) Q D L M H :=
  R.guardC ho hdj hb (fun h => h1 (of_decide_eq_true h)) (fun h => h2 (of_decide_eq_false h))
theorem R.guardNDec {p : Prop} {_ : Decidable p} (ho : OpsOf ds ops) (hdj : ds[j]? = some (some dj)) (hb : lk L dj = some (.bool (!decide p)))
    (h1 : ¬ p → R dr P r n ops (⟨d, op, ty, pos, af, some (j, want)⟩ :: rest) Q D ((dj, .bool true) :: L) M H)
    (h2 : p → R dr P r n ops (⟨d, op, ty, pos, af, some (j, want)⟩ :: rest) Q D ((dj, .bool false) :: L) M H) : R dr P r n ops (⟨d, op, ty, pos, af, some (j, want)⟩ :: rest) Q D L M H :=
  R.guardC ho hdj hb (fun h => h1 (by simpa using h)) (fun h => h2 (by simpa using h))
theorem R.guardBeq {p q : Int} (ho : OpsOf ds ops) (hdj : ds[j]? = some (some dj)) (hb : lk L dj = some (.bool (p == q)))
    (h1 : p = q → R dr P r n ops (⟨d, op, ty, pos, af, some (j, want)⟩ :: rest) Q D ((dj, .bool true) :: L) M H)
    (h2 : p ≠ q → R dr P r n ops (⟨d, op, ty, pos, af, some (j, want)⟩ :: rest) Q D ((dj, .bool false) :: L) M H) : R dr P r n ops (⟨d, op, ty, pos, af, some (j, want)⟩ :: rest) Q D L M H :=
  R.guardC ho hdj hb (fun h => h1 (by simpa using h)) (fun h => h2 (by simpa using h))
theorem R.guardBne {p q : Int} (ho : OpsOf ds ops) (hdj : ds[j]? = some (some dj)) (hb : lk L dj = some (.bool (p != q)))
    (h1 : p ≠ q → R dr P r n ops (⟨d, op, ty, pos, af, some (j, want)⟩ :: rest) Q D ((dj, .bool true) :: L) M H)
    (h2 : p = q → R dr P r n ops (⟨d, op, ty, pos, af, some (j, want)⟩ :: rest) Q D ((dj, .bool false) :: L) M H) : R dr P r n ops (⟨d, op, ty, pos, af, some (j, want)⟩ :: rest) Q D L M H :=
  R.guardC ho hdj hb (fun h => h1 (by simpa using h)) (fun h => h2 (by simpa using h))
theorem R.guardNot {t : Bool} (ho : OpsOf ds ops) (hdj : ds[j]? = some (some dj)) (hb : lk L dj = some (.bool (!t)))
    (h1 : t = false → R dr P r n ops (⟨d, op, ty, pos, af, some (j, want)⟩ :: rest) Q D ((dj, .bool true) :: L) M H)
    (h2 : t = true → R dr P r n ops (⟨d, op, ty, pos, af, some (j, want)⟩ :: rest) Q D ((dj, .bool false) :: L) M H) : R dr P r n ops (⟨d, op, ty, pos, af, some (j, want)⟩ :: rest) Q D L M H :=
  R.guardC ho hdj hb (fun h => h1 (by simpa using h)) (fun h => h2 (by simpa using h))
end

/-! what only computes -/
section ok
variable {d : Option Tmp} {ty : TypeId} {pos : String} {af : Array Edge} {g : Option (Nat × Bool)}
theorem Ok.move {x : Operand} {v : Value} (hx : ev L x = some v) : Ok P ⟨d, .move x, ty, pos, af, g⟩ L M H v := fun n D a w hf _ => by
  simp [execOp, hf.ev hx]
theorem Ok.assign {x : Operand} {v : Value} (hx : ev L x = some v) : Ok P ⟨d, .assign x, ty, pos, af, g⟩ L M H v := fun n D a w hf _ => by
  simp [execOp, hf.ev hx]
theorem Ok.pick {c x y : Operand} {b : Bool} {v u : Value} (hc : ev L c = some (.bool b)) (hx : ev L x = some v) (hy : ev L y = some u) : Ok P ⟨d, .pick c x y, ty, pos, af, g⟩ L M H (if b then v else u) := fun n D a w hf _ => by
  simp [execOp, hf.ev hc, hf.ev hx, hf.ev hy, asBool]
theorem Ok.pickT {c x y : Operand} {v : Value} (hc : ev L c = some (.bool true)) (hx : ev L x = some v) : Ok P ⟨d, .pick c x y, ty, pos, af, g⟩ L M H v := fun n D a w hf _ => by
  simp [execOp, hf.ev hc, hf.ev hx, asBool]
theorem Ok.pickF {c x y : Operand} {v : Value} (hc : ev L c = some (.bool false)) (hy : ev L y = some v) : Ok P ⟨d, .pick c x y, ty, pos, af, g⟩ L M H v := fun n D a w hf _ => by
  simp [execOp, hf.ev hc, hf.ev hy, asBool]
theorem Ok.extract {x : Operand} {i : Nat} {vs : List Value} {v : Value} (hx : ev L x = some (.tuple vs.toArray)) (hi : vs[i]? = some v) : Ok P ⟨d, .extract x i, ty, pos, af, g⟩ L M H v := fun n D a w hf _ => by
  simp [execOp, hf.ev hx, Instr.extract, hi]
theorem Ok.nilCheck {x : Operand} {ad : Addr} (hx : ev L x = some (.pointer (some ad))) : Ok P ⟨d, .nilCheck x, ty, pos, af, g⟩ L M H (.pointer (some ad)) := fun n D a w hf _ => by
  simp [execOp, hf.ev hx]
theorem Ok.nilCheckF {x : Operand} {f : Nat} {as bs : Array Value} (hx : ev L x = some (.func (.func f) as bs)) : Ok P ⟨d, .nilCheck x, ty, pos, af, g⟩ L M H (.func (.func f) as bs) := fun n D a w hf _ => by
  simp [execOp, hf.ev hx]
theorem Ok.nilCheckY {x : Operand} {l : Nat} {as bs : Array Value} (hx : ev L x = some (.func (.yield l) as bs)) : Ok P ⟨d, .nilCheck x, ty, pos, af, g⟩ L M H (.func (.yield l) as bs) := fun n D a w hf _ => by
  simp [execOp, hf.ev hx]
theorem Ok.fieldAddr {t i off b o : Nat} {x : Operand} [hF : Fld P t i off] (hx : ev L x = some (.pointer (some ⟨b, o, none⟩))) : Ok P ⟨d, .fieldAddr t x i, ty, pos, af, g⟩ L M H (.pointer (some ⟨b, o + off, none⟩)) := fun n D a w hf _ => by
  simp only [execOp, hf.ev hx, Sem.run_bind, hF.h]
  rfl
theorem Ok.not {x : Operand} {t : TypeId} {b : Bool} (hx : ev L x = some (.bool b)) : Ok P ⟨d, .unOp .not t x, ty, pos, af, g⟩ L M H (.bool (!b)) := fun n D a w hf _ => by
  simp [execOp, hf.ev hx, Op.unary]
theorem Ok.neg {x : Operand} {t : TypeId} {k : IntKind} {z : Int} (hx : ev L x = some (.int k z)) : Ok P ⟨d, .unOp .neg t x, ty, pos, af, g⟩ L M H (.int k (k.wrap (0 - z))) := fun n D a w hf _ => by
  simp [execOp, hf.ev hx, Op.unary, Op.intArith]
theorem Ok.xorU {x : Operand} {t : TypeId} {k : IntKind} {z : Int} (hx : ev L x = some (.int k z)) : Ok P ⟨d, .unOp .xor t x, ty, pos, af, g⟩ L M H (.int k (k.wrap (BitVec.ofInt k.bits (if k.signed then -1 else k.max) ^^^ BitVec.ofInt k.bits z).toNat)) := fun n D a w hf _ => by
  simp [execOp, hf.ev hx, Op.unary, Op.intBits]

theorem eqGuard_int (op : BinOp) (t : TypeId) (x y : Operand) (k k' : IntKind) (p q : Int) (w : World) : (eqGuard op t x y (.int k p) (.int k' q)).run P w = .ok () w := by
  cases op <;> simp [eqGuard]
theorem Ok.bin {op : BinOp} {t t' : TypeId} {x y : Operand} {vx vy v : Value} (hx : ev L x = some vx) (hy : ev L y = some vy) (hg : ∀ w, (eqGuard op t x y vx vy).run P w = .ok () w) (hr : ∀ w, (binOp op t vx vy).run P w = .ok v w) :
    Ok P ⟨d, .binOp op t x y t', ty, pos, af, g⟩ L M H v := fun n D a w hf _ => by
  simp [execOp, hf.ev hx, hf.ev hy, hg, hr]
section int
variable {t t' : TypeId} {x y : Operand} {k : IntKind} {p q : Int} (hx : ev L x = some (.int k p)) (hy : ev L y = some (.int k q))
include hx hy
theorem Ok.add : Ok P ⟨d, .binOp .add t x y t', ty, pos, af, g⟩ L M H (.int k (k.wrap (p + q))) := Ok.bin hx hy (eqGuard_int _ _ _ _ _ _ _ _) fun w => by simp [binOp, Op.intArith]
theorem Ok.sub : Ok P ⟨d, .binOp .sub t x y t', ty, pos, af, g⟩ L M H (.int k (k.wrap (p - q))) := Ok.bin hx hy (eqGuard_int _ _ _ _ _ _ _ _) fun w => by simp [binOp, Op.intArith]
theorem Ok.mul : Ok P ⟨d, .binOp .mul t x y t', ty, pos, af, g⟩ L M H (.int k (k.wrap (p * q))) := Ok.bin hx hy (eqGuard_int _ _ _ _ _ _ _ _) fun w => by simp [binOp, Op.intArith]
theorem Ok.addB (h : k.wrap (p + q) = p + q) : Ok P ⟨d, .binOp .add t x y t', ty, pos, af, g⟩ L M H (.int k (p + q)) := by have := Ok.add (P := P) (d := d) (t := t) (t' := t') (ty := ty) (pos := pos) (af := af) (g := g) (M := M) (H := H) hx hy; rwa [h] at this
theorem Ok.subB (h : k.wrap (p - q) = p - q) : Ok P ⟨d, .binOp .sub t x y t', ty, pos, af, g⟩ L M H (.int k (p - q)) := by have := Ok.sub (P := P) (d := d) (t := t) (t' := t') (ty := ty) (pos := pos) (af := af) (g := g) (M := M) (H := H) hx hy; rwa [h] at this
theorem Ok.mulB (h : k.wrap (p * q) = p * q) : Ok P ⟨d, .binOp .mul t x y t', ty, pos, af, g⟩ L M H (.int k (p * q)) := by have := Ok.mul (P := P) (d := d) (t := t) (t' := t') (ty := ty) (pos := pos) (af := af) (g := g) (M := M) (H := H) hx hy; rwa [h] at this
theorem Ok.quo (hq : q ≠ 0) : Ok P ⟨d, .binOp .quo t x y t', ty, pos, af, g⟩ L M H (.int k (k.wrap (p.tdiv q))) := Ok.bin hx hy (eqGuard_int _ _ _ _ _ _ _ _) fun w => by simp [binOp, Op.intDiv, hq]
theorem Ok.rem (hq : q ≠ 0) : Ok P ⟨d, .binOp .rem t x y t', ty, pos, af, g⟩ L M H (.int k (p.tmod q)) := Ok.bin hx hy (eqGuard_int _ _ _ _ _ _ _ _) fun w => by simp [binOp, Op.intDiv, hq]
theorem Ok.and : Ok P ⟨d, .binOp .and t x y t', ty, pos, af, g⟩ L M H (.int k (k.wrap (BitVec.ofInt k.bits p &&& BitVec.ofInt k.bits q).toNat)) := Ok.bin hx hy (eqGuard_int _ _ _ _ _ _ _ _) fun w => by simp [binOp, Op.intBits]
theorem Ok.or : Ok P ⟨d, .binOp .or t x y t', ty, pos, af, g⟩ L M H (.int k (k.wrap (BitVec.ofInt k.bits p ||| BitVec.ofInt k.bits q).toNat)) := Ok.bin hx hy (eqGuard_int _ _ _ _ _ _ _ _) fun w => by simp [binOp, Op.intBits]
theorem Ok.xor : Ok P ⟨d, .binOp .xor t x y t', ty, pos, af, g⟩ L M H (.int k (k.wrap (BitVec.ofInt k.bits p ^^^ BitVec.ofInt k.bits q).toNat)) := Ok.bin hx hy (eqGuard_int _ _ _ _ _ _ _ _) fun w => by simp [binOp, Op.intBits]
theorem Ok.andNot : Ok P ⟨d, .binOp .andNot t x y t', ty, pos, af, g⟩ L M H (.int k (k.wrap (BitVec.ofInt k.bits p &&& ~~~ BitVec.ofInt k.bits q).toNat)) := Ok.bin hx hy (eqGuard_int _ _ _ _ _ _ _ _) fun w => by simp [binOp, Op.intBits]
theorem Ok.eqI : Ok P ⟨d, .binOp .eql t x y t', ty, pos, af, g⟩ L M H (.bool (p == q)) := Ok.bin hx hy (eqGuard_int _ _ _ _ _ _ _ _) fun w => by simp [binOp, Op.intCmp]
theorem Ok.neI : Ok P ⟨d, .binOp .neq t x y t', ty, pos, af, g⟩ L M H (.bool (p != q)) := Ok.bin hx hy (eqGuard_int _ _ _ _ _ _ _ _) fun w => by simp [binOp, Op.intCmp]
theorem Ok.lt : Ok P ⟨d, .binOp .lss t x y t', ty, pos, af, g⟩ L M H (.bool (p < q)) := Ok.bin hx hy (eqGuard_int _ _ _ _ _ _ _ _) fun w => by simp [binOp, Op.intCmp]
theorem Ok.le : Ok P ⟨d, .binOp .leq t x y t', ty, pos, af, g⟩ L M H (.bool (p ≤ q)) := Ok.bin hx hy (eqGuard_int _ _ _ _ _ _ _ _) fun w => by simp [binOp, Op.intCmp]
theorem Ok.gt : Ok P ⟨d, .binOp .gtr t x y t', ty, pos, af, g⟩ L M H (.bool (q < p)) := Ok.bin hx hy (eqGuard_int _ _ _ _ _ _ _ _) fun w => by simp [binOp, Op.intCmp]
theorem Ok.ge : Ok P ⟨d, .binOp .geq t x y t', ty, pos, af, g⟩ L M H (.bool (q ≤ p)) := Ok.bin hx hy (eqGuard_int _ _ _ _ _ _ _ _) fun w => by simp [binOp, Op.intCmp]
end int
theorem Ok.shl {t t' : TypeId} {x y : Operand} {k k' : IntKind} {p q : Int} (hx : ev L x = some (.int k p)) (hy : ev L y = some (.int k' q)) (hq : 0 ≤ q) : Ok P ⟨d, .binOp .shl t x y t', ty, pos, af, g⟩ L M H (.int k (k.wrap (p * 2 ^ (min q.toNat k.bits)))) :=
  Ok.bin hx hy (eqGuard_int _ _ _ _ _ _ _ _) fun w => by simp [binOp, Op.shift, Int.not_lt.2 hq]
theorem Ok.shr {t t' : TypeId} {x y : Operand} {k k' : IntKind} {p q : Int} (hx : ev L x = some (.int k p)) (hy : ev L y = some (.int k' q)) (hq : 0 ≤ q) : Ok P ⟨d, .binOp .shr t x y t', ty, pos, af, g⟩ L M H (.int k (p.fdiv (2 ^ (min q.toNat k.bits)))) :=
  Ok.bin hx hy (eqGuard_int _ _ _ _ _ _ _ _) fun w => by simp [binOp, Op.shift, Int.not_lt.2 hq]
theorem Ok.conv {x : Operand} {s t : TypeId} {k k' : IntKind} {p : Int} {ds : TypeDesc} [hs : Und P s ds] [ht : Und P t (.int k')] (hx : ev L x = some (.int k p)) : Ok P ⟨d, .convert s t x, ty, pos, af, g⟩ L M H (.int k' (k'.wrap p)) := fun n D a w hf _ => by
  have h1 : ∀ w, (underlying s).run P w = .ok ds w := fun w => run_underlying hs.h w
  have h2 : ∀ w, (underlying t).run P w = .ok (.int k') w := fun w => run_underlying ht.h w
  simp [execOp, hf.ev hx, convert, h1, h2, Conv.intToInt]
theorem Ok.convB {x : Operand} {s t : TypeId} {k k' : IntKind} {p : Int} {ds : TypeDesc} [hs : Und P s ds] [ht : Und P t (.int k')] (hx : ev L x = some (.int k p)) (h : k'.wrap p = p) : Ok P ⟨d, .convert s t x, ty, pos, af, g⟩ L M H (.int k' p) := by
  have := Ok.conv (P := P) (d := d) (ty := ty) (pos := pos) (af := af) (g := g) (M := M) (H := H) (s := s) (t := t) (k' := k') hx
  rwa [h] at this
theorem Ok.len {t : TypeId} {x : Operand} {A : Option Addr} {m c : Nat} {e : TypeId} [hs : Und P t (.slice e)] (hx : ev L x = some (.slice A m c)) : Ok P ⟨d, .call ⟨.builtin .len, #[x], #[t]⟩, ty, pos, af, g⟩ L M H (.int .i64 m) := fun n D a w hf _ => by
  simp [execOp, resolve, hf.ev hx, invoke, builtin, Builtin.len_, run_underlying hs.h, goInt]
theorem Ok.lenS {t : TypeId} {x : Operand} {s : ByteArray} [hs : Und P t .string] (hx : ev L x = some (.string s)) : Ok P ⟨d, .call ⟨.builtin .len, #[x], #[t]⟩, ty, pos, af, g⟩ L M H (.int .i64 s.size) := fun n D a w hf _ => by
  simp [execOp, resolve, hf.ev hx, invoke, builtin, Builtin.len_, run_underlying hs.h, goInt]
theorem Ok.minI {x y : Operand} {ts : Array TypeId} {k : IntKind} {p q : Int} (hx : ev L x = some (.int k p)) (hy : ev L y = some (.int k q)) : Ok P ⟨d, .call ⟨.builtin .min, #[x, y], ts⟩, ty, pos, af, g⟩ L M H (.int k (min p q)) := fun n D a w hf _ => by
  have : (if q < p then q else p) = min p q := by omega
  simp [execOp, resolve, hf.ev hx, hf.ev hy, invoke, builtin, Builtin.min_, Builtin.min2, this]
theorem Ok.maxI {x y : Operand} {ts : Array TypeId} {k : IntKind} {p q : Int} (hx : ev L x = some (.int k p)) (hy : ev L y = some (.int k q)) : Ok P ⟨d, .call ⟨.builtin .max, #[x, y], ts⟩, ty, pos, af, g⟩ L M H (.int k (max p q)) := fun n D a w hf _ => by
  have : (if q > p then q else p) = max p q := by omega
  simp [execOp, resolve, hf.ev hx, hf.ev hy, invoke, builtin, Builtin.max_, Builtin.max2, this]

/-! structs by value -/
theorem eqGuard_agg' {t : TypeId} (hm : P.eqGuardType P.depth t = false) (op : BinOp) (x y : Operand) (xs ys : Array Value) (w : World) : (eqGuard op t x y (.agg xs) (.agg ys)).run P w = .ok () w := run_eqGuard_agg w op t x y xs ys hm

/-! slices' bounds -/
def adv (A : Option Addr) (l size cap : Nat) : Option Addr := if cap = l then A else A.map (·.add (l * size))
theorem adv_some (b o l size cap : Nat) (h : l < cap) : adv (some ⟨b, o, none⟩) l size cap = some ⟨b, o + l * size, none⟩ := by
  unfold adv
  rw [if_neg (by omega)]
  simp [Addr.add_lit]
theorem bound_run (k : IntKind) (i : Int) (y : Nat) (c : BoundsCode) (h0 : 0 ≤ i) (h1 : i ≤ y) (w : World) : (Instr.sliceBound (.int k i) y c).run P w = .ok i.toNat w := by
  simp [Instr.sliceBound, asIntOf, h0, h1]
theorem Ok.sliceLo {t e sz by_ : Nat} {z : Value} {x lo : Operand} {A : Option Addr} {m c : Nat} {k : IntKind} {i : Int} [hs : Und P t (.slice e)] [hi : Inf P e sz by_ z] (hx : ev L x = some (.slice A m c)) (hlo : ev L lo = some (.int k i)) (h0 : 0 ≤ i) (h1 : i ≤ m) :
    Ok P ⟨d, .slice t x (some lo) none none, ty, pos, af, g⟩ L M H (.slice (adv A i.toNat sz c) (m - i.toNat) (c - i.toNat)) := fun n D a w hf _ => by
  obtain ⟨inf, g1, g2, _, _⟩ := hi.h
  simp [execOp, Instr.sliceAt, Instr.slice, Instr.sliceBounds, run_underlying hs.h, hf.ev hx, hf.ev hlo, bound_run _ _ _ _ h0 h1, sizeOf, typeInfo, g1, g2, adv]
theorem Ok.sliceHi {t e sz by_ : Nat} {z : Value} {x hi : Operand} {A : Option Addr} {m c : Nat} {k : IntKind} {i : Int} [hs : Und P t (.slice e)] [hi_ : Inf P e sz by_ z] (hx : ev L x = some (.slice A m c)) (hhi : ev L hi = some (.int k i)) (h0 : 0 ≤ i) (h1 : i ≤ c) :
    Ok P ⟨d, .slice t x none (some hi) none, ty, pos, af, g⟩ L M H (.slice A i.toNat c) := fun n D a w hf _ => by
  obtain ⟨inf, g1, _, _, _⟩ := hi_.h
  have : A.map (fun x => x.add 0) = A := by cases A <;> simp [Addr.add]
  simp [execOp, Instr.sliceAt, Instr.slice, Instr.sliceBounds, run_underlying hs.h, hf.ev hx, hf.ev hhi, bound_run _ _ _ _ h0 h1, sizeOf, typeInfo, g1, this]
theorem Ok.sliceLoHi {t e sz by_ : Nat} {z : Value} {x lo hi : Operand} {A : Option Addr} {m c : Nat} {k k' : IntKind} {i j : Int} [hs : Und P t (.slice e)] [hi_ : Inf P e sz by_ z] (hx : ev L x = some (.slice A m c)) (hlo : ev L lo = some (.int k i)) (hhi : ev L hi = some (.int k' j)) (h0 : 0 ≤ i) (h1 : i ≤ j) (h2 : j ≤ c) :
    Ok P ⟨d, .slice t x (some lo) (some hi) none, ty, pos, af, g⟩ L M H (.slice (adv A i.toNat sz c) (j.toNat - i.toNat) (c - i.toNat)) := fun n D a w hf _ => by
  obtain ⟨inf, g1, g2, _, _⟩ := hi_.h
  have h3 : i ≤ (j.toNat : Nat) := by omega
  simp [execOp, Instr.sliceAt, Instr.slice, Instr.sliceBounds, run_underlying hs.h, hf.ev hx, hf.ev hlo, hf.ev hhi, bound_run _ _ _ _ h0 h3, bound_run _ _ _ _ (Int.le_trans h0 h1) h2, sizeOf, typeInfo, g1, g2, adv]
theorem Ok.indexAddr {t e sz by_ b o m c : Nat} {z : Value} {x ix : Operand} {k : IntKind} {i : Int} [hs : Und P t (.slice e)] [hi : Inf P e sz by_ z] (hx : ev L x = some (.slice (some ⟨b, o, none⟩) m c)) (hix : ev L ix = some (.int k i)) (h0 : 0 ≤ i) (h1 : i < m) :
    Ok P ⟨d, .indexAddr t x ix, ty, pos, af, g⟩ L M H (.pointer (some ⟨b, o + i.toNat * sz, none⟩)) := fun n D a w hf _ => by
  obtain ⟨inf, g1, g2, _, _⟩ := hi.h
  simp [execOp, Instr.indexAt, asIntOf, run_underlying hs.h, hf.ev hx, hf.ev hix, h0, h1, sizeOf, typeInfo, g1, g2, Addr.add_lit]

/-! loads -/
def aggD : TypeDesc → Bool
  | .struct _ | .array _ _ => true
  | _ => false
theorem run_isAgg {t : TypeId} {ds : TypeDesc} (h : P.underlying t = some ds) (w : World) : (isAgg t).run P w = .ok (aggD ds) w := by
  unfold isAgg
  rw [Sem.run_bind, run_underlying h]
  cases ds <;> rfl
theorem Ok.loadCell {t : TypeId} {ds : TypeDesc} {x : Operand} {b o : Nat} {c : Array Value} {e : TypeId} {fr : Nat × Nat} {v : Value} [hs : Und P t ds] (hx : ev L x = some (.pointer (some ⟨b, o, none⟩))) (hag : aggD ds = false)
    (hb : ∀ w, Heap w M H → w.heap[b]? = some (.cells c e fr)) (hc : c[o]? = some v) : Ok P ⟨d, .load t x, ty, pos, af, g⟩ L M H v := fun n D a w hf hh => by
  have hcell : w.cell? ⟨b, o, none⟩ = some v := by simp [World.cell?, hb w hh, hc]
  simp only [execOp, hf.ev hx, Instr.loadAt, Instr.sureAddr, Sem.run_bind, Sem.run_pure, Result.andThen, loadVar, run_isAgg hs.h, hag]
  simp [load, Sem.run, hcell]
theorem Ok.load {t : TypeId} {ds : TypeDesc} {x : Operand} {b o : Nat} {l : List Value} {e : TypeId} {fr : Nat × Nat} {v : Value} {f : Obj → Hp} [hs : Und P t ds] (hx : ev L x = some (.pointer (some ⟨b, o, none⟩))) (hag : aggD ds = false)
    (hb : At H b (.cells l.toArray e fr) f) (hc : l[o]? = some v) : Ok P ⟨d, .load t x, ty, pos, af, g⟩ L M H v :=
  Ok.loadCell hx hag (fun _ hh => hh.own _ hb.mem) (by simpa using hc)
theorem Ok.loadP {t : TypeId} {ds : TypeDesc} {x : Operand} {b o : Nat} {c : Array Value} {e : TypeId} {fr : Nat × Nat} {v : Value} [hs : Und P t ds] (hx : ev L x = some (.pointer (some ⟨b, o, none⟩))) (hag : aggD ds = false)
    (hb : M.at_ b = some (.cells c e fr)) (hc : c[o]? = some v) : Ok P ⟨d, .load t x, ty, pos, af, g⟩ L M H v :=
  Ok.loadCell hx hag (fun _ hh => hh.pool _ _ hb) hc
/-- cells of a list, from a place on -/
inductive Sub : List Value → Nat → Nat → List Value → Prop
  | nil (l : List Value) : Sub l 0 0 []
  | cons {l vs : List Value} {k : Nat} (x : Value) (h : Sub l 0 k vs) : Sub (x :: l) 0 (k + 1) (x :: vs)
  | skip {l vs : List Value} {o k : Nat} (z : Value) (h : Sub l o k vs) : Sub (z :: l) (o + 1) k vs
theorem Sub.spec {l vs : List Value} {o k : Nat} (h : Sub l o k vs) : vs.length = k ∧ ∀ j u, vs[j]? = some u → l[o + j]? = some u := by
  induction h with
  | nil l => exact ⟨rfl, fun j u h => by simp at h⟩
  | cons x h ih =>
    refine ⟨by simp [ih.1], fun j u hj => ?_⟩
    cases j with
    | zero => simpa using hj
    | succ j => have := ih.2 j u (by simpa using hj); simpa [Nat.add_comm, Nat.add_left_comm] using this
  | skip z h ih =>
    refine ⟨ih.1, fun j u hj => ?_⟩
    have := ih.2 j u hj
    rw [Nat.add_right_comm, List.getElem?_cons_succ]; exact this
theorem Ok.loadAggC {t : TypeId} {ds : TypeDesc} {x : Operand} {b o sz by_ : Nat} {z : Value} {c : Array Value} {e : TypeId} {fr : Nat × Nat} {vs : List Value} [hs : Und P t ds] [hi : Inf P t sz by_ z] (hx : ev L x = some (.pointer (some ⟨b, o, none⟩))) (hag : aggD ds = true)
    (hb : ∀ w, Heap w M H → w.heap[b]? = some (.cells c e fr)) (hl : vs.length = sz) (hc : ∀ j u, vs[j]? = some u → c[o + j]? = some u) : Ok P ⟨d, .load t x, ty, pos, af, g⟩ L M H (.agg vs.toArray) := fun n D a w hf hh => by
  obtain ⟨inf, g1, g2, _, _⟩ := hi.h
  have hcell : ∀ j u, vs[j]? = some u → w.cell? ((⟨b, o, none⟩ : Addr).add j) = some u := by
    intro j u hj
    rw [Addr.add_lit]
    simp [World.cell?, hb w hh, hc j u hj]
  have hfc := run_firstCells_some (P := P) w 1 sz ⟨b, o, none⟩ sz sz vs (by simp [hl]) hcell
  simp only [Builtin.firstCells, Nat.mul_one] at hfc
  simp only [execOp, hf.ev hx, Instr.loadAt, Instr.sureAddr, Sem.run_bind, Sem.run_pure, Result.andThen, loadVar, run_isAgg hs.h, hag]
  simp [sizeOf, typeInfo, g1, g2, hfc, Result.andThen]
theorem Ok.loadAgg {t : TypeId} {ds : TypeDesc} {x : Operand} {b o sz by_ : Nat} {z : Value} {l : List Value} {e : TypeId} {fr : Nat × Nat} {vs : List Value} {f : Obj → Hp} [hs : Und P t ds] [hi : Inf P t sz by_ z] (hx : ev L x = some (.pointer (some ⟨b, o, none⟩))) (hag : aggD ds = true)
    (hb : At H b (.cells l.toArray e fr) f) (hc : Sub l o sz vs) : Ok P ⟨d, .load t x, ty, pos, af, g⟩ L M H (.agg vs.toArray) :=
  Ok.loadAggC hx hag (fun _ hh => hh.own _ hb.mem) hc.spec.1 (fun j u hj => by simpa using hc.spec.2 j u hj)
end ok
end Go.Sx
