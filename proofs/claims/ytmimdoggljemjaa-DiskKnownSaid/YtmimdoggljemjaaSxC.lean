/-
  Operations that write, make memory, or call.
-/
import Derived.Test.YtmimdoggljemjaaSxB
namespace Go.Sx
open Go.RowKit
variable {P : Program} {r : Option Nat} {n : Nat} {D : List Deferred} {L L' : Sl} {M : Mem} {H : Hp} {Q : Post}

theorem F0_no {r : Option Nat} {k m : Nat} : (F0 r).depth.isSome = true → k ≤ m := fun h => by simp [F0, Fence.wide] at h

theorem R.world {ops : Array Oper} {rest : List Oper} {o : Oper} (hg : o.guard = none) (hnd : ∀ c, o.op ≠ .defer c)
    (h : ∀ a w, Fr n D L a → Heap w M H → ∃ v w', ((execOp a.eval o).run P w = .ok (.value v) w' ∨ (execOp a.eval o).run P w = .ok .skip w' ∧ v = undef) ∧ (Fr n D L a → Heap w M H → wpListIn (F0 r) 0 P ops Q rest (a.put o.dst v) w')) :
    R false P r n ops (o :: rest) Q D L M H := by
  intro a w hf hh
  obtain ⟨v, w', he, hk⟩ := h a w hf hh
  refine wpListIn_plain hg fun Kn hK => ⟨fun f _ => F0_fn _ f, ?_⟩
  rw [semAt_eq _ hnd]
  rcases he with he | ⟨he, rfl⟩
  · rw [he]; exact hK _ _ (hk hf hh)
  · rw [he]; exact hK _ _ (hk hf hh)

section
variable {d : Option Tmp} {ty : TypeId} {pos : String} {af : Array Edge} {ops : Array Oper} {rest : List Oper}

theorem R.box {t : TypeId} {x : Operand} {v : Value} {c : Array Value} (hx : ev L x = some v) (hc : v.cells = c) (hd : dok n d = true)
    (k : ∀ b, R false P r n ops rest Q D (bnd d (.pointer (some ⟨b, 0, none⟩)) L) M ((b, .cells c t (0, 0)) :: H)) : R false P r n ops (⟨d, .box t x, ty, pos, af, none⟩ :: rest) Q D L M H := by
  refine R.world rfl (by intro c h; cases h) fun a w hf hh => ⟨.pointer (some ⟨w.heap.size, 0, none⟩), w.alloc (.cells c t), .inl ?_, fun hf hh => k _ _ _ (hf.put d hd _) (hh.alloc _)⟩
  subst hc
  simp [execOp, hf.ev hx, Instr.box, newVar, newRow, newObj, Sem.run, World.alloc_eq]

theorem R.alloc {t sz by_ : Nat} {z : Value} {c : Array Value} [hi : Inf P t sz by_ z] (hc : z.cells = c) (hd : dok n d = true)
    (k : ∀ b, R false P r n ops rest Q D (bnd d (.pointer (some ⟨b, 0, none⟩)) L) M ((b, .cells c t (0, 0)) :: H)) : R false P r n ops (⟨d, .alloc t, ty, pos, af, none⟩ :: rest) Q D L M H := by
  obtain ⟨inf, g1, _, _, g4⟩ := hi.h
  refine R.world rfl (by intro c h; cases h) fun a w hf hh => ⟨.pointer (some ⟨w.heap.size, 0, none⟩), w.alloc (.cells c t), .inl ?_, fun hf hh => k _ _ _ (hf.put d hd _) (hh.alloc _)⟩
  subst hc
  simp [execOp, Instr.alloc, zeroValue, typeInfo, g1, g4, newVar, newRow, newObj, Sem.run, World.alloc_eq]

/-- cells written over a list, from a place on -/
inductive Blit : List Value → Nat → List Value → List Value → Prop
  | nil (l : List Value) : Blit l 0 [] l
  | cons {l l' vs : List Value} (x v : Value) (h : Blit l 0 vs l') : Blit (x :: l) 0 (v :: vs) (v :: l')
  | skip {l l' vs : List Value} {o : Nat} (z : Value) (h : Blit l o vs l') : Blit (z :: l) (o + 1) vs (z :: l')
theorem Blit.spec {l vs l' : List Value} {o : Nat} (h : Blit l o vs l') : o + vs.length ≤ l.length ∧ l' = l.take o ++ vs ++ l.drop (o + vs.length) := by
  induction h with
  | nil l => simp
  | cons x v h ih =>
    obtain ⟨h1, h2⟩ := ih
    refine ⟨by simp at *; omega, ?_⟩
    simp only [Nat.zero_add] at h2 ⊢
    rw [h2]; simp
  | skip z h ih =>
    obtain ⟨h1, h2⟩ := ih
    refine ⟨by simp at *; omega, ?_⟩
    rw [h2, Nat.add_right_comm]; simp

theorem setRow_other (w : World) (g : Nat) (c : Array Value) (k : Nat) (h : k ≠ g) : (w.setRow g c).heap[k]? = w.heap[k]? := by
  simp only [World.setRow, Array.getElem?_modify]
  rw [if_neg (by omega)]
theorem setRow_same (w : World) (g : Nat) (c c' : Array Value) (t : TypeId) (fr : Nat × Nat) (h : w.heap[g]? = some (.cells c t fr)) : (w.setRow g c').heap[g]? = some (.cells c' t fr) := by
  simp [World.setRow, Array.getElem?_modify, h]

theorem storeAt_run {t sz by_ : Nat} {z : Value} [hi : Inf P t sz by_ z] {b o : Nat} {v : Value} {l vs : List Value} {e : TypeId} {w : World} (hv : v.cells = vs.toArray) (hl : vs.length = sz) (hone : ∀ u ∈ vs, u.oneCell' = true)
    (hb : w.heap[b]? = some (.cells l.toArray e (0, 0))) (hle : o + vs.length ≤ l.length) :
    (Instr.storeAt t (.pointer (some ⟨b, o, none⟩)) v).run P w = .ok () (w.setRow b (l.take o ++ vs ++ l.drop (o + vs.length)).toArray) := by
  obtain ⟨inf, g1, g2, _, _⟩ := hi.h
  have hst := run_storeCells_at P b o e vs 0 l.toArray w hb (by simpa using hle) hone
  simp only [Nat.add_zero] at hst
  simp [Instr.storeAt, Instr.sureAddr, storeVar, sizeOf, typeInfo, g1, g2, hv, hl, hst]

theorem R.store {t sz by_ : Nat} {z : Value} {x y : Operand} {b o : Nat} {v : Value} {l vs l' : List Value} {e : TypeId} {f : Obj → Hp} [hi : Inf P t sz by_ z] (hx : ev L x = some (.pointer (some ⟨b, o, none⟩))) (hy : ev L y = some v)
    (hv : v.cells = vs.toArray) (hb : At H b (.cells l.toArray e (0, 0)) f) (hB : Blit l o vs l') (hl : vs.length = sz) (hone : ∀ u ∈ vs, u.oneCell' = true)
    (k : R false P r n ops rest Q D L M (f (.cells l'.toArray e (0, 0)))) : R false P r n ops (⟨none, .store t x y, ty, pos, af, none⟩ :: rest) Q D L M H := by
  obtain ⟨h1, h2⟩ := hB.spec
  refine R.world rfl (by intro c h; cases h) fun a w hf hh => ⟨undef, w.setRow b l'.toArray, .inr ⟨?_, rfl⟩, fun hf hh => k _ _ hf (hh.put hb (setRow_same _ _ _ _ _ _ (hh.own _ hb.mem)) (fun k hk => setRow_other _ _ _ _ hk) rfl rfl)⟩
  have := storeAt_run (P := P) (t := t) (v := v) (b := b) (o := o) (w := w) hv hl hone (hh.own _ hb.mem) h1
  simp [execOp, hf.ev hx, hf.ev hy, this, h2]
/-- one cell, at an index that is reckoned -/
theorem R.storeI {t by_ : Nat} {z : Value} {x y : Operand} {b o : Nat} {v : Value} {l : List Value} {e : TypeId} {f : Obj → Hp} [hi : Inf P t 1 by_ z] (hx : ev L x = some (.pointer (some ⟨b, o, none⟩))) (hy : ev L y = some v)
    (hv : v.cells = #[v]) (hb : At H b (.cells l.toArray e (0, 0)) f) (ho : o < l.length) (hone : v.oneCell' = true)
    (k : R false P r n ops rest Q D L M (f (.cells (l.set o v).toArray e (0, 0)))) : R false P r n ops (⟨none, .store t x y, ty, pos, af, none⟩ :: rest) Q D L M H := by
  refine R.world rfl (by intro c h; cases h) fun a w hf hh => ⟨undef, w.setRow b (l.set o v).toArray, .inr ⟨?_, rfl⟩, fun hf hh => k _ _ hf (hh.put hb (setRow_same _ _ _ _ _ _ (hh.own _ hb.mem)) (fun k hk => setRow_other _ _ _ _ hk) rfl rfl)⟩
  have := storeAt_run (P := P) (t := t) (v := v) (vs := [v]) (b := b) (o := o) (w := w) (by simpa using hv) rfl (by simpa using hone) (hh.own _ hb.mem) (by simp; omega)
  have e2 : l.take o ++ [v] ++ l.drop (o + 1) = l.set o v := by rw [List.set_eq_take_append_cons_drop, if_pos ho]; simp
  simp only [List.length_singleton, e2] at this
  simp [execOp, hf.ev hx, hf.ev hy, this]

/-! calls -/
theorem callArgs_run {f : Nat} {xs : List Operand} {vs : List Value} {ts : Array TypeId} {a : Act} {w : World} [he : Ent P f] {d : Option Tmp} {ty : TypeId} {pos : String} {af : Array Edge} {g : Option (Nat × Bool)} (hf : Fr n D L a) (hx : Evs L xs vs) :
    (execOp a.eval ⟨d, .call ⟨.value (.func f), xs.toArray, ts⟩, ty, pos, af, g⟩).run P w = .ok (.enter f vs.toArray) w := by
  have h1 := hf.evs hx
  simp [execOp, resolve, Deferred.ofValue, Act.eval, invoke, h1, he.h]
theorem R.call {f : Nat} {xs : List Operand} {vs : List Value} {ts : Array TypeId} {T : Value → Mem → Hp → Prop} [he : Ent P f] (hx : Evs L xs vs) (hd : dok n d = true) (hK : K P f vs M H T)
    (k : ∀ v M' H', T v M' H' → R false P r n ops rest Q D (bnd d v L) M' H') : R false P r n ops (⟨d, .call ⟨.value (.func f), xs.toArray, ts⟩, ty, pos, af, none⟩ :: rest) Q D L M H := by
  intro a w hf hh
  refine wpListIn_plain rfl fun Kn hKn => ⟨fun f _ => F0_fn _ f, ?_⟩
  rw [semAt_eq _ (by intro c h; cases h), callArgs_run hf hx]
  refine ⟨F0_no, ?_⟩
  have := (callsIn_wide (n := 0 - 1)).2 ((hK w hh).mono (R' := fun e w' => match e, w' with
      | .returned v, w'' => Kn (a.put d v) w''
      | .panicked chain, w'' => Q (.panic chain) a w''
      | .outgrown, _ => LetsOut Q) (by
    rintro e w' ⟨v, M', H', rfl, hT, hh'⟩
    exact hKn _ _ (k v M' H' hT _ _ (hf.put d hd v) hh')))
  exact this
theorem R.callQ {dr : Bool} {f : Nat} {xs : List Operand} {vs : List Value} {ts : Array TypeId} {v : Value} [he : Ent P f] (hx : Evs L xs vs) (hd : dok n d = true) (hK : K P f vs M H (fun u M' H' => u = v ∧ M' = M ∧ H' = H))
    (k : R dr P r n ops rest Q D (bnd d v L) M H) : R dr P r n ops (⟨d, .call ⟨.value (.func f), xs.toArray, ts⟩, ty, pos, af, none⟩ :: rest) Q D L M H := by
  cases dr with
  | false => exact R.call hx hd hK fun u M' H' ⟨h1, h2, h3⟩ => by subst h1; subst h2; subst h3; exact k
  | true =>
    intro a hf
    refine ⟨fun w _ f _ => F0_fn _ f, ?_⟩
    rw [if_pos (by simp [Region.wanted])]
    refine ⟨v, fun w hh => ?_, k _ (hf.put d hd v)⟩
    unfold Oper.quietAtIn
    rw [callArgs_run hf hx]
    refine ⟨rfl, F0_no, ?_⟩
    exact (callsIn_wide (n := 0 - 1)).2 ((hK w hh).mono (by
      rintro e w' ⟨u, M', H', rfl, ⟨rfl, rfl, rfl⟩, hh'⟩
      exact ⟨rfl, hh'⟩))
/-- a closure's call -/
theorem callClos_run {f : Nat} {x : Operand} {xs : List Operand} {vs : List Value} {fs cs : List Value} {ts : Array TypeId} {a : Act} {w : World} [he : Ent P f] {d : Option Tmp} {ty : TypeId} {pos : String} {af : Array Edge} {g : Option (Nat × Bool)} (hf : Fr n D L a)
    (hc : ev L x = some (.func (.func f) fs.toArray cs.toArray)) (hx : Evs L xs vs) :
    (execOp a.eval ⟨d, .call ⟨.value x, xs.toArray, ts⟩, ty, pos, af, g⟩).run P w = .ok (.enter f (fs ++ vs ++ cs).toArray) w := by
  have h1 := hf.evs hx
  simp [execOp, resolve, Deferred.ofValue, hf.ev hc, invoke, h1, he.h]
theorem R.callC {f : Nat} {x : Operand} {xs : List Operand} {vs fs cs : List Value} {ts : Array TypeId} {T : Value → Mem → Hp → Prop} [he : Ent P f] (hc : ev L x = some (.func (.func f) fs.toArray cs.toArray)) (hx : Evs L xs vs) (hd : dok n d = true) (hK : K P f (fs ++ vs ++ cs) M H T)
    (k : ∀ v M' H', T v M' H' → R false P r n ops rest Q D (bnd d v L) M' H') : R false P r n ops (⟨d, .call ⟨.value x, xs.toArray, ts⟩, ty, pos, af, none⟩ :: rest) Q D L M H := by
  intro a w hf hh
  refine wpListIn_plain rfl fun Kn hKn => ⟨fun f _ => F0_fn _ f, ?_⟩
  rw [semAt_eq _ (by intro c h; cases h), callClos_run hf hc hx]
  refine ⟨F0_no, ?_⟩
  exact (callsIn_wide (n := 0 - 1)).2 ((hK w hh).mono (by
    rintro e w' ⟨v, M', H', rfl, hT, hh'⟩
    exact hKn _ _ (k v M' H' hT _ _ (hf.put d hd v) hh')))
theorem Ok.makeFunc {fn : Fn} {fs cs : List Operand} {vs us : List Value} {g : Option (Nat × Bool)} (hf' : Evs L fs vs) (hc : Evs L cs us) (hr : ∀ w, (Instr.makeFunc fn vs.toArray us.toArray).run P w = .ok (.func fn vs.toArray us.toArray) w) :
    Ok P ⟨d, .makeFunc fn fs.toArray cs.toArray, ty, pos, af, g⟩ L M H (.func fn vs.toArray us.toArray) := fun n D a w hf _ => by
  have h1 := hf.evs hf'
  have h2 := hf.evs hc
  simp [execOp, h1, h2, hr]

/-! structs by value -/
theorem Ok.eqS {t t' : TypeId} {x y : Operand} {xs ys : Array Value} {b : Bool} {g : Option (Nat × Bool)} (hx : ev L x = some (.agg xs)) (hy : ev L y = some (.agg ys)) (hm : P.eqGuardType P.depth t = false) (hr : ∀ w, (Op.equalIn 10000 t (.agg xs) (.agg ys)).run P w = .ok b w) :
    Ok P ⟨d, .binOp .eql t x y t', ty, pos, af, g⟩ L M H (.bool b) := Ok.bin hx hy (fun w => eqGuard_agg' hm _ _ _ _ _ w) fun w => by
  rw [run_eql_struct, hr]; rfl
theorem Ok.neS {t t' : TypeId} {x y : Operand} {xs ys : Array Value} {b : Bool} {g : Option (Nat × Bool)} (hx : ev L x = some (.agg xs)) (hy : ev L y = some (.agg ys)) (hm : P.eqGuardType P.depth t = false) (hr : ∀ w, (Op.equalIn 10000 t (.agg xs) (.agg ys)).run P w = .ok b w) :
    Ok P ⟨d, .binOp .neq t x y t', ty, pos, af, g⟩ L M H (.bool (!b)) := Ok.bin hx hy (fun w => eqGuard_agg' hm _ _ _ _ _ w) fun w => by
  rw [run_neq_struct, hr]; rfl
/-- a field of a struct value -/
class FldV (P : Program) (t : TypeId) (i : Nat) (off : outParam Nat) (size : outParam Nat) (ag : outParam Bool) : Prop where
  h : ∃ fs f ds inf, P.underlying t = some (.struct fs) ∧ fs[i]? = some f ∧ f.offset = off ∧ P.underlying f.type = some ds ∧ aggD ds = ag ∧ P.info? f.type = some inf ∧ inf.size = size
theorem Ok.field {t i off sz : Nat} {x : Operand} {vs : List Value} {v : Value} {g : Option (Nat × Bool)} [hF : FldV P t i off sz false] (hx : ev L x = some (.agg vs.toArray)) (hi : vs[off]? = some v) : Ok P ⟨d, .field t x i, ty, pos, af, g⟩ L M H v := fun n D a w hf _ => by
  obtain ⟨fs, f, ds, inf, h1, h2, h3, h4, h5, h6, h7⟩ := hF.h
  simp [execOp, hf.ev hx, Instr.field, run_underlying h1, h2, asAgg, part, run_isAgg h4, h5, h3, hi]
theorem Ok.fieldAgg {t i off sz : Nat} {x : Operand} {vs us : List Value} {g : Option (Nat × Bool)} [hF : FldV P t i off sz true] (hx : ev L x = some (.agg vs.toArray)) (hi : Sub vs off sz us) : Ok P ⟨d, .field t x i, ty, pos, af, g⟩ L M H (.agg us.toArray) := fun n D a w hf _ => by
  obtain ⟨fs, f, ds, inf, h1, h2, h3, h4, h5, h6, h7⟩ := hF.h
  have h8 := hi.spec
  have h9 : (vs.drop off).take sz = us := by
    apply List.ext_getElem?
    intro j
    rw [List.getElem?_take]
    split
    · rename_i hj
      have := h8.2 j (us[j]'(by omega)) (List.getElem?_eq_getElem (by omega))
      rw [List.getElem?_drop, this, List.getElem?_eq_getElem (by omega)]
    · rw [List.getElem?_eq_none (by omega)]
  simp [execOp, hf.ev hx, Instr.field, run_underlying h1, h2, asAgg, part, run_isAgg h4, h5, h3, sizeOf, typeInfo, h6, h7, h9]
/-- the parts of a struct's literal -/
inductive Fills (place : Nat → Option (Nat × Nat)) : List Value → List (Nat × Value) → List Value → Prop
  | nil (l : List Value) : Fills place l [] l
  | cons {l l1 l2 : List Value} {i off sz : Nat} {v : Value} {vs : List Value} {ps : List (Nat × Value)} (hp : place i = some (off, sz)) (hv : v.cells = vs.toArray) (hl : vs.length = sz) (hb : Blit l off vs l1) (ht : Fills place l1 ps l2) : Fills place l ((i, v) :: ps) l2
theorem fold_blit (vs : List Value) : ∀ (k off : Nat) (l : List Value), off + k + vs.length ≤ l.length → (vs.zipIdx k).foldl (fun (cs : Array Value) (p : Value × Nat) => cs.setIfInBounds (off + p.2) p.1) l.toArray = (l.take (off + k) ++ vs ++ l.drop (off + k + vs.length)).toArray := by
  induction vs with
  | nil => intro k off l h; simp
  | cons v vs ih =>
    intro k off l h
    rw [List.zipIdx_cons, List.foldl_cons]
    simp only [List.length_cons] at h
    rw [show (l.toArray.setIfInBounds (off + k) v) = (l.set (off + k) v).toArray from by simp]
    rw [ih (k + 1) off (l.set (off + k) v) (by simp; omega)]
    congr 1
    rw [List.set_eq_take_append_cons_drop, if_pos (by omega)]
    have e1 : (l.take (off + k)).length = off + k := by simp; omega
    rw [show off + (k + 1) = (off + k) + 1 from by omega, List.take_append, e1]
    rw [List.take_of_length_le (by omega : (l.take (off + k)).length ≤ off + k + 1)]
    have e2 : off + k + 1 - (off + k) = 1 := by omega
    rw [e2, List.take_succ_cons, List.take_zero, List.drop_append, e1]
    rw [List.drop_eq_nil_of_le (by omega : (l.take (off + k)).length ≤ off + k + 1 + vs.length)]
    rw [show off + k + 1 + vs.length - (off + k) = vs.length + 1 from by omega, List.drop_succ_cons, List.drop_drop]
    simp [Nat.add_assoc, Nat.add_comm 1]
theorem Fills.run {place : Nat → Option (Nat × Nat)} {l l' : List Value} {ps : List (Nat × Value)} (h : Fills place l ps l') : Instr.fill place l.toArray ps = some l'.toArray := by
  induction h with
  | nil l => rfl
  | @cons l l1 l2 i off sz v vs ps hp hv hl hb ht ih =>
    obtain ⟨b1, b2⟩ := hb.spec
    unfold Instr.fill
    rw [hp]
    have hc : ¬ (v.cells.size ≠ sz || off + v.cells.size > l.toArray.size) = true := by
      rw [hv]; simp [hl]; omega
    dsimp only
    rw [if_neg hc, hv]
    have := fold_blit vs 0 off l (by omega)
    simp only [Nat.add_zero] at this
    rw [← b2] at this
    have e : vs.toArray.zipIdx.foldl (fun (cs : Array Value) (p : Value × Nat) => cs.setIfInBounds (off + p.2) p.1) l.toArray = l1.toArray := by
      rw [← Array.foldl_toList]; simpa using this
    rw [← ih]
    congr 1
class Bld (P : Program) (t : TypeId) (places : outParam (List (Nat × Nat))) (zs : outParam (List Value)) : Prop where
  h : ∀ w parts, (Instr.build t parts).run P w = match Instr.fill (places[·]?) zs.toArray parts.toList with | some cells => .ok (.agg cells) w | none => (stuck "build: no such field, or a part of the wrong size" : Sem Value).run P w
inductive Prt (L : Sl) : List (Nat × Operand) → List (Nat × Value) → Prop
  | nil : Prt L [] []
  | cons {i : Nat} {x : Operand} {v : Value} {ps : List (Nat × Operand)} {qs : List (Nat × Value)} (h : ev L x = some v) (t : Prt L ps qs) : Prt L ((i, x) :: ps) ((i, v) :: qs)
theorem Fr.prt {a : Act} (hf : Fr n D L a) {ps : List (Nat × Operand)} {qs : List (Nat × Value)} (h : Prt L ps qs) : ps.map (fun p => (p.1, a.eval p.2)) = qs := by
  induction h with
  | nil => rfl
  | cons h _ ih => rw [List.map_cons, hf.ev h, ih]
theorem Ok.build {t : TypeId} {places : List (Nat × Nat)} {zs l : List Value} {ps : List (Nat × Operand)} {qs : List (Nat × Value)} {g : Option (Nat × Bool)} [hB : Bld P t places zs] (hp : Prt L ps qs) (hF : Fills (places[·]?) zs qs l) :
    Ok P ⟨d, .build t ps.toArray, ty, pos, af, g⟩ L M H (.agg l.toArray) := fun n D a w hf _ => by
  have h1 := hf.prt hp
  have h2 : (ps.toArray.map fun (x : Nat × Operand) => (x.1, a.eval x.2)) = qs.toArray := by simp [h1]
  have h3 := hB.h w qs.toArray
  rw [hF.run] at h3
  simp only [execOp, h2]
  simp [h3]
theorem Res.cellAgg {t : Tmp} {ty b o sz by_ : Nat} {z : Value} {ds : TypeDesc} {l us : List Value} {e : TypeId} {fr : Nat × Nat} {f : Obj → Hp} {rs : List ResultVar} {vs : List Value} [hs : Und P ty ds] [hi : Inf P ty sz by_ z]
    (h : lk L t = some (.pointer (some ⟨b, o, none⟩))) (hag : aggD ds = true) (hb : At H b (.cells l.toArray e fr) f) (hc : Sub l o sz us) (ht : Res P L M H rs vs) : Res P L M H (.cell t ty :: rs) (.agg us.toArray :: vs) :=
  Res.cons_ (fun n D a w hf hh => by
    obtain ⟨inf, g1, g2, _, _⟩ := hi.h
    have hcell : ∀ j u, us[j]? = some u → w.cell? ((⟨b, o, none⟩ : Addr).add j) = some u := by
      intro j u hj
      rw [Addr.add_lit]
      have := hc.spec.2 j u hj
      simp [World.cell?, hh.own _ hb.mem, this]
    have hfc := run_firstCells_some (P := P) w 1 sz ⟨b, o, none⟩ sz sz us (by simp [hc.spec.1]) hcell
    simp only [Builtin.firstCells, Nat.mul_one] at hfc
    simp only [resOf]
    rw [hf.slot _ _ h]
    simp [asAddr, loadVar, run_isAgg hs.h, hag, sizeOf, typeInfo, g1, g2, hfc]) ht
theorem Res.cellOne {t : Tmp} {ty b o : Nat} {ds : TypeDesc} {l : List Value} {v : Value} {e : TypeId} {fr : Nat × Nat} {f : Obj → Hp} {rs : List ResultVar} {vs : List Value} [hs : Und P ty ds]
    (h : lk L t = some (.pointer (some ⟨b, o, none⟩))) (hag : aggD ds = false) (hb : At H b (.cells l.toArray e fr) f) (hc : l[o]? = some v) (ht : Res P L M H rs vs) : Res P L M H (.cell t ty :: rs) (v :: vs) :=
  Res.cons_ (fun n D a w hf hh => by
    have hcell : w.cell? ⟨b, o, none⟩ = some v := by simp [World.cell?, hh.own _ hb.mem, hc]
    simp only [resOf]
    rw [hf.slot _ _ h]
    simp [asAddr, loadVar, run_isAgg hs.h, hag, load, Sem.run, hcell]) ht
end
end Go.Sx
