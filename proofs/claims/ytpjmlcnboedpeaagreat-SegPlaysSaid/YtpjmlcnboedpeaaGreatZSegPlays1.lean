import Derived.WalkKit
import Derived.Sort.QuietThIn
import Derived.RangeFuncIn
import Derived.KernelRfl
import Derived.Deep.Draws
import Derived.Laws.StructEq
import Derived.ArgAppend
import Derived.Lib.ConvBytes
import Derived.Maps.AppendAt
import Derived.Laws.MakeOwn
import Derived.Laws.BytesString
import Derived.Laws.BytesArg
import Derived.Lib.AppendStr
import Derived.ProofKit
import Derived.OpenShut
import Derived.SizedLaws
import Derived.ChangeOld
import Derived.WideKeyArgs
import Derived.ChangeArms
import Derived.RangeFuncLeaves
import Derived.RangeFuncRecord
import Derived.Lib.AppendZerosOnto
import Derived.Laws.CopyRow
import Derived.Lib.Overlaps
set_option linter.unusedVariables false
set_option linter.unusedSimpArgs false
section
namespace Go.Sx
open Go.RowKit
def F0 (r : Option Nat) : Fence := { Fence.wide with round := r }
@[simp] theorem F0_round (r : Option Nat) : (F0 r).round = r := rfl
theorem F0_fn (r : Option Nat) (f : FuncId) : (F0 r).fn f := trivial
structure Mem where
 os : Os
 out : Array (Nat × ByteArray)
 at_ : Nat → Option Obj
abbrev Hp := List (Nat × Obj)
abbrev Sl := List (Nat × Value)
structure Heap (w : World) (M : Mem) (H : Hp) : Prop where
 os : w.os = M.os
 out : w.output = M.out
 pool : ∀ b o, M.at_ b = some o → w.heap[b]? = some o
 own : ∀ p ∈ H, w.heap[p.1]? = some p.2
 apart : ∀ p ∈ H, M.at_ p.1 = none
 nodup : (H.map Prod.fst).Nodup
section heap
variable {w w' : World} {M : Mem} {H H' : Hp}
theorem heap_lt {w : World} {b : Nat} {o : Obj} (h : w.heap[b]? = some o) : b < w.heap.size := by
 rcases Nat.lt_or_ge b w.heap.size with h1 | h1
 ·exact h1
 ·rw [Array.getElem?_eq_none h1] at h; cases h
theorem Heap.lt (h : Heap w M H) {b : Nat} {o : Obj} (hm : (b, o) ∈ H) : b < w.heap.size := heap_lt (h.own _ hm)
theorem Heap.same (h : Heap w M H) (h1 : w'.heap = w.heap) (h2 : w'.os = w.os) (h3 : w'.output = w.output) : Heap w' M H :=
 ⟨h2.trans h.os, h3.trans h.out, fun b o hb => by rw [h1]; exact h.pool b o hb, fun p hp => by rw [h1]; exact h.own p hp, h.apart, h.nodup⟩
theorem Heap.drawn (h : Heap w M H) (d : Nat) : Heap { w with drawn := d } M H := h.same rfl rfl rfl
theorem Heap.drew (h : Heap w M H) : Heap w.drew M H := h.same rfl rfl rfl
theorem Heap.alloc (h : Heap w M H) (o : Obj) : Heap (w.alloc o) M ((w.heap.size, o) :: H) := by
 have hp : ∀ b o', w.heap[b]? = some o' → (w.alloc o).heap[b]? = some o' := fun b o' hb => (Below.heap_alloc w o b (heap_lt hb)).trans hb
 refine ⟨h.os, h.out, fun b o' hb => hp b o' (h.pool b o' hb), ?_, ?_, ?_⟩
 ·intro p hm
  rcases List.mem_cons.1 hm with rfl | hm
  ·exact heap_alloc_new w o
  ·exact hp _ _ (h.own p hm)
 ·intro p hm
  rcases List.mem_cons.1 hm with rfl | hm
  ·cases he : M.at_ w.heap.size with
   | none => rfl
   | some o' => exact absurd (heap_lt (h.pool _ _ he)) (Nat.lt_irrefl _)
  ·exact h.apart p hm
 ·rw [List.map_cons, List.nodup_cons]
  refine ⟨?_, h.nodup⟩
  intro hm
  obtain ⟨p, hp', he⟩ := List.mem_map.1 hm
  have := heap_lt (h.own p hp')
  dsimp only at he
  omega
theorem Heap.tail {x : Nat × Obj} (h : Heap w M (x :: H)) : Heap w M H :=
 ⟨h.os, h.out, h.pool, fun p hp => h.own p (List.mem_cons_of_mem _ hp), fun p hp => h.apart p (List.mem_cons_of_mem _ hp), (List.nodup_cons.1 h.nodup).2⟩
theorem Heap.perm (h : Heap w M H) (hp : H.Perm H') : Heap w M H' :=
 ⟨h.os, h.out, h.pool, fun p hm => h.own p (hp.mem_iff.2 hm), fun p hm => h.apart p (hp.mem_iff.2 hm), (hp.map Prod.fst).nodup_iff.1 h.nodup⟩
end heap
inductive At : Hp → Nat → Obj → (Obj → Hp) → Prop
 | head (b : Nat) (o : Obj) (H : Hp) : At ((b, o) :: H) b o (fun o' => (b, o') :: H)
 | tail {H : Hp} {b : Nat} {o : Obj} {f : Obj → Hp} (x : Nat × Obj) (h : At H b o f) : At (x :: H) b o (fun o' => x :: f o')
theorem At.split {H : Hp} {b : Nat} {o : Obj} {f : Obj → Hp} (h : At H b o f) : ∃ A B, H = A ++ (b, o) :: B ∧ f = fun o' => A ++ (b, o') :: B := by
 induction h with
 | head b o H => exact ⟨[], H, rfl, rfl⟩
 | tail x _ ih =>
  obtain ⟨A, B, h1, h2⟩ := ih
  subst h1; subst h2
  exact ⟨x :: A, B, rfl, rfl⟩
theorem At.mem {H : Hp} {b : Nat} {o : Obj} {f : Obj → Hp} (h : At H b o f) : (b, o) ∈ H := by
 obtain ⟨A, B, rfl, _⟩ := h.split
 simp
theorem Heap.put {w w' : World} {M : Mem} {H : Hp} {b : Nat} {o o' : Obj} {f : Obj → Hp} (h : Heap w M H) (ha : At H b o f)
  (hb : w'.heap[b]? = some o') (hk : ∀ k, k ≠ b → w'.heap[k]? = w.heap[k]?) (hos : w'.os = w.os) (hout : w'.output = w.output) : Heap w' M (f o') := by
 obtain ⟨A, B, rfl, rfl⟩ := ha.split
 have hnd := h.nodup
 rw [List.map_append, List.map_cons, List.nodup_append] at hnd
 obtain ⟨_, h2, h3⟩ := hnd
 rw [List.nodup_cons] at h2
 have hne : ∀ p, p ∈ A ∨ p ∈ B → p.1 ≠ b := by
  rintro p (hp | hp) e
  ·exact h3 p.1 (List.mem_map.2 ⟨p, hp, rfl⟩) b (List.mem_cons_self ..) e
  ·exact h2.1 (List.mem_map.2 ⟨p, hp, e⟩)
 have hM : M.at_ b = none := h.apart (b, o) (by simp)
 refine ⟨hos.trans h.os, hout.trans h.out, ?_, ?_, ?_, ?_⟩
 ·intro k ok hkk
  have : k ≠ b := fun e => by subst e; rw [hM] at hkk; cases hkk
  rw [hk k this]; exact h.pool k ok hkk
 ·intro p hp
  rcases List.mem_append.1 hp with hp | hp
  ·rw [hk _ (hne p (.inl hp))]; exact h.own p (List.mem_append_left _ hp)
  ·rcases List.mem_cons.1 hp with rfl | hp
   ·exact hb
   ·rw [hk _ (hne p (.inr hp))]; exact h.own p (List.mem_append_right _ (List.mem_cons_of_mem _ hp))
 ·intro p hp
  rcases List.mem_append.1 hp with hp | hp
  ·exact h.apart p (List.mem_append_left _ hp)
  ·rcases List.mem_cons.1 hp with rfl | hp
   ·exact hM
   ·exact h.apart p (List.mem_append_right _ (List.mem_cons_of_mem _ hp))
 ·have := h.nodup
  simpa using this
def Mem.put (M : Mem) (b : Nat) (o : Obj) : Mem := { M with at_ := fun k => if k = b then some o else M.at_ k }
theorem Heap.freeze {w : World} {M : Mem} {H : Hp} {b : Nat} {o : Obj} (h : Heap w M ((b, o) :: H)) : Heap w (M.put b o) H := by
 have ht := h.tail
 have hn := (List.nodup_cons.1 h.nodup).1
 refine ⟨h.os, h.out, ?_, ht.own, ?_, ht.nodup⟩
 ·intro k ok hk
  unfold Mem.put at hk
  dsimp only at hk
  split at hk
  ·rename_i e; cases hk; subst e; exact h.own (k, o) (List.mem_cons_self ..)
  ·exact h.pool k ok hk
 ·intro p hp
  unfold Mem.put
  dsimp only
  rw [if_neg]
  ·exact ht.apart p hp
  ·intro e; exact hn (List.mem_map.2 ⟨p, hp, e⟩)
theorem Heap.thaw {w : World} {M : Mem} {H : Hp} {b : Nat} {o : Obj} (hM : M.at_ b = none) (h : Heap w (M.put b o) H) : Heap w M ((b, o) :: H) := by
 have hpb : (M.put b o).at_ b = some o := by simp [Mem.put]
 have hlt : ∀ k ok, M.at_ k = some ok → (M.put b o).at_ k = some ok := by
  intro k ok hk
  have : k ≠ b := fun e => by subst e; rw [hM] at hk; cases hk
  simp [Mem.put, this, hk]
 refine ⟨h.os, h.out, fun k ok hk => h.pool k ok (hlt k ok hk), ?_, ?_, ?_⟩
 ·intro p hp
  rcases List.mem_cons.1 hp with rfl | hp
  ·exact h.pool _ _ hpb
  ·exact h.own p hp
 ·intro p hp
  rcases List.mem_cons.1 hp with rfl | hp
  ·exact hM
  ·cases he : M.at_ p.1 with
   | none => rfl
   | some ok => have := h.apart p hp; rw [hlt _ _ he] at this; cases this
 ·rw [List.map_cons, List.nodup_cons]
  refine ⟨?_, h.nodup⟩
  intro hm
  obtain ⟨p, hp, e⟩ := List.mem_map.1 hm
  have := h.apart p hp
  rw [e, hpb] at this; cases this
theorem Heap.pool_ne {w : World} {M : Mem} {H : Hp} {b : Nat} {o : Obj} (h : Heap w M ((b, o) :: H)) : M.at_ b = none := h.apart _ (List.mem_cons_self ..)
def lk : Sl → Nat → Option Value
 | [], _ => none
 | (s, v) :: l, t => match Nat.beq s t with
  | true => some v
  | false => lk l t
theorem lk_cons (s : Nat) (v : Value) (l : Sl) (t : Nat) : lk ((s, v) :: l) t = if s = t then some v else lk l t := by
 by_cases h : s = t
 ·subst h; simp [lk]
 ·have : Nat.beq s t = false := by
   cases hb : Nat.beq s t with
   | false => rfl
   | true => exact absurd (Nat.eq_of_beq_eq_true hb) h
  simp [lk, this, h]
structure Fr (n : Nat) (D : List Deferred) (L : Sl) (a : Act) : Prop where
 defers : a.defers = D
 size : a.tmps.size = n
 slot : ∀ t v, lk L t = some v → a.tmps.getD t undef = v
def bnd (d : Option Tmp) (v : Value) (L : Sl) : Sl :=
 match d with
 | some d => (d, v) :: L
 | none => L
def dok (n : Nat) (d : Option Tmp) : Bool :=
 match d with
 | some d => Nat.ble (d + 1) n
 | none => true
theorem Fr.put {n : Nat} {D : List Deferred} {L : Sl} {a : Act} (h : Fr n D L a) (d : Option Tmp) (hd : dok n d = true) (v : Value) : Fr n D (bnd d v L) (a.put d v) := by
 cases d with
 | none => exact h
 | some d =>
  have hd' : d < n := Nat.lt_of_succ_le (Nat.le_of_ble_eq_true hd)
  refine ⟨h.defers, by simpa [Act.put] using h.size, fun t u ht => ?_⟩
  rw [bnd, lk_cons] at ht
  have hsz : d < a.tmps.size := by rw [h.size]; exact hd'
  simp only [Act.put]
  split at ht
  ·rename_i e; subst e; cases ht
   simp [Array.getD, hsz]
  ·rename_i e
   rw [← h.slot t u ht]
   simp [Array.getD_eq_getD_getElem?, e]
def sub (L' L : Sl) : Prop := ∀ t v, lk L' t = some v → lk L t = some v
theorem sub_nil (L : Sl) : sub [] L := fun _ _ h => by cases h
theorem sub_cons {L' L : Sl} {s : Nat} {v : Value} (h : lk L s = some v) (h' : sub L' L) : sub ((s, v) :: L') L := by
 intro t u ht
 rw [lk_cons] at ht
 split at ht
 ·rename_i e; subst e; cases ht; exact h
 ·exact h' t u ht
theorem Fr.weak {n : Nat} {D : List Deferred} {L L' : Sl} {a : Act} (h : Fr n D L a) (hs : sub L' L) : Fr n D L' a :=
 ⟨h.defers, h.size, fun t v ht => h.slot t v (hs t v ht)⟩
def ev (L : Sl) : Operand → Option Value
 | .tmp t => lk L t
 | .const v => some v
 | .global g => some (.pointer (some ⟨g, 0, none⟩))
 | .func f => some (.func (.func f) #[] #[])
theorem Fr.ev {n : Nat} {D : List Deferred} {L : Sl} {a : Act} (h : Fr n D L a) {x : Operand} {v : Value} (hx : ev L x = some v) : a.eval x = v := by
 cases x with
 | tmp t => exact h.slot t v hx
 | const u => cases hx; rfl
 | global g => cases hx; rfl
 | func f => cases hx; rfl
inductive Evs (L : Sl) : List Operand → List Value → Prop
 | nil : Evs L [] []
 | cons {x : Operand} {v : Value} {xs : List Operand} {vs : List Value} (h : ev L x = some v) (t : Evs L xs vs) : Evs L (x :: xs) (v :: vs)
theorem Fr.evs {n : Nat} {D : List Deferred} {L : Sl} {a : Act} (h : Fr n D L a) {xs : List Operand} {vs : List Value} (hx : Evs L xs vs) : xs.map a.eval = vs := by
 induction hx with
 | nil => rfl
 | cons hx _ ih => rw [List.map_cons, h.ev hx, ih]
abbrev Post := Exit → Act → World → Prop
variable {P : Program} {r : Option Nat} {n : Nat} {D : List Deferred} {L L' : Sl} {M : Mem} {H : Hp} {Q : Post}
def C (P : Program) (r : Option Nat) (n : Nat) (c : Code) (Q : Post) (D : List Deferred) (L : Sl) (M : Mem) (H : Hp) : Prop :=
 ∀ a w, Fr n D L a → Heap w M H → c.wpIn (F0 r) 0 P Q a w
def R (dr : Bool) (P : Program) (r : Option Nat) (n : Nat) (ops : Array Oper) (rest : List Oper) (Q : Post) (D : List Deferred) (L : Sl) (M : Mem) (H : Hp) : Prop :=
 match dr with
 | false => ∀ a w, Fr n D L a → Heap w M H → wpListIn (F0 r) 0 P ops Q rest a w
 | true => ∀ a, Fr n D L a → wpQuietIn (F0 r) 0 P ops (fun w => Heap w M H) (fun a' => ∀ w', Heap w' M H → Q .normal a' w') rest a
def Fin (n : Nat) (e : Exit) (Q : Post) (D : List Deferred) (L : Sl) (M : Mem) (H : Hp) : Prop := ∀ a w, Fr n D L a → Heap w M H → Q e a w
theorem C.weak {c : Code} (hs : sub L' L) (h : C P r n c Q D L' M H) : C P r n c Q D L M H := fun a w hf hh => h a w (hf.weak hs) hh
theorem C.perm {H' : Hp} {c : Code} (hp : H.Perm H') (h : C P r n c Q D L M H') : C P r n c Q D L M H := fun a w hf hh => h a w hf (hh.perm hp)
theorem C.drop {x : Nat × Obj} {c : Code} (h : C P r n c Q D L M H) : C P r n c Q D L M (x :: H) := fun a w hf hh => h a w hf hh.tail
theorem C.freeze {b : Nat} {o : Obj} {c : Code} (h : M.at_ b = none → C P r n c Q D L (M.put b o) H) : C P r n c Q D L M ((b, o) :: H) := fun a w hf hh => h hh.pool_ne a w hf hh.freeze
theorem Fin.weak {e : Exit} (hs : sub L' L) (h : Fin n e Q D L' M H) : Fin n e Q D L M H := fun a w hf hh => h a w (hf.weak hs) hh
theorem Fin.perm {H' : Hp} {e : Exit} (hp : H.Perm H') (h : Fin n e Q D L M H') : Fin n e Q D L M H := fun a w hf hh => h a w hf (hh.perm hp)
theorem Fin.drop {x : Nat × Obj} {e : Exit} (h : Fin n e Q D L M H) : Fin n e Q D L M (x :: H) := fun a w hf hh => h a w hf hh.tail
theorem Fin.freeze {b : Nat} {o : Obj} {e : Exit} (h : M.at_ b = none → Fin n e Q D L (M.put b o) H) : Fin n e Q D L M ((b, o) :: H) := fun a w hf hh => h hh.pool_ne a w hf hh.freeze
theorem C.seq {x y : Code} (h : C P r n x (Exit.then (y.wpIn (F0 r) 0 P Q) Q) D L M H) : C P r n (.seq x y) Q D L M H := fun a w hf hh => wpIn_seq (h a w hf hh)
theorem C.block {id : Nat} {c : Code} (h : C P r n c (Exit.inBlock id Q) D L M H) : C P r n (.block id c) Q D L M H := fun a w hf hh => wpIn_block (h a w hf hh)
theorem C.skip (h : Fin n .normal Q D L M H) : C P r n .skip Q D L M H := fun a w hf hh => wpIn_skip (h a w hf hh)
theorem C.ret (h : Fin n .ret Q D L M H) : C P r n .ret Q D L M H := fun a w hf hh => wpIn_ret (h a w hf hh)
theorem C.exit {id : Nat} (h : Fin n (.exit id) Q D L M H) : C P r n (.exit id) Q D L M H := fun a w hf hh => wpIn_exit (h a w hf hh)
theorem C.label {l : Nat} (h : Fin n .normal Q D L M H) : C P r n (.label l) Q D L M H := fun a w hf hh => wpIn_label (h a w hf hh)
theorem C.cond {c : Operand} {x y : Code} {t : Bool} (hc : ev L c = some (.bool t)) (ht : t = true → C P r n x Q D L M H) (hf : t = false → C P r n y Q D L M H) :
  C P r n (.cond c x y) Q D L M H := fun _ _ hfr hh => wpIn_cond_split (hfr.ev hc) (fun h => ht h _ _ hfr hh) (fun h => hf h _ _ hfr hh)
theorem C.condDec {c : Operand} {x y : Code} {p : Prop} {_ : Decidable p} (hc : ev L c = some (.bool (decide p))) (ht : p → C P r n x Q D L M H) (hf : ¬ p → C P r n y Q D L M H) : C P r n (.cond c x y) Q D L M H :=
 C.cond hc (fun h => ht (of_decide_eq_true h)) (fun h => hf (of_decide_eq_false h))
theorem C.condNDec {c : Operand} {x y : Code} {p : Prop} {_ : Decidable p} (hc : ev L c = some (.bool (!decide p))) (ht : ¬ p → C P r n x Q D L M H) (hf : p → C P r n y Q D L M H) : C P r n (.cond c x y) Q D L M H :=
 C.cond hc (fun h => ht (by simpa using h)) (fun h => hf (by simpa using h))
theorem C.condBeq {c : Operand} {x y : Code} {p q : Int} (hc : ev L c = some (.bool (p == q))) (ht : p = q → C P r n x Q D L M H) (hf : p ≠ q → C P r n y Q D L M H) : C P r n (.cond c x y) Q D L M H :=
 C.cond hc (fun h => ht (by simpa using h)) (fun h => hf (by simpa using h))
theorem C.condBne {c : Operand} {x y : Code} {p q : Int} (hc : ev L c = some (.bool (p != q))) (ht : p ≠ q → C P r n x Q D L M H) (hf : p = q → C P r n y Q D L M H) : C P r n (.cond c x y) Q D L M H :=
 C.cond hc (fun h => ht (by simpa using h)) (fun h => hf (by simpa using h))
theorem C.condNot {c : Operand} {x y : Code} {t : Bool} (hc : ev L c = some (.bool (!t))) (ht : t = false → C P r n x Q D L M H) (hf : t = true → C P r n y Q D L M H) : C P r n (.cond c x y) Q D L M H :=
 C.cond hc (fun h => ht (by simpa using h)) (fun h => hf (by simpa using h))
theorem C.condT {c : Operand} {x y : Code} (hc : ev L c = some (.bool true)) (h : C P r n x Q D L M H) : C P r n (.cond c x y) Q D L M H := C.cond hc (fun _ => h) (fun e => by cases e)
theorem C.condF {c : Operand} {x y : Code} (hc : ev L c = some (.bool false)) (h : C P r n y Q D L M H) : C P r n (.cond c x y) Q D L M H := C.cond hc (fun e => by cases e) (fun _ => h)
theorem C.region {id : Nat} {l : List Oper} (h : R false P r n l.toArray l Q D L M H) : C P r n (.region id l.toArray false) Q D L M H :=
 fun a w hf hh => wpIn_region_lit (h a w hf hh)
theorem C.regionQ {id : Nat} {l : List Oper} (hm : P.follows .mixedOrders = true) (hB : Region.lexB .any l.toArray = true) (h : R true P none n l.toArray l Q D L M H) : C P none n (.region id l.toArray true) Q D L M H :=
 fun a _ hf hh => wpIn_region_quiet rfl hm hB (C := fun w => Heap w M H) (hh.drawn _) (h a hf)
theorem Fin.thenRet {K : Act → World → Prop} (h : Fin n .ret Q D L M H) : Fin n .ret (Exit.then K Q) D L M H := h
theorem Fin.thenExit {K : Act → World → Prop} {id : Nat} (h : Fin n (.exit id) Q D L M H) : Fin n (.exit id) (Exit.then K Q) D L M H := h
theorem Fin.blockNormal {id : Nat} (h : Fin n .normal Q D L M H) : Fin n .normal (Exit.inBlock id Q) D L M H := h
theorem Fin.blockRet {id : Nat} (h : Fin n .ret Q D L M H) : Fin n .ret (Exit.inBlock id Q) D L M H := h
theorem Fin.blockExit {id : Nat} (h : Fin n .normal Q D L M H) : Fin n (.exit id) (Exit.inBlock id Q) D L M H := fun a w hf hh => by
 simp only [Exit.inBlock, if_true]; exact h a w hf hh
theorem Fin.blockOther {id id' : Nat} (hne : Nat.beq id' id = false) (h : Fin n (.exit id') Q D L M H) : Fin n (.exit id') (Exit.inBlock id Q) D L M H := fun a w hf hh => by
 have : id' ≠ id := fun e => by subst e; simp at hne
 simp only [Exit.inBlock, if_neg this]; exact h a w hf hh
def Again {X : Type} (n : Nat) (D : List Deferred) (I : X → Prop) (Lf : X → Sl) (Mf : X → Mem) (Hf : X → Hp) (μ : X → Nat) (m : Nat) (a : Act) (w : World) : Prop :=
 ∃ y, I y ∧ μ y < m ∧ Fr n D (Lf y) a ∧ Heap w (Mf y) (Hf y)
theorem C.loop {X : Type} (I : X → Prop) (Lf : X → Sl) (Mf : X → Mem) (Hf : X → Hp) (μ : X → Nat) (x0 : X) {c : Code} (h0 : I x0) (hL : sub (Lf x0) L) (hM : M = Mf x0) (hH : H = Hf x0)
  (round : ∀ x, I x → C P r n c (Exit.then (Again n D I Lf Mf Hf μ (μ x)) Q) D (Lf x) (Mf x) (Hf x)) : C P r n (.loop c) Q D L M H := by
 intro a w hf hh
 refine wpIn_loop (I := fun a w => ∃ x, I x ∧ Fr n D (Lf x) a ∧ Heap w (Mf x) (Hf x)) (μ := fun a w => Classical.epsilon fun m => ∃ x, I x ∧ Fr n D (Lf x) a ∧ Heap w (Mf x) (Hf x) ∧ μ x = m ∧ ∀ y, I y → Fr n D (Lf y) a → Heap w (Mf y) (Hf y) → μ x ≤ μ y) ?_ ?_
 ·subst hM; subst hH
  exact ⟨x0, h0, hf.weak hL, hh⟩
 ·have least : ∀ a w, (∃ x, I x ∧ Fr n D (Lf x) a ∧ Heap w (Mf x) (Hf x)) → ∃ m x, I x ∧ Fr n D (Lf x) a ∧ Heap w (Mf x) (Hf x) ∧ μ x = m ∧ ∀ y, I y → Fr n D (Lf y) a → Heap w (Mf y) (Hf y) → μ x ≤ μ y := by
   intro a w ⟨x, hx⟩
   have : ∀ k x, μ x ≤ k → (I x ∧ Fr n D (Lf x) a ∧ Heap w (Mf x) (Hf x)) → ∃ m x, I x ∧ Fr n D (Lf x) a ∧ Heap w (Mf x) (Hf x) ∧ μ x = m ∧ ∀ y, I y → Fr n D (Lf y) a → Heap w (Mf y) (Hf y) → μ x ≤ μ y := by
    intro k
    induction k with
    | zero => intro x hk hx; exact ⟨_, x, hx.1, hx.2.1, hx.2.2, rfl, fun y _ _ _ => by omega⟩
    | succ k ih =>
     intro x hk hx
     by_cases hy : ∃ y, μ y ≤ k ∧ (I y ∧ Fr n D (Lf y) a ∧ Heap w (Mf y) (Hf y))
     ·obtain ⟨y, h1, h2⟩ := hy; exact ih y h1 h2
     ·refine ⟨_, x, hx.1, hx.2.1, hx.2.2, rfl, fun y h1 h2 h3 => ?_⟩
      rcases Nat.lt_or_ge k (μ y) with h | h
      ·omega
      ·exact absurd ⟨y, h, h1, h2, h3⟩ hy
   exact this (μ x) x (Nat.le_refl _) hx
  intro a w hx
  obtain ⟨x, hIx, hFx, hHx, hm, hmin⟩ := Classical.epsilon_spec (least a w hx)
  refine wpIn_mono (round x hIx a w hFx hHx) ?_
  intro e a' w' hq
  cases e with
  | normal =>
   obtain ⟨y, h1, h2, h3, h4⟩ := hq
   refine ⟨⟨y, h1, h3, h4⟩, ?_⟩
   obtain ⟨z, hz1, hz2, hz3, hz4, hz5⟩ := Classical.epsilon_spec (least a' w' ⟨y, h1, h3, h4⟩)
   have := hz5 y h1 h3 h4
   show Classical.epsilon _ < Classical.epsilon _
   rw [← hz4, ← hm]
   omega
  | exit id => exact hq
  | goto l => exact hq
  | ret => exact hq
  | panic ch => exact hq
  | outgrown => exact hq
theorem Fin.again {X : Type} {I : X → Prop} {Lf : X → Sl} {Mf : X → Mem} {Hf : X → Hp} {μ : X → Nat} {m : Nat} (y : X) (hI : I y) (hμ : μ y < m) (hL : sub (Lf y) L) (hM : M = Mf y) (hH : H = Hf y) :
  Fin n .normal (Exit.then (Again n D I Lf Mf Hf μ m) Q) D L M H := by
 intro a w hf hh
 subst hM; subst hH
 exact ⟨y, hI, hμ, hf.weak hL, hh⟩
def Join {X : Type} (n : Nat) (D : List Deferred) (I : X → Prop) (Lf : X → Sl) (Mf : X → Mem) (Hf : X → Hp) (a : Act) (w : World) : Prop :=
 ∃ y, I y ∧ Fr n D (Lf y) a ∧ Heap w (Mf y) (Hf y)
theorem C.seqCut {X : Type} (I : X → Prop) (Lf : X → Sl) (Mf : X → Mem) (Hf : X → Hp) {x y : Code} (hx : C P r n x (Exit.then (Join n D I Lf Mf Hf) Q) D L M H)
  (hy : ∀ z, I z → C P r n y Q D (Lf z) (Mf z) (Hf z)) : C P r n (.seq x y) Q D L M H := by
 intro a w hf hh
 refine wpIn_seq (wpIn_mono (hx a w hf hh) ?_)
 intro e a' w' hq
 cases e with
 | normal =>
  obtain ⟨z, h1, h2, h3⟩ := hq
  exact hy z h1 a' w' h2 h3
 | exit id => exact hq
 | goto l => exact hq
 | ret => exact hq
 | panic ch => exact hq
 | outgrown => exact hq
theorem Fin.join {X : Type} {I : X → Prop} {Lf : X → Sl} {Mf : X → Mem} {Hf : X → Hp} (y : X) (hI : I y) (hL : sub (Lf y) L) (hM : M = Mf y) (hH : H = Hf y) :
  Fin n .normal (Exit.then (Join n D I Lf Mf Hf) Q) D L M H := by
 intro a w hf hh
 subst hM; subst hH
 exact ⟨y, hI, hf.weak hL, hh⟩
def K (P : Program) (f : Nat) (args : List Value) (M : Mem) (H : Hp) (T : Value → Mem → Hp → Prop) : Prop :=
 ∀ w, Heap w M H → Calls P f args.toArray w fun e w' => ∃ v M' H', e = .returned v ∧ T v M' H' ∧ Heap w' M' H'
theorem K.mono {f : Nat} {args : List Value} {T T' : Value → Mem → Hp → Prop} (h : K P f args M H T) (ht : ∀ v M' H', T v M' H' → T' v M' H') : K P f args M H T' :=
 fun w hh => (h w hh).mono fun _ _ ⟨v, M', H', h1, h2, h3⟩ => ⟨v, M', H', h1, ht _ _ _ h2, h3⟩
theorem K.perm {f : Nat} {args : List Value} {T : Value → Mem → Hp → Prop} {H' : Hp} (hp : H.Perm H') (h : K P f args M H' T) : K P f args M H T :=
 fun w hh => h w (hh.perm hp)
def retPost (P : Program) (fn : Func) (T : Value → Mem → Hp → Prop) : Post := bodyPost P fn fun e w' => ∃ v M' H', e = .returned v ∧ T v M' H' ∧ Heap w' M' H'
def zipL : Nat → List Value → Sl
 | _, [] => []
 | i, v :: vs => (i, v) :: zipL (i + 1) vs
theorem lk_zipL (vs : List Value) : ∀ (i t : Nat) (v : Value), lk (zipL i vs) t = some v → i ≤ t ∧ vs[t - i]? = some v := by
 induction vs with
 | nil => intro i t v h; cases h
 | cons u vs ih =>
  intro i t v h
  rw [zipL, lk_cons] at h
  split at h
  ·rename_i e; subst e; cases h; simp
  ·obtain ⟨h1, h2⟩ := ih _ _ _ h
   refine ⟨by omega, ?_⟩
   have : t - i = (t - (i + 1)) + 1 := by omega
   rw [this, List.getElem?_cons_succ]; exact h2
theorem K.enter {f : Nat} {fn : Func} {c : Code} {args : List Value} {T : Value → Mem → Hp → Prop} (hf : P.funcs[f]? = some fn) (hb : fn.body = some c) (hn : fn.ntmps = n) (hle : Nat.ble args.length n = true)
  (h : C P none n c (retPost P fn T) [] (zipL 0 args) M H) : K P f args M H T := by
 intro w hh
 refine callsIn_wide.1 (callsIn_of_wp (n := 0) (F := F0 none) hf hb trivial (h _ w ⟨rfl, ?_, ?_⟩ hh) rfl)
 ·have := Nat.le_of_ble_eq_true hle
  simp [hn]; omega
 ·intro t v ht
  obtain ⟨_, h2⟩ := lk_zipL args 0 t v ht
  rw [Nat.sub_zero] at h2
  have hlt : t < args.length := (List.getElem?_eq_some_iff.1 h2).1
  have h3 := (List.getElem?_eq_some_iff.1 h2).2
  simp [Array.getD_eq_getD_getElem?, Array.getElem?_append, hlt, h3]
def resOf (a : Act) : ResultVar → Sem Value
 | .tmp t => pure (a.tmps.getD t undef)
 | .cell b t => do let ad ← asAddr (a.tmps.getD b undef); loadVar t ad
def Res (P : Program) (L : Sl) (M : Mem) (H : Hp) (rs : List ResultVar) (vs : List Value) : Prop :=
 ∀ n D a w, Fr n D L a → Heap w M H → (rs.mapM (resOf a)).run P w = .ok vs w
theorem Res.nil : Res P L M H [] [] := fun _ _ _ _ _ _ => rfl
theorem Res.cons_ {x : ResultVar} {v : Value} {rs : List ResultVar} {vs : List Value} (h : ∀ n D a w, Fr n D L a → Heap w M H → (resOf a x).run P w = .ok v w) (ht : Res P L M H rs vs) : Res P L M H (x :: rs) (v :: vs) := fun n D a w hf hh => by
 rw [List.mapM_cons, Sem.run_bind, h n D a w hf hh]
 simp only [Result.andThen]
 rw [Sem.run_bind, ht n D a w hf hh]
 rfl
theorem Res.cons {t : Tmp} {v : Value} {rs : List ResultVar} {vs : List Value} (h : lk L t = some v) (ht : Res P L M H rs vs) : Res P L M H (.tmp t :: rs) (v :: vs) :=
 Res.cons_ (fun n D a w hf _ => by simp only [resOf]; rw [hf.slot _ _ h]; rfl) ht
def retv : List Value → Value
 | [v] => v
 | vs => .tuple vs.toArray
theorem Fin.return_ {fn : Func} {rs : List ResultVar} {vs : List Value} {e : Exit} {T : Value → Mem → Hp → Prop} (he : e = .ret ∨ e = .normal) (hr : fn.results = rs.toArray) {H2 : Hp} (h : Res P L M H rs vs) (ha : ∀ w, Heap w M H → Heap w M H2) (ht : T (retv vs) M H2) :
  Fin n e (retPost P fn T) [] L M H := by
 intro a w hf hh
 have hrun : (results fn a.tmps).run P w = .ok (retv vs) w := by
  have h1 := h _ _ a w hf hh
  unfold results
  rw [hr, List.mapM_toArray, Sem.run_bind, Sem.run_map]
  have h2 := congrArg (fun z : Result (List Value) => (z.andThen fun a w' => Result.ok a.toArray w').andThen fun (a : Array Value) w' => Sem.run P (pure (if h : a.size = 1 then a[0] else Value.tuple a)) w') h1
  refine Eq.trans h2 ?_
  match vs with
  | [] => rfl
  | [v] => rfl
  | v :: u :: vs => simp [Result.andThen, retv]
 rcases he with rfl | rfl
 ·exact ⟨hf.defers, _, hrun, _, _, _, rfl, ht, ha w hh⟩
 ·exact ⟨hf.defers, _, hrun, _, _, _, rfl, ht, ha w hh⟩
def KOf (P : Program) (r : Option Nat) (n : Nat) (y : Code) (Q : Post) (Kn : Act → World → Prop) : Prop :=
 ∀ D L M H, C P r n y Q D L M H → ∀ a w, Fr n D L a → Heap w M H → Kn a w
theorem C.seqK {x y : Code} (h : ∀ Kn : Act → World → Prop, KOf P r n y Q Kn → C P r n x (Exit.then Kn Q) D L M H) : C P r n (.seq x y) Q D L M H :=
 C.seq (h _ fun _ _ _ _ hy a w hf hh => hy a w hf hh)
theorem Fin.thenK {y : Code} {Kn : Act → World → Prop} (hk : KOf P r n y Q Kn) (h : C P r n y Q D L M H) : Fin n .normal (Exit.then Kn Q) D L M H := fun a w hf hh => hk _ _ _ _ h a w hf hh
def RetOk (P : Program) (fn : Func) (T : Value → Mem → Hp → Prop) (Q : Post) : Prop :=
 ∀ (n : Nat) (L : Sl) (M : Mem) (H H2 : Hp) (rs : List ResultVar) (vs : List Value) (e : Exit), (e = .ret ∨ e = .normal) → fn.results = rs.toArray → Res P L M H rs vs → (∀ w, Heap w M H → Heap w M H2) → T (retv vs) M H2 → Fin n e Q [] L M H
def NoPanic (Q : Post) : Prop := ∀ c a w, ¬ Q (.panic c) a w
theorem NoPanic.then_ {Kn : Act → World → Prop} (h : NoPanic Q) : NoPanic (Exit.then Kn Q) := fun c a w hq => h c a w hq
theorem NoPanic.inBlock {id : Nat} (h : NoPanic Q) : NoPanic (Exit.inBlock id Q) := fun c a w hq => h c a w hq
theorem K.enterK {f : Nat} {fn : Func} {c : Code} {args : List Value} {T : Value → Mem → Hp → Prop} (hf : P.funcs[f]? = some fn) (hb : fn.body = some c) (hn : fn.ntmps = n) (hle : Nat.ble args.length n = true)
  (h : ∀ Q, NoPanic Q → RetOk P fn T Q → C P none n c Q [] (zipL 0 args) M H) : K P f args M H T :=
 K.enter hf hb hn hle (h _ (fun c a w hq => by obtain ⟨_, _, _, _, he, _⟩ := hq; cases he) fun _ _ _ _ _ _ _ _ he hr hres ha ht => Fin.return_ he hr hres ha ht)
theorem Fin.returnK {fn : Func} {T : Value → Mem → Hp → Prop} {rs : List ResultVar} {vs : List Value} {v : Value} {e : Exit} (hq : RetOk P fn T Q) (he : e = .ret ∨ e = .normal) (hr : fn.results = rs.toArray) (h : Res P L M H rs vs) (hv : retv vs = v) (ht : T v M H) : Fin n e Q [] L M H :=
 hq n L M H H rs vs e he hr h (fun _ hh => hh) (by rw [hv]; exact ht)
end Go.Sx
end
section
namespace Go.Sx
open Go.RowKit
class Und (P : Program) (t : TypeId) (d : outParam TypeDesc) : Prop where
 h : P.underlying t = some d
class Inf (P : Program) (t : TypeId) (size bytes : outParam Nat) (z : outParam Value) : Prop where
 h : ∃ i, P.info? t = some i ∧ i.size = size ∧ i.bytes = bytes ∧ i.zero = some z
class Fld (P : Program) (t : TypeId) (i : Nat) (off : outParam Nat) : Prop where
 h : ∀ b o w, (Instr.fieldAt t (.pointer (some ⟨b, o, none⟩)) i).run P w = .ok (.pointer (some ⟨b, o + off, none⟩)) w
class Ent (P : Program) (f : FuncId) : Prop where
 h : ∀ args w, (callFunc f args).run P w = .ok (.enter f args) w
class Mix (P : Program) : Prop where
 h : P.follows .mixedOrders = true
variable {P : Program} {r : Option Nat} {n : Nat} {D : List Deferred} {L L' : Sl} {M : Mem} {H : Hp} {Q : Post}
def Ok (P : Program) (o : Oper) (L : Sl) (M : Mem) (H : Hp) (v : Value) : Prop :=
 ∀ n D a w, Fr n D L a → Heap w M H → (execOp a.eval o).run P w = .ok (.value v) w
theorem not_defer {o : Oper} {a : Act} {w w' : World} {v : Value} (h : (execOp a.eval o).run P w = .ok (.value v) w') : ∀ c, o.op ≠ .defer c := by
 intro c hc
 unfold execOp at h
 rw [hc] at h
 simp only [Sem.run_bind] at h
 cases hr : (resolve a.eval c o.type).run P w with
 | ok d w1 => rw [hr] at h; simp [Result.andThen] at h
 | halt x w1 => rw [hr] at h; simp [Result.andThen] at h
theorem semAt_eq {o : Oper} {a : Act} (r : Option Nat) (h : ∀ c, o.op ≠ .defer c) : o.semAt r a.eval = execOp a.eval o := by
 cases r with
 | none => exact congrFun (congrFun (by funext ρ o; cases o.op <;> rfl) _) _
 | some l => exact Oper.semAt_some l _ _ h
theorem R.step {dr : Bool} {d : Option Tmp} {op : Op} {ty : TypeId} {pos : String} {af : Array Edge} {v : Value} {ops : Array Oper} {rest : List Oper}
  (hok : Ok P ⟨d, op, ty, pos, af, none⟩ L M H v) (hd : dok n d = true) (k : R dr P r n ops rest Q D (bnd d v L) M H) : R dr P r n ops (⟨d, op, ty, pos, af, none⟩ :: rest) Q D L M H := by
 cases dr with
 | false =>
  intro a w hf hh
  have he := hok n D a w hf hh
  refine wpListIn_plain rfl fun Kn hK => ⟨fun f _ => F0_fn _ f, ?_⟩
  rw [semAt_eq _ (not_defer he), he]
  exact hK _ _ (k _ w (hf.put d hd v) hh)
 | true =>
  intro a hf
  refine ⟨fun w _ f _ => F0_fn _ f, ?_⟩
  rw [if_pos (by simp [Region.wanted])]
  refine ⟨v, fun w hh => ?_, k _ (hf.put d hd v)⟩
  unfold Oper.quietAtIn
  rw [hok n D a w hf hh]
  exact ⟨rfl, rfl⟩
theorem R.nil {dr : Bool} {ops : Array Oper} (h : Fin n .normal Q D L M H) : R dr P r n ops [] Q D L M H := by
 cases dr with
 | false => exact fun a w hf hh => h a w hf hh
 | true => exact fun a hf w hh => h a w hf hh
theorem R.weak {dr : Bool} {ops : Array Oper} {rest : List Oper} (hs : sub L' L) (h : R dr P r n ops rest Q D L' M H) : R dr P r n ops rest Q D L M H := by
 cases dr with
 | false => exact fun a w hf hh => h a w (hf.weak hs) hh
 | true => exact fun a hf => h a (hf.weak hs)
theorem R.perm {H' : Hp} {ops : Array Oper} {rest : List Oper} (hp : H.Perm H') (h : R false P r n ops rest Q D L M H') : R false P r n ops rest Q D L M H := fun a w hf hh => h a w hf (hh.perm hp)
theorem R.drop {x : Nat × Obj} {ops : Array Oper} {rest : List Oper} (h : R false P r n ops rest Q D L M H) : R false P r n ops rest Q D L M (x :: H) := fun a w hf hh => h a w hf hh.tail
theorem R.freeze {b : Nat} {o : Obj} {ops : Array Oper} {rest : List Oper} (h : M.at_ b = none → R false P r n ops rest Q D L (M.put b o) H) : R false P r n ops rest Q D L M ((b, o) :: H) := fun a w hf hh => h hh.pool_ne a w hf hh.freeze
def OpsOf (ds : List (Option Tmp)) (ops : Array Oper) : Prop := ∀ (j : Nat) (d : Tmp), ds[j]? = some (some d) → (ops[j]?).bind (fun o : Oper => o.dst) = some d
theorem OpsOf.self (l : List Oper) : OpsOf (l.map (·.dst)) l.toArray := by
 intro j d h
 rw [List.getElem?_map] at h
 rw [List.getElem?_toArray]
 cases hl : l[j]? with
 | none => rw [hl] at h; cases h
 | some o => rw [hl] at h; simpa using h
theorem C.regionK {id : Nat} {l : List Oper} (h : ∀ ops, OpsOf (l.map (·.dst)) ops → R false P r n ops l Q D L M H) : C P r n (.region id l.toArray false) Q D L M H := C.region (h _ (OpsOf.self l))
theorem C.regionQK {id : Nat} {l : List Oper} (hm : P.follows .mixedOrders = true) (hB : Region.lexB .any l.toArray = true) (h : ∀ ops, OpsOf (l.map (·.dst)) ops → R true P none n ops l Q D L M H) : C P none n (.region id l.toArray true) Q D L M H := C.regionQ hm hB (h _ (OpsOf.self l))
theorem wanted_guard {a : Act} {ops : Array Oper} {d : Option Tmp} {op : Op} {ty : TypeId} {pos : String} {af : Array Edge} {j : Nat} {want b : Bool} {ds : List (Option Tmp)} {dj : Tmp}
  (hf : Fr n D L a) (ho : OpsOf ds ops) (hdj : ds[j]? = some (some dj)) (hb : lk L dj = some (.bool b)) (hlt : Nat.ble (dj + 1) n = true) :
  Region.wanted ⟨d, op, ty, pos, af, some (j, want)⟩ (yielded ops a.tmps) = (b == want) := by
 have h1 := hf.slot _ _ hb
 have hlt' : dj < a.tmps.size := by rw [hf.size]; exact Nat.lt_of_succ_le (Nat.le_of_ble_eq_true hlt)
 have h2 : a.tmps[dj]? = some (.bool b) := by
  rw [Array.getElem?_eq_getElem hlt']
  rw [← h1]; simp [Array.getD, hlt']
 simp only [Region.wanted, yielded, ho j dj hdj, Option.bind_some, h2]
 cases b <;> cases want <;> rfl
theorem R.guardT {dr : Bool} {d : Option Tmp} {op : Op} {ty : TypeId} {pos : String} {af : Array Edge} {j : Nat} {want : Bool} {ds : List (Option Tmp)} {dj : Tmp} {ops : Array Oper} {rest : List Oper}
  (ho : OpsOf ds ops) (hdj : ds[j]? = some (some dj)) (hb : lk L dj = some (.bool want)) (hlt : Nat.ble (dj + 1) n = true)
  (k : R dr P r n ops (⟨d, op, ty, pos, af, none⟩ :: rest) Q D L M H) : R dr P r n ops (⟨d, op, ty, pos, af, some (j, want)⟩ :: rest) Q D L M H := by
 cases dr with
 | false =>
  intro a w hf hh
  have hw := wanted_guard (d := d) (op := op) (ty := ty) (pos := pos) (af := af) (want := want) hf ho hdj hb hlt
  have hk := k a w hf hh
  unfold wpListIn at hk ⊢
  rw [hw, if_pos (by simp)]
  rw [if_pos (by simp [Region.wanted])] at hk
  exact hk
 | true =>
  intro a hf
  have hw := wanted_guard (d := d) (op := op) (ty := ty) (pos := pos) (af := af) (want := want) hf ho hdj hb hlt
  have hk := k a hf
  unfold wpQuietIn at hk ⊢
  rw [hw, if_pos (by simp)]
  rw [if_pos (by simp [Region.wanted])] at hk
  exact hk
theorem R.guardF {dr : Bool} {d : Option Tmp} {op : Op} {ty : TypeId} {pos : String} {af : Array Edge} {j : Nat} {want b : Bool} {ds : List (Option Tmp)} {dj : Tmp} {ops : Array Oper} {rest : List Oper}
  (ho : OpsOf ds ops) (hdj : ds[j]? = some (some dj)) (hb : lk L dj = some (.bool b)) (hlt : Nat.ble (dj + 1) n = true) (hne : (b == want) = false) (hd : dok n d = true)
  (k : R dr P r n ops rest Q D (bnd d undef L) M H) : R dr P r n ops (⟨d, op, ty, pos, af, some (j, want)⟩ :: rest) Q D L M H := by
 cases dr with
 | false =>
  intro a w hf hh
  have hw := wanted_guard (d := d) (op := op) (ty := ty) (pos := pos) (af := af) (want := want) hf ho hdj hb hlt
  unfold wpListIn
  rw [hw, hne]
  exact ⟨fun f _ => F0_fn _ f, k _ w (hf.put d hd undef) hh⟩
 | true =>
  intro a hf
  have hw := wanted_guard (d := d) (op := op) (ty := ty) (pos := pos) (af := af) (want := want) hf ho hdj hb hlt
  unfold wpQuietIn
  rw [hw, hne]
  exact ⟨fun w _ f _ => F0_fn _ f, k _ (hf.put d hd undef)⟩
theorem R.case {dr : Bool} {ops : Array Oper} {rest : List Oper} (s : Tmp) {b : Bool} (hb : lk L s = some (.bool b))
  (h1 : b = true → R dr P r n ops rest Q D ((s, .bool true) :: L) M H) (h2 : b = false → R dr P r n ops rest Q D ((s, .bool false) :: L) M H) : R dr P r n ops rest Q D L M H := by
 have hs : ∀ c, b = c → sub ((s, .bool c) :: L) L := by
  intro c hc t v ht
  rw [lk_cons] at ht
  split at ht
  ·rename_i e; subst e; cases ht; rw [hb, hc]
  ·exact ht
 cases b with
 | true => exact R.weak (hs _ rfl) (h1 rfl)
 | false => exact R.weak (hs _ rfl) (h2 rfl)
theorem R.guardC {dr : Bool} {d : Option Tmp} {op : Op} {ty : TypeId} {pos : String} {af : Array Edge} {j : Nat} {want b : Bool} {ds : List (Option Tmp)} {dj : Tmp} {ops : Array Oper} {rest : List Oper}
  (ho : OpsOf ds ops) (hdj : ds[j]? = some (some dj)) (hb : lk L dj = some (.bool b))
  (h1 : b = true → R dr P r n ops (⟨d, op, ty, pos, af, some (j, want)⟩ :: rest) Q D ((dj, .bool true) :: L) M H)
  (h2 : b = false → R dr P r n ops (⟨d, op, ty, pos, af, some (j, want)⟩ :: rest) Q D ((dj, .bool false) :: L) M H) : R dr P r n ops (⟨d, op, ty, pos, af, some (j, want)⟩ :: rest) Q D L M H :=
 let _ := ho; let _ := hdj
 R.case dj hb h1 h2
section
variable {dr : Bool} {d : Option Tmp} {op : Op} {ty : TypeId} {pos : String} {af : Array Edge} {j : Nat} {want : Bool} {ds : List (Option Tmp)} {dj : Tmp} {ops : Array Oper} {rest : List Oper}
theorem R.guardDec {p : Prop} {_ : Decidable p} (ho : OpsOf ds ops) (hdj : ds[j]? = some (some dj)) (hb : lk L dj = some (.bool (decide p)))
  (h1 : p → R dr P r n ops (⟨d, op, ty, pos, af, some (j, want)⟩ :: rest) Q D ((dj, .bool true) :: L) M H)
  (h2 : ¬ p → R dr P r n ops (⟨d, op, ty, pos, af, some (j, want)⟩ :: rest) Q D ((dj, .bool false) :: L) M H) : R dr P r n ops (⟨d, op, ty, pos, af, some (j, want)⟩ :: rest) Q D L M H :=
 R.guardC ho hdj hb (fun h => h1 (of_decide_eq_true h)) (fun h => h2 (of_decide_eq_false h))
theorem R.guardNDec {p : Prop} {_ : Decidable p} (ho : OpsOf ds ops) (hdj : ds[j]? = some (some dj)) (hb : lk L dj = some (.bool (!decide p)))
  (h1 : ¬ p → R dr P r n ops (⟨d, op, ty, pos, af, some (j, want)⟩ :: rest) Q D ((dj, .bool true) :: L) M H)
  (h2 : p → R dr P r n ops (⟨d, op, ty, pos, af, some (j, want)⟩ :: rest) Q D ((dj, .bool false) :: L) M H) : R dr P r n ops (⟨d, op, ty, pos, af, some (j, want)⟩ :: rest) Q D L M H :=
 R.guardC ho hdj hb (fun h => h1 (by simpa using h)) (fun h => h2 (by simpa using h))
theorem R.guardBeq {p q : Int} (ho : OpsOf ds ops) (hdj : ds[j]? = some (some dj)) (hb : lk L dj = some (.bool (p == q)))
  (h1 : p = q → R dr P r n ops (⟨d, op, ty, pos, af, some (j, want)⟩ :: rest) Q D ((dj, .bool true) :: L) M H)
  (h2 : p ≠ q → R dr P r n ops (⟨d, op, ty, pos, af, some (j, want)⟩ :: rest) Q D ((dj, .bool false) :: L) M H) : R dr P r n ops (⟨d, op, ty, pos, af, some (j, want)⟩ :: rest) Q D L M H :=
 R.guardC ho hdj hb (fun h => h1 (by simpa using h)) (fun h => h2 (by simpa using h))
theorem R.guardBne {p q : Int} (ho : OpsOf ds ops) (hdj : ds[j]? = some (some dj)) (hb : lk L dj = some (.bool (p != q)))
  (h1 : p ≠ q → R dr P r n ops (⟨d, op, ty, pos, af, some (j, want)⟩ :: rest) Q D ((dj, .bool true) :: L) M H)
  (h2 : p = q → R dr P r n ops (⟨d, op, ty, pos, af, some (j, want)⟩ :: rest) Q D ((dj, .bool false) :: L) M H) : R dr P r n ops (⟨d, op, ty, pos, af, some (j, want)⟩ :: rest) Q D L M H :=
 R.guardC ho hdj hb (fun h => h1 (by simpa using h)) (fun h => h2 (by simpa using h))
theorem R.guardNot {t : Bool} (ho : OpsOf ds ops) (hdj : ds[j]? = some (some dj)) (hb : lk L dj = some (.bool (!t)))
  (h1 : t = false → R dr P r n ops (⟨d, op, ty, pos, af, some (j, want)⟩ :: rest) Q D ((dj, .bool true) :: L) M H)
  (h2 : t = true → R dr P r n ops (⟨d, op, ty, pos, af, some (j, want)⟩ :: rest) Q D ((dj, .bool false) :: L) M H) : R dr P r n ops (⟨d, op, ty, pos, af, some (j, want)⟩ :: rest) Q D L M H :=
 R.guardC ho hdj hb (fun h => h1 (by simpa using h)) (fun h => h2 (by simpa using h))
end
section ok
variable {d : Option Tmp} {ty : TypeId} {pos : String} {af : Array Edge} {g : Option (Nat × Bool)}
theorem Ok.move {x : Operand} {v : Value} (hx : ev L x = some v) : Ok P ⟨d, .move x, ty, pos, af, g⟩ L M H v := fun n D a w hf _ => by
 simp [execOp, hf.ev hx]
theorem Ok.assign {x : Operand} {v : Value} (hx : ev L x = some v) : Ok P ⟨d, .assign x, ty, pos, af, g⟩ L M H v := fun n D a w hf _ => by
 simp [execOp, hf.ev hx]
theorem Ok.pick {c x y : Operand} {b : Bool} {v u : Value} (hc : ev L c = some (.bool b)) (hx : ev L x = some v) (hy : ev L y = some u) : Ok P ⟨d, .pick c x y, ty, pos, af, g⟩ L M H (if b then v else u) := fun n D a w hf _ => by
 simp [execOp, hf.ev hc, hf.ev hx, hf.ev hy, asBool]
theorem Ok.pickT {c x y : Operand} {v : Value} (hc : ev L c = some (.bool true)) (hx : ev L x = some v) : Ok P ⟨d, .pick c x y, ty, pos, af, g⟩ L M H v := fun n D a w hf _ => by
 simp [execOp, hf.ev hc, hf.ev hx, asBool]
theorem Ok.pickF {c x y : Operand} {v : Value} (hc : ev L c = some (.bool false)) (hy : ev L y = some v) : Ok P ⟨d, .pick c x y, ty, pos, af, g⟩ L M H v := fun n D a w hf _ => by
 simp [execOp, hf.ev hc, hf.ev hy, asBool]
theorem Ok.extract {x : Operand} {i : Nat} {vs : List Value} {v : Value} (hx : ev L x = some (.tuple vs.toArray)) (hi : vs[i]? = some v) : Ok P ⟨d, .extract x i, ty, pos, af, g⟩ L M H v := fun n D a w hf _ => by
 simp [execOp, hf.ev hx, Instr.extract, hi]
theorem Ok.nilCheck {x : Operand} {ad : Addr} (hx : ev L x = some (.pointer (some ad))) : Ok P ⟨d, .nilCheck x, ty, pos, af, g⟩ L M H (.pointer (some ad)) := fun n D a w hf _ => by
 simp [execOp, hf.ev hx]
theorem Ok.nilCheckF {x : Operand} {f : Nat} {xa bs : Array Value} (hx : ev L x = some (.func (.func f) xa bs)) : Ok P ⟨d, .nilCheck x, ty, pos, af, g⟩ L M H (.func (.func f) xa bs) := fun n D a w hf _ => by
 simp [execOp, hf.ev hx]
theorem Ok.fieldAddr {t i off b o : Nat} {x : Operand} [hF : Fld P t i off] (hx : ev L x = some (.pointer (some ⟨b, o, none⟩))) : Ok P ⟨d, .fieldAddr t x i, ty, pos, af, g⟩ L M H (.pointer (some ⟨b, o + off, none⟩)) := fun n D a w hf _ => by
 simp only [execOp, hf.ev hx, Sem.run_bind, hF.h]
 rfl
theorem Ok.not {x : Operand} {t : TypeId} {b : Bool} (hx : ev L x = some (.bool b)) : Ok P ⟨d, .unOp .not t x, ty, pos, af, g⟩ L M H (.bool (!b)) := fun n D a w hf _ => by
 simp [execOp, hf.ev hx, Op.unary]
theorem Ok.xorU {x : Operand} {t : TypeId} {k : IntKind} {z : Int} (hx : ev L x = some (.int k z)) : Ok P ⟨d, .unOp .xor t x, ty, pos, af, g⟩ L M H (.int k (k.wrap (BitVec.ofInt k.bits (if k.signed then -1 else k.max) ^^^ BitVec.ofInt k.bits z).toNat)) := fun n D a w hf _ => by
 simp [execOp, hf.ev hx, Op.unary, Op.intBits]
theorem eqGuard_int (op : BinOp) (t : TypeId) (x y : Operand) (k k' : IntKind) (p q : Int) (w : World) : (eqGuard op t x y (.int k p) (.int k' q)).run P w = .ok () w := by
 cases op <;> simp [eqGuard]
theorem Ok.bin {op : BinOp} {t t' : TypeId} {x y : Operand} {vx vy v : Value} (hx : ev L x = some vx) (hy : ev L y = some vy) (hg : ∀ w, (eqGuard op t x y vx vy).run P w = .ok () w) (hr : ∀ w, (binOp op t vx vy).run P w = .ok v w) :
  Ok P ⟨d, .binOp op t x y t', ty, pos, af, g⟩ L M H v := fun n D a w hf _ => by
 simp [execOp, hf.ev hx, hf.ev hy, hg, hr]
section int
variable {t t' : TypeId} {x y : Operand} {k : IntKind} {p q : Int} (hx : ev L x = some (.int k p)) (hy : ev L y = some (.int k q))
include hx hy
theorem Ok.add : Ok P ⟨d, .binOp .add t x y t', ty, pos, af, g⟩ L M H (.int k (k.wrap (p + q))) := Ok.bin hx hy (eqGuard_int _ _ _ _ _ _ _ _) fun w => by simp [binOp, Op.intArith]
theorem Ok.sub : Ok P ⟨d, .binOp .sub t x y t', ty, pos, af, g⟩ L M H (.int k (k.wrap (p - q))) := Ok.bin hx hy (eqGuard_int _ _ _ _ _ _ _ _) fun w => by simp [binOp, Op.intArith]
theorem Ok.mul : Ok P ⟨d, .binOp .mul t x y t', ty, pos, af, g⟩ L M H (.int k (k.wrap (p * q))) := Ok.bin hx hy (eqGuard_int _ _ _ _ _ _ _ _) fun w => by simp [binOp, Op.intArith]
theorem Ok.addB (h : k.wrap (p + q) = p + q) : Ok P ⟨d, .binOp .add t x y t', ty, pos, af, g⟩ L M H (.int k (p + q)) := by have := Ok.add (P := P) (d := d) (t := t) (t' := t') (ty := ty) (pos := pos) (af := af) (g := g) (M := M) (H := H) hx hy; rwa [h] at this
theorem Ok.subB (h : k.wrap (p - q) = p - q) : Ok P ⟨d, .binOp .sub t x y t', ty, pos, af, g⟩ L M H (.int k (p - q)) := by have := Ok.sub (P := P) (d := d) (t := t) (t' := t') (ty := ty) (pos := pos) (af := af) (g := g) (M := M) (H := H) hx hy; rwa [h] at this
theorem Ok.mulB (h : k.wrap (p * q) = p * q) : Ok P ⟨d, .binOp .mul t x y t', ty, pos, af, g⟩ L M H (.int k (p * q)) := by have := Ok.mul (P := P) (d := d) (t := t) (t' := t') (ty := ty) (pos := pos) (af := af) (g := g) (M := M) (H := H) hx hy; rwa [h] at this
theorem Ok.quo (hq : q ≠ 0) : Ok P ⟨d, .binOp .quo t x y t', ty, pos, af, g⟩ L M H (.int k (k.wrap (p.tdiv q))) := Ok.bin hx hy (eqGuard_int _ _ _ _ _ _ _ _) fun w => by simp [binOp, Op.intDiv, hq]
theorem Ok.rem (hq : q ≠ 0) : Ok P ⟨d, .binOp .rem t x y t', ty, pos, af, g⟩ L M H (.int k (p.tmod q)) := Ok.bin hx hy (eqGuard_int _ _ _ _ _ _ _ _) fun w => by simp [binOp, Op.intDiv, hq]
theorem Ok.and : Ok P ⟨d, .binOp .and t x y t', ty, pos, af, g⟩ L M H (.int k (k.wrap (BitVec.ofInt k.bits p &&& BitVec.ofInt k.bits q).toNat)) := Ok.bin hx hy (eqGuard_int _ _ _ _ _ _ _ _) fun w => by simp [binOp, Op.intBits]
theorem Ok.or : Ok P ⟨d, .binOp .or t x y t', ty, pos, af, g⟩ L M H (.int k (k.wrap (BitVec.ofInt k.bits p ||| BitVec.ofInt k.bits q).toNat)) := Ok.bin hx hy (eqGuard_int _ _ _ _ _ _ _ _) fun w => by simp [binOp, Op.intBits]
theorem Ok.xor : Ok P ⟨d, .binOp .xor t x y t', ty, pos, af, g⟩ L M H (.int k (k.wrap (BitVec.ofInt k.bits p ^^^ BitVec.ofInt k.bits q).toNat)) := Ok.bin hx hy (eqGuard_int _ _ _ _ _ _ _ _) fun w => by simp [binOp, Op.intBits]
theorem Ok.eqI : Ok P ⟨d, .binOp .eql t x y t', ty, pos, af, g⟩ L M H (.bool (p == q)) := Ok.bin hx hy (eqGuard_int _ _ _ _ _ _ _ _) fun w => by simp [binOp, Op.intCmp]
theorem Ok.neI : Ok P ⟨d, .binOp .neq t x y t', ty, pos, af, g⟩ L M H (.bool (p != q)) := Ok.bin hx hy (eqGuard_int _ _ _ _ _ _ _ _) fun w => by simp [binOp, Op.intCmp]
theorem Ok.lt : Ok P ⟨d, .binOp .lss t x y t', ty, pos, af, g⟩ L M H (.bool (p < q)) := Ok.bin hx hy (eqGuard_int _ _ _ _ _ _ _ _) fun w => by simp [binOp, Op.intCmp]
theorem Ok.le : Ok P ⟨d, .binOp .leq t x y t', ty, pos, af, g⟩ L M H (.bool (p ≤ q)) := Ok.bin hx hy (eqGuard_int _ _ _ _ _ _ _ _) fun w => by simp [binOp, Op.intCmp]
theorem Ok.gt : Ok P ⟨d, .binOp .gtr t x y t', ty, pos, af, g⟩ L M H (.bool (q < p)) := Ok.bin hx hy (eqGuard_int _ _ _ _ _ _ _ _) fun w => by simp [binOp, Op.intCmp]
theorem Ok.ge : Ok P ⟨d, .binOp .geq t x y t', ty, pos, af, g⟩ L M H (.bool (q ≤ p)) := Ok.bin hx hy (eqGuard_int _ _ _ _ _ _ _ _) fun w => by simp [binOp, Op.intCmp]
end int
theorem Ok.shl {t t' : TypeId} {x y : Operand} {k k' : IntKind} {p q : Int} (hx : ev L x = some (.int k p)) (hy : ev L y = some (.int k' q)) (hq : 0 ≤ q) : Ok P ⟨d, .binOp .shl t x y t', ty, pos, af, g⟩ L M H (.int k (k.wrap (p * 2 ^ (min q.toNat k.bits)))) :=
 Ok.bin hx hy (eqGuard_int _ _ _ _ _ _ _ _) fun w => by simp [binOp, Op.shift, Int.not_lt.2 hq]
theorem Ok.shr {t t' : TypeId} {x y : Operand} {k k' : IntKind} {p q : Int} (hx : ev L x = some (.int k p)) (hy : ev L y = some (.int k' q)) (hq : 0 ≤ q) : Ok P ⟨d, .binOp .shr t x y t', ty, pos, af, g⟩ L M H (.int k (p.fdiv (2 ^ (min q.toNat k.bits)))) :=
 Ok.bin hx hy (eqGuard_int _ _ _ _ _ _ _ _) fun w => by simp [binOp, Op.shift, Int.not_lt.2 hq]
theorem Ok.conv {x : Operand} {s t : TypeId} {k k' : IntKind} {p : Int} {ds : TypeDesc} [hs : Und P s ds] [ht : Und P t (.int k')] (hx : ev L x = some (.int k p)) : Ok P ⟨d, .convert s t x, ty, pos, af, g⟩ L M H (.int k' (k'.wrap p)) := fun n D a w hf _ => by
 have h1 : ∀ w, (underlying s).run P w = .ok ds w := fun w => run_underlying hs.h w
 have h2 : ∀ w, (underlying t).run P w = .ok (.int k') w := fun w => run_underlying ht.h w
 simp [execOp, hf.ev hx, convert, h1, h2, Conv.intToInt]
theorem Ok.convB {x : Operand} {s t : TypeId} {k k' : IntKind} {p : Int} {ds : TypeDesc} [hs : Und P s ds] [ht : Und P t (.int k')] (hx : ev L x = some (.int k p)) (h : k'.wrap p = p) : Ok P ⟨d, .convert s t x, ty, pos, af, g⟩ L M H (.int k' p) := by
 have := Ok.conv (P := P) (d := d) (ty := ty) (pos := pos) (af := af) (g := g) (M := M) (H := H) (s := s) (t := t) (k' := k') hx
 rwa [h] at this
theorem Ok.len {t : TypeId} {x : Operand} {A : Option Addr} {m c : Nat} {e : TypeId} [hs : Und P t (.slice e)] (hx : ev L x = some (.slice A m c)) : Ok P ⟨d, .call ⟨.builtin .len, #[x], #[t]⟩, ty, pos, af, g⟩ L M H (.int .i64 m) := fun n D a w hf _ => by
 simp [execOp, resolve, hf.ev hx, invoke, builtin, Builtin.len_, run_underlying hs.h, goInt]
theorem Ok.lenS {t : TypeId} {x : Operand} {s : ByteArray} [hs : Und P t .string] (hx : ev L x = some (.string s)) : Ok P ⟨d, .call ⟨.builtin .len, #[x], #[t]⟩, ty, pos, af, g⟩ L M H (.int .i64 s.size) := fun n D a w hf _ => by
 simp [execOp, resolve, hf.ev hx, invoke, builtin, Builtin.len_, run_underlying hs.h, goInt]
theorem Ok.minI {x y : Operand} {ts : Array TypeId} {k : IntKind} {p q : Int} (hx : ev L x = some (.int k p)) (hy : ev L y = some (.int k q)) : Ok P ⟨d, .call ⟨.builtin .min, #[x, y], ts⟩, ty, pos, af, g⟩ L M H (.int k (min p q)) := fun n D a w hf _ => by
 have : (if q < p then q else p) = min p q := by omega
 simp [execOp, resolve, hf.ev hx, hf.ev hy, invoke, builtin, Builtin.min_, Builtin.min2, this]
theorem Ok.maxI {x y : Operand} {ts : Array TypeId} {k : IntKind} {p q : Int} (hx : ev L x = some (.int k p)) (hy : ev L y = some (.int k q)) : Ok P ⟨d, .call ⟨.builtin .max, #[x, y], ts⟩, ty, pos, af, g⟩ L M H (.int k (max p q)) := fun n D a w hf _ => by
 have : (if q > p then q else p) = max p q := by omega
 simp [execOp, resolve, hf.ev hx, hf.ev hy, invoke, builtin, Builtin.max_, Builtin.max2, this]
def adv (A : Option Addr) (l size cap : Nat) : Option Addr := if cap = l then A else A.map (·.add (l * size))
theorem adv_some (b o l size cap : Nat) (h : l < cap) : adv (some ⟨b, o, none⟩) l size cap = some ⟨b, o + l * size, none⟩ := by
 unfold adv
 rw [if_neg (by omega)]
 simp [Addr.add_lit]
theorem bound_run (k : IntKind) (i : Int) (y : Nat) (c : BoundsCode) (h0 : 0 ≤ i) (h1 : i ≤ y) (w : World) : (Instr.sliceBound (.int k i) y c).run P w = .ok i.toNat w := by
 simp [Instr.sliceBound, asIntOf, h0, h1]
theorem Ok.sliceLo {t e sz by_ : Nat} {z : Value} {x lo : Operand} {A : Option Addr} {m c : Nat} {k : IntKind} {i : Int} [hs : Und P t (.slice e)] [hi : Inf P e sz by_ z] (hx : ev L x = some (.slice A m c)) (hlo : ev L lo = some (.int k i)) (h0 : 0 ≤ i) (h1 : i ≤ m) :
  Ok P ⟨d, .slice t x (some lo) none none, ty, pos, af, g⟩ L M H (.slice (adv A i.toNat sz c) (m - i.toNat) (c - i.toNat)) := fun n D a w hf _ => by
 obtain ⟨inf, g1, g2, _, _⟩ := hi.h
 simp [execOp, Instr.sliceAt, Instr.slice, Instr.sliceBounds, run_underlying hs.h, hf.ev hx, hf.ev hlo, bound_run _ _ _ _ h0 h1, sizeOf, typeInfo, g1, g2, adv]
theorem Ok.sliceHi {t e sz by_ : Nat} {z : Value} {x hi : Operand} {A : Option Addr} {m c : Nat} {k : IntKind} {i : Int} [hs : Und P t (.slice e)] [hi_ : Inf P e sz by_ z] (hx : ev L x = some (.slice A m c)) (hhi : ev L hi = some (.int k i)) (h0 : 0 ≤ i) (h1 : i ≤ c) :
  Ok P ⟨d, .slice t x none (some hi) none, ty, pos, af, g⟩ L M H (.slice A i.toNat c) := fun n D a w hf _ => by
 obtain ⟨inf, g1, _, _, _⟩ := hi_.h
 have : A.map (fun x => x.add 0) = A := by cases A <;> simp [Addr.add]
 simp [execOp, Instr.sliceAt, Instr.slice, Instr.sliceBounds, run_underlying hs.h, hf.ev hx, hf.ev hhi, bound_run _ _ _ _ h0 h1, sizeOf, typeInfo, g1, this]
theorem Ok.sliceLoHi {t e sz by_ : Nat} {z : Value} {x lo hi : Operand} {A : Option Addr} {m c : Nat} {k k' : IntKind} {i j : Int} [hs : Und P t (.slice e)] [hi_ : Inf P e sz by_ z] (hx : ev L x = some (.slice A m c)) (hlo : ev L lo = some (.int k i)) (hhi : ev L hi = some (.int k' j)) (h0 : 0 ≤ i) (h1 : i ≤ j) (h2 : j ≤ c) :
  Ok P ⟨d, .slice t x (some lo) (some hi) none, ty, pos, af, g⟩ L M H (.slice (adv A i.toNat sz c) (j.toNat - i.toNat) (c - i.toNat)) := fun n D a w hf _ => by
 obtain ⟨inf, g1, g2, _, _⟩ := hi_.h
 have h3 : i ≤ (j.toNat : Nat) := by omega
 simp [execOp, Instr.sliceAt, Instr.slice, Instr.sliceBounds, run_underlying hs.h, hf.ev hx, hf.ev hlo, hf.ev hhi, bound_run _ _ _ _ h0 h3, bound_run _ _ _ _ (Int.le_trans h0 h1) h2, sizeOf, typeInfo, g1, g2, adv]
theorem Ok.indexAddr {t e sz by_ b o m c : Nat} {z : Value} {x ix : Operand} {k : IntKind} {i : Int} [hs : Und P t (.slice e)] [hi : Inf P e sz by_ z] (hx : ev L x = some (.slice (some ⟨b, o, none⟩) m c)) (hix : ev L ix = some (.int k i)) (h0 : 0 ≤ i) (h1 : i < m) :
  Ok P ⟨d, .indexAddr t x ix, ty, pos, af, g⟩ L M H (.pointer (some ⟨b, o + i.toNat * sz, none⟩)) := fun n D a w hf _ => by
 obtain ⟨inf, g1, g2, _, _⟩ := hi.h
 simp [execOp, Instr.indexAt, asIntOf, run_underlying hs.h, hf.ev hx, hf.ev hix, h0, h1, sizeOf, typeInfo, g1, g2, Addr.add_lit]
def aggD : TypeDesc → Bool
 | .struct _ | .array _ _ => true
 | _ => false
theorem run_isAgg {t : TypeId} {ds : TypeDesc} (h : P.underlying t = some ds) (w : World) : (isAgg t).run P w = .ok (aggD ds) w := by
 unfold isAgg
 rw [Sem.run_bind, run_underlying h]
 cases ds <;> rfl
theorem Ok.loadCell {t : TypeId} {ds : TypeDesc} {x : Operand} {b o : Nat} {c : Array Value} {e : TypeId} {fr : Nat × Nat} {v : Value} [hs : Und P t ds] (hx : ev L x = some (.pointer (some ⟨b, o, none⟩))) (hag : aggD ds = false)
  (hb : ∀ w, Heap w M H → w.heap[b]? = some (.cells c e fr)) (hc : c[o]? = some v) : Ok P ⟨d, .load t x, ty, pos, af, g⟩ L M H v := fun n D a w hf hh => by
 have hcell : w.cell? ⟨b, o, none⟩ = some v := by simp [World.cell?, hb w hh, hc]
 simp only [execOp, hf.ev hx, Instr.loadAt, Instr.sureAddr, Sem.run_bind, Sem.run_pure, Result.andThen, loadVar, run_isAgg hs.h, hag]
 simp [load, Sem.run, hcell]
theorem Ok.load {t : TypeId} {ds : TypeDesc} {x : Operand} {b o : Nat} {l : List Value} {e : TypeId} {fr : Nat × Nat} {v : Value} {f : Obj → Hp} [hs : Und P t ds] (hx : ev L x = some (.pointer (some ⟨b, o, none⟩))) (hag : aggD ds = false)
  (hb : At H b (.cells l.toArray e fr) f) (hc : l[o]? = some v) : Ok P ⟨d, .load t x, ty, pos, af, g⟩ L M H v :=
 Ok.loadCell hx hag (fun _ hh => hh.own _ hb.mem) (by simpa using hc)
theorem Ok.loadP {t : TypeId} {ds : TypeDesc} {x : Operand} {b o : Nat} {c : Array Value} {e : TypeId} {fr : Nat × Nat} {v : Value} [hs : Und P t ds] (hx : ev L x = some (.pointer (some ⟨b, o, none⟩))) (hag : aggD ds = false)
  (hb : M.at_ b = some (.cells c e fr)) (hc : c[o]? = some v) : Ok P ⟨d, .load t x, ty, pos, af, g⟩ L M H v :=
 Ok.loadCell hx hag (fun _ hh => hh.pool _ _ hb) hc
inductive Sub : List Value → Nat → Nat → List Value → Prop
 | nil (l : List Value) : Sub l 0 0 []
 | cons {l vs : List Value} {k : Nat} (x : Value) (h : Sub l 0 k vs) : Sub (x :: l) 0 (k + 1) (x :: vs)
 | skip {l vs : List Value} {o k : Nat} (z : Value) (h : Sub l o k vs) : Sub (z :: l) (o + 1) k vs
theorem Sub.spec {l vs : List Value} {o k : Nat} (h : Sub l o k vs) : vs.length = k ∧ ∀ j u, vs[j]? = some u → l[o + j]? = some u := by
 induction h with
 | nil l => exact ⟨rfl, fun j u h => by simp at h⟩
 | cons x h ih =>
  refine ⟨by simp [ih.1], fun j u hj => ?_⟩
  cases j with
  | zero => simpa using hj
  | succ j => have := ih.2 j u (by simpa using hj); simpa [Nat.add_comm, Nat.add_left_comm] using this
 | skip z h ih =>
  refine ⟨ih.1, fun j u hj => ?_⟩
  have := ih.2 j u hj
  rw [Nat.add_right_comm, List.getElem?_cons_succ]; exact this
theorem Ok.loadAggC {t : TypeId} {ds : TypeDesc} {x : Operand} {b o sz by_ : Nat} {z : Value} {c : Array Value} {e : TypeId} {fr : Nat × Nat} {vs : List Value} [hs : Und P t ds] [hi : Inf P t sz by_ z] (hx : ev L x = some (.pointer (some ⟨b, o, none⟩))) (hag : aggD ds = true)
  (hb : ∀ w, Heap w M H → w.heap[b]? = some (.cells c e fr)) (hl : vs.length = sz) (hc : ∀ j u, vs[j]? = some u → c[o + j]? = some u) : Ok P ⟨d, .load t x, ty, pos, af, g⟩ L M H (.agg vs.toArray) := fun n D a w hf hh => by
 obtain ⟨inf, g1, g2, _, _⟩ := hi.h
 have hcell : ∀ j u, vs[j]? = some u → w.cell? ((⟨b, o, none⟩ : Addr).add j) = some u := by
  intro j u hj
  rw [Addr.add_lit]
  simp [World.cell?, hb w hh, hc j u hj]
 have hfc := run_firstCells_some (P := P) w 1 sz ⟨b, o, none⟩ sz sz vs (by simp [hl]) hcell
 simp only [Builtin.firstCells, Nat.mul_one] at hfc
 simp only [execOp, hf.ev hx, Instr.loadAt, Instr.sureAddr, Sem.run_bind, Sem.run_pure, Result.andThen, loadVar, run_isAgg hs.h, hag]
 simp [sizeOf, typeInfo, g1, g2, hfc, Result.andThen]
theorem Ok.loadAgg {t : TypeId} {ds : TypeDesc} {x : Operand} {b o sz by_ : Nat} {z : Value} {l : List Value} {e : TypeId} {fr : Nat × Nat} {vs : List Value} {f : Obj → Hp} [hs : Und P t ds] [hi : Inf P t sz by_ z] (hx : ev L x = some (.pointer (some ⟨b, o, none⟩))) (hag : aggD ds = true)
  (hb : At H b (.cells l.toArray e fr) f) (hc : Sub l o sz vs) : Ok P ⟨d, .load t x, ty, pos, af, g⟩ L M H (.agg vs.toArray) :=
 Ok.loadAggC hx hag (fun _ hh => hh.own _ hb.mem) hc.spec.1 (fun j u hj => by simpa using hc.spec.2 j u hj)
end ok
end Go.Sx
end
section
namespace Go.Sx
open Go.RowKit
variable {P : Program} {r : Option Nat} {n : Nat} {D : List Deferred} {L L' : Sl} {M : Mem} {H : Hp} {Q : Post}
theorem F0_no {r : Option Nat} {k m : Nat} : (F0 r).depth.isSome = true → k ≤ m := fun h => by simp [F0, Fence.wide] at h
theorem R.world {ops : Array Oper} {rest : List Oper} {o : Oper} (hg : o.guard = none) (hnd : ∀ c, o.op ≠ .defer c)
  (h : ∀ a w, Fr n D L a → Heap w M H → ∃ v w', ((execOp a.eval o).run P w = .ok (.value v) w' ∨ (execOp a.eval o).run P w = .ok .skip w' ∧ v = undef) ∧ (Fr n D L a → Heap w M H → wpListIn (F0 r) 0 P ops Q rest (a.put o.dst v) w')) :
  R false P r n ops (o :: rest) Q D L M H := by
 intro a w hf hh
 obtain ⟨v, w', he, hk⟩ := h a w hf hh
 refine wpListIn_plain hg fun Kn hK => ⟨fun f _ => F0_fn _ f, ?_⟩
 rw [semAt_eq _ hnd]
 rcases he with he | ⟨he, rfl⟩
 ·rw [he]; exact hK _ _ (hk hf hh)
 ·rw [he]; exact hK _ _ (hk hf hh)
section
variable {d : Option Tmp} {ty : TypeId} {pos : String} {af : Array Edge} {ops : Array Oper} {rest : List Oper}
theorem R.box {t : TypeId} {x : Operand} {v : Value} {c : Array Value} (hx : ev L x = some v) (hc : v.cells = c) (hd : dok n d = true)
  (k : ∀ b, R false P r n ops rest Q D (bnd d (.pointer (some ⟨b, 0, none⟩)) L) M ((b, .cells c t (0, 0)) :: H)) : R false P r n ops (⟨d, .box t x, ty, pos, af, none⟩ :: rest) Q D L M H := by
 refine R.world rfl (by intro c h; cases h) fun a w hf hh => ⟨.pointer (some ⟨w.heap.size, 0, none⟩), w.alloc (.cells c t), .inl ?_, fun hf hh => k _ _ _ (hf.put d hd _) (hh.alloc _)⟩
 subst hc
 simp [execOp, hf.ev hx, Instr.box, newVar, newRow, newObj, Sem.run, World.alloc_eq]
theorem R.alloc {t sz by_ : Nat} {z : Value} {c : Array Value} [hi : Inf P t sz by_ z] (hc : z.cells = c) (hd : dok n d = true)
  (k : ∀ b, R false P r n ops rest Q D (bnd d (.pointer (some ⟨b, 0, none⟩)) L) M ((b, .cells c t (0, 0)) :: H)) : R false P r n ops (⟨d, .alloc t, ty, pos, af, none⟩ :: rest) Q D L M H := by
 obtain ⟨inf, g1, _, _, g4⟩ := hi.h
 refine R.world rfl (by intro c h; cases h) fun a w hf hh => ⟨.pointer (some ⟨w.heap.size, 0, none⟩), w.alloc (.cells c t), .inl ?_, fun hf hh => k _ _ _ (hf.put d hd _) (hh.alloc _)⟩
 subst hc
 simp [execOp, Instr.alloc, zeroValue, typeInfo, g1, g4, newVar, newRow, newObj, Sem.run, World.alloc_eq]
inductive Blit : List Value → Nat → List Value → List Value → Prop
 | nil (l : List Value) : Blit l 0 [] l
 | cons {l l' vs : List Value} (x v : Value) (h : Blit l 0 vs l') : Blit (x :: l) 0 (v :: vs) (v :: l')
 | skip {l l' vs : List Value} {o : Nat} (z : Value) (h : Blit l o vs l') : Blit (z :: l) (o + 1) vs (z :: l')
theorem Blit.spec {l vs l' : List Value} {o : Nat} (h : Blit l o vs l') : o + vs.length ≤ l.length ∧ l' = l.take o ++ vs ++ l.drop (o + vs.length) := by
 induction h with
 | nil l => simp
 | cons x v h ih =>
  obtain ⟨h1, h2⟩ := ih
  refine ⟨by simp at *; omega, ?_⟩
  simp only [Nat.zero_add] at h2 ⊢
  rw [h2]; simp
 | skip z h ih =>
  obtain ⟨h1, h2⟩ := ih
  refine ⟨by simp at *; omega, ?_⟩
  rw [h2, Nat.add_right_comm]; simp
theorem setRow_other (w : World) (g : Nat) (c : Array Value) (k : Nat) (h : k ≠ g) : (w.setRow g c).heap[k]? = w.heap[k]? := by
 simp only [World.setRow, Array.getElem?_modify]
 rw [if_neg (by omega)]
theorem setRow_same (w : World) (g : Nat) (c c' : Array Value) (t : TypeId) (fr : Nat × Nat) (h : w.heap[g]? = some (.cells c t fr)) : (w.setRow g c').heap[g]? = some (.cells c' t fr) := by
 simp [World.setRow, Array.getElem?_modify, h]
theorem storeAt_run {t sz by_ : Nat} {z : Value} [hi : Inf P t sz by_ z] {b o : Nat} {v : Value} {l vs : List Value} {e : TypeId} {w : World} (hv : v.cells = vs.toArray) (hl : vs.length = sz) (hone : ∀ u ∈ vs, u.oneCell' = true)
  (hb : w.heap[b]? = some (.cells l.toArray e (0, 0))) (hle : o + vs.length ≤ l.length) :
  (Instr.storeAt t (.pointer (some ⟨b, o, none⟩)) v).run P w = .ok () (w.setRow b (l.take o ++ vs ++ l.drop (o + vs.length)).toArray) := by
 obtain ⟨inf, g1, g2, _, _⟩ := hi.h
 have hst := run_storeCells_at P b o e vs 0 l.toArray w hb (by simpa using hle) hone
 simp only [Nat.add_zero] at hst
 simp [Instr.storeAt, Instr.sureAddr, storeVar, sizeOf, typeInfo, g1, g2, hv, hl, hst]
theorem R.store {t sz by_ : Nat} {z : Value} {x y : Operand} {b o : Nat} {v : Value} {l vs l' : List Value} {e : TypeId} {f : Obj → Hp} [hi : Inf P t sz by_ z] (hx : ev L x = some (.pointer (some ⟨b, o, none⟩))) (hy : ev L y = some v)
  (hv : v.cells = vs.toArray) (hb : At H b (.cells l.toArray e (0, 0)) f) (hB : Blit l o vs l') (hl : vs.length = sz) (hone : ∀ u ∈ vs, u.oneCell' = true)
  (k : R false P r n ops rest Q D L M (f (.cells l'.toArray e (0, 0)))) : R false P r n ops (⟨none, .store t x y, ty, pos, af, none⟩ :: rest) Q D L M H := by
 obtain ⟨h1, h2⟩ := hB.spec
 refine R.world rfl (by intro c h; cases h) fun a w hf hh => ⟨undef, w.setRow b l'.toArray, .inr ⟨?_, rfl⟩, fun hf hh => k _ _ hf (hh.put hb (setRow_same _ _ _ _ _ _ (hh.own _ hb.mem)) (fun k hk => setRow_other _ _ _ _ hk) rfl rfl)⟩
 have := storeAt_run (P := P) (t := t) (v := v) (b := b) (o := o) (w := w) hv hl hone (hh.own _ hb.mem) h1
 simp [execOp, hf.ev hx, hf.ev hy, this, h2]
theorem R.storeI {t by_ : Nat} {z : Value} {x y : Operand} {b o : Nat} {v : Value} {l : List Value} {e : TypeId} {f : Obj → Hp} [hi : Inf P t 1 by_ z] (hx : ev L x = some (.pointer (some ⟨b, o, none⟩))) (hy : ev L y = some v)
  (hv : v.cells = #[v]) (hb : At H b (.cells l.toArray e (0, 0)) f) (ho : o < l.length) (hone : v.oneCell' = true)
  (k : R false P r n ops rest Q D L M (f (.cells (l.set o v).toArray e (0, 0)))) : R false P r n ops (⟨none, .store t x y, ty, pos, af, none⟩ :: rest) Q D L M H := by
 refine R.world rfl (by intro c h; cases h) fun a w hf hh => ⟨undef, w.setRow b (l.set o v).toArray, .inr ⟨?_, rfl⟩, fun hf hh => k _ _ hf (hh.put hb (setRow_same _ _ _ _ _ _ (hh.own _ hb.mem)) (fun k hk => setRow_other _ _ _ _ hk) rfl rfl)⟩
 have := storeAt_run (P := P) (t := t) (v := v) (vs := [v]) (b := b) (o := o) (w := w) (by simpa using hv) rfl (by simpa using hone) (hh.own _ hb.mem) (by simp; omega)
 have e2 : l.take o ++ [v] ++ l.drop (o + 1) = l.set o v := by rw [List.set_eq_take_append_cons_drop, if_pos ho]; simp
 simp only [List.length_singleton, e2] at this
 simp [execOp, hf.ev hx, hf.ev hy, this]
theorem callArgs_run {f : Nat} {xs : List Operand} {vs : List Value} {ts : Array TypeId} {a : Act} {w : World} [he : Ent P f] {d : Option Tmp} {ty : TypeId} {pos : String} {af : Array Edge} {g : Option (Nat × Bool)} (hf : Fr n D L a) (hx : Evs L xs vs) :
  (execOp a.eval ⟨d, .call ⟨.value (.func f), xs.toArray, ts⟩, ty, pos, af, g⟩).run P w = .ok (.enter f vs.toArray) w := by
 have h1 := hf.evs hx
 simp [execOp, resolve, Deferred.ofValue, Act.eval, invoke, h1, he.h]
theorem R.call {f : Nat} {xs : List Operand} {vs : List Value} {ts : Array TypeId} {T : Value → Mem → Hp → Prop} [he : Ent P f] (hx : Evs L xs vs) (hd : dok n d = true) (hK : K P f vs M H T)
  (k : ∀ v M' H', T v M' H' → R false P r n ops rest Q D (bnd d v L) M' H') : R false P r n ops (⟨d, .call ⟨.value (.func f), xs.toArray, ts⟩, ty, pos, af, none⟩ :: rest) Q D L M H := by
 intro a w hf hh
 refine wpListIn_plain rfl fun Kn hKn => ⟨fun f _ => F0_fn _ f, ?_⟩
 rw [semAt_eq _ (by intro c h; cases h), callArgs_run hf hx]
 refine ⟨F0_no, ?_⟩
 have := (callsIn_wide (n := 0 - 1)).2 ((hK w hh).mono (R' := fun e w' => match e, w' with
   | .returned v, w'' => Kn (a.put d v) w''
   | .panicked chain, w'' => Q (.panic chain) a w''
   | .outgrown, _ => LetsOut Q) (by
  rintro e w' ⟨v, M', H', rfl, hT, hh'⟩
  exact hKn _ _ (k v M' H' hT _ _ (hf.put d hd v) hh')))
 exact this
theorem callClos_run {f : Nat} {x : Operand} {xs : List Operand} {vs : List Value} {fs cs : List Value} {ts : Array TypeId} {a : Act} {w : World} [he : Ent P f] {d : Option Tmp} {ty : TypeId} {pos : String} {af : Array Edge} {g : Option (Nat × Bool)} (hf : Fr n D L a)
  (hc : ev L x = some (.func (.func f) fs.toArray cs.toArray)) (hx : Evs L xs vs) :
  (execOp a.eval ⟨d, .call ⟨.value x, xs.toArray, ts⟩, ty, pos, af, g⟩).run P w = .ok (.enter f (fs ++ vs ++ cs).toArray) w := by
 have h1 := hf.evs hx
 simp [execOp, resolve, Deferred.ofValue, hf.ev hc, invoke, h1, he.h]
theorem R.callC {f : Nat} {x : Operand} {xs : List Operand} {vs fs cs : List Value} {ts : Array TypeId} {T : Value → Mem → Hp → Prop} [he : Ent P f] (hc : ev L x = some (.func (.func f) fs.toArray cs.toArray)) (hx : Evs L xs vs) (hd : dok n d = true) (hK : K P f (fs ++ vs ++ cs) M H T)
  (k : ∀ v M' H', T v M' H' → R false P r n ops rest Q D (bnd d v L) M' H') : R false P r n ops (⟨d, .call ⟨.value x, xs.toArray, ts⟩, ty, pos, af, none⟩ :: rest) Q D L M H := by
 intro a w hf hh
 refine wpListIn_plain rfl fun Kn hKn => ⟨fun f _ => F0_fn _ f, ?_⟩
 rw [semAt_eq _ (by intro c h; cases h), callClos_run hf hc hx]
 refine ⟨F0_no, ?_⟩
 exact (callsIn_wide (n := 0 - 1)).2 ((hK w hh).mono (by
  rintro e w' ⟨v, M', H', rfl, hT, hh'⟩
  exact hKn _ _ (k v M' H' hT _ _ (hf.put d hd v) hh')))
theorem Ok.makeFunc {fn : Fn} {fs cs : List Operand} {vs us : List Value} {g : Option (Nat × Bool)} (hf' : Evs L fs vs) (hc : Evs L cs us) (hr : ∀ w, (Instr.makeFunc fn vs.toArray us.toArray).run P w = .ok (.func fn vs.toArray us.toArray) w) :
  Ok P ⟨d, .makeFunc fn fs.toArray cs.toArray, ty, pos, af, g⟩ L M H (.func fn vs.toArray us.toArray) := fun n D a w hf _ => by
 have h1 := hf.evs hf'
 have h2 := hf.evs hc
 simp [execOp, h1, h2, hr]
class FldV (P : Program) (t : TypeId) (i : Nat) (off : outParam Nat) (size : outParam Nat) (ag : outParam Bool) : Prop where
 h : ∃ fs f ds inf, P.underlying t = some (.struct fs) ∧ fs[i]? = some f ∧ f.offset = off ∧ P.underlying f.type = some ds ∧ aggD ds = ag ∧ P.info? f.type = some inf ∧ inf.size = size
theorem Ok.field {t i off sz : Nat} {x : Operand} {vs : List Value} {v : Value} {g : Option (Nat × Bool)} [hF : FldV P t i off sz false] (hx : ev L x = some (.agg vs.toArray)) (hi : vs[off]? = some v) : Ok P ⟨d, .field t x i, ty, pos, af, g⟩ L M H v := fun n D a w hf _ => by
 obtain ⟨fs, f, ds, inf, h1, h2, h3, h4, h5, h6, h7⟩ := hF.h
 simp [execOp, hf.ev hx, Instr.field, run_underlying h1, h2, asAgg, part, run_isAgg h4, h5, h3, hi]
theorem Ok.fieldAgg {t i off sz : Nat} {x : Operand} {vs us : List Value} {g : Option (Nat × Bool)} [hF : FldV P t i off sz true] (hx : ev L x = some (.agg vs.toArray)) (hi : Sub vs off sz us) : Ok P ⟨d, .field t x i, ty, pos, af, g⟩ L M H (.agg us.toArray) := fun n D a w hf _ => by
 obtain ⟨fs, f, ds, inf, h1, h2, h3, h4, h5, h6, h7⟩ := hF.h
 have h8 := hi.spec
 have h9 : (vs.drop off).take sz = us := by
  apply List.ext_getElem?
  intro j
  rw [List.getElem?_take]
  split
  ·rename_i hj
   have := h8.2 j (us[j]'(by omega)) (List.getElem?_eq_getElem (by omega))
   rw [List.getElem?_drop, this, List.getElem?_eq_getElem (by omega)]
  ·rw [List.getElem?_eq_none (by omega)]
 simp [execOp, hf.ev hx, Instr.field, run_underlying h1, h2, asAgg, part, run_isAgg h4, h5, h3, sizeOf, typeInfo, h6, h7, h9]
inductive Fills (place : Nat → Option (Nat × Nat)) : List Value → List (Nat × Value) → List Value → Prop
 | nil (l : List Value) : Fills place l [] l
 | cons {l l1 l2 : List Value} {i off sz : Nat} {v : Value} {vs : List Value} {ps : List (Nat × Value)} (hp : place i = some (off, sz)) (hv : v.cells = vs.toArray) (hl : vs.length = sz) (hb : Blit l off vs l1) (ht : Fills place l1 ps l2) : Fills place l ((i, v) :: ps) l2
theorem fold_blit (vs : List Value) : ∀ (k off : Nat) (l : List Value), off + k + vs.length ≤ l.length → (vs.zipIdx k).foldl (fun (cs : Array Value) (p : Value × Nat) => cs.setIfInBounds (off + p.2) p.1) l.toArray = (l.take (off + k) ++ vs ++ l.drop (off + k + vs.length)).toArray := by
 induction vs with
 | nil => intro k off l h; simp
 | cons v vs ih =>
  intro k off l h
  rw [List.zipIdx_cons, List.foldl_cons]
  simp only [List.length_cons] at h
  rw [show (l.toArray.setIfInBounds (off + k) v) = (l.set (off + k) v).toArray from by simp]
  rw [ih (k + 1) off (l.set (off + k) v) (by simp; omega)]
  congr 1
  rw [List.set_eq_take_append_cons_drop, if_pos (by omega)]
  have e1 : (l.take (off + k)).length = off + k := by simp; omega
  rw [show off + (k + 1) = (off + k) + 1 from by omega, List.take_append, e1]
  rw [List.take_of_length_le (by omega : (l.take (off + k)).length ≤ off + k + 1)]
  have e2 : off + k + 1 - (off + k) = 1 := by omega
  rw [e2, List.take_succ_cons, List.take_zero, List.drop_append, e1]
  rw [List.drop_eq_nil_of_le (by omega : (l.take (off + k)).length ≤ off + k + 1 + vs.length)]
  rw [show off + k + 1 + vs.length - (off + k) = vs.length + 1 from by omega, List.drop_succ_cons, List.drop_drop]
  simp [Nat.add_assoc, Nat.add_comm 1]
theorem Fills.run {place : Nat → Option (Nat × Nat)} {l l' : List Value} {ps : List (Nat × Value)} (h : Fills place l ps l') : Instr.fill place l.toArray ps = some l'.toArray := by
 induction h with
 | nil l => rfl
 | @cons l l1 l2 i off sz v vs ps hp hv hl hb ht ih =>
  obtain ⟨b1, b2⟩ := hb.spec
  unfold Instr.fill
  rw [hp]
  have hc : ¬ (v.cells.size ≠ sz || off + v.cells.size > l.toArray.size) = true := by
   rw [hv]; simp [hl]; omega
  dsimp only
  rw [if_neg hc, hv]
  have := fold_blit vs 0 off l (by omega)
  simp only [Nat.add_zero] at this
  rw [← b2] at this
  have e : vs.toArray.zipIdx.foldl (fun (cs : Array Value) (p : Value × Nat) => cs.setIfInBounds (off + p.2) p.1) l.toArray = l1.toArray := by
   rw [← Array.foldl_toList]; simpa using this
  rw [← ih]
  congr 1
class Bld (P : Program) (t : TypeId) (places : outParam (List (Nat × Nat))) (zs : outParam (List Value)) : Prop where
 h : ∀ w parts, (Instr.build t parts).run P w = match Instr.fill (places[·]?) zs.toArray parts.toList with | some cells => .ok (.agg cells) w | none => (stuck "build: no such field, or a part of the wrong size" : Sem Value).run P w
inductive Prt (L : Sl) : List (Nat × Operand) → List (Nat × Value) → Prop
 | nil : Prt L [] []
 | cons {i : Nat} {x : Operand} {v : Value} {ps : List (Nat × Operand)} {qs : List (Nat × Value)} (h : ev L x = some v) (t : Prt L ps qs) : Prt L ((i, x) :: ps) ((i, v) :: qs)
theorem Fr.prt {a : Act} (hf : Fr n D L a) {ps : List (Nat × Operand)} {qs : List (Nat × Value)} (h : Prt L ps qs) : ps.map (fun p => (p.1, a.eval p.2)) = qs := by
 induction h with
 | nil => rfl
 | cons h _ ih => rw [List.map_cons, hf.ev h, ih]
theorem Ok.build {t : TypeId} {places : List (Nat × Nat)} {zs l : List Value} {ps : List (Nat × Operand)} {qs : List (Nat × Value)} {g : Option (Nat × Bool)} [hB : Bld P t places zs] (hp : Prt L ps qs) (hF : Fills (places[·]?) zs qs l) :
  Ok P ⟨d, .build t ps.toArray, ty, pos, af, g⟩ L M H (.agg l.toArray) := fun n D a w hf _ => by
 have h1 := hf.prt hp
 have h2 : (ps.toArray.map fun (x : Nat × Operand) => (x.1, a.eval x.2)) = qs.toArray := by simp [h1]
 have h3 := hB.h w qs.toArray
 rw [hF.run] at h3
 simp only [execOp, h2]
 simp [h3]
theorem Res.cellAgg {t : Tmp} {ty b o sz by_ : Nat} {z : Value} {ds : TypeDesc} {l us : List Value} {e : TypeId} {fr : Nat × Nat} {f : Obj → Hp} {rs : List ResultVar} {vs : List Value} [hs : Und P ty ds] [hi : Inf P ty sz by_ z]
  (h : lk L t = some (.pointer (some ⟨b, o, none⟩))) (hag : aggD ds = true) (hb : At H b (.cells l.toArray e fr) f) (hc : Sub l o sz us) (ht : Res P L M H rs vs) : Res P L M H (.cell t ty :: rs) (.agg us.toArray :: vs) :=
 Res.cons_ (fun n D a w hf hh => by
  obtain ⟨inf, g1, g2, _, _⟩ := hi.h
  have hcell : ∀ j u, us[j]? = some u → w.cell? ((⟨b, o, none⟩ : Addr).add j) = some u := by
   intro j u hj
   rw [Addr.add_lit]
   have := hc.spec.2 j u hj
   simp [World.cell?, hh.own _ hb.mem, this]
  have hfc := run_firstCells_some (P := P) w 1 sz ⟨b, o, none⟩ sz sz us (by simp [hc.spec.1]) hcell
  simp only [Builtin.firstCells, Nat.mul_one] at hfc
  simp only [resOf]
  rw [hf.slot _ _ h]
  simp [asAddr, loadVar, run_isAgg hs.h, hag, sizeOf, typeInfo, g1, g2, hfc]) ht
theorem Res.cellOne {t : Tmp} {ty b o : Nat} {ds : TypeDesc} {l : List Value} {v : Value} {e : TypeId} {fr : Nat × Nat} {f : Obj → Hp} {rs : List ResultVar} {vs : List Value} [hs : Und P ty ds]
  (h : lk L t = some (.pointer (some ⟨b, o, none⟩))) (hag : aggD ds = false) (hb : At H b (.cells l.toArray e fr) f) (hc : l[o]? = some v) (ht : Res P L M H rs vs) : Res P L M H (.cell t ty :: rs) (v :: vs) :=
 Res.cons_ (fun n D a w hf hh => by
  have hcell : w.cell? ⟨b, o, none⟩ = some v := by simp [World.cell?, hh.own _ hb.mem, hc]
  simp only [resOf]
  rw [hf.slot _ _ h]
  simp [asAddr, loadVar, run_isAgg hs.h, hag, load, Sem.run, hcell]) ht
end
end Go.Sx
end
section
namespace Go.Sx
open Go.RowKit
variable {P : Program} {r : Option Nat} {n : Nat} {D : List Deferred} {L L' : Sl} {M : Mem} {H H1 : Hp} {Q : Post}
def Rd (M : Mem) (H : Hp) (A : Option Addr) (xs : List Value) : Prop :=
 xs = [] ∨ ∃ ad, A = some ad ∧ ∀ w, Heap w M H → ∀ j u, xs[j]? = some u → w.cell? (ad.add j) = some u
def Pl (M : Mem) (A : Option Addr) (xs : List Value) : Prop :=
 xs = [] ∨ ∃ b o c e fr, A = some ⟨b, o, none⟩ ∧ M.at_ b = some (.cells c e fr) ∧ ∀ j u, xs[j]? = some u → c[o + j]? = some u
theorem Pl.rd {A : Option Addr} {xs : List Value} (h : Pl M A xs) : Rd M H A xs := by
 rcases h with h | ⟨b, o, c, e, fr, rfl, hb, hc⟩
 ·exact .inl h
 ·refine .inr ⟨_, rfl, fun w hh j u hj => ?_⟩
  rw [Addr.add_lit]
  simp [World.cell?, hh.pool _ _ hb, hc j u hj]
theorem Rd.nil {A : Option Addr} : Rd M H A [] := .inl rfl
theorem Pl.nil {A : Option Addr} : Pl M A [] := .inl rfl
theorem Rd.at_ {b o : Nat} {l xs : List Value} {e : TypeId} {fr : Nat × Nat} {f : Obj → Hp} (h : At H b (.cells l.toArray e fr) f) (hx : ∀ j u, xs[j]? = some u → l[o + j]? = some u) : Rd M H (some ⟨b, o, none⟩) xs :=
 .inr ⟨_, rfl, fun w hh j u hj => by
  rw [Addr.add_lit]
  simp [World.cell?, hh.own _ h.mem, hx j u hj]⟩
theorem Pl.cut {A : Option Addr} {xs : List Value} {l size cap : Nat} (h : Pl M A xs) (hc : xs.length ≤ cap * size) : Pl M (adv A l size cap) (xs.drop (l * size)) := by
 rcases h with h | ⟨b, o, c, e, fr, rfl, hb, hx⟩
 ·subst h; exact .inl (by simp)
 ·unfold adv
  split
  ·rename_i e'; subst e'
   exact .inl (List.drop_eq_nil_of_le hc)
  ·refine .inr ⟨b, o + l * size, c, e, fr, by simp [Addr.add_lit], hb, fun j u hj => ?_⟩
   rw [List.getElem?_drop] at hj
   rw [Nat.add_assoc]; exact hx _ _ hj
theorem Pl.take {A : Option Addr} {xs : List Value} (k : Nat) (h : Pl M A xs) : Pl M A (xs.take k) := by
 rcases h with h | ⟨b, o, c, e, fr, rfl, hb, hx⟩
 ·subst h; exact .inl (by simp)
 ·refine .inr ⟨b, o, c, e, fr, rfl, hb, fun j u hj => hx j u ?_⟩
  rw [List.getElem?_take] at hj
  split at hj
  ·exact hj
  ·cases hj
def Mem.le (M M' : Mem) : Prop := M'.os = M.os ∧ M'.out = M.out ∧ ∀ b o, M.at_ b = some o → M'.at_ b = some o
theorem Mem.le_refl (M : Mem) : M.le M := ⟨rfl, rfl, fun _ _ h => h⟩
theorem Mem.le_trans {M1 M2 M3 : Mem} (h : M1.le M2) (h' : M2.le M3) : M1.le M3 := ⟨h'.1.trans h.1, h'.2.1.trans h.2.1, fun b o hb => h'.2.2 b o (h.2.2 b o hb)⟩
theorem Mem.le.trans_ {M1 M2 M3 : Mem} (h : M1.le M2) (h' : M2.le M3) : M1.le M3 := Mem.le_trans h h'
theorem Mem.le_put {b : Nat} {o : Obj} (h : M.at_ b = none) : M.le (M.put b o) := ⟨rfl, rfl, fun k ok hk => by
 have : k ≠ b := fun e => by subst e; rw [h] at hk; cases hk
 simp [Mem.put, this, hk]⟩
theorem Mem.put_at {b : Nat} {o : Obj} : (M.put b o).at_ b = some o := by simp [Mem.put]
theorem Pl.mono {M' : Mem} (hM : M.le M') {A : Option Addr} {xs : List Value} (h : Pl M A xs) : Pl M' A xs := by
 rcases h with h | ⟨b, o, c, e, fr, h1, h2, h3⟩
 ·exact .inl h
 ·exact .inr ⟨b, o, c, e, fr, h1, hM.2.2 _ _ h2, h3⟩
inductive Tk : Hp → Hp → Hp → Prop
 | here (hp H : Hp) : Tk hp (hp ++ H) H
 | one (b : Nat) (o : Obj) (H : Hp) : Tk [(b, o)] ((b, o) :: H) H
 | none (H : Hp) : Tk [] H H
 | skip {hp H H1 : Hp} (x : Nat × Obj) (h : Tk hp H H1) : Tk hp (x :: H) (x :: H1)
 | skipA {hp H H1 : Hp} (s : Hp) (h : Tk hp H H1) : Tk hp (s ++ H) (s ++ H1)
theorem Tk.perm {hp H H1 : Hp} (h : Tk hp H H1) : H.Perm (hp ++ H1) := by
 induction h with
 | here hp H => exact .refl _
 | one b o H => exact .refl _
 | none H => exact .refl _
 | skip x h ih => exact (ih.cons x).trans List.perm_middle.symm
 | skipA s h ih =>
  refine (ih.append_left s).trans ?_
  rw [← List.append_assoc, ← List.append_assoc]
  exact List.perm_append_comm.append_right _
theorem At.app {b : Nat} {o : Obj} {f : Obj → Hp} (s : Hp) (h : At H b o f) : At (s ++ H) b o (fun o' => s ++ f o') := by
 induction s with
 | nil => exact h
 | cons x s ih => exact ih.tail x
inductive Arr : Hp → Hp → Prop
 | all (H : Hp) : Arr H H
 | cons {H H1 R : Hp} {x : Nat × Obj} (h : Tk [x] H H1) (t : Arr H1 R) : Arr H (x :: R)
 | app {H H1 R s : Hp} (h : Tk s H H1) (t : Arr H1 R) : Arr H (s ++ R)
 | drop {H R : Hp} (x : Nat × Obj) (t : Arr H R) : Arr (x :: H) R
 | dropA {H R : Hp} (s : Hp) (t : Arr H R) : Arr (s ++ H) R
theorem Heap.tailA {w : World} (s : Hp) (h : Heap w M (s ++ H)) : Heap w M H := by
 induction s with
 | nil => exact h
 | cons x s ih => exact ih h.tail
theorem Heap.appendL {w : World} {s R : Hp} (h : Heap w M (s ++ H)) (h' : Heap w M H → Heap w M R) (hsub : ∀ p ∈ R, p ∈ H) : Heap w M (s ++ R) := by
 have hR := h' (h.tailA s)
 refine ⟨h.os, h.out, h.pool, ?_, ?_, ?_⟩
 ·intro p hp
  rcases List.mem_append.1 hp with hp | hp
  ·exact h.own p (List.mem_append_left _ hp)
  ·exact hR.own p hp
 ·intro p hp
  rcases List.mem_append.1 hp with hp | hp
  ·exact h.apart p (List.mem_append_left _ hp)
  ·exact hR.apart p hp
 ·have hnd := h.nodup
  rw [List.map_append, List.nodup_append] at hnd ⊢
  refine ⟨hnd.1, hR.nodup, fun a ha b hb => hnd.2.2 a ha b ?_⟩
  obtain ⟨p, hp, rfl⟩ := List.mem_map.1 hb
  exact List.mem_map.2 ⟨p, hsub p hp, rfl⟩
theorem Arr.sub {H R : Hp} (h : Arr H R) : ∀ p ∈ R, p ∈ H := by
 induction h with
 | all H => exact fun p hp => hp
 | cons h t ih => exact fun p hp => h.perm.mem_iff.2 (by
  rcases List.mem_cons.1 hp with rfl | hp
  ·exact List.mem_cons_self ..
  ·exact List.mem_cons_of_mem _ (ih p hp))
 | app h t ih => exact fun p hp => h.perm.mem_iff.2 (by
  rcases List.mem_append.1 hp with hp | hp
  ·exact List.mem_append_left _ hp
  ·exact List.mem_append_right _ (ih p hp))
 | drop x t ih => exact fun p hp => List.mem_cons_of_mem _ (ih p hp)
 | dropA s t ih => exact fun p hp => List.mem_append_right _ (ih p hp)
theorem Arr.heap {w : World} {H R : Hp} (h : Arr H R) : Heap w M H → Heap w M R := by
 induction h with
 | all H => exact id
 | @cons H H1 R x h t ih => exact fun hh => (hh.perm h.perm).appendL (s := [x]) ih t.sub
 | @app H H1 R s h t ih => exact fun hh => (hh.perm h.perm).appendL ih t.sub
 | drop x t ih => exact fun hh => ih hh.tail
 | dropA s t ih => exact fun hh => ih (hh.tailA s)
theorem Fin.arr {e : Exit} {H2 : Hp} (ha : Arr H H2) (h : Fin n e Q D L M H2) : Fin n e Q D L M H := fun a w hf hh => h a w hf (ha.heap hh)
theorem C.arr {c : Code} {H2 : Hp} (ha : Arr H H2) (h : C P r n c Q D L M H2) : C P r n c Q D L M H := fun a w hf hh => h a w hf (ha.heap hh)
theorem R.arr {ops : Array Oper} {rest : List Oper} {H2 : Hp} (ha : Arr H H2) (h : R false P r n ops rest Q D L M H2) : R false P r n ops rest Q D L M H := fun a w hf hh => h a w hf (ha.heap hh)
theorem K.arr {f : Nat} {args : List Value} {T : Value → Mem → Hp → Prop} {H2 : Hp} (ha : Arr H H2) (h : K P f args M H2 T) : K P f args M H T := fun w hh => h w (ha.heap hh)
theorem Fin.returnA {fn : Func} {T : Value → Mem → Hp → Prop} {rs : List ResultVar} {vs : List Value} {v : Value} {e : Exit} {H2 : Hp} (hq : RetOk P fn T Q) (he : e = .ret ∨ e = .normal) (hr : fn.results = rs.toArray) (h : Res P L M H rs vs) (hv : retv vs = v) (ha : Arr H H2) (ht : T v M H2) : Fin n e Q [] L M H :=
 hq n L M H H2 rs vs e he hr h (fun _ hh => ha.heap hh) (by rw [hv]; exact ht)
def Own (e sz : Nat) (v : Value) (m : Nat) (xs : List Value) (hp : Hp) : Prop :=
 xs.length = m * sz ∧ ((v = .slice none 0 0 ∧ m = 0 ∧ hp = []) ∨
  ∃ b cap c, v = .slice (some ⟨b, 0, none⟩) m cap ∧ hp = [(b, .cells c e (0, 0))] ∧ m ≤ cap ∧ cap ≤ maxLen ∧ c.size = cap * sz ∧ c.toList.take (m * sz) = xs)
theorem Own.nil (e sz : Nat) : Own e sz (.slice none 0 0) 0 [] [] := ⟨by simp, .inl ⟨rfl, rfl, rfl⟩⟩
theorem Own.len {e sz m : Nat} {v : Value} {xs : List Value} {hp : Hp} (h : Own e sz v m xs hp) : xs.length = m * sz := h.1
theorem Own.form {e sz m : Nat} {v : Value} {xs : List Value} {hp : Hp} (h : Own e sz v m xs hp) : ∃ A cap, v = .slice A m cap ∧ m ≤ cap ∧ cap ≤ maxLen := by
 rcases h.2 with ⟨h1, h2, _⟩ | ⟨b, cap, c, h1, _, h2, h3, _⟩
 ·exact ⟨none, 0, by rw [h1, h2], by omega, by unfold maxLen; omega⟩
 ·exact ⟨_, cap, h1, h2, h3⟩
theorem Own.row {e sz m : Nat} {v : Value} {xs : List Value} {hp : Hp} {w : World} (h : Own e sz v m xs hp) (hh : Heap w M (hp ++ H)) : w.ownsRow 0 e sz v m xs := by
 refine ⟨h.1, ?_⟩
 rcases h.2 with ⟨h1, h2, _⟩ | ⟨b, cap, c, h1, h2, h3, h4, h5, h6⟩
 ·exact .inl ⟨h1, h2⟩
 ·exact .inr ⟨b, cap, c, h1, Nat.zero_le _, hh.own (b, _) (by subst h2; simp), h3, h4, h5, h6⟩
theorem Own.block {e sz m : Nat} {v : Value} {xs : List Value} {hp : Hp} (h : Own e sz v m xs hp) : hp.map Prod.fst = (v.ownBlock).toList := by
 rcases h.2 with ⟨h1, h2, h3⟩ | ⟨b, cap, c, h1, h2, _⟩
 ·subst h1; subst h3; rfl
 ·subst h1; subst h2; rfl
theorem Heap.grown {w w' : World} {hp hp' : Hp} (h : Heap w M (hp ++ H)) (hos : w'.os = w.os) (hout : w'.output = w.output)
  (hk : ∀ k, k < w.heap.size → k ∉ hp.map Prod.fst → w'.heap[k]? = w.heap[k]?) (hn : ∀ p ∈ hp', w'.heap[p.1]? = some p.2) (hb : ∀ p ∈ hp', p.1 ∈ hp.map Prod.fst ∨ w.heap.size ≤ p.1) (hnd : (hp'.map Prod.fst).Nodup) : Heap w' M (hp' ++ H) := by
 have hnd0 := h.nodup
 rw [List.map_append, List.nodup_append] at hnd0
 obtain ⟨_, n2, n3⟩ := hnd0
 have hH : ∀ p ∈ H, p.1 ∉ hp.map Prod.fst := fun p hp1 hm => n3 p.1 hm p.1 (List.mem_map.2 ⟨p, hp1, rfl⟩) rfl
 have hlt : ∀ p ∈ H, p.1 < w.heap.size := fun p hp1 => heap_lt (h.own p (List.mem_append_right _ hp1))
 refine ⟨hos.trans h.os, hout.trans h.out, ?_, ?_, ?_, ?_⟩
 ·intro b o hbo
  rw [hk b (heap_lt (h.pool b o hbo))]
  ·exact h.pool b o hbo
  ·intro hm
   obtain ⟨p, hp1, rfl⟩ := List.mem_map.1 hm
   have := h.apart p (List.mem_append_left _ hp1)
   rw [this] at hbo; cases hbo
 ·intro p hp1
  rcases List.mem_append.1 hp1 with hp1 | hp1
  ·exact hn p hp1
  ·rw [hk _ (hlt p hp1) (hH p hp1)]; exact h.own p (List.mem_append_right _ hp1)
 ·intro p hp1
  rcases List.mem_append.1 hp1 with hp1 | hp1
  ·rcases hb p hp1 with hm | hge
   ·obtain ⟨q, hq, he⟩ := List.mem_map.1 hm
    rw [← he]; exact h.apart q (List.mem_append_left _ hq)
   ·cases hM : M.at_ p.1 with
    | none => rfl
    | some o => have := heap_lt (h.pool _ _ hM); omega
  ·exact h.apart p (List.mem_append_right _ hp1)
 ·rw [List.map_append, List.nodup_append]
  refine ⟨hnd, n2, ?_⟩
  intro a ha b hb' e
  subst e
  obtain ⟨p, hp1, rfl⟩ := List.mem_map.1 ha
  obtain ⟨q, hq, he⟩ := List.mem_map.1 hb'
  rcases hb p hp1 with hm | hge
  ·exact hH q hq (by rw [he]; exact hm)
  ·have := hlt q hq; omega
theorem Own.of_row {e sz m k : Nat} {v v' : Value} {xs ys : List Value} {hp : Hp} {w w' : World} (h : Own e sz v m xs hp) (hh : Heap w M (hp ++ H)) (hr : w'.ownsRow 0 e sz v' k ys) (hg : w.grownBy w' v.ownBlock)
  (hat : v'.ownBlock = v.ownBlock ∨ v'.ownBlock = some w.heap.size) : ∃ hp', Own e sz v' k ys hp' ∧ Heap w' M (hp' ++ H) := by
 have hblk := h.block
 have hk : ∀ k, k < w.heap.size → k ∉ hp.map Prod.fst → w'.heap[k]? = w.heap[k]? := fun k hlt hm => hg.block k hlt (fun e' => hm (by rw [hblk, ← e']; simp))
 rcases hr with ⟨hl, ⟨h1, h2⟩ | ⟨g, cap, cur, h1, _, h3, h4, h5, h6, h7⟩⟩
 ·refine ⟨[], ⟨hl, .inl ⟨h1, h2, rfl⟩⟩, ?_⟩
  exact hh.grown hg.os hg.output hk (by simp) (by simp) (by simp)
 ·refine ⟨[(g, .cells cur e (0, 0))], ⟨hl, .inr ⟨g, cap, cur, h1, rfl, h4, h5, h6, h7⟩⟩, ?_⟩
  refine hh.grown hg.os hg.output hk (by simpa using h3) ?_ (by simp)
  intro p hp1
  simp only [List.mem_singleton] at hp1
  subst hp1
  subst h1
  change some g = v.ownBlock ∨ some g = some w.heap.size at hat
  rcases hat with hat | hat
  ·left; rw [hblk, ← hat]; exact List.mem_singleton.2 rfl
  ·right; cases hat; exact Nat.le_refl _
section
variable {d : Option Tmp} {ty : TypeId} {pos : String} {af : Array Edge} {ops : Array Oper} {rest : List Oper}
theorem append_nil_run {t ty e sz by_ m : Nat} {z : Value} {v : Value} {xs : List Value} {hp : Hp} {A : Option Addr} {c : Nat} [hs : Und P t (.slice e)] [hi : Inf P e sz by_ z] (hown : Own e sz v m xs hp) (w : World) :
  (Builtin.append_ #[t, t] ty #[v, .slice A 0 c]).run P w = .ok v w := by
 obtain ⟨A0, cap, rfl, hle, _⟩ := hown.form
 obtain ⟨inf, g1, g2, _, _⟩ := hi.h
 have h0 : (Builtin.firstCells sz 0 (.slice A 0 c)).run P w = .ok #[] w := by
  cases A <;> simp [Builtin.firstCells, loadCells, loadCellsFrom]
 cases A0 <;> simp [Builtin.append_, run_underlying hs.h, sizeOf, typeInfo, g1, g2, Builtin.lenOf, hle, h0, storeCells]
theorem append_run {t ty e sz by_ m : Nat} {z : Value} {v : Value} {xs news : List Value} {hp : Hp} {A : Option Addr} {k c : Nat} [hs : Und P t (.slice e)] [hi : Inf P e sz by_ z] (hz : z.cells.size = sz) (hsz : 0 < sz) (hby : 0 < by_)
  (hown : Own e sz v m xs hp) {w : World} (hh : Heap w M (hp ++ H)) (hl : news.length = k * sz) (hrd : Rd M (hp ++ H) A news) (hone : ∀ u ∈ news, u.oneCell' = true) (hbytes : (m + k) * by_ ≤ 140737488355328) :
  ∃ v' w' hp', (Builtin.append_ #[t, t] ty #[v, .slice A k c]).run P w = .ok v' w' ∧ Own e sz v' (m + k) (xs ++ news) hp' ∧ Heap w' M (hp' ++ H) := by
 obtain ⟨inf, g1, g2, g3, g4⟩ := hi.h
 have h63 : m + k ≤ maxLen := by
  have : (m + k) * 1 ≤ (m + k) * by_ := Nat.mul_le_mul_left _ hby
  unfold maxLen; omega
 rcases hrd with rfl | ⟨ad, rfl, hc⟩
 ·have hk : k = 0 := by
   rcases Nat.eq_zero_or_pos k with h | h
   ·exact h
   ·have := Nat.mul_pos h hsz; simp at hl; omega
  subst hk
  exact ⟨v, w, hp, append_nil_run (e := e) (sz := sz) (z := z) (by_ := by_) hown w, by simpa using hown, hh⟩
 ·obtain ⟨v', w', h1, h2, h3, _, h5⟩ := run_append_own_at (P := P) w 0 t ty e inf z sz by_ hs.h g1 g4 g2 g3 hz hsz v m xs (hown.row hh) ad k c news hl (hc w hh) hone h63 hbytes (Nat.zero_le _)
  obtain ⟨hp', h6, h7⟩ := hown.of_row hh h2 h3 h5
  exact ⟨v', w', hp', h1, h6, h7⟩
theorem builtin_run {b : Builtin} {xs : List Operand} {vs : List Value} {ts : Array TypeId} {a : Act} {g : Option (Nat × Bool)} (hf : Fr n D L a) (hx : Evs L xs vs) {s : Sem Value}
  (hb : ∀ cs, builtin b ts ty cs vs.toArray = (do pure (.value (← s)))) {w w' : World} {v : Value} (hs : s.run P w = .ok v w') :
  (execOp a.eval ⟨d, .call ⟨.builtin b, xs.toArray, ts⟩, ty, pos, af, g⟩).run P w = .ok (.value v) w' := by
 have h1 := hf.evs hx
 simp only [execOp, resolve, List.map_toArray, h1, Sem.run_bind, Sem.run_pure, Result.andThen, invoke]
 rw [hb]
 simp [hs]
theorem R.append {t e sz by_ m k c : Nat} {z : Value} {s x : Operand} {v : Value} {xs news : List Value} {hp : Hp} {A : Option Addr} [hst : Und P t (.slice e)] [hi : Inf P e sz by_ z]
  (hs : ev L s = some v) (hx : ev L x = some (.slice A k c)) (hown : Own e sz v m xs hp) (ht : Tk hp H H1) (hrd : Rd M (hp ++ H1) A news) (hl : news.length = k * sz) (hone : ∀ u ∈ news, u.oneCell' = true) (hbytes : (m + k) * by_ ≤ 140737488355328)
  (hz : z.cells.size = sz) (hsz : 0 < sz) (hby : 0 < by_) (hd : dok n d = true)
  (kk : ∀ v' hp', Own e sz v' (m + k) (xs ++ news) hp' → R false P r n ops rest Q D (bnd d v' L) M (hp' ++ H1)) :
  R false P r n ops (⟨d, .call ⟨.builtin .append, #[s, x], #[t, t]⟩, ty, pos, af, none⟩ :: rest) Q D L M H := by
 refine R.world rfl (by intro c h; cases h) fun a w hf hh => ?_
 have hh' := hh.perm ht.perm
 obtain ⟨v', w', hp', h1, h2, h3⟩ := append_run (P := P) (t := t) (e := e) (ty := ty) (c := c) hz hsz hby hown hh' hl hrd hone hbytes
 exact ⟨v', w', .inl (builtin_run (xs := [s, x]) (vs := [v, .slice A k c]) hf (.cons hs (.cons hx .nil)) (fun _ => rfl) h1), fun hf _ => kk v' hp' h2 _ _ (hf.put d hd v') h3⟩
end
end Go.Sx
end
section
namespace Go.Sx
open Go.RowKit
variable {P : Program} {r : Option Nat} {n : Nat} {D : List Deferred} {L L' : Sl} {M : Mem} {H H1 : Hp} {Q : Post}
def bv (b : UInt8) : Value := .int .u8 (b.toNat : Int)
def str (bs : List UInt8) : Value := .string ⟨bs.toArray⟩
theorem bv_one (bs : List UInt8) : ∀ u ∈ bs.map bv, u.oneCell' = true := by
 intro u hu
 obtain ⟨b, _, rfl⟩ := List.mem_map.1 hu
 rfl
section
variable {d : Option Tmp} {ty : TypeId} {pos : String} {af : Array Edge} {ops : Array Oper} {rest : List Oper} {g : Option (Nat × Bool)}
theorem R.buildSlice {t e sz by_ len : Nat} {z : Value} {zs l : List Value} {ps : List (Nat × Operand)} {qs : List (Nat × Value)} [hs : Und P t (.slice e)] [hi : Inf P e sz by_ z] (hp : Prt L ps qs) (hzl : z.cells.toList = zs) (hle : Nat.ble (len * sz) 16777216 = true)
  (hF : Fills (fun i => some (i * sz, sz)) ((List.range (len * sz)).map fun i => zs[i % zs.length]!) qs l) (hd : dok n d = true)
  (k : ∀ b, R false P r n ops rest Q D (bnd d (.slice (some ⟨b, 0, none⟩) len len) L) M ((b, .cells l.toArray e (0, 0)) :: H)) : R false P r n ops (⟨d, .buildSlice t len ps.toArray, ty, pos, af, none⟩ :: rest) Q D L M H := by
 obtain ⟨inf, g1, g2, g3, g4⟩ := hi.h
 refine R.world rfl (by intro c h; cases h) fun a w hf hh => ⟨.slice (some ⟨w.heap.size, 0, none⟩) len len, w.alloc (.cells l.toArray e), .inl ?_, fun hf hh => k _ _ _ (hf.put d hd _) (hh.alloc _)⟩
 have h1 := hf.prt hp
 have h2 : (ps.toArray.map fun (x : Nat × Operand) => (x.1, a.eval x.2)) = qs.toArray := by simp [h1]
 have h3 := hF.run
 have hle' : ¬ (16777216 < len * sz) := by have := Nat.le_of_ble_eq_true hle; omega
 subst hzl
 simp only [execOp, h2]
 by_cases h0 : len * sz = 0
 ·have hl : Instr.fill (fun i => some (i * sz, sz)) #[] qs = some l.toArray := by simpa [h0] using h3
  have hr0 : Array.range 0 = #[] := rfl
  simp [Instr.buildSlice, run_underlying hs.h, sizeOf, typeInfo, g1, g2, h0, hl, hr0, newRow, newObj, Sem.run, World.alloc_eq]
 ·have hl : Instr.fill (fun i => some (i * sz, sz)) ((Array.range (len * sz)).map fun i => z.cells[i % z.cells.size]!) qs = some l.toArray := by
   rw [← h3]; congr 1
   apply Array.ext'
   rw [Array.toList_map, Array.toList_range]
   refine List.map_congr_left fun i _ => ?_
   simp [getElem!_def]
  simp [Instr.buildSlice, run_underlying hs.h, sizeOf, typeInfo, zeroValue, g1, g2, g4, h0, hle', hl, newRow, newObj, Sem.run, World.alloc_eq]
theorem madeCells_one (z : Value) (hz : z.cells = #[z]) (k : Nat) : madeCells z.cells k = (List.replicate k z).toArray := by
 unfold madeCells
 rw [hz]
 apply Array.ext'
 simp [Nat.mod_one, List.eq_replicate_iff]
theorem R.makeSlice {t e by_ : Nat} {z : Value} {x y : Operand} {kl kc : IntKind} {i j : Int} [hs : Und P t (.slice e)] [hi : Inf P e 1 by_ z] (hx : ev L x = some (.int kl i)) (hy : ev L y = some (.int kc j)) (h0 : 0 ≤ i) (h1 : i ≤ j) (hb : (by_ : Int) * j ≤ 281474976710656) (hj : j ≤ 9223372036854775807) (hz : z.cells = #[z]) (hd : dok n d = true)
  (k : ∀ b, R false P r n ops rest Q D (bnd d (.slice (some ⟨b, 0, none⟩) i.toNat j.toNat) L) M ((b, .cells (List.replicate j.toNat z).toArray e (0, 0)) :: H)) : R false P r n ops (⟨d, .makeSlice t x y, ty, pos, af, none⟩ :: rest) Q D L M H := by
 obtain ⟨inf, g1, g2, g3, g4⟩ := hi.h
 refine R.world rfl (by intro c h; cases h) fun a w hf hh => ⟨.slice (some ⟨w.heap.size, 0, none⟩) i.toNat j.toNat, w.alloc (.cells (List.replicate j.toNat z).toArray e), .inl ?_, fun hf hh => k _ _ _ (hf.put d hd _) (hh.alloc _)⟩
 have hr := run_make (P := P) w t e inf z hs.h g1 g4 kl kc i j h0 h1 (by rw [g3]; exact hb) hj
 rw [g2, Nat.mul_one, madeCells_one z hz] at hr
 simp [execOp, hf.ev hx, hf.ev hy, hr]
theorem fold_bytes (bs : List UInt8) : (bs.map fun b => ((b.toNat : Nat) : Int)).foldl (fun r n => r.push (UInt8.ofNat n.toNat)) ByteArray.empty = (⟨bs.toArray⟩ : ByteArray) := by
 rw [foldl_push_bytes]
 congr 1
 apply Array.ext'
 have : bs.map ((fun n : Int => UInt8.ofNat n.toNat) ∘ fun b => ((b.toNat : Nat) : Int)) = bs := by
  conv => rhs; rw [← List.map_id bs]
  apply List.map_congr_left
  intro b _
  simp
 rw [Array.toList_append]
 show ([] : List UInt8) ++ _ = _
 simpa using this
theorem Ok.toStr {s t e : TypeId} {x : Operand} {A : Option Addr} {c : Nat} {bs : List UInt8} [hs : Und P s (.slice e)] [he : Und P e (.int .u8)] [ht : Und P t .string] (hx : ev L x = some (.slice A bs.length c)) (hrd : Rd M H A (bs.map bv)) :
  Ok P ⟨d, .convert s t x, ty, pos, af, g⟩ L M H (str bs) := fun n D a w hf hh => by
 simp only [execOp, hf.ev hx, Sem.run_bind]
 rw [run_convert_bytes_string w s t e A bs.length c hs.h he.h ht.h]
 rcases hrd with h | ⟨ad, rfl, hc⟩
 ·have : bs = [] := by simpa using h
  subst this
  cases A with
  | none => rfl
  | some ad =>
   have h0 := run_bytesToString (P := P) w ad 0 c [] (by simp [loadCells, loadCellsFrom])
   simp only [List.length_nil]
   rw [h0]
   rfl
 ·have hl := run_firstCells_some (P := P) w 1 bs.length ad bs.length bs.length (bs.map bv) (by simp) (hc w hh)
  simp only [Builtin.firstCells, Nat.mul_one] at hl
  rw [run_bytesToString w ad bs.length c (bs.map fun b => ((b.toNat : Nat) : Int)) (by rw [hl]; simp [bv, Function.comp_def])]
  rw [fold_bytes]
  rfl
theorem Ok.eqStr {t t' : TypeId} {x y : Operand} {bs cs : List UInt8} (hx : ev L x = some (.string ⟨bs.toArray⟩)) (hy : ev L y = some (.string ⟨cs.toArray⟩)) : Ok P ⟨d, .binOp .eql t x y t', ty, pos, af, g⟩ L M H (.bool (decide (bs = cs))) :=
 Ok.bin hx hy (fun w => by simp [eqGuard]) fun w => by
  have : (bs == cs) = decide (bs = cs) := by rw [Bool.eq_iff_iff]; simp
  simp [binOp, Op.stringOp, this]
theorem Ok.neStr {t t' : TypeId} {x y : Operand} {bs cs : List UInt8} (hx : ev L x = some (.string ⟨bs.toArray⟩)) (hy : ev L y = some (.string ⟨cs.toArray⟩)) : Ok P ⟨d, .binOp .neq t x y t', ty, pos, af, g⟩ L M H (.bool (!decide (bs = cs))) :=
 Ok.bin hx hy (fun w => by simp [eqGuard]) fun w => by
  have : (bs == cs) = decide (bs = cs) := by rw [Bool.eq_iff_iff]; simp
  simp [binOp, Op.stringOp, this]
end
theorem Inf.of {t sz by_ : Nat} {z : Value} (h : (P.info? t).map (fun i => (i.zero, i.size, i.bytes)) = some (some z, sz, by_)) : Inf P t sz by_ z := by
 cases hi : P.info? t with
 | none => rw [hi] at h; cases h
 | some i =>
  rw [hi] at h
  simp only [Option.map_some, Option.some.injEq, Prod.mk.injEq] at h
  exact ⟨i, hi, h.2.1, h.2.2, h.1⟩
theorem FldV.of {t i off sz by_ : Nat} {ag : Bool} {z : Value} {fs : Array Field} {f : Field} {ds : TypeDesc} (ft : TypeId) [hu : Und P t (.struct fs)] [hd : Und P ft ds] [hi : Inf P ft sz by_ z] (hf : fs[i]? = some f) (he : f.type = ft) (ho : f.offset = off) (ha : aggD ds = ag) : FldV P t i off sz ag := by
 obtain ⟨inf, g1, g2, _, _⟩ := hi.h
 exact ⟨fs, f, ds, inf, hu.h, hf, ho, by rw [he]; exact hd.h, ha, by rw [he]; exact g1, g2⟩
theorem Bld.of {t sz by_ : Nat} {z : Value} {fs : Array Field} {places : List (Nat × Nat)} {zs : List Value} [hu : Und P t (.struct fs)] [hi : Inf P t sz by_ z] (hz : z.cells = zs.toArray)
  (hp : ∀ w, (fs.mapM fun f => do pure (f.offset, ← sizeOf f.type) : Sem (Array (Nat × Nat))).run P w = .ok places.toArray w) : Bld P t places zs := by
 obtain ⟨inf, g1, _, _, g4⟩ := hi.h
 refine ⟨fun w parts => ?_⟩
 have hpl : (fun i : Nat => places.toArray[i]?) = (fun i : Nat => places[i]?) := by funext i; simp
 have hp' := hp w
 simp only [Instr.build, zeroValue, typeInfo, Sem.run_bind, program, Sem.run, Result.andThen, g1, g4, Sem.run_pure, run_underlying hu.h, hp', hz, hpl]
 cases Instr.fill (fun i : Nat => places[i]?) zs.toArray parts.toList <;> rfl
theorem Ent.of {f : FuncId} {fn : Func} (hf : P.funcs[f]? = some fn) (hname : (fn.name == "runtime.NumGoroutine") = false) (hb : fn.body.isNone = false) : Ent P f := by
 refine ⟨fun args w => ?_⟩
 have h1 : fn.name ≠ "runtime.NumGoroutine" := by simpa using hname
 have h2 : fn.body ≠ none := by intro h; rw [h] at hb; cases hb
 simp [callFunc, hf, h1, h2]
theorem w64 {x : Int} (h0 : -9223372036854775808 ≤ x) (h1 : x ≤ 9223372036854775807) : IntKind.i64.wrap x = x := by rw [IntKind.wrap_i64]; omega
theorem wu64 {x : Int} (h0 : 0 ≤ x) (h1 : x ≤ 18446744073709551615) : IntKind.u64.wrap x = x := by
 show x % 2 ^ 64 = x
 omega
section
variable {L : Sl} {M : Mem} {H : Hp} {d : Option Tmp} {ty : TypeId} {pos : String} {af : Array Edge} {g : Option (Nat × Bool)} {t t' : TypeId} {x y : Operand} {p q : Int}
theorem Ok.remP {k : IntKind} (hx : ev L x = some (.int k p)) (hy : ev L y = some (.int k q)) (h0 : 0 ≤ p) (hq : 0 < q) : Ok P ⟨d, .binOp .rem t x y t', ty, pos, af, g⟩ L M H (.int k (p % q)) := by
 have := Ok.rem (P := P) (d := d) (t := t) (t' := t') (ty := ty) (pos := pos) (af := af) (g := g) (M := M) (H := H) hx hy (by omega)
 rwa [Int.tmod_eq_emod_of_nonneg h0] at this
theorem ediv_bd {p q : Int} (h0 : 0 ≤ p) (hq : 0 < q) : 0 ≤ p / q ∧ p / q ≤ p := ⟨Int.ediv_nonneg h0 (by omega), Int.ediv_le_self q h0⟩
theorem Ok.quoP (hx : ev L x = some (.int .i64 p)) (hy : ev L y = some (.int .i64 q)) (h0 : 0 ≤ p) (hq : 0 < q) (h1 : p ≤ 9223372036854775807) : Ok P ⟨d, .binOp .quo t x y t', ty, pos, af, g⟩ L M H (.int .i64 (p / q)) := by
 have := Ok.quo (P := P) (d := d) (t := t) (t' := t') (ty := ty) (pos := pos) (af := af) (g := g) (M := M) (H := H) hx hy (by omega)
 have hb := ediv_bd h0 hq
 rwa [Int.tdiv_eq_ediv_of_nonneg h0, w64 (by omega) (by omega)] at this
theorem Ok.quoU (hx : ev L x = some (.int .u64 p)) (hy : ev L y = some (.int .u64 q)) (h0 : 0 ≤ p) (hq : 0 < q) (h1 : p ≤ 18446744073709551615) : Ok P ⟨d, .binOp .quo t x y t', ty, pos, af, g⟩ L M H (.int .u64 (p / q)) := by
 have := Ok.quo (P := P) (d := d) (t := t) (t' := t') (ty := ty) (pos := pos) (af := af) (g := g) (M := M) (H := H) hx hy (by omega)
 have hb := ediv_bd h0 hq
 rwa [Int.tdiv_eq_ediv_of_nonneg h0, wu64 (by omega) (by omega)] at this
end
theorem pick_eq (n m : Int) (hm : 0 < m) : (if n.tmod m < 0 then n.tmod m + m else n.tmod m) = n % m ∧ -m < n.tmod m ∧ n.tmod m < m := by
 have h := Int.tmod_eq_emod (a := n) (b := m)
 have h0 := Int.emod_nonneg n (show m ≠ 0 by omega)
 have h1 := Int.emod_lt_of_pos n hm
 by_cases hc : 0 ≤ n ∨ m ∣ n
 ·rw [if_pos hc] at h
  have h4 : n.tmod m = n % m := by rw [h]; simp
  rw [h4, if_neg (by omega)]; omega
 ·rw [if_neg hc] at h
  have h2 : (m.natAbs : Int) = m := by omega
  have h3 : n % m ≠ 0 := fun e => hc (.inr (Int.dvd_of_emod_eq_zero e))
  have h4 : n.tmod m = n % m - m := by rw [h]; simp; omega
  rw [h4, if_pos (by omega)]; omega
theorem bv_at {bs : List UInt8} {o : Nat} (h : o < bs.length) : (bs.map bv)[o]? = some (bv bs[o]) := by simp [h]
theorem bv_set {bs : List UInt8} {o : Nat} {b : UInt8} : (bs.map bv).set o (bv b) = (bs.set o b).map bv := by rw [List.map_set]
theorem R.buildSlice0 {r : Option Nat} {n : Nat} {D : List Deferred} {L : Sl} {M : Mem} {H : Hp} {Q : Post} {d : Option Tmp} {ty : TypeId} {pos : String} {af : Array Edge} {ops : Array Oper} {rest : List Oper} {t e sz by_ : Nat} {z : Value} [hs : Und P t (.slice e)] [hi : Inf P e sz by_ z] (hd : dok n d = true)
  (k : ∀ b, R false P r n ops rest Q D (bnd d (.slice (some ⟨b, 0, none⟩) 0 0) L) M ((b, .cells #[] e (0, 0)) :: H)) : R false P r n ops (⟨d, .buildSlice t 0 #[], ty, pos, af, none⟩ :: rest) Q D L M H := by
 refine R.buildSlice (ps := []) (qs := []) (zs := z.cells.toList) (l := []) Prt.nil rfl (by simp) ?_ hd k
 simp only [Nat.zero_mul]
 exact Fills.nil _
theorem Own.empty {e sz b : Nat} : Own e sz (.slice (some ⟨b, 0, none⟩) 0 0) 0 [] [(b, .cells #[] e (0, 0))] := by
 refine ⟨by simp, .inr ⟨b, 0, #[], rfl, rfl, Nat.le_refl _, Nat.zero_le _, by simp, by simp⟩⟩
theorem Own.rd {M : Mem} {H H1 hp : Hp} {e sz m cap : Nat} {A : Option Addr} {xs : List Value} (h : Own e sz (.slice A m cap) m xs hp) (ht : Tk hp H H1) : Rd M H A xs := by
 rcases h.2 with ⟨h1, h2, _⟩ | ⟨b, cap', c, h1, h2, h3, h4, h5, h6⟩
 ·subst h2
  have : xs = [] := List.eq_nil_of_length_eq_zero (by simpa using h.1)
  exact .inl this
 ·refine .inr ⟨⟨b, 0, none⟩, by injection h1, fun w hh j u hj => ?_⟩
  have hb := (hh.perm ht.perm).own (b, .cells c e (0, 0)) (by subst h2; simp)
  rw [Addr.add_lit, Nat.zero_add]
  have hl : j < m * sz := by have := (List.getElem?_eq_some_iff.1 hj).1; have := h.1; omega
  have : c.toList[j]? = some u := by
   rw [← h6, List.getElem?_take, if_pos hl] at hj; exact hj
  simp only [World.cell?, hb]
  simpa using this
def Mem.puts (M : Mem) : Hp → Mem
 | [] => M
 | (b, o) :: hp => (M.put b o).puts hp
theorem Heap.freezes {w : World} : ∀ (hp : Hp) {M : Mem} {H : Hp}, Heap w M (hp ++ H) → Heap w (M.puts hp) H
 | [], _, _, h => h
 | (_, _) :: hp, _, _, h => Heap.freezes hp h.freeze
theorem Heap.le_puts {w : World} : ∀ (hp : Hp) {M : Mem} {H : Hp}, Heap w M (hp ++ H) → M.le (M.puts hp)
 | [], _, _, _ => Mem.le_refl _
 | (_, _) :: hp, _, _, h => (Mem.le_put h.pool_ne).trans_ (Heap.le_puts hp h.freeze)
theorem Own.pl {M : Mem} {hp : Hp} {e sz m cap : Nat} {A : Option Addr} {xs : List Value} (h : Own e sz (.slice A m cap) m xs hp) : Pl (M.puts hp) A xs := by
 rcases h.2 with ⟨h1, h2, _⟩ | ⟨b, cap', c, h1, h2, h3, h4, h5, h6⟩
 ·subst h2
  exact .inl (List.eq_nil_of_length_eq_zero (by simpa using h.1))
 ·refine .inr ⟨b, 0, c, e, (0, 0), by injection h1, by subst h2; exact Mem.put_at, fun j u hj => ?_⟩
  have hl : j < m * sz := by have := (List.getElem?_eq_some_iff.1 hj).1; have := h.1; omega
  rw [Nat.zero_add]
  have : c.toList[j]? = some u := by
   rw [← h6, List.getElem?_take, if_pos hl] at hj; exact hj
  simpa using this
section
variable {r : Option Nat} {n : Nat} {D : List Deferred} {L : Sl} {M : Mem} {H H1 hp : Hp} {Q : Post}
end
theorem Pl.cutTake {M : Mem} {A : Option Addr} {xs : List UInt8} {l cap : Nat} (k : Nat) (h : Pl M A (xs.map bv)) (hc : xs.length ≤ cap) : Pl M (adv A l 1 cap) (((xs.drop l).take k).map bv) := by
 have h1 := (h.cut (l := l) (size := 1) (cap := cap) (by simpa using hc)).take k
 rwa [Nat.mul_one, ← List.map_drop, ← List.map_take] at h1
end Go.Sx
end
section
namespace Go.Sx
open Go.RowKit
variable {P : Program} {r : Option Nat} {n : Nat} {D : List Deferred} {L L' : Sl} {M : Mem} {H : Hp} {Q : Post}
def AnyH (r : Option Nat) (P : Program) (ops : Array Oper) (M0 : Mem) (Hs : Hp) (Q : Post) : Nat → Array Bool → Act → Mem → Hp → Prop
 | 0, listed, a, M, Hx => M0.le M ∧ Region.ready .any ops listed = [] ∧ ∀ w, Heap w M (Hs ++ Hx) → Q .normal a w
 | f + 1, listed, a, M, Hx => M0.le M ∧ (Region.ready .any ops listed = [] → ∀ w, Heap w M (Hs ++ Hx) → Q .normal a w) ∧
   ∀ i ∈ Region.ready .any ops listed, ∀ w, Heap w M (Hs ++ Hx) → wpOpIn (F0 r) 0 P ops Q i (fun a' w' => ∃ M' Hx', Heap w' M' (Hs ++ Hx') ∧ AnyH r P ops M0 Hs Q f (listed.setIfInBounds i true) a' M' Hx') a w
theorem AnyH.le {ops : Array Oper} {M0 : Mem} {Hs Hx : Hp} {f : Nat} {listed : Array Bool} {a : Act} (h : AnyH r P ops M0 Hs Q f listed a M Hx) : M0.le M := by
 cases f with
 | zero => exact h.1
 | succ f => exact h.1
theorem AnyH.any {ops : Array Oper} {M0 : Mem} {Hs : Hp} : ∀ (f : Nat) (listed : Array Bool) (a : Act) (M : Mem) (Hx : Hp) (w : World), Heap w M (Hs ++ Hx) → AnyH r P ops M0 Hs Q f listed a M Hx → wpAnyIn (F0 r) 0 P .any ops Q f listed a w
 | 0, _, _, _, _, w, hh, h => ⟨h.2.1, h.2.2 w hh⟩
 | f + 1, _, _, _, _, w, hh, h => ⟨fun e => h.2.1 e w hh, fun i hi => wpOpIn_mono (fun a' w' ⟨M', Hx', hh', h'⟩ => AnyH.any f _ a' M' Hx' w' hh' h') (h.2.2 i hi w hh)⟩
def Qr (P : Program) (M : Mem) (H : Hp) (w : World) (v : Value) : Result Next → Prop
 | .ok (.value u) w' => w' = w ∧ u = v
 | .ok (.enter f args) w' => w' = w ∧ Calls P f args w (fun e w'' => e = .returned v ∧ Heap w'' M H)
 | _ => False
def Yc (P : Program) (ops : Array Oper) (M0 : Mem) (Hs : Hp) (o : Oper) (v : Value) (a : Act) : Prop :=
 (Region.wanted o (yielded ops a.tmps) = true ∧ ∀ M' Hx' w, M0.le M' → Heap w M' (Hs ++ Hx') → Qr P M' (Hs ++ Hx') w v ((execOp a.eval o).run P w)) ∨ (Region.wanted o (yielded ops a.tmps) = false ∧ v = undef)
theorem Yc.of_same {ops : Array Oper} {M0 : Mem} {Hs : Hp} {o : Oper} {v : Value} {a a' : Act} (hy : Yc P ops M0 Hs o v a) (he : execOp a'.eval o = execOp a.eval o)
  (hw : Region.wanted o (yielded ops a'.tmps) = Region.wanted o (yielded ops a.tmps)) : Yc P ops M0 Hs o v a' := by
 unfold Yc at *
 rw [he, hw]
 exact hy
theorem Yc.wp {ops : Array Oper} {M0 : Mem} {Hs Hx : Hp} {i : Nat} {o : Oper} {v : Value} {a : Act} (hnd : ∀ c, o.op ≠ .defer c) (hi : ops[i]? = some o) (hy : Yc P ops M0 Hs o v a) {K : Act → World → Prop} {w : World} (hM : M0.le M) (hh : Heap w M (Hs ++ Hx)) (h : ∀ w', Heap w' M (Hs ++ Hx) → K (a.put o.dst v) w') :
  wpOpIn (F0 r) 0 P ops Q i K a w := by
 unfold wpOpIn
 simp only [hi]
 rcases hy with ⟨hw, hv⟩ | ⟨hw, rfl⟩
 ·simp only [hw, if_true, Oper.wpIn, semAt_eq _ hnd]
  refine ⟨fun f _ => F0_fn _ f, ?_⟩
  have h3 := hv M Hx w hM hh
  generalize (execOp a.eval o).run P w = rr at *
  cases rr with
  | ok x w' =>
   cases x <;> simp only [Qr] at h3 <;> simp only [Oper.uponIn]
   case value u => obtain ⟨rfl, rfl⟩ := h3; exact h _ hh
   case enter f args =>
    obtain ⟨rfl, hc⟩ := h3
    refine ⟨F0_no, (callsIn_wide (n := 0 - 1)).2 (hc.mono ?_)⟩
    rintro e w'' ⟨rfl, hh''⟩
    exact h _ hh''
  | halt x w' => simp only [Qr] at h3
 ·simp only [hw, Bool.false_eq_true, if_false]; exact ⟨fun f _ => F0_fn _ f, h _ hh⟩
theorem Yc.put {ops : Array Oper} {M0 : Mem} {Hs : Hp} {j : Nat} {oi oj : Oper} {v : Value} (hj : ops[j]? = some oj) (hap : oi.apart ops oj = true)
  (hsi : ∀ cs b, oi.op ≠ .select cs b) (hsj : ∀ cs b, oj.op ≠ .select cs b) (hdj : ∀ c, oj.op ≠ .defer c) (hQ : NoPanic Q) {K : Act → World → Prop} {a : Act} {w : World}
  (hy : Yc P ops M0 Hs oi v a) (h : wpOpIn (F0 r) 0 P ops Q j K (a.put oi.dst v) w) :
  wpOpIn (F0 r) 0 P ops Q j (fun a' w' => Yc P ops M0 Hs oi v a' ∧ K (a'.put oi.dst v) w') a w := by
 obtain ⟨h1, h2, h3⟩ := Oper.apart_spec hap
 have keep : ∀ (a : Act), Yc P ops M0 Hs oi v a → ∀ u, Yc P ops M0 Hs oi v (a.put oj.dst u) := fun a hy u =>
  hy.of_same (execOp_put oi hsi a oj.dst u h3) (wanted_put oi a oj.dst u h3)
 unfold wpOpIn at *
 simp only [hj] at *
 rw [wanted_put oj a oi.dst v h1] at h
 split
 ·rename_i hw
  simp only [hw, if_true] at h
  unfold Oper.wpIn at *
  refine ⟨fun f _ => F0_fn _ f, ?_⟩
  have h := h.2
  rw [semAt_eq _ hdj, execOp_put oj hsj a oi.dst v h1] at h
  rw [semAt_eq _ hdj]
  generalize (execOp a.eval oj).run P w = r at *
  cases r with
  | ok x w' =>
   cases x <;> simp only [Oper.uponIn] at h ⊢
   case value u => exact ⟨keep a hy u, by rw [← Act.put_comm a v u h2]; exact h⟩
   case skip => exact ⟨keep a hy _, by rw [← Act.put_comm a v undef h2]; exact h⟩
   case defer d =>
    refine ⟨keep { a with defers := d :: a.defers } (hy.of_same rfl rfl) _, ?_⟩
    rw [← Act.put_comm _ v undef h2, ← Act.put_defers]
    exact h
   case enter f args =>
    refine ⟨h.1, CallsIn.mono h.2 fun e w'' he => ?_⟩
    cases e with
    | returned u => exact ⟨keep a hy u, by rw [← Act.put_comm a v u h2]; exact he⟩
    | panicked c => exact absurd he (hQ _ _ _)
    | outgrown => exact he
   case row row args => exact ⟨h.1, RowsIn.mono h.2 fun u w'' he => ⟨keep a hy u, by rw [← Act.put_comm a v u h2]; exact he⟩⟩
   case round l f tmps assign body =>
    refine ⟨h.1, RoundIn.mono h.2 fun e w'' he => ?_⟩
    cases e with
    | returned u => exact ⟨keep a hy u, by rw [← Act.put_comm a v u h2]; exact he⟩
    | panicked c => exact absurd he (hQ _ _ _)
    | outgrown => exact he
  | halt x w' =>
   cases x <;> simp only [Oper.uponIn] at h ⊢
   case panic u => exact absurd h (hQ _ _ _)
 ·rename_i hw
  simp only [hw] at h
  exact ⟨fun f _ => F0_fn _ f, keep a hy _, by rw [← Act.put_comm a v undef h2]; exact h.2⟩
def NoDefer (ops : Array Oper) : Prop := ∀ (j : Nat) (o : Oper) (c : Call), ops[j]? = some o → o.op ≠ .defer c
theorem AnyH.first {ops : Array Oper} {M0 : Mem} {Hs : Hp} {i : Nat} {oi : Oper} {v : Value} (hi : ops[i]? = some oi) (hsel : ∀ (j : Nat) (o : Oper) cs b, ops[j]? = some o → o.op ≠ .select cs b) (hnd : NoDefer ops) (hQ : NoPanic Q) :
  ∀ (fuel : Nat) (listed : Array Bool) (a : Act) (M : Mem) (Hx : Hp),
   (∀ j oj, ops[j]? = some oj → j ≠ i → listed.getD j true = false → (∀ e ∈ oj.after, Region.binds .any e = true → e.on ≠ i) → oi.apart ops oj = true) →
   i ∈ Region.ready .any ops listed → Yc P ops M0 Hs oi v a →
   AnyH r P ops M0 Hs Q fuel (listed.setIfInBounds i true) (a.put oi.dst v) M Hx → AnyH r P ops M0 Hs Q (fuel + 1) listed a M Hx := by
 intro fuel
 induction fuel with
 | zero =>
  intro listed a M Hx _ hr hy HH
  refine ⟨HH.le, fun h => (by rw [h] at hr; cases hr), fun j hj w hh => ?_⟩
  by_cases hji : j = i
  ·subst hji; exact hy.wp (fun c => hnd _ _ c hi) hi HH.le hh (fun w' hh' => ⟨M, Hx, hh', HH⟩)
  ·have := ready_mono hj hji
   rw [HH.2.1] at this
   cases this
 | succ fuel ih =>
  intro listed a M Hx hfree hr hy HH
  refine ⟨HH.le, fun h => (by rw [h] at hr; cases hr), fun j hj w hh => ?_⟩
  by_cases hji : j = i
  ·subst hji; exact hy.wp (fun c => hnd _ _ c hi) hi HH.le hh (fun w' hh' => ⟨M, Hx, hh', HH⟩)
  ·have h1 := HH.2.2 j (ready_mono hj hji) w hh
   obtain ⟨hjun, oj, hoj, hall⟩ := mem_ready.1 hj
   have hnot : ∀ e ∈ oj.after, Region.binds .any e = true → e.on ≠ i := fun e he hb heq => by
    have h1 := hall e he hb
    have h0 := (mem_ready.1 hr).1
    rw [heq] at h1
    rcases Nat.lt_or_ge i listed.size with h' | h'
    ·simp [h'] at h0 h1; rw [h0] at h1; cases h1
    ·simp [Array.getElem?_eq_none h'] at h1
   have h2 := Yc.put hoj (hfree j oj hoj hji hjun hnot) (fun cs b => hsel i oi cs b hi) (fun cs b => hsel j oj cs b hoj) (fun c => hnd _ _ c hoj) hQ hy h1
   have hfree' : ∀ k ok, ops[k]? = some ok → k ≠ i → (listed.setIfInBounds j true).getD k true = false →
     (∀ e ∈ ok.after, Region.binds .any e = true → e.on ≠ i) → oi.apart ops ok = true := fun k ok hk hki hun hno => by
    refine hfree k ok hk hki ?_ hno
    by_cases hjk : j = k
    ·subst hjk; exact hjun
    ·rw [getD_set_ne true hjk] at hun; exact hun
   refine wpOpIn_mono (fun a' w' ⟨hy', M', Hx', hh', h3⟩ => ⟨M', Hx', hh', ih (listed.setIfInBounds j true) a' M' Hx' hfree' (ready_mono hr (Ne.symm hji)) hy' ?_⟩) h2
   rw [Array.setIfInBounds_comm _ _ hji]
   exact h3
def planFrom (ops : Array Oper) : List Nat → List Nat → Array Bool → Bool
 | [], _, listed => (Region.ready .any ops listed).isEmpty
 | 1 :: ks, k :: is, listed => (Region.ready .any ops listed).contains k && Region.free .any ops listed k && planFrom ops ks is (listed.setIfInBounds k true)
 | 0 :: ks, k :: is, listed => (Region.ready .any ops listed).contains k && decide (Region.ready .any ops listed = [k]) && planFrom ops ks is (listed.setIfInBounds k true)
 | 2 :: 2 :: ks, i :: j :: is, listed => (Region.ready .any ops listed).all (fun k => Nat.beq k i || Nat.beq k j) && !(Region.ready .any ops listed).isEmpty && decide (Region.ready .any ops (listed.setIfInBounds i true) = [j]) && decide (Region.ready .any ops (listed.setIfInBounds j true) = [i]) && !(Nat.beq i j) && planFrom ops ks is ((listed.setIfInBounds i true).setIfInBounds j true)
 | _, _, _ => false
def picked (ops : Array Oper) : List Nat → List Oper → Prop
 | [], [] => True
 | i :: is, o :: rest => ops[i]? = some o ∧ picked ops is rest
 | _, _ => False
def noDeferB (l : List Oper) : Bool := l.all fun o => match o.op with | .defer _ => false | _ => true
theorem NoDefer.of {l : List Oper} (h : noDeferB l = true) : NoDefer l.toArray := by
 intro j o c hj hc
 have hm : o ∈ l := List.mem_of_getElem? (i := j) (by simpa using hj)
 have := List.all_eq_true.1 h o hm
 rw [hc] at this
 cases this
def RP (P : Program) (r : Option Nat) (n : Nat) (ds : List (Option Tmp)) (ks : List Nat) (rest : List Oper) (Q : Post) (D : List Deferred) (L : Sl) (M0 M : Mem) (Hs Hx : Hp) : Prop :=
 ∀ (ops : Array Oper) (k : List Nat) (listed : Array Bool), OpsOf ds ops → Region.noSelect ops = true → NoDefer ops → NoPanic Q → picked ops k rest → planFrom ops ks k listed = true → ks.length = rest.length → M0.le M →
  ∀ a, Fr n D L a → AnyH r P ops M0 Hs Q rest.length listed a M Hx
theorem C.regionO {id : Nat} {l : List Oper} (l' : List Oper) (ks : List Nat) (is : List Nat) (Hs Hx : Hp) (hm : P.follows .mixedOrders = true) (hH : Arr H (Hs ++ Hx)) (hQ : NoPanic Q) (hp : picked l.toArray is l') (hB : (Region.noSelect l.toArray && noDeferB l && planFrom l.toArray ks is (Array.replicate l.length false) && Nat.beq ks.length l'.length && Nat.beq l'.length l.length) = true)
  (h : ∀ ds, ds = l.map (·.dst) → RP P r n ds ks l' Q D L M M Hs Hx) : C P r n (.region id l.toArray true) Q D L M H := by
 intro a w hf hh
 simp only [Bool.and_eq_true] at hB
 obtain ⟨⟨⟨⟨h1, h2⟩, h3⟩, h4⟩, h5⟩ := hB
 refine wpIn_region_any hm (AnyH.any (M0 := M) (Hs := Hs) _ _ _ M Hx _ ((hH.heap hh).drawn _) ?_)
 have := h _ rfl l.toArray is (Array.replicate l.length false) (OpsOf.self l) h1 (NoDefer.of h2) hQ hp h3 (Nat.eq_of_beq_eq_true h4) (Mem.le_refl M) a hf
 rw [Nat.eq_of_beq_eq_true h5] at this
 simpa using this
theorem picked_from (l : List Oper) : ∀ (pre rest : List Oper), l = pre ++ rest → picked l.toArray (List.range' pre.length rest.length) rest
 | _, [], _ => trivial
 | pre, o :: rest, h => by
  refine ⟨by subst h; simp, ?_⟩
  have := picked_from l (pre ++ [o]) rest (by simp [h])
  simpa using this
theorem C.regionP {id : Nat} {l : List Oper} (ks : List Nat) (Hs Hx : Hp) (hm : P.follows .mixedOrders = true) (hH : Arr H (Hs ++ Hx)) (hQ : NoPanic Q) (hB : (Region.noSelect l.toArray && noDeferB l && planFrom l.toArray ks (List.range' 0 l.length) (Array.replicate l.length false) && Nat.beq ks.length l.length) = true)
  (h : ∀ ds, ds = l.map (·.dst) → RP P r n ds ks l Q D L M M Hs Hx) : C P r n (.region id l.toArray true) Q D L M H := by
 refine C.regionO l ks (List.range' 0 l.length) Hs Hx hm hH hQ (picked_from l [] l rfl) ?_ h
 simp only [Bool.and_eq_true] at hB ⊢
 exact ⟨hB, by simp⟩
section
variable {d : Option Tmp} {op : Op} {ty : TypeId} {pos : String} {af : Array Edge} {g : Option (Nat × Bool)} {v : Value} {ds : List (Option Tmp)} {ks : List Nat} {rest : List Oper} {M0 : Mem} {Hs Hx : Hp}
theorem RP.nil (h : Fin n .normal Q D L M (Hs ++ Hx)) : RP P r n ds [] [] Q D L M0 M Hs Hx := by
 intro ops k listed _ _ _ _ _ hp _ hM a hf
 exact ⟨hM, by simpa [planFrom] using hp, fun w hh => h a w hf hh⟩
theorem RP.weak (hs : sub L' L) (h : RP P r n ds ks rest Q D L' M0 M Hs Hx) : RP P r n ds ks rest Q D L M0 M Hs Hx :=
 fun ops k listed h1 h2 h3 h4 h5 h6 h7 h8 a hf => h ops k listed h1 h2 h3 h4 h5 h6 h7 h8 a (hf.weak hs)
theorem RP.step_ (hY : ∀ (ops : Array Oper) (a : Act), OpsOf ds ops → Fr n D L a → Yc P ops M0 Hs ⟨d, op, ty, pos, af, g⟩ v a) (hd : dok n d = true)
  (k : RP P r n ds ks rest Q D (bnd d v L) M0 M Hs Hx) : RP P r n ds (1 :: ks) (⟨d, op, ty, pos, af, g⟩ :: rest) Q D L M0 M Hs Hx := by
 intro ops js listed hO hS hN hQ hl hp hlen hM a hf
 cases js with
 | nil => exact hl.elim
 | cons j js =>
 have h0 : ops[j]? = some ⟨d, op, ty, pos, af, g⟩ := hl.1
 simp only [planFrom, Bool.and_eq_true] at hp
 obtain ⟨⟨p1, p2⟩, p3⟩ := hp
 have key : AnyH r P ops M0 Hs Q rest.length (listed.setIfInBounds j true) (a.put d v) M Hx :=
  k ops js _ hO hS hN hQ hl.2 p3 (by simpa using hlen) hM _ (hf.put d hd v)
 exact AnyH.first h0 (Region.noSelect_spec hS) hN hQ rest.length listed a M Hx (Region.free_spec h0 p2) (by simpa using p1) (hY ops a hO hf) key
theorem Ok.qr {o : Oper} {a : Act} {w : World} (h : Ok P o L M H v) (hf : Fr n D L a) (hh : Heap w M H) : Qr P M H w v ((execOp a.eval o).run P w) := by
 rw [h _ _ _ _ hf hh]
 exact ⟨rfl, rfl⟩
theorem RP.step (hok : ∀ M' Hx', M0.le M' → Ok P ⟨d, op, ty, pos, af, none⟩ L M' (Hs ++ Hx') v) (hd : dok n d = true)
  (k : RP P r n ds ks rest Q D (bnd d v L) M0 M Hs Hx) : RP P r n ds (1 :: ks) (⟨d, op, ty, pos, af, none⟩ :: rest) Q D L M0 M Hs Hx :=
 RP.step_ (fun _ _ _ hf => .inl ⟨by simp [Region.wanted], fun M' Hx' w hM' hh' => (hok M' Hx' hM').qr hf hh'⟩) hd k
theorem RP.stepT {j : Nat} {want : Bool} {dj : Tmp} (hdj : ds[j]? = some (some dj)) (hb : lk L dj = some (.bool want)) (hlt : Nat.ble (dj + 1) n = true) (hok : ∀ M' Hx', M0.le M' → Ok P ⟨d, op, ty, pos, af, some (j, want)⟩ L M' (Hs ++ Hx') v) (hd : dok n d = true)
  (k : RP P r n ds ks rest Q D (bnd d v L) M0 M Hs Hx) : RP P r n ds (1 :: ks) (⟨d, op, ty, pos, af, some (j, want)⟩ :: rest) Q D L M0 M Hs Hx :=
 RP.step_ (fun _ _ hO hf => .inl ⟨by rw [wanted_guard hf hO hdj hb hlt]; simp, fun M' Hx' w hM' hh' => (hok M' Hx' hM').qr hf hh'⟩) hd k
theorem RP.stepF {j : Nat} {want b : Bool} {dj : Tmp} (hdj : ds[j]? = some (some dj)) (hb : lk L dj = some (.bool b)) (hlt : Nat.ble (dj + 1) n = true) (hne : (b == want) = false) (hd : dok n d = true)
  (k : RP P r n ds ks rest Q D (bnd d undef L) M0 M Hs Hx) : RP P r n ds (1 :: ks) (⟨d, op, ty, pos, af, some (j, want)⟩ :: rest) Q D L M0 M Hs Hx :=
 RP.step_ (fun _ _ hO hf => .inr ⟨by rw [wanted_guard hf hO hdj hb hlt]; exact hne, rfl⟩) hd k
theorem RP.callQ {f : Nat} {xs : List Operand} {vs : List Value} {ts : Array TypeId} [he : Ent P f] (hx : Evs L xs vs) (hd : dok n d = true) (hK : ∀ M' Hx', M0.le M' → K P f vs M' (Hs ++ Hx') (fun u M2 H2 => u = v ∧ M2 = M' ∧ H2 = Hs ++ Hx'))
  (k : RP P r n ds ks rest Q D (bnd d v L) M0 M Hs Hx) : RP P r n ds (1 :: ks) (⟨d, .call ⟨.value (.func f), xs.toArray, ts⟩, ty, pos, af, none⟩ :: rest) Q D L M0 M Hs Hx :=
 RP.step_ (fun _ a _ hf => .inl ⟨by simp [Region.wanted], fun M' Hx' w hM' hh' => by
  rw [callArgs_run hf hx]
  refine ⟨rfl, (hK M' Hx' hM' w hh').mono ?_⟩
  rintro e w' ⟨u, M2, H2, rfl, ⟨rfl, rfl, rfl⟩, hh2⟩
  exact ⟨rfl, hh2⟩⟩) hd k
theorem AnyH.base {ops : Array Oper} {M0 M1 : Mem} {Hs E : Hp} (h0 : M0.le M1) : ∀ (f : Nat) (listed : Array Bool) (a : Act) (M : Mem) (Hx : Hp), AnyH r P ops M1 (Hs ++ E) Q f listed a M Hx → AnyH r P ops M0 Hs Q f listed a M (E ++ Hx)
 | 0, _, _, _, _, h => ⟨Mem.le_trans h0 h.1, h.2.1, fun w hh => h.2.2 w (by rw [List.append_assoc]; exact hh)⟩
 | f + 1, _, _, _, _, h => ⟨Mem.le_trans h0 h.1, fun e w hh => h.2.1 e w (by rw [List.append_assoc]; exact hh), fun i hi w hh =>
   wpOpIn_mono (fun a' w' ⟨M', Hx', hh', h'⟩ => ⟨M', E ++ Hx', by rw [← List.append_assoc]; exact hh', AnyH.base h0 f _ a' M' Hx' h'⟩) (h.2.2 i hi w (by rw [List.append_assoc]; exact hh))⟩
def KP (P : Program) (r : Option Nat) (n : Nat) (ds : List (Option Tmp)) (ks : List Nat) (rest : List Oper) (Q : Post) (M0 : Mem) (Hs : Hp) (Kc : Act → World → Prop) : Prop :=
 ∀ D L' M1 M' E Hx', M0.le M1 → M1.le M' → RP P r n ds ks rest Q D L' M1 M' (Hs ++ E) Hx' → ∀ a w, Fr n D L' a → Heap w M' (Hs ++ (E ++ Hx')) → Kc a w
theorem Fin.kp {Kc : Act → World → Prop} (hk : KP P r n ds ks rest Q M0 Hs Kc) (hM : M0.le M) (ha : Arr H (Hs ++ Hx)) (h : RP P r n ds ks rest Q D L M0 M Hs Hx) : Fin n .normal (Exit.then Kc Q) D L M H :=
 fun a w hf hh => hk D L M0 M [] Hx (Mem.le_refl _) hM (by rw [List.append_nil]; exact h) a w hf (ha.heap hh)
theorem Fin.kpB {Kc : Act → World → Prop} {E : Hp} (hk : KP P r n ds ks rest Q M0 Hs Kc) (hM : M0.le M) (ha : Arr H (Hs ++ (E ++ Hx))) (h : RP P r n ds ks rest Q D L M M (Hs ++ E) Hx) : Fin n .normal (Exit.then Kc Q) D L M H :=
 fun a w hf hh => hk D L M M E Hx hM (Mem.le_refl _) h a w hf (ha.heap hh)
theorem wpIn_post {o : Oper} {a : Act} {w : World} {K : Act → World → Prop} {Q Q' : Post} (hp : ∀ c a w, Q (.panic c) a w → Q' (.panic c) a w) (ho : ∀ a w, Q .outgrown a w → Q' .outgrown a w) (h : o.wpIn (F0 r) 0 P a w K Q) : o.wpIn (F0 r) 0 P a w K Q' := by
 unfold Oper.wpIn at *
 refine ⟨h.1, ?_⟩
 have hh := h.2
 have hL : LetsOut Q → LetsOut Q' := fun ⟨a, w, hq⟩ => ⟨a, w, ho a w hq⟩
 generalize (o.semAt (F0 r).round a.eval).run P w = r at *
 cases r with
 | ok x w' =>
  cases x <;> simp only [Oper.uponIn] at hh ⊢
  case value => exact hh
  case skip => exact hh
  case defer => exact hh
  case enter => exact ⟨hh.1, CallsIn.mono hh.2 (fun e w'' he => by cases e <;> first | exact he | exact hp _ _ _ he | exact hL he)⟩
  case row => exact hh
  case round => exact ⟨hh.1, RoundIn.mono hh.2 (fun e w'' he => by cases e <;> first | exact he | exact hp _ _ _ he | exact hL he)⟩
 | halt x w' => cases x <;> simp only [Oper.uponIn] at hh ⊢; exact hp _ _ _ hh
theorem RP.eff_ (hw : ∀ (ops : Array Oper) (a : Act), OpsOf ds ops → Fr n D L a → Region.wanted ⟨d, op, ty, pos, af, g⟩ (yielded ops a.tmps) = true)
  (h : ∀ Kc, KP P r n ds ks rest Q M0 Hs Kc → ∀ ops, R false P r n ops [⟨d, op, ty, pos, af, none⟩] (Exit.then Kc Q) D L M (Hs ++ Hx)) : RP P r n ds (0 :: ks) (⟨d, op, ty, pos, af, g⟩ :: rest) Q D L M0 M Hs Hx := by
 intro ops js listed hO hS hN hQ hl hp hlen hM a hf
 cases js with
 | nil => exact hl.elim
 | cons j js =>
 have h0 : ops[j]? = some ⟨d, op, ty, pos, af, g⟩ := hl.1
 simp only [planFrom, Bool.and_eq_true, decide_eq_true_eq] at hp
 obtain ⟨⟨p1, p2⟩, p3⟩ := hp
 change AnyH r P ops M0 Hs Q (rest.length + 1) listed a M Hx
 refine ⟨hM, fun e => (by rw [p2] at e; cases e), fun i hi w hh => ?_⟩
 rw [p2] at hi
 simp only [List.mem_singleton] at hi
 subst hi
 have hk : KP P r n ds ks rest Q M0 Hs (fun a' w' => ∃ M' Hx', Heap w' M' (Hs ++ Hx') ∧ AnyH r P ops M0 Hs Q rest.length (listed.setIfInBounds i true) a' M' Hx') := by
  intro D' L' M1 M' E Hx' h1 hM' hRP a' w' hf' hh'
  exact ⟨M', E ++ Hx', hh', AnyH.base h1 _ _ _ _ _ (hRP ops js _ hO hS hN hQ hl.2 p3 (by simpa using hlen) hM' a' hf')⟩
 have h1 := h _ hk #[] a w hf hh
 unfold wpListIn at h1
 rw [if_pos (by simp [Region.wanted])] at h1
 unfold wpOpIn
 simp only [h0]
 rw [hw ops a hO hf, if_pos rfl]
 exact (wpIn_post (fun _ _ _ h => h) (fun _ _ h => h) h1 : (⟨d, op, ty, pos, af, none⟩ : Oper).wpIn (F0 r) 0 P a w _ Q)
theorem RP.eff (h : ∀ Kc, KP P r n ds ks rest Q M0 Hs Kc → ∀ ops, R false P r n ops [⟨d, op, ty, pos, af, none⟩] (Exit.then Kc Q) D L M (Hs ++ Hx)) : RP P r n ds (0 :: ks) (⟨d, op, ty, pos, af, none⟩ :: rest) Q D L M0 M Hs Hx :=
 RP.eff_ (fun _ _ _ _ => by simp [Region.wanted]) h
def KE (P : Program) (r : Option Nat) (n : Nat) (o : Oper) (Q' : Post) (M0 : Mem) (Hs : Hp) (Kc : Act → World → Prop) : Prop :=
 ∀ D L' M' Hx', M0.le M' → (∀ ops, R false P r n ops [o] Q' D L' M' (Hs ++ Hx')) → ∀ a w, Fr n D L' a → Heap w M' (Hs ++ Hx') → Kc a w
theorem Fin.ke {o : Oper} {Q' : Post} {Kc : Act → World → Prop} (hk : KE P r n o Q' M0 Hs Kc) (hM : M0.le M) (ha : Arr H (Hs ++ Hx)) (h : ∀ ops, R false P r n ops [o] Q' D L M (Hs ++ Hx)) : Fin n .normal (Exit.then Kc Q) D L M H :=
 fun a w hf hh => hk D L M Hx hM h a w hf (ha.heap hh)
def Meet {X : Type} (n : Nat) (D : List Deferred) (I : X → Prop) (Lf : X → Sl) (Mf : X → Mem) (Hf : X → Hp) (M0 : Mem) (Hs : Hp) (a : Act) (w : World) : Prop :=
 ∃ y, I y ∧ M0.le (Mf y) ∧ Fr n D (Lf y) a ∧ Heap w (Mf y) (Hs ++ Hf y)
theorem Fin.meet {X : Type} {I : X → Prop} {Lf : X → Sl} {Mf : X → Mem} {Hf : X → Hp} (y : X) (hI : I y) (hM0 : M0.le (Mf y)) (hL : sub (Lf y) L) (hM : M = Mf y) (ha : Arr H (Hs ++ Hf y)) : Fin n .normal (Exit.then (Meet n D I Lf Mf Hf M0 Hs) Q) D L M H := by
 intro a w hf hh
 subst hM
 exact ⟨y, hI, hM0, hf.weak hL, ha.heap hh⟩
theorem wpOpIn_eff {ops : Array Oper} {i : Nat} {op : Op} {ty : TypeId} {pos : String} {af : Array Edge} {a : Act} {w : World} {Kc : Act → World → Prop} (h0 : ops[i]? = some ⟨d, op, ty, pos, af, none⟩) (h1 : wpListIn (F0 r) 0 P #[] (Exit.then Kc Q) [⟨d, op, ty, pos, af, none⟩] a w) : wpOpIn (F0 r) 0 P ops Q i Kc a w := by
 unfold wpListIn at h1
 rw [if_pos (by simp [Region.wanted])] at h1
 unfold wpOpIn
 simp only [h0]
 rw [if_pos (by simp [Region.wanted])]
 exact (wpIn_post (fun _ _ _ h => h) (fun _ _ h => h) h1 : (⟨d, op, ty, pos, af, none⟩ : Oper).wpIn (F0 r) 0 P a w _ Q)
theorem RP.pair {X : Type} (I : X → Prop) (Lf : X → Sl) (Mf : X → Mem) (Hf : X → Hp) {d2 : Option Tmp} {op2 : Op} {ty2 : TypeId} {pos2 : String} {af2 : Array Edge}
  (h1 : ∀ Kc, KE P r n ⟨d2, op2, ty2, pos2, af2, none⟩ (Exit.then (Meet n D I Lf Mf Hf M0 Hs) Q) M0 Hs Kc → ∀ ops, R false P r n ops [⟨d, op, ty, pos, af, none⟩] (Exit.then Kc Q) D L M (Hs ++ Hx))
  (h2 : ∀ Kc, KE P r n ⟨d, op, ty, pos, af, none⟩ (Exit.then (Meet n D I Lf Mf Hf M0 Hs) Q) M0 Hs Kc → ∀ ops, R false P r n ops [⟨d2, op2, ty2, pos2, af2, none⟩] (Exit.then Kc Q) D L M (Hs ++ Hx))
  (k : ∀ y, I y → RP P r n ds ks rest Q D (Lf y) M0 (Mf y) Hs (Hf y)) : RP P r n ds (2 :: 2 :: ks) (⟨d, op, ty, pos, af, none⟩ :: ⟨d2, op2, ty2, pos2, af2, none⟩ :: rest) Q D L M0 M Hs Hx := by
 intro ops js listed hO hS hN hQ hl hp hlen hM a hf
 match js with
 | [] => exact hl.elim
 | [_] => exact hl.2.elim
 | i :: j :: js =>
 have hi0 : ops[i]? = some ⟨d, op, ty, pos, af, none⟩ := hl.1
 have hj0 : ops[j]? = some ⟨d2, op2, ty2, pos2, af2, none⟩ := hl.2.1
 simp only [planFrom, Bool.and_eq_true, decide_eq_true_eq] at hp
 obtain ⟨⟨⟨⟨⟨p1, p2⟩, p3⟩, p4⟩, p5⟩, p6⟩ := hp
 have hij : i ≠ j := fun e => by subst e; simp at p5
 have hcomm : (listed.setIfInBounds j true).setIfInBounds i true = (listed.setIfInBounds i true).setIfInBounds j true := Array.setIfInBounds_comm _ _ (Ne.symm hij)
 have key : ∀ a' w', Meet n D I Lf Mf Hf M0 Hs a' w' → ∃ M' Hx', Heap w' M' (Hs ++ Hx') ∧ AnyH r P ops M0 Hs Q rest.length ((listed.setIfInBounds i true).setIfInBounds j true) a' M' Hx' := by
  rintro a' w' ⟨y, hI, hMy, hfy, hhy⟩
  exact ⟨Mf y, Hf y, hhy, k y hI ops js _ hO hS hN hQ hl.2.2 p6 (by simpa using hlen) hMy a' hfy⟩
 change AnyH r P ops M0 Hs Q (rest.length + 2) listed a M Hx
 refine ⟨hM, fun e => (by rw [e] at p2; simp at p2), fun q hq w hh => ?_⟩
 have hq' := List.all_eq_true.1 p1 q hq
 rw [Bool.or_eq_true] at hq'
 rcases hq' with hq' | hq'
 ·obtain rfl := Nat.eq_of_beq_eq_true hq'
  refine wpOpIn_eff hi0 (h1 _ ?_ #[] a w hf hh)
  intro D' L' M' Hx' hM' hR a' w' hf' hh'
  refine ⟨M', Hx', hh', ?_⟩
  refine ⟨hM', fun e => (by rw [p3] at e; cases e), fun q2 hq2 w2 hh2 => ?_⟩
  rw [p3, List.mem_singleton] at hq2
  subst hq2
  exact wpOpIn_mono key (wpOpIn_eff hj0 (hR #[] a' w2 hf' hh2))
 ·obtain rfl := Nat.eq_of_beq_eq_true hq'
  refine wpOpIn_eff hj0 (h2 _ ?_ #[] a w hf hh)
  intro D' L' M' Hx' hM' hR a' w' hf' hh'
  refine ⟨M', Hx', hh', ?_⟩
  refine ⟨hM', fun e => (by rw [p4] at e; cases e), fun q2 hq2 w2 hh2 => ?_⟩
  rw [p4, List.mem_singleton] at hq2
  subst hq2
  refine wpOpIn_mono ?_ (wpOpIn_eff hi0 (hR #[] a' w2 hf' hh2))
  rw [hcomm]
  exact key
end
end Go.Sx
end
section
namespace Go.Sx
open Go.ChangeShapes Go.WideShapes Go.ChangeAt Go.RowKit
def Mem.of (W : World) : Mem := ⟨W.os, W.output, fun b => W.heap[b]?⟩
theorem Heap.of_ (W : World) : Heap W (Mem.of W) [] := ⟨rfl, rfl, fun _ _ h => h, by simp, by simp, by simp⟩
structure Kept (W W' : World) : Prop where
 os : W'.os = W.os
 out : W'.output = W.output
 block : ∀ k, k < W.heap.size → W'.heap[k]? = W.heap[k]?
theorem Kept.of_ {W W' : World} {M' : Mem} {H' : Hp} (h : Heap W' M' H') (hM : (Mem.of W).le M') : Kept W W' := by
 refine ⟨h.os.trans hM.1, h.out.trans hM.2.1, fun k hk => ?_⟩
 have h1 : (Mem.of W).at_ k = some W.heap[k] := Array.getElem?_eq_getElem hk
 rw [h.pool k _ (hM.2.2 _ _ h1)]
 exact h1.symm
theorem Kept.frame {W W' : World} (h : Kept W W') (may : MemPlace → Prop) : W.keptBut W' may := by
 refine ⟨h.os, h.out, fun i hi => ?_⟩
 rw [h.block i hi]
 split <;> simp_all
theorem Kept.same {W W' : World} (h : Kept W W') {p : MemPlace} (hp : p.block < W.heap.size) : W.sameAt W' p := by
 cases p with
 | cell b o => exact World.cell?_of_block (w := W) (h.block b hp)
 | map b => exact h.block b hp
section
variable {H : Type} {enc : TypeId × Value → H} {P : Program}
theorem trodAll_kept (hl : laidOutB P = true) {W W' : World} (hk : Kept W W') : ∀ (ts : List TypeId) (vs : List Value) (ds : List (DataW H)) (ps : List MemPlace), (∀ t ∈ ts, P.readableRec t = true ∧ t < P.types.size) →
  DataW.TrodAll enc P W 0 (fun _ => true) true ts vs ds ps → (∀ x ∈ ps, x.block < W.heap.size) → DataW.TrodAll enc P W' 0 (fun b => decide (b < W.heap.size)) true ts vs ds ps
 | [], vs, ds, ps, _, h, _ => by
  obtain ⟨rfl, rfl, rfl⟩ := trodAll_nil h
  exact trodAll_mk0
 | t :: ts, vs, ds, ps, ht, h, hlt => by
  obtain ⟨v, vs', d, ds', p, q, rfl, rfl, rfl, h0, h1⟩ := trodAll_cons h
  obtain ⟨r1, r2⟩ := ht t (List.mem_cons_self ..)
  refine trodAll_cons_mk (WideElems.Trod_stays hl r1 r2 h0 (fun x hx => hk.same (hlt x (List.mem_append_left _ hx))) (fun x hx => by simpa using hlt x (List.mem_append_left _ hx))) ?_
  exact trodAll_kept hl hk ts vs' ds' q (fun t' ht' => ht t' (List.mem_cons_of_mem _ ht')) h1 (fun x hx => hlt x (List.mem_append_right _ hx))
theorem law_post {f : Func} {s : ChangeSpec} {W W' : World} {args : Array Value} {ds gs : List (DataW H)} {before : List MemPlace} {tb : TypeId}
  (hW : DataW.Whole enc P f.params.toList s.vars false W args.toList ds gs before) (hv : s.vars = []) (hfn : ∀ ds, ds.length = f.params.size → s.fn H ds = { results := [.lit (.bool true)], args := ds }) (hk : Kept W W') (hl : laidOutB P = true)
  (hr : ∀ t ∈ f.params.toList, P.readableRec t = true ∧ t < P.types.size) (ht : f.resultTypes = #[tb]) (hub : P.underlying tb = some .bool) :
  s.post enc P f false true false false W args (.bool true) W' := by
 have hW' := hW
 have hlt : ∀ p ∈ before, p.block < W.heap.size := fun p hp => hW.lt p hp
 obtain ⟨p, q, hA, hV, rfl, hfz, hnd⟩ := hW
 rw [hv] at hV
 obtain ⟨rfl, rfl⟩ := trodVars_none hV
 have hlen : ∀ (ts : List TypeId) (vs : List Value) (ds : List (DataW H)) (p : List MemPlace), DataW.TrodAll enc P W 0 (fun _ => true) true ts vs ds p → ds.length = ts.length := by
  intro ts
  induction ts with
  | nil => intro vs ds p h; obtain ⟨_, rfl, _⟩ := trodAll_nil h; rfl
  | cons t ts ih =>
   intro vs ds p h
   obtain ⟨v, vs', d, ds', p, q, rfl, rfl, rfl, h0, h1⟩ := trodAll_cons h
   simp [ih _ _ _ h1]
 have hf := hfn ds (by rw [hlen _ _ _ _ hA]; simp)
 simp only [List.append_nil] at hW' hlt
 have e : s.fn H (ds ++ []) = { results := [.lit (.bool true)], args := ds } := by rw [List.append_nil]; exact hf
 refine ⟨ds, [], p, [], p, [], hW', ?_, ?_, ?_, ?_, fun h => by cases h⟩
 ·rw [e, ht]
  exact trodAll_mk1 (shut_bool hub _)
 ·rw [e]
  exact trodAll_kept hl hk _ _ _ _ hr hA hlt
 ·rw [hv, e]
  rfl
 ·exact hk.frame _
end
section
variable {H : Type} {enc : TypeId × Value → H} {P : Program} {W : World} {n : Nat} {t : TypeId} {cs : List Value} {x : DataW H × List MemPlace}
abbrev Trd (enc : TypeId × Value → H) (P : Program) (W : World) (n : Nat) (t : TypeId) (cs : List Value) (x : DataW H × List MemPlace) : Prop := DataW.trod enc P W 0 (fun _ => true) true n t cs = some x
abbrev Wgt (P : Program) (t : TypeId) (d : DataW H) : Prop := ∀ z ∈ DataW.weights P t d, z ≤ reachBytes
theorem rd_int {k : IntKind} [hu : Und P t (.int k)] (h : Trd enc P W n t cs x) : ∃ z, cs = [.int k z] ∧ k.has z := by
 obtain ⟨z, e, _, hz⟩ := DataW.trod_int hu.h h
 refine ⟨z, e, ?_⟩
 simpa [Lit.wf, IntKind.has] using hz
theorem pl_of_cells {a : Addr} {xs : List Value} (h : ∀ (i : Nat) (u : Value), xs[i]? = some u → W.cell? (a.add i) = some u) : Pl (Mem.of W) (some a) xs := by
 cases xs with
 | nil => exact Pl.nil
 | cons u xs =>
  right
  have h0 := h 0 u rfl
  unfold World.cell? Addr.add at h0
  simp only [if_true] at h0
  obtain ⟨b, o, s⟩ := a
  cases s with
  | some k => cases hb : W.heap[b]? with
   | none => simp [hb] at h0
   | some ob => cases ob <;> simp [hb] at h0
  | none =>
   cases hb : W.heap[b]? with
   | none => simp [hb] at h0
   | some ob =>
    cases ob with
    | cells c e fr =>
     refine ⟨b, o, c, e, fr, rfl, hb, fun j v hj => ?_⟩
     have := h j v hj
     rw [Addr.add_lit] at this
     simpa [World.cell?, hb] using this
    | _ => simp [hb] at h0
theorem flatten_get {sz : Nat} : ∀ (css : List (List Value)) (_ : ∀ c ∈ css, c.length = sz) (i : Nat) (u : Value), css.flatten[i]? = some u → 0 < sz ∧ ∃ c, css[i / sz]? = some c ∧ c[i % sz]? = some u
 | [], _, i, u, h => by simp at h
 | c :: css, hl, i, u, h => by
  have hc := hl c (List.mem_cons_self ..)
  simp only [List.flatten_cons] at h
  by_cases hi : i < c.length
  ·rw [List.getElem?_append_left hi] at h
   refine ⟨by omega, c, ?_, ?_⟩
   ·rw [Nat.div_eq_of_lt (by omega)]; rfl
   ·rw [Nat.mod_eq_of_lt (by omega)]; exact h
  ·rw [List.getElem?_append_right (by omega)] at h
   obtain ⟨h0, c', h1, h2⟩ := flatten_get css (fun c h => hl c (List.mem_cons_of_mem _ h)) _ u h
   rw [hc] at h1 h2
   refine ⟨h0, c', ?_, ?_⟩
   ·have : i / sz = (i - sz) / sz + 1 := by
     rw [← Nat.add_div_right _ h0, Nat.sub_add_cancel (by omega)]
    rw [this]; simpa using h1
   ·rw [Nat.mod_eq_sub_mod (by omega)]; exact h2
theorem rd_slice {e : TypeId} {sz by_ : Nat} {z : Value} [hu : Und P t (.slice e)] [hi : Inf P e sz by_ z] (h : Trd enc P W n t cs x) (hw : Wgt P t x.1) :
  ∃ (A : Option Addr) (css : List (List Value)) (cap : Nat), cs = [.slice A css.length cap] ∧ css.length ≤ cap ∧ Pl (Mem.of W) A css.flatten ∧ cap * by_ ≤ 140737488351232 ∧
   (∀ c ∈ css, c.length = sz ∧ ∃ m y, Trd enc P W m e c y ∧ Wgt P e y.1) := by
 have hc : P.cellsOf e = sz := by
  obtain ⟨i, h1, h2, _, _⟩ := hi.h
  simp [Program.cellsOf, h1, h2]
 have hb : P.bytesOf e = by_ := by
  obtain ⟨i, h1, _, h2, _⟩ := hi.h
  simp [Program.bytesOf, h1, h2]
 rcases DataW.trod_slice hu.h h with ⟨rfl, rfl⟩ | ⟨a, len, cap, elems, rest, n, _, rfl, rfl, _, hl, hm, hlen, hel, hsp, _⟩
 ·exact ⟨none, [], 0, rfl, Nat.le_refl _, Pl.nil, by omega, by simp⟩
 obtain ⟨hr, -⟩ := hsp rfl
 have hwt : cap * by_ ≤ 140737488351232 := by
  have := hw ((elems.length + rest.length) * P.bytesOf e) (by simp [DataW.weights, hu.h])
  rw [hb, hlen, hr, show len + (cap - len) = cap by omega] at this
  exact this
 have hex : ∀ i, i < len → ∃ c y, elems[i]? = some y ∧ W.cells? 0 (a.add (i * sz)) sz = some c ∧ Trd enc P W n e c y := by
  intro i hi'
  have h1 := hel i hi'
  rw [hc, List.getElem?_eq_getElem (by omega), Option.bind_eq_some_iff] at h1
  obtain ⟨c, h2, h3⟩ := h1
  exact ⟨c, _, List.getElem?_eq_getElem (by omega), h2, h3⟩
 have hcs : ∃ css : List (List Value), css.length = len ∧ ∀ i, i < len → ∃ c y, css[i]? = some c ∧ elems[i]? = some y ∧ W.cells? 0 (a.add (i * sz)) sz = some c ∧ Trd enc P W n e c y := by
  refine ⟨(List.range len).map fun i => ((W.cells? 0 (a.add (i * sz)) sz).getD []), by simp, fun i hi' => ?_⟩
  obtain ⟨c, y, h1, h2, h3⟩ := hex i hi'
  exact ⟨c, y, by simp [hi', h2], h1, h2, h3⟩
 obtain ⟨css, rfl, hcss⟩ := hcs
 have hall : ∀ c ∈ css, c.length = sz ∧ ∃ m y, Trd enc P W m e c y ∧ Wgt P e y.1 := by
  intro c hc'
  obtain ⟨i, hi', rfl⟩ := List.getElem_of_mem hc'
  obtain ⟨c', y, h1, h2, h3, h4⟩ := hcss i hi'
  rw [List.getElem?_eq_getElem hi', Option.some.injEq] at h1
  subst h1
  refine ⟨(World.cells?_some h3).2.1, n, y, h4, fun z hz => hw z ?_⟩
  have hy : y.1 ∈ elems.map (·.1) := List.mem_map.2 ⟨y, List.mem_of_getElem? h2, rfl⟩
  have hin : ∀ (l : List (DataW H)), y.1 ∈ l → z ∈ DataW.weightsAll P e l := by
   intro l
   induction l with
   | nil => intro h; cases h
   | cons d l ih =>
    intro h
    simp only [DataW.weightsAll, List.mem_append]
    rcases List.mem_cons.1 h with rfl | h
    ·exact .inl hz
    ·exact .inr (ih h)
  simp [DataW.weights, hu.h, hin _ hy]
 refine ⟨some a, css, cap, rfl, hl, pl_of_cells fun i u hiu => ?_, hwt, hall⟩
 obtain ⟨h0, c, h1, h2⟩ := flatten_get css (fun c h => (hall c h).1) i u hiu
 obtain ⟨c', y, h3, _, h4, _⟩ := hcss (i / sz) (List.getElem?_eq_some_iff.1 h1).1
 rw [h1, Option.some.injEq] at h3
 subst h3
 have := (World.cells?_some h4).2.2 (i % sz) (Nat.mod_lt _ h0)
 rw [h2, Addr.add_add, Nat.div_add_mod' i sz] at this
 exact this
theorem byte_has {z : Int} (h : IntKind.u8.has z) : ∃ b : UInt8, bv b = .int .u8 z := by
 have h' : 0 ≤ z ∧ z ≤ 255 := by simpa [IntKind.has, IntKind.min, IntKind.max, IntKind.bits, IntKind.signed] using h
 refine ⟨UInt8.ofNat z.toNat, ?_⟩
 unfold bv
 congr 1
 rw [UInt8.toNat_ofNat']
 omega
theorem rd_bytes {e : TypeId} {z : Value} [hu : Und P t (.slice e)] [he : Und P e (.int .u8)] [hi : Inf P e 1 1 z] (h : Trd enc P W n t cs x) (hw : Wgt P t x.1) :
  ∃ (A : Option Addr) (bs : List UInt8) (cap : Nat), cs = [.slice A bs.length cap] ∧ bs.length ≤ cap ∧ Pl (Mem.of W) A (bs.map bv) ∧ cap ≤ 140737488351232 := by
 obtain ⟨A, css, cap, rfl, hl, hp, hc, hall⟩ := rd_slice (sz := 1) (by_ := 1) (z := z) h hw
 have : ∃ bs : List UInt8, css.length = bs.length ∧ css.flatten = bs.map bv := by
  clear hp hl hw h
  induction css with
  | nil => exact ⟨[], rfl, rfl⟩
  | cons c css ih =>
   obtain ⟨bs, h1, h2⟩ := ih (fun c h => hall c (List.mem_cons_of_mem _ h))
   obtain ⟨_, m, y, h3, _⟩ := hall c (List.mem_cons_self ..)
   obtain ⟨z, rfl, hz⟩ := rd_int h3
   obtain ⟨b, hb⟩ := byte_has hz
   exact ⟨b :: bs, by simp [h1], by simp [h2, ← hb]⟩
 obtain ⟨bs, h1, h2⟩ := this
 exact ⟨A, bs, cap, by rw [h1], by omega, h2 ▸ hp, by omega⟩
end
end Go.Sx
end
section
namespace Go.Sx
open Go.ChangeShapes Go.WideShapes Go.ChangeAt Go.RowKit
variable {P : Program} {r : Option Nat} {n : Nat} {D : List Deferred} {L L' : Sl} {M M' : Mem} {H : Hp} {Q : Post}
theorem Heap.less {w : World} (hM : M.le M') (hu : Heap w M' H) : Heap w M H := by
 refine ⟨hu.os.trans hM.1, hu.out.trans hM.2.1, fun b o hb => hu.pool b o (hM.2.2 b o hb), hu.own, fun b hb => ?_, hu.nodup⟩
 have := hu.apart b hb
 cases h : M.at_ b.1 with
 | none => rfl
 | some o => rw [hM.2.2 b.1 o h] at this; cases this
theorem C.less {c : Code} (hM : M.le M') (h : C P r n c Q D L M H) : C P r n c Q D L M' H := fun a w hf hh => h a w hf (hh.less hM)
theorem Fin.less {e : Exit} (hM : M.le M') (h : Fin n e Q D L M H) : Fin n e Q D L M' H := fun a w hf hh => h a w hf (hh.less hM)
theorem R.less {ops : Array Oper} {rest : List Oper} (hM : M.le M') (h : R false P r n ops rest Q D L M H) : R false P r n ops rest Q D L M' H := fun a w hf hh => h a w hf (hh.less hM)
theorem K.less {f : Nat} {args : List Value} {T : Value → Mem → Hp → Prop} (hM : M.le M') (h : K P f args M H T) : K P f args M' H T := fun w hh => h w (hh.less hM)
theorem Pl.put {b : Nat} {l : List Value} {e : TypeId} {fr : Nat × Nat} : Pl (M.put b (.cells l.toArray e fr)) (some ⟨b, 0, none⟩) l := by
 refine .inr ⟨b, 0, l.toArray, e, fr, rfl, by simp [Mem.put], fun j u hj => by simpa using hj⟩
section
variable {Hh : Type} {enc : TypeId × Value → Hh} {W : World} {t e : TypeId} {v : Value} {d : DataW Hh} {ps : List MemPlace} {b : Nat} {rc : Reach}
theorem law_calls {f : Nat} {fn : Func} {s : ChangeSpec} {args : Array Value} {ds gs : List (DataW Hh)} {before : List MemPlace} {tb : TypeId}
  (hW : DataW.Whole enc P fn.params.toList s.vars false W args.toList ds gs before) (hv : s.vars = []) (hfn : ∀ ds, ds.length = fn.params.size → s.fn Hh ds = { results := [.lit (.bool true)], args := ds }) (hl : laidOutB P = true)
  (hr : ∀ t ∈ fn.params.toList, P.readableRec t = true ∧ t < P.types.size) (ht : fn.resultTypes = #[tb]) (hub : P.underlying tb = some .bool)
  (hK : K P f args.toList (Mem.of W) [] fun v M' _ => v = .bool true ∧ (Mem.of W).le M') :
  Calls P f args W fun e W' => ∃ v, e = .returned v ∧ s.post enc P fn false true false false W args v W' := by
 have h := hK W (Heap.of_ W)
 rw [Array.toArray_toList] at h
 refine h.mono ?_
 rintro e W' ⟨v, M', H', rfl, ⟨rfl, hM⟩, hh⟩
 exact ⟨_, rfl, law_post hW hv hfn (Kept.of_ hh hM) hl hr ht hub⟩
theorem wgt_each {ts : List TypeId} {ds : List (DataW Hh)} {j : Nat} (h : (DataW.weightsEach P ts ds).all (· ≤ reachBytes) = true) (ht : ts[j]? = some t) (hd : ds[j]? = some d) : Wgt P t d := fun z hz => by
 simpa using List.all_eq_true.1 h z (DataW.weights_mem_each ht hd z hz)
theorem val_one {D : TypeDesc} {c : Value} (hu : P.underlying t = some D) (hn : (∀ fs, D ≠ .struct fs) ∧ (∀ n e, D ≠ .array n e)) (hval : Value.okWide P W rc b t v) (h : v.cells.toList = [c]) : v = c := by
 unfold Value.okWide at hval
 rw [hu] at hval
 cases v with
 | agg cs =>
  exfalso
  cases D <;> simp_all [Cell.okWide, Cell.ok]
 | _ => simpa [Value.cells] using h
theorem arg_int {k : IntKind} [hu : Und P t (.int k)] (hval : Value.okWide P W rc b t v) (h : DataW.Trod enc P W 0 (fun _ => true) true t v d ps) : ∃ z, v = .int k z ∧ k.has z := by
 obtain ⟨m, hm⟩ := h
 obtain ⟨z, h1, h2⟩ := rd_int hm
 exact ⟨z, val_one hu.h (by simp) hval h1, h2⟩
theorem arg_slice {sz by_ : Nat} {z : Value} [hu : Und P t (.slice e)] [hi : Inf P e sz by_ z] (hval : Value.okWide P W rc b t v) (h : DataW.Trod enc P W 0 (fun _ => true) true t v d ps) (hw : Wgt P t d) :
  ∃ (A : Option Addr) (css : List (List Value)) (cap : Nat), v = .slice A css.length cap ∧ css.length ≤ cap ∧ Pl (Mem.of W) A css.flatten ∧ cap * by_ ≤ 140737488351232 ∧
   (∀ c ∈ css, c.length = sz ∧ ∃ m y, Trd enc P W m e c y ∧ Wgt P e y.1) := by
 obtain ⟨m, hm⟩ := h
 obtain ⟨A, css, cap, h1, h2⟩ := rd_slice hm hw
 exact ⟨A, css, cap, val_one hu.h (by simp) hval h1, h2⟩
end
end Go.Sx
end
section
namespace Go.Sx
variable {P : Program} {r : Option Nat} {n : Nat} {D : List Deferred} {L L' : Sl} {M M' : Mem} {H : Hp} {Q : Post}
variable {d : Option Tmp} {ty : TypeId} {pos : String} {af : Array Edge} {g : Option (Nat × Bool)} {t t' e : TypeId} {x y : Operand} {p : Addr}
theorem Ok.eqPN [hu : Und P t (.pointer e)] (hx : ev L x = some (.pointer (some p))) (hy : ev L y = some (.pointer none)) : Ok P ⟨d, .binOp .eql t x y t', ty, pos, af, g⟩ L M H (.bool false) := by
 refine Ok.bin hx hy (fun w => by simp [eqGuard]) fun w => ?_
 have h : ∀ d : Nat, (Op.equalIn (d + 1) t (.pointer (some p)) (.pointer none)).run P w = .ok false w := fun d => by
  simp [Op.equalIn, run_underlying hu.h, sizeOf, typeInfo]
 simp only [binOp]
 simp [Op.equal, Op.maxDepth, h 9999]
theorem Ok.nePN [hu : Und P t (.pointer e)] (hx : ev L x = some (.pointer (some p))) (hy : ev L y = some (.pointer none)) : Ok P ⟨d, .binOp .neq t x y t', ty, pos, af, g⟩ L M H (.bool true) := by
 refine Ok.bin hx hy (fun w => by simp [eqGuard]) fun w => ?_
 have h : ∀ d : Nat, (Op.equalIn (d + 1) t (.pointer (some p)) (.pointer none)).run P w = .ok false w := fun d => by
  simp [Op.equalIn, run_underlying hu.h, sizeOf, typeInfo]
 simp only [binOp]
 simp [Op.equal, Op.maxDepth, h 9999]
theorem Pl.cell {A : Option Addr} {xs : List Value} (h : Pl M A xs) (hne : 0 < xs.length) : ∃ b o c e fr, A = some ⟨b, o, none⟩ ∧ M.at_ b = some (.cells c e fr) ∧ ∀ j u, xs[j]? = some u → c[o + j]? = some u := by
 rcases h with rfl | h
 ·simp at hne
 ·exact h
theorem picked.nil {ops : Array Oper} : picked ops [] [] := trivial
theorem picked.cons {ops : Array Oper} {i : Nat} {is : List Nat} {o : Oper} {rest : List Oper} (h : ops[i]? = some o) (hp : picked ops is rest) : picked ops (i :: is) (o :: rest) := ⟨h, hp⟩
theorem Ok.xorB {b c : UInt8} (hx : ev L x = some (bv b)) (hy : ev L y = some (bv c)) : Ok P ⟨d, .binOp .xor t x y t', ty, pos, af, g⟩ L M H (bv (b ^^^ c)) := by
 have h := Ok.xor (P := P) (d := d) (t := t) (t' := t') (ty := ty) (pos := pos) (af := af) (g := g) (M := M) (H := H) hx hy
 have hb : BitVec.ofInt IntKind.u8.bits (b.toNat : Int) = b.toBitVec := by
  show BitVec.ofInt 8 (b.toNat : Int) = b.toBitVec
  rw [BitVec.ofInt_natCast]
  exact BitVec.eq_of_toNat_eq (by simp)
 have hc : BitVec.ofInt IntKind.u8.bits (c.toNat : Int) = c.toBitVec := by
  show BitVec.ofInt 8 (c.toNat : Int) = c.toBitVec
  rw [BitVec.ofInt_natCast]
  exact BitVec.eq_of_toNat_eq (by simp)
 rw [hb, hc] at h
 have e : IntKind.u8.wrap ((b.toBitVec ^^^ c.toBitVec : BitVec 8).toNat : Int) = ((b ^^^ c).toNat : Int) := by
  have h1 : (b ^^^ c).toNat = (b.toBitVec ^^^ c.toBitVec).toNat := rfl
  have h2 : (b ^^^ c).toNat < 256 := UInt8.toNat_lt _
  rw [← h1]
  show ((b ^^^ c).toNat : Int) % 256 = _
  omega
 have e' : bv (b ^^^ c) = .int .u8 (IntKind.u8.wrap ((b.toBitVec ^^^ c.toBitVec : BitVec 8).toNat : Int)) := by rw [e, bv]
 rw [e']
 exact h
theorem C.seqR {id : Nat} {ops : Array Oper} {dr : Bool} {y : Code} (h : ∀ Kn : Act → World → Prop, KOf P r n y Q Kn → C P r n (.region id ops dr) (Exit.then Kn Q) D L M H) : C P r n (.seq (.region id ops dr) y) Q D L M H := C.seqK h
theorem Own.at_ {e m : Nat} {v : Value} {xs : List Value} {hp : Hp} (h : Own e 1 v m xs hp) {i : Nat} (hi : i < m) :
  ∃ (b cap : Nat) (l : List Value), v = .slice (some ⟨b, 0, none⟩) m cap ∧ hp = [(b, .cells l.toArray e (0, 0))] ∧ i < l.length ∧ l[i]? = xs[i]? ∧ ∀ u, Own e 1 v m (xs.set i u) [(b, .cells (l.set i u).toArray e (0, 0))] := by
 obtain ⟨hl, h⟩ := h
 rcases h with ⟨_, h, _⟩ | ⟨b, cap, c, rfl, rfl, h1, h2, h3, h4⟩
 ·omega
 ·refine ⟨b, cap, c.toList, rfl, by simp, by simp [h3]; omega, ?_, fun u => ⟨by simpa using hl, .inr ⟨b, cap, _, rfl, rfl, h1, h2, by simp [h3], ?_⟩⟩⟩
  ·rw [← h4, List.getElem?_take]; simp; omega
  ·simp only [Nat.mul_one] at h4 ⊢
   rw [List.take_set, h4]
theorem Own.of_cells {e b : Nat} {xs : List Value} (h : xs.length ≤ maxLen) : Own e 1 (.slice (some ⟨b, 0, none⟩) xs.length xs.length) xs.length xs [(b, .cells xs.toArray e (0, 0))] :=
 ⟨by simp, .inr ⟨b, xs.length, xs.toArray, rfl, rfl, Nat.le_refl _, h, by simp, by simp⟩⟩
theorem Ok.eqBo {b c : Bool} [hu : Und P t .bool] (hx : ev L x = some (.bool b)) (hy : ev L y = some (.bool c)) : Ok P ⟨d, .binOp .eql t x y t', ty, pos, af, g⟩ L M H (.bool (b == c)) :=
 Ok.bin hx hy (fun w => by simp [eqGuard]) fun w => by simp [binOp, Op.equal, Op.maxDepth, run_equalIn_bool w 9999 t b c hu.h]
theorem Ok.neBo {b c : Bool} [hu : Und P t .bool] (hx : ev L x = some (.bool b)) (hy : ev L y = some (.bool c)) : Ok P ⟨d, .binOp .neq t x y t', ty, pos, af, g⟩ L M H (.bool (b != c)) :=
 Ok.bin hx hy (fun w => by simp [eqGuard]) fun w => by simp [binOp, Op.equal, Op.maxDepth, run_equalIn_bool w 9999 t b c hu.h, bne]
theorem Ok.neBoS {b : Bool} [hu : Und P t .bool] (hx : ev L x = some (.bool b)) (hy : ev L y = some (.bool b)) : Ok P ⟨d, .binOp .neq t x y t', ty, pos, af, g⟩ L M H (.bool false) := by
 have h := Ok.neBo (P := P) (d := d) (t := t) (t' := t') (ty := ty) (pos := pos) (af := af) (g := g) (M := M) (H := H) hx hy
 rwa [show (b != b) = false by simp] at h
theorem Ok.eqBoS {b : Bool} [hu : Und P t .bool] (hx : ev L x = some (.bool b)) (hy : ev L y = some (.bool b)) : Ok P ⟨d, .binOp .eql t x y t', ty, pos, af, g⟩ L M H (.bool true) := by
 have h := Ok.eqBo (P := P) (d := d) (t := t) (t' := t') (ty := ty) (pos := pos) (af := af) (g := g) (M := M) (H := H) hx hy
 rwa [show (b == b) = true by simp] at h
theorem u64_bd {z : Int} (h : IntKind.u64.has z) : 0 ≤ z ∧ z ≤ 18446744073709551615 := by
 simpa [IntKind.has, IntKind.min, IntKind.max, IntKind.bits, IntKind.signed] using h
section
variable {Hh : Type} {enc : TypeId × Value → Hh} {W : World} {m : Nat} {cs : List Value} {z : DataW Hh × List MemPlace}
theorem rd_fields {fs : Array Field} (hu : P.underlying t = some (.struct fs)) (h : Trd enc P W m t cs z) (hw : Wgt P t z.1) :
  cs.length = P.cellsOf t ∧ ∃ k, ∀ (i ft off sz : Nat), (fs[i]?).map (fun f => (f.type, f.offset)) = some (ft, off) → P.cellsOf ft = sz → ∃ y, Trd enc P W k ft ((cs.drop off).take sz) y ∧ Wgt P ft y.1 := by
 obtain ⟨xs, k, _, rfl, h1, h2, h3⟩ := DataW.trod_struct hu h
 refine ⟨h1, k, fun i ft off sz hf0 hsz => ?_⟩
 obtain ⟨f, hf, he⟩ := Option.map_eq_some_iff.1 hf0
 cases he
 subst hsz
 have hi : i < xs.length := by
  rw [h2]
  exact (Array.getElem?_eq_some_iff.1 hf).1
 have h4 := h3 i f hf
 rw [List.getElem?_eq_getElem hi] at h4
 refine ⟨_, h4, fun u hu' => hw u ?_⟩
 simp only [DataW.weights, hu]
 exact DataW.weights_mem_each (j := i) (t := f.type) (d := xs[i].1) (by simp [List.getElem?_map, hf]) (by simp [List.getElem?_map, List.getElem?_eq_getElem hi]) u hu'
theorem flat_get {sz : Nat} : ∀ (css : List (List Value)) (_ : ∀ c ∈ css, c.length = sz) (i j : Nat) (c : List Value) (u : Value), css[i]? = some c → c[j]? = some u → css.flatten[i * sz + j]? = some u
 | [], _, _, _, _, _, h, _ => by simp at h
 | c :: css, hl, 0, j, c', u, h, hj => by
  simp only [List.getElem?_cons_zero, Option.some.injEq] at h
  subst h
  rw [Nat.zero_mul, Nat.zero_add, List.flatten_cons, List.getElem?_append_left (List.getElem?_eq_some_iff.1 hj).1]
  exact hj
 | c :: css, hl, i + 1, j, c', u, h, hj => by
  have hc := hl c (List.mem_cons_self ..)
  have := flat_get css (fun c h => hl c (List.mem_cons_of_mem _ h)) i j c' u (by simpa using h) hj
  rw [List.flatten_cons, List.getElem?_append_right (by rw [hc, Nat.succ_mul]; omega)]
  rw [show (i + 1) * sz + j - c.length = i * sz + j by rw [hc, Nat.succ_mul]; omega]
  exact this
end
theorem Ok.eqStrS {bs : List UInt8} (hx : ev L x = some (.string ⟨bs.toArray⟩)) (hy : ev L y = some (.string ⟨bs.toArray⟩)) : Ok P ⟨d, .binOp .eql t x y t', ty, pos, af, g⟩ L M H (.bool true) := by
 have h := Ok.eqStr (P := P) (d := d) (t := t) (t' := t') (ty := ty) (pos := pos) (af := af) (g := g) (M := M) (H := H) hx hy
 rwa [decide_eq_true rfl] at h
theorem Ok.neStrS {bs : List UInt8} (hx : ev L x = some (.string ⟨bs.toArray⟩)) (hy : ev L y = some (.string ⟨bs.toArray⟩)) : Ok P ⟨d, .binOp .neq t x y t', ty, pos, af, g⟩ L M H (.bool false) := by
 have h := Ok.neStr (P := P) (d := d) (t := t) (t' := t') (ty := ty) (pos := pos) (af := af) (g := g) (M := M) (H := H) hx hy
 rwa [decide_eq_true rfl] at h
theorem Ok.neIS {k : IntKind} {p : Int} (hx : ev L x = some (.int k p)) (hy : ev L y = some (.int k p)) : Ok P ⟨d, .binOp .neq t x y t', ty, pos, af, g⟩ L M H (.bool false) := by
 have h := Ok.neI (P := P) (d := d) (t := t) (t' := t') (ty := ty) (pos := pos) (af := af) (g := g) (M := M) (H := H) hx hy
 rwa [show (p != p) = false by simp] at h
end Go.Sx
end
section
namespace Go.Sx
variable {P : Program} {r : Option Nat} {n : Nat} {D : List Deferred} {L L' : Sl} {M M' : Mem} {H : Hp} {Q : Post}
def KV (P : Program) (y : Value) (vs : List Value) (M : Mem) (H : Hp) (T : Value → Mem → Hp → Prop) : Prop :=
 (∃ f fs cs, y = .func (.func f) fs cs ∧ Ent P f ∧ K P f (fs.toList ++ vs ++ cs.toList) M H T) ∨
 (∃ l, y = .func (.yield l) #[] #[] ∧ ∀ w, Heap w M H → ∃ g tmps asg body, (Instr.yield l vs.toArray).run P w = .ok (.round l g tmps asg body) w ∧
  RoundIn (F0 none) 0 P l g tmps asg body w (fun e w' => ∃ v M' H', e = .returned v ∧ T v M' H' ∧ Heap w' M' H'))
theorem KV.mono {y : Value} {vs : List Value} {T T' : Value → Mem → Hp → Prop} (h : KV P y vs M H T) (ht : ∀ v M' H', T v M' H' → T' v M' H') : KV P y vs M H T' := by
 rcases h with ⟨f, fs, cs, h1, h2, h3⟩ | ⟨l, h1, h2⟩
 ·exact .inl ⟨f, fs, cs, h1, h2, h3.mono ht⟩
 ·refine .inr ⟨l, h1, fun w hh => ?_⟩
  obtain ⟨g, tmps, asg, body, h3, h4⟩ := h2 w hh
  exact ⟨g, tmps, asg, body, h3, h4.mono fun _ _ ⟨v, M', H', a, b, c⟩ => ⟨v, M', H', a, ht _ _ _ b, c⟩⟩
theorem KV.perm {y : Value} {vs : List Value} {T : Value → Mem → Hp → Prop} {H' : Hp} (ha : Arr H H') (h : KV P y vs M H' T) : KV P y vs M H T := by
 rcases h with ⟨f, fs, cs, h1, h2, h3⟩ | ⟨l, h1, h2⟩
 ·exact .inl ⟨f, fs, cs, h1, h2, h3.arr ha⟩
 ·exact .inr ⟨l, h1, fun w hh => h2 w (ha.heap hh)⟩
section
variable {d : Option Tmp} {ty : TypeId} {pos : String} {af : Array Edge} {ops : Array Oper} {rest : List Oper}
theorem R.callV {x : Operand} {xs : List Operand} {vs : List Value} {ts : Array TypeId} {y : Value} {T : Value → Mem → Hp → Prop} (hc : ev L x = some y) (hx : Evs L xs vs) (hd : dok n d = true) (hK : KV P y vs M H T)
  (k : ∀ v M' H', T v M' H' → R false P r n ops rest Q D (bnd d v L) M' H') : R false P r n ops (⟨d, .call ⟨.value x, xs.toArray, ts⟩, ty, pos, af, none⟩ :: rest) Q D L M H := by
 rcases hK with ⟨f, fs, cs, rfl, he, hK⟩ | ⟨l, rfl, hY⟩
 ·exact R.callC (fs := fs.toList) (cs := cs.toList) (by simpa using hc) hx hd hK k
 ·intro a w hf hh
  refine wpListIn_plain rfl fun Kn hKn => ⟨fun f _ => F0_fn _ f, ?_⟩
  obtain ⟨g, tmps, asg, body, h1, h2⟩ := hY w hh
  have hrun : (execOp a.eval ⟨d, .call ⟨.value x, xs.toArray, ts⟩, ty, pos, af, none⟩).run P w = .ok (.round l g tmps asg body) w := by
   have h3 := hf.evs hx
   simp [execOp, resolve, Deferred.ofValue, hf.ev hc, invoke, h3, h1]
  rw [semAt_eq _ (by intro c h; cases h), hrun]
  refine ⟨F0_no, ?_⟩
  have : RoundIn (F0 none) 0 P l g tmps asg body w (fun e w' => match e, w' with
   | .returned v, w'' => Kn (a.put d v) w''
   | .panicked chain, w'' => Q (.panic chain) a w''
   | .outgrown, _ => LetsOut Q) := h2.mono (by
    rintro e w' ⟨v, M', H', rfl, hT, hh'⟩
    exact hKn _ _ (k v M' H' hT _ _ (hf.put d hd v) hh'))
  exact this
end
abbrev recOf (st : LoopState) (pe : Option Code) (fn : FuncId) (tmps : Array Value) (ps : Array Tmp) (asg body : Code) (bD : Nat) : Obj :=
 .loop { state := st, pending := pe, fn, tmps, params := ps, assign := asg, body, defers := bD }
theorem Heap.putObj {w : World} {b : Nat} {o : Obj} {f : Obj → Hp} (h : Heap w M H) (ha : At H b o f) (o' : Obj) : Heap (w.putObj b o') M (f o') :=
 h.put ha (World.putObj_heap_same (heap_lt (h.own _ ha.mem))) (fun _ hk => World.putObj_heap_other hk) rfl rfl
structure RoundOk (P : Program) (l : Nat) (o : LoopState → Option Code → Obj) (T : Value → Mem → Hp → Prop) (Q : Post) : Prop where
 normal : ∀ n D L M H f, At H l (o .busy none) f → T (.bool true) M (f (o .ready none)) → Fin n .normal Q D L M H
 ret : ∀ n D L M H f, At H l (o .busy none) f → T (.bool false) M (f (o .done (some .ret))) → Fin n .ret Q D L M H
 exit : ∀ n D L M H f id, At H l (o .busy none) f → T (.bool false) M (f (o .done (some (.exit id)))) → Fin n (.exit id) Q D L M H
 np : NoPanic Q
def AsgOk (P : Program) (l n : Nat) (o : LoopState → Option Code → Obj) (body : Code) (T : Value → Mem → Hp → Prop) (Q : Post) : Prop :=
 ∀ D L M H f, At H l (o .ready none) f → (∀ Q', RoundOk P l o T Q' → C P (some l) n body Q' D L M (f (o .busy none))) → Fin n .normal Q D L M H
theorem KV.round {l : Nat} {fn : FuncId} {tmps : Array Value} {ps : Array Tmp} {asg body : Code} {bD : Nat} {vs : List Value} {f : Obj → Hp} {T : Value → Mem → Hp → Prop} (hl : At H l (recOf .ready none fn tmps ps asg body bD) f) (hs : vs.length = ps.size)
  (hf : Fr n [] L { tmps := (ps.zip vs.toArray).foldl (fun t (p, v) => t.setIfInBounds p v) tmps, defers := [] })
  (h : ∀ Q, NoPanic Q → AsgOk P l n (fun st pe => recOf st pe fn tmps ps asg body bD) body T Q → C P (some l) n asg Q [] L M H) : KV P (.func (.yield l) #[] #[]) vs M H T := by
 refine .inr ⟨l, rfl, fun w hh => ⟨fn, _, asg, body, run_yield (hh.own _ hl.mem) (by simpa using hs), ?_⟩⟩
 refine roundIn_of_wpIn trivial ?_
 refine h _ ?_ ?_ _ w hf hh
 ·intro c a w hq
  exact hq
 ·intro D1 L1 M1 H1 f1 ha hb a1 w1 hf1 hh1
  refine ⟨_, run_beginRound (hh1.own _ ha.mem) rfl, ?_⟩
  refine hb (roundPost P l fun e w' => ∃ v M' H', e = .returned v ∧ T v M' H' ∧ Heap w' M' H') ⟨?_, ?_, ?_, ?_⟩ a1 _ hf1 (hh1.putObj ha _)
  ·intro n D L M H f ha hT a w _ hh
   exact ⟨_, _, run_endRound none (hh.own _ ha.mem), _, _, _, rfl, hT, hh.putObj ha _⟩
  ·intro n D L M H f ha hT a w _ hh
   exact ⟨_, _, run_endRound (some .ret) (hh.own _ ha.mem), _, _, _, rfl, hT, hh.putObj ha _⟩
  ·intro n D L M H f id ha hT a w _ hh
   exact ⟨_, _, run_endRound (some (.exit id)) (hh.own _ ha.mem), _, _, _, rfl, hT, hh.putObj ha _⟩
  ·intro c a w hq
   exact hq
def bndAll : List Tmp → List Value → Sl → Sl
 | p :: ps, v :: vs, L => bndAll ps vs (bnd (some p) v L)
 | _, _, L => L
theorem Fr.zipped : ∀ {pl : List Tmp} {vs : List Value} {L : Sl} {a : Act}, (∀ p ∈ pl, p < n) → Fr n D L a →
  Fr n D (bndAll pl vs L) { a with tmps := (pl.zip vs).foldl (fun t (x : Tmp × Value) => t.setIfInBounds x.1 x.2) a.tmps }
 | [], vs, L, a, _, h => by simpa [bndAll] using h
 | p :: pl, [], L, a, _, h => by simpa [bndAll] using h
 | p :: pl, v :: vs, L, a, hp, h => by
  have h1 := Fr.put h (some p) (Nat.ble_eq_true_of_le (hp p (List.mem_cons_self ..))) v
  exact Fr.zipped (pl := pl) (vs := vs) (fun q hq => hp q (List.mem_cons_of_mem _ hq)) h1
theorem KV.roundL {l : Nat} {fn : FuncId} {tmps : Array Value} {pl : List Tmp} {asg body : Code} {bD : Nat} {vs : List Value} {f : Obj → Hp} {T : Value → Mem → Hp → Prop} (hl : At H l (recOf .ready none fn tmps pl.toArray asg body bD) f) (hs : vs.length = pl.length)
  (hp : ∀ p ∈ pl, p < n) (hf : Fr n [] L { tmps := tmps, defers := [] })
  (h : ∀ Q, NoPanic Q → AsgOk P l n (fun st pe => recOf st pe fn tmps pl.toArray asg body bD) body T Q → C P (some l) n asg Q [] (bndAll pl vs L) M H) : KV P (.func (.yield l) #[] #[]) vs M H T := by
 refine KV.round (n := n) (L := bndAll pl vs L) hl (by simpa using hs) ?_ h
 have := Fr.zipped (vs := vs) hp hf
 simpa using this
def markOf (b : Nat) : Deferred := { target := .collected b, args := #[] }
theorem C.range {g : Operand} {pl : List Tmp} {asg body : Code} {gf : Nat} {cs : List Value} [he : Ent P gf] (hg : ev L g = some (.func (.func gf) #[] cs.toArray))
  (h : ∀ fn tmps bD l, Fr n [] L { tmps := tmps, defers := [] } →
   K P gf (.func (.yield l) #[] #[] :: cs) M ((l, recOf .ready none fn tmps pl.toArray asg body bD) :: (bD, .deferred (some [])) :: H) fun _ M' H' =>
    ∃ st pe f, st ≠ .busy ∧ At H' l (recOf st pe fn tmps pl.toArray asg body bD) f ∧
     match pe with
     | none => Fin n .normal Q (markOf bD :: D) L M' (f (recOf .exhausted none fn tmps pl.toArray asg body bD))
     | some c => C P none n c Q (markOf bD :: D) L M' (f (recOf .exhausted (some c) fn tmps pl.toArray asg body bD))) : C P none n (.rangeFunc g pl.toArray asg body) Q D L M H := by
 intro a w hf hh
 refine wpIn_rangeFunc ?_
 intro fn _
 have h1 := (hh.alloc (.deferred (some []))).alloc (.loop { state := .ready, pending := none, fn, tmps := a.tmps, params := pl.toArray, assign := asg, body, defers := w.heap.size })
 rw [World.size_alloc] at h1
 obtain ⟨W1, hW1⟩ : ∃ W1, (w.alloc (.deferred (some []))).alloc (.loop { state := .ready, pending := none, fn, tmps := a.tmps, params := pl.toArray, assign := asg, body, defers := w.heap.size }) = W1 := ⟨_, rfl⟩
 rw [hW1] at h1
 have h0 : (Instr.enterLoop fn a.tmps pl.toArray asg body (F0 none).round).run P w = .ok (w.heap.size + 1, [markOf w.heap.size]) W1 := by
  rw [← hW1]
  exact run_enterLoop_outer _ _ _ _ _
 refine ⟨w.heap.size + 1, [markOf w.heap.size], W1, { target := .fn (.func gf) cs.toArray, args := #[.func (.yield (w.heap.size + 1)) #[] #[]] }, W1, gf, #[.func (.yield (w.heap.size + 1)) #[] #[]] ++ cs.toArray, W1, h0, ?_, fun _ _ => F0_fn _ _, ?_, F0_no, ?_⟩
 ·simp only [resolve, hf.ev hg]
  simp [go_sem]
 ·simp [invoke, he.h]
 ·have h2 := h fn a.tmps w.heap.size (w.heap.size + 1) ⟨rfl, hf.size, hf.slot⟩ _ h1
  have e : (Value.func (.yield (w.heap.size + 1)) #[] #[] :: cs).toArray = #[.func (.yield (w.heap.size + 1)) #[] #[]] ++ cs.toArray := by simp
  rw [e] at h2
  refine (callsIn_wide (n := 0 - 1)).2 (h2.mono ?_)
  rintro e w' ⟨v, M', H', rfl, ⟨st, pe, f, hb, hat, hk⟩, hh'⟩
  refine ⟨pe, _, run_endLoop (hh'.own _ hat.mem) hb, ?_⟩
  have h3 := hh'.putObj hat (recOf .exhausted pe fn a.tmps pl.toArray asg body w.heap.size)
  have hf' : Fr n (markOf w.heap.size :: D) L { a with defers := [markOf w.heap.size] ++ a.defers } := ⟨by simp [hf.defers], hf.size, hf.slot⟩
  cases pe with
  | none => exact hk _ _ hf' h3
  | some c => exact hk _ _ hf' h3
theorem C.rangeO {g : Operand} {pl : List Tmp} {asg body : Code} {gf : Nat} {cs : List Value} [he : Ent P gf] (hg : ev L g = some (.func (.func gf) #[] cs.toArray))
  (h : ∀ fn tmps bD l (o : LoopState → Option Code → Obj), (o = fun st pe => recOf st pe fn tmps pl.toArray asg body bD) → Fr n [] L { tmps := tmps, defers := [] } →
   K P gf (.func (.yield l) #[] #[] :: cs) M ((l, o .ready none) :: (bD, .deferred (some [])) :: H) fun _ M' H' =>
    ∃ st pe f, st ≠ .busy ∧ At H' l (o st pe) f ∧
     match pe with
     | none => Fin n .normal Q (markOf bD :: D) L M' (f (o .exhausted none))
     | some c => C P none n c Q (markOf bD :: D) L M' (f (o .exhausted (some c)))) : C P none n (.rangeFunc g pl.toArray asg body) Q D L M H :=
 C.range hg fun fn tmps bD l hf => h fn tmps bD l _ rfl hf
inductive Marks : List Deferred → Hp → Hp → Prop
 | nil (H : Hp) : Marks [] H H
 | cons {D : List Deferred} {H H' : Hp} {b : Nat} {f : Obj → Hp} (ha : At H b (.deferred (some [])) f) (h : Marks D (f (.deferred none)) H') : Marks (markOf b :: D) H H'
theorem Res.results {fn : Func} {rs : List ResultVar} {vs : List Value} {a : Act} {w : World} (hr : fn.results = rs.toArray) (h : Res P L M H rs vs) (hf : Fr n D L a) (hh : Heap w M H) : (results fn a.tmps).run P w = .ok (retv vs) w := by
 have h1 := h _ _ a w hf hh
 unfold Go.results
 rw [hr, List.mapM_toArray, Sem.run_bind, Sem.run_map]
 have h2 := congrArg (fun z : Result (List Value) => (z.andThen fun a w' => Result.ok a.toArray w').andThen fun (a : Array Value) w' => Sem.run P (pure (if h : a.size = 1 then a[0] else Value.tuple a)) w') h1
 refine Eq.trans h2 ?_
 match vs with
 | [] => rfl
 | [v] => rfl
 | v :: u :: vs => simp [Result.andThen, retv]
theorem Marks.leaves {fn : Func} {rs : List ResultVar} {vs : List Value} {T : Value → Mem → Hp → Prop} {H1 H2 : Hp} {D' : List Deferred} (hr : fn.results = rs.toArray) (hres : Res P L M H1 rs vs) (ha : ∀ w, Heap w M H1 → Heap w M H2) (ht : T (retv vs) M H2) {a : Act} (hf : Fr n D' L a) {D : List Deferred} {H : Hp} (hm : Marks D H H1) :
  ∀ w, Heap w M H → LeavesInM (F0 none) 0 P fn a.tmps (fun e w' => ∃ v M' H', e = .returned v ∧ T v M' H' ∧ Heap w' M' H') D .returning w := by
 induction hm with
 | nil H => exact fun w hh => ⟨_, hres.results hr hf hh, _, _, _, rfl, ht, ha w hh⟩
 | cons hat _ ih => exact fun w hh => ⟨by simp, .inl ⟨_, _, rfl, run_takeDeferred (hh.own _ hat.mem), ih hres ha _ (hh.putObj hat _)⟩⟩
def RetOkM (P : Program) (fn : Func) (T : Value → Mem → Hp → Prop) (Q : Post) : Prop :=
 ∀ (n : Nat) (D : List Deferred) (L : Sl) (M : Mem) (H H1 H2 : Hp) (rs : List ResultVar) (vs : List Value) (e : Exit), (e = .ret ∨ e = .normal) → fn.results = rs.toArray → Marks D H H1 → Res P L M H1 rs vs → (∀ w, Heap w M H1 → Heap w M H2) → T (retv vs) M H2 → Fin n e Q D L M H
theorem K.enterM {f : Nat} {fn : Func} {c : Code} {args : List Value} {T : Value → Mem → Hp → Prop} (hf : P.funcs[f]? = some fn) (hb : fn.body = some c) (hn : fn.ntmps = n) (hle : Nat.ble args.length n = true)
  (h : ∀ Q, NoPanic Q → RetOkM P fn T Q → C P none n c Q [] (zipL 0 args) M H) : K P f args M H T := by
 intro w hh
 let R : Ending → World → Prop := fun e w' => ∃ v M' H', e = .returned v ∧ T v M' H' ∧ Heap w' M' H'
 let Q : Post := fun e a w => (∀ c, e ≠ .panic c) ∧ bodyPostM (F0 none) 0 P fn R e a w
 have hC : C P none n c Q [] (zipL 0 args) M H := h Q (fun c a w hq => hq.1 c rfl) (by
  intro n D L M H H1 H2 rs vs e he hr hm hres ha ht a w hf' hh'
  have := hm.leaves hr hres ha ht hf' w hh'
  rcases he with rfl | rfl
  ·exact ⟨fun c => by simp, by rw [← hf'.defers] at this; exact this⟩
  ·exact ⟨fun c => by simp, by rw [← hf'.defers] at this; exact this⟩)
 refine callsIn_wide.1 (callsIn_of_wp_marks (n := 0) (F := F0 none) hf hb trivial (wpIn_mono (hC _ w ⟨rfl, ?_, ?_⟩ hh) fun _ _ _ hq => hq.2) rfl)
 ·have := Nat.le_of_ble_eq_true hle
  simp [hn]; omega
 ·intro t v ht
  obtain ⟨_, h2⟩ := lk_zipL args 0 t v ht
  rw [Nat.sub_zero] at h2
  have hlt : t < args.length := (List.getElem?_eq_some_iff.1 h2).1
  have h3 := (List.getElem?_eq_some_iff.1 h2).2
  simp [Array.getD_eq_getD_getElem?, Array.getElem?_append, hlt, h3]
theorem Fin.returnM {fn : Func} {T : Value → Mem → Hp → Prop} {rs : List ResultVar} {vs : List Value} {v : Value} {e : Exit} {H1 H2 : Hp} (hq : RetOkM P fn T Q) (he : e = .ret ∨ e = .normal) (hr : fn.results = rs.toArray) (hm : Marks D H H1) (h : Res P L M H1 rs vs) (hv : retv vs = v) (ha : Arr H1 H2) (ht : T v M H2) : Fin n e Q D L M H :=
 hq n D L M H H1 H2 rs vs e he hr hm h (fun _ hh => ha.heap hh) (by rw [hv]; exact ht)
end Go.Sx
end
section
namespace Go.Sx
variable {P : Program} {n : Nat} {D : List Deferred} {L L' : Sl} {M M' : Mem} {H : Hp} {Q : Post}
variable {d : Option Tmp} {ty : TypeId} {pos : String} {af : Array Edge} {g : Option (Nat × Bool)} {t t' : TypeId} {x y : Operand} {p q : Nat}
def wv (p : Nat) : Value := .int .u32 (p : Int)
theorem wrap32 (z : Int) : IntKind.u32.wrap z = z % 4294967296 := rfl
theorem wu32 {z : Int} (h0 : 0 ≤ z) (h1 : z ≤ 4294967295) : IntKind.u32.wrap z = z := by
 rw [wrap32]
 omega
theorem ofInt32 (p : Nat) : BitVec.ofInt IntKind.u32.bits (p : Int) = BitVec.ofNat 32 p := by
 show BitVec.ofInt 32 (p : Int) = _
 exact BitVec.ofInt_natCast 32 p
theorem bits32 {f : BitVec 32 → BitVec 32 → BitVec 32} {r : Nat} (h : (f (BitVec.ofNat 32 p) (BitVec.ofNat 32 q)).toNat = r) :
  Value.int .u32 (IntKind.u32.wrap ((f (BitVec.ofNat 32 p) (BitVec.ofNat 32 q)).toNat : Int)) = wv r := by
 have h2 : (f (BitVec.ofNat 32 p) (BitVec.ofNat 32 q)).toNat < 4294967296 := BitVec.isLt _
 rw [h] at h2 ⊢
 rw [wu32 (by omega) (by omega)]
 rfl
theorem Ok.xorN (hx : ev L x = some (wv p)) (hy : ev L y = some (wv q)) (hp : p < 4294967296) (hq : q < 4294967296) : Ok P ⟨d, .binOp .xor t x y t', ty, pos, af, g⟩ L M H (wv (p ^^^ q)) := by
 have h := Ok.xor (P := P) (d := d) (t := t) (t' := t') (ty := ty) (pos := pos) (af := af) (g := g) (M := M) (H := H) hx hy
 rw [ofInt32, ofInt32] at h
 change Ok P _ L M H (Value.int .u32 (IntKind.u32.wrap ((((BitVec.ofNat 32 p) ^^^ (BitVec.ofNat 32 q) : BitVec 32)).toNat : Int))) at h
 rwa [bits32 (f := fun a b => a ^^^ b) (r := p ^^^ q) (by
  rw [BitVec.toNat_xor, BitVec.toNat_ofNat, BitVec.toNat_ofNat, Nat.mod_eq_of_lt hp, Nat.mod_eq_of_lt hq])] at h
theorem Ok.andN (hx : ev L x = some (wv p)) (hy : ev L y = some (wv q)) (hp : p < 4294967296) (hq : q < 4294967296) : Ok P ⟨d, .binOp .and t x y t', ty, pos, af, g⟩ L M H (wv (p &&& q)) := by
 have h := Ok.and (P := P) (d := d) (t := t) (t' := t') (ty := ty) (pos := pos) (af := af) (g := g) (M := M) (H := H) hx hy
 rw [ofInt32, ofInt32] at h
 change Ok P _ L M H (Value.int .u32 (IntKind.u32.wrap ((((BitVec.ofNat 32 p) &&& (BitVec.ofNat 32 q) : BitVec 32)).toNat : Int))) at h
 rwa [bits32 (f := fun a b => a &&& b) (r := p &&& q) (by
  rw [BitVec.toNat_and, BitVec.toNat_ofNat, BitVec.toNat_ofNat, Nat.mod_eq_of_lt hp, Nat.mod_eq_of_lt hq])] at h
theorem Ok.orN (hx : ev L x = some (wv p)) (hy : ev L y = some (wv q)) (hp : p < 4294967296) (hq : q < 4294967296) : Ok P ⟨d, .binOp .or t x y t', ty, pos, af, g⟩ L M H (wv (p ||| q)) := by
 have h := Ok.or (P := P) (d := d) (t := t) (t' := t') (ty := ty) (pos := pos) (af := af) (g := g) (M := M) (H := H) hx hy
 rw [ofInt32, ofInt32] at h
 change Ok P _ L M H (Value.int .u32 (IntKind.u32.wrap ((((BitVec.ofNat 32 p) ||| (BitVec.ofNat 32 q) : BitVec 32)).toNat : Int))) at h
 rwa [bits32 (f := fun a b => a ||| b) (r := p ||| q) (by
  rw [BitVec.toNat_or, BitVec.toNat_ofNat, BitVec.toNat_ofNat, Nat.mod_eq_of_lt hp, Nat.mod_eq_of_lt hq])] at h
theorem Ok.notN (hx : ev L x = some (wv p)) (hp : p < 4294967296) : Ok P ⟨d, .unOp .xor t x, ty, pos, af, g⟩ L M H (wv (4294967295 ^^^ p)) := by
 have h := Ok.xorU (P := P) (d := d) (t := t) (ty := ty) (pos := pos) (af := af) (g := g) (M := M) (H := H) hx
 rw [ofInt32] at h
 have e : BitVec.ofInt IntKind.u32.bits (if IntKind.u32.signed then -1 else IntKind.u32.max) = BitVec.ofNat 32 4294967295 := rfl
 rw [e] at h
 change Ok P _ L M H (Value.int .u32 (IntKind.u32.wrap ((((BitVec.ofNat 32 4294967295) ^^^ (BitVec.ofNat 32 p) : BitVec 32)).toNat : Int))) at h
 rwa [bits32 (f := fun a b => a ^^^ b) (r := 4294967295 ^^^ p) (by
  rw [BitVec.toNat_xor, BitVec.toNat_ofNat, BitVec.toNat_ofNat, Nat.mod_eq_of_lt hp])] at h
theorem Ok.shrN {k' : IntKind} {s : Nat} (hx : ev L x = some (wv p)) (hy : ev L y = some (.int k' (s : Int))) (hs : s ≤ 32) : Ok P ⟨d, .binOp .shr t x y t', ty, pos, af, g⟩ L M H (wv (p / 2 ^ s)) := by
 have h := Ok.shr (P := P) (d := d) (t := t) (t' := t') (ty := ty) (pos := pos) (af := af) (g := g) (M := M) (H := H) hx hy (by omega)
 have e : (p : Int).fdiv (2 ^ (min (s : Int).toNat IntKind.u32.bits)) = ((p / 2 ^ s : Nat) : Int) := by
  rw [show min (s : Int).toNat IntKind.u32.bits = s by show min (s : Int).toNat 32 = s; omega]
  rw [Int.fdiv_eq_ediv_of_nonneg _ (by exact_mod_cast Nat.zero_le (2 ^ s))]
  exact_mod_cast rfl
 rw [e] at h
 exact h
theorem Ok.shrQ {k' : IntKind} (s c : Nat) (hx : ev L x = some (wv p)) (hy : ev L y = some (.int k' (s : Int))) (hs : s ≤ 32) (hc : 2 ^ s = c) : Ok P ⟨d, .binOp .shr t x y t', ty, pos, af, g⟩ L M H (wv (p / c)) := hc ▸ Ok.shrN hx hy hs
theorem Ok.shlN {k' : IntKind} {s : Nat} (hx : ev L x = some (wv p)) (hy : ev L y = some (.int k' (s : Int))) (hs : s ≤ 32) (hb : p * 2 ^ s < 4294967296) : Ok P ⟨d, .binOp .shl t x y t', ty, pos, af, g⟩ L M H (wv (p * 2 ^ s)) := by
 have h := Ok.shl (P := P) (d := d) (t := t) (t' := t') (ty := ty) (pos := pos) (af := af) (g := g) (M := M) (H := H) hx hy (by omega)
 have e : (p : Int) * 2 ^ (min (s : Int).toNat IntKind.u32.bits) = ((p * 2 ^ s : Nat) : Int) := by
  rw [show min (s : Int).toNat IntKind.u32.bits = s by show min (s : Int).toNat 32 = s; omega]
  exact_mod_cast rfl
 rw [e, wu32 (by omega) (by omega)] at h
 exact h
theorem Ok.quoN (hx : ev L x = some (wv p)) (hy : ev L y = some (wv q)) (hq : 0 < q) (hp : p < 4294967296) : Ok P ⟨d, .binOp .quo t x y t', ty, pos, af, g⟩ L M H (wv (p / q)) := by
 have h := Ok.quo (P := P) (d := d) (t := t) (t' := t') (ty := ty) (pos := pos) (af := af) (g := g) (M := M) (H := H) hx hy (by omega)
 have e : (p : Int).tdiv (q : Int) = ((p / q : Nat) : Int) := by
  rw [Int.tdiv_eq_ediv_of_nonneg (by omega)]
  exact_mod_cast rfl
 have hb : p / q ≤ p := Nat.div_le_self _ _
 rw [e] at h
 generalize p / q = m at hb h ⊢
 rw [wu32 (by omega) (by omega)] at h
 exact h
theorem Ok.convW {b : UInt8} {s : TypeId} {ds : TypeDesc} [hs : Und P s ds] [ht : Und P t (.int .u32)] (hx : ev L x = some (bv b)) : Ok P ⟨d, .convert s t x, ty, pos, af, g⟩ L M H (wv b.toNat) := by
 have hb : b.toNat < 256 := b.toNat_lt
 exact Ok.convB hx (wu32 (by omega) (by omega))
theorem Ok.convL {s : TypeId} {ds : TypeDesc} [hs : Und P s ds] [ht : Und P t (.int .u8)] (hx : ev L x = some (wv p)) : Ok P ⟨d, .convert s t x, ty, pos, af, g⟩ L M H (bv (UInt8.ofNat p)) := by
 have h := Ok.conv (P := P) (d := d) (ty := ty) (pos := pos) (af := af) (g := g) (M := M) (H := H) (s := s) (t := t) (k' := .u8) hx
 have e : IntKind.u8.wrap (p : Int) = ((UInt8.ofNat p).toNat : Int) := by
  rw [UInt8.toNat_ofNat']
  show (p : Int) % 256 = _
  omega
 rw [e] at h
 exact h
theorem or4 {a b c d : Nat} (ha : a < 256) (hb : b < 256) (hc : c < 256) : ((a ||| b * 2 ^ 8) ||| c * 2 ^ 16) ||| d * 2 ^ 24 = a + b * 256 + c * 65536 + d * 16777216 := by
 have e1 : a ||| b * 2 ^ 8 = a + b * 256 := by
  rw [Nat.or_comm, Nat.mul_comm, ← Nat.two_pow_add_eq_or_of_lt (by omega)]
  omega
 have e2 : (a + b * 256) ||| c * 2 ^ 16 = a + b * 256 + c * 65536 := by
  rw [Nat.or_comm, Nat.mul_comm, ← Nat.two_pow_add_eq_or_of_lt (by omega)]
  omega
 rw [e1, e2, Nat.or_comm, Nat.mul_comm, ← Nat.two_pow_add_eq_or_of_lt (by omega)]
 omega
end Go.Sx
end
section
namespace Go.Sx
open Go.ChangeShapes Go.WideShapes Go.ChangeAt Go.RowKit
variable {P : Program} {r : Option Nat} {n : Nat} {D : List Deferred} {L L' : Sl} {M M' : Mem} {H H1 hp : Hp} {Q : Post}
theorem C.dropA {c : Code} {s : Hp} (h : C P r n c Q D L M H) : C P r n c Q D L M (s ++ H) := fun a w hf hh => h a w hf (hh.tailA s)
theorem Mem.puts_other : ∀ (hp : Hp) {M : Mem} {b : Nat}, b ∉ hp.map Prod.fst → (M.puts hp).at_ b = M.at_ b
 | [], _, _, _ => rfl
 | (c, o) :: hp, M, b, h => by
  simp only [List.map_cons, List.mem_cons, not_or] at h
  unfold Mem.puts
  rw [Mem.puts_other hp h.2]
  simp [Mem.put, h.1]
theorem Mem.puts_at : ∀ (hp : Hp) {M : Mem}, (hp.map Prod.fst).Nodup → ∀ p ∈ hp, (M.puts hp).at_ p.1 = some p.2
 | [], _, _, _, h => by cases h
 | (c, o) :: hp, M, hnd, p, h => by
  rw [List.map_cons, List.nodup_cons] at hnd
  unfold Mem.puts
  rcases List.mem_cons.1 h with rfl | h
  ·rw [Mem.puts_other hp hnd.1]
   simp [Mem.put]
  ·exact Mem.puts_at hp hnd.2 p h
def In (M : Mem) (hp : Hp) : Prop := ∀ p ∈ hp, M.at_ p.1 = some p.2
theorem In.mono (hM : M.le M') (h : In M hp) : In M' hp := fun p hp => hM.2.2 _ _ (h p hp)
theorem In.left {h1 h2 : Hp} (h : In M (h1 ++ h2)) : In M h1 := fun p hp => h p (List.mem_append_left _ hp)
theorem In.right {h1 h2 : Hp} (h : In M (h1 ++ h2)) : In M h2 := fun p hp => h p (List.mem_append_right _ hp)
theorem In.tail {x : Nat × Obj} (h : In M (x :: hp)) : In M hp := fun p hp => h p (List.mem_cons_of_mem _ hp)
theorem In.head {x : Nat × Obj} (h : In M (x :: hp)) : M.at_ x.1 = some x.2 := h x (List.mem_cons_self ..)
theorem Heap.into {w : World} (h : Heap w M (hp ++ H)) : In (M.puts hp) hp := by
 have hnd := h.nodup
 rw [List.map_append, List.nodup_append] at hnd
 exact Mem.puts_at hp hnd.1
theorem K.freezeT {f : Nat} {args : List Value} {T T' : Value → Mem → Hp → Prop} (h : K P f args M H T) (ht : ∀ v M' H', T v M' H' → ∃ hp H2, Arr H' (hp ++ H2) ∧ ∀ M2, M'.le M2 → In M2 hp → T' v M2 H2) : K P f args M H T' := fun w hh =>
 (h w hh).mono fun _ _ ⟨v, M', H', h1, h2, h3⟩ => by
  obtain ⟨hp, H2, ha, hk⟩ := ht v M' H' h2
  have h4 := ha.heap h3
  exact ⟨v, M'.puts hp, H2, h1, hk _ (Heap.le_puts hp h4) h4.into, Heap.freezes hp h4⟩
theorem C.ice {c : Code} (ha : Arr H (hp ++ H1)) (h : ∀ M2, M.le M2 → In M2 hp → C P r n c Q D L M2 H1) : C P r n c Q D L M H := fun a w hf hh =>
 have h4 := ha.heap hh
 h _ (Heap.le_puts hp h4) h4.into a w hf (Heap.freezes hp h4)
theorem R.ice {ops : Array Oper} {rest : List Oper} (ha : Arr H (hp ++ H1)) (h : ∀ M2, M.le M2 → In M2 hp → R false P r n ops rest Q D L M2 H1) : R false P r n ops rest Q D L M H := fun a w hf hh =>
 have h4 := ha.heap hh
 h _ (Heap.le_puts hp h4) h4.into a w hf (Heap.freezes hp h4)
theorem Fin.ice {e : Exit} (ha : Arr H (hp ++ H1)) (h : ∀ M2, M.le M2 → In M2 hp → Fin n e Q D L M2 H1) : Fin n e Q D L M H := fun a w hf hh =>
 have h4 := ha.heap hh
 h _ (Heap.le_puts hp h4) h4.into a w hf (Heap.freezes hp h4)
theorem Heap.thaws {w : World} : ∀ (hp : Hp) {M : Mem} {H : Hp}, (hp.map Prod.fst).Nodup → (∀ p ∈ hp, M.at_ p.1 = none) → Heap w (M.puts hp) H → Heap w M (hp ++ H)
 | [], _, _, _, _, h => h
 | (b, o) :: hp, M, H, hnd, hn, h => by
  rw [List.map_cons, List.nodup_cons] at hnd
  have h1 := Heap.thaws hp (M := M.put b o) hnd.2 (fun p hp => by
   have hne : p.1 ≠ b := fun e => hnd.1 (List.mem_map.2 ⟨p, hp, e⟩)
   simp [Mem.put, hne, hn p (List.mem_cons_of_mem _ hp)]) h
  exact Heap.thaw (hn _ (List.mem_cons_self ..)) h1
theorem K.lends {f : Nat} {args : List Value} {T : Value → Mem → Hp → Prop} (ha : Arr H (hp ++ H1)) (h : ∀ M2, M.le M2 → In M2 hp → K P f args M2 H1 (fun v M' H' => M' = M2 ∧ T v M (hp ++ H'))) : K P f args M H T := fun w hh => by
 have h4 := ha.heap hh
 refine (h _ (Heap.le_puts hp h4) h4.into w (Heap.freezes hp h4)).mono ?_
 rintro e w' ⟨v, M', H', h1, ⟨rfl, h2⟩, h3⟩
 have hnd := h4.nodup
 rw [List.map_append, List.nodup_append] at hnd
 exact ⟨v, M, hp ++ H', h1, h2, Heap.thaws hp hnd.1 (fun p hp => h4.apart p (List.mem_append_left _ hp)) h3⟩
theorem Own.plIn {e sz m cap : Nat} {A : Option Addr} {xs : List Value} (h : Own e sz (.slice A m cap) m xs hp) (hi : In M hp) : Pl M A xs := by
 rcases h.2 with ⟨h1, h2, _⟩ | ⟨b, cap', c, h1, h2, h3, h4, h5, h6⟩
 ·subst h2
  exact .inl (List.eq_nil_of_length_eq_zero (by simpa using h.1))
 ·subst h2
  refine .inr ⟨b, 0, c, e, (0, 0), by injection h1, hi.head, fun j u hj => ?_⟩
  have hl : j < m * sz := by have := (List.getElem?_eq_some_iff.1 hj).1; have := h.1; omega
  rw [Nat.zero_add]
  have : c.toList[j]? = some u := by
   rw [← h6, List.getElem?_take, if_pos hl] at hj; exact hj
  simpa using this
theorem Pl.ofAt {b : Nat} {l : List Value} {e : TypeId} {fr : Nat × Nat} (h : M.at_ b = some (.cells l.toArray e fr)) : Pl M (some ⟨b, 0, none⟩) l :=
 .inr ⟨b, 0, l.toArray, e, fr, rfl, h, fun j u hj => by simpa using hj⟩
theorem In.one {b : Nat} {o : Obj} (h : In M [(b, o)]) : M.at_ b = some o := h.head
theorem KV.func {f : Nat} {fs cs : List Value} {vs : List Value} {T : Value → Mem → Hp → Prop} [he : Ent P f] (h : K P f (fs ++ vs ++ cs) M H T) : KV P (.func (.func f) fs.toArray cs.toArray) vs M H T :=
 .inl ⟨f, fs.toArray, cs.toArray, rfl, he, by simpa using h⟩
def PlB (M : Mem) (v : Value) (bs : List UInt8) : Prop := ∃ A cap, v = .slice A bs.length cap ∧ bs.length ≤ cap ∧ cap ≤ 9223372036854775807 ∧ Pl M A (bs.map bv)
theorem PlB.mono {v : Value} {bs : List UInt8} (hM : M.le M') (h : PlB M v bs) : PlB M' v bs := by
 obtain ⟨A, cap, h1, h2, h3, h4⟩ := h
 exact ⟨A, cap, h1, h2, h3, h4.mono hM⟩
theorem Own.plB {v : Value} {e : Nat} {bs : List UInt8} (h : Own e 1 v bs.length (bs.map bv) hp) (hi : In M hp) : PlB M v bs := by
 obtain ⟨A, cap, rfl, h1, h2⟩ := h.form
 exact ⟨A, cap, rfl, h1, by unfold maxLen at h2; omega, h.plIn hi⟩
def PlV (M : Mem) (vs : List Value) (ls : List (List UInt8)) : Prop := vs.length = ls.length ∧ ∀ (i : Nat) v l, vs[i]? = some v → ls[i]? = some l → PlB M v l
theorem PlV.mono {vs : List Value} {ls : List (List UInt8)} (hM : M.le M') (h : PlV M vs ls) : PlV M' vs ls := ⟨h.1, fun i v l h1 h2 => (h.2 i v l h1 h2).mono hM⟩
theorem PlV.nil : PlV M [] [] := ⟨rfl, by simp⟩
theorem PlV.snoc {vs : List Value} {ls : List (List UInt8)} {v : Value} {l : List UInt8} (h : PlV M vs ls) (hv : PlB M v l) : PlV M (vs ++ [v]) (ls ++ [l]) := by
 refine ⟨by simp [h.1], fun i u k h1 h2 => ?_⟩
 rcases Nat.lt_or_ge i vs.length with hi | hi
 ·rw [List.getElem?_append_left hi] at h1
  rw [List.getElem?_append_left (by rw [← h.1]; exact hi)] at h2
  exact h.2 i u k h1 h2
 ·rw [List.getElem?_append_right hi] at h1
  rw [List.getElem?_append_right (by rw [← h.1]; exact hi), ← h.1] at h2
  cases hk : i - vs.length with
  | zero =>
   rw [hk] at h1 h2
   cases h1; cases h2
   exact hv
  | succ k => rw [hk] at h1; simp at h1
theorem PlV.take {vs : List Value} {ls : List (List UInt8)} (h : PlV M vs ls) (k : Nat) : PlV M (vs.take k) (ls.take k) := by
 refine ⟨by simp [h.1], fun i v l h1 h2 => ?_⟩
 rw [List.getElem?_take] at h1 h2
 split at h1
 ·rename_i hi
  rw [if_pos hi] at h2
  exact h.2 i v l h1 h2
 ·cases h1
def PlL (M : Mem) (v : Value) (ls : List (List UInt8)) : Prop := ∃ A cap vs, v = .slice A ls.length cap ∧ ls.length ≤ cap ∧ cap ≤ 9223372036854775807 ∧ Pl M A vs ∧ PlV M vs ls
theorem PlL.mono {v : Value} {ls : List (List UInt8)} (hM : M.le M') (h : PlL M v ls) : PlL M' v ls := by
 obtain ⟨A, cap, vs, h1, h2, h3, h4, h5⟩ := h
 exact ⟨A, cap, vs, h1, h2, h3, h4.mono hM, h5.mono hM⟩
theorem Pl.get {A : Option Addr} {vs : List Value} (h : Pl M A vs) {i : Nat} {v : Value} (hi : vs[i]? = some v) : ∃ b o c e fr, A = some ⟨b, o, none⟩ ∧ M.at_ b = some (.cells c e fr) ∧ c[o + i]? = some v := by
 rcases h with rfl | ⟨b, o, c, e, fr, h1, h2, h3⟩
 ·simp at hi
 ·exact ⟨b, o, c, e, fr, h1, h2, h3 i v hi⟩
theorem PlV.at_ {A : Option Addr} {vs : List Value} {ls : List (List UInt8)} (hp : Pl M A vs) (hv : PlV M vs ls) {i : Nat} (hi : i < ls.length) :
  ∃ b o c e fr Ai ci, A = some ⟨b, o, none⟩ ∧ M.at_ b = some (.cells c e fr) ∧ c[o + i]? = some (.slice Ai ls[i].length ci) ∧ vs[i]? = some (.slice Ai ls[i].length ci) ∧ ls[i].length ≤ ci ∧ ci ≤ 9223372036854775807 ∧ Pl M Ai (ls[i].map bv) := by
 have h1 : vs[i]? = some (vs[i]'(by rw [hv.1]; exact hi)) := List.getElem?_eq_getElem _
 obtain ⟨b, o, c, e, fr, g1, g2, g3⟩ := hp.get h1
 obtain ⟨Ai, ci, k1, k2, k3, k4⟩ := hv.2 i _ _ h1 (List.getElem?_eq_getElem hi)
 rw [k1] at g3 h1
 exact ⟨b, o, c, e, fr, Ai, ci, g1, g2, g3, h1, k2, k3, k4⟩
theorem Own.plL {e : Nat} {v : Value} {vs : List Value} {ls : List (List UInt8)} (h : Own e 1 v ls.length vs hp) (hi : In M hp) (hv : PlV M vs ls) : PlL M v ls := by
 obtain ⟨A, cap, rfl, h1, h2⟩ := h.form
 exact ⟨A, cap, vs, rfl, h1, by unfold maxLen at h2; omega, h.plIn hi, hv⟩
section
variable {d : Option Tmp} {ty : TypeId} {pos : String} {af : Array Edge} {g : Option (Nat × Bool)} {t t' : TypeId} {x y : Operand} {p q : Nat}
theorem Ok.shrIN {k' : IntKind} (s c : Nat) (hx : ev L x = some (.int .i64 (p : Int))) (hy : ev L y = some (.int k' (s : Int))) (hs : s ≤ 64) (hc : 2 ^ s = c) : Ok P ⟨d, .binOp .shr t x y t', ty, pos, af, g⟩ L M H (.int .i64 ((p / c : Nat) : Int)) := by
 have h := Ok.shr (P := P) (d := d) (t := t) (t' := t') (ty := ty) (pos := pos) (af := af) (g := g) (M := M) (H := H) hx hy (by omega)
 have e : (p : Int).fdiv (2 ^ (min (s : Int).toNat IntKind.i64.bits)) = ((p / c : Nat) : Int) := by
  rw [show min (s : Int).toNat IntKind.i64.bits = s by show min (s : Int).toNat 64 = s; omega]
  rw [Int.fdiv_eq_ediv_of_nonneg _ (by exact_mod_cast Nat.zero_le (2 ^ s)), ← hc]
  exact_mod_cast rfl
 rw [e] at h
 exact h
theorem Ok.shlIN {k' : IntKind} (s c : Nat) (hx : ev L x = some (.int .i64 (p : Int))) (hy : ev L y = some (.int k' (s : Int))) (hs : s ≤ 64) (hc : 2 ^ s = c) (hb : p * c ≤ 9223372036854775807) : Ok P ⟨d, .binOp .shl t x y t', ty, pos, af, g⟩ L M H (.int .i64 ((p * c : Nat) : Int)) := by
 have h := Ok.shl (P := P) (d := d) (t := t) (t' := t') (ty := ty) (pos := pos) (af := af) (g := g) (M := M) (H := H) hx hy (by omega)
 have e : (p : Int) * 2 ^ (min (s : Int).toNat IntKind.i64.bits) = ((p * c : Nat) : Int) := by
  rw [show min (s : Int).toNat IntKind.i64.bits = s by show min (s : Int).toNat 64 = s; omega]
  rw [← hc]
  exact_mod_cast rfl
 rw [e, w64 (by omega) (by omega)] at h
 exact h
theorem Ok.convLI {s : TypeId} {ds : TypeDesc} {k : IntKind} [hs : Und P s ds] [ht : Und P t (.int .u8)] (hx : ev L x = some (.int k (p : Int))) : Ok P ⟨d, .convert s t x, ty, pos, af, g⟩ L M H (bv (UInt8.ofNat p)) := by
 have h := Ok.conv (P := P) (d := d) (ty := ty) (pos := pos) (af := af) (g := g) (M := M) (H := H) (s := s) (t := t) (k' := .u8) hx
 have e : IntKind.u8.wrap (p : Int) = ((UInt8.ofNat p).toNat : Int) := by
  rw [UInt8.toNat_ofNat']
  show (p : Int) % 256 = _
  omega
 rw [e] at h
 exact h
end
section
variable {Hh : Type} {enc : TypeId × Value → Hh} {W : World} {t e : TypeId} {v : Value} {d : DataW Hh} {ps : List MemPlace} {b : Nat} {rc : Reach}
end
end Go.Sx
end
section
namespace Go.Sx
variable {P : Program} {n : Nat} {D : List Deferred} {L L' : Sl} {M M' : Mem} {H : Hp} {Q : Post}
section
variable {d : Option Tmp} {ty : TypeId} {pos : String} {af : Array Edge} {g : Option (Nat × Bool)} {t t' : TypeId} {x y : Operand} {p q : Nat} {z : Int}
theorem bits64 {b : BitVec 64} {r : Nat} (h : b.toNat = r) (hr : r ≤ 9223372036854775807) : Value.int .i64 (IntKind.i64.wrap (b.toNat : Int)) = .int .i64 (r : Int) := by
 rw [h, w64 (by omega) (by omega)]
theorem Ok.and1 (hx : ev L x = some (.int .i64 z)) (hy : ev L y = some (.int .i64 1)) : Ok P ⟨d, .binOp .and t x y t', ty, pos, af, g⟩ L M H (.int .i64 (z % 2)) := by
 have h := Ok.and (P := P) (d := d) (t := t) (t' := t') (ty := ty) (pos := pos) (af := af) (g := g) (M := M) (H := H) hx hy
 change Ok P _ L M H (Value.int .i64 (IntKind.i64.wrap ((((BitVec.ofInt 64 z) &&& (BitVec.ofInt 64 1) : BitVec 64)).toNat : Int))) at h
 have e1 : (BitVec.ofInt 64 1).toNat = 1 := rfl
 have e : ((BitVec.ofInt 64 z) &&& (BitVec.ofInt 64 1) : BitVec 64).toNat = (z % 2).toNat := by
  rw [BitVec.toNat_and, e1, Nat.and_one_is_mod, BitVec.toNat_ofInt]
  have : ((2 ^ 64 : Nat) : Int) = 18446744073709551616 := rfl
  rw [this]
  omega
 rw [bits64 e (by omega)] at h
 have e2 : ((z % 2).toNat : Int) = z % 2 := by omega
 rwa [e2] at h
end
end Go.Sx
end
section
namespace Go.Sx
open Go.RowKit
variable {P : Program} {r : Option Nat} {n : Nat} {D : List Deferred} {L L' : Sl} {M : Mem} {H : Hp} {Q : Post}
def AnyZ (r : Option Nat) (P : Program) (ops : Array Oper) (M0 : Mem) (Hs : Hp) (Q : Post) (Z : Array Bool → Act → World → Prop) : Nat → Array Bool → Act → Mem → Hp → Prop
 | 0, listed, a, M, Hx => M0.le M ∧ ∀ w, Heap w M (Hs ++ Hx) → Z listed a w
 | f + 1, listed, a, M, Hx => M0.le M ∧ Region.ready .any ops listed ≠ [] ∧
   ∀ i ∈ Region.ready .any ops listed, ∀ w, Heap w M (Hs ++ Hx) → wpOpIn (F0 r) 0 P ops Q i (fun a' w' => ∃ M' Hx', Heap w' M' (Hs ++ Hx') ∧ AnyZ r P ops M0 Hs Q Z f (listed.setIfInBounds i true) a' M' Hx') a w
theorem AnyZ.le {ops : Array Oper} {M0 : Mem} {Hs Hx : Hp} {Z : Array Bool → Act → World → Prop} {f : Nat} {listed : Array Bool} {a : Act} (h : AnyZ r P ops M0 Hs Q Z f listed a M Hx) : M0.le M := by
 cases f with
 | zero => exact h.1
 | succ f => exact h.1
theorem AnyZ.any {ops : Array Oper} {M0 : Mem} {Hs : Hp} {Z : Array Bool → Act → World → Prop} {g : Nat} (hZ : ∀ listed a w, Z listed a w → wpAnyIn (F0 r) 0 P .any ops Q g listed a w) :
  ∀ (f : Nat) (listed : Array Bool) (a : Act) (M : Mem) (Hx : Hp) (w : World), Heap w M (Hs ++ Hx) → AnyZ r P ops M0 Hs Q Z f listed a M Hx → wpAnyIn (F0 r) 0 P .any ops Q (g + f) listed a w
 | 0, _, _, _, _, w, hh, h => hZ _ _ w (h.2 w hh)
 | f + 1, _, _, _, _, w, hh, h => ⟨fun e => absurd e h.2.1, fun i hi => wpOpIn_mono (fun a' w' ⟨M', Hx', hh', h'⟩ => AnyZ.any hZ f _ a' M' Hx' w' hh' h') (h.2.2 i hi w hh)⟩
def Barrier (ops : Array Oper) (A : List Nat) (lF : Array Bool) : Prop := ∀ (j : Nat) (oj : Oper), j ∉ A → lF.getD j true = false → ops[j]? = some oj → ∀ i ∈ A, ∃ e ∈ oj.after, Region.binds .any e = true ∧ e.on = i
def barrierB (ops : Array Oper) (A : List Nat) (lF : Array Bool) : Bool := (List.range ops.size).all fun j => A.contains j || lF.getD j true || match ops[j]? with
 | some oj => A.all fun i => oj.after.toList.any fun e => Region.binds .any e && Nat.beq e.on i
 | none => true
theorem Barrier.of {ops : Array Oper} {A : List Nat} {lF : Array Bool} (h : barrierB ops A lF = true) : Barrier ops A lF := by
 intro j oj hj hun hoj i hi
 unfold barrierB at h
 rw [List.all_eq_true] at h
 have h1 := h j (List.mem_range.2 (Array.getElem?_eq_some_iff.1 hoj).1)
 rw [hoj] at h1
 have h2 : A.contains j = false := by
  cases hb : A.contains j with
  | false => rfl
  | true => exact absurd (List.contains_iff_mem.1 hb) hj
 rw [h2, Bool.false_or, hun, Bool.false_or, List.all_eq_true] at h1
 have h3 := h1 i hi
 rw [List.any_eq_true] at h3
 obtain ⟨e, he, hb⟩ := h3
 rw [Bool.and_eq_true] at hb
 exact ⟨e, by simpa using he, hb.1, Nat.eq_of_beq_eq_true hb.2⟩
theorem Barrier.early {ops : Array Oper} {A : List Nat} {lF : Array Bool} {i j : Nat} {listed : Array Bool} (hb : Barrier ops A lF) (hsub : ∀ j, listed.getD j true = false → lF.getD j true = false) (hi : i ∈ A) (hr : i ∈ Region.ready .any ops listed) (hj : j ∈ Region.ready .any ops listed) : j ∈ A := by
 apply Classical.byContradiction
 intro h
 obtain ⟨hjun, oj, hoj, hall⟩ := mem_ready.1 hj
 obtain ⟨e, he, hbd, hon⟩ := hb j oj h (hsub j hjun) hoj i hi
 have h1 := hall e he hbd
 have h0 := (mem_ready.1 hr).1
 rw [hon] at h1
 rcases Nat.lt_or_ge i listed.size with h' | h'
 ·simp [h'] at h0 h1; rw [h0] at h1; cases h1
 ·simp [Array.getElem?_eq_none h'] at h1
theorem sub_set {listed lF : Array Bool} {i : Nat} (h : ∀ j, listed.getD j true = false → lF.getD j true = false) : ∀ j, (listed.setIfInBounds i true).getD j true = false → lF.getD j true = false := fun j hj => by
 refine h j ?_
 by_cases hij : i = j
 ·subst hij
  rcases Nat.lt_or_ge i listed.size with h' | h'
  ·simp [h'] at hj
  ·simp [h'] at hj
 ·rw [getD_set_ne true hij] at hj; exact hj
theorem AnyZ.first {ops : Array Oper} {M0 : Mem} {Hs : Hp} {Z : Array Bool → Act → World → Prop} {A : List Nat} {lF : Array Bool} {i : Nat} {oi : Oper} {v : Value} (hi : ops[i]? = some oi) (hsel : ∀ (j : Nat) (o : Oper) cs b, ops[j]? = some o → o.op ≠ .select cs b) (hnd : NoDefer ops) (hQ : NoPanic Q) (hb : Barrier ops A lF) (hiA : i ∈ A) :
  ∀ (fuel : Nat) (js : List Nat) (listed : Array Bool) (a : Act) (M : Mem) (Hx : Hp), (∀ j, listed.getD j true = false → lF.getD j true = false) → (∀ j, j ∈ A → listed.getD j true = false → j = i ∨ j ∈ js) → js.length ≤ fuel →
   (∀ j oj, ops[j]? = some oj → j ≠ i → listed.getD j true = false → (∀ e ∈ oj.after, Region.binds .any e = true → e.on ≠ i) → oi.apart ops oj = true) →
   i ∈ Region.ready .any ops listed → Yc P ops M0 Hs oi v a →
   AnyZ r P ops M0 Hs Q Z fuel (listed.setIfInBounds i true) (a.put oi.dst v) M Hx → AnyZ r P ops M0 Hs Q Z (fuel + 1) listed a M Hx := by
 intro fuel
 induction fuel with
 | zero =>
  intro js listed a M Hx hsub hjs hlen _ hr hy HH
  refine ⟨HH.le, fun h => (by rw [h] at hr; cases hr), fun j hj w hh => ?_⟩
  by_cases hji : j = i
  ·subst hji; exact hy.wp (fun c => hnd _ _ c hi) hi HH.le hh (fun w' hh' => ⟨M, Hx, hh', HH⟩)
  ·exfalso
   have hjA := hb.early hsub hiA hr hj
   rcases hjs j hjA (mem_ready.1 hj).1 with h | h
   ·exact hji h
   ·have : js = [] := List.eq_nil_of_length_eq_zero (by omega)
    rw [this] at h; cases h
 | succ fuel ih =>
  intro js listed a M Hx hsub hjs hlen hfree hr hy HH
  refine ⟨HH.le, fun h => (by rw [h] at hr; cases hr), fun j hj w hh => ?_⟩
  by_cases hji : j = i
  ·subst hji; exact hy.wp (fun c => hnd _ _ c hi) hi HH.le hh (fun w' hh' => ⟨M, Hx, hh', HH⟩)
  ·have hjA := hb.early hsub hiA hr hj
   have hjm : j ∈ js := by
    rcases hjs j hjA (mem_ready.1 hj).1 with h | h
    ·exact absurd h hji
    ·exact h
   have h1 := HH.2.2 j (ready_mono hj hji) w hh
   obtain ⟨hjun, oj, hoj, hall⟩ := mem_ready.1 hj
   have hnot : ∀ e ∈ oj.after, Region.binds .any e = true → e.on ≠ i := fun e he hb heq => by
    have h1 := hall e he hb
    have h0 := (mem_ready.1 hr).1
    rw [heq] at h1
    rcases Nat.lt_or_ge i listed.size with h' | h'
    ·simp [h'] at h0 h1; rw [h0] at h1; cases h1
    ·simp [Array.getElem?_eq_none h'] at h1
   have h2 := Yc.put hoj (hfree j oj hoj hji hjun hnot) (fun cs b => hsel i oi cs b hi) (fun cs b => hsel j oj cs b hoj) (fun c => hnd _ _ c hoj) hQ hy h1
   have hfree' : ∀ k ok, ops[k]? = some ok → k ≠ i → (listed.setIfInBounds j true).getD k true = false →
     (∀ e ∈ ok.after, Region.binds .any e = true → e.on ≠ i) → oi.apart ops ok = true := fun k ok hk hki hun hno => by
    refine hfree k ok hk hki ?_ hno
    by_cases hjk : j = k
    ·subst hjk; exact hjun
    ·rw [getD_set_ne true hjk] at hun; exact hun
   have hjs' : ∀ k, k ∈ A → (listed.setIfInBounds j true).getD k true = false → k = i ∨ k ∈ js.erase j := fun k hk hun => by
    by_cases hjk : j = k
    ·subst hjk
     exfalso
     have hlt : j < listed.size := by
      rcases Nat.lt_or_ge j listed.size with h' | h'
      ·exact h'
      ·simp [Array.getElem?_eq_none h'] at hjun
     simp [hlt] at hun
    ·rw [getD_set_ne true hjk] at hun
     rcases hjs k hk hun with h | h
     ·exact .inl h
     ·exact .inr ((List.mem_erase_of_ne (Ne.symm hjk)).2 h)
   refine wpOpIn_mono (fun a' w' ⟨hy', M', Hx', hh', h3⟩ => ⟨M', Hx', hh', ih (js.erase j) (listed.setIfInBounds j true) a' M' Hx' (sub_set hsub) hjs' (by rw [List.length_erase_of_mem hjm]; omega) hfree' (ready_mono hr (Ne.symm hji)) hy' ?_⟩) h2
   rw [Array.setIfInBounds_comm _ _ hji]
   exact h3
inductive RZ (P : Program) (n : Nat) (ds : List (Option Tmp)) (M : Mem) (H : Hp) (k : Sl → Prop) : List Oper → Sl → Prop
 | nil {L : Sl} (h : k L) : RZ P n ds M H k [] L
 | step {L : Sl} {d : Option Tmp} {op : Op} {ty : TypeId} {pos : String} {af : Array Edge} {v : Value} {rest : List Oper} (hok : Ok P ⟨d, op, ty, pos, af, none⟩ L M H v) (hd : dok n d = true) (h : RZ P n ds M H k rest (bnd d v L)) : RZ P n ds M H k (⟨d, op, ty, pos, af, none⟩ :: rest) L
 | stepT {L : Sl} {d : Option Tmp} {op : Op} {ty : TypeId} {pos : String} {af : Array Edge} {v : Value} {rest : List Oper} {j : Nat} {want : Bool} {dj : Tmp} (hdj : ds[j]? = some (some dj)) (hb : lk L dj = some (.bool want)) (hlt : Nat.ble (dj + 1) n = true)
   (hok : Ok P ⟨d, op, ty, pos, af, some (j, want)⟩ L M H v) (hd : dok n d = true) (h : RZ P n ds M H k rest (bnd d v L)) : RZ P n ds M H k (⟨d, op, ty, pos, af, some (j, want)⟩ :: rest) L
 | stepF {L : Sl} {d : Option Tmp} {op : Op} {ty : TypeId} {pos : String} {af : Array Edge} {rest : List Oper} {j : Nat} {want b : Bool} {dj : Tmp} (hdj : ds[j]? = some (some dj)) (hb : lk L dj = some (.bool b)) (hlt : Nat.ble (dj + 1) n = true) (hne : (b == want) = false)
   (hd : dok n d = true) (h : RZ P n ds M H k rest (bnd d undef L)) : RZ P n ds M H k (⟨d, op, ty, pos, af, some (j, want)⟩ :: rest) L
def planA (ops : Array Oper) : List Nat → Array Bool → Bool
 | [], _ => true
 | k :: js, listed => (Region.ready .any ops listed).contains k && Region.free .any ops listed k && planA ops js (listed.setIfInBounds k true)
def afterA (js : List Nat) (listed : Array Bool) : Array Bool := js.foldl (fun l k => l.setIfInBounds k true) listed
theorem Heap.front {w : World} {Hx : Hp} (h : Heap w M (H ++ Hx)) : Heap w M H := by
 refine ⟨h.os, h.out, h.pool, fun p hp => h.own p (List.mem_append_left _ hp), fun p hp => h.apart p (List.mem_append_left _ hp), ?_⟩
 have := h.nodup
 rw [List.map_append, List.nodup_append] at this
 exact this.1
theorem Ok.qrZ {o : Oper} {a : Act} {v : Value} {M' : Mem} {Hx' : Hp} {w : World} (h : Ok P o L M H v) (hf : Fr n D L a) (hM : M.le M') (hh : Heap w M' (H ++ Hx')) : Qr P M' (H ++ Hx') w v ((execOp a.eval o).run P w) := by
 rw [h _ _ _ _ hf (hh.front.less hM)]
 exact ⟨rfl, rfl⟩
theorem picked_len {ops : Array Oper} : ∀ (js : List Nat) (rest : List Oper), picked ops js rest → js.length = rest.length
 | [], [], _ => rfl
 | [], _ :: _, h => h.elim
 | _ :: _, [], h => h.elim
 | _ :: js, _ :: rest, h => by rw [List.length_cons, List.length_cons, picked_len js rest h.2]
theorem RZ.any {ds : List (Option Tmp)} {k : Sl → Prop} {ops : Array Oper} {A : List Nat} {lF lA : Array Bool} (hO : OpsOf ds ops) (hS : Region.noSelect ops = true) (hN : NoDefer ops) (hQ : NoPanic Q) (hb : Barrier ops A lF) {rest : List Oper} {L : Sl} (h : RZ P n ds M H k rest L) :
  ∀ (js : List Nat) (listed : Array Bool) (a : Act), (∀ j, j ∈ js → j ∈ A) → (∀ j, listed.getD j true = false → lF.getD j true = false) → picked ops js rest → planA ops js listed = true → (∀ j, j ∈ A → listed.getD j true = false → j ∈ js) → afterA js listed = lA → Fr n D L a →
   AnyZ r P ops M H Q (fun listed a w => listed = lA ∧ ∃ L', k L' ∧ Fr n D L' a ∧ Heap w M H) rest.length listed a M [] := by
 have key : ∀ {d : Option Tmp} {op : Op} {ty : TypeId} {pos : String} {af : Array Edge} {g : Option (Nat × Bool)} {rest : List Oper} {v : Value} {L : Sl} (js : List Nat) (listed : Array Bool) (a : Act), (∀ j, j ∈ js → j ∈ A) → (∀ j, listed.getD j true = false → lF.getD j true = false) → picked ops js (⟨d, op, ty, pos, af, g⟩ :: rest) → planA ops js listed = true → (∀ j, j ∈ A → listed.getD j true = false → j ∈ js) → afterA js listed = lA → Fr n D L a →
   Yc P ops M H ⟨d, op, ty, pos, af, g⟩ v a → dok n d = true →
   (∀ (js : List Nat) (listed : Array Bool) (a : Act), (∀ j, j ∈ js → j ∈ A) → (∀ j, listed.getD j true = false → lF.getD j true = false) → picked ops js rest → planA ops js listed = true → (∀ j, j ∈ A → listed.getD j true = false → j ∈ js) → afterA js listed = lA → Fr n D (bnd d v L) a →
    AnyZ r P ops M H Q (fun listed a w => listed = lA ∧ ∃ L', k L' ∧ Fr n D L' a ∧ Heap w M H) rest.length listed a M []) →
   AnyZ r P ops M H Q (fun listed a w => listed = lA ∧ ∃ L', k L' ∧ Fr n D L' a ∧ Heap w M H) (rest.length + 1) listed a M [] := by
  intro d op ty pos af g rest v L js listed a hin hsub hl hp hjs hlA hf hY hd ih
  cases js with
  | nil => exact hl.elim
  | cons j js =>
  have h0 : ops[j]? = some ⟨d, op, ty, pos, af, g⟩ := hl.1
  simp only [planA, Bool.and_eq_true] at hp
  obtain ⟨⟨p1, p2⟩, p4⟩ := hp
  have hjA : j ∈ A := hin j (List.mem_cons_self ..)
  have hlen : js.length ≤ rest.length := Nat.le_of_eq (picked_len js rest hl.2)
  refine AnyZ.first h0 (Region.noSelect_spec hS) hN hQ hb hjA rest.length js listed a M [] hsub (fun k hk hun => ?_) hlen (Region.free_spec h0 p2) (by simpa using p1) hY ?_
  ·exact List.mem_cons.1 (hjs k hk hun)
  ·refine ih js _ _ (fun k hk => hin k (List.mem_cons_of_mem _ hk)) (sub_set hsub) hl.2 p4 (fun k hk hun => ?_) hlA (hf.put d hd v)
   by_cases hjk : j = k
   ·subst hjk
    exfalso
    have hlt : j < listed.size := by
     have hun0 := (mem_ready.1 (by simpa using p1 : j ∈ Region.ready .any ops listed)).1
     rcases Nat.lt_or_ge j listed.size with h' | h'
     ·exact h'
     ·simp [Array.getElem?_eq_none h'] at hun0
    simp [hlt] at hun
   ·rw [getD_set_ne true hjk] at hun
    rcases List.mem_cons.1 (hjs k hk hun) with h | h
    ·exact absurd h.symm hjk
    ·exact h
 induction h with
 | nil hk =>
  intro js listed a _ _ hl _ _ hlA hf
  cases js with
  | nil => exact ⟨Mem.le_refl _, fun w hh => ⟨hlA, _, hk, hf, hh.front⟩⟩
  | cons j js => exact hl.elim
 | step hok hd _ ih =>
  intro js listed a hin hsub hl hp hjs hlA hf
  exact key js listed a hin hsub hl hp hjs hlA hf (.inl ⟨by simp [Region.wanted], fun M' Hx' w hM' hh' => hok.qrZ hf hM' hh'⟩) hd ih
 | stepT hdj hb' hlt hok hd _ ih =>
  intro js listed a hin hsub hl hp hjs hlA hf
  exact key js listed a hin hsub hl hp hjs hlA hf (.inl ⟨by rw [wanted_guard hf hO hdj hb' hlt]; simp, fun M' Hx' w hM' hh' => hok.qrZ hf hM' hh'⟩) hd ih
 | stepF hdj hb' hlt hne hd _ ih =>
  intro js listed a hin hsub hl hp hjs hlA hf
  exact key js listed a hin hsub hl hp hjs hlA hf (.inr ⟨by rw [wanted_guard hf hO hdj hb' hlt]; exact hne, rfl⟩) hd ih
theorem AnyZ.toH {ops : Array Oper} {Hs : Hp} {M1 M0 : Mem} {Z : Array Bool → Act → World → Prop} {g : Nat} (h01 : M0.le M1) (hZ : ∀ listed a w, Z listed a w → ∃ M' Hx', Heap w M' Hx' ∧ AnyH r P ops M0 [] Q g listed a M' Hx') :
  ∀ (f : Nat) (listed : Array Bool) (a : Act) (M : Mem) (Hx : Hp) (w : World), Heap w M (Hs ++ Hx) → AnyZ r P ops M1 Hs Q Z f listed a M Hx → ∃ M' Hx', Heap w M' Hx' ∧ AnyH r P ops M0 [] Q (g + f) listed a M' Hx'
 | 0, _, _, _, _, w, hh, h => hZ _ _ w (h.2 w hh)
 | f + 1, listed, a, M, Hx, w, hh, h => ⟨M, Hs ++ Hx, hh, Mem.le_trans h01 h.1, fun e => absurd e h.2.1, fun i hi w hh => wpOpIn_mono (fun a' w' ⟨M', Hx', hh', h'⟩ => AnyZ.toH h01 hZ f _ a' M' Hx' w' hh' h') (h.2.2 i hi w hh)⟩
inductive FZ (P : Program) (n : Nat) (k : Sl → Prop) : List Oper → Sl → Prop
 | nil {L : Sl} (h : k L) : FZ P n k [] L
 | step {L : Sl} {d : Option Tmp} {op : Op} {ty : TypeId} {pos : String} {af : Array Edge} {v : Value} {rest : List Oper} (hok : ∀ M H, Ok P ⟨d, op, ty, pos, af, none⟩ L M H v) (hd : dok n d = true) (h : FZ P n k rest (bnd d v L)) : FZ P n k (⟨d, op, ty, pos, af, none⟩ :: rest) L
theorem FZ.any {k : Sl → Prop} {ops : Array Oper} {lF : Array Bool} (hS : Region.noSelect ops = true) (hN : NoDefer ops) (hQ : NoPanic Q) {g : Nat} {rest : List Oper} {L : Sl} (h : FZ P n k rest L) :
  ∀ (js : List Nat) (listed : Array Bool) (a : Act), picked ops js rest → planA ops js listed = true → afterA js listed = lF → Fr n D L a →
   (∀ L' a', k L' → Fr n D L' a' → ∀ w, Heap w M H → ∃ M' Hx', Heap w M' Hx' ∧ AnyH r P ops M [] Q g lF a' M' Hx') → (∀ w, Heap w M H → ∃ M' Hx', Heap w M' Hx' ∧ AnyH r P ops M [] Q (g + rest.length) listed a M' Hx') := by
 induction h with
 | nil hk =>
  intro js listed a hl _ hlF hf hend
  cases js with
  | nil => intro w hh; obtain ⟨M', Hx', h1, h2⟩ := hend _ a hk hf w hh; exact ⟨M', Hx', h1, by subst hlF; exact h2⟩
  | cons j js => exact hl.elim
 | @step L d op ty pos af v rest hok hd _ ih =>
  intro js listed a hl hp hlF hf hend w hh
  cases js with
  | nil => exact hl.elim
  | cons j js =>
  have h0 : ops[j]? = some ⟨d, op, ty, pos, af, none⟩ := hl.1
  simp only [planA, Bool.and_eq_true] at hp
  obtain ⟨⟨p1, p2⟩, p4⟩ := hp
  obtain ⟨M', Hx', h1, h2⟩ := ih js (listed.setIfInBounds j true) (a.put d v) hl.2 p4 hlF (hf.put d hd v) hend w hh
  exact ⟨M', Hx', h1, AnyH.first h0 (Region.noSelect_spec hS) hN hQ (g + rest.length) listed a M' Hx' (Region.free_spec h0 p2) (by simpa using p1) (.inl ⟨by simp [Region.wanted], fun M2 Hx2 w2 _ hh2 => (hok M2 ([] ++ Hx2)).qr hf hh2⟩) h2⟩
theorem RP.effF {d : Option Tmp} {op : Op} {ty : TypeId} {pos : String} {af : Array Edge} {ds : List (Option Tmp)} {ks : List Nat} {rest : List Oper} {M0 : Mem} {Hs Hx : Hp} {j : Nat} {want b : Bool} {dj : Tmp} (hdj : ds[j]? = some (some dj)) (hb : lk L dj = some (.bool b)) (hlt : Nat.ble (dj + 1) n = true) (hne : (b == want) = false) (hd : dok n d = true)
  (k : RP P r n ds ks rest Q D (bnd d undef L) M0 M Hs Hx) : RP P r n ds (0 :: ks) (⟨d, op, ty, pos, af, some (j, want)⟩ :: rest) Q D L M0 M Hs Hx := by
 intro ops js listed hO hS hN hQ hl hp hlen hM a hf
 cases js with
 | nil => exact hl.elim
 | cons j' js =>
 have h0 : ops[j']? = some ⟨d, op, ty, pos, af, some (j, want)⟩ := hl.1
 simp only [planFrom, Bool.and_eq_true, decide_eq_true_eq] at hp
 obtain ⟨⟨p1, p2⟩, p3⟩ := hp
 change AnyH r P ops M0 Hs Q (rest.length + 1) listed a M Hx
 refine ⟨hM, fun e => (by rw [p2] at e; cases e), fun i hi w hh => ?_⟩
 rw [p2] at hi
 simp only [List.mem_singleton] at hi
 subst hi
 unfold wpOpIn
 simp only [h0]
 rw [wanted_guard hf hO hdj hb hlt, hne, if_neg (by simp)]
 exact ⟨fun f _ => F0_fn _ f, M, Hx, hh, k ops js _ hO hS hN hQ hl.2 p3 (by simpa using hlen) hM _ (hf.put d hd undef)⟩
theorem Own.split {e m : Nat} {v : Value} {xs : List Value} {hp : Hp} (h : Own e 1 v m xs hp) (h0 : 0 < m) : ∃ b cap tl, v = .slice (some ⟨b, 0, none⟩) m cap ∧ hp = [(b, .cells (xs ++ tl).toArray e (0, 0))] ∧ m ≤ cap ∧
  ∀ ys : List Value, ys.length = m → Own e 1 v m ys [(b, .cells (ys ++ tl).toArray e (0, 0))] := by
 obtain ⟨hlen, ⟨_, h, _⟩ | ⟨b, cap, c, rfl, rfl, c1, c2, c3, c4⟩⟩ := h
 ·omega
 have hc : xs ++ c.toList.drop m = c.toList := by rw [← c4, Nat.mul_one, List.take_append_drop]
 have h5 : c.toList.length = cap := by rw [Array.length_toList, c3, Nat.mul_one]
 refine ⟨b, cap, c.toList.drop m, rfl, by rw [hc], c1, fun ys hy => ⟨by rw [hy, Nat.mul_one], .inr ⟨b, cap, _, rfl, rfl, c1, c2, ?_, ?_⟩⟩⟩
 ·simp [hy, h5]
  omega
 ·simp only [Nat.mul_one]
  rw [List.take_append_of_le_length (by omega), List.take_of_length_le (by omega)]
theorem Ok.eqIS {d : Option Tmp} {ty : TypeId} {pos : String} {af : Array Edge} {g : Option (Nat × Bool)} {t t' : TypeId} {x y : Operand} {k : IntKind} {p : Int} (hx : ev L x = some (.int k p)) (hy : ev L y = some (.int k p)) : Ok P ⟨d, .binOp .eql t x y t', ty, pos, af, g⟩ L M H (.bool true) := by
 have h := Ok.eqI (P := P) (d := d) (t := t) (t' := t') (ty := ty) (pos := pos) (af := af) (g := g) (M := M) (H := H) hx hy
 rwa [show (p == p) = true by simp] at h
theorem wanted_undef {a : Act} {ops : Array Oper} {d : Option Tmp} {op : Op} {ty : TypeId} {pos : String} {af : Array Edge} {j : Nat} {want : Bool} {ds : List (Option Tmp)} {dj : Tmp}
  (hf : Fr n D L a) (ho : OpsOf ds ops) (hdj : ds[j]? = some (some dj)) (hb : lk L dj = some undef) (hlt : Nat.ble (dj + 1) n = true) :
  Region.wanted ⟨d, op, ty, pos, af, some (j, want)⟩ (yielded ops a.tmps) = false := by
 have h1 := hf.slot _ _ hb
 have hlt' : dj < a.tmps.size := by rw [hf.size]; exact Nat.lt_of_succ_le (Nat.le_of_ble_eq_true hlt)
 have h2 : a.tmps[dj]? = some undef := by
  rw [Array.getElem?_eq_getElem hlt']
  rw [← h1]; simp [Array.getD, hlt']
 simp only [Region.wanted, yielded, ho j dj hdj, Option.bind_some, h2]
 cases want <;> rfl
theorem R.guardU {dr : Bool} {d : Option Tmp} {op : Op} {ty : TypeId} {pos : String} {af : Array Edge} {j : Nat} {want : Bool} {ds : List (Option Tmp)} {dj : Tmp} {ops : Array Oper} {rest : List Oper}
  (ho : OpsOf ds ops) (hdj : ds[j]? = some (some dj)) (hb : lk L dj = some undef) (hlt : Nat.ble (dj + 1) n = true) (hd : dok n d = true)
  (k : R dr P r n ops rest Q D (bnd d undef L) M H) : R dr P r n ops (⟨d, op, ty, pos, af, some (j, want)⟩ :: rest) Q D L M H := by
 cases dr with
 | false =>
  intro a w hf hh
  have hw := wanted_undef (d := d) (op := op) (ty := ty) (pos := pos) (af := af) (want := want) hf ho hdj hb hlt
  unfold wpListIn
  rw [hw]
  exact ⟨fun f _ => F0_fn _ f, k _ w (hf.put d hd undef) hh⟩
 | true =>
  intro a hf
  have hw := wanted_undef (d := d) (op := op) (ty := ty) (pos := pos) (af := af) (want := want) hf ho hdj hb hlt
  unfold wpQuietIn
  rw [hw]
  exact ⟨fun w _ f _ => F0_fn _ f, k _ (hf.put d hd undef)⟩
section
open Go.ChangeShapes Go.WideShapes Go.ChangeAt
variable {Hh : Type} {enc : TypeId × Value → Hh} {W : World} {t e : TypeId} {v : Value} {d : DataW Hh} {ps : List MemPlace} {b : Nat} {rc : Reach}
end
end Go.Sx
end
section
namespace Go.Sx
section
variable {P : Program} {L : Sl} {M M' : Mem} {H : Hp} {d : Option Tmp} {ty : TypeId} {pos : String} {af : Array Edge} {g : Option (Nat × Bool)}
theorem le_at {b : Nat} {o : Obj} (h : M.le M') (hb : M.at_ b = some o) : M'.at_ b = some o := h.2.2 _ _ hb
theorem Ok.eqIR {t t' : TypeId} {x y : Operand} {k : IntKind} {p q : Int} (hx : ev L x = some (.int k p)) (hy : ev L y = some (.int k q)) (h : p = q) : Ok P ⟨d, .binOp .eql t x y t', ty, pos, af, g⟩ L M H (.bool true) := by
 subst h
 exact Ok.eqIS hx hy
theorem Ok.neIR {t t' : TypeId} {x y : Operand} {k : IntKind} {p q : Int} (hx : ev L x = some (.int k p)) (hy : ev L y = some (.int k q)) (h : p = q) : Ok P ⟨d, .binOp .neq t x y t', ty, pos, af, g⟩ L M H (.bool false) := by
 subst h
 exact Ok.neIS hx hy
theorem Ok.loadAggP {t : TypeId} {ds : TypeDesc} {x : Operand} {b o sz by_ : Nat} {z : Value} {c : Array Value} {e : TypeId} {fr : Nat × Nat} {vs : List Value} [hs : Und P t ds] [hi : Inf P t sz by_ z] (hx : ev L x = some (.pointer (some ⟨b, o, none⟩))) (hag : aggD ds = true)
  (hb : M.at_ b = some (.cells c e fr)) (hc : ∀ j u, vs[j]? = some u → c[o + j]? = some u) (hl : vs.length = sz) : Ok P ⟨d, .load t x, ty, pos, af, g⟩ L M H (.agg vs.toArray) :=
 Ok.loadAggC hx hag (fun _ hh => hh.pool _ _ hb) hl hc
theorem Ok.loadAggO {t : TypeId} {ds : TypeDesc} {x : Operand} {b o sz by_ : Nat} {z : Value} {l : List Value} {e : TypeId} {fr : Nat × Nat} {vs : List Value} {f : Obj → Hp} [hs : Und P t ds] [hi : Inf P t sz by_ z] (hx : ev L x = some (.pointer (some ⟨b, o, none⟩))) (hag : aggD ds = true)
  (hb : At H b (.cells l.toArray e fr) f) (hc : ∀ j u, vs[j]? = some u → l[o + j]? = some u) (hl : vs.length = sz) : Ok P ⟨d, .load t x, ty, pos, af, g⟩ L M H (.agg vs.toArray) :=
 Ok.loadAggC hx hag (fun _ hh => hh.own _ hb.mem) hl (fun j u hj => by simpa using hc j u hj)
theorem Ok.loadM {t : TypeId} {ds : TypeDesc} {x : Operand} {b o : Nat} {l : List Value} {e : TypeId} {fr : Nat × Nat} {v : Value} [hs : Und P t ds] (hx : ev L x = some (.pointer (some ⟨b, o, none⟩))) (hag : aggD ds = false)
  (hb : (b, Obj.cells l.toArray e fr) ∈ H) (hc : l[o]? = some v) : Ok P ⟨d, .load t x, ty, pos, af, g⟩ L M H v :=
 Ok.loadCell hx hag (fun _ hh => hh.own _ hb) (by simpa using hc)
theorem Ok.loadAggM {t : TypeId} {ds : TypeDesc} {x : Operand} {b o sz by_ : Nat} {z : Value} {l : List Value} {e : TypeId} {fr : Nat × Nat} {vs : List Value} [hs : Und P t ds] [hi : Inf P t sz by_ z] (hx : ev L x = some (.pointer (some ⟨b, o, none⟩))) (hag : aggD ds = true)
  (hb : (b, Obj.cells l.toArray e fr) ∈ H) (hc : Sub l o sz vs) : Ok P ⟨d, .load t x, ty, pos, af, g⟩ L M H (.agg vs.toArray) :=
 Ok.loadAggC hx hag (fun _ hh => hh.own _ hb) hc.spec.1 (fun j u hj => by simpa using hc.spec.2 j u hj)
theorem Arr.none : ∀ {H : Hp}, Arr H []
 | [] => Arr.all _
 | x :: _ => Arr.drop x Arr.none
theorem Arr.left {H X : Hp} : Arr (H ++ X) H := by have h : Arr (H ++ X) (H ++ []) := Arr.app (Tk.here H X) Arr.none; rwa [List.append_nil] at h
theorem RP.nil0 {r : Option Nat} {n : Nat} {D : List Deferred} {Q : Post} {ds : List (Option Tmp)} {M0 : Mem} {Hs : Hp} (h : Fin n .normal Q D L M Hs) : RP P r n ds [] [] Q D L M0 M Hs [] := RP.nil (by rw [List.append_nil]; exact h)
theorem a_mem {p : Prop} (h : p := by
 (first | assumption | exact List.mem_cons_self | exact List.mem_cons_of_mem _ (by assumption) | exact List.mem_cons_of_mem _ (List.mem_cons_of_mem _ (by assumption)) | exact List.mem_append_left _ (by assumption) | exact List.mem_append_left _ (List.mem_cons_of_mem _ (by assumption)) | exact List.mem_cons_of_mem _ (List.mem_append_left _ (by assumption)) | exact List.mem_append_right _ (by assumption) | exact List.mem_append_left _ (List.mem_cons_of_mem _ (List.mem_cons_of_mem _ (by assumption))) | exact List.mem_append_left _ (List.mem_append_right _ (by assumption)) | exact List.mem_cons_of_mem _ (List.mem_append_right _ (by assumption)) | fail)) : p := h
end
theorem a_blit {p : Prop} (h : p := by
 (focus ((repeat (first | exact Blit.nil _ | apply Blit.cons | apply Blit.skip)); (first | done | fail)))) : p := h
theorem a_sub {p : Prop} (h : p := by
 (focus ((repeat (first | exact Sub.nil _ | apply Sub.cons | apply Sub.skip)); (first | done | fail)))) : p := h
theorem a_at {p : Prop} (h : p := by
 (first | exact At.head _ _ _ | exact At.tail _ (At.head _ _ _) | exact At.tail _ (At.tail _ (At.head _ _ _)) | exact At.tail _ (At.tail _ (At.tail _ (At.head _ _ _))) | exact At.tail _ (At.tail _ (At.tail _ (At.tail _ (At.head _ _ _)))) | exact At.tail _ (At.tail _ (At.tail _ (At.tail _ (At.tail _ (At.head _ _ _))))) | exact At.tail _ (At.tail _ (At.tail _ (At.tail _ (At.tail _ (At.tail _ (At.head _ _ _)))))) | (focus (repeat (first | exact At.head _ _ _ | apply At.tail | apply At.app)); (first | done | fail)) | fail)) : p := h
theorem a_tk {p : Prop} (h : p := by
 (first | exact Tk.one _ _ _ | exact Tk.here _ _ | exact Tk.skip _ (Tk.one _ _ _) | exact Tk.skip _ (Tk.here _ _) | exact Tk.skip _ (Tk.skip _ (Tk.one _ _ _)) | exact Tk.skip _ (Tk.skip _ (Tk.here _ _)) | (focus (repeat (first | exact Tk.one _ _ _ | exact Tk.here _ _ | apply Tk.skip | apply Tk.skipA)); (first | done | fail)) | fail)) : p := h
theorem a_evs {p : Prop} (h : p := by
 (focus ((repeat (first | exact Evs.nil | apply Evs.cons rfl)); (first | done | fail)))) : p := h
theorem a_prt {p : Prop} (h : p := by
 (focus ((repeat (first | exact Prt.nil | apply Prt.cons rfl)); (first | done | fail)))) : p := h
theorem a_subs {p : Prop} (h : p := by
 (focus ((repeat (first | exact sub_nil _ | apply sub_cons rfl)); (first | done | fail)))) : p := h
theorem a_fills {p : Prop} (h : p := by
 (focus ((repeat (first | exact Fills.nil _ | (apply Fills.cons; exact rfl; exact rfl; exact rfl; exact a_blit))); (first | done | fail)))) : p := h
theorem a_res {p : Prop} (h : p := by
 (focus ((repeat (first | exact Res.nil | apply Res.cons rfl | (apply Res.cellAgg; exact rfl; exact rfl; exact a_at; exact a_sub) | (apply Res.cellOne; exact rfl; exact rfl; exact a_at; exact rfl))); (first | done | fail)))) : p := h
theorem a_arr {p : Prop} (h : p := by
 (first | (focus (repeat (first | exact Arr.all _ | (apply Arr.cons; exact a_tk) | (apply Arr.app; exact a_tk) | exact Arr.left | apply Arr.drop | apply Arr.dropA)); (first | done | fail)) | exact Arr.left | fail)) : p := h
theorem a_picked {p : Prop} (h : p := by
 (focus ((repeat (first | exact picked.nil | (apply picked.cons; exact rfl))); (first | done | fail)))) : p := h
theorem a_np {p : Prop} (h : p := by
 (focus ((repeat (first | assumption | apply NoPanic.then_ | apply NoPanic.inBlock)); (first | done | fail)))) : p := h
theorem a_ok {p : Prop} (h : p := by
 (first | (apply Ok.move; exact rfl) | (apply Ok.load; exact rfl; exact rfl; exact a_at; exact rfl) | (apply Ok.nilCheck; exact rfl) | (apply Ok.fieldAddr; exact rfl) | (apply Ok.assign; exact rfl) | (apply Ok.len; exact rfl) | (apply Ok.extract; exact rfl; exact rfl) | (apply Ok.eqIR; exact rfl; exact rfl; with_reducible rfl) | (apply Ok.eqI; exact rfl; exact rfl) | (apply Ok.neIR; exact rfl; exact rfl; with_reducible rfl) | (apply Ok.neI; exact rfl; exact rfl) | (apply Ok.lt; exact rfl; exact rfl) | (apply Ok.le; exact rfl; exact rfl) | (apply Ok.gt; exact rfl; exact rfl) | (apply Ok.ge; exact rfl; exact rfl) | (apply Ok.not; exact rfl) | (apply Ok.pickT; exact rfl; exact rfl) | (apply Ok.pickF; exact rfl; exact rfl) | (apply Ok.loadAgg; exact rfl; exact rfl; exact a_at; exact a_sub) | (apply Ok.field; exact rfl; exact rfl) | (apply Ok.fieldAgg; exact rfl; exact a_sub) | (apply Ok.minI; exact rfl; exact rfl) | (apply Ok.maxI; exact rfl; exact rfl) | (apply Ok.build; exact a_prt; exact a_fills) | (apply Ok.lenS; exact rfl) | (apply Ok.nilCheckF; exact rfl) | (apply Ok.eqStrS; exact rfl; exact rfl) | (apply Ok.eqStr; exact rfl; exact rfl) | (apply Ok.neStrS; exact rfl; exact rfl) | (apply Ok.neStr; exact rfl; exact rfl) | (apply Ok.addB; exact rfl; exact rfl; apply w64; omega; omega) | (apply Ok.subB; exact rfl; exact rfl; apply w64; omega; omega) | (apply Ok.addB; exact rfl; exact rfl; apply wu64; omega; omega) | (apply Ok.subB; exact rfl; exact rfl; apply wu64; omega; omega) | (apply Ok.convB; exact rfl; apply w64; omega; omega) | (apply Ok.convB; exact rfl; apply wu64; omega; omega) | (apply Ok.convB; exact rfl; apply wu32; omega; omega) | (apply Ok.mulB; exact rfl; exact rfl; apply w64; omega; omega) | (apply Ok.remP; exact rfl; exact rfl; omega; omega) | (apply Ok.quoP; exact rfl; exact rfl; omega; omega; omega) | (apply Ok.rem; exact rfl; exact rfl; omega) | (apply Ok.eqPN; exact rfl; exact rfl) | (apply Ok.nePN; exact rfl; exact rfl) | (apply Ok.xorB; exact rfl; exact rfl) | (apply Ok.xorN; exact rfl; exact rfl; omega; omega) | (apply Ok.andN; exact rfl; exact rfl; omega; omega) | (apply Ok.andN (q := 1); exact rfl; exact rfl; omega; decide) | (apply Ok.xorN (q := 2197175160); exact rfl; exact rfl; omega; decide) | (apply Ok.xorN (q := 4294967295); exact rfl; exact rfl; omega; decide) | (apply Ok.quoN (q := 2); exact rfl; exact rfl; decide; omega) | (apply Ok.shrQ 1 2; exact rfl; exact rfl; decide; decide) | (apply Ok.shrQ 8 256; exact rfl; exact rfl; decide; decide) | (apply Ok.shrQ 16 65536; exact rfl; exact rfl; decide; decide) | (apply Ok.shrQ 24 16777216; exact rfl; exact rfl; decide; decide) | (apply Ok.convW; exact rfl) | (apply Ok.convL; exact rfl) | (apply Ok.notN; exact rfl; omega) | (apply Ok.quoN; exact rfl; exact rfl; decide; omega) | (apply Ok.neBoS; exact rfl; exact rfl) | (apply Ok.eqBoS; exact rfl; exact rfl) | (apply Ok.neBo; exact rfl; exact rfl) | (apply Ok.eqBo; exact rfl; exact rfl) | (apply Ok.indexAddr; exact rfl; exact rfl; omega; omega) | (apply Ok.loadP; exact rfl; exact rfl; (first | assumption | (apply le_at; assumption; assumption)); assumption) | (apply Ok.load; exact rfl; exact rfl; exact a_at; assumption) | (apply Ok.loadAggP; exact rfl; exact rfl; (first | assumption | (apply le_at; assumption; assumption)); assumption; exact rfl) | (apply Ok.loadAggO; exact rfl; exact rfl; exact a_at; assumption; exact rfl) | (apply Ok.loadM; exact rfl; exact rfl; exact a_mem; exact rfl) | (apply Ok.loadAggM; exact rfl; exact rfl; exact a_mem; exact a_sub) | fail)) : p := h
section
variable {P : Program} {r : Option Nat} {n : Nat} {D : List Deferred} {L : Sl} {M : Mem} {H : Hp} {Q : Post} {d : Option Tmp} {op : Op} {ty : TypeId} {pos : String} {af : Array Edge} {v : Value} {rest : List Oper} {ds : List (Option Tmp)} {j : Nat} {want : Bool} {dj : Tmp}
theorem R.s {dr : Bool} {ops : Array Oper} (k : R dr P r n ops rest Q D (bnd d v L) M H) (h : Ok P ⟨d, op, ty, pos, af, none⟩ L M H v := by exact a_ok) (hd : dok n d = true := by exact rfl) : R dr P r n ops (⟨d, op, ty, pos, af, none⟩ :: rest) Q D L M H := R.step h hd k
variable {ks : List Nat} {M0 : Mem} {Hs Hx : Hp}
theorem RP.s (k : RP P r n ds ks rest Q D (bnd d v L) M0 M Hs Hx) (h : ∀ M' Hx', M0.le M' → Ok P ⟨d, op, ty, pos, af, none⟩ L M' (Hs ++ Hx') v := by (intro _ _ _; exact a_ok)) (hd : dok n d = true := by exact rfl) :
  RP P r n ds (1 :: ks) (⟨d, op, ty, pos, af, none⟩ :: rest) Q D L M0 M Hs Hx := RP.step h hd k
theorem RP.sF {b : Bool} (k : RP P r n ds ks rest Q D (bnd d undef L) M0 M Hs Hx) (hdj : ds[j]? = some (some dj) := by exact rfl) (hb : lk L dj = some (.bool b) := by exact rfl) (hlt : Nat.ble (dj + 1) n = true := by exact rfl) (hne : (b == want) = false := by exact rfl) (hd : dok n d = true := by exact rfl) :
  RP P r n ds (1 :: ks) (⟨d, op, ty, pos, af, some (j, want)⟩ :: rest) Q D L M0 M Hs Hx := RP.stepF hdj hb hlt hne hd k
end
section
variable {P : Program} {n : Nat} {r : Option Nat} {D : List Deferred} {L : Sl} {M : Mem} {H : Hp} {Q : Post}
theorem Fin.rt {fn : Func} {T : Value → Mem → Hp → Prop} {rs : List ResultVar} {vs : List Value} {v : Value} {e : Exit} (ht : T v M H) (hq : RetOk P fn T Q := by assumption) (he : e = .ret ∨ e = .normal := by (exact a_lr)) (hr : fn.results = rs.toArray := by exact rfl) (h : Res P L M H rs vs := by exact a_res) (hv : retv vs = v := by (simp only [retv]; rfl)) : Fin n e Q [] L M H := Fin.returnK hq he hr h hv ht
end
structure Wr (q : Prop) : Prop where
 out : q
theorem a_go {p q : Prop} (h : q) (hs : Wr q → p := by
 (intro hq; first | ((apply R.step; (exact a_ok); exact rfl); exact hq.1) | ((with_reducible first | apply R.nil | apply C.ret | apply C.block | apply C.skip | apply C.exit | apply Fin.thenRet | apply Fin.thenExit | apply Fin.blockNormal | apply Fin.blockRet | apply Fin.blockExit); exact hq.1) | ((with_reducible apply Fin.thenK; assumption); exact hq.1) | ((with_reducible apply Fin.blockOther; exact rfl); exact hq.1) | ((apply R.store; exact rfl; exact rfl; exact rfl; (exact a_at); (exact a_blit); exact rfl; (focus (simp [Value.oneCell']; done))); exact hq.1) | ((apply R.guardT; assumption; exact rfl; exact rfl; exact rfl); exact hq.1) | ((apply R.guardF; assumption; exact rfl; exact rfl; exact rfl; exact rfl; exact rfl); exact hq.1) | ((apply R.guardU; assumption; exact rfl; exact rfl; exact rfl; exact rfl); exact hq.1) | ((apply C.condT; exact rfl); exact hq.1) | ((apply C.condF; exact rfl); exact hq.1) | ((with_reducible apply C.seqK); exact hq.1) | ((with_reducible apply C.regionK); exact hq.1) | ((apply R.buildSlice0; exact rfl); exact hq.1) | ((apply R.box; exact rfl; (simp only [Value.cells]; rfl); exact rfl); exact hq.1) | ((apply R.alloc; (simp only [Value.cells]; rfl); exact rfl); exact hq.1) | ((apply R.buildSlice; (exact a_prt); exact rfl; exact rfl; (exact a_fills); exact rfl); exact hq.1))) : p := hs ⟨h⟩
theorem a_gn {p q : Prop} (h : q) (hs : Wr q → p := by
 (intro hq; first | ((apply R.step; (exact a_ok); exact rfl); exact hq.1) | ((with_reducible first | apply R.nil | apply C.ret | apply C.block | apply C.skip | apply C.exit | apply Fin.thenRet | apply Fin.thenExit | apply Fin.blockNormal | apply Fin.blockRet | apply Fin.blockExit); exact hq.1) | ((with_reducible apply Fin.thenK; assumption); exact hq.1) | ((with_reducible apply Fin.blockOther; exact rfl); exact hq.1) | ((apply R.store; exact rfl; exact rfl; exact rfl; (exact a_at); (exact a_blit); exact rfl; (focus (simp [Value.oneCell']; done))); exact hq.1) | ((apply R.guardT; assumption; exact rfl; exact rfl; exact rfl); exact hq.1) | ((apply R.guardF; assumption; exact rfl; exact rfl; exact rfl; exact rfl; exact rfl); exact hq.1) | ((apply R.guardU; assumption; exact rfl; exact rfl; exact rfl; exact rfl); exact hq.1) | ((apply C.condT; exact rfl); exact hq.1) | ((apply C.condF; exact rfl); exact hq.1) | ((with_reducible apply C.seqK); exact hq.1) | ((with_reducible apply C.regionK); exact hq.1))) : p := hs ⟨h⟩
theorem a_g0 {p q : Prop} (h : q) (hs : Wr q → p := by
 (intro hq; first | ((apply R.step; (exact a_ok); exact rfl); exact hq.1) | ((with_reducible first | apply R.nil | apply C.ret | apply C.block | apply C.skip | apply C.exit | apply Fin.thenRet | apply Fin.thenExit | apply Fin.blockNormal | apply Fin.blockRet | apply Fin.blockExit); exact hq.1) | ((with_reducible apply Fin.thenK; assumption); exact hq.1) | ((with_reducible apply Fin.blockOther; exact rfl); exact hq.1) | ((apply R.store; exact rfl; exact rfl; exact rfl; (exact a_at); (exact a_blit); exact rfl; (focus (simp [Value.oneCell']; done))); exact hq.1) | ((apply R.guardT; assumption; exact rfl; exact rfl; exact rfl); exact hq.1) | ((apply R.guardF; assumption; exact rfl; exact rfl; exact rfl; exact rfl; exact rfl); exact hq.1) | ((apply R.guardU; assumption; exact rfl; exact rfl; exact rfl; exact rfl); exact hq.1) | ((with_reducible apply C.seqR); exact hq.1) | ((with_reducible apply C.regionK); exact hq.1) | ((apply R.buildSlice0; exact rfl); exact hq.1) | ((apply R.box; exact rfl; (simp only [Value.cells]; rfl); exact rfl); exact hq.1) | ((apply R.alloc; (simp only [Value.cells]; rfl); exact rfl); exact hq.1) | ((apply R.buildSlice; (exact a_prt); exact rfl; exact rfl; (exact a_fills); exact rfl); exact hq.1))) : p := hs ⟨h⟩
theorem a_mv {p q : Prop} (h : q) (hs : Wr q → p := by
 (intro hq; first | ((apply R.step; (apply Ok.move; exact rfl); exact rfl); exact hq.1))) : p := hs ⟨h⟩
theorem a_bz {p q : Prop} (h : q) (hs : Wr q → p := by
 (intro hq; first | ((apply R.buildSlice0; exact rfl); exact hq.1))) : p := hs ⟨h⟩
theorem a_bx {p q : Prop} (h : q) (hs : Wr q → p := by
 (intro hq; first | ((apply R.box; exact rfl; (simp only [Value.cells]; rfl); exact rfl); exact hq.1))) : p := hs ⟨h⟩
theorem a_ba {p q : Prop} (h : q) (hs : Wr q → p := by
 (intro hq; first | ((apply R.alloc; (simp only [Value.cells]; rfl); exact rfl); exact hq.1))) : p := hs ⟨h⟩
theorem a_bl {p q : Prop} (h : q) (hs : Wr q → p := by
 (intro hq; first | ((apply R.buildSlice; (exact a_prt); exact rfl; exact rfl; (exact a_fills); exact rfl); exact hq.1))) : p := hs ⟨h⟩
theorem a_sp {p a b x y : Prop} (h1 : a → x) (h2 : b → y) (hs : Wr (a → x) → Wr (b → y) → p := by
 (intro hq1 hq2; first | (apply R.guardDec; assumption; exact rfl; exact rfl; exact hq1.1; exact hq2.1) | (apply R.guardBeq; assumption; exact rfl; exact rfl; exact hq1.1; exact hq2.1) | (apply R.guardBne; assumption; exact rfl; exact rfl; exact hq1.1; exact hq2.1) | (apply R.guardNDec; assumption; exact rfl; exact rfl; exact hq1.1; exact hq2.1) | (apply R.guardNot; assumption; exact rfl; exact rfl; exact hq1.1; exact hq2.1) | (apply R.guardC; assumption; exact rfl; exact rfl; exact hq1.1; exact hq2.1) | (apply C.condDec; exact rfl; exact hq1.1; exact hq2.1) | (apply C.condBeq; exact rfl; exact hq1.1; exact hq2.1) | (apply C.condBne; exact rfl; exact hq1.1; exact hq2.1) | (apply C.condNDec; exact rfl; exact hq1.1; exact hq2.1) | (apply C.condNot; exact rfl; exact hq1.1; exact hq2.1) | (apply C.cond; exact rfl; exact hq1.1; exact hq2.1))) : p := hs ⟨h1⟩ ⟨h2⟩
theorem a_s3 {p a b x y : Prop} (h1 : a → x) (h2 : b → y) (hs : Wr (a → x) → Wr (b → y) → p := by
 (intro hq1 hq2; first | (apply R.guardDec; assumption; exact rfl; exact rfl; exact hq1.1; exact hq2.1) | (apply R.guardBeq; assumption; exact rfl; exact rfl; exact hq1.1; exact hq2.1) | (apply R.guardBne; assumption; exact rfl; exact rfl; exact hq1.1; exact hq2.1) | (apply R.guardNDec; assumption; exact rfl; exact rfl; exact hq1.1; exact hq2.1) | (apply R.guardNot; assumption; exact rfl; exact rfl; exact hq1.1; exact hq2.1) | (apply R.guardC; assumption; exact rfl; exact rfl; exact hq1.1; exact hq2.1))) : p := hs ⟨h1⟩ ⟨h2⟩
theorem a_lr {p : Prop} (h : p := by
 (first | exact .inl rfl | exact .inr rfl)) : p := h
section
variable {P : Program} {r : Option Nat} {n : Nat} {D : List Deferred} {L : Sl} {M : Mem} {H : Hp} {Q : Post}
theorem Fin.rA {fn : Func} {T : Value → Mem → Hp → Prop} {rs : List ResultVar} {vs : List Value} {v : Value} {e : Exit} (H2 : Hp) (ht : T v M H2) (hq : RetOk P fn T Q := by assumption) (he : e = .ret ∨ e = .normal := by exact a_lr) (hr : fn.results = rs.toArray := by exact rfl) (h : Res P L M H rs vs := by exact a_res) (hv : retv vs = v := by (simp only [retv]; rfl)) (ha : Arr H H2 := by exact a_arr) : Fin n e Q [] L M H := Fin.returnA hq he hr h hv ha ht
end
theorem a_op {p q : Prop} (h : q) (hs : Wr q → p := by
 (intro hq; first | ((apply RP.step; intro _ _ _; (exact a_ok); exact rfl); exact hq.1) | ((apply RP.stepT; exact rfl; exact rfl; exact rfl; intro _ _ _; (exact a_ok); exact rfl); exact hq.1) | ((apply RP.stepF; exact rfl; exact rfl; exact rfl; exact rfl; exact rfl); exact hq.1) | ((apply RP.effF; exact rfl; exact rfl; exact rfl; exact rfl; exact rfl); exact hq.1))) : p := hs ⟨h⟩
theorem a_arrs {p : Prop} (h : p := by
 (((try simp only [List.append_assoc, List.cons_append, List.nil_append, List.append_nil]); exact a_arr))) : p := h
theorem a_art {p : Prop} (h : p := by
 (((try simp only [List.append_eq, List.append_assoc, List.cons_append, List.nil_append, List.append_nil]); exact a_arr))) : p := h
end Go.Sx
end
section
namespace Go.Sx
theorem rows_len {n : Nat} : ∀ {css : List (List Value)}, (∀ c ∈ css, c.length = n) → css.flatten.length = css.length * n
 | [], _ => by simp
 | c :: css, h => by
  rw [List.flatten_cons, List.length_append, h c (List.mem_cons_self ..), rows_len fun d hd => h d (List.mem_cons_of_mem _ hd), List.length_cons, Nat.add_mul, Nat.one_mul, Nat.add_comm]
theorem rows_get {n : Nat} : ∀ {css : List (List Value)}, (∀ c ∈ css, c.length = n) → ∀ {i q : Nat} {u : Value} (hi : i < css.length), (css[i])[q]? = some u → css.flatten[i * n + q]? = some u
 | [], _, i, _, _, hi, _ => absurd hi (Nat.not_lt_zero i)
 | c :: css, h, 0, q, u, _, hq => by
  have hq : c[q]? = some u := hq
  rw [Nat.zero_mul, Nat.zero_add, List.flatten_cons, List.getElem?_append_left (List.getElem?_eq_some_iff.1 hq).1]
  exact hq
 | c :: css, h, i + 1, q, u, hi, hq => by
  have hc := h c (List.mem_cons_self ..)
  have := rows_get (fun d hd => h d (List.mem_cons_of_mem _ hd)) (i := i) (q := q) (u := u) (by simpa using hi) hq
  rw [List.flatten_cons, List.getElem?_append_right (by rw [hc, Nat.add_mul]; omega), hc, show (i + 1) * n + q - n = i * n + q by rw [Nat.add_mul]; omega]
  exact this
theorem rows_take {n : Nat} : ∀ {css : List (List Value)}, (∀ c ∈ css, c.length = n) → ∀ k, css.flatten.take (k * n) = (css.take k).flatten
 | [], _, k => by simp
 | c :: css, h, 0 => by simp
 | c :: css, h, k + 1 => by
  have hc := h c (List.mem_cons_self ..)
  rw [List.flatten_cons, List.take_append, hc, List.take_of_length_le (by rw [hc, Nat.add_mul]; omega), show (k + 1) * n - n = k * n by rw [Nat.add_mul]; omega, rows_take (fun d hd => h d (List.mem_cons_of_mem _ hd)) k, List.take_succ_cons, List.flatten_cons]
theorem rows_drop {n : Nat} : ∀ {css : List (List Value)}, (∀ c ∈ css, c.length = n) → ∀ k, css.flatten.drop (k * n) = (css.drop k).flatten
 | [], _, k => by simp
 | c :: css, h, 0 => by simp
 | c :: css, h, k + 1 => by
  have hc := h c (List.mem_cons_self ..)
  rw [List.flatten_cons, List.drop_append, hc, List.drop_of_length_le (by rw [hc, Nat.add_mul]; omega), show (k + 1) * n - n = k * n by rw [Nat.add_mul]; omega, rows_drop (fun d hd => h d (List.mem_cons_of_mem _ hd)) k, List.drop_succ_cons, List.nil_append]
theorem rows_set {n : Nat} : ∀ {css : List (List Value)}, (∀ c ∈ css, c.length = n) → ∀ {i q : Nat} (hi : i < css.length) (_ : q < n) (v : Value), css.flatten.set (i * n + q) v = (css.set i ((css[i]).set q v)).flatten
 | [], _, i, _, hi, _, _ => absurd hi (Nat.not_lt_zero i)
 | c :: css, h, 0, q, _, hq, v => by
  have hc := h c (List.mem_cons_self ..)
  rw [Nat.zero_mul, Nat.zero_add, List.flatten_cons, List.set_append_left _ _ (by omega)]
  rfl
 | c :: css, h, i + 1, q, hi, hq, v => by
  have hc := h c (List.mem_cons_self ..)
  have := rows_set (fun d hd => h d (List.mem_cons_of_mem _ hd)) (i := i) (q := q) (by simpa using hi) hq v
  rw [List.flatten_cons, List.set_append_right _ _ (by rw [hc, Nat.add_mul]; omega), hc, show (i + 1) * n + q - n = i * n + q by rw [Nat.add_mul]; omega, this]
  rfl
section
variable {P : Program} {r : Option Nat} {n : Nat} {D : List Deferred} {L : Sl} {M : Mem} {H H1 : Hp} {Q : Post} {w w' : World}
def OwnT (e sz : Nat) (v : Value) (m : Nat) (xs : List Value) (hp : Hp) : Prop :=
 xs.length = m * sz ∧ ((v = .slice none 0 0 ∧ m = 0 ∧ hp = []) ∨
  ∃ b o cap c, v = .slice (some ⟨b, o, none⟩) m cap ∧ hp = [(b, .cells c e (0, 0))] ∧ m ≤ cap ∧ cap ≤ maxLen ∧ o + cap * sz ≤ c.size ∧ (c.toList.drop o).take (m * sz) = xs)
theorem Own.tail {e sz m : Nat} {v : Value} {xs : List Value} {hp : Hp} (h : Own e sz v m xs hp) : OwnT e sz v m xs hp := by
 refine ⟨h.1, ?_⟩
 rcases h.2 with h1 | ⟨b, cap, c, h1, h2, h3, h4, h5, h6⟩
 ·exact .inl h1
 ·exact .inr ⟨b, 0, cap, c, h1, h2, h3, h4, by omega, by rw [List.drop_zero]; exact h6⟩
theorem OwnT.nil (e sz : Nat) : OwnT e sz (.slice none 0 0) 0 [] [] := (Own.nil e sz).tail
theorem OwnT.form {e sz m : Nat} {v : Value} {xs : List Value} {hp : Hp} (h : OwnT e sz v m xs hp) : ∃ A cap, v = .slice A m cap ∧ m ≤ cap ∧ cap ≤ maxLen := by
 rcases h.2 with ⟨h1, h2, _⟩ | ⟨b, o, cap, c, h1, _, h2, h3, _⟩
 ·exact ⟨none, 0, by rw [h1, h2], by omega, by unfold maxLen; omega⟩
 ·exact ⟨_, cap, h1, h2, h3⟩
theorem OwnT.plIn {e sz m cap : Nat} {A : Option Addr} {xs : List Value} {hp : Hp} (h : OwnT e sz (.slice A m cap) m xs hp) (hi : In M hp) : Pl M A xs := by
 rcases h.2 with ⟨h1, h2, _⟩ | ⟨b, o, cap', c, h1, h2, h3, h4, h5, h6⟩
 ·subst h2
  exact .inl (List.eq_nil_of_length_eq_zero (by simpa using h.1))
 ·subst h2
  refine .inr ⟨b, o, c, e, (0, 0), by injection h1, hi.head, fun j u hj => ?_⟩
  have hl : j < m * sz := by have := (List.getElem?_eq_some_iff.1 hj).1; have := h.1; omega
  have : (c.toList.drop o)[j]? = some u := by
   rw [← h6, List.getElem?_take, if_pos hl] at hj; exact hj
  rw [List.getElem?_drop] at this
  simpa using this
theorem appendT_run {t ty e sz by_ m : Nat} {z : Value} {v : Value} {xs news : List Value} {hp : Hp} {A : Option Addr} {k c : Nat} [hs : Und P t (.slice e)] [hi : Inf P e sz by_ z] (hz : z.cells.size = sz) (hsz : 0 < sz) (hby : 0 < by_)
  (hown : OwnT e sz v m xs hp) (hh : Heap w M (hp ++ H)) (hl : news.length = k * sz) (hrd : Rd M (hp ++ H) A news) (hone : ∀ u ∈ news, u.oneCell' = true) (hbytes : (m + k) * by_ ≤ 140737488355328) :
  ∃ v' w' hp', (Builtin.append_ #[t, t] ty #[v, .slice A k c]).run P w = .ok v' w' ∧ OwnT e sz v' (m + k) (xs ++ news) hp' ∧ Heap w' M (hp' ++ H) := by
 obtain ⟨hxl, ⟨rfl, rfl, rfl⟩ | ⟨b, o, cap, cur, rfl, rfl, h3, h4, h5, h6⟩⟩ := hown
 ·have hx : xs = [] := List.eq_nil_of_length_eq_zero (by simpa using hxl)
  subst hx
  obtain ⟨v', w', hp', g1, g2, g3⟩ := append_run (P := P) (t := t) (e := e) (ty := ty) (c := c) hz hsz hby (Own.nil e sz) hh hl hrd hone hbytes
  exact ⟨v', w', hp', g1, g2.tail, g3⟩
 obtain ⟨inf, g1, g2, g3, g4⟩ := hi.h
 have h63 : m + k ≤ maxLen := by
  have : (m + k) * 1 ≤ (m + k) * by_ := Nat.mul_le_mul_left _ hby
  unfold maxLen; omega
 have hrow := hh.own (b, .cells cur e (0, 0)) (by simp)
 rcases hrd with rfl | ⟨ad, rfl, hc⟩
 ·have hk : k = 0 := by
   rcases Nat.eq_zero_or_pos k with h | h
   ·exact h
   ·have := Nat.mul_pos h hsz; simp at hl; omega
  subst hk
  refine ⟨_, w, [(b, .cells cur e (0, 0))], ?_, ⟨by simpa using hxl, .inr ⟨b, o, cap, cur, rfl, rfl, h3, h4, h5, by simpa using h6⟩⟩, hh⟩
  have h0 : (Builtin.firstCells sz 0 (.slice A 0 c)).run P w = .ok #[] w := by
   cases A <;> simp [Builtin.firstCells, loadCells, loadCellsFrom]
  simp [Builtin.append_, run_underlying hs.h, sizeOf, typeInfo, g1, g2, Builtin.lenOf, h3, h0, storeCells]
 by_cases hroom : m + k ≤ cap
 ·have hfit : (m + k) * sz ≤ cap * sz := Nat.mul_le_mul_right _ hroom
  have hms : (m + k) * sz = m * sz + k * sz := Nat.add_mul ..
  have hfc := run_firstCells_some (P := P) w sz k ad k c news hl (hc w hh)
  have hst := run_storeCells_at (P := P) b (o + m * sz) e news 0 cur w hrow (by omega) hone
  refine ⟨_, w.setRow b (cur.toList.take (o + m * sz) ++ news ++ cur.toList.drop (o + m * sz + news.length)).toArray, [(b, .cells (cur.toList.take (o + m * sz) ++ news ++ cur.toList.drop (o + m * sz + news.length)).toArray e (0, 0))], ?_, ⟨by rw [List.length_append, hxl, hl, Nat.add_mul], .inr ⟨b, o, cap, _, rfl, rfl, hroom, h4, ?_, ?_⟩⟩, ?_⟩
  ·simp only [Nat.add_zero] at hst
   simp [Builtin.append_, run_underlying hs.h, sizeOf, typeInfo, g1, g2, Builtin.lenOf, hroom, hfc, Addr.add_lit, hst]
  ·simp only [List.size_toArray, List.length_append, List.length_take, List.length_drop, Array.length_toList]
   omega
  ·have hlt : (cur.toList.take (o + m * sz)).length = o + m * sz := by rw [List.length_take, Array.length_toList]; omega
   rw [List.append_assoc, List.drop_append, show o - (cur.toList.take (o + m * sz)).length = 0 by omega, List.drop_zero, List.drop_take, show o + m * sz - o = m * sz by omega, h6, ← List.append_assoc, hms, ← hxl, ← hl, ← List.length_append]
   exact List.take_left
  ·exact hh.put (At.head _ _ _) (setRow_same _ _ _ _ _ _ hrow) (fun k hk => setRow_other _ _ _ _ hk) rfl rfl
 ·have holds : ∀ j u, xs[j]? = some u → w.cell? ((⟨b, o, none⟩ : Addr).add j) = some u := by
   intro j u hj
   have hlj : j < m * sz := by have := (List.getElem?_eq_some_iff.1 hj).1; omega
   have h9 : (cur.toList.drop o)[j]? = some u := by
    rw [← h6, List.getElem?_take, if_pos hlj] at hj; exact hj
   rw [List.getElem?_drop] at h9
   rw [Addr.add_lit]
   simpa [World.cell?, hrow] using h9
  obtain ⟨v', w', k1, k2, k3⟩ := run_append_arg_grows (P := P) w t ty e inf z sz by_ hs.h g1 g4 g2 g3 hz hsz ⟨b, o, none⟩ m cap xs hxl holds ad k c news hl (hc w hh) (by omega) h63 hbytes
  obtain ⟨_, ⟨q1, q2⟩ | ⟨g', cap', cur', q1, q2, q3, q4, q5, q6, q7⟩⟩ := k2
  ·omega
  refine ⟨v', w', [(g', .cells cur' e (0, 0))], k1, Own.tail ⟨by rw [List.length_append, hxl, hl, Nat.add_mul], .inr ⟨g', cap', cur', q1, rfl, q4, q5, q6, q7⟩⟩, ?_⟩
  have hh0 : Heap w M ([] ++ H) := hh.tail
  refine hh0.grown k3.os k3.output (fun j hj _ => k3.block j hj (by simp)) (by simpa using q3) ?_ (by simp)
  intro p hp1
  simp only [List.mem_singleton] at hp1
  subst hp1
  exact .inr q2
section
variable {d : Option Tmp} {ty : TypeId} {pos : String} {af : Array Edge} {ops : Array Oper} {rest : List Oper}
theorem R.appendT {t e sz by_ m k c : Nat} {z : Value} {s x : Operand} {v : Value} {xs news : List Value} {hp : Hp} {A : Option Addr} [hst : Und P t (.slice e)] [hi : Inf P e sz by_ z]
  (hs : ev L s = some v) (hx : ev L x = some (.slice A k c)) (hown : OwnT e sz v m xs hp) (ht : Tk hp H H1) (hrd : Rd M (hp ++ H1) A news) (hl : news.length = k * sz) (hone : ∀ u ∈ news, u.oneCell' = true) (hbytes : (m + k) * by_ ≤ 140737488355328)
  (hz : z.cells.size = sz) (hsz : 0 < sz) (hby : 0 < by_) (hd : dok n d = true)
  (kk : ∀ v' hp', OwnT e sz v' (m + k) (xs ++ news) hp' → R false P r n ops rest Q D (bnd d v' L) M (hp' ++ H1)) :
  R false P r n ops (⟨d, .call ⟨.builtin .append, #[s, x], #[t, t]⟩, ty, pos, af, none⟩ :: rest) Q D L M H := by
 refine R.world rfl (by intro c h; cases h) fun a w hf hh => ?_
 have hh' := hh.perm ht.perm
 obtain ⟨v', w', hp', h1, h2, h3⟩ := appendT_run (P := P) (t := t) (e := e) (ty := ty) (c := c) hz hsz hby hown hh' hl hrd hone hbytes
 exact ⟨v', w', .inl (builtin_run (xs := [s, x]) (vs := [v, .slice A k c]) hf (.cons hs (.cons hx .nil)) (fun _ => rfl) h1), fun hf _ => kk v' hp' h2 _ _ (hf.put d hd v') h3⟩
end
end
class BoolP (a : Bool) (p : outParam Prop) : Prop where
 h : a = true ↔ p
instance {p : Prop} {_ : Decidable p} : BoolP (decide p) p := ⟨decide_eq_true_iff⟩
instance {p q : Int} : BoolP (p == q) (p = q) := ⟨beq_iff_eq⟩
instance {p q : Int} : BoolP (p != q) (¬ p = q) := ⟨bne_iff_ne⟩
instance {a : Bool} {p : Prop} [h : BoolP a p] : BoolP (!a) (¬ p) := ⟨by rw [← h.h]; cases a <;> simp⟩
instance {a b : Bool} {p q : Prop} [h : BoolP a p] [g : BoolP b q] : BoolP (a && b) (p ∧ q) := ⟨by rw [← h.h, ← g.h]; cases a <;> simp⟩
instance {a b : Bool} {p q : Prop} [h : BoolP a p] [g : BoolP b q] : BoolP (a || b) (p ∨ q) := ⟨by rw [← h.h, ← g.h]; cases a <;> simp⟩
theorem bo_t {b : Bool} {q : Prop} [g : BoolP b q] (h : q) : Value.bool true = Value.bool b := by rw [g.h.2 h]
theorem bo_f {b : Bool} {q : Prop} [g : BoolP b q] (h : ¬ q) : Value.bool false = Value.bool b := by
 cases b with
 | true => exact absurd (g.h.1 rfl) h
 | false => rfl
theorem bo_ {a b : Bool} {p q : Prop} [h : BoolP a p] [g : BoolP b q] (e : p ↔ q) : Value.bool a = Value.bool b := by
 rw [Bool.eq_iff_iff.2 (h.h.trans (e.trans g.h.symm))]
end Go.Sx
end
section
namespace Go.Sx
open Go.RowKit
variable {P : Program} {r : Option Nat} {n : Nat} {D : List Deferred} {L L' : Sl} {M M0 : Mem} {H Hs Hx : Hp} {Q : Post} {k : Sl → Mem → Hp → Prop}
def planZ (ops : Array Oper) : List Bool → List Nat → Array Bool → Bool
 | [], _, _ => true
 | _ :: _, [], _ => false
 | q :: ks, j :: is, listed => (Region.ready .any ops listed).contains j && (if q then Region.free .any ops listed j else decide (Region.ready .any ops listed = [j])) && planZ ops ks is (listed.setIfInBounds j true)
def EndQ (n : Nat) (D : List Deferred) (k : Sl → Mem → Hp → Prop) (M0 : Mem) (lA : Array Bool) (l : Array Bool) (a : Act) (w : World) : Prop := l = lA ∧ ∃ L' M' H', k L' M' H' ∧ M0.le M' ∧ Fr n D L' a ∧ Heap w M' H'
def RQ (P : Program) (r : Option Nat) (n : Nat) (ds : List (Option Tmp)) (ks : List Bool) (rest : List Oper) (Q : Post) (D : List Deferred) (k : Sl → Mem → Hp → Prop) (L : Sl) (M0 M : Mem) (Hs Hx : Hp) : Prop :=
 ∀ (ops : Array Oper) (js : List Nat) (listed : Array Bool) (A : List Nat) (lF lA : Array Bool), OpsOf ds ops → Region.noSelect ops = true → NoDefer ops → NoPanic Q → Barrier ops A lF → (∀ j, j ∈ js → j ∈ A) → (∀ j, listed.getD j true = false → lF.getD j true = false) →
  picked ops js rest → planZ ops ks js listed = true → ks.length = rest.length → (∀ j, j ∈ A → listed.getD j true = false → j ∈ js) → afterA js listed = lA → M0.le M →
  ∀ a, Fr n D L a → AnyZ r P ops M0 Hs Q (EndQ n D k M0 lA) rest.length listed a M Hx
section
variable {d : Option Tmp} {op : Op} {ty : TypeId} {pos : String} {af : Array Edge} {g : Option (Nat × Bool)} {v : Value} {ds : List (Option Tmp)} {ks : List Bool} {rest : List Oper}
theorem RQ.nil (h : k L M (Hs ++ Hx)) : RQ P r n ds [] [] Q D k L M0 M Hs Hx := by
 intro ops js listed A lF lA _ _ _ _ _ _ _ hl _ _ _ hlA hM a hf
 cases js with
 | nil => exact ⟨hM, fun w hh => ⟨hlA, _, _, _, h, hM, hf, hh⟩⟩
 | cons j js => exact hl.elim
theorem left_js {ops : Array Oper} {A js : List Nat} {j : Nat} {listed : Array Bool} (hr : j ∈ Region.ready .any ops listed) (hjs : ∀ i, i ∈ A → listed.getD i true = false → i ∈ j :: js) : ∀ i, i ∈ A → (listed.setIfInBounds j true).getD i true = false → i ∈ js := by
 intro i hi hun
 by_cases hij : j = i
 ·subst hij
  exfalso
  have hun0 := (mem_ready.1 hr).1
  have hlt : j < listed.size := by
   rcases Nat.lt_or_ge j listed.size with h' | h'
   ·exact h'
   ·simp [Array.getElem?_eq_none h'] at hun0
  simp [hlt] at hun
 ·rw [getD_set_ne true hij] at hun
  rcases List.mem_cons.1 (hjs i hi hun) with h | h
  ·exact absurd h.symm hij
  ·exact h
theorem RQ.step_ (hY : ∀ (ops : Array Oper) (a : Act), OpsOf ds ops → Fr n D L a → Yc P ops M0 Hs ⟨d, op, ty, pos, af, g⟩ v a) (hd : dok n d = true)
  (h : RQ P r n ds ks rest Q D k (bnd d v L) M0 M Hs Hx) : RQ P r n ds (true :: ks) (⟨d, op, ty, pos, af, g⟩ :: rest) Q D k L M0 M Hs Hx := by
 intro ops js listed A lF lA hO hS hN hQ hb hin hsub hl hp hlen hjs hlA hM a hf
 cases js with
 | nil => exact hl.elim
 | cons j js =>
 have h0 : ops[j]? = some ⟨d, op, ty, pos, af, g⟩ := hl.1
 simp only [planZ, Bool.and_eq_true, if_true] at hp
 obtain ⟨⟨p1, p2⟩, p3⟩ := hp
 have p1' : j ∈ Region.ready .any ops listed := by simpa using p1
 have key : AnyZ r P ops M0 Hs Q (EndQ n D k M0 lA) rest.length (listed.setIfInBounds j true) (a.put d v) M Hx :=
  h ops js _ A lF lA hO hS hN hQ hb (fun i hi => hin i (List.mem_cons_of_mem _ hi)) (sub_set hsub) hl.2 p3 (by simpa using hlen) (left_js p1' hjs) hlA hM _ (hf.put d hd v)
 exact AnyZ.first h0 (Region.noSelect_spec hS) hN hQ hb (hin j (List.mem_cons_self ..)) rest.length js listed a M Hx hsub (fun i hi hun => List.mem_cons.1 (hjs i hi hun)) (Nat.le_of_eq (picked_len js rest hl.2)) (Region.free_spec h0 p2) p1' (hY ops a hO hf) key
theorem RQ.step (hok : ∀ M' Hx', M0.le M' → Ok P ⟨d, op, ty, pos, af, none⟩ L M' (Hs ++ Hx') v) (hd : dok n d = true)
  (h : RQ P r n ds ks rest Q D k (bnd d v L) M0 M Hs Hx) : RQ P r n ds (true :: ks) (⟨d, op, ty, pos, af, none⟩ :: rest) Q D k L M0 M Hs Hx :=
 RQ.step_ (fun _ _ _ hf => .inl ⟨by simp [Region.wanted], fun M' Hx' w hM' hh' => (hok M' Hx' hM').qr hf hh'⟩) hd h
theorem RQ.stepT {j : Nat} {want : Bool} {dj : Tmp} (hdj : ds[j]? = some (some dj)) (hb : lk L dj = some (.bool want)) (hlt : Nat.ble (dj + 1) n = true) (hok : ∀ M' Hx', M0.le M' → Ok P ⟨d, op, ty, pos, af, some (j, want)⟩ L M' (Hs ++ Hx') v) (hd : dok n d = true)
  (h : RQ P r n ds ks rest Q D k (bnd d v L) M0 M Hs Hx) : RQ P r n ds (true :: ks) (⟨d, op, ty, pos, af, some (j, want)⟩ :: rest) Q D k L M0 M Hs Hx :=
 RQ.step_ (fun _ _ hO hf => .inl ⟨by rw [wanted_guard hf hO hdj hb hlt]; simp, fun M' Hx' w hM' hh' => (hok M' Hx' hM').qr hf hh'⟩) hd h
theorem RQ.stepF {j : Nat} {want b : Bool} {dj : Tmp} (hdj : ds[j]? = some (some dj)) (hb : lk L dj = some (.bool b)) (hlt : Nat.ble (dj + 1) n = true) (hne : (b == want) = false) (hd : dok n d = true)
  (h : RQ P r n ds ks rest Q D k (bnd d undef L) M0 M Hs Hx) : RQ P r n ds (true :: ks) (⟨d, op, ty, pos, af, some (j, want)⟩ :: rest) Q D k L M0 M Hs Hx :=
 RQ.step_ (fun _ _ hO hf => .inr ⟨by rw [wanted_guard hf hO hdj hb hlt]; exact hne, rfl⟩) hd h
def KQ (P : Program) (r : Option Nat) (n : Nat) (ds : List (Option Tmp)) (ks : List Bool) (rest : List Oper) (Q : Post) (D : List Deferred) (k : Sl → Mem → Hp → Prop) (M0 : Mem) (Hs : Hp) (Kc : Act → World → Prop) : Prop :=
 ∀ L' M' Hx', M0.le M' → RQ P r n ds ks rest Q D k L' M0 M' Hs Hx' → ∀ a w, Fr n D L' a → Heap w M' (Hs ++ Hx') → Kc a w
theorem Fin.kq {Kc : Act → World → Prop} (hk : KQ P r n ds ks rest Q D k M0 Hs Kc) (hM : M0.le M) (ha : Arr H (Hs ++ Hx)) (h : RQ P r n ds ks rest Q D k L M0 M Hs Hx) : Fin n .normal (Exit.then Kc Q) D L M H :=
 fun a w hf hh => hk L M Hx hM h a w hf (ha.heap hh)
theorem RQ.eff_ (hw : ∀ (ops : Array Oper) (a : Act), OpsOf ds ops → Fr n D L a → Region.wanted ⟨d, op, ty, pos, af, g⟩ (yielded ops a.tmps) = true)
  (h : ∀ Kc, KQ P r n ds ks rest Q D k M0 Hs Kc → ∀ ops, R false P r n ops [⟨d, op, ty, pos, af, none⟩] (Exit.then Kc Q) D L M (Hs ++ Hx)) : RQ P r n ds (false :: ks) (⟨d, op, ty, pos, af, g⟩ :: rest) Q D k L M0 M Hs Hx := by
 intro ops js listed A lF lA hO hS hN hQ hb hin hsub hl hp hlen hjs hlA hM a hf
 cases js with
 | nil => exact hl.elim
 | cons j js =>
 have h0 : ops[j]? = some ⟨d, op, ty, pos, af, g⟩ := hl.1
 simp only [planZ, Bool.and_eq_true, Bool.false_eq_true, if_false, decide_eq_true_eq] at hp
 obtain ⟨⟨p1, p2⟩, p3⟩ := hp
 have p1' : j ∈ Region.ready .any ops listed := by simpa using p1
 change AnyZ r P ops M0 Hs Q (EndQ n D k M0 lA) (rest.length + 1) listed a M Hx
 refine ⟨hM, fun e => (by rw [p2] at e; cases e), fun i hi w hh => ?_⟩
 rw [p2] at hi
 simp only [List.mem_singleton] at hi
 subst hi
 have hk : KQ P r n ds ks rest Q D k M0 Hs (fun a' w' => ∃ M' Hx', Heap w' M' (Hs ++ Hx') ∧ AnyZ r P ops M0 Hs Q (EndQ n D k M0 lA) rest.length (listed.setIfInBounds i true) a' M' Hx') := by
  intro L' M' Hx' hM' hRQ a' w' hf' hh'
  exact ⟨M', Hx', hh', hRQ ops js _ A lF lA hO hS hN hQ hb (fun x hx => hin x (List.mem_cons_of_mem _ hx)) (sub_set hsub) hl.2 p3 (by simpa using hlen) (left_js p1' hjs) hlA hM' a' hf'⟩
 have h1 := h _ hk #[] a w hf hh
 unfold wpListIn at h1
 rw [if_pos (by simp [Region.wanted])] at h1
 unfold wpOpIn
 simp only [h0]
 rw [hw ops a hO hf, if_pos rfl]
 exact (wpIn_post (fun _ _ _ h => h) (fun _ _ h => h) h1 : (⟨d, op, ty, pos, af, none⟩ : Oper).wpIn (F0 r) 0 P a w _ Q)
theorem RQ.eff (h : ∀ Kc, KQ P r n ds ks rest Q D k M0 Hs Kc → ∀ ops, R false P r n ops [⟨d, op, ty, pos, af, none⟩] (Exit.then Kc Q) D L M (Hs ++ Hx)) : RQ P r n ds (false :: ks) (⟨d, op, ty, pos, af, none⟩ :: rest) Q D k L M0 M Hs Hx :=
 RQ.eff_ (fun _ _ _ _ => by simp [Region.wanted]) h
end
theorem C.regionE {id : Nat} {l : List Oper} (isA isB : List Nat) (ksA : List Bool) (ksB : List Nat) (lA lB : List Oper) (Hs Hx : Hp) (hm : P.follows .mixedOrders = true) (hH : Arr H (Hs ++ Hx)) (hQ : NoPanic Q) (hpA : picked l.toArray isA lA) (hpB : picked l.toArray isB lB)
  (hB : (Region.noSelect l.toArray && noDeferB l && barrierB l.toArray isA (Array.replicate l.length false) && planZ l.toArray ksA isA (Array.replicate l.length false) &&
   planFrom l.toArray ksB isB (afterA isA (Array.replicate l.length false)) && Nat.beq ksA.length lA.length && Nat.beq ksB.length lB.length && Nat.beq (lB.length + lA.length) l.length) = true)
  (h : ∀ ds, ds = l.map (·.dst) → RQ P r n ds ksA lA Q D (fun L' M' H' => RP P r n ds ksB lB Q D L' M M' [] H') L M M Hs Hx) : C P r n (.region id l.toArray true) Q D L M H := by
 intro a w hf hh
 simp only [Bool.and_eq_true] at hB
 obtain ⟨⟨⟨⟨⟨⟨⟨h1, h2⟩, h3⟩, h4⟩, h5⟩, h6⟩, h7⟩, h8⟩ := hB
 refine wpIn_region_any hm ?_
 have h9 : lB.length + lA.length = l.toArray.size := by simpa using Nat.eq_of_beq_eq_true h8
 have hAny := h _ rfl l.toArray isA (Array.replicate l.length false) isA (Array.replicate l.length false) _ (OpsOf.self l) h1 (NoDefer.of h2) hQ (Barrier.of h3) (fun _ hj => hj) (fun _ hj => hj) hpA h4 (Nat.eq_of_beq_eq_true h6) (fun _ hj _ => hj) rfl (Mem.le_refl M) a hf
 obtain ⟨M', Hx', h10, h11⟩ := AnyZ.toH (g := lB.length) (Mem.le_refl M) (fun listed a w ⟨hl, L', M', H', hk, hM', hf', hh'⟩ => by
  subst hl
  exact ⟨M', H', hh', hk l.toArray isB _ (OpsOf.self l) h1 (NoDefer.of h2) hQ hpB h5 (Nat.eq_of_beq_eq_true h7) hM' _ hf'⟩) lA.length _ a M Hx { w with drawn := w.drawn + 1 } ((hH.heap hh).drawn _) hAny
 rw [h9] at h11
 have := AnyH.any (r := r) _ _ _ M' Hx' _ h10 h11
 simpa using this
end Go.Sx
end
section
namespace Go.Sx
open Go.RowKit
section
variable {P : Program} {L : Sl} {M : Mem} {H : Hp} {d : Option Tmp} {ty : TypeId} {pos : String} {af : Array Edge} {g : Option (Nat × Bool)}
theorem Ok.sliceHiMax {t e sz by_ : Nat} {z : Value} {x hi mx : Operand} {A : Option Addr} {m c : Nat} {k k' : IntKind} {i j : Int} [hs : Und P t (.slice e)] [hi_ : Inf P e sz by_ z] (hx : ev L x = some (.slice A m c)) (hhi : ev L hi = some (.int k i)) (hmx : ev L mx = some (.int k' j)) (h0 : 0 ≤ i) (h1 : i ≤ j) (h2 : j ≤ c) :
  Ok P ⟨d, .slice t x none (some hi) (some mx), ty, pos, af, g⟩ L M H (.slice A i.toNat j.toNat) := fun n D a w hf _ => by
 obtain ⟨inf, g1, _, _, _⟩ := hi_.h
 have h3 : i ≤ (j.toNat : Nat) := by omega
 have : A.map (fun x => x.add 0) = A := by cases A <;> simp [Addr.add]
 simp [execOp, Instr.sliceAt, Instr.slice, Instr.sliceBounds, run_underlying hs.h, hf.ev hx, hf.ev hhi, hf.ev hmx, bound_run _ _ _ _ h0 h3, bound_run _ _ _ _ (Int.le_trans h0 h1) h2, sizeOf, typeInfo, g1, this]
end
theorem OwnT.cut {e sz m cap k : Nat} {A : Option Addr} {xs : List Value} {hp : Hp} (h : OwnT e sz (.slice A m cap) m xs hp) (hk : k ≤ m) : OwnT e sz (.slice (adv A k sz cap) (m - k) (cap - k)) (m - k) (xs.drop (k * sz)) hp := by
 have hms : (m - k) * sz = m * sz - k * sz := Nat.sub_mul ..
 have hkm : k * sz ≤ m * sz := Nat.mul_le_mul_right _ hk
 refine ⟨by rw [List.length_drop, h.1, hms], ?_⟩
 rcases h.2 with ⟨h1, h2, h3⟩ | ⟨b, o, cap', c, h1, h2, h3, h4, h5, h6⟩
 ·injection h1 with e1 e2 e3
  subst e1 e2 e3
  have : k = 0 := by omega
  subst this
  exact .inl ⟨by simp [adv], rfl, h3⟩
 ·injection h1 with e1 _ e3
  subst e1 e3
  have hc1 : (cap - k) * sz = cap * sz - k * sz := Nat.sub_mul ..
  have hkc : k * sz ≤ cap * sz := Nat.mul_le_mul_right _ (Nat.le_trans hk h3)
  by_cases hc : k < cap
  ·refine .inr ⟨b, o + k * sz, cap - k, c, by rw [adv_some _ _ _ _ _ hc], h2, by omega, by omega, by omega, ?_⟩
   rw [← h6, List.drop_take, List.drop_drop, hms]
  ·have hkc' : cap = k := by omega
   have hmk : m = k := by omega
   subst hkc' hmk
   refine .inr ⟨b, o, 0, c, by simp [adv], h2, by omega, by unfold maxLen; omega, by omega, ?_⟩
   rw [Nat.sub_self, Nat.zero_mul, List.take_zero, ← h6, List.drop_of_length_le]
   rw [List.length_take]
   omega
theorem OwnT.hiMax {e sz m cap k : Nat} {A : Option Addr} {xs : List Value} {hp : Hp} (h : OwnT e sz (.slice A m cap) m xs hp) (hk : k ≤ m) : OwnT e sz (.slice A k k) k (xs.take (k * sz)) hp := by
 have hkm : k * sz ≤ m * sz := Nat.mul_le_mul_right _ hk
 refine ⟨by rw [List.length_take, h.1]; omega, ?_⟩
 rcases h.2 with ⟨h1, h2, h3⟩ | ⟨b, o, cap', c, h1, h2, h3, h4, h5, h6⟩
 ·injection h1 with e1 e2 e3
  subst e1 e2 e3
  have : k = 0 := by omega
  subst this
  exact .inl ⟨rfl, rfl, h3⟩
 ·injection h1 with e1 _ e3
  subst e1 e3
  have hkc : k * sz ≤ cap * sz := Nat.mul_le_mul_right _ (Nat.le_trans hk h3)
  refine .inr ⟨b, o, k, c, rfl, h2, by omega, by omega, by omega, ?_⟩
  rw [← h6, List.take_take, Nat.min_eq_left hkm]
def Ln (hrow : Hp) (x : Nat × Obj) (H H1 : Hp) : Prop := H.Perm (hrow ++ H1) ∧ x ∈ H1
section
variable {hrow H H1 : Hp} {x : Nat × Obj}
theorem Ln.here : Ln hrow x (hrow ++ x :: H) (x :: H) := ⟨List.Perm.refl _, List.mem_cons_self⟩
theorem Ln.skip (y : Nat × Obj) (h : Ln hrow x H H1) : Ln hrow x (y :: H) (y :: H1) :=
 ⟨(h.1.cons y).trans List.perm_middle.symm, List.mem_cons_of_mem _ h.2⟩
theorem Ln.left (B : Hp) (h : Ln hrow x H H1) : Ln hrow x (H ++ B) (H1 ++ B) :=
 ⟨by have := h.1.append_right B; rwa [List.append_assoc] at this, List.mem_append_left _ h.2⟩
theorem Ln.skipA (A : Hp) (h : Ln hrow x H H1) : Ln hrow x (A ++ H) (A ++ H1) :=
 ⟨by
  have h1 := h.1.append_left A
  refine h1.trans ?_
  rw [← List.append_assoc, ← List.append_assoc]
  exact List.perm_append_comm.append_right _, List.mem_append_right _ h.2⟩
theorem Ln.fst (h : Tk hrow H H1) : Ln hrow x (x :: H) (x :: H1) := ⟨(h.perm.cons x).trans List.perm_middle.symm, List.mem_cons_self⟩
end
theorem a_mm {p : Prop} (h : p := by
 (first | (simp only [List.mem_cons, List.mem_append, List.cons_append, true_or, or_true]; (first | done | fail)) | fail)) : p := h
end Go.Sx
end
section
namespace Go.Sx
open Go.RowKit
section
variable {P : Program} {r : Option Nat} {n : Nat} {D : List Deferred} {L : Sl} {M : Mem} {H H1 : Hp} {Q : Post} {d : Option Tmp} {ty : TypeId} {pos : String} {af : Array Edge} {ops : Array Oper} {rest : List Oper}
theorem R.storeRow {t sz by_ : Nat} {z : Value} {x y : Operand} {b o : Nat} {v : Value} {l vs : List Value} {e : TypeId} {f : Obj → Hp} [hi : Inf P t sz by_ z] (hx : ev L x = some (.pointer (some ⟨b, o, none⟩))) (hy : ev L y = some v)
  (hv : v.cells = vs.toArray) (hb : At H b (.cells l.toArray e (0, 0)) f) (hfit : o + vs.length ≤ l.length) (hl : vs.length = sz) (hone : ∀ u ∈ vs, u.oneCell' = true)
  (k : R false P r n ops rest Q D L M (f (.cells (l.take o ++ vs ++ l.drop (o + vs.length)).toArray e (0, 0)))) : R false P r n ops (⟨none, .store t x y, ty, pos, af, none⟩ :: rest) Q D L M H := by
 refine R.world rfl (by intro c h; cases h) fun a w hf hh => ⟨undef, w.setRow b (l.take o ++ vs ++ l.drop (o + vs.length)).toArray, .inr ⟨?_, rfl⟩, fun hf hh => k _ _ hf (hh.put hb (setRow_same _ _ _ _ _ _ (hh.own _ hb.mem)) (fun k hk => setRow_other _ _ _ _ hk) rfl rfl)⟩
 have := storeAt_run (P := P) (t := t) (v := v) (b := b) (o := o) (w := w) hv hl hone (hh.own _ hb.mem) hfit
 simp [execOp, hf.ev hx, hf.ev hy, this]
end
section
open Go.ChangeShapes Go.WideShapes Go.ChangeAt
variable {P : Program} {Hh : Type} {enc : TypeId × Value → Hh} {W : World} {t e : TypeId} {v : Value} {d : DataW Hh} {ps : List MemPlace} {b : Nat} {rc : Reach}
end
end Go.Sx
end
section
namespace Go.Sx
open Go.RowKit
variable {P : Program} {r : Option Nat} {n : Nat} {D : List Deferred} {L L' : Sl} {M M0 : Mem} {H Hs Hx : Hp} {Q : Post} {J : Sl → Mem → Hp → Prop}
theorem AnyH.arr {ops : Array Oper} {Hs : Hp} : ∀ (f : Nat) (listed : Array Bool) (a : Act) (M : Mem) (Hx Hy : Hp), (∀ w, Heap w M (Hs ++ Hx) → Heap w M (Hs ++ Hy)) → AnyH r P ops M0 Hs Q f listed a M Hy → AnyH r P ops M0 Hs Q f listed a M Hx
 | 0, _, _, _, _, _, ha, h => ⟨h.1, h.2.1, fun w hh => h.2.2 w (ha w hh)⟩
 | _ + 1, _, _, _, _, _, ha, h => ⟨h.1, fun e w hh => h.2.1 e w (ha w hh), fun i hi w hh => h.2.2 i hi w (ha w hh)⟩
def planX (ops : Array Oper) : List Nat → List Nat → Array Bool → Bool
 | [], _, _ => true
 | 1 :: ks, k :: is, listed => (Region.ready .any ops listed).contains k && Region.free .any ops listed k && planX ops ks is (listed.setIfInBounds k true)
 | 0 :: ks, k :: is, listed => (Region.ready .any ops listed).contains k && decide (Region.ready .any ops listed = [k]) && planX ops ks is (listed.setIfInBounds k true)
 | _, _, _ => false
def RX (P : Program) (r : Option Nat) (n : Nat) (ds : List (Option Tmp)) (ks : List Nat) (rest : List Oper) (Q : Post) (D : List Deferred) (J : Sl → Mem → Hp → Prop) (L : Sl) (M0 M : Mem) (Hs Hx : Hp) : Prop :=
 ∀ (ops : Array Oper) (is : List Nat) (listed : Array Bool) (g : Nat), OpsOf ds ops → Region.noSelect ops = true → NoDefer ops → NoPanic Q → picked ops is rest → planX ops ks is listed = true → ks.length = rest.length → M0.le M →
  (∀ L' M' Hx' a', J L' M' Hx' → M0.le M' → Fr n D L' a' → AnyH r P ops M0 Hs Q g (afterA is listed) a' M' Hx') →
  ∀ a, Fr n D L a → AnyH r P ops M0 Hs Q (g + rest.length) listed a M Hx
section
variable {d : Option Tmp} {op : Op} {ty : TypeId} {pos : String} {af : Array Edge} {g : Option (Nat × Bool)} {v : Value} {ds : List (Option Tmp)} {ks : List Nat} {rest : List Oper}
theorem RX.nil (h : J L M Hx) : RX P r n ds [] [] Q D J L M0 M Hs Hx := by
 intro ops is listed g _ _ _ _ hp _ _ hM hJ a hf
 match is with
 | [] => exact hJ L M Hx a h hM hf
 | _ :: _ => exact hp.elim
theorem RX.step_ (hY : ∀ (ops : Array Oper) (a : Act), OpsOf ds ops → Fr n D L a → Yc P ops M0 Hs ⟨d, op, ty, pos, af, g⟩ v a) (hd : dok n d = true)
  (k : RX P r n ds ks rest Q D J (bnd d v L) M0 M Hs Hx) : RX P r n ds (1 :: ks) (⟨d, op, ty, pos, af, g⟩ :: rest) Q D J L M0 M Hs Hx := by
 intro ops js listed g' hO hS hN hQ hl hp hlen hM hJ a hf
 cases js with
 | nil => exact hl.elim
 | cons j js =>
 have h0 : ops[j]? = some ⟨d, op, ty, pos, af, g⟩ := hl.1
 simp only [planX, Bool.and_eq_true] at hp
 obtain ⟨⟨p1, p2⟩, p3⟩ := hp
 have key : AnyH r P ops M0 Hs Q (g' + rest.length) (listed.setIfInBounds j true) (a.put d v) M Hx :=
  k ops js _ g' hO hS hN hQ hl.2 p3 (by simpa using hlen) hM hJ _ (hf.put d hd v)
 exact AnyH.first h0 (Region.noSelect_spec hS) hN hQ (g' + rest.length) listed a M Hx (Region.free_spec h0 p2) (by simpa using p1) (hY ops a hO hf) key
theorem RX.step (hok : ∀ M' Hx', M0.le M' → Ok P ⟨d, op, ty, pos, af, none⟩ L M' (Hs ++ Hx') v) (hd : dok n d = true)
  (k : RX P r n ds ks rest Q D J (bnd d v L) M0 M Hs Hx) : RX P r n ds (1 :: ks) (⟨d, op, ty, pos, af, none⟩ :: rest) Q D J L M0 M Hs Hx :=
 RX.step_ (fun _ _ _ hf => .inl ⟨by simp [Region.wanted], fun M' Hx' w hM' hh' => (hok M' Hx' hM').qr hf hh'⟩) hd k
theorem AnyH.one {ops : Array Oper} {listed : Array Bool} {i : Nat} {a : Act} {f : Nat} (hM : M0.le M) (hr : Region.ready .any ops listed = [i])
  (h : ∀ w, Heap w M (Hs ++ Hx) → wpOpIn (F0 r) 0 P ops Q i (fun a' w' => ∃ M' Hx', Heap w' M' (Hs ++ Hx') ∧ AnyH r P ops M0 Hs Q f (listed.setIfInBounds i true) a' M' Hx') a w) : AnyH r P ops M0 Hs Q (f + 1) listed a M Hx :=
 ⟨hM, fun e => (by rw [hr] at e; cases e), fun q hq w hh => by
  rw [hr, List.mem_singleton] at hq
  subst hq
  exact h w hh⟩
end
section
variable {P : Program} {L : Sl} {M : Mem} {H : Hp} {d : Option Tmp} {ty : TypeId} {pos : String} {af : Array Edge} {g : Option (Nat × Bool)} {t t' e : TypeId} {x y : Operand}
theorem Ok.eqPNN [hu : Und P t (.pointer e)] (hx : ev L x = some (.pointer none)) (hy : ev L y = some (.pointer none)) : Ok P ⟨d, .binOp .eql t x y t', ty, pos, af, g⟩ L M H (.bool true) := by
 refine Ok.bin hx hy (fun w => by simp [eqGuard]) fun w => ?_
 have h : ∀ d : Nat, (Op.equalIn (d + 1) t (.pointer none) (.pointer none)).run P w = .ok true w := fun d => by
  simp [Op.equalIn, run_underlying hu.h, sizeOf, typeInfo]
 simp only [binOp]
 simp [Op.equal, Op.maxDepth, h 9999]
end
section
variable {P : Program} {r : Option Nat} {n : Nat} {D : List Deferred} {L : Sl} {M : Mem} {H : Hp} {Q : Post}
end
end Go.Sx
end
