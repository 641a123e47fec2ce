/-
  A small separation logic over the walk inside a fence: frames and heaps are closed, with lists of facts.
  'Heap w M H': the world w has the pool M (blocks that stay as they are) and the owned blocks H.
-/
import Derived.WalkKit
import Derived.Sort.QuietThIn
import Derived.RangeFuncIn
import Derived.KernelRfl
import Derived.Deep.Draws
namespace Go.Sx
open Go.RowKit

/-- no fence but the round -/
def F0 (r : Option Nat) : Fence := { Fence.wide with round := r }
@[simp] theorem F0_round (r : Option Nat) : (F0 r).round = r := rfl
theorem F0_fn (r : Option Nat) (f : FuncId) : (F0 r).fn f := trivial
theorem F0_none : F0 none = Fence.wide := rfl
theorem F0_depth (r : Option Nat) : (F0 r).depth = none := rfl

structure Mem where
  os : Os
  out : Array (Nat × ByteArray)
  at_ : Nat → Option Obj

abbrev Hp := List (Nat × Obj)
abbrev Sl := List (Nat × Value)

structure Heap (w : World) (M : Mem) (H : Hp) : Prop where
  os : w.os = M.os
  out : w.output = M.out
  pool : ∀ b o, M.at_ b = some o → w.heap[b]? = some o
  own : ∀ p ∈ H, w.heap[p.1]? = some p.2
  apart : ∀ p ∈ H, M.at_ p.1 = none
  nodup : (H.map Prod.fst).Nodup

section heap
variable {w w' : World} {M : Mem} {H H' : Hp}
theorem heap_lt {w : World} {b : Nat} {o : Obj} (h : w.heap[b]? = some o) : b < w.heap.size := by
  rcases Nat.lt_or_ge b w.heap.size with h1 | h1
  · exact h1
  · rw [Array.getElem?_eq_none h1] at h; cases h
theorem Heap.lt (h : Heap w M H) {b : Nat} {o : Obj} (hm : (b, o) ∈ H) : b < w.heap.size := heap_lt (h.own _ hm)
theorem Heap.same (h : Heap w M H) (h1 : w'.heap = w.heap) (h2 : w'.os = w.os) (h3 : w'.output = w.output) : Heap w' M H :=
  ⟨h2.trans h.os, h3.trans h.out, fun b o hb => by rw [h1]; exact h.pool b o hb, fun p hp => by rw [h1]; exact h.own p hp, h.apart, h.nodup⟩
theorem Heap.drawn (h : Heap w M H) (d : Nat) : Heap { w with drawn := d } M H := h.same rfl rfl rfl
theorem Heap.drewN (h : Heap w M H) (n : Nat) : Heap (w.drewN n) M H := h.same rfl rfl rfl
theorem Heap.drew (h : Heap w M H) : Heap w.drew M H := h.same rfl rfl rfl
theorem Heap.alloc (h : Heap w M H) (o : Obj) : Heap (w.alloc o) M ((w.heap.size, o) :: H) := by
  have hp : ∀ b o', w.heap[b]? = some o' → (w.alloc o).heap[b]? = some o' := fun b o' hb => (Below.heap_alloc w o b (heap_lt hb)).trans hb
  refine ⟨h.os, h.out, fun b o' hb => hp b o' (h.pool b o' hb), ?_, ?_, ?_⟩
  · intro p hm
    rcases List.mem_cons.1 hm with rfl | hm
    · exact heap_alloc_new w o
    · exact hp _ _ (h.own p hm)
  · intro p hm
    rcases List.mem_cons.1 hm with rfl | hm
    · cases he : M.at_ w.heap.size with
      | none => rfl
      | some o' => exact absurd (heap_lt (h.pool _ _ he)) (Nat.lt_irrefl _)
    · exact h.apart p hm
  · rw [List.map_cons, List.nodup_cons]
    refine ⟨?_, h.nodup⟩
    intro hm
    obtain ⟨p, hp', he⟩ := List.mem_map.1 hm
    have := heap_lt (h.own p hp')
    dsimp only at he
    omega
theorem Heap.tail {x : Nat × Obj} (h : Heap w M (x :: H)) : Heap w M H :=
  ⟨h.os, h.out, h.pool, fun p hp => h.own p (List.mem_cons_of_mem _ hp), fun p hp => h.apart p (List.mem_cons_of_mem _ hp), (List.nodup_cons.1 h.nodup).2⟩
theorem Heap.perm (h : Heap w M H) (hp : H.Perm H') : Heap w M H' :=
  ⟨h.os, h.out, h.pool, fun p hm => h.own p (hp.mem_iff.2 hm), fun p hm => h.apart p (hp.mem_iff.2 hm), (hp.map Prod.fst).nodup_iff.1 h.nodup⟩
end heap

/-- an owned block, and what the list is with another content of it -/
inductive At : Hp → Nat → Obj → (Obj → Hp) → Prop
  | head (b : Nat) (o : Obj) (H : Hp) : At ((b, o) :: H) b o (fun o' => (b, o') :: H)
  | tail {H : Hp} {b : Nat} {o : Obj} {f : Obj → Hp} (x : Nat × Obj) (h : At H b o f) : At (x :: H) b o (fun o' => x :: f o')

theorem At.split {H : Hp} {b : Nat} {o : Obj} {f : Obj → Hp} (h : At H b o f) : ∃ A B, H = A ++ (b, o) :: B ∧ f = fun o' => A ++ (b, o') :: B := by
  induction h with
  | head b o H => exact ⟨[], H, rfl, rfl⟩
  | tail x _ ih =>
    obtain ⟨A, B, h1, h2⟩ := ih
    subst h1; subst h2
    exact ⟨x :: A, B, rfl, rfl⟩
theorem At.mem {H : Hp} {b : Nat} {o : Obj} {f : Obj → Hp} (h : At H b o f) : (b, o) ∈ H := by
  obtain ⟨A, B, rfl, _⟩ := h.split
  simp

theorem Heap.put {w w' : World} {M : Mem} {H : Hp} {b : Nat} {o o' : Obj} {f : Obj → Hp} (h : Heap w M H) (ha : At H b o f)
    (hb : w'.heap[b]? = some o') (hk : ∀ k, k ≠ b → w'.heap[k]? = w.heap[k]?) (hos : w'.os = w.os) (hout : w'.output = w.output) : Heap w' M (f o') := by
  obtain ⟨A, B, rfl, rfl⟩ := ha.split
  have hnd := h.nodup
  rw [List.map_append, List.map_cons, List.nodup_append] at hnd
  obtain ⟨_, h2, h3⟩ := hnd
  rw [List.nodup_cons] at h2
  have hne : ∀ p, p ∈ A ∨ p ∈ B → p.1 ≠ b := by
    rintro p (hp | hp) e
    · exact h3 p.1 (List.mem_map.2 ⟨p, hp, rfl⟩) b (List.mem_cons_self ..) e
    · exact h2.1 (List.mem_map.2 ⟨p, hp, e⟩)
  have hM : M.at_ b = none := h.apart (b, o) (by simp)
  refine ⟨hos.trans h.os, hout.trans h.out, ?_, ?_, ?_, ?_⟩
  · intro k ok hkk
    have : k ≠ b := fun e => by subst e; rw [hM] at hkk; cases hkk
    rw [hk k this]; exact h.pool k ok hkk
  · intro p hp
    rcases List.mem_append.1 hp with hp | hp
    · rw [hk _ (hne p (.inl hp))]; exact h.own p (List.mem_append_left _ hp)
    · rcases List.mem_cons.1 hp with rfl | hp
      · exact hb
      · rw [hk _ (hne p (.inr hp))]; exact h.own p (List.mem_append_right _ (List.mem_cons_of_mem _ hp))
  · intro p hp
    rcases List.mem_append.1 hp with hp | hp
    · exact h.apart p (List.mem_append_left _ hp)
    · rcases List.mem_cons.1 hp with rfl | hp
      · exact hM
      · exact h.apart p (List.mem_append_right _ (List.mem_cons_of_mem _ hp))
  · have := h.nodup
    simpa using this

/-- the pool with one block more -/
def Mem.put (M : Mem) (b : Nat) (o : Obj) : Mem := { M with at_ := fun k => if k = b then some o else M.at_ k }
theorem Heap.freeze {w : World} {M : Mem} {H : Hp} {b : Nat} {o : Obj} (h : Heap w M ((b, o) :: H)) : Heap w (M.put b o) H := by
  have ht := h.tail
  have hn := (List.nodup_cons.1 h.nodup).1
  refine ⟨h.os, h.out, ?_, ht.own, ?_, ht.nodup⟩
  · intro k ok hk
    unfold Mem.put at hk
    dsimp only at hk
    split at hk
    · rename_i e; cases hk; subst e; exact h.own (k, o) (List.mem_cons_self ..)
    · exact h.pool k ok hk
  · intro p hp
    unfold Mem.put
    dsimp only
    rw [if_neg]
    · exact ht.apart p hp
    · intro e; exact hn (List.mem_map.2 ⟨p, hp, e⟩)
theorem Heap.thaw {w : World} {M : Mem} {H : Hp} {b : Nat} {o : Obj} (hM : M.at_ b = none) (h : Heap w (M.put b o) H) : Heap w M ((b, o) :: H) := by
  have hpb : (M.put b o).at_ b = some o := by simp [Mem.put]
  have hlt : ∀ k ok, M.at_ k = some ok → (M.put b o).at_ k = some ok := by
    intro k ok hk
    have : k ≠ b := fun e => by subst e; rw [hM] at hk; cases hk
    simp [Mem.put, this, hk]
  refine ⟨h.os, h.out, fun k ok hk => h.pool k ok (hlt k ok hk), ?_, ?_, ?_⟩
  · intro p hp
    rcases List.mem_cons.1 hp with rfl | hp
    · exact h.pool _ _ hpb
    · exact h.own p hp
  · intro p hp
    rcases List.mem_cons.1 hp with rfl | hp
    · exact hM
    · cases he : M.at_ p.1 with
      | none => rfl
      | some ok => have := h.apart p hp; rw [hlt _ _ he] at this; cases this
  · rw [List.map_cons, List.nodup_cons]
    refine ⟨?_, h.nodup⟩
    intro hm
    obtain ⟨p, hp, e⟩ := List.mem_map.1 hm
    have := h.apart p hp
    rw [e, hpb] at this; cases this
theorem Heap.pool_ne {w : World} {M : Mem} {H : Hp} {b : Nat} {o : Obj} (h : Heap w M ((b, o) :: H)) : M.at_ b = none := h.apart _ (List.mem_cons_self ..)

/-! frames -/
def lk : Sl → Nat → Option Value
  | [], _ => none
  | (s, v) :: l, t => match Nat.beq s t with
    | true => some v
    | false => lk l t
theorem lk_cons (s : Nat) (v : Value) (l : Sl) (t : Nat) : lk ((s, v) :: l) t = if s = t then some v else lk l t := by
  by_cases h : s = t
  · subst h; simp [lk]
  · have : Nat.beq s t = false := by
      cases hb : Nat.beq s t with
      | false => rfl
      | true => exact absurd (Nat.eq_of_beq_eq_true hb) h
    simp [lk, this, h]

structure Fr (n : Nat) (D : List Deferred) (L : Sl) (a : Act) : Prop where
  defers : a.defers = D
  size : a.tmps.size = n
  slot : ∀ t v, lk L t = some v → a.tmps.getD t undef = v

def bnd (d : Option Tmp) (v : Value) (L : Sl) : Sl :=
  match d with
  | some d => (d, v) :: L
  | none => L
def dok (n : Nat) (d : Option Tmp) : Bool :=
  match d with
  | some d => Nat.ble (d + 1) n
  | none => true

theorem Fr.put {n : Nat} {D : List Deferred} {L : Sl} {a : Act} (h : Fr n D L a) (d : Option Tmp) (hd : dok n d = true) (v : Value) : Fr n D (bnd d v L) (a.put d v) := by
  cases d with
  | none => exact h
  | some d =>
    have hd' : d < n := Nat.lt_of_succ_le (Nat.le_of_ble_eq_true hd)
    refine ⟨h.defers, by simpa [Act.put] using h.size, fun t u ht => ?_⟩
    rw [bnd, lk_cons] at ht
    have hsz : d < a.tmps.size := by rw [h.size]; exact hd'
    simp only [Act.put]
    split at ht
    · rename_i e; subst e; cases ht
      simp [Array.getD, hsz]
    · rename_i e
      rw [← h.slot t u ht]
      simp [Array.getD_eq_getD_getElem?, e]

/-- 'L' says all that 'L'' says -/
def sub (L' L : Sl) : Prop := ∀ t v, lk L' t = some v → lk L t = some v
theorem sub_nil (L : Sl) : sub [] L := fun _ _ h => by cases h
theorem sub_cons {L' L : Sl} {s : Nat} {v : Value} (h : lk L s = some v) (h' : sub L' L) : sub ((s, v) :: L') L := by
  intro t u ht
  rw [lk_cons] at ht
  split at ht
  · rename_i e; subst e; cases ht; exact h
  · exact h' t u ht
theorem Fr.weak {n : Nat} {D : List Deferred} {L L' : Sl} {a : Act} (h : Fr n D L a) (hs : sub L' L) : Fr n D L' a :=
  ⟨h.defers, h.size, fun t v ht => h.slot t v (hs t v ht)⟩

def ev (L : Sl) : Operand → Option Value
  | .tmp t => lk L t
  | .const v => some v
  | .global g => some (.pointer (some ⟨g, 0, none⟩))
  | .func f => some (.func (.func f) #[] #[])
theorem Fr.ev {n : Nat} {D : List Deferred} {L : Sl} {a : Act} (h : Fr n D L a) {x : Operand} {v : Value} (hx : ev L x = some v) : a.eval x = v := by
  cases x with
  | tmp t => exact h.slot t v hx
  | const u => cases hx; rfl
  | global g => cases hx; rfl
  | func f => cases hx; rfl
inductive Evs (L : Sl) : List Operand → List Value → Prop
  | nil : Evs L [] []
  | cons {x : Operand} {v : Value} {xs : List Operand} {vs : List Value} (h : ev L x = some v) (t : Evs L xs vs) : Evs L (x :: xs) (v :: vs)
theorem Fr.evs {n : Nat} {D : List Deferred} {L : Sl} {a : Act} (h : Fr n D L a) {xs : List Operand} {vs : List Value} (hx : Evs L xs vs) : xs.map a.eval = vs := by
  induction hx with
  | nil => rfl
  | cons hx _ ih => rw [List.map_cons, h.ev hx, ih]

/-! the judgements -/
abbrev Post := Exit → Act → World → Prop
variable {P : Program} {r : Option Nat} {n : Nat} {D : List Deferred} {L L' : Sl} {M : Mem} {H : Hp} {Q : Post}

/-- code -/
def C (P : Program) (r : Option Nat) (n : Nat) (c : Code) (Q : Post) (D : List Deferred) (L : Sl) (M : Mem) (H : Hp) : Prop :=
  ∀ a w, Fr n D L a → Heap w M H → c.wpIn (F0 r) 0 P Q a w
/-- the rest of a region; 'dr': its order is drawn -/
def R (dr : Bool) (P : Program) (r : Option Nat) (n : Nat) (ops : Array Oper) (rest : List Oper) (Q : Post) (D : List Deferred) (L : Sl) (M : Mem) (H : Hp) : Prop :=
  match dr with
  | false => ∀ a w, Fr n D L a → Heap w M H → wpListIn (F0 r) 0 P ops Q rest a w
  | true => ∀ a, Fr n D L a → wpQuietIn (F0 r) 0 P ops (fun w => Heap w M H) (fun a' => ∀ w', Heap w' M H → Q .normal a' w') rest a
/-- the end, by an exit -/
def Fin (n : Nat) (e : Exit) (Q : Post) (D : List Deferred) (L : Sl) (M : Mem) (H : Hp) : Prop := ∀ a w, Fr n D L a → Heap w M H → Q e a w

theorem C.weak {c : Code} (hs : sub L' L) (h : C P r n c Q D L' M H) : C P r n c Q D L M H := fun a w hf hh => h a w (hf.weak hs) hh
theorem C.perm {H' : Hp} {c : Code} (hp : H.Perm H') (h : C P r n c Q D L M H') : C P r n c Q D L M H := fun a w hf hh => h a w hf (hh.perm hp)
theorem C.drop {x : Nat × Obj} {c : Code} (h : C P r n c Q D L M H) : C P r n c Q D L M (x :: H) := fun a w hf hh => h a w hf hh.tail
theorem C.freeze {b : Nat} {o : Obj} {c : Code} (h : M.at_ b = none → C P r n c Q D L (M.put b o) H) : C P r n c Q D L M ((b, o) :: H) := fun a w hf hh => h hh.pool_ne a w hf hh.freeze
theorem Fin.weak {e : Exit} (hs : sub L' L) (h : Fin n e Q D L' M H) : Fin n e Q D L M H := fun a w hf hh => h a w (hf.weak hs) hh
theorem Fin.perm {H' : Hp} {e : Exit} (hp : H.Perm H') (h : Fin n e Q D L M H') : Fin n e Q D L M H := fun a w hf hh => h a w hf (hh.perm hp)
theorem Fin.drop {x : Nat × Obj} {e : Exit} (h : Fin n e Q D L M H) : Fin n e Q D L M (x :: H) := fun a w hf hh => h a w hf hh.tail
theorem Fin.freeze {b : Nat} {o : Obj} {e : Exit} (h : M.at_ b = none → Fin n e Q D L (M.put b o) H) : Fin n e Q D L M ((b, o) :: H) := fun a w hf hh => h hh.pool_ne a w hf hh.freeze

theorem C.seq {x y : Code} (h : C P r n x (Exit.then (y.wpIn (F0 r) 0 P Q) Q) D L M H) : C P r n (.seq x y) Q D L M H := fun a w hf hh => wpIn_seq (h a w hf hh)
theorem C.block {id : Nat} {c : Code} (h : C P r n c (Exit.inBlock id Q) D L M H) : C P r n (.block id c) Q D L M H := fun a w hf hh => wpIn_block (h a w hf hh)
theorem C.skip (h : Fin n .normal Q D L M H) : C P r n .skip Q D L M H := fun a w hf hh => wpIn_skip (h a w hf hh)
theorem C.ret (h : Fin n .ret Q D L M H) : C P r n .ret Q D L M H := fun a w hf hh => wpIn_ret (h a w hf hh)
theorem C.exit {id : Nat} (h : Fin n (.exit id) Q D L M H) : C P r n (.exit id) Q D L M H := fun a w hf hh => wpIn_exit (h a w hf hh)
theorem C.label {l : Nat} (h : Fin n .normal Q D L M H) : C P r n (.label l) Q D L M H := fun a w hf hh => wpIn_label (h a w hf hh)
theorem C.cond {c : Operand} {x y : Code} {t : Bool} (hc : ev L c = some (.bool t)) (ht : t = true → C P r n x Q D L M H) (hf : t = false → C P r n y Q D L M H) :
    C P r n (.cond c x y) Q D L M H := fun _ _ hfr hh => wpIn_cond_split (hfr.ev hc) (fun h => ht h _ _ hfr hh) (fun h => hf h _ _ hfr hh)
theorem C.condDec {c : Operand} {x y : Code} {p : Prop} {_ : Decidable p} (hc : ev L c = some (.bool (decide p))) (ht : p → C P r n x Q D L M H) (hf : ¬ p → C P r n y Q D L M H) : C P r n (.cond c x y) Q D L M H :=
  C.cond hc (fun h => ht (of_decide_eq_true h)) (fun h => hf (of_decide_eq_false h))
theorem C.condNDec {c : Operand} {x y : Code} {p : Prop} {_ : Decidable p} (hc : ev L c = some (.bool (!decide p))) (ht : ¬ p → C P r n x Q D L M H) (hf : p → C P r n y Q D L M H) : C P r n (.cond c x y) Q D L M H :=
  C.cond hc (fun h => ht (by simpa using h)) (fun h => hf (by simpa using h))
theorem C.condBeq {c : Operand} {x y : Code} {p q : Int} (hc : ev L c = some (.bool (p == q))) (ht : p = q → C P r n x Q D L M H) (hf : p ≠ q → C P r n y Q D L M H) : C P r n (.cond c x y) Q D L M H :=
  C.cond hc (fun h => ht (by simpa using h)) (fun h => hf (by simpa using h))
theorem C.condBne {c : Operand} {x y : Code} {p q : Int} (hc : ev L c = some (.bool (p != q))) (ht : p ≠ q → C P r n x Q D L M H) (hf : p = q → C P r n y Q D L M H) : C P r n (.cond c x y) Q D L M H :=
  C.cond hc (fun h => ht (by simpa using h)) (fun h => hf (by simpa using h))
theorem C.condNot {c : Operand} {x y : Code} {t : Bool} (hc : ev L c = some (.bool (!t))) (ht : t = false → C P r n x Q D L M H) (hf : t = true → C P r n y Q D L M H) : C P r n (.cond c x y) Q D L M H :=
  C.cond hc (fun h => ht (by simpa using h)) (fun h => hf (by simpa using h))
theorem C.condT {c : Operand} {x y : Code} (hc : ev L c = some (.bool true)) (h : C P r n x Q D L M H) : C P r n (.cond c x y) Q D L M H := C.cond hc (fun _ => h) (fun e => by cases e)
theorem C.condF {c : Operand} {x y : Code} (hc : ev L c = some (.bool false)) (h : C P r n y Q D L M H) : C P r n (.cond c x y) Q D L M H := C.cond hc (fun e => by cases e) (fun _ => h)
theorem C.region {id : Nat} {l : List Oper} (h : R false P r n l.toArray l Q D L M H) : C P r n (.region id l.toArray false) Q D L M H :=
  fun a w hf hh => wpIn_region_lit (h a w hf hh)
theorem C.regionQ {id : Nat} {l : List Oper} (hm : P.follows .mixedOrders = true) (hB : Region.lexB .any l.toArray = true) (h : R true P none n l.toArray l Q D L M H) : C P none n (.region id l.toArray true) Q D L M H :=
  fun a _ hf hh => wpIn_region_quiet rfl hm hB (C := fun w => Heap w M H) (hh.drawn _) (h a hf)

theorem Fin.then_ {y : Code} (h : C P r n y Q D L M H) : Fin n .normal (Exit.then (y.wpIn (F0 r) 0 P Q) Q) D L M H := h
theorem Fin.thenRet {K : Act → World → Prop} (h : Fin n .ret Q D L M H) : Fin n .ret (Exit.then K Q) D L M H := h
theorem Fin.thenExit {K : Act → World → Prop} {id : Nat} (h : Fin n (.exit id) Q D L M H) : Fin n (.exit id) (Exit.then K Q) D L M H := h
theorem Fin.blockNormal {id : Nat} (h : Fin n .normal Q D L M H) : Fin n .normal (Exit.inBlock id Q) D L M H := h
theorem Fin.blockRet {id : Nat} (h : Fin n .ret Q D L M H) : Fin n .ret (Exit.inBlock id Q) D L M H := h
theorem Fin.blockExit {id : Nat} (h : Fin n .normal Q D L M H) : Fin n (.exit id) (Exit.inBlock id Q) D L M H := fun a w hf hh => by
  simp only [Exit.inBlock, if_true]; exact h a w hf hh
theorem Fin.blockOther {id id' : Nat} (hne : Nat.beq id' id = false) (h : Fin n (.exit id') Q D L M H) : Fin n (.exit id') (Exit.inBlock id Q) D L M H := fun a w hf hh => by
  have : id' ≠ id := fun e => by subst e; simp at hne
  simp only [Exit.inBlock, if_neg this]; exact h a w hf hh

/-! loops -/
def Again {X : Type} (n : Nat) (D : List Deferred) (I : X → Prop) (Lf : X → Sl) (Mf : X → Mem) (Hf : X → Hp) (μ : X → Nat) (m : Nat) (a : Act) (w : World) : Prop :=
  ∃ y, I y ∧ μ y < m ∧ Fr n D (Lf y) a ∧ Heap w (Mf y) (Hf y)
theorem C.loop {X : Type} (I : X → Prop) (Lf : X → Sl) (Mf : X → Mem) (Hf : X → Hp) (μ : X → Nat) (x0 : X) {c : Code} (h0 : I x0) (hL : sub (Lf x0) L) (hM : M = Mf x0) (hH : H = Hf x0)
    (round : ∀ x, I x → C P r n c (Exit.then (Again n D I Lf Mf Hf μ (μ x)) Q) D (Lf x) (Mf x) (Hf x)) : C P r n (.loop c) Q D L M H := by
  intro a w hf hh
  refine wpIn_loop (I := fun a w => ∃ x, I x ∧ Fr n D (Lf x) a ∧ Heap w (Mf x) (Hf x)) (μ := fun a w => Classical.epsilon fun m => ∃ x, I x ∧ Fr n D (Lf x) a ∧ Heap w (Mf x) (Hf x) ∧ μ x = m ∧ ∀ y, I y → Fr n D (Lf y) a → Heap w (Mf y) (Hf y) → μ x ≤ μ y) ?_ ?_
  · subst hM; subst hH
    exact ⟨x0, h0, hf.weak hL, hh⟩
  · have least : ∀ a w, (∃ x, I x ∧ Fr n D (Lf x) a ∧ Heap w (Mf x) (Hf x)) → ∃ m x, I x ∧ Fr n D (Lf x) a ∧ Heap w (Mf x) (Hf x) ∧ μ x = m ∧ ∀ y, I y → Fr n D (Lf y) a → Heap w (Mf y) (Hf y) → μ x ≤ μ y := by
      intro a w ⟨x, hx⟩
      have : ∀ k x, μ x ≤ k → (I x ∧ Fr n D (Lf x) a ∧ Heap w (Mf x) (Hf x)) → ∃ m x, I x ∧ Fr n D (Lf x) a ∧ Heap w (Mf x) (Hf x) ∧ μ x = m ∧ ∀ y, I y → Fr n D (Lf y) a → Heap w (Mf y) (Hf y) → μ x ≤ μ y := by
        intro k
        induction k with
        | zero => intro x hk hx; exact ⟨_, x, hx.1, hx.2.1, hx.2.2, rfl, fun y _ _ _ => by omega⟩
        | succ k ih =>
          intro x hk hx
          by_cases hy : ∃ y, μ y ≤ k ∧ (I y ∧ Fr n D (Lf y) a ∧ Heap w (Mf y) (Hf y))
          · obtain ⟨y, h1, h2⟩ := hy; exact ih y h1 h2
          · refine ⟨_, x, hx.1, hx.2.1, hx.2.2, rfl, fun y h1 h2 h3 => ?_⟩
            rcases Nat.lt_or_ge k (μ y) with h | h
            · omega
            · exact absurd ⟨y, h, h1, h2, h3⟩ hy
      exact this (μ x) x (Nat.le_refl _) hx
    intro a w hx
    obtain ⟨x, hIx, hFx, hHx, hm, hmin⟩ := Classical.epsilon_spec (least a w hx)
    refine wpIn_mono (round x hIx a w hFx hHx) ?_
    intro e a' w' hq
    cases e with
    | normal =>
      obtain ⟨y, h1, h2, h3, h4⟩ := hq
      refine ⟨⟨y, h1, h3, h4⟩, ?_⟩
      obtain ⟨z, hz1, hz2, hz3, hz4, hz5⟩ := Classical.epsilon_spec (least a' w' ⟨y, h1, h3, h4⟩)
      have := hz5 y h1 h3 h4
      show Classical.epsilon _ < Classical.epsilon _
      rw [← hz4, ← hm]
      omega
    | exit id => exact hq
    | goto l => exact hq
    | ret => exact hq
    | panic ch => exact hq
    | outgrown => exact hq
theorem Fin.again {X : Type} {I : X → Prop} {Lf : X → Sl} {Mf : X → Mem} {Hf : X → Hp} {μ : X → Nat} {m : Nat} (y : X) (hI : I y) (hμ : μ y < m) (hL : sub (Lf y) L) (hM : M = Mf y) (hH : H = Hf y) :
    Fin n .normal (Exit.then (Again n D I Lf Mf Hf μ m) Q) D L M H := by
  intro a w hf hh
  subst hM; subst hH
  exact ⟨y, hI, hμ, hf.weak hL, hh⟩

/-! two ways meet again -/
def Join {X : Type} (n : Nat) (D : List Deferred) (I : X → Prop) (Lf : X → Sl) (Mf : X → Mem) (Hf : X → Hp) (a : Act) (w : World) : Prop :=
  ∃ y, I y ∧ Fr n D (Lf y) a ∧ Heap w (Mf y) (Hf y)
theorem C.seqCut {X : Type} (I : X → Prop) (Lf : X → Sl) (Mf : X → Mem) (Hf : X → Hp) {x y : Code} (hx : C P r n x (Exit.then (Join n D I Lf Mf Hf) Q) D L M H)
    (hy : ∀ z, I z → C P r n y Q D (Lf z) (Mf z) (Hf z)) : C P r n (.seq x y) Q D L M H := by
  intro a w hf hh
  refine wpIn_seq (wpIn_mono (hx a w hf hh) ?_)
  intro e a' w' hq
  cases e with
  | normal =>
    obtain ⟨z, h1, h2, h3⟩ := hq
    exact hy z h1 a' w' h2 h3
  | exit id => exact hq
  | goto l => exact hq
  | ret => exact hq
  | panic ch => exact hq
  | outgrown => exact hq
theorem Fin.join {X : Type} {I : X → Prop} {Lf : X → Sl} {Mf : X → Mem} {Hf : X → Hp} (y : X) (hI : I y) (hL : sub (Lf y) L) (hM : M = Mf y) (hH : H = Hf y) :
    Fin n .normal (Exit.then (Join n D I Lf Mf Hf) Q) D L M H := by
  intro a w hf hh
  subst hM; subst hH
  exact ⟨y, hI, hf.weak hL, hh⟩

/-! functions -/
/-- a call's contract -/
def K (P : Program) (f : Nat) (args : List Value) (M : Mem) (H : Hp) (T : Value → Mem → Hp → Prop) : Prop :=
  ∀ w, Heap w M H → Calls P f args.toArray w fun e w' => ∃ v M' H', e = .returned v ∧ T v M' H' ∧ Heap w' M' H'
theorem K.mono {f : Nat} {args : List Value} {T T' : Value → Mem → Hp → Prop} (h : K P f args M H T) (ht : ∀ v M' H', T v M' H' → T' v M' H') : K P f args M H T' :=
  fun w hh => (h w hh).mono fun _ _ ⟨v, M', H', h1, h2, h3⟩ => ⟨v, M', H', h1, ht _ _ _ h2, h3⟩
theorem K.perm {f : Nat} {args : List Value} {T : Value → Mem → Hp → Prop} {H' : Hp} (hp : H.Perm H') (h : K P f args M H' T) : K P f args M H T :=
  fun w hh => h w (hh.perm hp)
/-- a block is lent to the pool for the call -/
theorem K.lend {f : Nat} {args : List Value} {b : Nat} {o : Obj} {T : Value → Mem → Hp → Prop} (h : K P f args (M.put b o) H (fun v M' H' => M' = M.put b o ∧ T v M ((b, o) :: H'))) : K P f args M ((b, o) :: H) T :=
  fun w hh => (h w hh.freeze).mono fun _ _ ⟨v, M', H', h1, ⟨h2, h3⟩, h4⟩ => ⟨v, M, (b, o) :: H', h1, h3, by subst h2; exact h4.thaw hh.pool_ne⟩

def retPost (P : Program) (fn : Func) (T : Value → Mem → Hp → Prop) : Post := bodyPost P fn fun e w' => ∃ v M' H', e = .returned v ∧ T v M' H' ∧ Heap w' M' H'

def zipL : Nat → List Value → Sl
  | _, [] => []
  | i, v :: vs => (i, v) :: zipL (i + 1) vs
theorem lk_zipL (vs : List Value) : ∀ (i t : Nat) (v : Value), lk (zipL i vs) t = some v → i ≤ t ∧ vs[t - i]? = some v := by
  induction vs with
  | nil => intro i t v h; cases h
  | cons u vs ih =>
    intro i t v h
    rw [zipL, lk_cons] at h
    split at h
    · rename_i e; subst e; cases h; simp
    · obtain ⟨h1, h2⟩ := ih _ _ _ h
      refine ⟨by omega, ?_⟩
      have : t - i = (t - (i + 1)) + 1 := by omega
      rw [this, List.getElem?_cons_succ]; exact h2
theorem K.enter {f : Nat} {fn : Func} {c : Code} {args : List Value} {T : Value → Mem → Hp → Prop} (hf : P.funcs[f]? = some fn) (hb : fn.body = some c) (hn : fn.ntmps = n) (hle : Nat.ble args.length n = true)
    (h : C P none n c (retPost P fn T) [] (zipL 0 args) M H) : K P f args M H T := by
  intro w hh
  refine callsIn_wide.1 (callsIn_of_wp (n := 0) (F := F0 none) hf hb trivial (h _ w ⟨rfl, ?_, ?_⟩ hh) rfl)
  · have := Nat.le_of_ble_eq_true hle
    simp [hn]; omega
  · intro t v ht
    obtain ⟨_, h2⟩ := lk_zipL args 0 t v ht
    rw [Nat.sub_zero] at h2
    have hlt : t < args.length := (List.getElem?_eq_some_iff.1 h2).1
    have h3 := (List.getElem?_eq_some_iff.1 h2).2
    simp [Array.getD_eq_getD_getElem?, Array.getElem?_append, hlt, h3]

/-- what a function hands back, out of slots or cells -/
def resOf (a : Act) : ResultVar → Sem Value
  | .tmp t => pure (a.tmps.getD t undef)
  | .cell b t => do let ad ← asAddr (a.tmps.getD b undef); loadVar t ad
def Res (P : Program) (L : Sl) (M : Mem) (H : Hp) (rs : List ResultVar) (vs : List Value) : Prop :=
  ∀ n D a w, Fr n D L a → Heap w M H → (rs.mapM (resOf a)).run P w = .ok vs w
theorem Res.nil : Res P L M H [] [] := fun _ _ _ _ _ _ => rfl
theorem Res.cons_ {x : ResultVar} {v : Value} {rs : List ResultVar} {vs : List Value} (h : ∀ n D a w, Fr n D L a → Heap w M H → (resOf a x).run P w = .ok v w) (ht : Res P L M H rs vs) : Res P L M H (x :: rs) (v :: vs) := fun n D a w hf hh => by
  rw [List.mapM_cons, Sem.run_bind, h n D a w hf hh]
  simp only [Result.andThen]
  rw [Sem.run_bind, ht n D a w hf hh]
  rfl
theorem Res.cons {t : Tmp} {v : Value} {rs : List ResultVar} {vs : List Value} (h : lk L t = some v) (ht : Res P L M H rs vs) : Res P L M H (.tmp t :: rs) (v :: vs) :=
  Res.cons_ (fun n D a w hf _ => by simp only [resOf]; rw [hf.slot _ _ h]; rfl) ht
def retv : List Value → Value
  | [v] => v
  | vs => .tuple vs.toArray
theorem Fin.return_ {fn : Func} {rs : List ResultVar} {vs : List Value} {e : Exit} {T : Value → Mem → Hp → Prop} (he : e = .ret ∨ e = .normal) (hr : fn.results = rs.toArray) {H2 : Hp} (h : Res P L M H rs vs) (ha : ∀ w, Heap w M H → Heap w M H2) (ht : T (retv vs) M H2) :
    Fin n e (retPost P fn T) [] L M H := by
  intro a w hf hh
  have hrun : (results fn a.tmps).run P w = .ok (retv vs) w := by
    have h1 := h _ _ a w hf hh
    unfold results
    rw [hr, List.mapM_toArray, Sem.run_bind, Sem.run_map]
    have h2 := congrArg (fun z : Result (List Value) => (z.andThen fun a w' => Result.ok a.toArray w').andThen fun (a : Array Value) w' => Sem.run P (pure (if h : a.size = 1 then a[0] else Value.tuple a)) w') h1
    refine Eq.trans h2 ?_
    match vs with
    | [] => rfl
    | [v] => rfl
    | v :: u :: vs => simp [Result.andThen, retv]
  rcases he with rfl | rfl
  · exact ⟨hf.defers, _, hrun, _, _, _, rfl, ht, ha w hh⟩
  · exact ⟨hf.defers, _, hrun, _, _, _, rfl, ht, ha w hh⟩

/-! what comes behind, as a variable -/
def KOf (P : Program) (r : Option Nat) (n : Nat) (y : Code) (Q : Post) (Kn : Act → World → Prop) : Prop :=
  ∀ D L M H, C P r n y Q D L M H → ∀ a w, Fr n D L a → Heap w M H → Kn a w
theorem C.seqK {x y : Code} (h : ∀ Kn : Act → World → Prop, KOf P r n y Q Kn → C P r n x (Exit.then Kn Q) D L M H) : C P r n (.seq x y) Q D L M H :=
  C.seq (h _ fun _ _ _ _ hy a w hf hh => hy a w hf hh)
theorem Fin.thenK {y : Code} {Kn : Act → World → Prop} (hk : KOf P r n y Q Kn) (h : C P r n y Q D L M H) : Fin n .normal (Exit.then Kn Q) D L M H := fun a w hf hh => hk _ _ _ _ h a w hf hh
def RetOk (P : Program) (fn : Func) (T : Value → Mem → Hp → Prop) (Q : Post) : Prop :=
  ∀ (n : Nat) (L : Sl) (M : Mem) (H H2 : Hp) (rs : List ResultVar) (vs : List Value) (e : Exit), (e = .ret ∨ e = .normal) → fn.results = rs.toArray → Res P L M H rs vs → (∀ w, Heap w M H → Heap w M H2) → T (retv vs) M H2 → Fin n e Q [] L M H
/-- no panic is let out -/
def NoPanic (Q : Post) : Prop := ∀ c a w, ¬ Q (.panic c) a w
theorem NoPanic.then_ {Kn : Act → World → Prop} (h : NoPanic Q) : NoPanic (Exit.then Kn Q) := fun c a w hq => h c a w hq
theorem NoPanic.inBlock {id : Nat} (h : NoPanic Q) : NoPanic (Exit.inBlock id Q) := fun c a w hq => h c a w hq
theorem K.enterK {f : Nat} {fn : Func} {c : Code} {args : List Value} {T : Value → Mem → Hp → Prop} (hf : P.funcs[f]? = some fn) (hb : fn.body = some c) (hn : fn.ntmps = n) (hle : Nat.ble args.length n = true)
    (h : ∀ Q, NoPanic Q → RetOk P fn T Q → C P none n c Q [] (zipL 0 args) M H) : K P f args M H T :=
  K.enter hf hb hn hle (h _ (fun c a w hq => by obtain ⟨_, _, _, _, he, _⟩ := hq; cases he) fun _ _ _ _ _ _ _ _ he hr hres ha ht => Fin.return_ he hr hres ha ht)
theorem Fin.returnK {fn : Func} {T : Value → Mem → Hp → Prop} {rs : List ResultVar} {vs : List Value} {v : Value} {e : Exit} (hq : RetOk P fn T Q) (he : e = .ret ∨ e = .normal) (hr : fn.results = rs.toArray) (h : Res P L M H rs vs) (hv : retv vs = v) (ht : T v M H) : Fin n e Q [] L M H :=
  hq n L M H H rs vs e he hr h (fun _ hh => hh) (by rw [hv]; exact ht)
end Go.Sx
