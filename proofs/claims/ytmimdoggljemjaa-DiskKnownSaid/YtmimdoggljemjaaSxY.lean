/- The library's sort of texts, on a row of one's own. -/
import Derived.Test.YtmimdoggljemjaaSxX
import Derived.Shelf.Sort.Plain
import Derived.Shelf.Slices.In.SortNone
import Derived.Sort.KeysCollected
namespace Go.Sx
open Go.RowKit Go.Sort Go.Proofs
def sortT (ss : List Txt) : List Txt := ss.mergeSort (fun x y => decide (x ≤ y))
theorem sortT_nil : sortT [] = [] := by
  unfold sortT
  simp
theorem sortT_perm (ss : List Txt) : (sortT ss).Perm ss := List.mergeSort_perm ..
theorem sortT_of_perm {l l' : List Txt} (h : l.Perm l') : sortT l = sortT l' := mergeSort_of_perm h
theorem sortT_len (ss : List Txt) : (sortT ss).length = ss.length := (sortT_perm ss).length_eq
def SortC (P : Program) (f : Nat) : Prop := (∀ (blk off cap : Nat) (ss : List (List UInt8)) (w : World), Holds encStr w blk off ss.toArray → blk < w.heap.size → ss.length < 4611686018427387904 →
    Calls P f #[.slice (some ⟨blk, off, none⟩) ss.length cap] w fun e w' => e = .returned (.tuple #[]) ∧ ∃ n os, w' = grow (putRow encStr (Sort.ahead w n) blk off (ss.mergeSort fun x y => decide (x ≤ y)).toArray) os) ∧
  ∀ (p : Option Addr) (cap : Nat) (w : World), Calls P f #[.slice p 0 cap] w fun e w' => e = .returned (.tuple #[]) ∧ w' = w
section
variable {P : Program} {f : Nat} {M : Mem} {H hp : Hp} {w : World}
theorem putCells_take (c : Array Value) (ss : List Txt) (h : ss.length ≤ c.size) : (putCells encStr 0 ss.toArray c).size = c.size ∧ (putCells encStr 0 ss.toArray c).toList.take ss.length = ss.map str := by
  refine ⟨by simp [putCells], ?_⟩
  apply List.ext_getElem?
  intro j
  rw [List.getElem?_take, List.getElem?_map, Array.getElem?_toList]
  by_cases hj : j < ss.length
  · rw [if_pos hj]
    unfold putCells
    rw [Array.getElem?_mapIdx, Array.getElem?_eq_getElem (by omega)]
    simp [hj, str, encStr]
  · rw [if_neg hj, List.getElem?_eq_none (by omega)]
    rfl
theorem Heap.grown_ {os : Array Obj} (h : Heap w M H) : Heap (grow w os) M H := by
  have hp : ∀ (b : Nat) (o : Obj), w.heap[b]? = some o → (grow w os).heap[b]? = some o := fun b o hb => by
    unfold grow
    show (w.heap ++ os)[b]? = _
    rw [Array.getElem?_append_left (heap_lt hb)]
    exact hb
  exact ⟨h.os, h.out, fun b o hb => hp b o (h.pool b o hb), fun p hm => hp _ _ (h.own p hm), h.apart, h.nodup⟩
theorem K.sortT {e : Nat} {v : Value} {ss : List Txt} (hc : SortC P f) (ho : Own e 1 v ss.length (ss.map str) hp) (hl : ss.length < 4611686018427387904) :
    K P f [v] M (hp ++ H) fun v' M' H' => v' = .tuple #[] ∧ M' = M ∧ ∃ hp', Own e 1 v ss.length ((sortT ss).map str) hp' ∧ H' = hp' ++ H := by
  intro w hh
  obtain ⟨_, ⟨rfl, hz, rfl⟩ | ⟨b, cap, c, rfl, rfl, c1, c2, c3, c4⟩⟩ := id ho
  · have he : ss = [] := List.eq_nil_of_length_eq_zero hz
    refine (hc.2 none 0 w).mono ?_
    rintro _ _ ⟨rfl, rfl⟩
    refine ⟨_, M, H, rfl, ⟨rfl, rfl, [], ?_, rfl⟩, hh⟩
    subst he
    rw [sortT_nil]
    exact Own.nil _ _
  · have hb : w.heap[b]? = some (.cells c e (0, 0)) := hh.own _ (List.mem_cons_self ..)
    rw [Nat.mul_one] at c3 c4
    refine (hc.1 b 0 cap ss w ?_ (heap_lt hb) hl).mono ?_
    · intro j hj
      have hj' : j < ss.length := by simpa using hj
      have h1 : c[j]? = some (str ss[j]) := by
        have := congrArg (·[j]?) c4
        simp only [List.getElem?_take, hj', if_true, List.getElem?_map, List.getElem?_eq_getElem hj', Option.map_some, Array.getElem?_toList] at this
        exact this
      constructor
      · simp [World.cell?, hb, h1, str, encStr, hj']
      · simp [World.frozen?, hb]
    · rintro _ _ ⟨rfl, n, os, rfl⟩
      have hl2 : (Go.Sx.sortT ss).length = ss.length := sortT_len ss
      obtain ⟨p1, p2⟩ := putCells_take c (Go.Sx.sortT ss) (by omega)
      refine ⟨_, M, [(b, .cells (putCells encStr 0 (Go.Sx.sortT ss).toArray c) e (0, 0))] ++ H, rfl, ⟨rfl, rfl, _, ⟨by rw [List.length_map, hl2, Nat.mul_one], .inr ⟨b, cap, _, rfl, rfl, c1, c2, by rw [p1, c3, Nat.mul_one], by rw [Nat.mul_one, ← hl2]; exact p2⟩⟩, rfl⟩, ?_⟩
      refine Heap.grown_ ?_
      have ha : At ((b, Obj.cells c e (0, 0)) :: H) b (.cells c e (0, 0)) (fun o' => (b, o') :: H) := At.head _ _ _
      refine hh.put ha ?_ ?_ rfl rfl
      · show ((Sort.ahead w n).heap.modify b _)[b]? = _
        rw [Array.getElem?_modify, if_pos rfl]
        show (w.heap[b]?).map _ = _
        rw [hb]
        rfl
      · intro k hk
        show ((Sort.ahead w n).heap.modify b _)[k]? = _
        rw [Array.getElem?_modify, if_neg (Ne.symm hk)]
        rfl
end
end Go.Sx
