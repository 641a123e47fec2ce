/- Sessions: the plain laws of SessionOnce. -/
import Derived.Test.YtohdhkddnnokfaaE10
namespace Go.Sx
open Go.Proofs Go.RowKit
theorem keys_mapX (l : List (Int × Ses)) : keysT (mapX l) = keysT l := by
  unfold keysT mapX
  rw [List.map_map]
  rfl
theorem len_mapX (l : List (Int × Ses)) : (mapX l).length = l.length := List.length_map ..
theorem get_mapX (l : List (Int × Ses)) (k : Int) : getT (mapX l) k = (getT l k).map Ses.x := by
  unfold getT
  rw [keys_mapX]
  split
  · unfold mapX
    rw [List.getElem?_map, Option.map_map, Option.map_map]
    rfl
  · rfl
theorem drop_mapX (l : List (Int × Ses)) (k : Int) : dropT (mapX l) k = mapX (dropT l k) := by
  unfold dropT
  rw [keys_mapX]
  split
  · unfold mapX
    rw [List.map_append, List.map_take, List.map_drop]
  · rfl
theorem put_mapX (most : Int) (l : List (Int × Ses)) (k : Int) (s : Ses) : putT most (mapX l) k s.x = mapX (putT most l k s) := by
  unfold putT
  rw [keys_mapX, len_mapX]
  split
  · unfold mapX
    rw [List.map_append, List.map_take, List.map_cons, List.map_drop]
  · split
    · rfl
    · unfold mapX
      rw [List.map_append, List.map_take, List.map_cons, List.map_drop]
noncomputable def roomS (most : Int) (l : List (Int × Ses)) (id : Int) : List (Int × Ses) := if id ∉ keysT l ∧ most ≤ (l.length : Int) then dropT l (eldI (eldO (mapX l))) else l
noncomputable def newS (l : List (Int × Ses)) (id now : Int) : Ses := ⟨{ (getT (mapX l) id).getD zS with id := id, us := now }, ((getT l id).map Ses.ks).getD []⟩
noncomputable def regS (most : Int) (l : List (Int × Ses)) (id now : Int) : List (Int × Ses) := putT most (roomS most l id) id (newS l id now)
theorem reg_mapX (most : Int) (l : List (Int × Ses)) (id now : Int) : regE most (mapX l) id now = mapX (regS most l id now) := by
  unfold regE regS
  rw [← put_mapX]
  unfold roomE roomS
  rw [keys_mapX, len_mapX]
  split
  · rw [drop_mapX]; rfl
  · rfl
theorem eldO_ne {l : List (Int × SeV)} (h : 0 < l.length) : ∃ k u, eldO l = some (k, u) := by
  rcases List.eq_nil_or_concat l with rfl | ⟨a, r, rfl⟩
  · simp at h
  · rw [List.concat_eq_append, eldO_snoc]
    exact eld_some _ _
theorem room_spec {most : Int} {l : List (Int × Ses)} {id : Int} (hs : sortS (keysT l)) (hm : 1 ≤ most) (hl : (l.length : Int) ≤ most) :
    sortS (keysT (roomS most l id)) ∧ (∀ p ∈ roomS most l id, p ∈ l) ∧ (id ∉ keysT l → id ∉ keysT (roomS most l id) ∧ ((roomS most l id).length : Int) < most ∧ l.length ≤ (roomS most l id).length + 1) ∧ (id ∈ keysT l → roomS most l id = l) := by
  unfold roomS
  by_cases h : id ∉ keysT l ∧ most ≤ (l.length : Int)
  · rw [if_pos h]
    obtain ⟨k, u, he⟩ := eldO_ne (l := mapX l) (by rw [len_mapX]; omega)
    have hk := eld_in he
    rw [keys_mapX] at hk
    have hei : eldI (eldO (mapX l)) = k := by rw [he]; rfl
    rw [hei]
    have hd := len_drop hs hk
    refine ⟨drop_sort hs, fun p hp => ((mem_drop hs).1 hp).1, fun _ => ⟨fun h2 => ?_, by omega, by omega⟩, fun h2 => absurd h2 h.1⟩
    obtain ⟨x, hx⟩ := keys_mem.1 h2
    exact h.1 (keys_mem.2 ⟨x, ((mem_drop hs).1 hx).1⟩)
  · rw [if_neg h]
    exact ⟨hs, fun p hp => hp, fun h2 => ⟨h2, by
      have : ¬ most ≤ (l.length : Int) := fun h3 => h ⟨h2, h3⟩
      omega, by omega⟩, fun _ => rfl⟩
theorem regS_spec {most : Int} {l : List (Int × Ses)} {id now : Int} (hs : sortS (keysT l)) (hm : 1 ≤ most) (hl : (l.length : Int) ≤ most) :
    l.length ≤ (regS most l id now).length ∧ ∀ p ∈ regS most l id now, p = (id, newS l id now) ∨ (p.1 ≠ id ∧ p ∈ l) := by
  obtain ⟨g1, g2, g3, g4⟩ := room_spec (id := id) hs hm hl
  unfold regS
  constructor
  · by_cases h : id ∈ keysT l
    · rw [g4 h, len_put_in hs h]
      exact Nat.le_refl _
    · obtain ⟨k1, k2, k3⟩ := g3 h
      rw [len_put_new k1 k2]
      exact k3
  · intro p hp
    rcases (mem_put g1).1 hp with ⟨_, h⟩ | ⟨h1, h2⟩
    · exact .inl h
    · exact .inr ⟨h1, g2 p h2⟩
/-- the answers, from a number on -/
def allK : Nat → List Int → List KeV
  | _, [] => []
  | n, v :: d => ⟨((n + 1 : Nat) : Int), ⟨0, v, 0, 0, 0⟩⟩ :: allK (n + 1) d
def lastK (d : List Int) : List KeV := (allK 0 d).drop (d.length - 4)
theorem allK_len (n : Nat) (d : List Int) : (allK n d).length = d.length := by
  induction d generalizing n with
  | nil => rfl
  | cons v d ih => simp [allK, ih]
theorem allK_app (n : Nat) (a b : List Int) : allK n (a ++ b) = allK n a ++ allK (n + a.length) b := by
  induction a generalizing n with
  | nil => rfl
  | cons x xs ih => simp only [List.cons_append, allK, ih, List.length_cons]; congr 3; omega
theorem allK_get {n : Nat} {d : List Int} {j : Nat} (h : j < d.length) : (allK n d)[j]? = some ⟨((n + j + 1 : Nat) : Int), ⟨0, d[j], 0, 0, 0⟩⟩ := by
  induction d generalizing n j with
  | nil => simp at h
  | cons v d ih =>
    cases j with
    | zero => rfl
    | succ j =>
      have h1 : j < d.length := by simpa using h
      have h2 := ih (n := n + 1) h1
      rw [show n + 1 + j + 1 = n + (j + 1) + 1 by omega] at h2
      exact h2
theorem lastK_len (d : List Int) : (lastK d).length ≤ 4 ∧ (lastK d).length ≤ d.length := by
  unfold lastK
  rw [List.length_drop, allK_len]
  omega
theorem keep_last (d : List Int) (v : Int) : keepS (lastK d) ⟨(d.length : Int) + 1, ⟨0, v, 0, 0, 0⟩⟩ = lastK (d ++ [v]) := by
  unfold keepS lastK
  rw [allK_app, List.length_append, List.length_drop, allK_len, show [v].length = 1 from rfl]
  have e : allK (0 + d.length) [v] = [⟨(d.length : Int) + 1, ⟨0, v, 0, 0, 0⟩⟩] := by
    simp only [allK, Nat.zero_add]
    rfl
  rw [e]
  by_cases h : 4 ≤ d.length
  · rw [show d.length - (d.length - 4) + 1 - 4 = 1 by omega, ← List.drop_append_of_le_length (by rw [allK_len]; omega), List.drop_drop]
    congr 1
    omega
  · rw [show d.length - 4 = 0 by omega, show d.length - 0 + 1 - 4 = 0 by omega, show d.length + 1 - 4 = 0 by omega]
    rfl
theorem last_some {d : List Int} {seq : Int} {k : KeV} (h : (lastK d).find? (fun k => k.sq = seq) = some k) : ∃ j, ∃ hj : j < d.length, seq = (j : Int) + 1 ∧ k.r = ⟨0, d[j], 0, 0, 0⟩ := by
  have h1 := List.find?_some h
  have h2 := List.mem_of_find?_eq_some h
  have h3 : k ∈ allK 0 d := List.mem_of_mem_drop h2
  obtain ⟨j, hj, hg⟩ := List.getElem_of_mem h3
  rw [allK_len] at hj
  have h4 := allK_get (n := 0) hj
  rw [List.getElem?_eq_getElem (by rw [allK_len]; exact hj), hg] at h4
  have h5 := Option.some.inj h4
  refine ⟨j, hj, ?_, by rw [h5]⟩
  have h6 : k.sq = seq := by simpa using h1
  rw [← h6, h5]
  dsimp only
  omega
theorem last_none {d : List Int} {seq : Int} (h : (lastK d).find? (fun k => k.sq = seq) = none) (h1 : 0 < seq) (h2 : seq ≤ d.length) : 4 ≤ (d.length : Int) - seq := by
  refine Classical.byContradiction fun h3 => ?_
  obtain ⟨j, hj⟩ : ∃ j : Nat, seq = (j : Int) + 1 := ⟨(seq - 1).toNat, by omega⟩
  have hjl : j < d.length := by omega
  have h4 := allK_get (n := 0) hjl
  have h5 : (lastK d)[j - (d.length - 4)]? = some ⟨((0 + j + 1 : Nat) : Int), ⟨0, d[j], 0, 0, 0⟩⟩ := by
    unfold lastK
    rw [List.getElem?_drop, show d.length - 4 + (j - (d.length - 4)) = j by omega]
    exact h4
  have h6 := List.find?_eq_none.1 h _ (List.mem_of_getElem? h5)
  apply h6
  simp only [decide_eq_true_eq]
  omega
theorem ses_at {M : Mem} {A : Option Addr} {xs : List Ses} {k : Nat} (hp : Pl M A (sesC xs)) (hk : k < xs.length) :
    ∃ b o c e fr, A = some ⟨b, o, none⟩ ∧ M.at_ b = some (.cells c e fr) ∧ ∀ (q : Nat) u, (seC xs[k].x)[q]? = some u → c[o + k * 4 + q]? = some u := by
  have hc : ∀ c ∈ xs.map (fun y => seC y.x), c.length = 4 := by intro c hc; obtain ⟨x, _, rfl⟩ := List.mem_map.1 hc; rfl
  have hfl : ∀ q u, (seC xs[k].x)[q]? = some u → (xs.map (fun y => seC y.x)).flatten[k * 4 + q]? = some u := fun q u hq => flat_get _ hc k q _ u (by rw [List.getElem?_map, List.getElem?_eq_getElem hk]; rfl) hq
  obtain ⟨b, o, c, e, fr, g1, g2, _⟩ := hp.get (hfl 0 _ rfl)
  refine ⟨b, o, c, e, fr, g1, g2, fun q u hq => ?_⟩
  obtain ⟨b', o', c', e', fr', g1', g2', g3'⟩ := hp.get (hfl q u hq)
  rw [g1] at g1'
  cases g1'
  rw [g2] at g2'
  cases g2'
  rw [Nat.add_assoc]
  exact g3'
end Go.Sx
