/- Maps by texts: what they hold, in the order in which it was laid. -/
import Derived.Test.YtmimdoggljemjaaSxV
import Derived.Maps.RangeRun
import Derived.MapKept
namespace Go.Sx
open Go.RowKit Go.MapKept
abbrev Txt := List UInt8
abbrev ML := List (Txt × Value)
def MapS (o : Obj) (l : ML) : Prop := ∃ es clock, o = .map es clock ∧ Stamped es clock ∧ es.toList.map (fun e => (e.key, e.val)) = l.map (fun p => (str p.1, p.2))
def keyS {α : Type} (l : List (Txt × α)) : List Txt := l.map Prod.fst
def getS {α : Type} (l : List (Txt × α)) (k : Txt) : Option α := (l.find? (fun p => decide (p.1 = k))).map Prod.snd
def putS {α : Type} (l : List (Txt × α)) (k : Txt) (v : α) : List (Txt × α) := if k ∈ keyS l then l.map (fun p => if p.1 = k then (k, v) else p) else l ++ [(k, v)]
def delS {α : Type} (l : List (Txt × α)) (k : Txt) : List (Txt × α) := l.filter (fun p => decide (p.1 ≠ k))
theorem str_inj {a b : Txt} (h : str a = str b) : a = b := by
  unfold str at h
  injection h with h
  injection h with h
  simpa using h
theorem MapS.nodup {o : Obj} {l : ML} (h : MapS o l) : (keyS l).Nodup := by
  obtain ⟨es, clock, _, hs, he⟩ := h
  have h1 := ((stamped_iff es clock).1 hs).2.2
  have h2 : es.toList.map (·.key) = (keyS l).map str := by
    have := congrArg (List.map Prod.fst) he
    rw [List.map_map, List.map_map] at this
    unfold keyS
    rw [List.map_map]
    exact this
  have h3 : (es.toList.map (·.key)).Nodup := List.pairwise_map.2 h1
  rw [h2] at h3
  exact (List.pairwise_map.1 h3).imp fun {a b} hab e => hab (by rw [e])
theorem MapS.empty : MapS (.map #[] 0) [] := ⟨#[], 0, rfl, stamped_empty 0, rfl⟩
theorem same_str (a b : Txt) : Instr.sameNow .string (str a) (str b) = some (decide (a = b)) := by
  show some ((⟨a.toArray⟩ : ByteArray) == ⟨b.toArray⟩) = some (decide (a = b))
  have h := bytes_beq ⟨a.toArray⟩ ⟨b.toArray⟩
  congr 1
  by_cases hab : a = b
  · rw [decide_eq_true hab]
    exact h.2 (by rw [hab])
  · rw [decide_eq_false hab]
    cases hb : ((⟨a.toArray⟩ : ByteArray) == ⟨b.toArray⟩) with
    | false => rfl
    | true =>
      have h1 := h.1 hb
      injection h1 with h1
      exact absurd (by simpa using h1) hab
theorem isk (k : Txt) : IsKey .string (str k) := by simp [IsKey, str]
/-- where a text stands -/
theorem findNow_S (k : Txt) : ∀ (es : List MapEntry) (l : ML) (i : Nat), es.map (fun e => (e.key, e.val)) = l.map (fun p => (str p.1, p.2)) →
    (k ∉ keyS l ∧ Instr.findNow .string (str k) es i = some none) ∨ ∃ l1 v l2, l = l1 ++ (k, v) :: l2 ∧ k ∉ keyS l1 ∧ Instr.findNow .string (str k) es i = some (some (i + l1.length, v))
  | [], l, i, h => by
    cases l with
    | nil => exact .inl ⟨by simp [keyS], rfl⟩
    | cons _ _ => simp at h
  | e :: es, l, i, h => by
    cases l with
    | nil => simp at h
    | cons p l =>
      rw [List.map_cons, List.map_cons] at h
      injection h with h1 h2
      injection h1 with h3 h4
      unfold Instr.findNow
      rw [h3, same_str]
      by_cases hk : k = p.1
      · rw [decide_eq_true hk]
        refine .inr ⟨[], p.2, l, by rw [hk]; rfl, by simp [keyS], ?_⟩
        rw [h4]
        rfl
      · rw [decide_eq_false hk]
        rcases findNow_S k es l (i + 1) h2 with ⟨g1, g2⟩ | ⟨l1, v, l2, rfl, g2, g3⟩
        · refine .inl ⟨fun hm => ?_, g2⟩
          unfold keyS at hm
          rw [List.map_cons] at hm
          rcases List.mem_cons.1 hm with hm | hm
          · exact hk hm
          · exact g1 hm
        · refine .inr ⟨p :: l1, v, l2, rfl, fun hm => ?_, ?_⟩
          · unfold keyS at hm
            rw [List.map_cons] at hm
            rcases List.mem_cons.1 hm with hm | hm
            · exact hk hm
            · exact g2 hm
          · dsimp only
            rw [g3, List.length_cons, Nat.add_assoc, Nat.add_comm 1]
theorem getS_none {α : Type} {l : List (Txt × α)} {k : Txt} (h : k ∉ keyS l) : getS l k = none := by
  unfold getS
  rw [List.find?_eq_none.2 (fun p hp => by
    rw [decide_eq_true_eq]
    intro e
    exact h (List.mem_map.2 ⟨p, hp, e⟩))]
  rfl
theorem getS_some {α : Type} {l1 l2 : List (Txt × α)} {k : Txt} {v : α} (h : k ∉ keyS l1) : getS (l1 ++ (k, v) :: l2) k = some v := by
  have h1 : l1.find? (fun p => decide (p.1 = k)) = none := List.find?_eq_none.2 (fun p hp => by
    rw [decide_eq_true_eq]
    intro e
    exact h (List.mem_map.2 ⟨p, hp, e⟩))
  unfold getS
  rw [List.find?_append, h1, List.find?_cons]
  simp
theorem keyS_app {α : Type} (a b : List (Txt × α)) : keyS (a ++ b) = keyS a ++ keyS b := List.map_append ..
theorem putS_new {α : Type} {l : List (Txt × α)} {k : Txt} {v : α} (h : k ∉ keyS l) : putS l k v = l ++ [(k, v)] := if_neg h
theorem map_same {α : Type} {l : List (Txt × α)} {k : Txt} {v : α} (h : k ∉ keyS l) : l.map (fun p => if p.1 = k then (k, v) else p) = l := by
  refine (List.map_congr_left fun p hp => ?_).trans (List.map_id l)
  exact if_neg (fun e => h (List.mem_map.2 ⟨p, hp, e⟩))
theorem keyS_mid {α : Type} {l1 l2 : List (Txt × α)} {k : Txt} {u : α} (hn : (keyS (l1 ++ (k, u) :: l2)).Nodup) : k ∉ keyS l1 ∧ k ∉ keyS l2 := by
  rw [keyS_app] at hn
  have h0 := List.nodup_append.1 hn
  exact ⟨fun h => h0.2.2 k h k (List.mem_cons_self ..) rfl, (List.nodup_cons.1 h0.2.1).1⟩
theorem putS_old {α : Type} {l1 l2 : List (Txt × α)} {k : Txt} {u v : α} (hn : (keyS (l1 ++ (k, u) :: l2)).Nodup) : putS (l1 ++ (k, u) :: l2) k v = l1 ++ (k, v) :: l2 := by
  obtain ⟨h1, h2⟩ := keyS_mid hn
  unfold putS
  rw [keyS_app, if_pos (show k ∈ keyS l1 ++ keyS ((k, u) :: l2) from List.mem_append_right _ (List.mem_cons_self ..)), List.map_append, List.map_cons, map_same h1, map_same h2, if_pos rfl]
theorem delS_none {α : Type} {l : List (Txt × α)} {k : Txt} (h : k ∉ keyS l) : delS l k = l :=
  List.filter_eq_self.2 fun p hp => decide_eq_true (fun e => h (List.mem_map.2 ⟨p, hp, e⟩) : p.1 ≠ k)
theorem delS_some {α : Type} {l1 l2 : List (Txt × α)} {k : Txt} {u : α} (hn : (keyS (l1 ++ (k, u) :: l2)).Nodup) : delS (l1 ++ (k, u) :: l2) k = l1 ++ l2 := by
  obtain ⟨h1, h2⟩ := keyS_mid hn
  have e1 := delS_none h1
  have e2 := delS_none h2
  unfold delS at e1 e2 ⊢
  rw [List.filter_append, List.filter_cons_of_neg (by simp), e1, e2]
theorem getS_mem {α : Type} {l : List (Txt × α)} {k : Txt} {v : α} (hn : (keyS l).Nodup) : getS l k = some v ↔ (k, v) ∈ l := by
  constructor
  · intro h
    obtain ⟨p, h1, h2⟩ := Option.map_eq_some_iff.1 h
    have h3 : p.1 = k := by simpa using List.find?_some h1
    have h4 := List.mem_of_find?_eq_some h1
    rw [← h3, ← h2]
    exact h4
  · intro h
    obtain ⟨l1, l2, rfl⟩ := List.append_of_mem h
    exact getS_some (keyS_mid hn).1
theorem getS_perm {α : Type} {l l' : List (Txt × α)} (h : l.Perm l') (hn : (keyS l).Nodup) (k : Txt) : getS l k = getS l' k := by
  have hn' : (keyS l').Nodup := (h.map Prod.fst).nodup_iff.1 hn
  cases hg : getS l k with
  | some v => exact ((getS_mem hn').2 (h.mem_iff.1 ((getS_mem hn).1 hg))).symm
  | none =>
    cases hg' : getS l' k with
    | none => rfl
    | some v =>
      have := (getS_mem hn).2 (h.mem_iff.2 ((getS_mem hn').1 hg'))
      rw [hg] at this
      cases this
theorem putS_perm {α : Type} {l l' : List (Txt × α)} (h : l.Perm l') (k : Txt) (v : α) : (putS l k v).Perm (putS l' k v) := by
  have hk : k ∈ keyS l ↔ k ∈ keyS l' := (h.map Prod.fst).mem_iff
  unfold putS
  by_cases h1 : k ∈ keyS l
  · rw [if_pos h1, if_pos (hk.1 h1)]
    exact h.map _
  · rw [if_neg h1, if_neg (fun h2 => h1 (hk.2 h2))]
    exact h.append_right _
theorem delS_perm {α : Type} {l l' : List (Txt × α)} (h : l.Perm l') (k : Txt) : (delS l k).Perm (delS l' k) := h.filter _
theorem putS_keys {α : Type} {l : List (Txt × α)} {k : Txt} {v : α} (hn : (keyS l).Nodup) : (keyS (putS l k v)).Nodup := by
  by_cases h1 : k ∈ keyS l
  · obtain ⟨p, hp, rfl⟩ := List.mem_map.1 h1
    obtain ⟨l1, l2, rfl⟩ := List.append_of_mem hp
    have := putS_old (v := v) hn
    rw [this]
    rw [keyS_app] at hn ⊢
    exact hn
  · rw [putS_new h1, keyS_app, List.nodup_append]
    exact ⟨hn, by simp [keyS], fun a ha b hb e => h1 (by
      have : b = k := by simpa [keyS] using hb
      rw [← this, ← e]
      exact ha)⟩
theorem delS_keys {α : Type} {l : List (Txt × α)} {k : Txt} (hn : (keyS l).Nodup) : (keyS (delS l k)).Nodup := (List.filter_sublist.map Prod.fst).nodup hn
theorem putS_map {α β : Type} (F : α → β) (l : List (Txt × α)) (k : Txt) (v : α) : (putS l k v).map (fun p => (p.1, F p.2)) = putS (l.map (fun p => (p.1, F p.2))) k (F v) := by
  have hk : keyS (l.map (fun p => (p.1, F p.2))) = keyS l := by
    unfold keyS
    rw [List.map_map]
    rfl
  unfold putS
  rw [hk]
  split
  · rw [List.map_map, List.map_map]
    refine List.map_congr_left fun p _ => ?_
    show (((if p.1 = k then (k, v) else p) : Txt × α).1, F ((if p.1 = k then (k, v) else p) : Txt × α).2) = if p.1 = k then (k, F v) else (p.1, F p.2)
    split <;> rfl
  · rw [List.map_append]
    rfl
theorem delS_map {α β : Type} (F : α → β) (l : List (Txt × α)) (k : Txt) : (delS l k).map (fun p => (p.1, F p.2)) = delS (l.map (fun p => (p.1, F p.2))) k := by
  unfold delS
  rw [List.filter_map]
  rfl
theorem getS_map {α β : Type} (F : α → β) (l : List (Txt × α)) (k : Txt) : getS (l.map (fun p => (p.1, F p.2))) k = (getS l k).map F := by
  unfold getS
  rw [List.find?_map, Option.map_map, Option.map_map]
  rfl
theorem mid_other {α : Type} {a c : List α} {x y : α} {j : Nat} (h : j ≠ a.length) : (a ++ x :: c)[j]? = (a ++ y :: c)[j]? := by
  rcases Nat.lt_or_gt_of_ne h with h | h
  · rw [List.getElem?_append_left h, List.getElem?_append_left h]
  · obtain ⟨m, rfl⟩ : ∃ m, j = a.length + (m + 1) := ⟨j - a.length - 1, by omega⟩
    rw [List.getElem?_append_right (by omega), List.getElem?_append_right (by omega), Nat.add_sub_cancel_left]
    rfl
section
variable {P : Program} {t kt et : TypeId} {w : World} {b : Nat} {o : Obj} {l : ML} {k : Txt}
theorem findKey_S (hk : P.underlying kt = some .string) {es : Array MapEntry} (he : es.toList.map (fun e => (e.key, e.val)) = l.map (fun p => (str p.1, p.2))) :
    (k ∉ keyS l ∧ (Instr.findKey kt (str k) es.toList).run P w = .ok none w) ∨ ∃ l1 v l2, l = l1 ++ (k, v) :: l2 ∧ k ∉ keyS l1 ∧ (Instr.findKey kt (str k) es.toList).run P w = .ok (some (l1.length, v)) w := by
  rcases findNow_S k es.toList l 0 he with ⟨h1, h2⟩ | ⟨l1, v, l2, h1, h2, h3⟩
  · exact .inl ⟨h1, by simp [Instr.findKey, run_underlying hk, h2]⟩
  · exact .inr ⟨l1, v, l2, h1, h2, by simp [Instr.findKey, run_underlying hk, h3]⟩
theorem checkKey_S (hk : P.underlying kt = some .string) (e : Bool) : (Instr.checkKey e 10000 kt (str k)).run P w = .ok () w := by
  exact run_checkKey hk (isk k) e 9999
theorem lookup_run {z : Value} {inf : TypeInfo} (ht : P.underlying t = some (.map kt et)) (hk : P.underlying kt = some .string) (h1 : P.info? et = some inf) (h2 : inf.zero = some z) (hb : w.heap[b]? = some o) (ho : MapS o l) (c : Bool) :
    (Instr.lookup t (.map (some b)) (str k) c).run P w = .ok (if c then .tuple #[(getS l k).getD z, .bool (getS l k).isSome] else (getS l k).getD z) w := by
  obtain ⟨es, clock, rfl, hs, he⟩ := ho
  have hz : (zeroValue et).run P w = .ok z w := by simp [zeroValue, typeInfo, h1, h2]
  rcases findKey_S (P := P) (w := w) (k := k) hk he with ⟨g1, g2⟩ | ⟨l1, v, l2, rfl, g2, g3⟩
  · rw [getS_none g1]
    simp [Instr.lookup, run_underlying ht, MapKept.run_getObj_map hb, checkKey_S hk, g2, hz, Result.andThen]
  · rw [getS_some g2]
    simp [Instr.lookup, run_underlying ht, MapKept.run_getObj_map hb, checkKey_S hk, g3, Result.andThen]
theorem keyStays_S (a : Txt) : (Instr.keyThatStays (str a) (str a)).run P w = .ok (str a) w := run_keyThatStays (isk a)
theorem entries_mid {es : Array MapEntry} {l1 l2 : ML} {v : Value} (he : es.toList.map (fun e => (e.key, e.val)) = (l1 ++ (k, v) :: l2).map (fun p => (str p.1, p.2))) : ∃ e0, es[l1.length]? = some e0 ∧ e0.key = str k ∧ e0.val = v := by
  have h : (es.toList.map (fun e => (e.key, e.val)))[l1.length]? = some (str k, v) := by
    rw [he, List.map_append, List.getElem?_append_right (by simp), List.map_cons]
    simp
  rw [List.getElem?_map] at h
  obtain ⟨e0, h1, h2⟩ := Option.map_eq_some_iff.1 h
  injection h2 with h2 h3
  exact ⟨e0, by simpa using h1, h2, h3⟩
theorem put_run {v : Value} (ht : P.underlying t = some (.map kt et)) (hk : P.underlying kt = some .string) (hb : w.heap[b]? = some o) (ho : MapS o l) :
    ∃ o', MapS o' (putS l k v) ∧ (Instr.mapUpdate t (.map (some b)) (str k) v).run P w = .ok () { w with heap := w.heap.setIfInBounds b o' } := by
  have hn := ho.nodup
  obtain ⟨es, clock, rfl, hs, he⟩ := ho
  rcases findKey_S (P := P) (w := w) (k := k) hk he with ⟨g1, g2⟩ | ⟨l1, u, l2, rfl, g2, g3⟩
  · rw [putS_new g1]
    refine ⟨.map (es.push { key := str k, val := v, born := clock }) (clock + 1), ⟨_, _, rfl, stamped_push hs (fun x hx e => ?_), by simp [he]⟩, by simp [Instr.mapUpdate, run_underlying ht, MapKept.run_getObj_map hb, MapKept.run_setObj_map _ hb, checkKey_S hk, g2, Result.andThen]⟩
    have h1 : (x.key, x.val) ∈ l.map (fun p => (str p.1, p.2)) := he ▸ List.mem_map.2 ⟨x, hx, rfl⟩
    obtain ⟨p, hp, h2⟩ := List.mem_map.1 h1
    injection h2 with h2 _
    exact g1 (List.mem_map.2 ⟨p, hp, str_inj (h2.trans e)⟩)
  · obtain ⟨e0, h1, h2, h3⟩ := entries_mid he
    rw [putS_old hn]
    have hl : l1.length < es.size := (Array.getElem?_eq_some_iff.1 h1).1
    refine ⟨.map (es.modify l1.length fun e => { e with key := str k, val := v }) clock, ⟨_, _, rfl, stamped_modify hs _ _ (fun _ _ => rfl) (fun e _ h => ?_), ?_⟩, ?_⟩
    · rw [h1] at h
      injection h with h
      rw [← h]
      exact h2.symm
    · rw [Array.toList_modify]
      apply List.ext_getElem?
      intro j
      have h1' : es.toList[l1.length]? = some e0 := by simpa using h1
      rw [List.getElem?_map, List.getElem?_modify, List.map_append, List.map_cons]
      by_cases hj : l1.length = j
      · subst hj
        rw [h1', List.getElem?_append_right (by simp)]
        simp
      · have hl : (l1.map (fun p => (str p.1, p.2))).length = l1.length := List.length_map ..
        rw [mid_other (y := (str k, u)) (by rw [hl]; exact fun e => hj e.symm)]
        have hej : (es.toList[j]?).map (fun e => (e.key, e.val)) = (l1.map (fun p => (str p.1, p.2)) ++ (str k, u) :: l2.map (fun p => (str p.1, p.2)))[j]? := by
          rw [← List.getElem?_map, he, List.map_append, List.map_cons]
        rw [← hej]
        cases es.toList[j]? with
        | none => rfl
        | some x => simp [hj]
    · simp [Instr.mapUpdate, run_underlying ht, MapKept.run_getObj_map hb, MapKept.run_setObj_map _ hb, checkKey_S hk, g3, Result.andThen, h1, h2, keyStays_S]
theorem del_run (ht : P.underlying t = some (.map kt et)) (hk : P.underlying kt = some .string) {t2 ty : TypeId} (hb : w.heap[b]? = some o) (ho : MapS o l) :
    ∃ o', MapS o' (delS l k) ∧ (Builtin.delete_ #[t, t2] ty #[.map (some b), str k]).run P w = .ok (.tuple #[]) { w with heap := w.heap.setIfInBounds b o' } := by
  have hn := ho.nodup
  obtain ⟨es, clock, rfl, hs, he⟩ := ho
  rcases findKey_S (P := P) (w := w) (k := k) hk he with ⟨g1, g2⟩ | ⟨l1, u, l2, rfl, g2, g3⟩
  · rw [delS_none g1]
    exact ⟨.map es clock, ⟨_, _, rfl, hs, he⟩, by simp [Builtin.delete_, run_underlying ht, MapKept.run_getObj_map hb, MapKept.run_setObj_map _ hb, checkKey_S hk, g2, Result.andThen]⟩
  · obtain ⟨e0, h1, _, _⟩ := entries_mid he
    have hl : l1.length < es.size := (Array.getElem?_eq_some_iff.1 h1).1
    rw [delS_some hn]
    have hsub : (es.eraseIdxIfInBounds l1.length).toList = es.toList.eraseIdx l1.length := by
      unfold Array.eraseIdxIfInBounds
      rw [dif_pos hl]
      simp
    refine ⟨.map (es.eraseIdxIfInBounds l1.length) clock, ⟨_, _, rfl, stamped_erase hs _, ?_⟩, by simp [Builtin.delete_, run_underlying ht, MapKept.run_getObj_map hb, MapKept.run_setObj_map _ hb, checkKey_S hk, g3, Result.andThen]⟩
    rw [hsub, List.eraseIdx_eq_take_drop_succ, List.map_append, List.map_take, List.map_drop, he, List.map_append, List.map_cons]
    have hll : (l1.map (fun p => (str p.1, p.2))).length = l1.length := List.length_map ..
    rw [List.take_left' hll, List.map_append, show List.drop (l1.length + 1) (l1.map (fun p => (str p.1, p.2)) ++ (str k, u) :: l2.map (fun p => (str p.1, p.2))) = l2.map (fun p => (str p.1, p.2)) from by rw [← hll, List.drop_append]; simp]
theorem len_run (ht : P.underlying t = some (.map kt et)) {ty : TypeId} (hb : w.heap[b]? = some o) (ho : MapS o l) : (Builtin.len_ #[t] ty #[.map (some b)]).run P w = .ok (.int .i64 (l.length : Int)) w := by
  obtain ⟨es, clock, rfl, hs, he⟩ := ho
  have hl : es.size = l.length := by
    have := congrArg List.length he
    simpa using this
  simp [Builtin.len_, run_underlying ht, MapKept.run_getObj_map hb, Result.andThen, goInt, hl]
end
/-- a range over a map, and what is still to come -/
def ItS (oi o : Obj) (b : Nat) (rest : ML) : Prop := ∃ es clock since seen c0, o = .map es clock ∧ Stamped es clock ∧ oi = .mapIter (some b) since seen c0 ∧ (∀ x ∈ es.toList, x.born < since) ∧ since ≤ c0 ∧ since ≤ clock ∧ (leftOf es seen).toList.map (fun e => (e.key, e.val)) = rest.map (fun p => (str p.1, p.2))
theorem ItS.start {o : Obj} {b : Nat} {l : ML} (h : MapS o l) : ∃ clock, (∃ es, o = .map es clock) ∧ ItS (.mapIter (some b) clock #[] clock) o b l := by
  obtain ⟨es, clock, rfl, hs, he⟩ := h
  refine ⟨clock, ⟨es, rfl⟩, es, clock, clock, #[], clock, rfl, hs, rfl, hs.1, Nat.le_refl _, Nat.le_refl _, ?_⟩
  have : leftOf es #[] = es := by
    unfold leftOf
    simp
  rw [this]
  exact he
theorem left_mid {es : Array MapEntry} {seen : Array Nat} {l1 l2 : List MapEntry} {e : MapEntry} (hn : (es.toList.map (·.born)).Nodup) (h : (leftOf es seen).toList = l1 ++ e :: l2) : (leftOf es (seen.push e.born)).toList = l1 ++ l2 := by
  have h1 : (leftOf es (seen.push e.born)).toList = (leftOf es seen).toList.filter (fun x => decide (x.born ≠ e.born)) := by
    unfold leftOf
    rw [Array.toList_filter, Array.toList_filter, List.filter_filter]
    refine List.filter_congr fun x _ => ?_
    rw [contains_push]
    by_cases hx : x.born = e.born <;> cases seen.contains x.born <;> simp [hx]
  have h2 : ((leftOf es seen).toList.map (·.born)).Nodup := by
    unfold leftOf
    rw [Array.toList_filter]
    exact (List.filter_sublist.map _).nodup hn
  rw [h1, h]
  rw [h, List.map_append, List.map_cons] at h2
  have h3 := List.nodup_append.1 h2
  have hne1 : ∀ x ∈ l1, x.born ≠ e.born := fun x hx he => h3.2.2 _ (List.mem_map.2 ⟨x, hx, rfl⟩) _ (List.mem_cons_self ..) he
  have hne2 : ∀ x ∈ l2, x.born ≠ e.born := fun x hx he => (List.nodup_cons.1 h3.2.1).1 (by rw [← he]; exact List.mem_map.2 ⟨x, hx, rfl⟩)
  rw [List.filter_append, List.filter_cons_of_neg (by simp), List.filter_eq_self.2 (fun x hx => decide_eq_true (hne1 x hx)), List.filter_eq_self.2 (fun x hx => decide_eq_true (hne2 x hx))]
/-- what the round's key and value are, as long as map and iterator stand -/
def EntS (it b : Nat) (oi o : Obj) (k : Txt) (v : Value) : Prop := ∀ (P : Program) (w : World), w.heap[it]? = some oi → w.heap[b]? = some o → (Instr.entry (.pointer (some ⟨it, 0, none⟩))).run P w = .ok (.tuple #[str k, v]) w
section
variable {P : Program} {t kt et : TypeId} {w : World} {b it : Nat} {o oi : Obj} {l rest : ML}
theorem next_run {ty : TypeId} (hi : w.heap[it]? = some oi) (hb : w.heap[b]? = some o) (h : ItS oi o b rest) :
    (rest = [] ∧ (Instr.next (.pointer (some ⟨it, 0, none⟩)) false ty).run P w = .ok (.tuple #[.bool false]) w) ∨
    ∃ r1 k v r2 oi' w1, rest = r1 ++ (k, v) :: r2 ∧ ItS oi' o b (r1 ++ r2) ∧ (w1 = w ∨ w1 = w.drew) ∧ (Instr.next (.pointer (some ⟨it, 0, none⟩)) false ty).run P w = .ok (.tuple #[.bool true, str k, v]) { w1 with heap := w1.heap.setIfInBounds it oi' } ∧
      EntS it b oi' o k v := by
  obtain ⟨es, clock, since, seen, c0, rfl, hs, rfl, hold, hsc, hsk, hl⟩ := h
  rcases run_next_at (P := P) w ty it b since c0 seen es clock hi hb hold hsc with ⟨h0, hrun⟩ | ⟨e, he, w1, hal, hrun⟩
  · refine .inl ⟨?_, hrun⟩
    have : (leftOf es seen).toList = [] := List.eq_nil_of_length_eq_zero (by simpa using h0)
    rw [this] at hl
    cases rest with
    | nil => rfl
    | cons _ _ => simp at hl
  · obtain ⟨l1, l2, hll⟩ := List.append_of_mem he
    have hn := ((stamped_iff es clock).1 hs).2.1
    rw [hll, List.map_append, List.map_cons] at hl
    obtain ⟨r1, r3, rfl, q1, q2⟩ := List.map_eq_append_iff.1 hl.symm
    obtain ⟨⟨k, v⟩, r2, rfl, q3, q4⟩ := List.map_eq_cons_iff.1 q2
    injection q3 with q5 q6
    rw [← q5, ← q6] at hrun
    refine .inr ⟨r1, k, v, r2, .mapIter (some b) since (seen.push e.born) clock, w1, rfl, ⟨es, clock, since, seen.push e.born, clock, rfl, hs, rfl, hold, hsk, hsk, ?_⟩, hal, hrun, fun P2 w2 h2 h3 => ?_⟩
    · rw [left_mid hn hll, List.map_append, List.map_append, q1, q4]
    · have q5' : str k = e.key := q5
      have q6' : v = e.val := q6
      rw [q5', q6']
      exact run_entry_at (P := P2) w2 it b since seen es clock e h2 h3 (mem_left he).1 hn
end
section
variable {P : Program} {r : Option Nat} {n : Nat} {D : List Deferred} {L : Sl} {M : Mem} {H : Hp} {Q : Post} {d : Option Tmp} {ty : TypeId} {pos : String} {af : Array Edge} {g : Option (Nat × Bool)} {ops : Array Oper} {rest : List Oper} {t kt et sz by_ : Nat} {z : Value} {x y m : Operand} {b : Nat} {o : Obj} {l : ML} {k : Txt} {f : Obj → Hp}
theorem Ok.lookupS [ht : Und P t (.map kt et)] [hk : Und P kt .string] [hi : Inf P et sz by_ z] (hm : ev L m = some (.map (some b))) (hx : ev L x = some (str k)) (hb : (b, o) ∈ H) (ho : MapS o l) : Ok P ⟨d, .lookup t m x true, ty, pos, af, g⟩ L M H (.tuple #[(getS l k).getD z, .bool (getS l k).isSome]) := fun _ _ _ _ hf hh => by
  obtain ⟨inf, g1, g2, g3, g4⟩ := hi.h
  simp [execOp, hf.ev hm, hf.ev hx, lookup_run (k := k) ht.h hk.h g1 g4 (hh.own _ hb) ho]
theorem Ok.lookupS1 [ht : Und P t (.map kt et)] [hk : Und P kt .string] [hi : Inf P et sz by_ z] (hm : ev L m = some (.map (some b))) (hx : ev L x = some (str k)) (hb : (b, o) ∈ H) (ho : MapS o l) : Ok P ⟨d, .lookup t m x false, ty, pos, af, g⟩ L M H ((getS l k).getD z) := fun _ _ _ _ hf hh => by
  obtain ⟨inf, g1, g2, g3, g4⟩ := hi.h
  simp [execOp, hf.ev hm, hf.ev hx, lookup_run (k := k) ht.h hk.h g1 g4 (hh.own _ hb) ho]
theorem Ok.lenM [ht : Und P t (.map kt et)] (hm : ev L m = some (.map (some b))) (hb : (b, o) ∈ H) (ho : MapS o l) : Ok P ⟨d, .call ⟨.builtin .len, #[m], #[t]⟩, ty, pos, af, g⟩ L M H (.int .i64 (l.length : Int)) := fun n D a w hf hh =>
  builtin_run (xs := [m]) (vs := [.map (some b)]) hf (.cons hm .nil) (fun _ => rfl) (len_run ht.h (hh.own _ hb) ho)
theorem Ok.entryS {it : Nat} {oi : Obj} {v : Value} (hx : ev L x = some (.pointer (some ⟨it, 0, none⟩))) (hi : (it, oi) ∈ H) (hb : (b, o) ∈ H) (h : EntS it b oi o k v) : Ok P ⟨d, .entry x, ty, pos, af, g⟩ L M H (.tuple #[str k, v]) := fun n D a w hf hh => by
  simp [execOp, hf.ev hx, h P w (hh.own _ hi) (hh.own _ hb)]
theorem R.putS [ht : Und P t (.map kt et)] [hk : Und P kt .string] {v : Value} (hm : ev L m = some (.map (some b))) (hx : ev L x = some (str k)) (hy : ev L y = some v) (hb : At H b o f) (ho : MapS o l) (kk : ∀ o', MapS o' (Go.Sx.putS l k v) → R false P r n ops rest Q D L M (f o')) :
    R false P r n ops (⟨none, .mapUpdate t m x y, ty, pos, af, none⟩ :: rest) Q D L M H := by
  refine R.world rfl (by intro c h; cases h) fun a w hf hh => ?_
  obtain ⟨o', h1, h2⟩ := put_run (v := v) (k := k) ht.h hk.h (hh.own _ hb.mem) ho
  have h3 := MapKept.heap_set (o' := o') (hh.own _ hb.mem)
  exact ⟨undef, { w with heap := w.heap.setIfInBounds b o' }, .inr ⟨by simp [execOp, hf.ev hm, hf.ev hx, hf.ev hy, h2], rfl⟩, fun hf hh => kk o' h1 _ _ hf (hh.put hb h3.1 h3.2 rfl rfl)⟩
theorem R.delS [ht : Und P t (.map kt et)] [hk : Und P kt .string] {t2 : TypeId} (hm : ev L m = some (.map (some b))) (hx : ev L x = some (str k)) (hb : At H b o f) (ho : MapS o l) (hd : dok n d = true) (kk : ∀ o', MapS o' (Go.Sx.delS l k) → R false P r n ops rest Q D (bnd d (.tuple #[]) L) M (f o')) :
    R false P r n ops (⟨d, .call ⟨.builtin .delete, #[m, x], #[t, t2]⟩, ty, pos, af, none⟩ :: rest) Q D L M H := by
  refine R.world rfl (by intro c h; cases h) fun a w hf hh => ?_
  obtain ⟨o', h1, h2⟩ := del_run (k := k) (t2 := t2) (ty := ty) ht.h hk.h (hh.own _ hb.mem) ho
  have h3 := MapKept.heap_set (o' := o') (hh.own _ hb.mem)
  exact ⟨_, _, .inl (builtin_run (xs := [m, x]) (vs := [.map (some b), str k]) hf (.cons hm (.cons hx .nil)) (fun _ => rfl) h2), fun hf hh => kk o' h1 _ _ (hf.put d hd _) (hh.put hb h3.1 h3.2 rfl rfl)⟩
theorem R.makeMap (hd : dok n d = true) (kk : ∀ b, R false P r n ops rest Q D (bnd d (.map (some b)) L) M ((b, .map #[] 0) :: H)) : R false P r n ops (⟨d, .makeMap t none, ty, pos, af, none⟩ :: rest) Q D L M H :=
  R.world rfl (by intro c h; cases h) fun a w hf hh => ⟨.map (some w.heap.size), w.alloc (.map #[] 0), .inl (by simp [execOp, run_makeMap]), fun hf hh => kk _ _ _ (hf.put d hd _) (hh.alloc _)⟩
theorem R.rangeS [ht : Und P t (.map kt et)] (hm : ev L m = some (.map (some b))) (hb : (b, o) ∈ H) (ho : MapS o l) (hd : dok n d = true) (kk : ∀ it oi, ItS oi o b l → R false P r n ops rest Q D (bnd d (.pointer (some ⟨it, 0, none⟩)) L) M ((it, oi) :: H)) :
    R false P r n ops (⟨d, .range t m, ty, pos, af, none⟩ :: rest) Q D L M H := by
  refine R.world rfl (by intro c h; cases h) fun a w hf hh => ?_
  obtain ⟨clock, ⟨es, rfl⟩, h1⟩ := ItS.start (b := b) ho
  have h2 := run_range_map (P := P) w t kt et b es clock ht.h (hh.own _ hb)
  exact ⟨_, _, .inl (by simp [execOp, hf.ev hm, h2]), fun hf hh => kk _ _ h1 _ _ (hf.put d hd _) (hh.alloc _)⟩
theorem R.nextS {it : Nat} {oi : Obj} {rs : ML} (hx : ev L x = some (.pointer (some ⟨it, 0, none⟩))) (hi : At H it oi f) (hb : (b, o) ∈ H) (h : ItS oi o b rs) (hd : dok n d = true)
    (k0 : rs = [] → R false P r n ops rest Q D (bnd d (.tuple #[.bool false]) L) M H)
    (k1 : ∀ r1 k v r2 oi', rs = r1 ++ (k, v) :: r2 → ItS oi' o b (r1 ++ r2) → EntS it b oi' o k v → R false P r n ops rest Q D (bnd d (.tuple #[.bool true, str k, v]) L) M (f oi')) :
    R false P r n ops (⟨d, .next x false, ty, pos, af, none⟩ :: rest) Q D L M H := by
  refine R.world rfl (by intro c h; cases h) fun a w hf hh => ?_
  rcases next_run (P := P) (ty := ty) (hh.own _ hi.mem) (hh.own _ hb) h with ⟨h1, h2⟩ | ⟨r1, k, v, r2, oi', w1, h1, h2, h3, h4, h6⟩
  · exact ⟨_, _, .inl (by simp [execOp, hf.ev hx, h2]), fun hf hh => k0 h1 _ _ (hf.put d hd _) hh⟩
  · refine ⟨_, { w1 with heap := w1.heap.setIfInBounds it oi' }, .inl (by simp [execOp, hf.ev hx, h4]), fun hf hh => k1 r1 k v r2 oi' h1 h2 h6 _ _ (hf.put d hd _) ?_⟩
    have hh1 : Heap w1 M H := by rcases h3 with rfl | rfl; exact hh; exact hh.drew
    have h5 := MapKept.heap_set (o' := oi') (hh1.own _ hi.mem)
    exact hh1.put hi h5.1 h5.2 rfl rfl
end
end Go.Sx
