/- The disk: files, and what is done to them. -/
import Derived.Test.YtmimdoggljemjaaBase
import Derived.Test.YtmimdoggljemjaaSxW
namespace Go.Sx
open Go Go.Proofs Go.RowKit
attribute [local irreducible] C R Fin K Own OwnT Rd Pl Ok KOf RetOk OpsOf RP KP Res NoPanic KV KE MapS ItS EntS
variable {M M' : Mem} {H H1 H2 : Hp}
abbrev Fs := List (Txt × Txt)
inductive De where
  | app (n b : Txt)
  | trc (n : Txt) (k : Nat)
  | ren (n t : Txt)
  | rem (n : Txt)
def fileD (F : Fs) (n : Txt) : Txt := (getS F n).getD []
def doF (F : Fs) : De → Fs
  | .app n b => putS F n (fileD F n ++ b)
  | .trc n k => putS F n ((fileD F n).take k)
  | .ren n t => putS (delS F n) t (fileD F n)
  | .rem n => delS F n
def sumF (F : Fs) : Nat := (F.map (fun p => p.2.length)).sum
def DeC (M : Mem) : De → List Value → Prop
  | .app n b, c => ∃ bv, c = [.int .i64 0, str n, str [], bv, .int .i64 0] ∧ PlB M bv b
  | .trc n k, c => c = [.int .i64 1, str n, str [], .slice none 0 0, .int .i64 (k : Int)]
  | .ren n t, c => c = [.int .i64 2, str n, str t, .slice none 0 0, .int .i64 0]
  | .rem n, c => c = [.int .i64 3, str n, str [], .slice none 0 0, .int .i64 0]
theorem DeC.mono {x : De} {c : List Value} (hM : M.le M') (h : DeC M x c) : DeC M' x c := by
  cases x with
  | app n b =>
    obtain ⟨bv, h1, h2⟩ := h
    exact ⟨bv, h1, h2.mono hM⟩
  | trc n k => exact h
  | ren n t => exact h
  | rem n => exact h
theorem PlB.nil : PlB M (.slice none 0 0) [] := ⟨none, 0, rfl, Nat.le_refl _, by omega, Pl.nil⟩
theorem DeC.cells {x : De} {c : List Value} (h : DeC M x c) : c.length = 5 ∧ (∀ u ∈ c, u.oneCell' = true) := by
  cases x with
  | app n b =>
    obtain ⟨bv, rfl, A, cap, rfl, _, _, _⟩ := h
    exact ⟨rfl, fun u hu => by
      simp only [List.mem_cons, List.not_mem_nil, or_false] at hu
      rcases hu with rfl | rfl | rfl | rfl | rfl <;> rfl⟩
  | trc n k =>
    subst h
    exact ⟨rfl, fun u hu => by
      simp only [List.mem_cons, List.not_mem_nil, or_false] at hu
      rcases hu with rfl | rfl | rfl | rfl | rfl <;> rfl⟩
  | ren n t =>
    subst h
    exact ⟨rfl, fun u hu => by
      simp only [List.mem_cons, List.not_mem_nil, or_false] at hu
      rcases hu with rfl | rfl | rfl | rfl | rfl <;> rfl⟩
  | rem n =>
    subst h
    exact ⟨rfl, fun u hu => by
      simp only [List.mem_cons, List.not_mem_nil, or_false] at hu
      rcases hu with rfl | rfl | rfl | rfl | rfl <;> rfl⟩
/-- what a map holds, and which bytes these are -/
def FsR (M : Mem) (l : ML) (F : Fs) : Prop := ∃ es : List (Txt × (Value × Txt)), l = es.map (fun p => (p.1, p.2.1)) ∧ (∀ p ∈ es, PlB M p.2.1 p.2.2) ∧ (es.map (fun p => (p.1, p.2.2))).Perm F
theorem FsR.mono {l : ML} {F : Fs} (hM : M.le M') (h : FsR M l F) : FsR M' l F := by
  obtain ⟨es, h1, h2, h3⟩ := h
  exact ⟨es, h1, fun p hp => (h2 p hp).mono hM, h3⟩
theorem FsR.nil : FsR M [] [] := ⟨[], rfl, fun _ h => absurd h List.not_mem_nil, List.Perm.refl _⟩
theorem FsR.len {l : ML} {F : Fs} (h : FsR M l F) : l.length = F.length := by
  obtain ⟨es, rfl, _, h3⟩ := h
  have := h3.length_eq
  rw [List.length_map] at this ⊢
  exact this
theorem FsR.keys {l : ML} {F : Fs} (h : FsR M l F) : (keyS l).Perm (keyS F) := by
  obtain ⟨es, rfl, _, h3⟩ := h
  have := h3.map Prod.fst
  rw [List.map_map] at this
  unfold keyS
  rw [List.map_map]
  exact this
theorem FsR.get {l : ML} {F : Fs} (h : FsR M l F) (hn : (keyS l).Nodup) (k : Txt) : PlB M ((getS l k).getD (.slice none 0 0)) (fileD F k) ∧ (getS l k).isSome = (getS F k).isSome := by
  obtain ⟨es, rfl, h2, h3⟩ := h
  have hn2 : (keyS (es.map (fun p => (p.1, p.2.2)))).Nodup := by
    unfold keyS at hn ⊢
    rw [List.map_map] at hn ⊢
    exact hn
  have hn0 : (keyS es).Nodup := by
    unfold keyS at hn ⊢
    rw [List.map_map] at hn
    exact hn
  have e1 := getS_perm h3 hn2 k
  unfold fileD
  rw [← e1, getS_map (fun p : Value × Txt => p.1), getS_map (fun p : Value × Txt => p.2)]
  cases hg : getS es k with
  | none => exact ⟨PlB.nil, rfl⟩
  | some p => exact ⟨h2 _ ((getS_mem hn0).1 hg), rfl⟩
theorem FsR.put {l : ML} {F : Fs} {k : Txt} {v : Value} {b : Txt} (h : FsR M l F) (hv : PlB M v b) : FsR M (putS l k v) (putS F k b) := by
  obtain ⟨es, rfl, h2, h3⟩ := h
  refine ⟨putS es k (v, b), ?_, fun p hp => ?_, ?_⟩
  · rw [putS_map (fun p : Value × Txt => p.1)]
  · unfold putS at hp
    split at hp
    · obtain ⟨q, hq, rfl⟩ := List.mem_map.1 hp
      by_cases hk : q.1 = k
      · rw [if_pos hk]; exact hv
      · rw [if_neg hk]; exact h2 q hq
    · rcases List.mem_append.1 hp with hp | hp
      · exact h2 p hp
      · rw [List.mem_singleton] at hp
        subst hp
        exact hv
  · rw [putS_map (fun p : Value × Txt => p.2)]
    exact putS_perm h3 k b
theorem FsR.del {l : ML} {F : Fs} {k : Txt} (h : FsR M l F) : FsR M (delS l k) (delS F k) := by
  obtain ⟨es, rfl, h2, h3⟩ := h
  refine ⟨delS es k, ?_, fun p hp => h2 p (List.mem_filter.1 hp).1, ?_⟩
  · rw [delS_map (fun p : Value × Txt => p.1)]
  · rw [delS_map (fun p : Value × Txt => p.2)]
    exact delS_perm h3 k
theorem FsR.mid {r1 r2 : ML} {k : Txt} {v : Value} {F : Fs} (h : FsR M (r1 ++ (k, v) :: r2) F) : ∃ b G, PlB M v b ∧ F.Perm ((k, b) :: G) ∧ FsR M (r1 ++ r2) G := by
  obtain ⟨es, h1, h2, h3⟩ := h
  obtain ⟨e1, e3, rfl, q1, q2⟩ := List.map_eq_append_iff.1 h1.symm
  obtain ⟨⟨k', v', b⟩, e2, rfl, q3, q4⟩ := List.map_eq_cons_iff.1 q2
  injection q3 with q5 q6
  dsimp only at q5 q6
  subst q5 q6
  refine ⟨b, (e1 ++ e2).map (fun p => (p.1, p.2.2)), h2 _ (List.mem_append_right _ (List.mem_cons_self ..)), ?_, e1 ++ e2, ?_, fun p hp => h2 p ?_, List.Perm.refl _⟩
  · refine h3.symm.trans ?_
    rw [List.map_append, List.map_cons, List.map_append]
    exact List.perm_middle
  · rw [List.map_append, q1, q4]
  · rcases List.mem_append.1 hp with hp | hp
    · exact List.mem_append_left _ hp
    · exact List.mem_append_right _ (List.mem_cons_of_mem _ hp)
theorem FsR.perm {l : ML} {F G : Fs} (h : FsR M l F) (hp : F.Perm G) : FsR M l G := by
  obtain ⟨es, h1, h2, h3⟩ := h
  exact ⟨es, h1, h2, h3.trans hp⟩
theorem sumF_perm {F G : Fs} (h : F.Perm G) : sumF F = sumF G := (h.map _).sum_nat
theorem sumF_cons {k b : Txt} {G : Fs} : sumF ((k, b) :: G) = b.length + sumF G := rfl
/-- a map of files -/
def FsO (M : Mem) (o : Obj) (F : Fs) : Prop := ∃ l, MapS o l ∧ FsR M l F
theorem FsO.mono {o : Obj} {F : Fs} (hM : M.le M') (h : FsO M o F) : FsO M' o F := by
  obtain ⟨l, h1, h2⟩ := h
  exact ⟨l, h1, h2.mono hM⟩
theorem FsO.nodup {o : Obj} {F : Fs} (h : FsO M o F) : (keyS F).Nodup := by
  obtain ⟨l, h1, h2⟩ := h
  exact h2.keys.nodup_iff.1 h1.nodup
theorem FsO.empty : FsO M (.map #[] 0) [] := ⟨[], MapS.empty, FsR.nil⟩
theorem FsO.perm {o : Obj} {F G : Fs} (h : FsO M o F) (hp : F.Perm G) : FsO M o G := by
  obtain ⟨l, h1, h2⟩ := h
  exact ⟨l, h1, h2.perm hp⟩
/-- what is done may be done -/
def Fit (F : Fs) (x : De) : Prop := sumF (doF F x) ≤ 1048576 ∧ match x with
  | .trc n k => k ≤ (fileD F n).length
  | _ => True
theorem le_sum {a : Nat} : ∀ {l : List Nat}, a ∈ l → a ≤ l.sum
  | x :: l, h => by
    rw [List.sum_cons]
    rcases List.mem_cons.1 h with rfl | h
    · omega
    · have := le_sum h
      omega
theorem getS_len {F : Fs} {n b : Txt} : getS F n = some b → b.length ≤ sumF F := by
  intro h
  obtain ⟨p, h1, h2⟩ := Option.map_eq_some_iff.1 h
  have h4 := List.mem_of_find?_eq_some h1
  rw [← h2]
  exact le_sum (List.mem_map.2 ⟨p, h4, rfl⟩)
theorem fileD_len {F : Fs} {n : Txt} : (fileD F n).length ≤ sumF F := by
  unfold fileD
  cases h : getS F n with
  | none => exact Nat.zero_le _
  | some b => exact getS_len h
theorem getS_put {α : Type} {l : List (Txt × α)} {k : Txt} {v : α} (hn : (keyS l).Nodup) : getS (putS l k v) k = some v := by
  refine (getS_mem (putS_keys hn)).2 ?_
  unfold putS
  split
  · rename_i h
    obtain ⟨p, h1, h2⟩ := List.mem_map.1 h
    exact List.mem_map.2 ⟨p, h1, if_pos h2⟩
  · exact List.mem_append_right _ (List.mem_singleton.2 rfl)
theorem fileD_put {F : Fs} {n b : Txt} (hn : (keyS F).Nodup) : fileD (putS F n b) n = b := by
  unfold fileD
  rw [getS_put hn]
  rfl
theorem doF_keys {F : Fs} {x : De} (hn : (keyS F).Nodup) : (keyS (doF F x)).Nodup := by
  cases x with
  | app n b => exact putS_keys hn
  | trc n k => exact putS_keys hn
  | ren n t => exact putS_keys (delS_keys hn)
  | rem n => exact delS_keys hn
theorem fileD_perm {F G : Fs} (h : F.Perm G) (hn : (keyS F).Nodup) (n : Txt) : fileD F n = fileD G n := by
  unfold fileD
  rw [getS_perm h hn]
theorem doF_perm {F G : Fs} (h : F.Perm G) (hn : (keyS F).Nodup) (x : De) : (doF F x).Perm (doF G x) := by
  cases x with
  | app n b =>
    show (putS F n (fileD F n ++ b)).Perm (putS G n (fileD G n ++ b))
    rw [fileD_perm h hn]
    exact putS_perm h _ _
  | trc n k =>
    show (putS F n ((fileD F n).take k)).Perm (putS G n ((fileD G n).take k))
    rw [fileD_perm h hn]
    exact putS_perm h _ _
  | ren n t =>
    show (putS (delS F n) t (fileD F n)).Perm (putS (delS G n) t (fileD G n))
    rw [fileD_perm h hn]
    exact putS_perm (delS_perm h _) _ _
  | rem n => exact delS_perm h _
end Go.Sx
