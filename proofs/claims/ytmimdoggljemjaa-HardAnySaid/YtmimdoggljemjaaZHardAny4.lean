import Derived.Sort.Walk0
import Derived.Test.YtmimdoggljemjaaZHardAny3
section
namespace Go.Sx
open Go Go.Proofs Go.RowKit
attribute [local irreducible] C R Fin K Own OwnT Rd Pl Ok KOf RetOk OpsOf RP KP Res NoPanic KV KE MapS ItS EntS FsO FsR RowD PlD DkO PlFs
variable {M M' : Mem} {H H1 H2 : Hp}
def Srt (F : Fs) : Prop := (keyS F).Pairwise (fun a b => a < b)
theorem insF_perm : ∀ (F : Fs) (p : Txt × Txt), (insF F p).Perm (F ++ [p])
  | [], p => List.Perm.refl _
  | q :: F, p => by
    rw [insF_cons]
    split
    · exact (insF_perm F p).cons q
    · exact (List.perm_append_comm (l₁ := [p]) (l₂ := q :: F))
theorem Srt.nodup {F : Fs} (h : Srt F) : (keyS F).Nodup := h.imp fun h e => by
  subst e
  exact absurd h (List.lt_irrefl _)
theorem txt_lt_of {a b : Txt} (h1 : ¬ a < b) (h2 : a ≠ b) : b < a := by
  have h3 : b ≤ a := List.not_lt.1 h1
  by_cases h4 : b < a
  · exact h4
  · exact absurd (List.le_antisymm (List.not_lt.1 h4) h3) h2
theorem insF_srt : ∀ {F : Fs} {p : Txt × Txt}, Srt F → p.1 ∉ keyS F → Srt (insF F p)
  | [], p, _, _ => List.pairwise_singleton _ _
  | q :: F, p, h, hn => by
    rw [insF_cons, bytesLess_eq]
    unfold Srt keyS at h
    rw [List.map_cons, List.pairwise_cons] at h
    have hne : p.1 ≠ q.1 := fun e => hn (by rw [e]; exact List.mem_cons_self ..)
    have hnF : p.1 ∉ keyS F := fun hm => hn (List.mem_cons_of_mem _ hm)
    by_cases hq : q.1 < p.1
    · rw [if_pos (by simpa using hq)]
      unfold Srt keyS
      rw [List.map_cons, List.pairwise_cons]
      refine ⟨fun k hk => ?_, insF_srt h.2 hnF⟩
      have hk2 := ((insF_perm F p).map Prod.fst).mem_iff.1 hk
      rw [List.map_append, List.mem_append] at hk2
      rcases hk2 with hk2 | hk2
      · exact h.1 k hk2
      · simp only [List.map_cons, List.map_nil, List.mem_singleton] at hk2
        rw [hk2]
        exact hq
    · rw [if_neg (by simpa using hq)]
      have hpq : p.1 < q.1 := txt_lt_of hq (Ne.symm hne)
      unfold Srt keyS
      rw [List.map_cons, List.map_cons, List.pairwise_cons, List.pairwise_cons]
      refine ⟨fun k hk => ?_, h⟩
      rcases List.mem_cons.1 hk with rfl | hk
      · exact hpq
      · exact List.lt_trans hpq (h.1 k hk)
theorem del_mem {F : Fs} {n : Txt} : n ∉ keyS (delS F n) := by
  intro h
  obtain ⟨p, hp, e⟩ := List.mem_map.1 h
  have := (List.mem_filter.1 hp).2
  rw [e] at this
  simp at this
theorem del_srt {F : Fs} {n : Txt} (h : Srt F) : Srt (delS F n) := List.Pairwise.sublist (List.filter_sublist.map Prod.fst) h
theorem del_put_perm {F : Fs} {n b : Txt} (hn : (keyS F).Nodup) : (delS F n ++ [(n, b)]).Perm (putS F n b) := by
  by_cases h : n ∈ keyS F
  · obtain ⟨p, hp, rfl⟩ := List.mem_map.1 h
    obtain ⟨l1, l2, rfl⟩ := List.append_of_mem hp
    have hn' : (keyS (l1 ++ (p.1, p.2) :: l2)).Nodup := hn
    rw [show l1 ++ p :: l2 = l1 ++ (p.1, p.2) :: l2 from rfl, delS_some hn', putS_old hn', List.append_assoc]
    exact List.perm_append_comm.append_left l1
  · rw [delS_none h, putS_new h]
theorem ins_put_perm {F : Fs} {n b : Txt} (hn : (keyS F).Nodup) : (insF (delS F n) (n, b)).Perm (putS F n b) := (insF_perm _ _).trans (del_put_perm hn)
theorem ins_put_srt {F : Fs} {n b : Txt} (h : Srt F) : Srt (insF (delS F n) (n, b)) := insF_srt (del_srt h) del_mem
theorem doneF_srt {F : Fs} {x : De} (h : Srt F) : Srt (doneF F x) := by
  cases x with
  | app n b => exact ins_put_srt h
  | trc n k => exact ins_put_srt h
  | ren n t => exact ins_put_srt (del_srt h)
  | rem n => exact del_srt h
theorem doneF_perm {F G : Fs} {x : De} (hs : Srt F) (h : F.Perm G) : (doneF F x).Perm (doF G x) := by
  have hn := hs.nodup
  refine List.Perm.trans ?_ (doF_perm h hn x)
  cases x with
  | app n b => exact ins_put_perm hn
  | trc n k => exact ins_put_perm hn
  | ren n t => exact ins_put_perm (delS_keys hn)
  | rem n => exact List.Perm.refl _
theorem srt_names {F G : Fs} (hs : Srt F) (h : F.Perm G) : sortT (keyS G) = keyS F := by
  have e : sortT (keyS G) = sortT (keyS F) := sortT_of_perm (h.map Prod.fst).symm
  rw [e]
  unfold sortT
  refine List.mergeSort_of_pairwise ?_
  exact hs.imp fun h => by simpa using List.le_of_lt h
def rdkB (space : Int) (sv nv wv : Value) (fused : Bool) (fuse : Int) (down : Bool) : Obj := .cells [.int .i64 space, sv, nv, wv, .bool fused, .int .i64 fuse, .bool down].toArray 103 (0, 0)
def PlW (M : Mem) (wv : Value) (ps : List De) : Prop := ∃ A cap, wv = .slice A ps.length cap ∧ ps.length ≤ cap ∧ cap ≤ 9223372036854775807 ∧ PlD M A ps
theorem PlW.mono {wv : Value} {ps : List De} (hM : M.le M') (h : PlW M wv ps) : PlW M' wv ps := by
  obtain ⟨A, cap, h1, h2, h3, h4⟩ := h
  exact ⟨A, cap, h1, h2, h3, h4.mono hM⟩
theorem PlD.nil : PlD M none [] := by
  unfold PlD
  exact ⟨[], Pl.nil, rfl, fun i x c hx => by simp at hx⟩
theorem PlW.nil : PlW M (.slice none 0 0) [] := ⟨none, 0, rfl, Nat.le_refl _, by omega, PlD.nil⟩
structure RdX where
  F : Fs
  G : Fs
  sv : Value
  nv : Value
  wv : Value
  fused : Bool
  fuse : Int
structure RdI (M : Mem) (d : Dk) (x : RdX) : Prop where
  ok : d.ok
  sF : PlFs M x.sv x.F
  nG : PlFs M x.nv x.G
  pS : x.F.Perm d.S
  pN : x.G.Perm d.now
  srtF : Srt x.F
  srtG : Srt x.G
  w : PlW M x.wv d.ps
  fu : d.fuse = if x.fused then x.fuse else -1
  fu0 : x.fused = true → 0 ≤ x.fuse
def RdO (M : Mem) (rb : Nat) (d : Dk) (hp : Hp) : Prop := ∃ x : RdX, RdI M d x ∧ hp = [(rb, rdkB d.room x.sv x.nv x.wv x.fused x.fuse d.down)]
theorem RdI.mono {d : Dk} {x : RdX} (hM : M.le M') (h : RdI M d x) : RdI M' d x := ⟨h.ok, h.sF.mono hM, h.nG.mono hM, h.pS, h.pN, h.srtF, h.srtG, h.w.mono hM, h.fu, h.fu0⟩
theorem RdO.mono {rb : Nat} {d : Dk} {hp : Hp} (hM : M.le M') (h : RdO M rb d hp) : RdO M' rb d hp := by
  obtain ⟨x, h1, h2⟩ := h
  exact ⟨x, h1.mono hM, h2⟩
theorem RdI.len {d : Dk} {x : RdX} (h : RdI M d x) : x.G.length = d.now.length := h.pN.length_eq
theorem RdI.get {d : Dk} {x : RdX} (h : RdI M d x) (n : Txt) : getS x.G n = getS d.now n := getS_perm h.pN h.srtG.nodup n
theorem RdI.sum {d : Dk} {x : RdX} (h : RdI M d x) : sumF x.G = sumF d.now := sumF_perm h.pN
theorem rcounts_K {rb : Nat} {space fuse : Int} {sv nv wv : Value} {fused down : Bool} (hf : fused = true → 0 ≤ fuse ∧ fuse ≤ 9223372036854775807) : K Try.prog 74 [.pointer (some ⟨rb, 0, none⟩)] M ((rb, rdkB space sv nv wv fused fuse down) :: H) fun v' M' H' => M' = M ∧
    ((v' = .int .i64 3 ∧ (down = true ∨ (fused = true ∧ fuse = 0)) ∧ H' = (rb, rdkB space sv nv wv fused fuse true) :: H) ∨ (v' = .int .i64 0 ∧ down = false ∧ ¬ (fused = true ∧ fuse = 0) ∧ H' = (rb, rdkB space sv nv wv fused (if fused then fuse - 1 else fuse) false) :: H)) := by
  refine K.enterK Try.func74 rfl rfl rfl ?_
  intro Q hNP hQ
  unfold rdkB at hQ ⊢
  cases down with
  | true =>
    (repeat' (first | refine a_go ?_ | (with_reducible apply Fin.thenK; assumption) | (with_reducible (first | apply C.seqK | apply C.regionK); intro _ _) | (apply R.buildSlice0; exact rfl; intro bz) | (apply R.box; exact rfl; (simp only [Value.cells]; rfl); exact rfl; intro bx) | (apply R.alloc; (simp only [Value.cells]; rfl); exact rfl; intro ba) | (apply R.buildSlice; (exact a_prt); exact rfl; exact rfl; (exact a_fills); exact rfl; intro bl) | (refine a_sp ?_ ?_; (intro h; skip; rotate_left; intro h; skip; rotate_left)) | fail))
    (apply Fin.returnA (H2 := (rb, .cells [.int .i64 space, sv, nv, wv, .bool fused, .int .i64 fuse, .bool true].toArray 103 (0, 0)) :: H); assumption; (first | exact .inl rfl | exact .inr rfl); exact rfl; (exact a_res); (simp only [retv]; rfl); (exact a_arr))
    exact ⟨rfl, .inl ⟨rfl, .inl rfl, rfl⟩⟩
  | false =>
    cases fused with
    | false =>
      (repeat' (first | refine a_go ?_ | (with_reducible apply Fin.thenK; assumption) | (with_reducible (first | apply C.seqK | apply C.regionK); intro _ _) | (apply R.buildSlice0; exact rfl; intro bz) | (apply R.box; exact rfl; (simp only [Value.cells]; rfl); exact rfl; intro bx) | (apply R.alloc; (simp only [Value.cells]; rfl); exact rfl; intro ba) | (apply R.buildSlice; (exact a_prt); exact rfl; exact rfl; (exact a_fills); exact rfl; intro bl) | (refine a_sp ?_ ?_; (intro h; skip; rotate_left; intro h; skip; rotate_left)) | fail))
      (apply Fin.returnA (H2 := (rb, .cells [.int .i64 space, sv, nv, wv, .bool false, .int .i64 fuse, .bool false].toArray 103 (0, 0)) :: H); assumption; (first | exact .inl rfl | exact .inr rfl); exact rfl; (exact a_res); (simp only [retv]; rfl); (exact a_arr))
      exact ⟨rfl, .inr ⟨rfl, rfl, fun h => (by cases h.1), rfl⟩⟩
    | true =>
      have hf' := hf rfl
      by_cases h0 : fuse = 0
      · subst h0
        (repeat' (first | refine a_go ?_ | (with_reducible apply Fin.thenK; assumption) | (with_reducible (first | apply C.seqK | apply C.regionK); intro _ _) | (apply R.buildSlice0; exact rfl; intro bz) | (apply R.box; exact rfl; (simp only [Value.cells]; rfl); exact rfl; intro bx) | (apply R.alloc; (simp only [Value.cells]; rfl); exact rfl; intro ba) | (apply R.buildSlice; (exact a_prt); exact rfl; exact rfl; (exact a_fills); exact rfl; intro bl) | (refine a_sp ?_ ?_; (intro h; skip; rotate_left; intro h; skip; rotate_left)) | fail))
        (apply Fin.returnA (H2 := (rb, .cells [.int .i64 space, sv, nv, wv, .bool true, .int .i64 0, .bool true].toArray 103 (0, 0)) :: H); assumption; (first | exact .inl rfl | exact .inr rfl); exact rfl; (exact a_res); (simp only [retv]; rfl); (exact a_arr))
        exact ⟨rfl, .inl ⟨rfl, .inr ⟨rfl, rfl⟩, rfl⟩⟩
      · (repeat' (first | refine a_go ?_ | (with_reducible apply Fin.thenK; assumption) | (with_reducible (first | apply C.seqK | apply C.regionK); intro _ _) | (apply R.buildSlice0; exact rfl; intro bz) | (apply R.box; exact rfl; (simp only [Value.cells]; rfl); exact rfl; intro bx) | (apply R.alloc; (simp only [Value.cells]; rfl); exact rfl; intro ba) | (apply R.buildSlice; (exact a_prt); exact rfl; exact rfl; (exact a_fills); exact rfl; intro bl) | (refine a_sp ?_ ?_; (intro h; skip; rotate_left; intro h; skip; rotate_left)) | fail))
        · exfalso
          exact h0 ‹_›
        (apply Fin.returnA (H2 := (rb, .cells [.int .i64 space, sv, nv, wv, .bool true, .int .i64 (fuse - 1), .bool false].toArray 103 (0, 0)) :: H); assumption; (first | exact .inl rfl | exact .inr rfl); exact rfl; (exact a_res); (simp only [retv]; rfl); (exact a_arr))
        exact ⟨rfl, .inr ⟨rfl, rfl, fun h => h0 h.2, rfl⟩⟩
theorem RdI.stop {d : Dk} {x : RdX} (h : RdI M d x) : stopD d ↔ (d.down = true ∨ (x.fused = true ∧ x.fuse = 0)) := by
  have h1 := h.fu
  have h2 := h.fu0
  unfold stopD
  cases hx : x.fused with
  | false =>
    rw [hx] at h1
    change d.fuse = -1 at h1
    rw [h1]
    constructor
    · rintro (h | h)
      · exact .inl h
      · exact absurd h (by decide)
    · rintro (h | h)
      · exact .inl h
      · exact absurd h.1 (by decide)
  | true =>
    rw [hx] at h1
    change d.fuse = x.fuse at h1
    rw [h1]
    constructor
    · rintro (h | h)
      · exact .inl h
      · exact .inr ⟨rfl, h⟩
    · rintro (h | h)
      · exact .inl h
      · exact .inr h.2
theorem rcounts_KD {rb : Nat} {d : Dk} {hp : Hp} (ho : RdO M rb d hp) : K Try.prog 74 [.pointer (some ⟨rb, 0, none⟩)] M (hp ++ H) fun v' M' H' => v' = .int .i64 (if stopD d then 3 else 0) ∧ M' = M ∧ ∃ hp', RdO M rb (cntD d) hp' ∧ H' = hp' ++ H ∧ (¬ stopD d → (cntD d).down = false) := by
  obtain ⟨x, hx, rfl⟩ := ho
  have hst := hx.stop
  have hok := cntD_ok hx.ok
  have hfu := hx.fu
  have hfu2 := hx.ok.2.1
  refine (rcounts_K (fun h => ⟨hx.fu0 h, ?_⟩)).mono ?_
  · rw [h] at hfu
    change d.fuse = x.fuse at hfu
    omega
  rintro _ _ _ ⟨rfl, ⟨rfl, h1, rfl⟩ | ⟨rfl, h1, h2, rfl⟩⟩
  · have hs : stopD d := hst.2 h1
    have e : cntD d = { d with down := true } := if_pos hs
    rw [e] at hok ⊢
    exact ⟨by rw [if_pos hs], rfl, _, ⟨x, ⟨hok, hx.sF, hx.nG, hx.pS, hx.pN, hx.srtF, hx.srtG, hx.w, hx.fu, hx.fu0⟩, rfl⟩, rfl, fun h => absurd hs h⟩
  · have hs : ¬ stopD d := fun h => by
      rcases hst.1 h with h | h
      · rw [h] at h1; cases h1
      · exact h2 h
    have e : cntD d = { d with fuse := if 0 < d.fuse then d.fuse - 1 else d.fuse } := if_neg hs
    rw [e] at hok ⊢
    refine ⟨by rw [if_neg hs], rfl, [(rb, rdkB d.room x.sv x.nv x.wv x.fused (if x.fused then x.fuse - 1 else x.fuse) false)], ⟨{ x with fuse := if x.fused then x.fuse - 1 else x.fuse }, ⟨hok, hx.sF, hx.nG, hx.pS, hx.pN, hx.srtF, hx.srtG, hx.w, ?_, ?_⟩, ?_⟩, rfl, fun h => h1⟩
    · dsimp only
      cases hxf : x.fused with
      | false =>
        rw [hxf] at hfu
        change d.fuse = -1 at hfu
        rw [hfu]
        rfl
      | true =>
        rw [hxf] at hfu
        change d.fuse = x.fuse at hfu
        have h0 := hx.fu0 hxf
        have hne : x.fuse ≠ 0 := fun e => h2 ⟨hxf, e⟩
        rw [if_pos (by omega), hfu]
        rfl
    · dsimp only
      intro hxf
      have h0 := hx.fu0 hxf
      have hne : x.fuse ≠ 0 := fun e => h2 ⟨hxf, e⟩
      rw [hxf]
      show 0 ≤ x.fuse - 1
      omega
    · dsimp only
      rw [h1]
theorem rname_K {n : Txt} (hn : n.length ≤ 9223372036854775807) : K Try.prog 85 [str n] M H fun v' M' H' => v' = .bool (namedB n) ∧ M' = M ∧ H' = H := by
  refine K.enterK Try.func85 rfl rfl rfl ?_
  intro Q hNP hQ
  (repeat' (first | (apply R.step; (apply Ok.move; exact rfl); exact rfl) | (apply R.step; (apply Ok.lenT; exact rfl); exact rfl) | refine a_go ?_ | (with_reducible apply Fin.thenK; assumption) | (with_reducible (first | apply C.seqK | apply C.regionK); intro _ _) | (apply R.buildSlice0; exact rfl; intro bz) | (apply R.box; exact rfl; (simp only [Value.cells]; rfl); exact rfl; intro bx) | (apply R.alloc; (simp only [Value.cells]; rfl); exact rfl; intro ba) | (apply R.buildSlice; (exact a_prt); exact rfl; exact rfl; (exact a_fills); exact rfl; intro bl) | (refine a_sp ?_ ?_; (intro h; skip; rotate_left; intro h; skip; rotate_left)) | fail))
  · have h : (1 : Int) ≤ (n.length : Int) := by assumption
    (refine Fin.rt ?_)
    refine ⟨?_, rfl, rfl⟩
    unfold namedB
    congr 1
    rw [decide_eq_decide]
    constructor <;> intro <;> omega
  · have h : ¬ (1 : Int) ≤ (n.length : Int) := by assumption
    (refine Fin.rt ?_)
    refine ⟨?_, rfl, rfl⟩
    unfold namedB
    rw [decide_eq_false (fun h1 => h (by omega))]
theorem PlFs.form {v : Value} {F : Fs} (h : PlFs M v F) : ∃ A cap es, v = .slice A es.length cap ∧ es.length ≤ cap ∧ cap ≤ 9223372036854775807 ∧ Pl M A (es.map feC).flatten ∧ EsOk M es ∧ es.map feP = F := by
  unfold PlFs at h
  exact h
theorem sumF_take {F : Fs} {i : Nat} (h : i < F.length) : sumF (F.take (i + 1)) = sumF (F.take i) + F[i].2.length := by
  rw [take_snocE h]
  unfold sumF
  rw [List.map_append, List.sum_append]
  simp
theorem sumF_le {F : Fs} (i : Nat) : sumF (F.take i) ≤ sumF F := by
  have h : sumF F = sumF (F.take i) + sumF (F.drop i) := by
    unfold sumF
    rw [← List.sum_append, ← List.map_append, List.take_append_drop]
  omega
theorem rused_KD {rb : Nat} {d : Dk} {hp : Hp} (ho : RdO M rb d hp) : K Try.prog 70 [.pointer (some ⟨rb, 0, none⟩)] M (hp ++ H) fun v' M' H' => v' = .int .i64 (usedD d.down d.now : Int) ∧ M' = M ∧ H' = hp ++ H := by
  obtain ⟨⟨F, G, sv, nv, wv, fused, fuse⟩, hx, rfl⟩ := ho
  have hsum := hx.sum
  have hle := hx.ok.sum
  have hnG := hx.nG
  dsimp only at hsum hnG ⊢
  obtain ⟨A, cap, es, rfl, h1, h2, h3, h4, rfl⟩ := hnG.form
  refine K.enterK Try.func70 rfl rfl rfl ?_
  intro Q hNP hQ
  unfold rdkB at hQ ⊢
  unfold usedD at hQ
  cases hdn : d.down with
  | true =>
    rw [hdn] at hQ
    (repeat' (first | refine a_go ?_ | (with_reducible apply Fin.thenK; assumption) | (with_reducible (first | apply C.seqK | apply C.regionK); intro _ _) | (apply R.buildSlice0; exact rfl; intro bz) | (apply R.box; exact rfl; (simp only [Value.cells]; rfl); exact rfl; intro bx) | (apply R.alloc; (simp only [Value.cells]; rfl); exact rfl; intro ba) | (apply R.buildSlice; (exact a_prt); exact rfl; exact rfl; (exact a_fills); exact rfl; intro bl) | (refine a_sp ?_ ?_; (intro h; skip; rotate_left; intro h; skip; rotate_left)) | fail))
    apply C.loop (fun y : FiX => y.ii = 0) (fun y => [(0, .pointer (some ⟨rb, 0, none⟩)), (3, .int .i64 0), (4, .int .i64 y.ii)]) (fun _ => M) (fun _ => (rb, .cells [.int .i64 d.room, sv, .slice A es.length cap, wv, .bool fused, .int .i64 fuse, .bool true].toArray 103 (0, 0)) :: H) (fun _ => 0) ⟨0, 0⟩
    · exact rfl
    · (exact a_subs)
    · exact rfl
    · exact rfl
    rintro ⟨i, ii⟩ hii
    dsimp only at hii ⊢
    subst hii
    (repeat' (first | refine a_go ?_ | (with_reducible apply Fin.thenK; assumption) | (with_reducible (first | apply C.seqK | apply C.regionK); intro _ _) | (apply R.buildSlice0; exact rfl; intro bz) | (apply R.box; exact rfl; (simp only [Value.cells]; rfl); exact rfl; intro bx) | (apply R.alloc; (simp only [Value.cells]; rfl); exact rfl; intro ba) | (apply R.buildSlice; (exact a_prt); exact rfl; exact rfl; (exact a_fills); exact rfl; intro bl) | (refine a_sp ?_ ?_; (intro h; skip; rotate_left; intro h; skip; rotate_left)) | fail))
    all_goals (
      (apply Fin.returnA (H2 := (rb, .cells [.int .i64 d.room, sv, .slice A es.length cap, wv, .bool fused, .int .i64 fuse, .bool true].toArray 103 (0, 0)) :: H); assumption; (first | exact .inl rfl | exact .inr rfl); exact rfl; (exact a_res); (simp only [retv]; rfl); (exact a_arr))
      exact ⟨rfl, rfl, rfl⟩)
  | false =>
    rw [hdn] at hQ
    (repeat' (first | refine a_go ?_ | (with_reducible apply Fin.thenK; assumption) | (with_reducible (first | apply C.seqK | apply C.regionK); intro _ _) | (apply R.buildSlice0; exact rfl; intro bz) | (apply R.box; exact rfl; (simp only [Value.cells]; rfl); exact rfl; intro bx) | (apply R.alloc; (simp only [Value.cells]; rfl); exact rfl; intro ba) | (apply R.buildSlice; (exact a_prt); exact rfl; exact rfl; (exact a_fills); exact rfl; intro bl) | (refine a_sp ?_ ?_; (intro h; skip; rotate_left; intro h; skip; rotate_left)) | fail))
    apply C.loop (fun y : FiX => (y.i : Int) = y.ii ∧ y.i ≤ es.length) (fun y => [(0, .pointer (some ⟨rb, 0, none⟩)), (3, .int .i64 (sumF ((es.map feP).take y.i) : Int)), (4, .int .i64 y.ii)]) (fun _ => M) (fun _ => (rb, .cells [.int .i64 d.room, sv, .slice A es.length cap, wv, .bool fused, .int .i64 fuse, .bool false].toArray 103 (0, 0)) :: H) (fun y => es.length - y.i) ⟨0, 0⟩
    · exact ⟨rfl, Nat.zero_le _⟩
    · (exact a_subs)
    · exact rfl
    · exact rfl
    rintro ⟨i, ii⟩ ⟨hii, hi⟩
    dsimp only at hii hi ⊢
    by_cases hix : i < es.length
    · obtain ⟨b, o, c, e, fr, hA, hM, hc0, hc1⟩ := fe_at h3 hix
      subst hA
      obtain ⟨Ai, ci, hvi, _⟩ := h4 _ (List.getElem_mem hix)
      rw [show o + i * 2 = o + ii.toNat * 2 by omega, hvi] at hc1
      have hst := sumF_take (F := es.map feP) (i := i) (by rw [List.length_map]; exact hix)
      rw [List.getElem_map] at hst
      change _ = _ + es[i].b.length at hst
      have hsl := sumF_le (F := es.map feP) (i + 1)
      (repeat' (first | (apply R.step; (apply Ok.move; exact rfl); exact rfl) | (apply R.step; (first | (apply Ok.ltTr; exact rfl; exact rfl; omega) | (apply Ok.loadP; exact rfl; exact rfl; exact hM; exact hc1) | (apply Ok.addB; exact rfl; exact rfl; apply w64; omega; omega)); exact rfl) | refine a_go ?_ | (with_reducible apply Fin.thenK; assumption) | (with_reducible (first | apply C.seqK | apply C.regionK); intro _ _) | (apply R.buildSlice0; exact rfl; intro bz) | (apply R.box; exact rfl; (simp only [Value.cells]; rfl); exact rfl; intro bx) | (apply R.alloc; (simp only [Value.cells]; rfl); exact rfl; intro ba) | (apply R.buildSlice; (exact a_prt); exact rfl; exact rfl; (exact a_fills); exact rfl; intro bl) | (refine a_sp ?_ ?_; (intro h; skip; rotate_left; intro h; skip; rotate_left)) | fail))
      refine Fin.again (⟨i + 1, ii + 1⟩ : FiX) ⟨by dsimp only; omega, by dsimp only; omega⟩ (by dsimp only; omega) ?_ rfl rfl
      dsimp only
      rw [hst]
      (exact a_subs)
    have hie : i = es.length := by omega
    subst hie
    have hall : sumF ((es.map feP).take es.length) = sumF d.now := by rw [List.take_of_length_le (by rw [List.length_map]; exact Nat.le_refl _), hsum]
    rw [hall]
    (repeat' (first | (apply R.step; (apply Ok.move; exact rfl); exact rfl) | (apply R.step; (apply Ok.ltF; exact rfl; exact rfl; omega); exact rfl) | refine a_go ?_ | (with_reducible apply Fin.thenK; assumption) | (with_reducible (first | apply C.seqK | apply C.regionK); intro _ _) | (apply R.buildSlice0; exact rfl; intro bz) | (apply R.box; exact rfl; (simp only [Value.cells]; rfl); exact rfl; intro bx) | (apply R.alloc; (simp only [Value.cells]; rfl); exact rfl; intro ba) | (apply R.buildSlice; (exact a_prt); exact rfl; exact rfl; (exact a_fills); exact rfl; intro bl) | (refine a_sp ?_ ?_; (intro h; skip; rotate_left; intro h; skip; rotate_left)) | fail))
    (apply Fin.returnA (H2 := (rb, .cells [.int .i64 d.room, sv, .slice A es.length cap, wv, .bool fused, .int .i64 fuse, .bool false].toArray 103 (0, 0)) :: H); assumption; (first | exact .inl rfl | exact .inr rfl); exact rfl; (exact a_res); (simp only [retv]; rfl); (exact a_arr))
    exact ⟨rfl, rfl, rfl⟩
theorem rread_KD {rb : Nat} {d : Dk} {hp : Hp} {n : Txt} (ho : RdO M rb d hp) (hl : d.now.length ≤ 1000000) : K Try.prog 63 [.pointer (some ⟨rb, 0, none⟩), str n] M (hp ++ H) fun v' M' H' => ∃ v, v' = .tuple #[v, .bool (readD d n).isSome] ∧ PlB M v ((readD d n).getD []) ∧ M' = M ∧ H' = hp ++ H := by
  obtain ⟨⟨F, G, sv, nv, wv, fused, fuse⟩, hx, rfl⟩ := ho
  have hget := hx.get n
  have hnG := hx.nG
  have hlen := hx.len
  dsimp only at hget hnG hlen ⊢
  refine K.enterK Try.func63 rfl rfl rfl ?_
  intro Q hNP hQ
  unfold rdkB at hQ ⊢
  unfold readD at hQ
  (repeat' (first | refine a_go ?_ | (with_reducible apply Fin.thenK; assumption) | (with_reducible (first | apply C.seqK | apply C.regionK); intro _ _) | (apply R.buildSlice0; exact rfl; intro bz) | (apply R.box; exact rfl; (simp only [Value.cells]; rfl); exact rfl; intro bx) | (apply R.alloc; (simp only [Value.cells]; rfl); exact rfl; intro ba) | (apply R.buildSlice; (exact a_prt); exact rfl; exact rfl; (exact a_fills); exact rfl; intro bl) | (refine a_sp ?_ ?_; (intro h; skip; rotate_left; intro h; skip; rotate_left)) | fail))
  (apply R.call; (exact a_evs); exact rfl; exact rfind_K hnG (by omega); rintro _ M _ ⟨rfl, rfl, rfl⟩)
  cases hdn : d.down with
  | true =>
    rw [hdn] at hQ
    (repeat' (first | refine a_go ?_ | (with_reducible apply Fin.thenK; assumption) | (with_reducible (first | apply C.seqK | apply C.regionK); intro _ _) | (apply R.buildSlice0; exact rfl; intro bz) | (apply R.box; exact rfl; (simp only [Value.cells]; rfl); exact rfl; intro bx) | (apply R.alloc; (simp only [Value.cells]; rfl); exact rfl; intro ba) | (apply R.buildSlice; (exact a_prt); exact rfl; exact rfl; (exact a_fills); exact rfl; intro bl) | (refine a_sp ?_ ?_; (intro h; skip; rotate_left; intro h; skip; rotate_left)) | fail))
    (apply Fin.returnA (H2 := (rb, .cells [.int .i64 d.room, sv, nv, wv, .bool fused, .int .i64 fuse, .bool true].toArray 103 (0, 0)) :: H); assumption; (first | exact .inl rfl | exact .inr rfl); exact rfl; (exact a_res); (simp only [retv]; rfl); (exact a_arr))
    exact ⟨_, rfl, PlB.nil, rfl, rfl⟩
  | false =>
    rw [hdn] at hQ
    rcases findI_spec G n 0 with ⟨h1, h2⟩ | ⟨j, b, h1, h2, h3⟩
    · rw [h1]
      rw [← hget, h2] at hQ
      (repeat' (first | refine a_go ?_ | (with_reducible apply Fin.thenK; assumption) | (with_reducible (first | apply C.seqK | apply C.regionK); intro _ _) | (apply R.buildSlice0; exact rfl; intro bz) | (apply R.box; exact rfl; (simp only [Value.cells]; rfl); exact rfl; intro bx) | (apply R.alloc; (simp only [Value.cells]; rfl); exact rfl; intro ba) | (apply R.buildSlice; (exact a_prt); exact rfl; exact rfl; (exact a_fills); exact rfl; intro bl) | (refine a_sp ?_ ?_; (intro h; skip; rotate_left; intro h; skip; rotate_left)) | fail))
      (apply Fin.returnA (H2 := (rb, .cells [.int .i64 d.room, sv, nv, wv, .bool fused, .int .i64 fuse, .bool false].toArray 103 (0, 0)) :: H); assumption; (first | exact .inl rfl | exact .inr rfl); exact rfl; (exact a_res); (simp only [retv]; rfl); (exact a_arr))
      exact ⟨_, rfl, PlB.nil, rfl, rfl⟩
    · rw [h1]
      rw [← hget, h3] at hQ
      obtain ⟨A', cap', bb, o, cc, e, fr, Af, cf, rfl, rfl, hM, g1, g2, g3, g4, g5⟩ := hnG.get h2
      rw [show o + j * 2 = o + (0 + (j : Int)).toNat * 2 by omega] at g2
      have hjl : j < G.length := (List.getElem?_eq_some_iff.1 h2).1
      have hge : ¬ (0 : Int) + (j : Int) < 0 := by omega
      (repeat' (first | (apply R.step; (apply Ok.move; exact rfl); exact rfl) | (apply R.step; (first | (apply Ok.ltF; exact rfl; exact rfl; exact hge) | (apply Ok.loadP; exact rfl; exact rfl; exact hM; exact g2)); exact rfl) | refine a_go ?_ | (with_reducible apply Fin.thenK; assumption) | (with_reducible (first | apply C.seqK | apply C.regionK); intro _ _) | (apply R.buildSlice0; exact rfl; intro bz) | (apply R.box; exact rfl; (simp only [Value.cells]; rfl); exact rfl; intro bx) | (apply R.alloc; (simp only [Value.cells]; rfl); exact rfl; intro ba) | (apply R.buildSlice; (exact a_prt); exact rfl; exact rfl; (exact a_fills); exact rfl; intro bl) | (refine a_sp ?_ ?_; (intro h; skip; rotate_left; intro h; skip; rotate_left)) | fail))
      (apply Fin.returnA (H2 := (rb, .cells [.int .i64 d.room, sv, .slice (some ⟨bb, o, none⟩) G.length cap', wv, .bool fused, .int .i64 fuse, .bool false].toArray 103 (0, 0)) :: H); assumption; (first | exact .inl rfl | exact .inr rfl); exact rfl; (exact a_res); (simp only [retv]; rfl); (exact a_arr))
      exact ⟨_, rfl, ⟨Af, cf, rfl, g3, g4, g5⟩, rfl, rfl⟩
structure RnX where
  i : Nat
  ii : Int
  v : Value
  hp : Hp
theorem rnames_KD {rb : Nat} {d : Dk} {hp : Hp} (ho : RdO M rb d hp) (hl : d.now.length ≤ 1000000) : K Try.prog 69 [.pointer (some ⟨rb, 0, none⟩)] M (hp ++ H) fun v' M' H' => M' = M ∧ ∃ hn, Own 9 1 v' (namesD d.down d.now).length ((namesD d.down d.now).map str) hn ∧ H' = hn ++ (hp ++ H) := by
  obtain ⟨⟨F, G, sv, nv, wv, fused, fuse⟩, hx, rfl⟩ := ho
  have hnm := srt_names hx.srtG hx.pN
  have hnG := hx.nG
  have hlen := hx.len
  dsimp only at hnm hnG hlen ⊢
  obtain ⟨A, cap, es, rfl, h1, h2, h3, h4, rfl⟩ := hnG.form
  rw [List.length_map] at hlen
  have hkm : keyS (es.map feP) = es.map FE.n := by
    unfold keyS
    rw [List.map_map]
    rfl
  rw [hkm] at hnm
  refine K.enterK Try.func69 rfl rfl rfl ?_
  intro Q hNP hQ
  unfold rdkB at hQ ⊢
  unfold namesD at hQ
  cases hdn : d.down with
  | true =>
    rw [hdn] at hQ
    (repeat' (first | refine a_go ?_ | (with_reducible apply Fin.thenK; assumption) | (with_reducible (first | apply C.seqK | apply C.regionK); intro _ _) | (apply R.buildSlice0; exact rfl; intro bz) | (apply R.box; exact rfl; (simp only [Value.cells]; rfl); exact rfl; intro bx) | (apply R.alloc; (simp only [Value.cells]; rfl); exact rfl; intro ba) | (apply R.buildSlice; (exact a_prt); exact rfl; exact rfl; (exact a_fills); exact rfl; intro bl) | (refine a_sp ?_ ?_; (intro h; skip; rotate_left; intro h; skip; rotate_left)) | fail))
    apply C.loop (fun y : FiX => y.ii = 0) (fun y => [(0, .pointer (some ⟨rb, 0, none⟩)), (3, .slice none 0 0), (4, .int .i64 y.ii)]) (fun _ => M) (fun _ => (rb, .cells [.int .i64 d.room, sv, .slice A es.length cap, wv, .bool fused, .int .i64 fuse, .bool true].toArray 103 (0, 0)) :: H) (fun _ => 0) ⟨0, 0⟩
    · exact rfl
    · (exact a_subs)
    · exact rfl
    · exact rfl
    rintro ⟨i, ii⟩ hii
    dsimp only at hii ⊢
    subst hii
    (repeat' (first | refine a_go ?_ | (with_reducible apply Fin.thenK; assumption) | (with_reducible (first | apply C.seqK | apply C.regionK); intro _ _) | (apply R.buildSlice0; exact rfl; intro bz) | (apply R.box; exact rfl; (simp only [Value.cells]; rfl); exact rfl; intro bx) | (apply R.alloc; (simp only [Value.cells]; rfl); exact rfl; intro ba) | (apply R.buildSlice; (exact a_prt); exact rfl; exact rfl; (exact a_fills); exact rfl; intro bl) | (refine a_sp ?_ ?_; (intro h; skip; rotate_left; intro h; skip; rotate_left)) | fail))
    all_goals (
      (apply Fin.returnA (H2 := [] ++ ((rb, .cells [.int .i64 d.room, sv, .slice A es.length cap, wv, .bool fused, .int .i64 fuse, .bool true].toArray 103 (0, 0)) :: H)); assumption; (first | exact .inl rfl | exact .inr rfl); exact rfl; (exact a_res); (simp only [retv]; rfl); (exact a_arr))
      exact ⟨rfl, [], Own.nil _ _, rfl⟩)
  | false =>
    rw [hdn] at hQ
    (repeat' (first | refine a_go ?_ | (with_reducible apply Fin.thenK; assumption) | (with_reducible (first | apply C.seqK | apply C.regionK); intro _ _) | (apply R.buildSlice0; exact rfl; intro bz) | (apply R.box; exact rfl; (simp only [Value.cells]; rfl); exact rfl; intro bx) | (apply R.alloc; (simp only [Value.cells]; rfl); exact rfl; intro ba) | (apply R.buildSlice; (exact a_prt); exact rfl; exact rfl; (exact a_fills); exact rfl; intro bl) | (refine a_sp ?_ ?_; (intro h; skip; rotate_left; intro h; skip; rotate_left)) | fail))
    apply C.loop (fun y : RnX => (y.i : Int) = y.ii ∧ y.i ≤ es.length ∧ Own 9 1 y.v y.i (((es.take y.i).map FE.n).map str) y.hp) (fun y => [(0, .pointer (some ⟨rb, 0, none⟩)), (3, y.v), (4, .int .i64 y.ii)]) (fun _ => M) (fun y => y.hp ++ ((rb, .cells [.int .i64 d.room, sv, .slice A es.length cap, wv, .bool fused, .int .i64 fuse, .bool false].toArray 103 (0, 0)) :: H)) (fun y => es.length - y.i) ⟨0, 0, .slice none 0 0, []⟩
    · exact ⟨rfl, Nat.zero_le _, Own.nil _ _⟩
    · (exact a_subs)
    · exact rfl
    · exact rfl
    rintro ⟨i, ii, v, hp⟩ ⟨hii, hi, hown⟩
    dsimp only at hii hi hown ⊢
    by_cases hix : i < es.length
    · obtain ⟨b, o, c, e, fr, hA, hM, hc0, hc1⟩ := fe_at h3 hix
      subst hA
      rw [show o + i * 2 = o + ii.toNat * 2 by omega] at hc0
      (repeat' (first | (apply R.step; (apply Ok.move; exact rfl); exact rfl) | (apply R.step; (first | (apply Ok.ltTr; exact rfl; exact rfl; omega) | (apply Ok.loadP; exact rfl; exact rfl; exact hM; exact hc0)); exact rfl) | refine a_go ?_ | (with_reducible apply Fin.thenK; assumption) | (with_reducible (first | apply C.seqK | apply C.regionK); intro _ _) | (apply R.buildSlice0; exact rfl; intro bz) | (apply R.box; exact rfl; (simp only [Value.cells]; rfl); exact rfl; intro bx) | (apply R.alloc; (simp only [Value.cells]; rfl); exact rfl; intro ba) | (apply R.buildSlice; (exact a_prt); exact rfl; exact rfl; (exact a_fills); exact rfl; intro bl) | (refine a_sp ?_ ?_; (intro h; skip; rotate_left; intro h; skip; rotate_left)) | fail))
      (apply R.append (news := [str es[i].n]) (k := 1); exact rfl; exact rfl; exact hown; (exact a_tk); exact Rd.at_ (l := [str es[i].n]) (by (exact a_at)) (fun j x h => by rw [Nat.zero_add]; exact h); exact rfl; (intro u hu; rw [List.mem_singleton] at hu; rw [hu]; rfl); omega; exact rfl; decide; decide; exact rfl; rintro v3 hp3 ho3)
      (repeat' (first | refine a_go ?_ | (with_reducible apply Fin.thenK; assumption) | (with_reducible (first | apply C.seqK | apply C.regionK); intro _ _) | (apply R.buildSlice0; exact rfl; intro bz) | (apply R.box; exact rfl; (simp only [Value.cells]; rfl); exact rfl; intro bx) | (apply R.alloc; (simp only [Value.cells]; rfl); exact rfl; intro ba) | (apply R.buildSlice; (exact a_prt); exact rfl; exact rfl; (exact a_fills); exact rfl; intro bl) | (refine a_sp ?_ ?_; (intro h; skip; rotate_left; intro h; skip; rotate_left)) | fail))
      (apply Fin.arr (H2 := hp3 ++ ((rb, .cells [.int .i64 d.room, sv, .slice (some ⟨b, o, none⟩) es.length cap, wv, .bool fused, .int .i64 fuse, .bool false].toArray 103 (0, 0)) :: H)); ((try simp only [List.append_assoc, List.cons_append, List.nil_append, List.append_nil]); exact a_arr))
      refine Fin.again (⟨i + 1, ii + 1, v3, hp3⟩ : RnX) ⟨by dsimp only; omega, by dsimp only; omega, ?_⟩ (by dsimp only; omega) ?_ rfl rfl
      · dsimp only
        rw [take_snocE hix, List.map_append, List.map_append]
        exact ho3
      · (exact a_subs)
    have hie : i = es.length := by omega
    subst hie
    rw [List.take_length] at hown
    rw [hnm] at hQ
    obtain ⟨A1, c1, rfl, _, _⟩ := hown.form
    (repeat' (first | (apply R.step; (apply Ok.move; exact rfl); exact rfl) | (apply R.step; (apply Ok.ltF; exact rfl; exact rfl; omega); exact rfl) | refine a_go ?_ | (with_reducible apply Fin.thenK; assumption) | (with_reducible (first | apply C.seqK | apply C.regionK); intro _ _) | (apply R.buildSlice0; exact rfl; intro bz) | (apply R.box; exact rfl; (simp only [Value.cells]; rfl); exact rfl; intro bx) | (apply R.alloc; (simp only [Value.cells]; rfl); exact rfl; intro ba) | (apply R.buildSlice; (exact a_prt); exact rfl; exact rfl; (exact a_fills); exact rfl; intro bl) | (refine a_sp ?_ ?_; (intro h; skip; rotate_left; intro h; skip; rotate_left)) | fail))
    (apply Fin.returnA (H2 := hp ++ ((rb, .cells [.int .i64 d.room, sv, .slice A es.length cap, wv, .bool fused, .int .i64 fuse, .bool false].toArray 103 (0, 0)) :: H)); assumption; (first | exact .inl rfl | exact .inr rfl); exact rfl; (exact a_res); (simp only [retv]; rfl); (exact a_arr))
    refine ⟨rfl, hp, ?_, rfl⟩
    show Own _ 1 _ (es.map FE.n).length ((es.map FE.n).map str) _
    rw [List.length_map]
    exact hown
end Go.Sx
end
section
namespace Go.Sx
open Go Go.Proofs Go.RowKit
attribute [local irreducible] C R Fin K Own OwnT Rd Pl Ok KOf RetOk OpsOf RP KP Res NoPanic KV KE MapS ItS EntS FsO FsR RowD PlD DkO PlFs RT KT OneT
variable {M M' : Mem} {H H1 H2 : Hp}
theorem PlW.row {wv : Value} {ps : List De} (h : PlW M wv ps) : ∃ (A : Option Addr) (cap : Nat) (cs : List (List Value)), wv = .slice A ps.length cap ∧ ps.length ≤ cap ∧ cap ≤ 9223372036854775807 ∧ Pl M A cs.flatten ∧ cs.length = ps.length ∧ (∀ c ∈ cs, c.length = 5) ∧ (∀ u ∈ cs.flatten, u.oneCell' = true) ∧ ∀ (i : Nat) (x : De) (c : List Value), ps[i]? = some x → cs[i]? = some c → DeC M x c := by
  obtain ⟨A, cap, h1, h2, h3, h4⟩ := h
  unfold PlD at h4
  obtain ⟨cs, g1, g2, g3⟩ := h4
  have hc : ∀ c ∈ cs, c.length = 5 ∧ ∀ u ∈ c, u.oneCell' = true := by
    intro c hc
    obtain ⟨j, hj, rfl⟩ := List.mem_iff_getElem.1 hc
    exact (g3 j _ _ (List.getElem?_eq_getElem (by omega)) (List.getElem?_eq_getElem hj)).cells
  refine ⟨A, cap, cs, h1, h2, h3, g1, g2, fun c h => (hc c h).1, ?_, g3⟩
  intro u hu
  obtain ⟨c, hcm, huc⟩ := List.mem_flatten.1 hu
  exact (hc c hcm).2 u huc
theorem PlW.snoc {A : Option Addr} {cap : Nat} {cs : List (List Value)} {ps : List De} {x : De} {c : List Value} (hl : ps.length + 1 ≤ cap) (hc : cap ≤ 9223372036854775807) (hp : Pl M A (cs.flatten ++ c)) (h2 : cs.length = ps.length) (h3 : ∀ (i : Nat) (x : De) (c : List Value), ps[i]? = some x → cs[i]? = some c → DeC M x c) (hx : DeC M x c) : PlW M (.slice A (ps.length + 1) cap) (ps ++ [x]) := by
  refine ⟨A, cap, by simp, by simpa using hl, hc, ?_⟩
  unfold PlD
  refine ⟨cs ++ [c], ?_, by rw [List.length_append, List.length_append, h2]; rfl, fun i x' c' hx' hc' => ?_⟩
  · rw [List.flatten_append]
    rw [show [c].flatten = c by simp]
    exact hp
  · by_cases hi : i < ps.length
    · rw [List.getElem?_append_left hi] at hx'
      rw [List.getElem?_append_left (by omega)] at hc'
      exact h3 i _ _ hx' hc'
    · rw [List.getElem?_append_right (by omega)] at hx'
      rw [List.getElem?_append_right (by omega), h2] at hc'
      obtain ⟨j, hj⟩ : ∃ j, j = i - ps.length := ⟨_, rfl⟩
      rw [← hj] at hx' hc'
      cases j with
      | zero =>
        injection hx' with hx'
        injection hc' with hc'
        rw [← hx', ← hc']
        exact hx
      | succ j => cases hx'
theorem rdoes_K {rb : Nat} {d : Dk} {hp : Hp} {x : De} {c : List Value} (ho : RdO M rb d hp) (hl : d.now.length ≤ 1000000) (hps : d.ps.length ≤ 1000000) (hx : DeC M x c) (hfit : Fit d.now x) (hok : Dk.ok { d with ps := d.ps ++ [x] }) : K Try.prog 87 [.pointer (some ⟨rb, 0, none⟩), .agg c.toArray] M (hp ++ H) fun v' M' H' => v' = .int .i64 0 ∧ M.le M' ∧ ∃ hp', RdO M' rb { d with ps := d.ps ++ [x] } hp' ∧ H' = hp' ++ H := by
  obtain ⟨⟨F, G, sv, nv, wv, fused, fuse⟩, hi, rfl⟩ := ho
  have hsm := hi.sum
  have hle := hi.ok.sum
  have hlen := hi.len
  have hnn := hi.srtG.nodup
  have hget := hi.get
  have hnG := hi.nG
  have hw := hi.w
  dsimp only at hsm hlen hnG hw hget hnn ⊢
  have hsmall : smallX G x := by
    have h := hfit.small (hi.pN.map Prod.fst |>.nodup_iff.1 hnn)
    cases x with
    | app n b => exact h
    | trc n k =>
      change k ≤ (fileD G n).length
      unfold fileD
      rw [hget]
      exact h
    | ren n t => trivial
    | rem n => trivial
  obtain ⟨c1, c2⟩ := hx.cells
  refine K.enterK Try.func87 rfl rfl rfl ?_
  intro Q hNP hQ
  unfold rdkB at hQ ⊢
  match c, c1 with
  | [c0, cn, ct, cb, cz], _ =>
  (repeat' (first | refine a_go ?_ | (with_reducible apply Fin.thenK; assumption) | (with_reducible (first | apply C.seqK | apply C.regionK); intro _ _) | (apply R.buildSlice0; exact rfl; intro bz) | (apply R.box; exact rfl; (simp only [Value.cells]; rfl); exact rfl; intro bx) | (apply R.alloc; (simp only [Value.cells]; rfl); exact rfl; intro ba) | (apply R.buildSlice; (exact a_prt); exact rfl; exact rfl; (exact a_fills); exact rfl; intro bl) | (refine a_sp ?_ ?_; (intro h; skip; rotate_left; intro h; skip; rotate_left)) | fail))
  (apply C.regionS (A := [0, 1, 2, 3, 4, 5, 6]) (t := .free 0 (.free 1 (.free 2 (.free 3 (.free 4 (.free 5 (.one 6 .nil))))))) (u := .free 7 (.free 8 (.one 9 .nil))) (Hs := [(bx, .cells #[c0, cn, ct, cb, cz] 127 (0, 0)), (rb, .cells [.int .i64 d.room, sv, nv, wv, .bool fused, .int .i64 fuse, .bool d.down].toArray 103 (0, 0))]); exact Mix.h; (first | exact Arr.all _ | (exact a_arr) | ((try simp only [List.append_assoc, List.cons_append, List.nil_append, List.append_nil]); exact a_arr)); (exact a_np); kernel_rfl)
  (repeat' (first | (apply RS.step; exact rfl; intro _ _ _; (exact a_ok); exact rfl) | (apply RS.stepT; exact rfl; exact rfl; exact rfl; exact rfl; intro _ _ _; (exact a_ok); exact rfl) | (apply RS.stepF; exact rfl; exact rfl; exact rfl; exact rfl; exact rfl; exact rfl) | (apply RS.stepU; exact rfl; exact rfl; exact rfl; exact rfl; exact rfl) | (apply RS.one; apply OneS.effF; exact rfl; exact rfl; exact rfl; exact rfl; exact rfl; exact rfl) | (apply RS.one; apply OneS.effU; exact rfl; exact rfl; exact rfl; exact rfl; exact rfl)))
  (apply RS.one; apply OneS.eff; exact rfl; intro Kc hKc ops0)
  (apply R.call; (exact a_evs); exact rfl; exact rdone_K hnG (by omega) (by omega) hx hsmall; rintro v1 M1 _ ⟨hf1, hM1, rfl⟩)
  obtain ⟨A1, k1, es1, rfl, _⟩ := hf1.form
  (apply R.nil; apply Fin.ks hKc; exact hM1; ((try simp only [List.append_assoc, List.cons_append, List.nil_append, List.append_nil]); exact a_arr))
  refine RS.later (Hs2 := []) (Hx2 := (bx, .cells #[c0, cn, ct, cb, cz] 127 (0, 0)) :: (rb, .cells [.int .i64 d.room, sv, nv, wv, .bool fused, .int .i64 fuse, .bool d.down].toArray 103 (0, 0)) :: H) (by ((try simp only [List.append_assoc, List.cons_append, List.nil_append, List.append_nil]); exact a_arr)) ?_
  (repeat' (first | (apply RT.step; exact rfl; intro _ _ _; (exact a_ok); exact rfl) | (apply RT.stepT; exact rfl; exact rfl; exact rfl; exact rfl; intro _ _ _; (exact a_ok); exact rfl) | (apply RT.stepF; exact rfl; exact rfl; exact rfl; exact rfl; exact rfl; exact rfl) | (apply RT.stepU; exact rfl; exact rfl; exact rfl; exact rfl; exact rfl) | (apply RT.one; apply OneT.effF; exact rfl; exact rfl; exact rfl; exact rfl; exact rfl; exact rfl) | (apply RT.one; apply OneT.effU; exact rfl; exact rfl; exact rfl; exact rfl; exact rfl)))
  (apply RT.one; apply OneT.eff; exact rfl; intro Kc hKc ops0)
  (repeat' (first | refine a_go ?_ | (with_reducible apply Fin.thenK; assumption) | (with_reducible (first | apply C.seqK | apply C.regionK); intro _ _) | (apply R.buildSlice0; exact rfl; intro bz) | (apply R.box; exact rfl; (simp only [Value.cells]; rfl); exact rfl; intro bx) | (apply R.alloc; (simp only [Value.cells]; rfl); exact rfl; intro ba) | (apply R.buildSlice; (exact a_prt); exact rfl; exact rfl; (exact a_fills); exact rfl; intro bl) | (refine a_sp ?_ ?_; (intro h; skip; rotate_left; intro h; skip; rotate_left)) | fail))
  ((first | apply R.nil | skip); apply Fin.kt hKc; exact Mem.le_refl _; ((try simp only [List.append_assoc, List.cons_append, List.nil_append, List.append_nil]); exact a_arr))
  apply RT.nil
  generalize hv1 : Value.slice A1 es1.length k1 = v1 at hf1
  (repeat' (first | refine a_go ?_ | (with_reducible apply Fin.thenK; assumption) | (with_reducible (first | apply C.seqK | apply C.regionK); intro _ _) | (apply R.buildSlice0; exact rfl; intro bz) | (apply R.box; exact rfl; (simp only [Value.cells]; rfl); exact rfl; intro bx) | (apply R.alloc; (simp only [Value.cells]; rfl); exact rfl; intro ba) | (apply R.buildSlice; (exact a_prt); exact rfl; exact rfl; (exact a_fills); exact rfl; intro bl) | (refine a_sp ?_ ?_; (intro h; skip; rotate_left; intro h; skip; rotate_left)) | fail))
  obtain ⟨A, cap, cs, rfl, w1, w2, w3, w4, w5, w6, w7⟩ := (hw.mono hM1).row
  have wl := rows_len w5
  (apply C.regionS (A := [0, 1, 2, 3, 4, 5, 6, 7, 8, 9]) (t := .free 0 (.free 2 (.free 3 (.free 4 (.free 5 (.free 7 (.alt 1 8 (.alt 6 8 (.one 8 (.one 9 .nil)) (.one 6 (.one 9 .nil))) (.one 1 (.one 6 (.one 9 .nil)))))))))) (u := .free 10 (.free 11 (.one 12 .nil))) (Hs := [(bx, .cells #[c0, cn, ct, cb, cz] 127 (0, 0)), (rb, .cells [.int .i64 d.room, sv, v1, .slice A d.ps.length cap, .bool fused, .int .i64 fuse, .bool d.down].toArray 103 (0, 0))]); exact Mix.h; (first | exact Arr.all _ | (exact a_arr) | ((try simp only [List.append_assoc, List.cons_append, List.nil_append, List.append_nil]); exact a_arr)); (exact a_np); kernel_rfl)
  (repeat' (first | (apply RS.step; exact rfl; intro _ _ _; (exact a_ok); exact rfl) | (apply RS.stepT; exact rfl; exact rfl; exact rfl; exact rfl; intro _ _ _; (exact a_ok); exact rfl) | (apply RS.stepF; exact rfl; exact rfl; exact rfl; exact rfl; exact rfl; exact rfl) | (apply RS.stepU; exact rfl; exact rfl; exact rfl; exact rfl; exact rfl) | (apply RS.one; apply OneS.effF; exact rfl; exact rfl; exact rfl; exact rfl; exact rfl; exact rfl) | (apply RS.one; apply OneS.effU; exact rfl; exact rfl; exact rfl; exact rfl; exact rfl)))
  have hpN : (doneF G x).Perm (Dk.now { d with ps := d.ps ++ [x] }) := by
    have e : Dk.now { d with ps := d.ps ++ [x] } = doF d.now x := by
      show (d.ps ++ [x]).foldl doF d.S = _
      rw [List.foldl_append]
      rfl
    rw [e]
    exact doneF_perm hi.srtG hi.pN
  apply RS.alt
  · apply OneS.eff; exact rfl; intro Kc hKc ops0
    (first | (apply R.store; exact rfl; exact rfl; exact rfl; (exact a_at); (exact a_blit); exact rfl; (focus (simp [Value.oneCell']; done))) | (apply R.buildSlice0; exact rfl; intro bz) | (apply R.box; exact rfl; (simp only [Value.cells]; rfl); exact rfl; intro bx) | (apply R.alloc; (simp only [Value.cells]; rfl); exact rfl; intro ba) | (apply R.buildSlice; (exact a_prt); exact rfl; exact rfl; (exact a_fills); exact rfl; intro bl))
    ((first | apply R.nil | skip); apply Fin.ks (Hx := (bz, .cells #[] 127 (0, 0)) :: H) hKc; exact Mem.le_refl _; ((try simp only [List.append_assoc, List.cons_append, List.nil_append, List.append_nil]); exact a_arr))
    apply RS.alt
    · apply OneS.eff; exact rfl; intro Kc hKc ops0
      (apply R.append (news := cs.flatten) (k := d.ps.length); exact rfl; exact rfl; exact Own.empty; (exact a_tk); exact w3.rd; (rw [wl, w4]); exact w6; omega; exact rfl; decide; decide; exact rfl; rintro v4 hp4 ho4)
      rw [Nat.zero_add, List.nil_append] at ho4
      obtain ⟨A4, k4, rfl, _, _⟩ := ho4.form
      ((first | apply R.nil | skip); apply Fin.ks (Hx := hp4 ++ H) hKc; exact Mem.le_refl _; ((try simp only [List.append_assoc, List.cons_append, List.nil_append, List.append_nil]); exact a_arr))
      (apply RS.one; apply OneS.eff; exact rfl; intro Kc hKc ops0)
      (apply R.buildSlice; (exact a_prt); exact rfl; exact rfl; (exact a_fills); exact rfl; intro bl)
      ((first | apply R.nil | skip); apply Fin.ks (Hx := hp4 ++ ((bl, .cells #[c0, cn, ct, cb, cz] 127 (0, 0)) :: H)) hKc; exact Mem.le_refl _; ((try simp only [List.append_assoc, List.cons_append, List.nil_append, List.append_nil]); exact a_arr))
      (apply RS.one; apply OneS.eff; exact rfl; intro Kc hKc ops0)
      (apply R.append (news := [c0, cn, ct, cb, cz]) (k := 1); exact rfl; exact rfl; exact ho4; (exact a_tk); exact Rd.at_ (l := [c0, cn, ct, cb, cz]) (by (exact a_at)) (fun j x h => by rw [Nat.zero_add]; exact h); exact rfl; exact c2; omega; exact rfl; decide; decide; exact rfl; rintro v5 hp5 ho5)
      obtain ⟨A5, k5, rfl, q1, q2⟩ := ho5.form
      ((first | apply R.nil | skip); apply Fin.ks (Hx := hp5 ++ H) hKc; exact Mem.le_refl _; ((try simp only [List.append_assoc, List.cons_append, List.nil_append, List.append_nil]); exact a_arr))
      refine RS.later (Hs2 := []) (Hx2 := (rb, .cells [.int .i64 d.room, sv, v1, .slice A d.ps.length cap, .bool fused, .int .i64 fuse, .bool d.down].toArray 103 (0, 0)) :: (hp5 ++ H)) (by ((try simp only [List.append_assoc, List.cons_append, List.nil_append, List.append_nil]); exact a_arr)) ?_
      (repeat' (first | (apply RT.step; exact rfl; intro _ _ _; (exact a_ok); exact rfl) | (apply RT.stepT; exact rfl; exact rfl; exact rfl; exact rfl; intro _ _ _; (exact a_ok); exact rfl) | (apply RT.stepF; exact rfl; exact rfl; exact rfl; exact rfl; exact rfl; exact rfl) | (apply RT.stepU; exact rfl; exact rfl; exact rfl; exact rfl; exact rfl) | (apply RT.one; apply OneT.effF; exact rfl; exact rfl; exact rfl; exact rfl; exact rfl; exact rfl) | (apply RT.one; apply OneT.effU; exact rfl; exact rfl; exact rfl; exact rfl; exact rfl)))
      (apply RT.one; apply OneT.eff; exact rfl; intro Kc hKc ops0)
      (repeat' (first | refine a_go ?_ | (with_reducible apply Fin.thenK; assumption) | (with_reducible (first | apply C.seqK | apply C.regionK); intro _ _) | (apply R.buildSlice0; exact rfl; intro bz) | (apply R.box; exact rfl; (simp only [Value.cells]; rfl); exact rfl; intro bx) | (apply R.alloc; (simp only [Value.cells]; rfl); exact rfl; intro ba) | (apply R.buildSlice; (exact a_prt); exact rfl; exact rfl; (exact a_fills); exact rfl; intro bl) | (refine a_sp ?_ ?_; (intro h; skip; rotate_left; intro h; skip; rotate_left)) | fail))
      ((first | apply R.nil | skip); apply Fin.kt hKc; exact Mem.le_refl _; ((try simp only [List.append_assoc, List.cons_append, List.nil_append, List.append_nil]); exact a_arr))
      apply RT.nil
      (repeat' (first | refine a_go ?_ | (with_reducible apply Fin.thenK; assumption) | (with_reducible (first | apply C.seqK | apply C.regionK); intro _ _) | (apply R.buildSlice0; exact rfl; intro bz) | (apply R.box; exact rfl; (simp only [Value.cells]; rfl); exact rfl; intro bx) | (apply R.alloc; (simp only [Value.cells]; rfl); exact rfl; intro ba) | (apply R.buildSlice; (exact a_prt); exact rfl; exact rfl; (exact a_fills); exact rfl; intro bl) | (refine a_sp ?_ ?_; (intro h; skip; rotate_left; intro h; skip; rotate_left)) | fail))
      (apply Fin.ice (hp := hp5) (H1 := (rb, .cells [.int .i64 d.room, sv, v1, .slice A5 (d.ps.length + 1) k5, .bool fused, .int .i64 fuse, .bool d.down].toArray 103 (0, 0)) :: H) (by ((try simp only [List.append_assoc, List.cons_append, List.nil_append, List.append_nil]); exact a_arr)); intro M2 hM2 hin2)
      (apply Fin.returnA (H2 := (rb, .cells [.int .i64 d.room, sv, v1, .slice A5 (d.ps.length + 1) k5, .bool fused, .int .i64 fuse, .bool d.down].toArray 103 (0, 0)) :: H); assumption; (first | exact .inl rfl | exact .inr rfl); exact rfl; (exact a_res); (simp only [retv]; rfl); (exact a_arr))
      exact ⟨rfl, hM1.trans_ hM2, _, ⟨⟨F, doneF G x, sv, v1, .slice A5 (d.ps.length + 1) k5, fused, fuse⟩, ⟨hok, hi.sF.mono (hM1.trans_ hM2), hf1.mono hM2, hi.pS, hpN, hi.srtF, doneF_srt hi.srtG, PlW.snoc q1 (by unfold maxLen at q2; omega) (ho5.plIn hin2) w4 (fun i x c h1 h2 => (w7 i x c h1 h2).mono hM2) (hx.mono (hM1.trans_ hM2)), hi.fu, hi.fu0⟩, rfl⟩, rfl⟩
    · apply OneS.eff; exact rfl; intro Kc hKc ops0
      (apply R.buildSlice; (exact a_prt); exact rfl; exact rfl; (exact a_fills); exact rfl; intro bl)
      ((first | apply R.nil | skip); apply Fin.ks (Hx := (bl, .cells #[c0, cn, ct, cb, cz] 127 (0, 0)) :: (bz, .cells #[] 127 (0, 0)) :: H) hKc; exact Mem.le_refl _; ((try simp only [List.append_assoc, List.cons_append, List.nil_append, List.append_nil]); exact a_arr))
      (apply RS.one; apply OneS.eff; exact rfl; intro Kc hKc ops0)
      (apply R.append (news := cs.flatten) (k := d.ps.length); exact rfl; exact rfl; exact Own.empty; (exact a_tk); exact w3.rd; (rw [wl, w4]); exact w6; omega; exact rfl; decide; decide; exact rfl; rintro v4 hp4 ho4)
      rw [Nat.zero_add, List.nil_append] at ho4
      obtain ⟨A4, k4, rfl, _, _⟩ := ho4.form
      ((first | apply R.nil | skip); apply Fin.ks (Hx := hp4 ++ ((bl, .cells #[c0, cn, ct, cb, cz] 127 (0, 0)) :: H)) hKc; exact Mem.le_refl _; ((try simp only [List.append_assoc, List.cons_append, List.nil_append, List.append_nil]); exact a_arr))
      (apply RS.one; apply OneS.eff; exact rfl; intro Kc hKc ops0)
      (apply R.append (news := [c0, cn, ct, cb, cz]) (k := 1); exact rfl; exact rfl; exact ho4; (exact a_tk); exact Rd.at_ (l := [c0, cn, ct, cb, cz]) (by (exact a_at)) (fun j x h => by rw [Nat.zero_add]; exact h); exact rfl; exact c2; omega; exact rfl; decide; decide; exact rfl; rintro v5 hp5 ho5)
      obtain ⟨A5, k5, rfl, q1, q2⟩ := ho5.form
      ((first | apply R.nil | skip); apply Fin.ks (Hx := hp5 ++ H) hKc; exact Mem.le_refl _; ((try simp only [List.append_assoc, List.cons_append, List.nil_append, List.append_nil]); exact a_arr))
      refine RS.later (Hs2 := []) (Hx2 := (rb, .cells [.int .i64 d.room, sv, v1, .slice A d.ps.length cap, .bool fused, .int .i64 fuse, .bool d.down].toArray 103 (0, 0)) :: (hp5 ++ H)) (by ((try simp only [List.append_assoc, List.cons_append, List.nil_append, List.append_nil]); exact a_arr)) ?_
      (repeat' (first | (apply RT.step; exact rfl; intro _ _ _; (exact a_ok); exact rfl) | (apply RT.stepT; exact rfl; exact rfl; exact rfl; exact rfl; intro _ _ _; (exact a_ok); exact rfl) | (apply RT.stepF; exact rfl; exact rfl; exact rfl; exact rfl; exact rfl; exact rfl) | (apply RT.stepU; exact rfl; exact rfl; exact rfl; exact rfl; exact rfl) | (apply RT.one; apply OneT.effF; exact rfl; exact rfl; exact rfl; exact rfl; exact rfl; exact rfl) | (apply RT.one; apply OneT.effU; exact rfl; exact rfl; exact rfl; exact rfl; exact rfl)))
      (apply RT.one; apply OneT.eff; exact rfl; intro Kc hKc ops0)
      (repeat' (first | refine a_go ?_ | (with_reducible apply Fin.thenK; assumption) | (with_reducible (first | apply C.seqK | apply C.regionK); intro _ _) | (apply R.buildSlice0; exact rfl; intro bz) | (apply R.box; exact rfl; (simp only [Value.cells]; rfl); exact rfl; intro bx) | (apply R.alloc; (simp only [Value.cells]; rfl); exact rfl; intro ba) | (apply R.buildSlice; (exact a_prt); exact rfl; exact rfl; (exact a_fills); exact rfl; intro bl) | (refine a_sp ?_ ?_; (intro h; skip; rotate_left; intro h; skip; rotate_left)) | fail))
      ((first | apply R.nil | skip); apply Fin.kt hKc; exact Mem.le_refl _; ((try simp only [List.append_assoc, List.cons_append, List.nil_append, List.append_nil]); exact a_arr))
      apply RT.nil
      (repeat' (first | refine a_go ?_ | (with_reducible apply Fin.thenK; assumption) | (with_reducible (first | apply C.seqK | apply C.regionK); intro _ _) | (apply R.buildSlice0; exact rfl; intro bz) | (apply R.box; exact rfl; (simp only [Value.cells]; rfl); exact rfl; intro bx) | (apply R.alloc; (simp only [Value.cells]; rfl); exact rfl; intro ba) | (apply R.buildSlice; (exact a_prt); exact rfl; exact rfl; (exact a_fills); exact rfl; intro bl) | (refine a_sp ?_ ?_; (intro h; skip; rotate_left; intro h; skip; rotate_left)) | fail))
      (apply Fin.ice (hp := hp5) (H1 := (rb, .cells [.int .i64 d.room, sv, v1, .slice A5 (d.ps.length + 1) k5, .bool fused, .int .i64 fuse, .bool d.down].toArray 103 (0, 0)) :: H) (by ((try simp only [List.append_assoc, List.cons_append, List.nil_append, List.append_nil]); exact a_arr)); intro M2 hM2 hin2)
      (apply Fin.returnA (H2 := (rb, .cells [.int .i64 d.room, sv, v1, .slice A5 (d.ps.length + 1) k5, .bool fused, .int .i64 fuse, .bool d.down].toArray 103 (0, 0)) :: H); assumption; (first | exact .inl rfl | exact .inr rfl); exact rfl; (exact a_res); (simp only [retv]; rfl); (exact a_arr))
      exact ⟨rfl, hM1.trans_ hM2, _, ⟨⟨F, doneF G x, sv, v1, .slice A5 (d.ps.length + 1) k5, fused, fuse⟩, ⟨hok, hi.sF.mono (hM1.trans_ hM2), hf1.mono hM2, hi.pS, hpN, hi.srtF, doneF_srt hi.srtG, PlW.snoc q1 (by unfold maxLen at q2; omega) (ho5.plIn hin2) w4 (fun i x c h1 h2 => (w7 i x c h1 h2).mono hM2) (hx.mono (hM1.trans_ hM2)), hi.fu, hi.fu0⟩, rfl⟩, rfl⟩
  · apply OneS.eff; exact rfl; intro Kc hKc ops0
    (apply R.buildSlice; (exact a_prt); exact rfl; exact rfl; (exact a_fills); exact rfl; intro bl)
    ((first | apply R.nil | skip); apply Fin.ks (Hx := (bl, .cells #[c0, cn, ct, cb, cz] 127 (0, 0)) :: H) hKc; exact Mem.le_refl _; ((try simp only [List.append_assoc, List.cons_append, List.nil_append, List.append_nil]); exact a_arr))
    (apply RS.one; apply OneS.eff; exact rfl; intro Kc hKc ops0)
    (first | (apply R.store; exact rfl; exact rfl; exact rfl; (exact a_at); (exact a_blit); exact rfl; (focus (simp [Value.oneCell']; done))) | (apply R.buildSlice0; exact rfl; intro bz) | (apply R.box; exact rfl; (simp only [Value.cells]; rfl); exact rfl; intro bx) | (apply R.alloc; (simp only [Value.cells]; rfl); exact rfl; intro ba) | (apply R.buildSlice; (exact a_prt); exact rfl; exact rfl; (exact a_fills); exact rfl; intro bl))
    ((first | apply R.nil | skip); apply Fin.ks (Hx := (bl, .cells #[c0, cn, ct, cb, cz] 127 (0, 0)) :: (bz, .cells #[] 127 (0, 0)) :: H) hKc; exact Mem.le_refl _; ((try simp only [List.append_assoc, List.cons_append, List.nil_append, List.append_nil]); exact a_arr))
    (apply RS.one; apply OneS.eff; exact rfl; intro Kc hKc ops0)
    (apply R.append (news := cs.flatten) (k := d.ps.length); exact rfl; exact rfl; exact Own.empty; (exact a_tk); exact w3.rd; (rw [wl, w4]); exact w6; omega; exact rfl; decide; decide; exact rfl; rintro v4 hp4 ho4)
    rw [Nat.zero_add, List.nil_append] at ho4
    obtain ⟨A4, k4, rfl, _, _⟩ := ho4.form
    ((first | apply R.nil | skip); apply Fin.ks (Hx := hp4 ++ ((bl, .cells #[c0, cn, ct, cb, cz] 127 (0, 0)) :: H)) hKc; exact Mem.le_refl _; ((try simp only [List.append_assoc, List.cons_append, List.nil_append, List.append_nil]); exact a_arr))
    (apply RS.one; apply OneS.eff; exact rfl; intro Kc hKc ops0)
    (apply R.append (news := [c0, cn, ct, cb, cz]) (k := 1); exact rfl; exact rfl; exact ho4; (exact a_tk); exact Rd.at_ (l := [c0, cn, ct, cb, cz]) (by (exact a_at)) (fun j x h => by rw [Nat.zero_add]; exact h); exact rfl; exact c2; omega; exact rfl; decide; decide; exact rfl; rintro v5 hp5 ho5)
    obtain ⟨A5, k5, rfl, q1, q2⟩ := ho5.form
    ((first | apply R.nil | skip); apply Fin.ks (Hx := hp5 ++ H) hKc; exact Mem.le_refl _; ((try simp only [List.append_assoc, List.cons_append, List.nil_append, List.append_nil]); exact a_arr))
    refine RS.later (Hs2 := []) (Hx2 := (rb, .cells [.int .i64 d.room, sv, v1, .slice A d.ps.length cap, .bool fused, .int .i64 fuse, .bool d.down].toArray 103 (0, 0)) :: (hp5 ++ H)) (by ((try simp only [List.append_assoc, List.cons_append, List.nil_append, List.append_nil]); exact a_arr)) ?_
    (repeat' (first | (apply RT.step; exact rfl; intro _ _ _; (exact a_ok); exact rfl) | (apply RT.stepT; exact rfl; exact rfl; exact rfl; exact rfl; intro _ _ _; (exact a_ok); exact rfl) | (apply RT.stepF; exact rfl; exact rfl; exact rfl; exact rfl; exact rfl; exact rfl) | (apply RT.stepU; exact rfl; exact rfl; exact rfl; exact rfl; exact rfl) | (apply RT.one; apply OneT.effF; exact rfl; exact rfl; exact rfl; exact rfl; exact rfl; exact rfl) | (apply RT.one; apply OneT.effU; exact rfl; exact rfl; exact rfl; exact rfl; exact rfl)))
    (apply RT.one; apply OneT.eff; exact rfl; intro Kc hKc ops0)
    (repeat' (first | refine a_go ?_ | (with_reducible apply Fin.thenK; assumption) | (with_reducible (first | apply C.seqK | apply C.regionK); intro _ _) | (apply R.buildSlice0; exact rfl; intro bz) | (apply R.box; exact rfl; (simp only [Value.cells]; rfl); exact rfl; intro bx) | (apply R.alloc; (simp only [Value.cells]; rfl); exact rfl; intro ba) | (apply R.buildSlice; (exact a_prt); exact rfl; exact rfl; (exact a_fills); exact rfl; intro bl) | (refine a_sp ?_ ?_; (intro h; skip; rotate_left; intro h; skip; rotate_left)) | fail))
    ((first | apply R.nil | skip); apply Fin.kt hKc; exact Mem.le_refl _; ((try simp only [List.append_assoc, List.cons_append, List.nil_append, List.append_nil]); exact a_arr))
    apply RT.nil
    (repeat' (first | refine a_go ?_ | (with_reducible apply Fin.thenK; assumption) | (with_reducible (first | apply C.seqK | apply C.regionK); intro _ _) | (apply R.buildSlice0; exact rfl; intro bz) | (apply R.box; exact rfl; (simp only [Value.cells]; rfl); exact rfl; intro bx) | (apply R.alloc; (simp only [Value.cells]; rfl); exact rfl; intro ba) | (apply R.buildSlice; (exact a_prt); exact rfl; exact rfl; (exact a_fills); exact rfl; intro bl) | (refine a_sp ?_ ?_; (intro h; skip; rotate_left; intro h; skip; rotate_left)) | fail))
    (apply Fin.ice (hp := hp5) (H1 := (rb, .cells [.int .i64 d.room, sv, v1, .slice A5 (d.ps.length + 1) k5, .bool fused, .int .i64 fuse, .bool d.down].toArray 103 (0, 0)) :: H) (by ((try simp only [List.append_assoc, List.cons_append, List.nil_append, List.append_nil]); exact a_arr)); intro M2 hM2 hin2)
    (apply Fin.returnA (H2 := (rb, .cells [.int .i64 d.room, sv, v1, .slice A5 (d.ps.length + 1) k5, .bool fused, .int .i64 fuse, .bool d.down].toArray 103 (0, 0)) :: H); assumption; (first | exact .inl rfl | exact .inr rfl); exact rfl; (exact a_res); (simp only [retv]; rfl); (exact a_arr))
    exact ⟨rfl, hM1.trans_ hM2, _, ⟨⟨F, doneF G x, sv, v1, .slice A5 (d.ps.length + 1) k5, fused, fuse⟩, ⟨hok, hi.sF.mono (hM1.trans_ hM2), hf1.mono hM2, hi.pS, hpN, hi.srtF, doneF_srt hi.srtG, PlW.snoc q1 (by unfold maxLen at q2; omega) (ho5.plIn hin2) w4 (fun i x c h1 h2 => (w7 i x c h1 h2).mono hM2) (hx.mono (hM1.trans_ hM2)), hi.fu, hi.fu0⟩, rfl⟩, rfl⟩
end Go.Sx
end
section
namespace Go.Sx
open Go Go.Proofs Go.RowKit
attribute [local irreducible] C R Fin K Own OwnT Rd Pl Ok KOf RetOk OpsOf RP KP Res NoPanic KV KE MapS ItS EntS FsO FsR RowD PlD DkO PlFs RT KT OneT RdO
variable {M M' : Mem} {H H1 H2 : Hp}
theorem RdO.isok {rb : Nat} {d : Dk} {hp : Hp} (h : RdO M rb d hp) : d.ok := by
  unfold RdO at h
  obtain ⟨x, hx, _⟩ := h
  exact hx.ok
theorem RdO.nodup {rb : Nat} {d : Dk} {hp : Hp} (h : RdO M rb d hp) : (keyS d.now).Nodup := by
  unfold RdO at h
  obtain ⟨x, hx, _⟩ := h
  exact (hx.pN.map Prod.fst).nodup_iff.1 hx.srtG.nodup
theorem opD_go {d : Dk} {x : De} {e : Int} (he : e = 0) : opD e d x = { cntD d with ps := (cntD d).ps ++ [x] } := by
  unfold opD
  rw [if_pos he, cntD_ps]
theorem cnt_fit {d : Dk} {x : De} (h : d.ok) (hf : Fit d.now x) : Dk.ok { cntD d with ps := (cntD d).ps ++ [x] } := by
  rw [cntD_ps]
  exact opD_ok h hf
theorem getS_find {M : Mem} {d : Dk} {x : RdX} (h : RdI M d x) (n : Txt) : (findI x.G n 0 < 0 ∧ getS d.now n = none) ∨ (0 ≤ findI x.G n 0 ∧ ∃ j b, findI x.G n 0 = (j : Nat) ∧ x.G[j]? = some (n, b) ∧ getS d.now n = some b) := by
  rw [← h.get n]
  rcases findI_spec x.G n 0 with ⟨h1, h2⟩ | ⟨j, b, h1, h2, h3⟩
  · exact .inl ⟨by omega, h2⟩
  · exact .inr ⟨by omega, j, b, by omega, h2, h3⟩
theorem rdoes_KC {rb : Nat} {d : Dk} {hp : Hp} {x : De} {c : List Value} (ho : RdO M rb (cntD d) hp) (hok : d.ok) (hl : d.now.length ≤ 1000000) (hps : d.ps.length ≤ 1000000) (hx : DeC M x c) (hfit : Fit d.now x) : K Try.prog 87 [.pointer (some ⟨rb, 0, none⟩), .agg c.toArray] M (hp ++ H) fun v' M' H' => v' = .int .i64 0 ∧ M.le M' ∧ ∃ hp', RdO M' rb (opD 0 d x) hp' ∧ H' = hp' ++ H := by
  rw [opD_go rfl]
  exact rdoes_K ho (by rw [cntD_now]; exact hl) (by rw [cntD_ps]; exact hps) hx (by rw [cntD_now]; exact hfit) (cnt_fit hok hfit)
theorem rremove_K {rb : Nat} {d : Dk} {hp : Hp} {n : Txt} (ho : RdO M rb d hp) (hl : d.now.length ≤ 1000000) (hlen : d.ps.length ≤ 1000000) : K Try.prog 62 [.pointer (some ⟨rb, 0, none⟩), str n] M (hp ++ H) fun v' M' H' => v' = .int .i64 (remE d n) ∧ M.le M' ∧ ∃ hp', RdO M' rb (opD (remE d n) d (.rem n)) hp' ∧ H' = hp' ++ H := by
  refine K.enterK Try.func62 rfl rfl rfl ?_
  intro Q hNP hQ
  have hnn := ho.nodup
  have hok := ho.isok
  (repeat' (first | refine a_go ?_ | (with_reducible apply Fin.thenK; assumption) | (with_reducible (first | apply C.seqK | apply C.regionK); intro _ _) | (apply R.buildSlice0; exact rfl; intro bz) | (apply R.box; exact rfl; (simp only [Value.cells]; rfl); exact rfl; intro bx) | (apply R.alloc; (simp only [Value.cells]; rfl); exact rfl; intro ba) | (apply R.buildSlice; (exact a_prt); exact rfl; exact rfl; (exact a_fills); exact rfl; intro bl) | (refine a_sp ?_ ?_; (intro h; skip; rotate_left; intro h; skip; rotate_left)) | fail))
  (apply R.call; (exact a_evs); exact rfl; exact rcounts_KD ho; rintro _ M _ ⟨rfl, rfl, hp1, ho1, rfl, hdn⟩)
  by_cases hs : stopD d
  · have hE : remE d n = 3 := if_pos hs
    rw [hE, opD_no (by decide)] at hQ
    rw [if_pos hs]
    (repeat' (first | refine a_go ?_ | (with_reducible apply Fin.thenK; assumption) | (with_reducible (first | apply C.seqK | apply C.regionK); intro _ _) | (apply R.buildSlice0; exact rfl; intro bz) | (apply R.box; exact rfl; (simp only [Value.cells]; rfl); exact rfl; intro bx) | (apply R.alloc; (simp only [Value.cells]; rfl); exact rfl; intro ba) | (apply R.buildSlice; (exact a_prt); exact rfl; exact rfl; (exact a_fills); exact rfl; intro bl) | (refine a_sp ?_ ?_; (intro h; skip; rotate_left; intro h; skip; rotate_left)) | fail))
    (apply Fin.returnA (H2 := hp1 ++ H); assumption; (first | exact .inl rfl | exact .inr rfl); exact rfl; (exact a_res); (simp only [retv]; rfl); (exact a_arr))
    exact ⟨rfl, Mem.le_refl _, hp1, ho1, rfl⟩
  rw [if_neg hs]
  have hc := ho1
  unfold RdO at hc
  obtain ⟨⟨F, G, sv, nv, wv, fused, fuse⟩, hi, rfl⟩ := hc
  have hnG := hi.nG
  have hln := hi.len
  have hnow := cntD_now d
  rw [hnow] at hln
  dsimp only at hnG hln ⊢
  unfold rdkB
  (repeat' (first | refine a_go ?_ | (with_reducible apply Fin.thenK; assumption) | (with_reducible (first | apply C.seqK | apply C.regionK); intro _ _) | (apply R.buildSlice0; exact rfl; intro bz) | (apply R.box; exact rfl; (simp only [Value.cells]; rfl); exact rfl; intro bx) | (apply R.alloc; (simp only [Value.cells]; rfl); exact rfl; intro ba) | (apply R.buildSlice; (exact a_prt); exact rfl; exact rfl; (exact a_fills); exact rfl; intro bl) | (refine a_sp ?_ ?_; (intro h; skip; rotate_left; intro h; skip; rotate_left)) | fail))
  (apply R.call; (exact a_evs); exact rfl; exact rfind_K hnG (by omega); rintro _ M _ ⟨rfl, rfl, rfl⟩)
  have hfd := getS_find hi n
  rw [hnow] at hfd
  dsimp only at hfd
  rcases hfd with ⟨h1, h2⟩ | ⟨h1, j, b, h2, h3, h4⟩
  · have hE : remE d n = 4 := (if_neg hs).trans (if_pos h2)
    rw [hE, opD_no (by decide)] at hQ
    (repeat' (first | (apply R.step; (apply Ok.move; exact rfl); exact rfl) | (apply R.step; (first | (apply Ok.ltTr; exact rfl; exact rfl; omega) | (apply Ok.ltF; exact rfl; exact rfl; omega) | (apply Ok.gtTr; exact rfl; exact rfl; omega) | (apply Ok.gtF; exact rfl; exact rfl; omega) | (apply Ok.geTr; exact rfl; exact rfl; omega) | (apply Ok.geF; exact rfl; exact rfl; omega) | (apply Ok.leTr; exact rfl; exact rfl; omega) | (apply Ok.leF; exact rfl; exact rfl; omega) | (apply Ok.neIT; exact rfl; exact rfl; omega) | (apply Ok.eqIF; exact rfl; exact rfl; omega)); exact rfl) | refine a_go ?_ | (with_reducible apply Fin.thenK; assumption) | (with_reducible (first | apply C.seqK | apply C.regionK); intro _ _) | (apply R.buildSlice0; exact rfl; intro bz) | (apply R.box; exact rfl; (simp only [Value.cells]; rfl); exact rfl; intro bx) | (apply R.alloc; (simp only [Value.cells]; rfl); exact rfl; intro ba) | (apply R.buildSlice; (exact a_prt); exact rfl; exact rfl; (exact a_fills); exact rfl; intro bl) | (refine a_sp ?_ ?_; (intro h; skip; rotate_left; intro h; skip; rotate_left)) | fail))
    (apply Fin.returnA (H2 := [(rb, rdkB (cntD d).room sv nv wv fused fuse (cntD d).down)] ++ H); assumption; (first | exact .inl rfl | exact .inr rfl); exact rfl; (exact a_res); (simp only [retv]; rfl); (exact a_arr))
    exact ⟨rfl, Mem.le_refl _, _, ho1, rfl⟩
  · have hE : remE d n = 0 := (if_neg hs).trans (if_neg (by rw [h4]; simp))
    rw [hE] at hQ
    have hfit := rem_fit (n := n) hnn hok.sum
    (repeat' (first | (apply R.step; (apply Ok.move; exact rfl); exact rfl) | (apply R.step; (first | (apply Ok.ltTr; exact rfl; exact rfl; omega) | (apply Ok.ltF; exact rfl; exact rfl; omega) | (apply Ok.gtTr; exact rfl; exact rfl; omega) | (apply Ok.gtF; exact rfl; exact rfl; omega) | (apply Ok.geTr; exact rfl; exact rfl; omega) | (apply Ok.geF; exact rfl; exact rfl; omega) | (apply Ok.leTr; exact rfl; exact rfl; omega) | (apply Ok.leF; exact rfl; exact rfl; omega) | (apply Ok.neIT; exact rfl; exact rfl; omega) | (apply Ok.eqIF; exact rfl; exact rfl; omega)); exact rfl) | refine a_go ?_ | (with_reducible apply Fin.thenK; assumption) | (with_reducible (first | apply C.seqK | apply C.regionK); intro _ _) | (apply R.buildSlice0; exact rfl; intro bz) | (apply R.box; exact rfl; (simp only [Value.cells]; rfl); exact rfl; intro bx) | (apply R.alloc; (simp only [Value.cells]; rfl); exact rfl; intro ba) | (apply R.buildSlice; (exact a_prt); exact rfl; exact rfl; (exact a_fills); exact rfl; intro bl) | (refine a_sp ?_ ?_; (intro h; skip; rotate_left; intro h; skip; rotate_left)) | fail))
    (apply R.call; (exact a_evs); exact rfl; exact rdoes_KC ho1 hok hl hlen (show DeC M (.rem n) _ from rfl) hfit; rintro _ M3 _ ⟨rfl, hM3, hp3, ho3, rfl⟩)
    (repeat' (first | refine a_go ?_ | (with_reducible apply Fin.thenK; assumption) | (with_reducible (first | apply C.seqK | apply C.regionK); intro _ _) | (apply R.buildSlice0; exact rfl; intro bz) | (apply R.box; exact rfl; (simp only [Value.cells]; rfl); exact rfl; intro bx) | (apply R.alloc; (simp only [Value.cells]; rfl); exact rfl; intro ba) | (apply R.buildSlice; (exact a_prt); exact rfl; exact rfl; (exact a_fills); exact rfl; intro bl) | (refine a_sp ?_ ?_; (intro h; skip; rotate_left; intro h; skip; rotate_left)) | fail))
    (apply Fin.returnA (H2 := hp3 ++ H); assumption; (first | exact .inl rfl | exact .inr rfl); exact rfl; (exact a_res); (simp only [retv]; rfl); (exact a_arr))
    exact ⟨rfl, hM3, hp3, ho3, rfl⟩
theorem rtruncate_K {rb : Nat} {d : Dk} {hp : Hp} {n : Txt} {k : Int} (ho : RdO M rb d hp) (hl : d.now.length ≤ 1000000) (hlen : d.ps.length ≤ 1000000) : K Try.prog 68 [.pointer (some ⟨rb, 0, none⟩), str n, .int .i64 k] M (hp ++ H) fun v' M' H' => v' = .int .i64 (trcE d n k) ∧ M.le M' ∧ ∃ hp', RdO M' rb (opD (trcE d n k) d (.trc n k.toNat)) hp' ∧ H' = hp' ++ H := by
  refine K.enterK Try.func68 rfl rfl rfl ?_
  intro Q hNP hQ
  have hnn := ho.nodup
  have hok := ho.isok
  (repeat' (first | refine a_go ?_ | (with_reducible apply Fin.thenK; assumption) | (with_reducible (first | apply C.seqK | apply C.regionK); intro _ _) | (apply R.buildSlice0; exact rfl; intro bz) | (apply R.box; exact rfl; (simp only [Value.cells]; rfl); exact rfl; intro bx) | (apply R.alloc; (simp only [Value.cells]; rfl); exact rfl; intro ba) | (apply R.buildSlice; (exact a_prt); exact rfl; exact rfl; (exact a_fills); exact rfl; intro bl) | (refine a_sp ?_ ?_; (intro h; skip; rotate_left; intro h; skip; rotate_left)) | fail))
  (apply R.call; (exact a_evs); exact rfl; exact rcounts_KD ho; rintro _ M _ ⟨rfl, rfl, hp1, ho1, rfl, hdn⟩)
  by_cases hs : stopD d
  · have hE : trcE d n k = 3 := if_pos hs
    rw [hE, opD_no (by decide)] at hQ
    rw [if_pos hs]
    (repeat' (first | refine a_go ?_ | (with_reducible apply Fin.thenK; assumption) | (with_reducible (first | apply C.seqK | apply C.regionK); intro _ _) | (apply R.buildSlice0; exact rfl; intro bz) | (apply R.box; exact rfl; (simp only [Value.cells]; rfl); exact rfl; intro bx) | (apply R.alloc; (simp only [Value.cells]; rfl); exact rfl; intro ba) | (apply R.buildSlice; (exact a_prt); exact rfl; exact rfl; (exact a_fills); exact rfl; intro bl) | (refine a_sp ?_ ?_; (intro h; skip; rotate_left; intro h; skip; rotate_left)) | fail))
    (apply Fin.returnA (H2 := hp1 ++ H); assumption; (first | exact .inl rfl | exact .inr rfl); exact rfl; (exact a_res); (simp only [retv]; rfl); (exact a_arr))
    exact ⟨rfl, Mem.le_refl _, hp1, ho1, rfl⟩
  rw [if_neg hs]
  have hc := ho1
  unfold RdO at hc
  obtain ⟨⟨F, G, sv, nv, wv, fused, fuse⟩, hi, rfl⟩ := hc
  have hnG := hi.nG
  have hln := hi.len
  have hnow := cntD_now d
  rw [hnow] at hln
  dsimp only at hnG hln ⊢
  unfold rdkB
  (repeat' (first | refine a_go ?_ | (with_reducible apply Fin.thenK; assumption) | (with_reducible (first | apply C.seqK | apply C.regionK); intro _ _) | (apply R.buildSlice0; exact rfl; intro bz) | (apply R.box; exact rfl; (simp only [Value.cells]; rfl); exact rfl; intro bx) | (apply R.alloc; (simp only [Value.cells]; rfl); exact rfl; intro ba) | (apply R.buildSlice; (exact a_prt); exact rfl; exact rfl; (exact a_fills); exact rfl; intro bl) | (refine a_sp ?_ ?_; (intro h; skip; rotate_left; intro h; skip; rotate_left)) | fail))
  (apply R.call; (exact a_evs); exact rfl; exact rfind_K hnG (by omega); rintro _ M _ ⟨rfl, rfl, rfl⟩)
  have hfd := getS_find hi n
  rw [hnow] at hfd
  dsimp only at hfd
  rcases hfd with ⟨h1, h2⟩ | ⟨h1, j, b, h2, h3, h4⟩
  · have hE : trcE d n k = 4 := (if_neg hs).trans (if_pos h2)
    rw [hE, opD_no (by decide)] at hQ
    (repeat' (first | (apply R.step; (apply Ok.move; exact rfl); exact rfl) | (apply R.step; (first | (apply Ok.ltTr; exact rfl; exact rfl; omega) | (apply Ok.ltF; exact rfl; exact rfl; omega) | (apply Ok.gtTr; exact rfl; exact rfl; omega) | (apply Ok.gtF; exact rfl; exact rfl; omega) | (apply Ok.geTr; exact rfl; exact rfl; omega) | (apply Ok.geF; exact rfl; exact rfl; omega) | (apply Ok.leTr; exact rfl; exact rfl; omega) | (apply Ok.leF; exact rfl; exact rfl; omega) | (apply Ok.neIT; exact rfl; exact rfl; omega) | (apply Ok.eqIF; exact rfl; exact rfl; omega)); exact rfl) | refine a_go ?_ | (with_reducible apply Fin.thenK; assumption) | (with_reducible (first | apply C.seqK | apply C.regionK); intro _ _) | (apply R.buildSlice0; exact rfl; intro bz) | (apply R.box; exact rfl; (simp only [Value.cells]; rfl); exact rfl; intro bx) | (apply R.alloc; (simp only [Value.cells]; rfl); exact rfl; intro ba) | (apply R.buildSlice; (exact a_prt); exact rfl; exact rfl; (exact a_fills); exact rfl; intro bl) | (refine a_sp ?_ ?_; (intro h; skip; rotate_left; intro h; skip; rotate_left)) | fail))
    (apply Fin.returnA (H2 := [(rb, rdkB (cntD d).room sv nv wv fused fuse (cntD d).down)] ++ H); assumption; (first | exact .inl rfl | exact .inr rfl); exact rfl; (exact a_res); (simp only [retv]; rfl); (exact a_arr))
    exact ⟨rfl, Mem.le_refl _, _, ho1, rfl⟩
  · obtain ⟨A', cap', bb, o, cc, e, fr, Af, cf, rfl, rfl, hMb, g1, g2, g3, g4, g5⟩ := hnG.get h3
    rw [show o + j * 2 = o + (j : Int).toNat * 2 by omega] at g2
    have hjl : j < G.length := (List.getElem?_eq_some_iff.1 h3).1
    rw [h2]
    have hfb := fileD_some h4
    have h0 : ¬ getS d.now n = none := by rw [h4]; simp
    by_cases hk : k < 0 ∨ (b.length : Int) < k
    · have hE : trcE d n k = 1 := (if_neg hs).trans ((if_neg h0).trans (if_pos (by rw [hfb]; exact hk)))
      rw [hE, opD_no (by decide)] at hQ
      by_cases hk0 : k < 0
      · (repeat' (first | (apply R.step; (apply Ok.move; exact rfl); exact rfl) | (apply R.step; (first | (apply Ok.ltTr; exact rfl; exact rfl; omega) | (apply Ok.ltF; exact rfl; exact rfl; omega) | (apply Ok.gtTr; exact rfl; exact rfl; omega) | (apply Ok.gtF; exact rfl; exact rfl; omega) | (apply Ok.geTr; exact rfl; exact rfl; omega) | (apply Ok.geF; exact rfl; exact rfl; omega) | (apply Ok.leTr; exact rfl; exact rfl; omega) | (apply Ok.leF; exact rfl; exact rfl; omega) | (apply Ok.neIT; exact rfl; exact rfl; omega) | (apply Ok.eqIF; exact rfl; exact rfl; omega)); exact rfl) | refine a_go ?_ | (with_reducible apply Fin.thenK; assumption) | (with_reducible (first | apply C.seqK | apply C.regionK); intro _ _) | (apply R.buildSlice0; exact rfl; intro bz) | (apply R.box; exact rfl; (simp only [Value.cells]; rfl); exact rfl; intro bx) | (apply R.alloc; (simp only [Value.cells]; rfl); exact rfl; intro ba) | (apply R.buildSlice; (exact a_prt); exact rfl; exact rfl; (exact a_fills); exact rfl; intro bl) | (refine a_sp ?_ ?_; (intro h; skip; rotate_left; intro h; skip; rotate_left)) | fail))
        (apply Fin.returnA (H2 := [(rb, rdkB (cntD d).room sv _ wv fused fuse (cntD d).down)] ++ H); assumption; (first | exact .inl rfl | exact .inr rfl); exact rfl; (exact a_res); (simp only [retv]; rfl); (exact a_arr))
        exact ⟨rfl, Mem.le_refl _, _, ho1, rfl⟩
      · have hk1 : (b.length : Int) < k := by omega
        (repeat' (first | (apply R.step; (apply Ok.move; exact rfl); exact rfl) | (apply R.step; (first | (apply Ok.loadP; exact rfl; exact rfl; exact hMb; exact g2) | (first | (apply Ok.ltTr; exact rfl; exact rfl; omega) | (apply Ok.ltF; exact rfl; exact rfl; omega) | (apply Ok.gtTr; exact rfl; exact rfl; omega) | (apply Ok.gtF; exact rfl; exact rfl; omega) | (apply Ok.geTr; exact rfl; exact rfl; omega) | (apply Ok.geF; exact rfl; exact rfl; omega) | (apply Ok.leTr; exact rfl; exact rfl; omega) | (apply Ok.leF; exact rfl; exact rfl; omega) | (apply Ok.neIT; exact rfl; exact rfl; omega) | (apply Ok.eqIF; exact rfl; exact rfl; omega))); exact rfl) | refine a_go ?_ | (with_reducible apply Fin.thenK; assumption) | (with_reducible (first | apply C.seqK | apply C.regionK); intro _ _) | (apply R.buildSlice0; exact rfl; intro bz) | (apply R.box; exact rfl; (simp only [Value.cells]; rfl); exact rfl; intro bx) | (apply R.alloc; (simp only [Value.cells]; rfl); exact rfl; intro ba) | (apply R.buildSlice; (exact a_prt); exact rfl; exact rfl; (exact a_fills); exact rfl; intro bl) | (refine a_sp ?_ ?_; (intro h; skip; rotate_left; intro h; skip; rotate_left)) | fail))
        (apply Fin.returnA (H2 := [(rb, rdkB (cntD d).room sv _ wv fused fuse (cntD d).down)] ++ H); assumption; (first | exact .inl rfl | exact .inr rfl); exact rfl; (exact a_res); (simp only [retv]; rfl); (exact a_arr))
        exact ⟨rfl, Mem.le_refl _, _, ho1, rfl⟩
    · have hE : trcE d n k = 0 := (if_neg hs).trans ((if_neg h0).trans (if_neg (by rw [hfb]; exact hk)))
      rw [hE] at hQ
      have hk0 : ¬ k < 0 := fun h => hk (.inl h)
      have hk1 : ¬ (b.length : Int) < k := fun h => hk (.inr h)
      have hfit := trc_fit (n := n) (k := k.toNat) hnn hok.sum (by rw [hfb]; omega)
      (repeat' (first | (apply R.step; (apply Ok.move; exact rfl); exact rfl) | (apply R.step; (first | (apply Ok.loadP; exact rfl; exact rfl; exact hMb; exact g2) | (first | (apply Ok.ltTr; exact rfl; exact rfl; omega) | (apply Ok.ltF; exact rfl; exact rfl; omega) | (apply Ok.gtTr; exact rfl; exact rfl; omega) | (apply Ok.gtF; exact rfl; exact rfl; omega) | (apply Ok.geTr; exact rfl; exact rfl; omega) | (apply Ok.geF; exact rfl; exact rfl; omega) | (apply Ok.leTr; exact rfl; exact rfl; omega) | (apply Ok.leF; exact rfl; exact rfl; omega) | (apply Ok.neIT; exact rfl; exact rfl; omega) | (apply Ok.eqIF; exact rfl; exact rfl; omega))); exact rfl) | refine a_go ?_ | (with_reducible apply Fin.thenK; assumption) | (with_reducible (first | apply C.seqK | apply C.regionK); intro _ _) | (apply R.buildSlice0; exact rfl; intro bz) | (apply R.box; exact rfl; (simp only [Value.cells]; rfl); exact rfl; intro bx) | (apply R.alloc; (simp only [Value.cells]; rfl); exact rfl; intro ba) | (apply R.buildSlice; (exact a_prt); exact rfl; exact rfl; (exact a_fills); exact rfl; intro bl) | (refine a_sp ?_ ?_; (intro h; skip; rotate_left; intro h; skip; rotate_left)) | fail))
      (apply R.call; (exact a_evs); exact rfl; exact rdoes_KC ho1 hok hl hlen (show DeC M (.trc n k.toNat) [.int .i64 1, str n, str [], .slice none 0 0, .int .i64 k] from by show _ = _; rw [Int.toNat_of_nonneg (by omega)]) hfit; rintro _ M3 _ ⟨rfl, hM3, hp3, ho3, rfl⟩)
      (repeat' (first | refine a_go ?_ | (with_reducible apply Fin.thenK; assumption) | (with_reducible (first | apply C.seqK | apply C.regionK); intro _ _) | (apply R.buildSlice0; exact rfl; intro bz) | (apply R.box; exact rfl; (simp only [Value.cells]; rfl); exact rfl; intro bx) | (apply R.alloc; (simp only [Value.cells]; rfl); exact rfl; intro ba) | (apply R.buildSlice; (exact a_prt); exact rfl; exact rfl; (exact a_fills); exact rfl; intro bl) | (refine a_sp ?_ ?_; (intro h; skip; rotate_left; intro h; skip; rotate_left)) | fail))
      (apply Fin.returnA (H2 := hp3 ++ H); assumption; (first | exact .inl rfl | exact .inr rfl); exact rfl; (exact a_res); (simp only [retv]; rfl); (exact a_arr))
      exact ⟨rfl, hM3, hp3, ho3, rfl⟩
end Go.Sx
end
section
namespace Go.Sx
open Go Go.Proofs Go.RowKit
attribute [local irreducible] C R Fin K Own OwnT Rd Pl Ok KOf RetOk OpsOf RP KP Res NoPanic KV KE MapS ItS EntS FsO FsR RowD PlD DkO PlFs RT KT OneT RdO
variable {M M' : Mem} {H H1 H2 : Hp}
theorem rappend_K {rb : Nat} {d : Dk} {hp : Hp} {n b : Txt} {va : Value} (ho : RdO M rb d hp) (hb : PlB M va b) (hbl : b.length ≤ 4611686018427387904) (hnl : n.length ≤ 4611686018427387904) (hl : d.now.length ≤ 1000000) (hlen : d.ps.length ≤ 1000000) : K Try.prog 60 [.pointer (some ⟨rb, 0, none⟩), str n, va] M (hp ++ H) fun v' M' H' => v' = .int .i64 (appE d n b) ∧ M.le M' ∧ ∃ hp', RdO M' rb (opD (appE d n b) d (.app n b)) hp' ∧ H' = hp' ++ H := by
  refine K.enterK Try.func60 rfl rfl rfl ?_
  intro Q hNP hQ
  have hnn := ho.nodup
  have hok := ho.isok
  obtain ⟨Ab, cb, rfl, hb1, hb2, hb3⟩ := hb
  (repeat' (first | refine a_go ?_ | (with_reducible apply Fin.thenK; assumption) | (with_reducible (first | apply C.seqK | apply C.regionK); intro _ _) | (apply R.buildSlice0; exact rfl; intro bz) | (apply R.box; exact rfl; (simp only [Value.cells]; rfl); exact rfl; intro bx) | (apply R.alloc; (simp only [Value.cells]; rfl); exact rfl; intro ba) | (apply R.buildSlice; (exact a_prt); exact rfl; exact rfl; (exact a_fills); exact rfl; intro bl) | (refine a_sp ?_ ?_; (intro h; skip; rotate_left; intro h; skip; rotate_left)) | fail))
  (apply R.call; (exact a_evs); exact rfl; exact rcounts_KD ho; rintro _ M _ ⟨rfl, rfl, hp1, ho1, rfl, hdn⟩)
  by_cases hs : stopD d
  · have hE : appE d n b = 3 := if_pos hs
    rw [hE, opD_no (by decide)] at hQ
    rw [if_pos hs]
    (repeat' (first | refine a_go ?_ | (with_reducible apply Fin.thenK; assumption) | (with_reducible (first | apply C.seqK | apply C.regionK); intro _ _) | (apply R.buildSlice0; exact rfl; intro bz) | (apply R.box; exact rfl; (simp only [Value.cells]; rfl); exact rfl; intro bx) | (apply R.alloc; (simp only [Value.cells]; rfl); exact rfl; intro ba) | (apply R.buildSlice; (exact a_prt); exact rfl; exact rfl; (exact a_fills); exact rfl; intro bl) | (refine a_sp ?_ ?_; (intro h; skip; rotate_left; intro h; skip; rotate_left)) | fail))
    (apply Fin.returnA (H2 := hp1 ++ H); assumption; (first | exact .inl rfl | exact .inr rfl); exact rfl; (exact a_res); (simp only [retv]; rfl); (exact a_arr))
    exact ⟨rfl, Mem.le_refl _, hp1, ho1, rfl⟩
  rw [if_neg hs]
  replace hdn := hdn hs
  (repeat' (first | refine a_go ?_ | (with_reducible apply Fin.thenK; assumption) | (with_reducible (first | apply C.seqK | apply C.regionK); intro _ _) | (apply R.buildSlice0; exact rfl; intro bz) | (apply R.box; exact rfl; (simp only [Value.cells]; rfl); exact rfl; intro bx) | (apply R.alloc; (simp only [Value.cells]; rfl); exact rfl; intro ba) | (apply R.buildSlice; (exact a_prt); exact rfl; exact rfl; (exact a_fills); exact rfl; intro bl) | (refine a_sp ?_ ?_; (intro h; skip; rotate_left; intro h; skip; rotate_left)) | fail))
  (apply R.call; (exact a_evs); exact rfl; exact rname_K (n := n) (by omega); rintro _ M _ ⟨rfl, rfl, rfl⟩)
  cases hnm : namedB n with
  | false =>
    have hE : appE d n b = 1 := (if_neg hs).trans (if_pos hnm)
    rw [hE, opD_no (by decide)] at hQ
    (repeat' (first | refine a_go ?_ | (with_reducible apply Fin.thenK; assumption) | (with_reducible (first | apply C.seqK | apply C.regionK); intro _ _) | (apply R.buildSlice0; exact rfl; intro bz) | (apply R.box; exact rfl; (simp only [Value.cells]; rfl); exact rfl; intro bx) | (apply R.alloc; (simp only [Value.cells]; rfl); exact rfl; intro ba) | (apply R.buildSlice; (exact a_prt); exact rfl; exact rfl; (exact a_fills); exact rfl; intro bl) | (refine a_sp ?_ ?_; (intro h; skip; rotate_left; intro h; skip; rotate_left)) | fail))
    (apply Fin.returnA (H2 := hp1 ++ H); assumption; (first | exact .inl rfl | exact .inr rfl); exact rfl; (exact a_res); (simp only [retv]; rfl); (exact a_arr))
    exact ⟨rfl, Mem.le_refl _, hp1, ho1, rfl⟩
  | true =>
  have hnm' : ¬ namedB n = false := by rw [hnm]; decide
  have hc := ho1
  unfold RdO at hc
  obtain ⟨⟨F, G, sv, nv, wv, fused, fuse⟩, hi, rfl⟩ := hc
  have hnG := hi.nG
  have hln := hi.len
  have hnow := cntD_now d
  rw [hnow] at hln
  dsimp only at hnG hln ⊢
  have hroom := hok.1
  have hsum := hok.sum
  have hfd := getS_find hi n
  rw [hnow] at hfd
  dsimp only at hfd
  obtain ⟨A1, k1, es1, hnv, hnv2⟩ := hnG.form
  have hes : es1.length = G.length := by
    obtain ⟨_, _, _, _, he⟩ := hnv2
    rw [← he, List.length_map]
  rw [hes] at hnv
  subst hnv
  have ho2 : RdO M rb (cntD d) [(rb, .cells [.int .i64 d.room, sv, .slice A1 G.length k1, wv, .bool fused, .int .i64 fuse, .bool false].toArray 103 (0, 0))] := by
    have h := ho1
    rw [hdn, cntD_room] at h
    exact h
  have husedQ : ∀ M' Hx', M.le M' → K Try.prog 70 [.pointer (some ⟨rb, 0, none⟩)] M' ([(rb, .cells [.int .i64 d.room, sv, .slice A1 G.length k1, wv, .bool fused, .int .i64 fuse, .bool false].toArray 103 (0, 0))] ++ Hx') (fun u M2 H2 => u = .int .i64 (sumF d.now : Nat) ∧ M2 = M' ∧ H2 = [(rb, .cells [.int .i64 d.room, sv, .slice A1 G.length k1, wv, .bool fused, .int .i64 fuse, .bool false].toArray 103 (0, 0))] ++ Hx') := by
    intro M' Hx' hM
    have h := rused_KD (H := Hx') (ho2.mono hM)
    rw [hdn, hnow] at h
    exact h
  have hfindQ : ∀ M' Hx', M.le M' → K Try.prog 86 [.slice A1 G.length k1, str n] M' ([(rb, .cells [.int .i64 d.room, sv, .slice A1 G.length k1, wv, .bool fused, .int .i64 fuse, .bool false].toArray 103 (0, 0))] ++ Hx') (fun u M2 H2 => u = .int .i64 (findI G n 0) ∧ M2 = M' ∧ H2 = [(rb, .cells [.int .i64 d.room, sv, .slice A1 G.length k1, wv, .bool fused, .int .i64 fuse, .bool false].toArray 103 (0, 0))] ++ Hx') := by
    intro M' Hx' hM
    exact rfind_K (hnG.mono hM) (by omega)
  unfold rdkB
  rw [hdn, cntD_room]
  by_cases hA : d.room < (b.length : Int)
  · have hE : appE d n b = 2 := (if_neg hs).trans ((if_neg hnm').trans (if_pos (.inl (by omega))))
    rw [hE, opD_no (by decide)] at hQ
    (repeat' (first | refine a_go ?_ | (with_reducible apply Fin.thenK; assumption) | (with_reducible (first | apply C.seqK | apply C.regionK); intro _ _) | (apply R.buildSlice0; exact rfl; intro bz) | (apply R.box; exact rfl; (simp only [Value.cells]; rfl); exact rfl; intro bx) | (apply R.alloc; (simp only [Value.cells]; rfl); exact rfl; intro ba) | (apply R.buildSlice; (exact a_prt); exact rfl; exact rfl; (exact a_fills); exact rfl; intro bl) | (refine a_sp ?_ ?_; (intro h; skip; rotate_left; intro h; skip; rotate_left)) | fail))
    (apply C.regionT (t := .free 0 (.free 1 (.free 2 (.free 3 (.free 4 (.free 5 (.free 6 (.free 7 (.free 8 (.free 9 (.free 10 (.free 11 (.free 12 (.free 13 (.free 14 (.free 15 (.free 16 (.free 17 (.free 18 (.free 19 (.free 20 (.free 21 (.free 22 (.free 23 (.free 24 (.free 25 (.free 26 (.free 27 (.free 28 (.free 29 (.free 30 (.free 31 (.free 32 (.free 33 (.free 34 (.free 35 .nil)))))))))))))))))))))))))))))))))))) (Hs := [(rb, .cells [.int .i64 d.room, sv, .slice A1 G.length k1, wv, .bool fused, .int .i64 fuse, .bool false].toArray 103 (0, 0))]); exact Mix.h; (first | exact Arr.all _ | (exact a_arr) | ((try simp only [List.append_assoc, List.cons_append, List.nil_append, List.append_nil]); exact a_arr)); (exact a_np); kernel_rfl)
    (repeat' (first | (apply RT.step; exact rfl; intro _ _ _; (apply Ok.move; exact rfl); exact rfl) | (apply RT.callQT; exact rfl; exact inferInstance; exact rfl; exact rfl; exact rfl; (exact a_evs); exact rfl; (first | exact husedQ | exact hfindQ)) | ((first | (apply RT.step; exact rfl; intro _ _ _) | (apply RT.stepT; exact rfl; exact rfl; exact rfl; exact rfl; intro _ _ _)); (first | (apply Ok.ltTr; exact rfl; exact rfl; omega) | (apply Ok.ltF; exact rfl; exact rfl; omega) | (apply Ok.gtTr; exact rfl; exact rfl; omega) | (apply Ok.gtF; exact rfl; exact rfl; omega) | (apply Ok.geTr; exact rfl; exact rfl; omega) | (apply Ok.geF; exact rfl; exact rfl; omega) | (apply Ok.leTr; exact rfl; exact rfl; omega) | (apply Ok.leF; exact rfl; exact rfl; omega) | (apply Ok.neIT; exact rfl; exact rfl; omega) | (apply Ok.eqIF; exact rfl; exact rfl; omega)); exact rfl) | (first | (apply RT.step; exact rfl; intro _ _ _; (exact a_ok); exact rfl) | (apply RT.stepT; exact rfl; exact rfl; exact rfl; exact rfl; intro _ _ _; (exact a_ok); exact rfl) | (apply RT.stepF; exact rfl; exact rfl; exact rfl; exact rfl; exact rfl; exact rfl) | (apply RT.stepU; exact rfl; exact rfl; exact rfl; exact rfl; exact rfl) | (apply RT.one; apply OneT.effF; exact rfl; exact rfl; exact rfl; exact rfl; exact rfl; exact rfl) | (apply RT.one; apply OneT.effU; exact rfl; exact rfl; exact rfl; exact rfl; exact rfl))))
    apply RT.nil
    (repeat' (first | refine a_go ?_ | (with_reducible apply Fin.thenK; assumption) | (with_reducible (first | apply C.seqK | apply C.regionK); intro _ _) | (apply R.buildSlice0; exact rfl; intro bz) | (apply R.box; exact rfl; (simp only [Value.cells]; rfl); exact rfl; intro bx) | (apply R.alloc; (simp only [Value.cells]; rfl); exact rfl; intro ba) | (apply R.buildSlice; (exact a_prt); exact rfl; exact rfl; (exact a_fills); exact rfl; intro bl) | (refine a_sp ?_ ?_; (intro h; skip; rotate_left; intro h; skip; rotate_left)) | fail))
    (apply Fin.returnA (H2 := [(rb, .cells [.int .i64 d.room, sv, .slice A1 G.length k1, wv, .bool fused, .int .i64 fuse, .bool false].toArray 103 (0, 0))] ++ H); assumption; (first | exact .inl rfl | exact .inr rfl); exact rfl; (exact a_res); (simp only [retv]; rfl); (exact a_arr))
    exact ⟨rfl, Mem.le_refl _, _, ho2, rfl⟩
  by_cases hB : d.room < (sumF d.now + b.length : Nat)
  · have hB' : d.room - (b.length : Int) < (sumF d.now : Int) := by omega
    have hE : appE d n b = 2 := (if_neg hs).trans ((if_neg hnm').trans (if_pos (.inl hB)))
    rw [hE, opD_no (by decide)] at hQ
    (repeat' (first | refine a_go ?_ | (with_reducible apply Fin.thenK; assumption) | (with_reducible (first | apply C.seqK | apply C.regionK); intro _ _) | (apply R.buildSlice0; exact rfl; intro bz) | (apply R.box; exact rfl; (simp only [Value.cells]; rfl); exact rfl; intro bx) | (apply R.alloc; (simp only [Value.cells]; rfl); exact rfl; intro ba) | (apply R.buildSlice; (exact a_prt); exact rfl; exact rfl; (exact a_fills); exact rfl; intro bl) | (refine a_sp ?_ ?_; (intro h; skip; rotate_left; intro h; skip; rotate_left)) | fail))
    (apply C.regionT (t := .free 0 (.free 1 (.free 2 (.free 3 (.free 4 (.free 5 (.free 6 (.free 7 (.free 8 (.free 9 (.free 10 (.free 11 (.free 12 (.free 13 (.free 14 (.free 15 (.free 16 (.free 17 (.free 18 (.free 19 (.free 20 (.free 21 (.free 22 (.free 23 (.free 24 (.free 25 (.free 26 (.free 27 (.free 28 (.free 29 (.free 30 (.free 31 (.free 32 (.free 33 (.free 34 (.free 35 .nil)))))))))))))))))))))))))))))))))))) (Hs := [(rb, .cells [.int .i64 d.room, sv, .slice A1 G.length k1, wv, .bool fused, .int .i64 fuse, .bool false].toArray 103 (0, 0))]); exact Mix.h; (first | exact Arr.all _ | (exact a_arr) | ((try simp only [List.append_assoc, List.cons_append, List.nil_append, List.append_nil]); exact a_arr)); (exact a_np); kernel_rfl)
    (repeat' (first | (apply RT.step; exact rfl; intro _ _ _; (apply Ok.move; exact rfl); exact rfl) | (apply RT.callQT; exact rfl; exact inferInstance; exact rfl; exact rfl; exact rfl; (exact a_evs); exact rfl; (first | exact husedQ | exact hfindQ)) | ((first | (apply RT.step; exact rfl; intro _ _ _) | (apply RT.stepT; exact rfl; exact rfl; exact rfl; exact rfl; intro _ _ _)); (first | (apply Ok.ltTr; exact rfl; exact rfl; omega) | (apply Ok.ltF; exact rfl; exact rfl; omega) | (apply Ok.gtTr; exact rfl; exact rfl; omega) | (apply Ok.gtF; exact rfl; exact rfl; omega) | (apply Ok.geTr; exact rfl; exact rfl; omega) | (apply Ok.geF; exact rfl; exact rfl; omega) | (apply Ok.leTr; exact rfl; exact rfl; omega) | (apply Ok.leF; exact rfl; exact rfl; omega) | (apply Ok.neIT; exact rfl; exact rfl; omega) | (apply Ok.eqIF; exact rfl; exact rfl; omega)); exact rfl) | (first | (apply RT.step; exact rfl; intro _ _ _; (exact a_ok); exact rfl) | (apply RT.stepT; exact rfl; exact rfl; exact rfl; exact rfl; intro _ _ _; (exact a_ok); exact rfl) | (apply RT.stepF; exact rfl; exact rfl; exact rfl; exact rfl; exact rfl; exact rfl) | (apply RT.stepU; exact rfl; exact rfl; exact rfl; exact rfl; exact rfl) | (apply RT.one; apply OneT.effF; exact rfl; exact rfl; exact rfl; exact rfl; exact rfl; exact rfl) | (apply RT.one; apply OneT.effU; exact rfl; exact rfl; exact rfl; exact rfl; exact rfl))))
    apply RT.nil
    (repeat' (first | refine a_go ?_ | (with_reducible apply Fin.thenK; assumption) | (with_reducible (first | apply C.seqK | apply C.regionK); intro _ _) | (apply R.buildSlice0; exact rfl; intro bz) | (apply R.box; exact rfl; (simp only [Value.cells]; rfl); exact rfl; intro bx) | (apply R.alloc; (simp only [Value.cells]; rfl); exact rfl; intro ba) | (apply R.buildSlice; (exact a_prt); exact rfl; exact rfl; (exact a_fills); exact rfl; intro bl) | (refine a_sp ?_ ?_; (intro h; skip; rotate_left; intro h; skip; rotate_left)) | fail))
    (apply Fin.returnA (H2 := [(rb, .cells [.int .i64 d.room, sv, .slice A1 G.length k1, wv, .bool fused, .int .i64 fuse, .bool false].toArray 103 (0, 0))] ++ H); assumption; (first | exact .inl rfl | exact .inr rfl); exact rfl; (exact a_res); (simp only [retv]; rfl); (exact a_arr))
    exact ⟨rfl, Mem.le_refl _, _, ho2, rfl⟩
  have hB' : ¬ d.room - (b.length : Int) < (sumF d.now : Int) := by omega
  have hsb : sumF d.now + b.length ≤ 1048576 := by omega
  rcases hfd with ⟨f1, f2⟩ | ⟨f1, _, _, _, _, f2⟩
  · by_cases hC : 64 ≤ d.now.length
    · have hE : appE d n b = 2 := (if_neg hs).trans ((if_neg hnm').trans (if_pos (.inr ⟨f2, hC⟩)))
      rw [hE, opD_no (by decide)] at hQ
      (repeat' (first | refine a_go ?_ | (with_reducible apply Fin.thenK; assumption) | (with_reducible (first | apply C.seqK | apply C.regionK); intro _ _) | (apply R.buildSlice0; exact rfl; intro bz) | (apply R.box; exact rfl; (simp only [Value.cells]; rfl); exact rfl; intro bx) | (apply R.alloc; (simp only [Value.cells]; rfl); exact rfl; intro ba) | (apply R.buildSlice; (exact a_prt); exact rfl; exact rfl; (exact a_fills); exact rfl; intro bl) | (refine a_sp ?_ ?_; (intro h; skip; rotate_left; intro h; skip; rotate_left)) | fail))
      (apply C.regionT (t := .free 0 (.free 1 (.free 2 (.free 3 (.free 4 (.free 5 (.free 6 (.free 7 (.free 8 (.free 9 (.free 10 (.free 11 (.free 12 (.free 13 (.free 14 (.free 15 (.free 16 (.free 17 (.free 18 (.free 19 (.free 20 (.free 21 (.free 22 (.free 23 (.free 24 (.free 25 (.free 26 (.free 27 (.free 28 (.free 29 (.free 30 (.free 31 (.free 32 (.free 33 (.free 34 (.free 35 .nil)))))))))))))))))))))))))))))))))))) (Hs := [(rb, .cells [.int .i64 d.room, sv, .slice A1 G.length k1, wv, .bool fused, .int .i64 fuse, .bool false].toArray 103 (0, 0))]); exact Mix.h; (first | exact Arr.all _ | (exact a_arr) | ((try simp only [List.append_assoc, List.cons_append, List.nil_append, List.append_nil]); exact a_arr)); (exact a_np); kernel_rfl)
      (repeat' (first | (apply RT.step; exact rfl; intro _ _ _; (apply Ok.move; exact rfl); exact rfl) | (apply RT.callQT; exact rfl; exact inferInstance; exact rfl; exact rfl; exact rfl; (exact a_evs); exact rfl; (first | exact husedQ | exact hfindQ)) | ((first | (apply RT.step; exact rfl; intro _ _ _) | (apply RT.stepT; exact rfl; exact rfl; exact rfl; exact rfl; intro _ _ _)); (first | (apply Ok.ltTr; exact rfl; exact rfl; omega) | (apply Ok.ltF; exact rfl; exact rfl; omega) | (apply Ok.gtTr; exact rfl; exact rfl; omega) | (apply Ok.gtF; exact rfl; exact rfl; omega) | (apply Ok.geTr; exact rfl; exact rfl; omega) | (apply Ok.geF; exact rfl; exact rfl; omega) | (apply Ok.leTr; exact rfl; exact rfl; omega) | (apply Ok.leF; exact rfl; exact rfl; omega) | (apply Ok.neIT; exact rfl; exact rfl; omega) | (apply Ok.eqIF; exact rfl; exact rfl; omega)); exact rfl) | (first | (apply RT.step; exact rfl; intro _ _ _; (exact a_ok); exact rfl) | (apply RT.stepT; exact rfl; exact rfl; exact rfl; exact rfl; intro _ _ _; (exact a_ok); exact rfl) | (apply RT.stepF; exact rfl; exact rfl; exact rfl; exact rfl; exact rfl; exact rfl) | (apply RT.stepU; exact rfl; exact rfl; exact rfl; exact rfl; exact rfl) | (apply RT.one; apply OneT.effF; exact rfl; exact rfl; exact rfl; exact rfl; exact rfl; exact rfl) | (apply RT.one; apply OneT.effU; exact rfl; exact rfl; exact rfl; exact rfl; exact rfl))))
      apply RT.nil
      (repeat' (first | refine a_go ?_ | (with_reducible apply Fin.thenK; assumption) | (with_reducible (first | apply C.seqK | apply C.regionK); intro _ _) | (apply R.buildSlice0; exact rfl; intro bz) | (apply R.box; exact rfl; (simp only [Value.cells]; rfl); exact rfl; intro bx) | (apply R.alloc; (simp only [Value.cells]; rfl); exact rfl; intro ba) | (apply R.buildSlice; (exact a_prt); exact rfl; exact rfl; (exact a_fills); exact rfl; intro bl) | (refine a_sp ?_ ?_; (intro h; skip; rotate_left; intro h; skip; rotate_left)) | fail))
      (apply Fin.returnA (H2 := [(rb, .cells [.int .i64 d.room, sv, .slice A1 G.length k1, wv, .bool fused, .int .i64 fuse, .bool false].toArray 103 (0, 0))] ++ H); assumption; (first | exact .inl rfl | exact .inr rfl); exact rfl; (exact a_res); (simp only [retv]; rfl); (exact a_arr))
      exact ⟨rfl, Mem.le_refl _, _, ho2, rfl⟩
    have hE : appE d n b = 0 := (if_neg hs).trans ((if_neg hnm').trans (if_neg (fun h => by
      rcases h with h | h
      · exact hB h
      · exact hC h.2)))
    rw [hE] at hQ
    (repeat' (first | refine a_go ?_ | (with_reducible apply Fin.thenK; assumption) | (with_reducible (first | apply C.seqK | apply C.regionK); intro _ _) | (apply R.buildSlice0; exact rfl; intro bz) | (apply R.box; exact rfl; (simp only [Value.cells]; rfl); exact rfl; intro bx) | (apply R.alloc; (simp only [Value.cells]; rfl); exact rfl; intro ba) | (apply R.buildSlice; (exact a_prt); exact rfl; exact rfl; (exact a_fills); exact rfl; intro bl) | (refine a_sp ?_ ?_; (intro h; skip; rotate_left; intro h; skip; rotate_left)) | fail))
    (apply C.regionT (t := .free 0 (.free 1 (.free 2 (.free 3 (.free 4 (.free 5 (.free 6 (.free 7 (.free 8 (.free 9 (.free 10 (.free 11 (.free 12 (.free 13 (.free 14 (.free 15 (.free 16 (.free 17 (.free 18 (.free 19 (.free 20 (.free 21 (.free 22 (.free 23 (.free 24 (.free 25 (.free 26 (.free 27 (.free 28 (.free 29 (.free 30 (.free 31 (.free 32 (.free 33 (.free 34 (.free 35 .nil)))))))))))))))))))))))))))))))))))) (Hs := [(rb, .cells [.int .i64 d.room, sv, .slice A1 G.length k1, wv, .bool fused, .int .i64 fuse, .bool false].toArray 103 (0, 0))]); exact Mix.h; (first | exact Arr.all _ | (exact a_arr) | ((try simp only [List.append_assoc, List.cons_append, List.nil_append, List.append_nil]); exact a_arr)); (exact a_np); kernel_rfl)
    (repeat' (first | (apply RT.step; exact rfl; intro _ _ _; (apply Ok.move; exact rfl); exact rfl) | (apply RT.callQT; exact rfl; exact inferInstance; exact rfl; exact rfl; exact rfl; (exact a_evs); exact rfl; (first | exact husedQ | exact hfindQ)) | ((first | (apply RT.step; exact rfl; intro _ _ _) | (apply RT.stepT; exact rfl; exact rfl; exact rfl; exact rfl; intro _ _ _)); (first | (apply Ok.ltTr; exact rfl; exact rfl; omega) | (apply Ok.ltF; exact rfl; exact rfl; omega) | (apply Ok.gtTr; exact rfl; exact rfl; omega) | (apply Ok.gtF; exact rfl; exact rfl; omega) | (apply Ok.geTr; exact rfl; exact rfl; omega) | (apply Ok.geF; exact rfl; exact rfl; omega) | (apply Ok.leTr; exact rfl; exact rfl; omega) | (apply Ok.leF; exact rfl; exact rfl; omega) | (apply Ok.neIT; exact rfl; exact rfl; omega) | (apply Ok.eqIF; exact rfl; exact rfl; omega)); exact rfl) | (first | (apply RT.step; exact rfl; intro _ _ _; (exact a_ok); exact rfl) | (apply RT.stepT; exact rfl; exact rfl; exact rfl; exact rfl; intro _ _ _; (exact a_ok); exact rfl) | (apply RT.stepF; exact rfl; exact rfl; exact rfl; exact rfl; exact rfl; exact rfl) | (apply RT.stepU; exact rfl; exact rfl; exact rfl; exact rfl; exact rfl) | (apply RT.one; apply OneT.effF; exact rfl; exact rfl; exact rfl; exact rfl; exact rfl; exact rfl) | (apply RT.one; apply OneT.effU; exact rfl; exact rfl; exact rfl; exact rfl; exact rfl))))
    apply RT.nil
    (repeat' (first | refine a_go ?_ | (with_reducible apply Fin.thenK; assumption) | (with_reducible (first | apply C.seqK | apply C.regionK); intro _ _) | (apply R.buildSlice0; exact rfl; intro bz) | (apply R.box; exact rfl; (simp only [Value.cells]; rfl); exact rfl; intro bx) | (apply R.alloc; (simp only [Value.cells]; rfl); exact rfl; intro ba) | (apply R.buildSlice; (exact a_prt); exact rfl; exact rfl; (exact a_fills); exact rfl; intro bl) | (refine a_sp ?_ ?_; (intro h; skip; rotate_left; intro h; skip; rotate_left)) | fail))
    (apply R.append (news := b.map bv) (k := b.length); exact rfl; exact rfl; exact Own.empty; (exact a_tk); exact Pl.rd hb3; (rw [List.length_map, Nat.mul_one]); exact bv_one _; omega; exact rfl; decide; decide; exact rfl; rintro v4 hp4 hown4)
    rw [List.nil_append, Nat.zero_add] at hown4
    (apply R.ice (hp := hp4) (H1 := [(rb, .cells [.int .i64 d.room, sv, .slice A1 G.length k1, wv, .bool fused, .int .i64 fuse, .bool false].toArray 103 (0, 0))] ++ H) (by ((try simp only [List.append_assoc, List.cons_append, List.nil_append, List.append_nil]); exact a_arr)); intro M2 hM2 hin)
    have hb4 := hown4.plB hin
    obtain ⟨A4, c4, rfl, _, _⟩ := hown4.form
    (repeat' (first | refine a_go ?_ | (with_reducible apply Fin.thenK; assumption) | (with_reducible (first | apply C.seqK | apply C.regionK); intro _ _) | (apply R.buildSlice0; exact rfl; intro bz) | (apply R.box; exact rfl; (simp only [Value.cells]; rfl); exact rfl; intro bx) | (apply R.alloc; (simp only [Value.cells]; rfl); exact rfl; intro ba) | (apply R.buildSlice; (exact a_prt); exact rfl; exact rfl; (exact a_fills); exact rfl; intro bl) | (refine a_sp ?_ ?_; (intro h; skip; rotate_left; intro h; skip; rotate_left)) | fail))
    have hfit := app_fit (b := b) (n := n) hnn (by omega)
    (apply R.call; (exact a_evs); exact rfl; exact rdoes_KC (ho2.mono hM2) hok hl hlen (show DeC M2 (.app n b) _ from ⟨_, rfl, hb4⟩) hfit; rintro _ M3 _ ⟨rfl, hM3, hp3, ho3, rfl⟩)
    (repeat' (first | refine a_go ?_ | (with_reducible apply Fin.thenK; assumption) | (with_reducible (first | apply C.seqK | apply C.regionK); intro _ _) | (apply R.buildSlice0; exact rfl; intro bz) | (apply R.box; exact rfl; (simp only [Value.cells]; rfl); exact rfl; intro bx) | (apply R.alloc; (simp only [Value.cells]; rfl); exact rfl; intro ba) | (apply R.buildSlice; (exact a_prt); exact rfl; exact rfl; (exact a_fills); exact rfl; intro bl) | (refine a_sp ?_ ?_; (intro h; skip; rotate_left; intro h; skip; rotate_left)) | fail))
    (apply Fin.returnA (H2 := hp3 ++ H); assumption; (first | exact .inl rfl | exact .inr rfl); exact rfl; (exact a_res); (simp only [retv]; rfl); (exact a_arr))
    exact ⟨rfl, hM2.trans_ hM3, hp3, ho3, rfl⟩
  · have hE : appE d n b = 0 := (if_neg hs).trans ((if_neg hnm').trans (if_neg (fun h => by
      rcases h with h | h
      · exact hB h
      · rw [f2] at h; cases h.1)))
    rw [hE] at hQ
    (repeat' (first | refine a_go ?_ | (with_reducible apply Fin.thenK; assumption) | (with_reducible (first | apply C.seqK | apply C.regionK); intro _ _) | (apply R.buildSlice0; exact rfl; intro bz) | (apply R.box; exact rfl; (simp only [Value.cells]; rfl); exact rfl; intro bx) | (apply R.alloc; (simp only [Value.cells]; rfl); exact rfl; intro ba) | (apply R.buildSlice; (exact a_prt); exact rfl; exact rfl; (exact a_fills); exact rfl; intro bl) | (refine a_sp ?_ ?_; (intro h; skip; rotate_left; intro h; skip; rotate_left)) | fail))
    (apply C.regionT (t := .free 0 (.free 1 (.free 2 (.free 3 (.free 4 (.free 5 (.free 6 (.free 7 (.free 8 (.free 9 (.free 10 (.free 11 (.free 12 (.free 13 (.free 14 (.free 15 (.free 16 (.free 17 (.free 18 (.free 19 (.free 20 (.free 21 (.free 22 (.free 23 (.free 24 (.free 25 (.free 26 (.free 27 (.free 28 (.free 29 (.free 30 (.free 31 (.free 32 (.free 33 (.free 34 (.free 35 .nil)))))))))))))))))))))))))))))))))))) (Hs := [(rb, .cells [.int .i64 d.room, sv, .slice A1 G.length k1, wv, .bool fused, .int .i64 fuse, .bool false].toArray 103 (0, 0))]); exact Mix.h; (first | exact Arr.all _ | (exact a_arr) | ((try simp only [List.append_assoc, List.cons_append, List.nil_append, List.append_nil]); exact a_arr)); (exact a_np); kernel_rfl)
    (repeat' (first | (apply RT.step; exact rfl; intro _ _ _; (apply Ok.move; exact rfl); exact rfl) | (apply RT.callQT; exact rfl; exact inferInstance; exact rfl; exact rfl; exact rfl; (exact a_evs); exact rfl; (first | exact husedQ | exact hfindQ)) | ((first | (apply RT.step; exact rfl; intro _ _ _) | (apply RT.stepT; exact rfl; exact rfl; exact rfl; exact rfl; intro _ _ _)); (first | (apply Ok.ltTr; exact rfl; exact rfl; omega) | (apply Ok.ltF; exact rfl; exact rfl; omega) | (apply Ok.gtTr; exact rfl; exact rfl; omega) | (apply Ok.gtF; exact rfl; exact rfl; omega) | (apply Ok.geTr; exact rfl; exact rfl; omega) | (apply Ok.geF; exact rfl; exact rfl; omega) | (apply Ok.leTr; exact rfl; exact rfl; omega) | (apply Ok.leF; exact rfl; exact rfl; omega) | (apply Ok.neIT; exact rfl; exact rfl; omega) | (apply Ok.eqIF; exact rfl; exact rfl; omega)); exact rfl) | (first | (apply RT.step; exact rfl; intro _ _ _; (exact a_ok); exact rfl) | (apply RT.stepT; exact rfl; exact rfl; exact rfl; exact rfl; intro _ _ _; (exact a_ok); exact rfl) | (apply RT.stepF; exact rfl; exact rfl; exact rfl; exact rfl; exact rfl; exact rfl) | (apply RT.stepU; exact rfl; exact rfl; exact rfl; exact rfl; exact rfl) | (apply RT.one; apply OneT.effF; exact rfl; exact rfl; exact rfl; exact rfl; exact rfl; exact rfl) | (apply RT.one; apply OneT.effU; exact rfl; exact rfl; exact rfl; exact rfl; exact rfl))))
    apply RT.nil
    (repeat' (first | refine a_go ?_ | (with_reducible apply Fin.thenK; assumption) | (with_reducible (first | apply C.seqK | apply C.regionK); intro _ _) | (apply R.buildSlice0; exact rfl; intro bz) | (apply R.box; exact rfl; (simp only [Value.cells]; rfl); exact rfl; intro bx) | (apply R.alloc; (simp only [Value.cells]; rfl); exact rfl; intro ba) | (apply R.buildSlice; (exact a_prt); exact rfl; exact rfl; (exact a_fills); exact rfl; intro bl) | (refine a_sp ?_ ?_; (intro h; skip; rotate_left; intro h; skip; rotate_left)) | fail))
    (apply R.append (news := b.map bv) (k := b.length); exact rfl; exact rfl; exact Own.empty; (exact a_tk); exact Pl.rd hb3; (rw [List.length_map, Nat.mul_one]); exact bv_one _; omega; exact rfl; decide; decide; exact rfl; rintro v4 hp4 hown4)
    rw [List.nil_append, Nat.zero_add] at hown4
    (apply R.ice (hp := hp4) (H1 := [(rb, .cells [.int .i64 d.room, sv, .slice A1 G.length k1, wv, .bool fused, .int .i64 fuse, .bool false].toArray 103 (0, 0))] ++ H) (by ((try simp only [List.append_assoc, List.cons_append, List.nil_append, List.append_nil]); exact a_arr)); intro M2 hM2 hin)
    have hb4 := hown4.plB hin
    obtain ⟨A4, c4, rfl, _, _⟩ := hown4.form
    (repeat' (first | refine a_go ?_ | (with_reducible apply Fin.thenK; assumption) | (with_reducible (first | apply C.seqK | apply C.regionK); intro _ _) | (apply R.buildSlice0; exact rfl; intro bz) | (apply R.box; exact rfl; (simp only [Value.cells]; rfl); exact rfl; intro bx) | (apply R.alloc; (simp only [Value.cells]; rfl); exact rfl; intro ba) | (apply R.buildSlice; (exact a_prt); exact rfl; exact rfl; (exact a_fills); exact rfl; intro bl) | (refine a_sp ?_ ?_; (intro h; skip; rotate_left; intro h; skip; rotate_left)) | fail))
    have hfit := app_fit (b := b) (n := n) hnn (by omega)
    (apply R.call; (exact a_evs); exact rfl; exact rdoes_KC (ho2.mono hM2) hok hl hlen (show DeC M2 (.app n b) _ from ⟨_, rfl, hb4⟩) hfit; rintro _ M3 _ ⟨rfl, hM3, hp3, ho3, rfl⟩)
    (repeat' (first | refine a_go ?_ | (with_reducible apply Fin.thenK; assumption) | (with_reducible (first | apply C.seqK | apply C.regionK); intro _ _) | (apply R.buildSlice0; exact rfl; intro bz) | (apply R.box; exact rfl; (simp only [Value.cells]; rfl); exact rfl; intro bx) | (apply R.alloc; (simp only [Value.cells]; rfl); exact rfl; intro ba) | (apply R.buildSlice; (exact a_prt); exact rfl; exact rfl; (exact a_fills); exact rfl; intro bl) | (refine a_sp ?_ ?_; (intro h; skip; rotate_left; intro h; skip; rotate_left)) | fail))
    (apply Fin.returnA (H2 := hp3 ++ H); assumption; (first | exact .inl rfl | exact .inr rfl); exact rfl; (exact a_res); (simp only [retv]; rfl); (exact a_arr))
    exact ⟨rfl, hM2.trans_ hM3, hp3, ho3, rfl⟩
end Go.Sx
end
section
namespace Go.Sx
open Go Go.Proofs Go.RowKit
attribute [local irreducible] C R Fin K Own OwnT Rd Pl Ok KOf RetOk OpsOf RP KP Res NoPanic KV KE MapS ItS EntS FsO FsR RowD PlD DkO PlFs RT KT OneT RdO
variable {M M' : Mem} {H H1 H2 : Hp}
theorem RdO.of {rb : Nat} {d : Dk} {x : RdX} (h : RdI M d x) : RdO M rb d [(rb, rdkB d.room x.sv x.nv x.wv x.fused x.fuse d.down)] := by
  unfold RdO
  exact ⟨x, h, rfl⟩
theorem rnew_ok {room : Int} (h0 : 0 ≤ room) (h1 : room ≤ 1048576) : RdI M (newD room) ⟨[], [], .slice none 0 0, .slice none 0 0, .slice none 0 0, false, 0⟩ :=
  ⟨⟨⟨h0, h1⟩, ⟨Int.le_refl _, show (-1 : Int) ≤ 4611686018427387904 by decide⟩, Nat.zero_le _, trivial⟩, PlFs.nil, PlFs.nil, List.Perm.refl _, List.Perm.refl _, List.Pairwise.nil, List.Pairwise.nil, PlW.nil, rfl, fun h => by cases h⟩
theorem rsync_K {rb : Nat} {d : Dk} {hp : Hp} (ho : RdO M rb d hp) : K Try.prog 35 [.pointer (some ⟨rb, 0, none⟩)] M (hp ++ H) fun v' M' H' => v' = .int .i64 (synE d) ∧ M' = M ∧ ∃ hp', RdO M rb (synD d) hp' ∧ H' = hp' ++ H := by
  refine K.enterK Try.func35 rfl rfl rfl ?_
  intro Q hNP hQ
  have hok := ho.isok
  (repeat' (first | refine a_go ?_ | (with_reducible apply Fin.thenK; assumption) | (with_reducible (first | apply C.seqK | apply C.regionK); intro _ _) | (apply R.buildSlice0; exact rfl; intro bz) | (apply R.box; exact rfl; (simp only [Value.cells]; rfl); exact rfl; intro bx) | (apply R.alloc; (simp only [Value.cells]; rfl); exact rfl; intro ba) | (apply R.buildSlice; (exact a_prt); exact rfl; exact rfl; (exact a_fills); exact rfl; intro bl) | (refine a_sp ?_ ?_; (intro h; skip; rotate_left; intro h; skip; rotate_left)) | fail))
  (apply R.call; (exact a_evs); exact rfl; exact rcounts_KD ho; rintro _ M _ ⟨rfl, rfl, hp1, ho1, rfl, hdn⟩)
  by_cases hs : stopD d
  · have hE : synE d = 3 := if_pos hs
    have hD : synD d = cntD d := if_pos hs
    rw [hE, hD] at hQ
    rw [if_pos hs]
    (repeat' (first | refine a_go ?_ | (with_reducible apply Fin.thenK; assumption) | (with_reducible (first | apply C.seqK | apply C.regionK); intro _ _) | (apply R.buildSlice0; exact rfl; intro bz) | (apply R.box; exact rfl; (simp only [Value.cells]; rfl); exact rfl; intro bx) | (apply R.alloc; (simp only [Value.cells]; rfl); exact rfl; intro ba) | (apply R.buildSlice; (exact a_prt); exact rfl; exact rfl; (exact a_fills); exact rfl; intro bl) | (refine a_sp ?_ ?_; (intro h; skip; rotate_left; intro h; skip; rotate_left)) | fail))
    (apply Fin.returnA (H2 := hp1 ++ H); assumption; (first | exact .inl rfl | exact .inr rfl); exact rfl; (exact a_res); (simp only [retv]; rfl); (exact a_arr))
    exact ⟨rfl, rfl, hp1, ho1, rfl⟩
  rw [if_neg hs]
  have hE : synE d = 0 := if_neg hs
  have hD : synD d = { cntD d with S := d.now, ps := [] } := if_neg hs
  rw [hE, hD] at hQ
  unfold RdO at ho1
  obtain ⟨⟨F, G, sv, nv, wv, fused, fuse⟩, hi, rfl⟩ := ho1
  have hnG := hi.nG
  have hpN := hi.pN
  rw [cntD_now] at hpN
  dsimp only at hnG hpN ⊢
  obtain ⟨A1, k1, es1, hnv, hnv2⟩ := hnG.form
  subst hnv
  unfold rdkB
  (repeat' (first | refine a_go ?_ | (with_reducible apply Fin.thenK; assumption) | (with_reducible (first | apply C.seqK | apply C.regionK); intro _ _) | (apply R.buildSlice0; exact rfl; intro bz) | (apply R.box; exact rfl; (simp only [Value.cells]; rfl); exact rfl; intro bx) | (apply R.alloc; (simp only [Value.cells]; rfl); exact rfl; intro ba) | (apply R.buildSlice; (exact a_prt); exact rfl; exact rfl; (exact a_fills); exact rfl; intro bl) | (refine a_sp ?_ ?_; (intro h; skip; rotate_left; intro h; skip; rotate_left)) | fail))
  (apply Fin.returnA (H2 := [(rb, rdkB (cntD d).room (.slice A1 es1.length k1) (.slice A1 es1.length k1) (.slice none 0 0) fused fuse (cntD d).down)] ++ H); assumption; (first | exact .inl rfl | exact .inr rfl); exact rfl; (exact a_res); (simp only [retv]; rfl); (exact a_arr))
  refine ⟨rfl, rfl, _, RdO.of (x := ⟨G, G, .slice A1 es1.length k1, .slice A1 es1.length k1, .slice none 0 0, fused, fuse⟩) ⟨⟨hi.ok.1, hi.ok.2.1, hok.sum, trivial⟩, hnG, hnG, hpN, hpN, hi.srtG, hi.srtG, PlW.nil, hi.fu, hi.fu0⟩, rfl⟩
theorem PlW.at {A : Option Addr} {cap : Nat} {ps : List De} (h : PlW M (.slice A ps.length cap) ps) {i : Nat} (hi : i < ps.length) : ∃ b o c e fr d, A = some ⟨b, o, none⟩ ∧ M.at_ b = some (.cells c e fr) ∧ DeC M ps[i] d ∧ ∀ (q : Nat) u, d[q]? = some u → c[o + i * 5 + q]? = some u := by
  obtain ⟨A', cap', h1, h2, h3, h4⟩ := h
  cases h1
  exact h4.at hi
def szD (d : Dk) : Nat := d.S.length + d.ps.length
theorem putS_length {α : Type} (l : List (Txt × α)) (n : Txt) (v : α) : (putS l n v).length ≤ l.length + 1 := by
  unfold putS
  split
  · rw [List.length_map]; omega
  · rw [List.length_append]; exact Nat.le_refl _
theorem doF_length (F : Fs) (x : De) : (doF F x).length ≤ F.length + 1 := by
  cases x with
  | app n b => exact putS_length _ _ _
  | trc n k => exact putS_length _ _ _
  | ren n t => exact Nat.le_trans (putS_length _ _ _) (Nat.succ_le_succ (List.length_filter_le _ _))
  | rem n => exact Nat.le_trans (List.length_filter_le _ _) (Nat.le_succ _)
theorem fold_length : ∀ (ps : List De) (F : Fs), (ps.foldl doF F).length ≤ F.length + ps.length
  | [], _ => Nat.le_refl _
  | x :: ps, F => by
    have h1 := fold_length ps (doF F x)
    have h2 := doF_length F x
    rw [List.foldl_cons, List.length_cons]
    omega
theorem now_sz (d : Dk) : d.now.length ≤ szD d := fold_length _ _
end Go.Sx
end
section
namespace Go.Sx
open Go Go.Proofs Go.RowKit
attribute [local irreducible] C R Fin K Own OwnT Rd Pl Ok KOf RetOk OpsOf RP KP Res NoPanic KV KE MapS ItS EntS FsO FsR RowD PlD DkO PlFs RT KT OneT RS KS OneS RdO
variable {M M' : Mem} {H H1 H2 : Hp}
def appsD (d : Dk) (F : Fs) : Dk := F.foldl (fun d p => opD (appE d p.1 p.2) d (.app p.1 p.2)) d
theorem cntD_sz (d : Dk) : szD (cntD d) = szD d := by
  unfold szD
  rw [cntD_S, cntD_ps]
theorem opD_sz (d : Dk) (e : Int) (x : De) : szD (opD e d x) ≤ szD d + 1 := by
  unfold opD
  split
  · show (cntD d).S.length + (d.ps ++ [x]).length ≤ _
    rw [cntD_S, List.length_append]
    exact Nat.le_refl _
  · rw [cntD_sz]
    omega
theorem synD_sz (d : Dk) : szD (synD d) ≤ szD d := by
  unfold synD
  split
  · rw [cntD_sz]; exact Nat.le_refl _
  · exact now_sz d
theorem ps_sz (d : Dk) : d.ps.length ≤ szD d := Nat.le_add_left _ _
structure PaX where
  i : Nat
  ii : Int
  d : Dk
  hp : Hp
  hq : Hp
  M : Mem
def pairD (room : Int) (F : Fs) : Dk := synD (appsD (newD room) (F.take 20))
theorem appsD_snoc (d : Dk) (F : Fs) (p : Txt × Txt) : appsD d (F ++ [p]) = opD (appE (appsD d F) p.1 p.2) (appsD d F) (.app p.1 p.2) := by
  unfold appsD
  rw [List.foldl_append]
  rfl
theorem pair_K {room : Int} {fv : Value} {F : Fs} (h0 : 0 ≤ room) (h1 : room ≤ 1048576) (hf : PlFs M fv F) (hF : ∀ p ∈ F, p.1.length ≤ 4611686018427387904 ∧ p.2.length ≤ 4611686018427387904) : K Try.prog 31 [.int .i64 room, fv] M H fun v' M' H' => ∃ db rb hp hq, v' = .tuple #[.pointer (some ⟨db, 0, none⟩), .pointer (some ⟨rb, 0, none⟩), .bool true] ∧ M.le M' ∧ DkO M' db (pairD room F) hp ∧ RdO M' rb (pairD room F) hq ∧ H' = hp ++ (hq ++ H) := by
  refine K.enterK Try.func31 rfl rfl rfl ?_
  intro Q hNP hQ
  obtain ⟨A, cap, es, rfl, f1, f2, f3, f4, rfl⟩ := hf.form
  (repeat' (first | refine a_go ?_ | (with_reducible apply Fin.thenK; assumption) | (with_reducible (first | apply C.seqK | apply C.regionK); intro _ _) | (apply R.buildSlice0; exact rfl; intro bz) | (apply R.box; exact rfl; (simp only [Value.cells]; rfl); exact rfl; intro bx) | (apply R.alloc; (simp only [Value.cells]; rfl); exact rfl; intro ba) | (apply R.buildSlice; (exact a_prt); exact rfl; exact rfl; (exact a_fills); exact rfl; intro bl) | (refine a_sp ?_ ?_; (intro h; skip; rotate_left; intro h; skip; rotate_left)) | fail))
  (apply R.call; (exact a_evs); exact rfl; exact new_K h0 h1; rintro _ M _ ⟨db, hp, rfl, rfl, ho, rfl⟩)
  (repeat' (first | refine a_go ?_ | (with_reducible apply Fin.thenK; assumption) | (with_reducible (first | apply C.seqK | apply C.regionK); intro _ _) | (apply R.buildSlice0; exact rfl; intro bz) | (apply R.box; exact rfl; (simp only [Value.cells]; rfl); exact rfl; intro bx) | (apply R.alloc; (simp only [Value.cells]; rfl); exact rfl; intro ba) | (apply R.buildSlice; (exact a_prt); exact rfl; exact rfl; (exact a_fills); exact rfl; intro bl) | (refine a_sp ?_ ?_; (intro h; skip; rotate_left; intro h; skip; rotate_left)) | fail))
  have hr : RdO M bx (newD room) [(bx, .cells #[.int .i64 room, .slice none 0 0, .slice none 0 0, .slice none 0 0, .bool false, .int .i64 0, .bool false] 103 (0, 0))] := RdO.of (rnew_ok h0 h1)
  generalize hX : [(bx, Obj.cells #[Value.int .i64 room, .slice none 0 0, .slice none 0 0, .slice none 0 0, .bool false, .int .i64 0, .bool false] 103 (0, 0))] = hq at hr
  apply C.arr (H2 := hp ++ (hq ++ H)) (by rw [← hX]; ((try simp only [List.append_assoc, List.cons_append, List.nil_append, List.append_nil]); exact a_arr))
  have hsz0 : szD (newD room) = 0 := rfl
  apply C.loop (fun y : PaX => (y.i : Int) = y.ii ∧ y.i ≤ min 20 es.length ∧ M.le y.M ∧ y.d = appsD (newD room) ((es.map feP).take y.i) ∧ szD y.d ≤ y.i ∧ DkO y.M db y.d y.hp ∧ RdO y.M bx y.d y.hq)
    (fun y => [(1, .slice A es.length cap), (7, .pointer (some ⟨db, 0, none⟩)), (9, .pointer (some ⟨bx, 0, none⟩)), (10, .int .i64 y.ii)]) (fun y => y.M) (fun y => y.hp ++ (y.hq ++ H)) (fun y => 20 - y.i) ⟨0, 0, newD room, hp, hq, M⟩
  · exact ⟨rfl, Nat.zero_le _, Mem.le_refl _, rfl, Nat.le_refl _, ho, hr⟩
  · (exact a_subs)
  · exact rfl
  · exact rfl
  rintro ⟨i, ii, d, hp1, hq1, M1⟩ ⟨hii, hi, hM1, hd, hsz, ho1, hr1⟩
  dsimp only at hii hi hM1 hd hsz ho1 hr1 ⊢
  by_cases hix : i < min 20 es.length
  · have hie : i < es.length := by omega
    obtain ⟨b, o, c, e, fr, hA, hM, hc0, hc1⟩ := fe_at (f3.mono hM1) hie
    subst hA
    obtain ⟨Ai, ci, hvi, q1, q2, q3⟩ := f4 _ (List.getElem_mem hie)
    rw [hvi] at hc1
    rw [show o + i * 2 = o + ii.toNat * 2 by omega] at hc0 hc1
    obtain ⟨z1, z2⟩ := hF (feP es[i]) (List.mem_map.2 ⟨_, List.getElem_mem hie, rfl⟩)
    change es[i].n.length ≤ _ at z1
    change es[i].b.length ≤ _ at z2
    have hpb : PlB M1 (.slice Ai es[i].b.length ci) es[i].b := ⟨Ai, ci, rfl, q1, q2, q3.mono hM1⟩
    have hps := ps_sz d
    have hnl := now_sz d
    (repeat' (first | (apply R.step; (apply Ok.move; exact rfl); exact rfl) | (apply R.step; (first | (apply Ok.ltTr; exact rfl; exact rfl; omega) | (apply Ok.ltF; exact rfl; exact rfl; omega) | (apply Ok.gtTr; exact rfl; exact rfl; omega) | (apply Ok.gtF; exact rfl; exact rfl; omega) | (apply Ok.geTr; exact rfl; exact rfl; omega) | (apply Ok.geF; exact rfl; exact rfl; omega) | (apply Ok.leTr; exact rfl; exact rfl; omega) | (apply Ok.leF; exact rfl; exact rfl; omega) | (apply Ok.neIT; exact rfl; exact rfl; omega) | (apply Ok.eqIF; exact rfl; exact rfl; omega)); exact rfl) | refine a_go ?_ | (with_reducible apply Fin.thenK; assumption) | (with_reducible (first | apply C.seqK | apply C.regionK); intro _ _) | (apply R.buildSlice0; exact rfl; intro bz) | (apply R.box; exact rfl; (simp only [Value.cells]; rfl); exact rfl; intro bx) | (apply R.alloc; (simp only [Value.cells]; rfl); exact rfl; intro ba) | (apply R.buildSlice; (exact a_prt); exact rfl; exact rfl; (exact a_fills); exact rfl; intro bl) | (refine a_sp ?_ ?_; (intro h; skip; rotate_left; intro h; skip; rotate_left)) | fail))
    (apply C.regionT (t := .free 0 (.free 1 (.free 2 (.free 3 (.free 4 (.free 5 (.free 6 (.free 7 (.free 8 (.free 9 (.free 10 (.free 12 (.free 13 (.free 14 (.free 15 (.free 16 (.free 17 (.free 18 (.free 19 (.free 20 (.free 21 (.free 22 (.one 11 (.one 23 (.free 24 .nil))))))))))))))))))))))))) (Hs := []); exact Mix.h; (first | exact Arr.all _ | (exact a_arr) | ((try simp only [List.append_assoc, List.cons_append, List.nil_append, List.append_nil]); exact a_arr)); (exact a_np); kernel_rfl)
    (repeat' (first | (apply RT.step; exact rfl; intro _ _ _; (apply Ok.move; exact rfl); exact rfl) | (apply RT.step; exact rfl; intro _ _ hMx; (first | (apply Ok.loadP; exact rfl; exact rfl; exact hMx.2.2 _ _ hM; exact hc0) | (apply Ok.loadP; exact rfl; exact rfl; exact hMx.2.2 _ _ hM; exact hc1)); exact rfl) | (first | (apply RT.step; exact rfl; intro _ _ _; (exact a_ok); exact rfl) | (apply RT.stepT; exact rfl; exact rfl; exact rfl; exact rfl; intro _ _ _; (exact a_ok); exact rfl) | (apply RT.stepF; exact rfl; exact rfl; exact rfl; exact rfl; exact rfl; exact rfl) | (apply RT.stepU; exact rfl; exact rfl; exact rfl; exact rfl; exact rfl) | (apply RT.one; apply OneT.effF; exact rfl; exact rfl; exact rfl; exact rfl; exact rfl; exact rfl) | (apply RT.one; apply OneT.effU; exact rfl; exact rfl; exact rfl; exact rfl; exact rfl))))
    (apply RT.one; apply OneT.eff; exact rfl; intro Kc hKc ops0)
    apply R.arr (H2 := hp1 ++ (hq1 ++ H)) (by ((try simp only [List.append_assoc, List.cons_append, List.nil_append, List.append_nil]); exact a_arr))
    (apply R.call; (exact a_evs); exact rfl; exact append_K (d := d) (n := es[i].n) ho1 hpb (by omega) (by omega) (by omega); rintro _ M2 _ ⟨rfl, hM2, hp2, ho2, rfl⟩)
    (apply R.nil; apply Fin.kt (Hx := hq1 ++ (hp2 ++ H)) hKc; exact hM2; ((try simp only [List.append_assoc, List.cons_append, List.nil_append, List.append_nil]); exact a_arr))
    (repeat' (first | (apply RT.step; exact rfl; intro _ _ _; (apply Ok.move; exact rfl); exact rfl) | fail | (first | (apply RT.step; exact rfl; intro _ _ _; (exact a_ok); exact rfl) | (apply RT.stepT; exact rfl; exact rfl; exact rfl; exact rfl; intro _ _ _; (exact a_ok); exact rfl) | (apply RT.stepF; exact rfl; exact rfl; exact rfl; exact rfl; exact rfl; exact rfl) | (apply RT.stepU; exact rfl; exact rfl; exact rfl; exact rfl; exact rfl) | (apply RT.one; apply OneT.effF; exact rfl; exact rfl; exact rfl; exact rfl; exact rfl; exact rfl) | (apply RT.one; apply OneT.effU; exact rfl; exact rfl; exact rfl; exact rfl; exact rfl))))
    (apply RT.one; apply OneT.eff; exact rfl; intro Kc hKc ops0)
    apply R.arr (H2 := hq1 ++ (hp2 ++ H)) (by ((try simp only [List.append_assoc, List.cons_append, List.nil_append, List.append_nil]); exact a_arr))
    (apply R.call; (exact a_evs); exact rfl; exact rappend_K (d := d) (n := es[i].n) (hr1.mono hM2) (hpb.mono hM2) (by omega) (by omega) (by omega) (by omega); rintro _ M3 _ ⟨rfl, hM3, hq2, hr2, rfl⟩)
    (apply R.nil; apply Fin.kt (Hx := hp2 ++ (hq2 ++ H)) hKc; exact hM2.trans_ hM3; ((try simp only [List.append_assoc, List.cons_append, List.nil_append, List.append_nil]); exact a_arr))
    (repeat' (first | (apply RT.step; exact rfl; intro _ _ _; (apply Ok.move; exact rfl); exact rfl) | fail | (first | (apply RT.step; exact rfl; intro _ _ _; (exact a_ok); exact rfl) | (apply RT.stepT; exact rfl; exact rfl; exact rfl; exact rfl; intro _ _ _; (exact a_ok); exact rfl) | (apply RT.stepF; exact rfl; exact rfl; exact rfl; exact rfl; exact rfl; exact rfl) | (apply RT.stepU; exact rfl; exact rfl; exact rfl; exact rfl; exact rfl) | (apply RT.one; apply OneT.effF; exact rfl; exact rfl; exact rfl; exact rfl; exact rfl; exact rfl) | (apply RT.one; apply OneT.effU; exact rfl; exact rfl; exact rfl; exact rfl; exact rfl))))
    apply RT.nil
    have hd' : opD (appE d es[i].n es[i].b) d (.app es[i].n es[i].b) = appsD (newD room) ((es.map feP).take (i + 1)) := by
      rw [take_snocE (l := es.map feP) (by rw [List.length_map]; exact hie), appsD_snoc, ← hd, List.getElem_map]
      rfl
    have hsz' := opD_sz d (appE d es[i].n es[i].b) (.app es[i].n es[i].b)
    (repeat' (first | (apply R.step; (apply Ok.move; exact rfl); exact rfl) | (apply R.step; (apply Ok.neIS; exact rfl; exact rfl); exact rfl) | refine a_go ?_ | (with_reducible apply Fin.thenK; assumption) | (with_reducible (first | apply C.seqK | apply C.regionK); intro _ _) | (apply R.buildSlice0; exact rfl; intro bz) | (apply R.box; exact rfl; (simp only [Value.cells]; rfl); exact rfl; intro bx) | (apply R.alloc; (simp only [Value.cells]; rfl); exact rfl; intro ba) | (apply R.buildSlice; (exact a_prt); exact rfl; exact rfl; (exact a_fills); exact rfl; intro bl) | (refine a_sp ?_ ?_; (intro h; skip; rotate_left; intro h; skip; rotate_left)) | fail))
    (apply Fin.arr (H2 := hp2 ++ (hq2 ++ H)); ((try simp only [List.append_assoc, List.cons_append, List.nil_append, List.append_nil]); exact a_arr))
    refine Fin.again (⟨i + 1, ii + 1, opD (appE d es[i].n es[i].b) d (.app es[i].n es[i].b), hp2, hq2, M3⟩ : PaX) ⟨by dsimp only; omega, by dsimp only; omega, hM1.trans_ (hM2.trans_ hM3), hd', by dsimp only; omega, ho2.mono hM3, hr2⟩ (by dsimp only; omega) ?_ rfl rfl
    (exact a_subs)
  have hie : i = min 20 es.length := by omega
  have hpr : d = appsD (newD room) ((es.map feP).take 20) := by
    rw [hd, hie]
    congr 1
    by_cases h : 20 ≤ es.length
    · rw [Nat.min_eq_left h]
    · rw [Nat.min_eq_right (by omega), List.take_of_length_le (by rw [List.length_map]; exact Nat.le_refl _), List.take_of_length_le (by rw [List.length_map]; omega)]
  have hPD : pairD room (es.map feP) = synD d := by rw [hpr]; rfl
  rw [hPD] at hQ
  by_cases h20 : ii < (es.length : Int)
  · (repeat' (first | (apply R.step; (apply Ok.move; exact rfl); exact rfl) | (apply R.step; (first | (apply Ok.ltTr; exact rfl; exact rfl; omega) | (apply Ok.ltF; exact rfl; exact rfl; omega) | (apply Ok.gtTr; exact rfl; exact rfl; omega) | (apply Ok.gtF; exact rfl; exact rfl; omega) | (apply Ok.geTr; exact rfl; exact rfl; omega) | (apply Ok.geF; exact rfl; exact rfl; omega) | (apply Ok.leTr; exact rfl; exact rfl; omega) | (apply Ok.leF; exact rfl; exact rfl; omega) | (apply Ok.neIT; exact rfl; exact rfl; omega) | (apply Ok.eqIF; exact rfl; exact rfl; omega)); exact rfl) | refine a_go ?_ | (with_reducible apply Fin.thenK; assumption) | (with_reducible (first | apply C.seqK | apply C.regionK); intro _ _) | (apply R.buildSlice0; exact rfl; intro bz) | (apply R.box; exact rfl; (simp only [Value.cells]; rfl); exact rfl; intro bx) | (apply R.alloc; (simp only [Value.cells]; rfl); exact rfl; intro ba) | (apply R.buildSlice; (exact a_prt); exact rfl; exact rfl; (exact a_fills); exact rfl; intro bl) | (refine a_sp ?_ ?_; (intro h; skip; rotate_left; intro h; skip; rotate_left)) | fail))
    (apply R.call; (exact a_evs); exact rfl; exact sync_K ho1; rintro _ M2 _ ⟨rfl, rfl, hp2, ho2, rfl⟩)
    (repeat' (first | refine a_go ?_ | (with_reducible apply Fin.thenK; assumption) | (with_reducible (first | apply C.seqK | apply C.regionK); intro _ _) | (apply R.buildSlice0; exact rfl; intro bz) | (apply R.box; exact rfl; (simp only [Value.cells]; rfl); exact rfl; intro bx) | (apply R.alloc; (simp only [Value.cells]; rfl); exact rfl; intro ba) | (apply R.buildSlice; (exact a_prt); exact rfl; exact rfl; (exact a_fills); exact rfl; intro bl) | (refine a_sp ?_ ?_; (intro h; skip; rotate_left; intro h; skip; rotate_left)) | fail))
    apply R.arr (H2 := hq1 ++ (hp2 ++ H)) (by ((try simp only [List.append_assoc, List.cons_append, List.nil_append, List.append_nil]); exact a_arr))
    (apply R.call; (exact a_evs); exact rfl; exact rsync_K hr1; rintro _ M2 _ ⟨rfl, rfl, hq2, hr2, rfl⟩)
    (repeat' (first | (apply R.step; (apply Ok.move; exact rfl); exact rfl) | (apply R.step; (apply Ok.eqIR; exact rfl; exact rfl; exact rfl); exact rfl) | refine a_go ?_ | (with_reducible apply Fin.thenK; assumption) | (with_reducible (first | apply C.seqK | apply C.regionK); intro _ _) | (apply R.buildSlice0; exact rfl; intro bz) | (apply R.box; exact rfl; (simp only [Value.cells]; rfl); exact rfl; intro bx) | (apply R.alloc; (simp only [Value.cells]; rfl); exact rfl; intro ba) | (apply R.buildSlice; (exact a_prt); exact rfl; exact rfl; (exact a_fills); exact rfl; intro bl) | (refine a_sp ?_ ?_; (intro h; skip; rotate_left; intro h; skip; rotate_left)) | fail))
    (apply Fin.returnA (H2 := hp2 ++ (hq2 ++ H)); assumption; (first | exact .inl rfl | exact .inr rfl); exact rfl; (exact a_res); (simp only [retv]; rfl); (exact a_arr))
    exact ⟨db, bx, hp2, hq2, rfl, hM1, ho2, hr2, rfl⟩
  · (repeat' (first | (apply R.step; (apply Ok.move; exact rfl); exact rfl) | (apply R.step; (first | (apply Ok.ltTr; exact rfl; exact rfl; omega) | (apply Ok.ltF; exact rfl; exact rfl; omega) | (apply Ok.gtTr; exact rfl; exact rfl; omega) | (apply Ok.gtF; exact rfl; exact rfl; omega) | (apply Ok.geTr; exact rfl; exact rfl; omega) | (apply Ok.geF; exact rfl; exact rfl; omega) | (apply Ok.leTr; exact rfl; exact rfl; omega) | (apply Ok.leF; exact rfl; exact rfl; omega) | (apply Ok.neIT; exact rfl; exact rfl; omega) | (apply Ok.eqIF; exact rfl; exact rfl; omega)); exact rfl) | refine a_go ?_ | (with_reducible apply Fin.thenK; assumption) | (with_reducible (first | apply C.seqK | apply C.regionK); intro _ _) | (apply R.buildSlice0; exact rfl; intro bz) | (apply R.box; exact rfl; (simp only [Value.cells]; rfl); exact rfl; intro bx) | (apply R.alloc; (simp only [Value.cells]; rfl); exact rfl; intro ba) | (apply R.buildSlice; (exact a_prt); exact rfl; exact rfl; (exact a_fills); exact rfl; intro bl) | (refine a_sp ?_ ?_; (intro h; skip; rotate_left; intro h; skip; rotate_left)) | fail))
    (apply R.call; (exact a_evs); exact rfl; exact sync_K ho1; rintro _ M2 _ ⟨rfl, rfl, hp2, ho2, rfl⟩)
    (repeat' (first | refine a_go ?_ | (with_reducible apply Fin.thenK; assumption) | (with_reducible (first | apply C.seqK | apply C.regionK); intro _ _) | (apply R.buildSlice0; exact rfl; intro bz) | (apply R.box; exact rfl; (simp only [Value.cells]; rfl); exact rfl; intro bx) | (apply R.alloc; (simp only [Value.cells]; rfl); exact rfl; intro ba) | (apply R.buildSlice; (exact a_prt); exact rfl; exact rfl; (exact a_fills); exact rfl; intro bl) | (refine a_sp ?_ ?_; (intro h; skip; rotate_left; intro h; skip; rotate_left)) | fail))
    apply R.arr (H2 := hq1 ++ (hp2 ++ H)) (by ((try simp only [List.append_assoc, List.cons_append, List.nil_append, List.append_nil]); exact a_arr))
    (apply R.call; (exact a_evs); exact rfl; exact rsync_K hr1; rintro _ M2 _ ⟨rfl, rfl, hq2, hr2, rfl⟩)
    (repeat' (first | (apply R.step; (apply Ok.move; exact rfl); exact rfl) | (apply R.step; (apply Ok.eqIR; exact rfl; exact rfl; exact rfl); exact rfl) | refine a_go ?_ | (with_reducible apply Fin.thenK; assumption) | (with_reducible (first | apply C.seqK | apply C.regionK); intro _ _) | (apply R.buildSlice0; exact rfl; intro bz) | (apply R.box; exact rfl; (simp only [Value.cells]; rfl); exact rfl; intro bx) | (apply R.alloc; (simp only [Value.cells]; rfl); exact rfl; intro ba) | (apply R.buildSlice; (exact a_prt); exact rfl; exact rfl; (exact a_fills); exact rfl; intro bl) | (refine a_sp ?_ ?_; (intro h; skip; rotate_left; intro h; skip; rotate_left)) | fail))
    (apply Fin.returnA (H2 := hp2 ++ (hq2 ++ H)); assumption; (first | exact .inl rfl | exact .inr rfl); exact rfl; (exact a_res); (simp only [retv]; rfl); (exact a_arr))
    exact ⟨db, bx, hp2, hq2, rfl, hM1, ho2, hr2, rfl⟩
end Go.Sx
end
section
namespace Go.Sx
open Go Go.Proofs Go.RowKit
attribute [local irreducible] C R Fin K Own OwnT Rd Pl Ok KOf RetOk OpsOf RP KP Res NoPanic KV KE MapS ItS EntS FsO FsR RowD PlD DkO PlFs RT KT OneT RS KS OneS RdO
variable {M M' : Mem} {H H1 H2 : Hp}
structure SdX where
  i : Nat
  ii : Int
  M : Mem
theorem sameDisk_K {db rb : Nat} {d : Dk} {hp hq : Hp} (ho : DkO M db d hp) (hr : RdO M rb d hq) (hsz : szD d ≤ 1000000) : K Try.prog 33 [.pointer (some ⟨db, 0, none⟩), .pointer (some ⟨rb, 0, none⟩)] M (hp ++ (hq ++ H)) fun v' M' H' => v' = .bool true ∧ M.le M' ∧ H' = hp ++ (hq ++ H) := by
  refine K.enterK Try.func33 rfl rfl rfl ?_
  intro Q hNP hQ
  have hps := ps_sz d
  have hnl := now_sz d
  (repeat' (first | refine a_go ?_ | (with_reducible apply Fin.thenK; assumption) | (with_reducible (first | apply C.seqK | apply C.regionK); intro _ _) | (apply R.buildSlice0; exact rfl; intro bz) | (apply R.box; exact rfl; (simp only [Value.cells]; rfl); exact rfl; intro bx) | (apply R.alloc; (simp only [Value.cells]; rfl); exact rfl; intro ba) | (apply R.buildSlice; (exact a_prt); exact rfl; exact rfl; (exact a_fills); exact rfl; intro bl) | (refine a_sp ?_ ?_; (intro h; skip; rotate_left; intro h; skip; rotate_left)) | fail))
  (apply R.call; (exact a_evs); exact rfl; exact names_KD ho (by omega); rintro v1 M _ ⟨rfl, hn1, hown1, rfl⟩)
  (repeat' (first | refine a_go ?_ | (with_reducible apply Fin.thenK; assumption) | (with_reducible (first | apply C.seqK | apply C.regionK); intro _ _) | (apply R.buildSlice0; exact rfl; intro bz) | (apply R.box; exact rfl; (simp only [Value.cells]; rfl); exact rfl; intro bx) | (apply R.alloc; (simp only [Value.cells]; rfl); exact rfl; intro ba) | (apply R.buildSlice; (exact a_prt); exact rfl; exact rfl; (exact a_fills); exact rfl; intro bl) | (refine a_sp ?_ ?_; (intro h; skip; rotate_left; intro h; skip; rotate_left)) | fail))
  apply R.arr (H2 := hq ++ (hn1 ++ (hp ++ H))) (by ((try simp only [List.append_assoc, List.cons_append, List.nil_append, List.append_nil]); exact a_arr))
  (apply R.call; (exact a_evs); exact rfl; exact rnames_KD hr (by omega); rintro v2 M _ ⟨rfl, hn2, hown2, rfl⟩)
  obtain ⟨N, hN⟩ : ∃ N, N = namesD d.down d.now := ⟨_, rfl⟩
  rw [← hN] at hown1 hown2
  obtain ⟨A1, c1, rfl, a1, a2⟩ := hown1.form
  obtain ⟨A2, c2, rfl, b1, b2⟩ := hown2.form
  unfold maxLen at a2
  apply R.arr (H2 := (hn1 ++ hn2) ++ (hp ++ (hq ++ H))) (by ((try simp only [List.append_assoc, List.cons_append, List.nil_append, List.append_nil]); exact a_arr))
  apply R.ice (Arr.all _)
  intro M1 hM1 hin
  have hp1 := hown1.plIn hin.left
  have hp2 := hown2.plIn hin.right
  replace ho := ho.mono hM1
  replace hr := hr.mono hM1
  (repeat' (first | refine a_go ?_ | (with_reducible apply Fin.thenK; assumption) | (with_reducible (first | apply C.seqK | apply C.regionK); intro _ _) | (apply R.buildSlice0; exact rfl; intro bz) | (apply R.box; exact rfl; (simp only [Value.cells]; rfl); exact rfl; intro bx) | (apply R.alloc; (simp only [Value.cells]; rfl); exact rfl; intro ba) | (apply R.buildSlice; (exact a_prt); exact rfl; exact rfl; (exact a_fills); exact rfl; intro bl) | (refine a_sp ?_ ?_; (intro h; skip; rotate_left; intro h; skip; rotate_left)) | fail))
  have hc := id hr
  unfold RdO at hc
  obtain ⟨⟨F, G, sv, nv, wv, fused, fuse⟩, hi, rfl⟩ := hc
  dsimp only at ho hr ⊢
  obtain ⟨Aw, cw, rfl, _⟩ : ∃ A cap, wv = .slice A d.ps.length cap ∧ True := by
    obtain ⟨A, cap, h, _⟩ := hi.w
    exact ⟨A, cap, h, trivial⟩
  unfold rdkB at hr ⊢
  have hu1 : ∀ M' Hx', M1.le M' → K Try.prog 40 [.pointer (some ⟨db, 0, none⟩)] M' ((hp ++ [(rb, .cells [.int .i64 d.room, sv, nv, .slice Aw d.ps.length cw, .bool fused, .int .i64 fuse, .bool d.down].toArray 103 (0, 0))]) ++ Hx') (fun u M2 H2 => u = .int .i64 (usedD d.down d.now : Nat) ∧ M2 = M' ∧ H2 = (hp ++ [(rb, .cells [.int .i64 d.room, sv, nv, .slice Aw d.ps.length cw, .bool fused, .int .i64 fuse, .bool d.down].toArray 103 (0, 0))]) ++ Hx') := fun M' Hx' h => by
    rw [List.append_assoc]
    exact dused_KD (ho.mono h)
  have hu2 : ∀ M' Hx', M1.le M' → K Try.prog 70 [.pointer (some ⟨rb, 0, none⟩)] M' ((hp ++ [(rb, .cells [.int .i64 d.room, sv, nv, .slice Aw d.ps.length cw, .bool fused, .int .i64 fuse, .bool d.down].toArray 103 (0, 0))]) ++ Hx') (fun u M2 H2 => u = .int .i64 (usedD d.down d.now : Nat) ∧ M2 = M' ∧ H2 = (hp ++ [(rb, .cells [.int .i64 d.room, sv, nv, .slice Aw d.ps.length cw, .bool fused, .int .i64 fuse, .bool d.down].toArray 103 (0, 0))]) ++ Hx') := fun M' Hx' h => K.permQ (perm_mid _ _ _) (rused_KD (hr.mono h))
  have hpd : ∀ M' Hx', M1.le M' → K Try.prog 20 [.pointer (some ⟨db, 0, none⟩)] M' ((hp ++ [(rb, .cells [.int .i64 d.room, sv, nv, .slice Aw d.ps.length cw, .bool fused, .int .i64 fuse, .bool d.down].toArray 103 (0, 0))]) ++ Hx') (fun u M2 H2 => u = .int .i64 (d.ps.length : Nat) ∧ M2 = M' ∧ H2 = (hp ++ [(rb, .cells [.int .i64 d.room, sv, nv, .slice Aw d.ps.length cw, .bool fused, .int .i64 fuse, .bool d.down].toArray 103 (0, 0))]) ++ Hx') := fun M' Hx' h => by
    rw [List.append_assoc]
    exact pending_KD (ho.mono h)
  have hdn : ∀ M' Hx', M1.le M' → K Try.prog 22 [.pointer (some ⟨db, 0, none⟩)] M' ((hp ++ [(rb, .cells [.int .i64 d.room, sv, nv, .slice Aw d.ps.length cw, .bool fused, .int .i64 fuse, .bool d.down].toArray 103 (0, 0))]) ++ Hx') (fun u M2 H2 => u = .bool d.down ∧ M2 = M' ∧ H2 = (hp ++ [(rb, .cells [.int .i64 d.room, sv, nv, .slice Aw d.ps.length cw, .bool fused, .int .i64 fuse, .bool d.down].toArray 103 (0, 0))]) ++ Hx') := fun M' Hx' h => by
    rw [List.append_assoc]
    exact down_KD (ho.mono h)
  (apply C.regionT (t := .free 0 (.free 1 (.free 2 (.free 3 (.free 4 (.free 5 (.free 6 (.free 7 (.free 8 (.free 9 (.free 10 (.free 11 (.free 12 (.free 13 (.free 14 (.free 15 (.free 16 (.free 17 (.free 18 (.free 19 (.free 20 (.free 21 (.free 22 (.free 23 (.free 24 (.free 25 (.free 26 (.free 27 (.free 28 (.free 29 (.free 30 .nil))))))))))))))))))))))))))))))) (Hs := hp ++ [(rb, .cells [.int .i64 d.room, sv, nv, .slice Aw d.ps.length cw, .bool fused, .int .i64 fuse, .bool d.down].toArray 103 (0, 0))]); exact Mix.h; (first | exact Arr.all _ | (exact a_arr) | ((try simp only [List.append_assoc, List.cons_append, List.nil_append, List.append_nil]); exact a_arr)); (exact a_np); kernel_rfl)
  (repeat' (first | (apply RT.step; exact rfl; intro _ _ _; (apply Ok.move; exact rfl); exact rfl) | (apply RT.callQT; exact rfl; exact inferInstance; exact rfl; exact rfl; exact rfl; (exact a_evs); exact rfl; (first | exact hu1 | exact hu2 | exact hpd | exact hdn)) | (apply RT.stepT; exact rfl; exact rfl; exact rfl; exact rfl; intro _ _ hMx; (first | (apply Ok.loadM; exact rfl; exact rfl; exact (List.mem_append_left _ (List.mem_append_right _ (List.mem_singleton.2 rfl))); exact rfl) | (apply Ok.neIS; exact rfl; exact rfl) | (apply Ok.neBoS; exact rfl; exact rfl)); exact rfl) | (apply RT.step; exact rfl; intro _ _ hMx; (apply Ok.neIS; exact rfl; exact rfl); exact rfl) | (first | (apply RT.step; exact rfl; intro _ _ _; (exact a_ok); exact rfl) | (apply RT.stepT; exact rfl; exact rfl; exact rfl; exact rfl; intro _ _ _; (exact a_ok); exact rfl) | (apply RT.stepF; exact rfl; exact rfl; exact rfl; exact rfl; exact rfl; exact rfl) | (apply RT.stepU; exact rfl; exact rfl; exact rfl; exact rfl; exact rfl) | (apply RT.one; apply OneT.effF; exact rfl; exact rfl; exact rfl; exact rfl; exact rfl; exact rfl) | (apply RT.one; apply OneT.effU; exact rfl; exact rfl; exact rfl; exact rfl; exact rfl))))
  apply RT.nil
  (repeat' (first | refine a_go ?_ | (with_reducible apply Fin.thenK; assumption) | (with_reducible (first | apply C.seqK | apply C.regionK); intro _ _) | (apply R.buildSlice0; exact rfl; intro bz) | (apply R.box; exact rfl; (simp only [Value.cells]; rfl); exact rfl; intro bx) | (apply R.alloc; (simp only [Value.cells]; rfl); exact rfl; intro ba) | (apply R.buildSlice; (exact a_prt); exact rfl; exact rfl; (exact a_fills); exact rfl; intro bl) | (refine a_sp ?_ ?_; (intro h; skip; rotate_left; intro h; skip; rotate_left)) | fail))
  generalize hX : [(rb, Obj.cells [Value.int .i64 d.room, sv, nv, .slice Aw d.ps.length cw, .bool fused, .int .i64 fuse, .bool d.down].toArray 103 (0, 0))] = hq at hr hQ
  clear hu1 hu2 hpd hdn hi
  apply C.arr (H2 := hp ++ (hq ++ H)) (by rw [← hX]; ((try simp only [List.append_assoc, List.cons_append, List.nil_append, List.append_nil]); exact a_arr))
  apply C.loop (fun y : SdX => (y.i : Int) = y.ii ∧ y.i ≤ N.length ∧ M1.le y.M)
    (fun y => [(0, .pointer (some ⟨db, 0, none⟩)), (1, .pointer (some ⟨rb, 0, none⟩)), (5, .slice A1 N.length c1), (6, .slice A2 N.length c2), (7, .int .i64 y.ii)]) (fun y => y.M) (fun _ => hp ++ (hq ++ H)) (fun y => N.length - y.i) ⟨0, 0, M1⟩
  · exact ⟨rfl, Nat.zero_le _, Mem.le_refl _⟩
  · (exact a_subs)
  · exact rfl
  · exact rfl
  rintro ⟨i, ii, M2⟩ ⟨hii, hi, hM2⟩
  dsimp only at hii hi hM2 ⊢
  by_cases hin : i < N.length
  · obtain ⟨e1, o1, q1, t1, r1, rfl, m1, g1⟩ := (hp1.mono hM2).get (i := i) (v := str N[i]) (by rw [List.getElem?_map, List.getElem?_eq_getElem hin]; rfl)
    obtain ⟨e2, o2, q2, t2, r2, rfl, m2, g2⟩ := (hp2.mono hM2).get (i := i) (v := str N[i]) (by rw [List.getElem?_map, List.getElem?_eq_getElem hin]; rfl)
    rw [show o1 + i = o1 + ii.toNat * 1 by omega] at g1
    rw [show o2 + i = o2 + ii.toNat * 1 by omega] at g2
    generalize N[i] = n at g1 g2
    (repeat' (first | (apply R.step; (apply Ok.move; exact rfl); exact rfl) | (apply R.step; (first | (apply Ok.ltTr; exact rfl; exact rfl; omega) | (apply Ok.loadP; exact rfl; exact rfl; exact m2; exact g2)); exact rfl) | refine a_go ?_ | (with_reducible apply Fin.thenK; assumption) | (with_reducible (first | apply C.seqK | apply C.regionK); intro _ _) | (apply R.buildSlice0; exact rfl; intro bz) | (apply R.box; exact rfl; (simp only [Value.cells]; rfl); exact rfl; intro bx) | (apply R.alloc; (simp only [Value.cells]; rfl); exact rfl; intro ba) | (apply R.buildSlice; (exact a_prt); exact rfl; exact rfl; (exact a_fills); exact rfl; intro bl) | (refine a_sp ?_ ?_; (intro h; skip; rotate_left; intro h; skip; rotate_left)) | fail))
    (apply R.call; (exact a_evs); exact rfl; exact dread_K (n := n) (ho.mono hM2); rintro _ M2 _ ⟨v5, hv5, rfl, hown5, rfl, rfl⟩)
    obtain ⟨A5, k5, rfl, _, _⟩ := hown5.form
    (repeat' (first | (apply R.step; (apply Ok.move; exact rfl); exact rfl) | (apply R.step; (apply Ok.loadP; exact rfl; exact rfl; exact m2; exact g2); exact rfl) | refine a_go ?_ | (with_reducible apply Fin.thenK; assumption) | (with_reducible (first | apply C.seqK | apply C.regionK); intro _ _) | (apply R.buildSlice0; exact rfl; intro bz) | (apply R.box; exact rfl; (simp only [Value.cells]; rfl); exact rfl; intro bx) | (apply R.alloc; (simp only [Value.cells]; rfl); exact rfl; intro ba) | (apply R.buildSlice; (exact a_prt); exact rfl; exact rfl; (exact a_fills); exact rfl; intro bl) | (refine a_sp ?_ ?_; (intro h; skip; rotate_left; intro h; skip; rotate_left)) | fail))
    apply R.arr (H2 := hv5 ++ (hq ++ (hp ++ H))) (by ((try simp only [List.append_assoc, List.cons_append, List.nil_append, List.append_nil]); exact a_arr))
    apply R.ice (Arr.all _)
    intro M3 hM3 hin5
    have hpl5 := hown5.plIn hin5
    (apply R.call; (exact a_evs); exact rfl; exact rread_KD (n := n) ((hr.mono hM2).mono hM3) (by omega); rintro _ M3 _ ⟨v6, rfl, hpb6, rfl, rfl⟩)
    generalize (readD d n).getD [] = bs at hpb6 hpl5
    generalize (readD d n).isSome = bo
    obtain ⟨A6, k6, rfl, _, _, hpl6⟩ := hpb6
    (repeat' (first | refine a_go ?_ | (with_reducible apply Fin.thenK; assumption) | (with_reducible (first | apply C.seqK | apply C.regionK); intro _ _) | (apply R.buildSlice0; exact rfl; intro bz) | (apply R.box; exact rfl; (simp only [Value.cells]; rfl); exact rfl; intro bx) | (apply R.alloc; (simp only [Value.cells]; rfl); exact rfl; intro ba) | (apply R.buildSlice; (exact a_prt); exact rfl; exact rfl; (exact a_fills); exact rfl; intro bl) | (refine a_sp ?_ ?_; (intro h; skip; rotate_left; intro h; skip; rotate_left)) | fail))
    (apply C.regionT (t := .free 0 (.free 1 (.free 2 (.free 3 (.free 4 (.free 5 (.free 6 (.free 7 (.free 8 (.free 9 (.free 10 (.free 11 (.free 12 (.free 13 (.free 14 (.free 15 .nil)))))))))))))))) (Hs := []); exact Mix.h; (first | exact Arr.all _ | (exact a_arr) | ((try simp only [List.append_assoc, List.cons_append, List.nil_append, List.append_nil]); exact a_arr)); (exact a_np); kernel_rfl)
    (repeat' (first | (apply RT.step; exact rfl; intro _ _ _; (apply Ok.move; exact rfl); exact rfl) | (apply RT.step; exact rfl; intro _ _ hMx; (first | (apply Ok.loadP; exact rfl; exact rfl; exact hMx.2.2 _ _ (hM3.2.2 _ _ m2); exact g2) | (apply Ok.loadP; exact rfl; exact rfl; exact hMx.2.2 _ _ (hM3.2.2 _ _ m1); exact g1) | (apply Ok.neStrS (bs := n); exact rfl; exact rfl)); exact rfl) | (apply RT.stepT; exact rfl; exact rfl; exact rfl; exact rfl; intro _ _ hMx; (first | (apply Ok.toT (bs := bs); exact rfl; exact (hpl5.mono hMx).rd) | (apply Ok.toT (bs := bs); exact rfl; exact (hpl6.mono hMx).rd) | (apply Ok.neStrS (bs := bs); exact rfl; exact rfl)); exact rfl) | (first | (apply RT.step; exact rfl; intro _ _ _; (exact a_ok); exact rfl) | (apply RT.stepT; exact rfl; exact rfl; exact rfl; exact rfl; intro _ _ _; (exact a_ok); exact rfl) | (apply RT.stepF; exact rfl; exact rfl; exact rfl; exact rfl; exact rfl; exact rfl) | (apply RT.stepU; exact rfl; exact rfl; exact rfl; exact rfl; exact rfl) | (apply RT.one; apply OneT.effF; exact rfl; exact rfl; exact rfl; exact rfl; exact rfl; exact rfl) | (apply RT.one; apply OneT.effU; exact rfl; exact rfl; exact rfl; exact rfl; exact rfl))))
    apply RT.nil
    (repeat' (first | refine a_go ?_ | (with_reducible apply Fin.thenK; assumption) | (with_reducible (first | apply C.seqK | apply C.regionK); intro _ _) | (apply R.buildSlice0; exact rfl; intro bz) | (apply R.box; exact rfl; (simp only [Value.cells]; rfl); exact rfl; intro bx) | (apply R.alloc; (simp only [Value.cells]; rfl); exact rfl; intro ba) | (apply R.buildSlice; (exact a_prt); exact rfl; exact rfl; (exact a_fills); exact rfl; intro bl) | (refine a_sp ?_ ?_; (intro h; skip; rotate_left; intro h; skip; rotate_left)) | fail))
    (apply Fin.arr (H2 := hp ++ (hq ++ H)); ((try simp only [List.append_assoc, List.cons_append, List.nil_append, List.append_nil]); exact a_arr))
    refine Fin.again (⟨i + 1, ii + 1, M3⟩ : SdX) ⟨by dsimp only; omega, by dsimp only; omega, hM2.trans_ hM3⟩ (by dsimp only; omega) ?_ rfl rfl
    (exact a_subs)
  have hie : i = N.length := by omega
  (repeat' (first | (apply R.step; (apply Ok.move; exact rfl); exact rfl) | (apply R.step; (first | (apply Ok.ltTr; exact rfl; exact rfl; omega) | (apply Ok.ltF; exact rfl; exact rfl; omega) | (apply Ok.gtTr; exact rfl; exact rfl; omega) | (apply Ok.gtF; exact rfl; exact rfl; omega) | (apply Ok.geTr; exact rfl; exact rfl; omega) | (apply Ok.geF; exact rfl; exact rfl; omega) | (apply Ok.leTr; exact rfl; exact rfl; omega) | (apply Ok.leF; exact rfl; exact rfl; omega) | (apply Ok.neIT; exact rfl; exact rfl; omega) | (apply Ok.eqIF; exact rfl; exact rfl; omega)); exact rfl) | refine a_go ?_ | (with_reducible apply Fin.thenK; assumption) | (with_reducible (first | apply C.seqK | apply C.regionK); intro _ _) | (apply R.buildSlice0; exact rfl; intro bz) | (apply R.box; exact rfl; (simp only [Value.cells]; rfl); exact rfl; intro bx) | (apply R.alloc; (simp only [Value.cells]; rfl); exact rfl; intro ba) | (apply R.buildSlice; (exact a_prt); exact rfl; exact rfl; (exact a_fills); exact rfl; intro bl) | (refine a_sp ?_ ?_; (intro h; skip; rotate_left; intro h; skip; rotate_left)) | fail))
  (apply Fin.returnA (H2 := hp ++ (hq ++ H)); assumption; (first | exact .inl rfl | exact .inr rfl); exact rfl; (exact a_res); (simp only [retv]; rfl); (exact a_arr))
  exact ⟨rfl, hM1.trans_ hM2, by rw [← hX]; rfl⟩
end Go.Sx
end
section
namespace Go.Sx
open Go Go.Proofs Go.RowKit
attribute [local irreducible] C R Fin K Own OwnT Rd Pl Ok KOf RetOk OpsOf RP KP Res NoPanic KV KE RT KT OneT RS KS OneS
variable {M M' : Mem} {H H1 H2 : Hp}
def rrdB (v : Value) (at_ : Nat) (bad : Int) : Obj := .cells [v, .int .i64 (at_ : Int), .int .i64 bad].toArray 109 (0, 0)
theorem wrong_K {rb : Nat} {v : Value} {at_ at2 : Nat} {bad e : Int} : K Try.prog 88 [.pointer (some ⟨rb, 0, none⟩), .int .i64 (at2 : Int), .int .i64 e] M ((rb, rrdB v at_ bad) :: H) fun v' M' H' => v' = .int .u64 0 ∧ M' = M ∧ H' = (rb, rrdB v at2 e) :: H := by
  refine K.enterK Try.func88 rfl rfl rfl ?_
  intro Q hNP hQ
  unfold rrdB at hQ ⊢
  (repeat' (first | refine a_go ?_ | (with_reducible apply Fin.thenK; assumption) | (with_reducible (first | apply C.seqK | apply C.regionK); intro _ _) | (apply R.buildSlice0; exact rfl; intro bz) | (apply R.box; exact rfl; (simp only [Value.cells]; rfl); exact rfl; intro bx) | (apply R.alloc; (simp only [Value.cells]; rfl); exact rfl; intro ba) | (apply R.buildSlice; (exact a_prt); exact rfl; exact rfl; (exact a_fills); exact rfl; intro bl) | (refine a_sp ?_ ?_; (intro h; skip; rotate_left; intro h; skip; rotate_left)) | fail))
  (apply Fin.returnA (H2 := (rb, .cells [v, .int .i64 (at2 : Int), .int .i64 e].toArray 109 (0, 0)) :: H); assumption; (first | exact .inl rfl | exact .inr rfl); exact rfl; (exact a_res); (simp only [retv]; rfl); (exact a_arr))
  exact ⟨rfl, rfl, rfl⟩
theorem rrbyte_K {rb : Nat} {v : Value} {bs : Txt} {at_ : Nat} {bad : Int} {most : UInt8} (hb : PlB M v bs) (ha : at_ ≤ bs.length) : K Try.prog 66 [.pointer (some ⟨rb, 0, none⟩), bv most] M ((rb, rrdB v at_ bad) :: H) fun v' M' H' => v' = bv (byteR bs most at_ bad).1 ∧ M' = M ∧ H' = (rb, rrdB v (byteR bs most at_ bad).2.1 (byteR bs most at_ bad).2.2) :: H := by
  refine K.enterK Try.func66 rfl rfl rfl ?_
  intro Q hNP hQ
  obtain ⟨A, c, rfl, h1, h2, h3⟩ := hb
  by_cases hbad : bad = 0
  · subst hbad
    by_cases hix : at_ < bs.length
    · obtain ⟨b0, o0, cc, e0, f0, rfl, hM, hcell⟩ := h3.get (i := at_) (v := bv bs[at_]) (by rw [List.getElem?_map, List.getElem?_eq_getElem hix]; rfl)
      have hbr : byteR bs most at_ 0 = if most.toNat < bs[at_].toNat then (0, at_, 12) else (bs[at_], at_ + 1, 0) := by
        unfold byteR
        rw [if_neg (by simp), List.getElem?_eq_getElem hix]
      generalize bs[at_] = x at hcell hbr
      have e1 : o0 + ((at_ : Nat) : Int).toNat * 1 = o0 + at_ := by omega
      have e2 : o0 + ((at_ : Int) + 1 - 1).toNat * 1 = o0 + at_ := by omega
      unfold rrdB at hQ ⊢
      (repeat' (first | refine a_go ?_ | (with_reducible apply Fin.thenK; assumption) | (with_reducible (first | apply C.seqK | apply C.regionK); intro _ _) | (apply R.buildSlice0; exact rfl; intro bz) | (apply R.box; exact rfl; (simp only [Value.cells]; rfl); exact rfl; intro bx) | (apply R.alloc; (simp only [Value.cells]; rfl); exact rfl; intro ba) | (apply R.buildSlice; (exact a_prt); exact rfl; exact rfl; (exact a_fills); exact rfl; intro bl) | (refine a_sp ?_ ?_; (intro h; skip; rotate_left; intro h; skip; rotate_left)) | fail))
      (apply C.regionT (t := .free 0 (.free 1 (.free 2 (.free 3 (.free 4 (.free 5 (.free 6 (.free 7 (.free 8 (.free 9 (.free 10 .nil))))))))))) (Hs := [(rb, .cells [.slice (some ⟨b0, o0, none⟩) bs.length c, .int .i64 ↑at_, .int .i64 0].toArray 109 (0, 0))]); exact Mix.h; (first | exact Arr.all _ | (exact a_arr) | ((try simp only [List.append_assoc, List.cons_append, List.nil_append, List.append_nil]); exact a_arr)); (exact a_np); kernel_rfl)
      (repeat' (first | (apply RT.step; exact rfl; intro _ _ _; (apply Ok.move; exact rfl); exact rfl) | ((first | (apply RT.step; exact rfl; intro _ _ _) | (apply RT.stepT; exact rfl; exact rfl; exact rfl; exact rfl; intro _ _ _)); (first | (apply Ok.ltTr; exact rfl; exact rfl; omega) | (apply Ok.ltF; exact rfl; exact rfl; omega) | (apply Ok.gtTr; exact rfl; exact rfl; omega) | (apply Ok.gtF; exact rfl; exact rfl; omega) | (apply Ok.geTr; exact rfl; exact rfl; omega) | (apply Ok.geF; exact rfl; exact rfl; omega) | (apply Ok.leTr; exact rfl; exact rfl; omega) | (apply Ok.leF; exact rfl; exact rfl; omega) | (apply Ok.neIT; exact rfl; exact rfl; omega) | (apply Ok.eqIF; exact rfl; exact rfl; omega)); exact rfl) | (first | (apply RT.step; exact rfl; intro _ _ _; (exact a_ok); exact rfl) | (apply RT.stepT; exact rfl; exact rfl; exact rfl; exact rfl; intro _ _ _; (exact a_ok); exact rfl) | (apply RT.stepF; exact rfl; exact rfl; exact rfl; exact rfl; exact rfl; exact rfl) | (apply RT.stepU; exact rfl; exact rfl; exact rfl; exact rfl; exact rfl) | (apply RT.one; apply OneT.effF; exact rfl; exact rfl; exact rfl; exact rfl; exact rfl; exact rfl) | (apply RT.one; apply OneT.effU; exact rfl; exact rfl; exact rfl; exact rfl; exact rfl))))
      apply RT.nil
      (repeat' (first | refine a_go ?_ | (with_reducible apply Fin.thenK; assumption) | (with_reducible (first | apply C.seqK | apply C.regionK); intro _ _) | (apply R.buildSlice0; exact rfl; intro bz) | (apply R.box; exact rfl; (simp only [Value.cells]; rfl); exact rfl; intro bx) | (apply R.alloc; (simp only [Value.cells]; rfl); exact rfl; intro ba) | (apply R.buildSlice; (exact a_prt); exact rfl; exact rfl; (exact a_fills); exact rfl; intro bl) | (refine a_sp ?_ ?_; (intro h; skip; rotate_left; intro h; skip; rotate_left)) | fail))
      (apply C.regionT (t := .free 0 (.free 1 (.free 2 (.free 3 (.free 4 (.free 5 (.free 6 (.free 7 (.free 8 (.free 9 (.free 10 (.free 11 (.free 12 .nil))))))))))))) (Hs := [(rb, .cells [.slice (some ⟨b0, o0, none⟩) bs.length c, .int .i64 ↑at_, .int .i64 0].toArray 109 (0, 0))]); exact Mix.h; (first | exact Arr.all _ | (exact a_arr) | ((try simp only [List.append_assoc, List.cons_append, List.nil_append, List.append_nil]); exact a_arr)); (exact a_np); kernel_rfl)
      (repeat' (first | (apply RT.step; exact rfl; intro _ _ _; (apply Ok.move; exact rfl); exact rfl) | (apply RT.step; exact rfl; intro _ _ hMx; (first | (apply Ok.indexAddr; exact rfl; exact rfl; omega; omega) | (apply Ok.loadP; exact rfl; exact rfl; exact le_at hMx hM; rw [e1]; exact hcell)); exact rfl) | (first | (apply RT.step; exact rfl; intro _ _ _; (exact a_ok); exact rfl) | (apply RT.stepT; exact rfl; exact rfl; exact rfl; exact rfl; intro _ _ _; (exact a_ok); exact rfl) | (apply RT.stepF; exact rfl; exact rfl; exact rfl; exact rfl; exact rfl; exact rfl) | (apply RT.stepU; exact rfl; exact rfl; exact rfl; exact rfl; exact rfl) | (apply RT.one; apply OneT.effF; exact rfl; exact rfl; exact rfl; exact rfl; exact rfl; exact rfl) | (apply RT.one; apply OneT.effU; exact rfl; exact rfl; exact rfl; exact rfl; exact rfl))))
      apply RT.nil
      by_cases hm : most.toNat < x.toNat
      · rw [if_pos hm] at hbr
        rw [hbr] at hQ
        (repeat' (first | refine a_go ?_ | (with_reducible apply Fin.thenK; assumption) | (with_reducible (first | apply C.seqK | apply C.regionK); intro _ _) | (apply R.buildSlice0; exact rfl; intro bz) | (apply R.box; exact rfl; (simp only [Value.cells]; rfl); exact rfl; intro bx) | (apply R.alloc; (simp only [Value.cells]; rfl); exact rfl; intro ba) | (apply R.buildSlice; (exact a_prt); exact rfl; exact rfl; (exact a_fills); exact rfl; intro bl) | (refine a_sp ?_ ?_; (intro h; skip; rotate_left; intro h; skip; rotate_left)) | fail))
        any_goals (exfalso; omega)
        (apply R.call; (exact a_evs); exact rfl; exact wrong_K (at_ := at_) (at2 := at_) (bad := 0) (e := 12); rintro _ M _ ⟨rfl, rfl, rfl⟩)
        (repeat' (first | refine a_go ?_ | (with_reducible apply Fin.thenK; assumption) | (with_reducible (first | apply C.seqK | apply C.regionK); intro _ _) | (apply R.buildSlice0; exact rfl; intro bz) | (apply R.box; exact rfl; (simp only [Value.cells]; rfl); exact rfl; intro bx) | (apply R.alloc; (simp only [Value.cells]; rfl); exact rfl; intro ba) | (apply R.buildSlice; (exact a_prt); exact rfl; exact rfl; (exact a_fills); exact rfl; intro bl) | (refine a_sp ?_ ?_; (intro h; skip; rotate_left; intro h; skip; rotate_left)) | fail))
        (apply Fin.returnA (H2 := (rb, rrdB (.slice (some ⟨b0, o0, none⟩) bs.length c) at_ 12) :: H); assumption; (first | exact .inl rfl | exact .inr rfl); exact rfl; (exact a_res); (simp only [retv]; rfl); (exact a_arr))
        exact ⟨rfl, rfl, rfl⟩
      · rw [if_neg hm] at hbr
        rw [hbr] at hQ
        (repeat' (first | refine a_go ?_ | (with_reducible apply Fin.thenK; assumption) | (with_reducible (first | apply C.seqK | apply C.regionK); intro _ _) | (apply R.buildSlice0; exact rfl; intro bz) | (apply R.box; exact rfl; (simp only [Value.cells]; rfl); exact rfl; intro bx) | (apply R.alloc; (simp only [Value.cells]; rfl); exact rfl; intro ba) | (apply R.buildSlice; (exact a_prt); exact rfl; exact rfl; (exact a_fills); exact rfl; intro bl) | (refine a_sp ?_ ?_; (intro h; skip; rotate_left; intro h; skip; rotate_left)) | fail))
        any_goals (exfalso; omega)
        (apply C.regionT (t := .free 0 (.free 1 (.free 2 (.free 3 (.free 4 (.free 5 (.free 6 (.free 7 (.free 8 (.free 9 (.free 10 (.free 11 .nil)))))))))))) (Hs := [(rb, .cells [.slice (some ⟨b0, o0, none⟩) bs.length c, .int .i64 (↑at_ + 1), .int .i64 0].toArray 109 (0, 0))]); exact Mix.h; (first | exact Arr.all _ | (exact a_arr) | ((try simp only [List.append_assoc, List.cons_append, List.nil_append, List.append_nil]); exact a_arr)); (exact a_np); kernel_rfl)
        (repeat' (first | (apply RT.step; exact rfl; intro _ _ _; (apply Ok.move; exact rfl); exact rfl) | (apply RT.step; exact rfl; intro _ _ hMx; (first | (apply Ok.indexAddr; exact rfl; exact rfl; omega; omega) | (apply Ok.loadP; exact rfl; exact rfl; exact le_at hMx hM; rw [e2]; exact hcell)); exact rfl) | (first | (apply RT.step; exact rfl; intro _ _ _; (exact a_ok); exact rfl) | (apply RT.stepT; exact rfl; exact rfl; exact rfl; exact rfl; intro _ _ _; (exact a_ok); exact rfl) | (apply RT.stepF; exact rfl; exact rfl; exact rfl; exact rfl; exact rfl; exact rfl) | (apply RT.stepU; exact rfl; exact rfl; exact rfl; exact rfl; exact rfl) | (apply RT.one; apply OneT.effF; exact rfl; exact rfl; exact rfl; exact rfl; exact rfl; exact rfl) | (apply RT.one; apply OneT.effU; exact rfl; exact rfl; exact rfl; exact rfl; exact rfl))))
        apply RT.nil
        (repeat' (first | refine a_go ?_ | (with_reducible apply Fin.thenK; assumption) | (with_reducible (first | apply C.seqK | apply C.regionK); intro _ _) | (apply R.buildSlice0; exact rfl; intro bz) | (apply R.box; exact rfl; (simp only [Value.cells]; rfl); exact rfl; intro bx) | (apply R.alloc; (simp only [Value.cells]; rfl); exact rfl; intro ba) | (apply R.buildSlice; (exact a_prt); exact rfl; exact rfl; (exact a_fills); exact rfl; intro bl) | (refine a_sp ?_ ?_; (intro h; skip; rotate_left; intro h; skip; rotate_left)) | fail))
        (apply Fin.returnA (H2 := (rb, .cells [.slice (some ⟨b0, o0, none⟩) bs.length c, .int .i64 (↑at_ + 1), .int .i64 0].toArray 109 (0, 0)) :: H); assumption; (first | exact .inl rfl | exact .inr rfl); exact rfl; (exact a_res); (simp only [retv]; rfl); (exact a_arr))
        exact ⟨rfl, rfl, rfl⟩
    · have hbr : byteR bs most at_ 0 = (0, at_, 10) := by
        unfold byteR
        rw [if_neg (by simp), List.getElem?_eq_none (by omega)]
      rw [hbr] at hQ
      unfold rrdB at hQ ⊢
      (repeat' (first | refine a_go ?_ | (with_reducible apply Fin.thenK; assumption) | (with_reducible (first | apply C.seqK | apply C.regionK); intro _ _) | (apply R.buildSlice0; exact rfl; intro bz) | (apply R.box; exact rfl; (simp only [Value.cells]; rfl); exact rfl; intro bx) | (apply R.alloc; (simp only [Value.cells]; rfl); exact rfl; intro ba) | (apply R.buildSlice; (exact a_prt); exact rfl; exact rfl; (exact a_fills); exact rfl; intro bl) | (refine a_sp ?_ ?_; (intro h; skip; rotate_left; intro h; skip; rotate_left)) | fail))
      (apply C.regionT (t := .free 0 (.free 1 (.free 2 (.free 3 (.free 4 (.free 5 (.free 6 (.free 7 (.free 8 (.free 9 (.free 10 .nil))))))))))) (Hs := [(rb, .cells [.slice A bs.length c, .int .i64 ↑at_, .int .i64 0].toArray 109 (0, 0))]); exact Mix.h; (first | exact Arr.all _ | (exact a_arr) | ((try simp only [List.append_assoc, List.cons_append, List.nil_append, List.append_nil]); exact a_arr)); (exact a_np); kernel_rfl)
      (repeat' (first | (apply RT.step; exact rfl; intro _ _ _; (apply Ok.move; exact rfl); exact rfl) | ((first | (apply RT.step; exact rfl; intro _ _ _) | (apply RT.stepT; exact rfl; exact rfl; exact rfl; exact rfl; intro _ _ _)); (first | (apply Ok.ltTr; exact rfl; exact rfl; omega) | (apply Ok.ltF; exact rfl; exact rfl; omega) | (apply Ok.gtTr; exact rfl; exact rfl; omega) | (apply Ok.gtF; exact rfl; exact rfl; omega) | (apply Ok.geTr; exact rfl; exact rfl; omega) | (apply Ok.geF; exact rfl; exact rfl; omega) | (apply Ok.leTr; exact rfl; exact rfl; omega) | (apply Ok.leF; exact rfl; exact rfl; omega) | (apply Ok.neIT; exact rfl; exact rfl; omega) | (apply Ok.eqIF; exact rfl; exact rfl; omega)); exact rfl) | (first | (apply RT.step; exact rfl; intro _ _ _; (exact a_ok); exact rfl) | (apply RT.stepT; exact rfl; exact rfl; exact rfl; exact rfl; intro _ _ _; (exact a_ok); exact rfl) | (apply RT.stepF; exact rfl; exact rfl; exact rfl; exact rfl; exact rfl; exact rfl) | (apply RT.stepU; exact rfl; exact rfl; exact rfl; exact rfl; exact rfl) | (apply RT.one; apply OneT.effF; exact rfl; exact rfl; exact rfl; exact rfl; exact rfl; exact rfl) | (apply RT.one; apply OneT.effU; exact rfl; exact rfl; exact rfl; exact rfl; exact rfl))))
      apply RT.nil
      (repeat' (first | refine a_go ?_ | (with_reducible apply Fin.thenK; assumption) | (with_reducible (first | apply C.seqK | apply C.regionK); intro _ _) | (apply R.buildSlice0; exact rfl; intro bz) | (apply R.box; exact rfl; (simp only [Value.cells]; rfl); exact rfl; intro bx) | (apply R.alloc; (simp only [Value.cells]; rfl); exact rfl; intro ba) | (apply R.buildSlice; (exact a_prt); exact rfl; exact rfl; (exact a_fills); exact rfl; intro bl) | (refine a_sp ?_ ?_; (intro h; skip; rotate_left; intro h; skip; rotate_left)) | fail))
      (apply R.call; (exact a_evs); exact rfl; exact wrong_K (at_ := at_) (at2 := at_) (bad := 0) (e := 10); rintro _ M _ ⟨rfl, rfl, rfl⟩)
      (repeat' (first | refine a_go ?_ | (with_reducible apply Fin.thenK; assumption) | (with_reducible (first | apply C.seqK | apply C.regionK); intro _ _) | (apply R.buildSlice0; exact rfl; intro bz) | (apply R.box; exact rfl; (simp only [Value.cells]; rfl); exact rfl; intro bx) | (apply R.alloc; (simp only [Value.cells]; rfl); exact rfl; intro ba) | (apply R.buildSlice; (exact a_prt); exact rfl; exact rfl; (exact a_fills); exact rfl; intro bl) | (refine a_sp ?_ ?_; (intro h; skip; rotate_left; intro h; skip; rotate_left)) | fail))
      (apply Fin.returnA (H2 := (rb, rrdB (.slice A bs.length c) at_ 10) :: H); assumption; (first | exact .inl rfl | exact .inr rfl); exact rfl; (exact a_res); (simp only [retv]; rfl); (exact a_arr))
      exact ⟨rfl, rfl, rfl⟩
  · have hbr : byteR bs most at_ bad = (0, at_, bad) := if_pos hbad
    rw [hbr] at hQ
    unfold rrdB at hQ ⊢
    (repeat' (first | (apply R.step; (apply Ok.move; exact rfl); exact rfl) | (apply R.step; (first | (apply Ok.ltTr; exact rfl; exact rfl; omega) | (apply Ok.ltF; exact rfl; exact rfl; omega) | (apply Ok.gtTr; exact rfl; exact rfl; omega) | (apply Ok.gtF; exact rfl; exact rfl; omega) | (apply Ok.geTr; exact rfl; exact rfl; omega) | (apply Ok.geF; exact rfl; exact rfl; omega) | (apply Ok.leTr; exact rfl; exact rfl; omega) | (apply Ok.leF; exact rfl; exact rfl; omega) | (apply Ok.neIT; exact rfl; exact rfl; omega) | (apply Ok.eqIF; exact rfl; exact rfl; omega)); exact rfl) | refine a_go ?_ | (with_reducible apply Fin.thenK; assumption) | (with_reducible (first | apply C.seqK | apply C.regionK); intro _ _) | (apply R.buildSlice0; exact rfl; intro bz) | (apply R.box; exact rfl; (simp only [Value.cells]; rfl); exact rfl; intro bx) | (apply R.alloc; (simp only [Value.cells]; rfl); exact rfl; intro ba) | (apply R.buildSlice; (exact a_prt); exact rfl; exact rfl; (exact a_fills); exact rfl; intro bl) | (refine a_sp ?_ ?_; (intro h; skip; rotate_left; intro h; skip; rotate_left)) | fail))
    (apply Fin.returnA (H2 := (rb, .cells [.slice A bs.length c, .int .i64 ↑at_, .int .i64 bad].toArray 109 (0, 0)) :: H); assumption; (first | exact .inl rfl | exact .inr rfl); exact rfl; (exact a_res); (simp only [retv]; rfl); (exact a_arr))
    exact ⟨rfl, rfl, rfl⟩
theorem rrend_K {rb : Nat} {v : Value} {bs : Txt} {at_ : Nat} {bad : Int} (hb : PlB M v bs) (hl : bs.length ≤ 1099511627776) : K Try.prog 67 [.pointer (some ⟨rb, 0, none⟩)] M ((rb, rrdB v at_ bad) :: H) fun v' M' H' => v' = .int .i64 (endR bs at_ bad) ∧ M' = M ∧ H' = (rb, rrdB v at_ bad) :: H := by
  refine K.enterK Try.func67 rfl rfl rfl ?_
  intro Q hNP hQ
  obtain ⟨A, c, rfl, h1, h2, h3⟩ := hb
  unfold rrdB at hQ ⊢
  (repeat' (first | refine a_go ?_ | (with_reducible apply Fin.thenK; assumption) | (with_reducible (first | apply C.seqK | apply C.regionK); intro _ _) | (apply R.buildSlice0; exact rfl; intro bz) | (apply R.box; exact rfl; (simp only [Value.cells]; rfl); exact rfl; intro bx) | (apply R.alloc; (simp only [Value.cells]; rfl); exact rfl; intro ba) | (apply R.buildSlice; (exact a_prt); exact rfl; exact rfl; (exact a_fills); exact rfl; intro bl) | (refine a_sp ?_ ?_; (intro h; skip; rotate_left; intro h; skip; rotate_left)) | fail))
  (apply C.regionT (t := .free 0 (.free 1 (.free 2 (.free 3 (.free 4 (.free 5 (.free 6 (.free 7 (.free 8 (.free 9 (.free 10 (.free 11 (.free 12 (.free 13 (.free 14 (.free 15 (.free 16 .nil))))))))))))))))) (Hs := [(rb, .cells [.slice A bs.length c, .int .i64 ↑at_, .int .i64 bad].toArray 109 (0, 0))]); exact Mix.h; (first | exact Arr.all _ | (exact a_arr) | ((try simp only [List.append_assoc, List.cons_append, List.nil_append, List.append_nil]); exact a_arr)); (exact a_np); kernel_rfl)
  by_cases hbad : bad = 0
  · subst hbad
    by_cases hlt : at_ < bs.length
    · have hE : endR bs at_ 0 = 11 := if_pos ⟨rfl, hlt⟩
      rw [hE] at hQ
      (repeat' (first | (apply RT.step; exact rfl; intro _ _ _; (apply Ok.move; exact rfl); exact rfl) | ((first | (apply RT.step; exact rfl; intro _ _ _) | (apply RT.stepT; exact rfl; exact rfl; exact rfl; exact rfl; intro _ _ _)); (first | (apply Ok.ltTr; exact rfl; exact rfl; omega) | (apply Ok.ltF; exact rfl; exact rfl; omega) | (apply Ok.gtTr; exact rfl; exact rfl; omega) | (apply Ok.gtF; exact rfl; exact rfl; omega) | (apply Ok.geTr; exact rfl; exact rfl; omega) | (apply Ok.geF; exact rfl; exact rfl; omega) | (apply Ok.leTr; exact rfl; exact rfl; omega) | (apply Ok.leF; exact rfl; exact rfl; omega) | (apply Ok.neIT; exact rfl; exact rfl; omega) | (apply Ok.eqIF; exact rfl; exact rfl; omega)); exact rfl) | (first | (apply RT.step; exact rfl; intro _ _ _; (exact a_ok); exact rfl) | (apply RT.stepT; exact rfl; exact rfl; exact rfl; exact rfl; intro _ _ _; (exact a_ok); exact rfl) | (apply RT.stepF; exact rfl; exact rfl; exact rfl; exact rfl; exact rfl; exact rfl) | (apply RT.stepU; exact rfl; exact rfl; exact rfl; exact rfl; exact rfl) | (apply RT.one; apply OneT.effF; exact rfl; exact rfl; exact rfl; exact rfl; exact rfl; exact rfl) | (apply RT.one; apply OneT.effU; exact rfl; exact rfl; exact rfl; exact rfl; exact rfl))))
      apply RT.nil
      (repeat' (first | refine a_go ?_ | (with_reducible apply Fin.thenK; assumption) | (with_reducible (first | apply C.seqK | apply C.regionK); intro _ _) | (apply R.buildSlice0; exact rfl; intro bz) | (apply R.box; exact rfl; (simp only [Value.cells]; rfl); exact rfl; intro bx) | (apply R.alloc; (simp only [Value.cells]; rfl); exact rfl; intro ba) | (apply R.buildSlice; (exact a_prt); exact rfl; exact rfl; (exact a_fills); exact rfl; intro bl) | (refine a_sp ?_ ?_; (intro h; skip; rotate_left; intro h; skip; rotate_left)) | fail))
      (apply Fin.returnA (H2 := (rb, .cells [.slice A bs.length c, .int .i64 ↑at_, .int .i64 0].toArray 109 (0, 0)) :: H); assumption; (first | exact .inl rfl | exact .inr rfl); exact rfl; (exact a_res); (simp only [retv]; rfl); (exact a_arr))
      exact ⟨rfl, rfl, rfl⟩
    · have hE : endR bs at_ 0 = 0 := if_neg (fun h => hlt h.2)
      rw [hE] at hQ
      (repeat' (first | (apply RT.step; exact rfl; intro _ _ _; (apply Ok.move; exact rfl); exact rfl) | ((first | (apply RT.step; exact rfl; intro _ _ _) | (apply RT.stepT; exact rfl; exact rfl; exact rfl; exact rfl; intro _ _ _)); (first | (apply Ok.ltTr; exact rfl; exact rfl; omega) | (apply Ok.ltF; exact rfl; exact rfl; omega) | (apply Ok.gtTr; exact rfl; exact rfl; omega) | (apply Ok.gtF; exact rfl; exact rfl; omega) | (apply Ok.geTr; exact rfl; exact rfl; omega) | (apply Ok.geF; exact rfl; exact rfl; omega) | (apply Ok.leTr; exact rfl; exact rfl; omega) | (apply Ok.leF; exact rfl; exact rfl; omega) | (apply Ok.neIT; exact rfl; exact rfl; omega) | (apply Ok.eqIF; exact rfl; exact rfl; omega)); exact rfl) | (first | (apply RT.step; exact rfl; intro _ _ _; (exact a_ok); exact rfl) | (apply RT.stepT; exact rfl; exact rfl; exact rfl; exact rfl; intro _ _ _; (exact a_ok); exact rfl) | (apply RT.stepF; exact rfl; exact rfl; exact rfl; exact rfl; exact rfl; exact rfl) | (apply RT.stepU; exact rfl; exact rfl; exact rfl; exact rfl; exact rfl) | (apply RT.one; apply OneT.effF; exact rfl; exact rfl; exact rfl; exact rfl; exact rfl; exact rfl) | (apply RT.one; apply OneT.effU; exact rfl; exact rfl; exact rfl; exact rfl; exact rfl))))
      apply RT.nil
      (repeat' (first | refine a_go ?_ | (with_reducible apply Fin.thenK; assumption) | (with_reducible (first | apply C.seqK | apply C.regionK); intro _ _) | (apply R.buildSlice0; exact rfl; intro bz) | (apply R.box; exact rfl; (simp only [Value.cells]; rfl); exact rfl; intro bx) | (apply R.alloc; (simp only [Value.cells]; rfl); exact rfl; intro ba) | (apply R.buildSlice; (exact a_prt); exact rfl; exact rfl; (exact a_fills); exact rfl; intro bl) | (refine a_sp ?_ ?_; (intro h; skip; rotate_left; intro h; skip; rotate_left)) | fail))
      (apply Fin.returnA (H2 := (rb, .cells [.slice A bs.length c, .int .i64 ↑at_, .int .i64 0].toArray 109 (0, 0)) :: H); assumption; (first | exact .inl rfl | exact .inr rfl); exact rfl; (exact a_res); (simp only [retv]; rfl); (exact a_arr))
      exact ⟨rfl, rfl, rfl⟩
  · have hE : endR bs at_ bad = bad := if_neg (fun h => hbad h.1)
    rw [hE] at hQ
    (repeat' (first | (apply RT.step; exact rfl; intro _ _ _; (apply Ok.move; exact rfl); exact rfl) | ((first | (apply RT.step; exact rfl; intro _ _ _) | (apply RT.stepT; exact rfl; exact rfl; exact rfl; exact rfl; intro _ _ _)); (first | (apply Ok.ltTr; exact rfl; exact rfl; omega) | (apply Ok.ltF; exact rfl; exact rfl; omega) | (apply Ok.gtTr; exact rfl; exact rfl; omega) | (apply Ok.gtF; exact rfl; exact rfl; omega) | (apply Ok.geTr; exact rfl; exact rfl; omega) | (apply Ok.geF; exact rfl; exact rfl; omega) | (apply Ok.leTr; exact rfl; exact rfl; omega) | (apply Ok.leF; exact rfl; exact rfl; omega) | (apply Ok.neIT; exact rfl; exact rfl; omega) | (apply Ok.eqIF; exact rfl; exact rfl; omega)); exact rfl) | (first | (apply RT.step; exact rfl; intro _ _ _; (exact a_ok); exact rfl) | (apply RT.stepT; exact rfl; exact rfl; exact rfl; exact rfl; intro _ _ _; (exact a_ok); exact rfl) | (apply RT.stepF; exact rfl; exact rfl; exact rfl; exact rfl; exact rfl; exact rfl) | (apply RT.stepU; exact rfl; exact rfl; exact rfl; exact rfl; exact rfl) | (apply RT.one; apply OneT.effF; exact rfl; exact rfl; exact rfl; exact rfl; exact rfl; exact rfl) | (apply RT.one; apply OneT.effU; exact rfl; exact rfl; exact rfl; exact rfl; exact rfl))))
    apply RT.nil
    (repeat' (first | refine a_go ?_ | (with_reducible apply Fin.thenK; assumption) | (with_reducible (first | apply C.seqK | apply C.regionK); intro _ _) | (apply R.buildSlice0; exact rfl; intro bz) | (apply R.box; exact rfl; (simp only [Value.cells]; rfl); exact rfl; intro bx) | (apply R.alloc; (simp only [Value.cells]; rfl); exact rfl; intro ba) | (apply R.buildSlice; (exact a_prt); exact rfl; exact rfl; (exact a_fills); exact rfl; intro bl) | (refine a_sp ?_ ?_; (intro h; skip; rotate_left; intro h; skip; rotate_left)) | fail))
    (apply Fin.returnA (H2 := (rb, .cells [.slice A bs.length c, .int .i64 ↑at_, .int .i64 bad].toArray 109 (0, 0)) :: H); assumption; (first | exact .inl rfl | exact .inr rfl); exact rfl; (exact a_res); (simp only [retv]; rfl); (exact a_arr))
    exact ⟨rfl, rfl, rfl⟩
end Go.Sx
end
section
namespace Go.Sx
open Go Go.Proofs Go.RowKit
attribute [local irreducible] C R Fin K Own OwnT Rd Pl Ok KOf RetOk OpsOf RP KP Res NoPanic KV KE RT KT OneT RS KS OneS
variable {M M' : Mem} {H H1 H2 : Hp}
theorem rrnum_K {rb : Nat} {v : Value} {bs : Txt} {at_ : Nat} {bad : Int} {most : Nat} (hb : PlB M v bs) (hl : bs.length ≤ 1099511627776) (ha : at_ ≤ bs.length) : K Try.prog 65 [.pointer (some ⟨rb, 0, none⟩), .int .u64 (most : Int)] M ((rb, rrdB v at_ bad) :: H) fun v' M' H' => v' = .int .u64 ((numRd bs most at_ bad).1 : Int) ∧ M' = M ∧ H' = (rb, rrdB v (numRd bs most at_ bad).2.1 (numRd bs most at_ bad).2.2) :: H := by
  refine K.enterK Try.func65 rfl rfl rfl ?_
  intro Q hNP hQ
  obtain ⟨A, c, rfl, h1, h2, h3⟩ := hb
  by_cases hbad : bad = 0
  rotate_left
  · have hbr : numRd bs most at_ bad = (0, at_, bad) := if_pos hbad
    rw [hbr] at hQ
    unfold rrdB at hQ ⊢
    (repeat' (first | (apply R.step; (apply Ok.move; exact rfl); exact rfl) | (apply R.step; (first | (apply Ok.ltTr; exact rfl; exact rfl; omega) | (apply Ok.ltF; exact rfl; exact rfl; omega) | (apply Ok.gtTr; exact rfl; exact rfl; omega) | (apply Ok.gtF; exact rfl; exact rfl; omega) | (apply Ok.geTr; exact rfl; exact rfl; omega) | (apply Ok.geF; exact rfl; exact rfl; omega) | (apply Ok.leTr; exact rfl; exact rfl; omega) | (apply Ok.leF; exact rfl; exact rfl; omega) | (apply Ok.neIT; exact rfl; exact rfl; omega) | (apply Ok.eqIF; exact rfl; exact rfl; omega)); exact rfl) | refine a_go ?_ | (with_reducible apply Fin.thenK; assumption) | (with_reducible (first | apply C.seqK | apply C.regionK); intro _ _) | (apply R.buildSlice0; exact rfl; intro bz) | (apply R.box; exact rfl; (simp only [Value.cells]; rfl); exact rfl; intro bx) | (apply R.alloc; (simp only [Value.cells]; rfl); exact rfl; intro ba) | (apply R.buildSlice; (exact a_prt); exact rfl; exact rfl; (exact a_fills); exact rfl; intro bl) | (refine a_sp ?_ ?_; (intro h; skip; rotate_left; intro h; skip; rotate_left)) | fail))
    (apply Fin.returnA (H2 := (rb, .cells [.slice A bs.length c, .int .i64 ↑at_, .int .i64 bad].toArray 109 (0, 0)) :: H); assumption; (first | exact .inl rfl | exact .inr rfl); exact rfl; (exact a_res); (simp only [retv]; rfl); (exact a_arr))
    exact ⟨rfl, rfl, rfl⟩
  subst hbad
  have hnr : numRd bs most at_ 0 = if (numR bs at_).2.1 = 0 ∧ most < (numR bs at_).1 then (0, at_, 12) else if (numR bs at_).2.1 ≠ 0 then (0, at_, (numR bs at_).2.1) else ((numR bs at_).1, (numR bs at_).2.2, 0) := if_neg (by simp)
  unfold rrdB at hQ ⊢
  (repeat' (first | refine a_go ?_ | (with_reducible apply Fin.thenK; assumption) | (with_reducible (first | apply C.seqK | apply C.regionK); intro _ _) | (apply R.buildSlice0; exact rfl; intro bz) | (apply R.box; exact rfl; (simp only [Value.cells]; rfl); exact rfl; intro bx) | (apply R.alloc; (simp only [Value.cells]; rfl); exact rfl; intro ba) | (apply R.buildSlice; (exact a_prt); exact rfl; exact rfl; (exact a_fills); exact rfl; intro bl) | (refine a_sp ?_ ?_; (intro h; skip; rotate_left; intro h; skip; rotate_left)) | fail))
  apply C.loop (fun y : NmL => (y.i : Int) = y.ii ∧ y.i < 10 ∧ y.n < 128 ^ y.i ∧ numR bs at_ = numGo bs at_ (10 - y.i) y.i y.n)
    (fun y => [(0, .pointer (some ⟨rb, 0, none⟩)), (1, .int .u64 (most : Int)), (5, .int .i64 (at_ : Int)), (6, .int .u64 (y.n : Int)), (7, .int .i64 y.ii)]) (fun _ => M) (fun _ => (rb, .cells [.slice A bs.length c, .int .i64 ↑at_, .int .i64 0].toArray 109 (0, 0)) :: H) (fun y => 10 - y.i) ⟨0, 0, 0⟩
  · exact ⟨rfl, by decide, by decide, rfl⟩
  · (exact a_subs)
  · exact rfl
  · exact rfl
  rintro ⟨i, ii, n⟩ ⟨hii, hi, hn, hr⟩
  dsimp only at hii hi hn hr ⊢
  by_cases hix : at_ + i < bs.length
  · obtain ⟨b0, o0, cc, e0, f0, hA, hM, hcell⟩ := h3.get (i := at_ + i) (v := bv bs[at_ + i]) (by rw [List.getElem?_map, List.getElem?_eq_getElem hix]; rfl)
    subst hA
    rw [show 10 - i = (9 - i) + 1 by omega] at hr
    unfold numGo at hr
    rw [List.getElem?_eq_getElem hix] at hr
    dsimp only at hr
    generalize bs[at_ + i] = x at hcell hr
    have hx := x.toNat_lt
    have hpw : 2 ^ (7 * i) = 128 ^ i := by rw [Nat.pow_mul]
    obtain ⟨p, hp128⟩ : ∃ p, p = 128 ^ i := ⟨_, rfl⟩
    have hx7 : x.toNat % 128 * p ≤ 127 * p := Nat.mul_le_mul_right _ (by omega)
    have hsucc : 128 ^ (i + 1) = p * 128 := by rw [Nat.pow_succ, hp128]
    have hp9 : i ≤ 8 → p * 128 ≤ 9223372036854775808 := fun h => by
      rw [← hsucc]
      exact Nat.le_trans (Nat.pow_le_pow_right (by decide) (show i + 1 ≤ 9 by omega)) (by decide)
    have hp10 : i = 9 → p = 9223372036854775808 := fun h => by rw [hp128, h]
    rw [← hp128] at hn hr
    have hbig : ¬ (i = 9 ∧ 1 < x.toNat) → n + x.toNat % 128 * p ≤ 18446744073709551615 := fun h => by
      by_cases h9 : i = 9
      · have h1 := hp10 h9
        have h2 : x.toNat % 128 ≤ 1 := by omega
        have h3 : x.toNat % 128 * p ≤ 1 * p := Nat.mul_le_mul_right _ h2
        omega
      · have := hp9 (by omega)
        omega
    have e1 : o0 + ((at_ : Int) + ii).toNat * 1 = o0 + (at_ + i) := by omega
    have e128 : (x.toNat : Int) % 128 = ((x.toNat % 128 : Nat) : Int) := by omega
    by_cases hf9 : i = 9 ∧ 1 < x.toNat
    · rw [if_pos hf9] at hr
      have hnz : numRd bs most at_ 0 = (0, at_, 11) := by
        rw [hnr, hr]
        rfl
      rw [hnz] at hQ
      have hi9 : ii = 9 := by omega
      (repeat' (first | (apply R.step; (apply Ok.move; exact rfl); exact rfl) | (apply R.step; (first | (apply Ok.loadP; exact rfl; exact rfl; exact hM; rw [e1]; exact hcell) | (apply Ok.eqIR; exact rfl; exact rfl; exact hi9) | (apply Ok.geF; exact rfl; exact rfl; omega) | (apply Ok.gtTr; exact rfl; exact rfl; omega)); exact rfl) | refine a_go ?_ | (with_reducible apply Fin.thenK; assumption) | (with_reducible (first | apply C.seqK | apply C.regionK); intro _ _) | (apply R.buildSlice0; exact rfl; intro bz) | (apply R.box; exact rfl; (simp only [Value.cells]; rfl); exact rfl; intro bx) | (apply R.alloc; (simp only [Value.cells]; rfl); exact rfl; intro ba) | (apply R.buildSlice; (exact a_prt); exact rfl; exact rfl; (exact a_fills); exact rfl; intro bl) | (refine a_sp ?_ ?_; (intro h; skip; rotate_left; intro h; skip; rotate_left)) | fail))
      (apply R.call; (exact a_evs); exact rfl; exact wrong_K (at_ := at_) (at2 := at_) (bad := 0) (e := 11); rintro _ M _ ⟨rfl, rfl, rfl⟩)
      (repeat' (first | refine a_go ?_ | (with_reducible apply Fin.thenK; assumption) | (with_reducible (first | apply C.seqK | apply C.regionK); intro _ _) | (apply R.buildSlice0; exact rfl; intro bz) | (apply R.box; exact rfl; (simp only [Value.cells]; rfl); exact rfl; intro bx) | (apply R.alloc; (simp only [Value.cells]; rfl); exact rfl; intro ba) | (apply R.buildSlice; (exact a_prt); exact rfl; exact rfl; (exact a_fills); exact rfl; intro bl) | (refine a_sp ?_ ?_; (intro h; skip; rotate_left; intro h; skip; rotate_left)) | fail))
      (apply Fin.returnA (H2 := (rb, rrdB (.slice (some ⟨b0, o0, none⟩) bs.length c) at_ 11) :: H); assumption; (first | exact .inl rfl | exact .inr rfl); exact rfl; (exact a_res); (simp only [retv]; rfl); (exact a_arr))
      exact ⟨rfl, rfl, rfl⟩
    · rw [if_neg hf9] at hr
      have hbb := hbig hf9
      (repeat' (first | (apply R.step; (exact a_ok); exact rfl) | (first | (with_reducible first | apply R.nil | apply C.ret | apply C.block | apply C.skip | apply C.exit | apply Fin.thenRet | apply Fin.thenExit | apply Fin.blockNormal | apply Fin.blockRet | apply Fin.blockExit) | (with_reducible apply Fin.thenK; assumption) | (with_reducible apply C.seqR; intro _ _) | (with_reducible apply C.regionK; intro _ _) | (with_reducible apply Fin.blockOther; exact rfl)) | (first | (apply R.store; exact rfl; exact rfl; exact rfl; (exact a_at); (exact a_blit); exact rfl; (focus (simp [Value.oneCell']; done))) | (apply R.buildSlice0; exact rfl; intro bz) | (apply R.box; exact rfl; (simp only [Value.cells]; rfl); exact rfl; intro bx) | (apply R.alloc; (simp only [Value.cells]; rfl); exact rfl; intro ba) | (apply R.buildSlice; (exact a_prt); exact rfl; exact rfl; (exact a_fills); exact rfl; intro bl)) | (first | (apply R.guardT; assumption; exact rfl; exact rfl; exact rfl) | (apply R.guardF; assumption; exact rfl; exact rfl; exact rfl; exact rfl; exact rfl) | (apply R.guardU; assumption; exact rfl; exact rfl; exact rfl; exact rfl) | (apply R.guardDec; assumption; exact rfl; exact rfl; (intro h; skip; rotate_left; intro h; skip; rotate_left)) | (apply R.guardBeq; assumption; exact rfl; exact rfl; (intro h; skip; rotate_left; intro h; skip; rotate_left)) | (apply R.guardBne; assumption; exact rfl; exact rfl; (intro h; skip; rotate_left; intro h; skip; rotate_left)) | (apply R.guardNDec; assumption; exact rfl; exact rfl; (intro h; skip; rotate_left; intro h; skip; rotate_left)) | (apply R.guardNot; assumption; exact rfl; exact rfl; (intro h; skip; rotate_left; intro h; skip; rotate_left)) | (apply R.guardC; assumption; exact rfl; exact rfl; (intro h; skip; rotate_left; intro h; skip; rotate_left)))))
      (apply C.seqK; intro _ _)
      (repeat' (first | (apply R.step; (exact a_ok); exact rfl) | (first | (with_reducible first | apply R.nil | apply C.ret | apply C.block | apply C.skip | apply C.exit | apply Fin.thenRet | apply Fin.thenExit | apply Fin.blockNormal | apply Fin.blockRet | apply Fin.blockExit) | (with_reducible apply Fin.thenK; assumption) | (with_reducible apply C.seqR; intro _ _) | (with_reducible apply C.regionK; intro _ _) | (with_reducible apply Fin.blockOther; exact rfl)) | (first | (apply R.store; exact rfl; exact rfl; exact rfl; (exact a_at); (exact a_blit); exact rfl; (focus (simp [Value.oneCell']; done))) | (apply R.buildSlice0; exact rfl; intro bz) | (apply R.box; exact rfl; (simp only [Value.cells]; rfl); exact rfl; intro bx) | (apply R.alloc; (simp only [Value.cells]; rfl); exact rfl; intro ba) | (apply R.buildSlice; (exact a_prt); exact rfl; exact rfl; (exact a_fills); exact rfl; intro bl)) | (first | (apply R.guardT; assumption; exact rfl; exact rfl; exact rfl) | (apply R.guardF; assumption; exact rfl; exact rfl; exact rfl; exact rfl; exact rfl) | (apply R.guardU; assumption; exact rfl; exact rfl; exact rfl; exact rfl) | (apply R.guardDec; assumption; exact rfl; exact rfl; (intro h; skip; rotate_left; intro h; skip; rotate_left)) | (apply R.guardBeq; assumption; exact rfl; exact rfl; (intro h; skip; rotate_left; intro h; skip; rotate_left)) | (apply R.guardBne; assumption; exact rfl; exact rfl; (intro h; skip; rotate_left; intro h; skip; rotate_left)) | (apply R.guardNDec; assumption; exact rfl; exact rfl; (intro h; skip; rotate_left; intro h; skip; rotate_left)) | (apply R.guardNot; assumption; exact rfl; exact rfl; (intro h; skip; rotate_left; intro h; skip; rotate_left)) | (apply R.guardC; assumption; exact rfl; exact rfl; (intro h; skip; rotate_left; intro h; skip; rotate_left)))))
      (apply C.seqK; intro _ _)
      (repeat' (first | (apply R.step; (exact a_ok); exact rfl) | (first | (with_reducible first | apply R.nil | apply C.ret | apply C.block | apply C.skip | apply C.exit | apply Fin.thenRet | apply Fin.thenExit | apply Fin.blockNormal | apply Fin.blockRet | apply Fin.blockExit) | (with_reducible apply Fin.thenK; assumption) | (with_reducible apply C.seqR; intro _ _) | (with_reducible apply C.regionK; intro _ _) | (with_reducible apply Fin.blockOther; exact rfl)) | (first | (apply R.store; exact rfl; exact rfl; exact rfl; (exact a_at); (exact a_blit); exact rfl; (focus (simp [Value.oneCell']; done))) | (apply R.buildSlice0; exact rfl; intro bz) | (apply R.box; exact rfl; (simp only [Value.cells]; rfl); exact rfl; intro bx) | (apply R.alloc; (simp only [Value.cells]; rfl); exact rfl; intro ba) | (apply R.buildSlice; (exact a_prt); exact rfl; exact rfl; (exact a_fills); exact rfl; intro bl)) | (first | (apply R.guardT; assumption; exact rfl; exact rfl; exact rfl) | (apply R.guardF; assumption; exact rfl; exact rfl; exact rfl; exact rfl; exact rfl) | (apply R.guardU; assumption; exact rfl; exact rfl; exact rfl; exact rfl) | (apply R.guardDec; assumption; exact rfl; exact rfl; (intro h; skip; rotate_left; intro h; skip; rotate_left)) | (apply R.guardBeq; assumption; exact rfl; exact rfl; (intro h; skip; rotate_left; intro h; skip; rotate_left)) | (apply R.guardBne; assumption; exact rfl; exact rfl; (intro h; skip; rotate_left; intro h; skip; rotate_left)) | (apply R.guardNDec; assumption; exact rfl; exact rfl; (intro h; skip; rotate_left; intro h; skip; rotate_left)) | (apply R.guardNot; assumption; exact rfl; exact rfl; (intro h; skip; rotate_left; intro h; skip; rotate_left)) | (apply R.guardC; assumption; exact rfl; exact rfl; (intro h; skip; rotate_left; intro h; skip; rotate_left)))))
      (apply C.condDec; exact rfl; (intro h; exfalso; omega); intro _)
      (repeat' (first | (apply R.step; (exact a_ok); exact rfl) | (first | (with_reducible first | apply R.nil | apply C.ret | apply C.block | apply C.skip | apply C.exit | apply Fin.thenRet | apply Fin.thenExit | apply Fin.blockNormal | apply Fin.blockRet | apply Fin.blockExit) | (with_reducible apply Fin.thenK; assumption) | (with_reducible apply C.seqR; intro _ _) | (with_reducible apply C.regionK; intro _ _) | (with_reducible apply Fin.blockOther; exact rfl)) | (first | (apply R.store; exact rfl; exact rfl; exact rfl; (exact a_at); (exact a_blit); exact rfl; (focus (simp [Value.oneCell']; done))) | (apply R.buildSlice0; exact rfl; intro bz) | (apply R.box; exact rfl; (simp only [Value.cells]; rfl); exact rfl; intro bx) | (apply R.alloc; (simp only [Value.cells]; rfl); exact rfl; intro ba) | (apply R.buildSlice; (exact a_prt); exact rfl; exact rfl; (exact a_fills); exact rfl; intro bl)) | (first | (apply R.guardT; assumption; exact rfl; exact rfl; exact rfl) | (apply R.guardF; assumption; exact rfl; exact rfl; exact rfl; exact rfl; exact rfl) | (apply R.guardU; assumption; exact rfl; exact rfl; exact rfl; exact rfl) | (apply R.guardDec; assumption; exact rfl; exact rfl; (intro h; skip; rotate_left; intro h; skip; rotate_left)) | (apply R.guardBeq; assumption; exact rfl; exact rfl; (intro h; skip; rotate_left; intro h; skip; rotate_left)) | (apply R.guardBne; assumption; exact rfl; exact rfl; (intro h; skip; rotate_left; intro h; skip; rotate_left)) | (apply R.guardNDec; assumption; exact rfl; exact rfl; (intro h; skip; rotate_left; intro h; skip; rotate_left)) | (apply R.guardNot; assumption; exact rfl; exact rfl; (intro h; skip; rotate_left; intro h; skip; rotate_left)) | (apply R.guardC; assumption; exact rfl; exact rfl; (intro h; skip; rotate_left; intro h; skip; rotate_left)))))
      (apply R.step; (apply Ok.loadP; exact rfl; exact rfl; exact hM; rw [e1]; exact hcell); exact rfl)
      (repeat' (first | (apply R.step; (exact a_ok); exact rfl) | (first | (with_reducible first | apply R.nil | apply C.ret | apply C.block | apply C.skip | apply C.exit | apply Fin.thenRet | apply Fin.thenExit | apply Fin.blockNormal | apply Fin.blockRet | apply Fin.blockExit) | (with_reducible apply Fin.thenK; assumption) | (with_reducible apply C.seqR; intro _ _) | (with_reducible apply C.regionK; intro _ _) | (with_reducible apply Fin.blockOther; exact rfl)) | (first | (apply R.store; exact rfl; exact rfl; exact rfl; (exact a_at); (exact a_blit); exact rfl; (focus (simp [Value.oneCell']; done))) | (apply R.buildSlice0; exact rfl; intro bz) | (apply R.box; exact rfl; (simp only [Value.cells]; rfl); exact rfl; intro bx) | (apply R.alloc; (simp only [Value.cells]; rfl); exact rfl; intro ba) | (apply R.buildSlice; (exact a_prt); exact rfl; exact rfl; (exact a_fills); exact rfl; intro bl)) | (first | (apply R.guardT; assumption; exact rfl; exact rfl; exact rfl) | (apply R.guardF; assumption; exact rfl; exact rfl; exact rfl; exact rfl; exact rfl) | (apply R.guardU; assumption; exact rfl; exact rfl; exact rfl; exact rfl) | (apply R.guardDec; assumption; exact rfl; exact rfl; (intro h; skip; rotate_left; intro h; skip; rotate_left)) | (apply R.guardBeq; assumption; exact rfl; exact rfl; (intro h; skip; rotate_left; intro h; skip; rotate_left)) | (apply R.guardBne; assumption; exact rfl; exact rfl; (intro h; skip; rotate_left; intro h; skip; rotate_left)) | (apply R.guardNDec; assumption; exact rfl; exact rfl; (intro h; skip; rotate_left; intro h; skip; rotate_left)) | (apply R.guardNot; assumption; exact rfl; exact rfl; (intro h; skip; rotate_left; intro h; skip; rotate_left)) | (apply R.guardC; assumption; exact rfl; exact rfl; (intro h; skip; rotate_left; intro h; skip; rotate_left)))))
      apply C.seqCut (X := Unit) (fun _ => True) (fun _ => [(0, .pointer (some ⟨rb, 0, none⟩)), (1, .int .u64 (most : Int)), (5, .int .i64 (at_ : Int)), (6, .int .u64 (n : Int)), (7, .int .i64 ii), (8, bv x)]) (fun _ => M) (fun _ => (rb, .cells [.slice (some ⟨b0, o0, none⟩) bs.length c, .int .i64 ↑at_, .int .i64 0].toArray 109 (0, 0)) :: H)
      · (repeat' (first | refine a_go ?_ | (with_reducible apply Fin.thenK; assumption) | (with_reducible (first | apply C.seqK | apply C.regionK); intro _ _) | (apply R.buildSlice0; exact rfl; intro bz) | (apply R.box; exact rfl; (simp only [Value.cells]; rfl); exact rfl; intro bx) | (apply R.alloc; (simp only [Value.cells]; rfl); exact rfl; intro ba) | (apply R.buildSlice; (exact a_prt); exact rfl; exact rfl; (exact a_fills); exact rfl; intro bl) | (refine a_sp ?_ ?_; (intro h; skip; rotate_left; intro h; skip; rotate_left)) | fail))
        any_goals (exfalso; omega)
        all_goals (refine Fin.join () trivial ?_ rfl rfl; (exact a_subs))
      · intro _ _
        generalize hq : n + x.toNat % 128 * p = q at hr hbb
        have eqq : (n : Int) + ((x.toNat % 128 * p : Nat) : Int) = (q : Int) := by omega
        have eat : (at_ : Int) + ii + 1 = ((at_ + i + 1 : Nat) : Int) := by omega
        have hok : ¬ 128 ≤ x.toNat → ¬ (x.toNat = 0 ∧ 0 < i) → numR bs at_ = (q, 0, at_ + i + 1) := fun h1 h2 => by
          rw [hr, if_neg h1, if_neg h2]
        have hlong : numR bs at_ = (q, 0, at_ + i + 1) → most < q → numRd bs most at_ 0 = (0, at_, 12) := fun h1 h2 => by
          rw [hnr, h1]
          exact if_pos ⟨rfl, h2⟩
        have hfine : numR bs at_ = (q, 0, at_ + i + 1) → ¬ most < q → numRd bs most at_ 0 = (q, at_ + i + 1, 0) := fun h1 h2 => by
          rw [hnr, h1]
          exact (if_neg (fun h => h2 h.2)).trans (if_neg (fun h => h rfl))
        (repeat' (first | (apply R.step; (apply Ok.move; exact rfl); exact rfl) | (apply R.step; (first | (rw [e128]; apply Ok.convB; exact rfl; apply wu64; omega; omega) | (apply Ok.shlUN (7 * i) p; exact rfl; exact rfl; omega; omega; (rw [hp128]; exact hpw); omega) | (apply Ok.addQ (q : Int); exact rfl; exact rfl; exact eqq; apply wu64; omega; omega) | (apply Ok.addQ ((at_ + i + 1 : Nat) : Int); exact rfl; exact rfl; exact eat; apply w64; omega; omega)); exact rfl) | refine a_go ?_ | (with_reducible apply Fin.thenK; assumption) | (with_reducible (first | apply C.seqK | apply C.regionK); intro _ _) | (apply R.buildSlice0; exact rfl; intro bz) | (apply R.box; exact rfl; (simp only [Value.cells]; rfl); exact rfl; intro bx) | (apply R.alloc; (simp only [Value.cells]; rfl); exact rfl; intro ba) | (apply R.buildSlice; (exact a_prt); exact rfl; exact rfl; (exact a_fills); exact rfl; intro bl) | (refine a_sp ?_ ?_; (intro h; skip; rotate_left; intro h; skip; rotate_left)) | fail))
        · have h : (128 : Int) ≤ (x.toNat : Int) := by assumption
          have hi9 : i ≠ 9 := fun h9 => hf9 ⟨h9, by omega⟩
          refine Fin.again (⟨i + 1, ii + 1, q⟩ : NmL) ⟨by dsimp only; omega, by dsimp only; omega, by dsimp only; rw [hsucc]; omega, by dsimp only; rw [hr, if_pos (by omega), show 10 - (i + 1) = 9 - i by omega]⟩ (by dsimp only; omega) ?_ rfl rfl
          (exact a_subs)
        · have h1 : ¬ (128 : Int) ≤ (x.toNat : Int) := by assumption
          have h2 : (x.toNat : Int) = 0 := by assumption
          have h3 : 0 < ii := by assumption
          have hz : numR bs at_ = (0, 11, 0) := by rw [hr, if_neg (by omega), if_pos ⟨by omega, by omega⟩]
          have hnz : numRd bs most at_ 0 = (0, at_, 11) := by
            rw [hnr, hz]
            rfl
          rw [hnz] at hQ
          (apply R.call; (exact a_evs); exact rfl; exact wrong_K (at_ := at_) (at2 := at_) (bad := 0) (e := 11); rintro _ M _ ⟨rfl, rfl, rfl⟩)
          (repeat' (first | refine a_go ?_ | (with_reducible apply Fin.thenK; assumption) | (with_reducible (first | apply C.seqK | apply C.regionK); intro _ _) | (apply R.buildSlice0; exact rfl; intro bz) | (apply R.box; exact rfl; (simp only [Value.cells]; rfl); exact rfl; intro bx) | (apply R.alloc; (simp only [Value.cells]; rfl); exact rfl; intro ba) | (apply R.buildSlice; (exact a_prt); exact rfl; exact rfl; (exact a_fills); exact rfl; intro bl) | (refine a_sp ?_ ?_; (intro h; skip; rotate_left; intro h; skip; rotate_left)) | fail))
          (apply Fin.returnA (H2 := (rb, rrdB (.slice (some ⟨b0, o0, none⟩) bs.length c) at_ 11) :: H); assumption; (first | exact .inl rfl | exact .inr rfl); exact rfl; (exact a_res); (simp only [retv]; rfl); (exact a_arr))
          exact ⟨rfl, rfl, rfl⟩
        · have h1 : ¬ (128 : Int) ≤ (x.toNat : Int) := by assumption
          have h2 : ¬ 0 < ii := by assumption
          have h3 : (most : Int) < (q : Int) := by assumption
          have hnz := hlong (hok (by omega) (by omega)) (by omega)
          rw [hnz] at hQ
          (apply R.call; (exact a_evs); exact rfl; exact wrong_K (at_ := at_) (at2 := at_) (bad := 0) (e := 12); rintro _ M _ ⟨rfl, rfl, rfl⟩)
          (repeat' (first | refine a_go ?_ | (with_reducible apply Fin.thenK; assumption) | (with_reducible (first | apply C.seqK | apply C.regionK); intro _ _) | (apply R.buildSlice0; exact rfl; intro bz) | (apply R.box; exact rfl; (simp only [Value.cells]; rfl); exact rfl; intro bx) | (apply R.alloc; (simp only [Value.cells]; rfl); exact rfl; intro ba) | (apply R.buildSlice; (exact a_prt); exact rfl; exact rfl; (exact a_fills); exact rfl; intro bl) | (refine a_sp ?_ ?_; (intro h; skip; rotate_left; intro h; skip; rotate_left)) | fail))
          (apply Fin.returnA (H2 := (rb, rrdB (.slice (some ⟨b0, o0, none⟩) bs.length c) at_ 12) :: H); assumption; (first | exact .inl rfl | exact .inr rfl); exact rfl; (exact a_res); (simp only [retv]; rfl); (exact a_arr))
          exact ⟨rfl, rfl, rfl⟩
        · have h1 : ¬ (128 : Int) ≤ (x.toNat : Int) := by assumption
          have h2 : ¬ 0 < ii := by assumption
          have h3 : ¬ (most : Int) < (q : Int) := by assumption
          have hnz := hfine (hok (by omega) (by omega)) (by omega)
          rw [hnz] at hQ
          (apply Fin.returnA (H2 := (rb, rrdB (.slice (some ⟨b0, o0, none⟩) bs.length c) (at_ + i + 1) 0) :: H); assumption; (first | exact .inl rfl | exact .inr rfl); exact rfl; (exact a_res); (simp only [retv]; rfl); (exact a_arr))
          exact ⟨rfl, rfl, rfl⟩
        · have h1 : ¬ (128 : Int) ≤ (x.toNat : Int) := by assumption
          have h2 : ¬ (x.toNat : Int) = 0 := by assumption
          have h3 : (most : Int) < (q : Int) := by assumption
          have hnz := hlong (hok (by omega) (by omega)) (by omega)
          rw [hnz] at hQ
          (apply R.call; (exact a_evs); exact rfl; exact wrong_K (at_ := at_) (at2 := at_) (bad := 0) (e := 12); rintro _ M _ ⟨rfl, rfl, rfl⟩)
          (repeat' (first | refine a_go ?_ | (with_reducible apply Fin.thenK; assumption) | (with_reducible (first | apply C.seqK | apply C.regionK); intro _ _) | (apply R.buildSlice0; exact rfl; intro bz) | (apply R.box; exact rfl; (simp only [Value.cells]; rfl); exact rfl; intro bx) | (apply R.alloc; (simp only [Value.cells]; rfl); exact rfl; intro ba) | (apply R.buildSlice; (exact a_prt); exact rfl; exact rfl; (exact a_fills); exact rfl; intro bl) | (refine a_sp ?_ ?_; (intro h; skip; rotate_left; intro h; skip; rotate_left)) | fail))
          (apply Fin.returnA (H2 := (rb, rrdB (.slice (some ⟨b0, o0, none⟩) bs.length c) at_ 12) :: H); assumption; (first | exact .inl rfl | exact .inr rfl); exact rfl; (exact a_res); (simp only [retv]; rfl); (exact a_arr))
          exact ⟨rfl, rfl, rfl⟩
        · have h1 : ¬ (128 : Int) ≤ (x.toNat : Int) := by assumption
          have h2 : ¬ (x.toNat : Int) = 0 := by assumption
          have h3 : ¬ (most : Int) < (q : Int) := by assumption
          have hnz := hfine (hok (by omega) (by omega)) (by omega)
          rw [hnz] at hQ
          (apply Fin.returnA (H2 := (rb, rrdB (.slice (some ⟨b0, o0, none⟩) bs.length c) (at_ + i + 1) 0) :: H); assumption; (first | exact .inl rfl | exact .inr rfl); exact rfl; (exact a_res); (simp only [retv]; rfl); (exact a_arr))
          exact ⟨rfl, rfl, rfl⟩
  · have hz : numR bs at_ = (0, 10, 0) := by
      rw [hr, show 10 - i = (9 - i) + 1 by omega]
      unfold numGo
      rw [List.getElem?_eq_none (by omega)]
    have hnz : numRd bs most at_ 0 = (0, at_, 10) := by
      rw [hnr, hz]
      rfl
    rw [hnz] at hQ
    (repeat' (first | (apply R.step; (apply Ok.move; exact rfl); exact rfl) | (apply R.step; (first | (apply Ok.ltTr; exact rfl; exact rfl; omega) | (apply Ok.ltF; exact rfl; exact rfl; omega) | (apply Ok.gtTr; exact rfl; exact rfl; omega) | (apply Ok.gtF; exact rfl; exact rfl; omega) | (apply Ok.geTr; exact rfl; exact rfl; omega) | (apply Ok.geF; exact rfl; exact rfl; omega) | (apply Ok.leTr; exact rfl; exact rfl; omega) | (apply Ok.leF; exact rfl; exact rfl; omega) | (apply Ok.neIT; exact rfl; exact rfl; omega) | (apply Ok.eqIF; exact rfl; exact rfl; omega)); exact rfl) | refine a_go ?_ | (with_reducible apply Fin.thenK; assumption) | (with_reducible (first | apply C.seqK | apply C.regionK); intro _ _) | (apply R.buildSlice0; exact rfl; intro bz) | (apply R.box; exact rfl; (simp only [Value.cells]; rfl); exact rfl; intro bx) | (apply R.alloc; (simp only [Value.cells]; rfl); exact rfl; intro ba) | (apply R.buildSlice; (exact a_prt); exact rfl; exact rfl; (exact a_fills); exact rfl; intro bl) | (refine a_sp ?_ ?_; (intro h; skip; rotate_left; intro h; skip; rotate_left)) | fail))
    (apply R.call; (exact a_evs); exact rfl; exact wrong_K (at_ := at_) (at2 := at_) (bad := 0) (e := 10); rintro _ M _ ⟨rfl, rfl, rfl⟩)
    (repeat' (first | refine a_go ?_ | (with_reducible apply Fin.thenK; assumption) | (with_reducible (first | apply C.seqK | apply C.regionK); intro _ _) | (apply R.buildSlice0; exact rfl; intro bz) | (apply R.box; exact rfl; (simp only [Value.cells]; rfl); exact rfl; intro bx) | (apply R.alloc; (simp only [Value.cells]; rfl); exact rfl; intro ba) | (apply R.buildSlice; (exact a_prt); exact rfl; exact rfl; (exact a_fills); exact rfl; intro bl) | (refine a_sp ?_ ?_; (intro h; skip; rotate_left; intro h; skip; rotate_left)) | fail))
    (apply Fin.returnA (H2 := (rb, rrdB (.slice A bs.length c) at_ 10) :: H); assumption; (first | exact .inl rfl | exact .inr rfl); exact rfl; (exact a_res); (simp only [retv]; rfl); (exact a_arr))
    exact ⟨rfl, rfl, rfl⟩
end Go.Sx
end
section
namespace Go.Sx
open Go.Proofs Go.RowKit
attribute [local irreducible] C R Fin K Own Rd Pl Ok KOf RetOk OpsOf RP KP Res NoPanic KV
variable {M : Mem} {H : Hp}
theorem rframe_K {A : Option Addr} {cap : Nat} {bs : List UInt8} (hpl : Pl M A (bs.map bv)) (hb : bs.length ≤ 140737488351232) : K Try.prog 30 [.slice A bs.length cap] M H fun v M' H' =>
    ∃ hp, Own 5 1 v (frameS bs).length ((frameS bs).map bv) hp ∧ M' = M ∧ H' = hp ++ H := by
  refine K.enterK Try.func30 rfl rfl rfl ?_
  intro Q hNP hQ
  (repeat' (first | refine a_go ?_ | (with_reducible apply Fin.thenK; assumption) | (with_reducible (first | apply C.seqK | apply C.regionK); intro _ _) | (apply R.buildSlice0; exact rfl; intro bz) | (apply R.box; exact rfl; (simp only [Value.cells]; rfl); exact rfl; intro bx) | (apply R.alloc; (simp only [Value.cells]; rfl); exact rfl; intro ba) | (apply R.buildSlice; (exact a_prt); exact rfl; exact rfl; (exact a_fills); exact rfl; intro bl) | (refine a_sp ?_ ?_; (intro h; skip; rotate_left; intro h; skip; rotate_left)) | fail))
  · have h1 : 65536 < (bs.length : Int) := by assumption
    (apply Fin.returnA (H2 := [] ++ H); assumption; (first | exact .inl rfl | exact .inr rfl); exact rfl; (exact a_res); (simp only [retv]; rfl); (exact a_arr))
    have e : frameS bs = [] := if_pos (by omega)
    rw [e]
    exact ⟨[], Own.nil _ 1, rfl, rfl⟩
  have hle : ¬ 65536 < (bs.length : Int) := by assumption
  (apply R.call; (exact a_evs); exact rfl); exact rsum_K hpl hb; rintro _ M H ⟨rfl, rfl, rfl⟩
  (repeat' (first | (apply R.step; (apply Ok.move; exact rfl); exact rfl) | (apply R.step; (first | (apply Ok.shrIN 8 256; exact rfl; exact rfl; decide; decide) | (apply Ok.shrIN 16 65536; exact rfl; exact rfl; decide; decide) | (apply Ok.shrIN 24 16777216; exact rfl; exact rfl; decide; decide) | (apply Ok.convLI; exact rfl) | (apply Ok.convL; exact rfl)); exact rfl) | refine a_go ?_ | (with_reducible apply Fin.thenK; assumption) | (with_reducible (first | apply C.seqK | apply C.regionK); intro _ _) | (apply R.buildSlice0; exact rfl; intro bz) | (apply R.box; exact rfl; (simp only [Value.cells]; rfl); exact rfl; intro bx) | (apply R.alloc; (simp only [Value.cells]; rfl); exact rfl; intro ba) | (apply R.buildSlice; (exact a_prt); exact rfl; exact rfl; (exact a_fills); exact rfl; intro bl) | (refine a_sp ?_ ?_; (intro h; skip; rotate_left; intro h; skip; rotate_left)) | fail))
  have ho8 : Own 5 1 (.slice (some ⟨bl, 0, none⟩) 8 8) 8 ((layS bs.length ++ layS (sumS bs)).map bv) [(bl, .cells ((layS bs.length ++ layS (sumS bs)).map bv).toArray 5 (0, 0))] := Own.of_cells (xs := (layS bs.length ++ layS (sumS bs)).map bv) (by show 8 ≤ maxLen; unfold maxLen; omega)
  (apply R.append; exact rfl; exact rfl; exact ho8; exact Tk.one _ _ _; exact hpl.rd; (focus (simp; done)); exact bv_one _; (show (8 + bs.length) * 1 ≤ _; omega); exact rfl; decide; decide; exact rfl; rintro v4 hp4 hown4)
  (repeat' (first | refine a_go ?_ | (with_reducible apply Fin.thenK; assumption) | (with_reducible (first | apply C.seqK | apply C.regionK); intro _ _) | (apply R.buildSlice0; exact rfl; intro bz) | (apply R.box; exact rfl; (simp only [Value.cells]; rfl); exact rfl; intro bx) | (apply R.alloc; (simp only [Value.cells]; rfl); exact rfl; intro ba) | (apply R.buildSlice; (exact a_prt); exact rfl; exact rfl; (exact a_fills); exact rfl; intro bl) | (refine a_sp ?_ ?_; (intro h; skip; rotate_left; intro h; skip; rotate_left)) | fail))
  (apply Fin.returnA (H2 := hp4 ++ H); assumption; (first | exact .inl rfl | exact .inr rfl); exact rfl; (exact a_res); (simp only [retv]; rfl); (exact a_arr))
  have e : frameS bs = layS bs.length ++ layS (sumS bs) ++ bs := if_neg (by omega)
  rw [e]
  refine ⟨hp4, ?_, rfl, rfl⟩
  rw [List.length_append, List.map_append]
  exact hown4
structure RlX where
  at_ : Nat
  ai : Int
  M : Mem
  ov : Value
  vs : List Value
  pre : List (List UInt8)
  hrow : Hp
set_option maxHeartbeats 4000000 in
theorem rlist_K {A : Option Addr} {cap : Nat} {bs : List UInt8} (hpl : Pl M A (bs.map bv)) (hc : bs.length ≤ cap) (hb : cap ≤ 9223372036854775807) (hsm : bs.length ≤ 2147483648) : K Try.prog 64 [.slice A bs.length cap] M H fun v M' H' =>
    ∃ ov, v = .tuple #[ov, .int .i64 (endS (framesF bs.length bs))] ∧ PlL M' ov (framesF bs.length bs) ∧ M.le M' ∧ H' = H := by
  refine K.enterK Try.func64 rfl rfl rfl ?_
  intro Q hNP hQ
  (repeat' (first | refine a_go ?_ | (with_reducible apply Fin.thenK; assumption) | (with_reducible (first | apply C.seqK | apply C.regionK); intro _ _) | (apply R.buildSlice0; exact rfl; intro bz) | (apply R.box; exact rfl; (simp only [Value.cells]; rfl); exact rfl; intro bx) | (apply R.alloc; (simp only [Value.cells]; rfl); exact rfl; intro ba) | (apply R.buildSlice; (exact a_prt); exact rfl; exact rfl; (exact a_fills); exact rfl; intro bl) | (refine a_sp ?_ ?_; (intro h; skip; rotate_left; intro h; skip; rotate_left)) | fail))
  apply C.loop (fun x : RlX => (x.at_ : Int) = x.ai ∧ x.at_ ≤ bs.length ∧ M.le x.M ∧ PlV x.M x.vs x.pre ∧ Own 25 1 x.ov x.pre.length x.vs x.hrow ∧ framesF bs.length bs = x.pre ++ framesF (bs.drop x.at_).length (bs.drop x.at_) ∧ endS x.pre = x.at_)
    (fun x => [(0, .slice A bs.length cap), (4, x.ov), (5, .int .i64 x.ai)]) (fun x => x.M) (fun x => x.hrow ++ H) (fun x => bs.length - x.at_) ⟨0, 0, M, .slice none 0 0, [], [], []⟩
  · exact ⟨rfl, Nat.zero_le _, Mem.le_refl _, PlV.nil, Own.nil _ 1, rfl, rfl⟩
  · (exact a_subs)
  · exact rfl
  · exact rfl
  rintro ⟨at_, ai, M1, ov, vs, pre, hrow⟩ ⟨hai, hat, hM1, hvs, how, hfr, hend⟩
  dsimp only at hai hat hM1 hvs how hfr hend ⊢
  obtain ⟨AO, capO, rfl, hoc, _⟩ := how.form
  have fin : wholeS (bs.drop at_) = none → ∀ M2, M1.le M2 → In M2 hrow → ∃ ov, Value.tuple #[.slice AO pre.length capO, .int .i64 ai] = .tuple #[ov, .int .i64 (endS (framesF bs.length bs))] ∧ PlL M2 ov (framesF bs.length bs) ∧ M.le M2 ∧ H = H := by
    intro hw M2 hM2 hin
    rw [hfr, framesF_none hw, List.append_nil, hend, hai]
    exact ⟨_, rfl, Own.plL how hin (hvs.mono hM2), hM1.trans_ hM2, rfl⟩
  (repeat' (first | refine a_go ?_ | (with_reducible apply Fin.thenK; assumption) | (with_reducible (first | apply C.seqK | apply C.regionK); intro _ _) | (apply R.buildSlice0; exact rfl; intro bz) | (apply R.box; exact rfl; (simp only [Value.cells]; rfl); exact rfl; intro bx) | (apply R.alloc; (simp only [Value.cells]; rfl); exact rfl; intro ba) | (apply R.buildSlice; (exact a_prt); exact rfl; exact rfl; (exact a_fills); exact rfl; intro bl) | (refine a_sp ?_ ?_; (intro h; skip; rotate_left; intro h; skip; rotate_left)) | fail))
  · have h8 : 8 ≤ (bs.length : Int) - ai := by assumption
    obtain ⟨x0, x1, x2, x3, x4, x5, x6, x7, rest, hdr⟩ : ∃ x0 x1 x2 x3 x4 x5 x6 x7 rest, bs.drop at_ = x0 :: x1 :: x2 :: x3 :: x4 :: x5 :: x6 :: x7 :: rest := by
      have : 8 ≤ (bs.drop at_).length := by simp; omega
      match hd : bs.drop at_, this with
      | x0 :: x1 :: x2 :: x3 :: x4 :: x5 :: x6 :: x7 :: rest, _ => exact ⟨x0, x1, x2, x3, x4, x5, x6, x7, rest, rfl⟩
    obtain ⟨b0, o0, c0, e0, f0, rfl, hat0, hcell⟩ := (hpl.mono hM1).cell (by simp; omega)
    have hget : ∀ k x, (bs.drop at_)[k]? = some x → c0[o0 + (at_ + k)]? = some (bv x) := by
      intro k x hx
      rw [List.getElem?_drop] at hx
      exact hcell _ _ (by rw [List.getElem?_map, hx]; rfl)
    rw [hdr] at hget
    have g0 := hget 0 x0 rfl
    have g1 := hget 1 x1 rfl
    have g2 := hget 2 x2 rfl
    have g3 := hget 3 x3 rfl
    have g4 := hget 4 x4 rfl
    have g5 := hget 5 x5 rfl
    have g6 := hget 6 x6 rfl
    have g7 := hget 7 x7 rfl
    have l0 : x0.toNat < 256 := x0.toNat_lt
    have l1 : x1.toNat < 256 := x1.toNat_lt
    have l2 : x2.toNat < 256 := x2.toNat_lt
    have l3 : x3.toNat < 256 := x3.toNat_lt
    have n0 : Unit → o0 + ai.toNat * 1 = o0 + (at_ + 0) := fun _ => by omega
    have n1 : Unit → o0 + (ai + 1).toNat * 1 = o0 + (at_ + 1) := fun _ => by omega
    have n2 : Unit → o0 + (ai + 2).toNat * 1 = o0 + (at_ + 2) := fun _ => by omega
    have n3 : Unit → o0 + (ai + 3).toNat * 1 = o0 + (at_ + 3) := fun _ => by omega
    have n4 : Unit → o0 + (ai + 4).toNat * 1 = o0 + (at_ + 4) := fun _ => by omega
    have n5 : Unit → o0 + (ai + 5).toNat * 1 = o0 + (at_ + 5) := fun _ => by omega
    have n6 : Unit → o0 + (ai + 6).toNat * 1 = o0 + (at_ + 6) := fun _ => by omega
    have n7 : Unit → o0 + (ai + 7).toNat * 1 = o0 + (at_ + 7) := fun _ => by omega
    (apply C.regionO (ks := [1, 1, 1, 1, 1, 1, 1, 1, 1, 1, 1, 1, 1, 1, 1, 1, 1, 1, 1, 1, 1, 1, 1, 1, 1, 1, 1, 1, 1, 1]) (is := [0, 1, 2, 3, 4, 5, 6, 7, 8, 9, 10, 11, 12, 13, 14, 15, 16, 17, 18, 19, 20, 21, 22, 23, 24, 25, 26, 27, 28, 29]) (Hs := []); exact Mix.h; (first | exact Arr.all _ | (exact a_arr)); (exact a_np); (exact a_picked); kernel_rfl; intro _ e; subst e)
    (repeat' (first | (apply RP.step; intro _ _ _; (apply Ok.move; exact rfl); exact rfl) | (apply RP.step; intro _ _ hM; (first | (apply Ok.indexAddr; exact rfl; exact rfl; omega; omega) | (apply Ok.loadP; exact rfl; exact rfl; exact hM.2.2 _ _ hat0; (first | (rw [n0 ()]; exact g0) | (rw [n1 ()]; exact g1) | (rw [n2 ()]; exact g2) | (rw [n3 ()]; exact g3))) | (apply Ok.shlIN 8 256; exact rfl; exact rfl; decide; decide; omega) | (apply Ok.shlIN 16 65536; exact rfl; exact rfl; decide; decide; omega) | (apply Ok.shlIN 24 16777216; exact rfl; exact rfl; decide; decide; omega)); exact rfl) | (first | (apply RP.step; intro _ _ _; (exact a_ok); exact rfl) | (apply RP.stepT; exact rfl; exact rfl; exact rfl; intro _ _ _; (exact a_ok); exact rfl) | (apply RP.stepF; exact rfl; exact rfl; exact rfl; exact rfl; exact rfl) | (apply RP.effF; exact rfl; exact rfl; exact rfl; exact rfl; exact rfl)) | (apply RP.callQ; (exact a_evs); exact rfl)))
    apply RP.nil
    generalize hn : (x0.toNat : Int) + ((x1.toNat * 256 : Nat) : Int) + ((x2.toNat * 65536 : Nat) : Int) + ((x3.toNat * 16777216 : Nat) : Int) = n
    have hrs : (readS (bs.drop at_) : Int) = n := by
      rw [hdr, ← hn]
      show ((x0.toNat + x1.toNat * 256 + x2.toNat * 65536 + x3.toNat * 16777216 : Nat) : Int) = _
      omega
    have hn0 : 0 ≤ n := by omega
    have hdl : (bs.drop at_).length = bs.length - at_ := List.length_drop ..
    (repeat' (first | refine a_go ?_ | (with_reducible apply Fin.thenK; assumption) | (with_reducible (first | apply C.seqK | apply C.regionK); intro _ _) | (apply R.buildSlice0; exact rfl; intro bz) | (apply R.box; exact rfl; (simp only [Value.cells]; rfl); exact rfl; intro bx) | (apply R.alloc; (simp only [Value.cells]; rfl); exact rfl; intro ba) | (apply R.buildSlice; (exact a_prt); exact rfl; exact rfl; (exact a_fills); exact rfl; intro bl) | (refine a_sp ?_ ?_; (intro h; skip; rotate_left; intro h; skip; rotate_left)) | fail))
    · have h1 : 65536 < n := by assumption
      apply Fin.ice (hp := hrow) (Arr.all _)
      intro M2 hM2 hin
      have hw : wholeS (bs.drop at_) = none := by unfold wholeS; rw [if_neg (by omega), if_pos (by omega)]
      (refine Fin.rt ?_)
      exact fin hw M2 hM2 hin
    · have h1 : (bs.length : Int) - ai - 8 < n := by assumption
      apply Fin.ice (hp := hrow) (Arr.all _)
      intro M2 hM2 hin
      have hw : wholeS (bs.drop at_) = none := by
        unfold wholeS
        rw [if_neg (by omega), if_pos (by have : (bs.drop at_).length - 8 < 4294967296 := by omega
                                          rw [Nat.mod_eq_of_lt this]; omega)]
      (refine Fin.rt ?_)
      exact fin hw M2 hM2 hin
    have h1 : ¬ 65536 < n := by assumption
    have h2 : ¬ (bs.length : Int) - ai - 8 < n := by assumption
    (apply R.step; (apply Ok.sliceLoHi; exact rfl; exact rfl; exact rfl; omega; omega; omega); exact rfl)
    obtain ⟨nn, rfl⟩ := Int.eq_ofNat_of_zero_le hn0
    have hrn : readS (bs.drop at_) = nn := by omega
    have hxl : ((bs.drop (at_ + 8)).take nn).length = nn := by simp; omega
    have ea : (ai + 8).toNat = at_ + 8 := by omega
    have eb : (ai + 8 + (nn : Int)).toNat - (at_ + 8) = nn := by omega
    rw [ea, eb]
    have hpx : Pl M1 (adv (some ⟨b0, o0, none⟩) (at_ + 8) 1 cap) (((bs.drop (at_ + 8)).take nn).map bv) := Pl.cutTake nn (hpl.mono hM1) hc
    have hwS : wholeS (bs.drop at_) = if sumS ((bs.drop (at_ + 8)).take nn) = readS (x4 :: x5 :: x6 :: x7 :: rest) then some ((bs.drop (at_ + 8)).take nn) else none := by
      have e8 : (bs.drop at_).drop 8 = bs.drop (at_ + 8) := List.drop_drop ..
      have e4 : (bs.drop at_).drop 4 = x4 :: x5 :: x6 :: x7 :: rest := by rw [hdr]; rfl
      unfold wholeS
      rw [if_neg (by omega), if_neg (by have : (bs.drop at_).length - 8 < 4294967296 := by omega
                                        rw [Nat.mod_eq_of_lt this]; omega), hrn, e8, e4]
    generalize hX : (bs.drop (at_ + 8)).take nn = X at hxl hpx hwS
    generalize adv (some ⟨b0, o0, none⟩) (at_ + 8) 1 cap = AX at hpx ⊢
    have hsl := sumS_lt X
    (repeat' (first | refine a_go ?_ | (with_reducible apply Fin.thenK; assumption) | (with_reducible (first | apply C.seqK | apply C.regionK); intro _ _) | (apply R.buildSlice0; exact rfl; intro bz) | (apply R.box; exact rfl; (simp only [Value.cells]; rfl); exact rfl; intro bx) | (apply R.alloc; (simp only [Value.cells]; rfl); exact rfl; intro ba) | (apply R.buildSlice; (exact a_prt); exact rfl; exact rfl; (exact a_fills); exact rfl; intro bl) | (refine a_sp ?_ ?_; (intro h; skip; rotate_left; intro h; skip; rotate_left)) | fail))
    ((apply R.call; (exact a_evs); exact rfl); rw [show (Value.slice AX nn (cap - (at_ + 8))) = .slice AX X.length (cap - (at_ + 8)) by rw [hxl]]; exact rsum_K hpx (by omega); rintro _ M1 H ⟨rfl, rfl, rfl⟩)
    generalize hS : sumS X = sX at hsl hwS
    have hfour := readS_four (x0 := x4) (x1 := x5) (x2 := x6) (x3 := x7) (rest := rest) hsl
    have hmis : ¬ (x4 = UInt8.ofNat sX ∧ x5 = UInt8.ofNat (sX / 256) ∧ x6 = UInt8.ofNat (sX / 65536) ∧ x7 = UInt8.ofNat (sX / 16777216)) → wholeS (bs.drop at_) = none := fun h => by
      rw [hwS, if_neg]; intro e; exact h (hfour.1 e.symm)
    (repeat' (first | (apply R.step; (apply Ok.move; exact rfl); exact rfl) | (apply R.step; (first | (apply Ok.indexAddr; exact rfl; exact rfl; omega; omega) | (apply Ok.loadP; exact rfl; exact rfl; exact hat0; (first | (rw [n4 ()]; exact g4) | (rw [n5 ()]; exact g5) | (rw [n6 ()]; exact g6) | (rw [n7 ()]; exact g7)))); exact rfl) | refine a_go ?_ | (with_reducible apply Fin.thenK; assumption) | (with_reducible (first | apply C.seqK | apply C.regionK); intro _ _) | (apply R.buildSlice0; exact rfl; intro bz) | (apply R.box; exact rfl; (simp only [Value.cells]; rfl); exact rfl; intro bx) | (apply R.alloc; (simp only [Value.cells]; rfl); exact rfl; intro ba) | (apply R.buildSlice; (exact a_prt); exact rfl; exact rfl; (exact a_fills); exact rfl; intro bl) | (refine a_sp ?_ ?_; (intro h; skip; rotate_left; intro h; skip; rotate_left)) | fail))
    rotate_left 4
    · have e4 : (x4.toNat : Int) = (UInt8.ofNat sX).toNat := by assumption
      have e5 : (x5.toNat : Int) = (UInt8.ofNat (sX / 256)).toNat := by assumption
      have e6 : (x6.toNat : Int) = (UInt8.ofNat (sX / 65536)).toNat := by assumption
      have e7 : (x7.toNat : Int) = (UInt8.ofNat (sX / 16777216)).toNat := by assumption
      have hw : wholeS (bs.drop at_) = some X := by
        rw [hwS, if_pos (hfour.2 ⟨UInt8.toNat_inj.1 (by omega), UInt8.toNat_inj.1 (by omega), UInt8.toNat_inj.1 (by omega), UInt8.toNat_inj.1 (by omega)⟩).symm]
      have hfr2 := framesF_some hw
      rw [List.drop_drop] at hfr2
      (apply R.append (news := X.map bv); exact rfl; exact rfl; exact Own.empty; (exact a_tk); exact hpx.rd; (focus (simp; omega)); exact bv_one _; omega; exact rfl; decide; decide; exact rfl; rintro v1 hp1 hown1)
      have hown : Own 5 1 v1 X.length (X.map bv) hp1 := by
        have := hown1
        rw [hxl]
        simpa using this
      clear hown1
      obtain ⟨Av, cv, rfl, _, _⟩ := hown.form
      (repeat' (first | refine a_go ?_ | (with_reducible apply Fin.thenK; assumption) | (with_reducible (first | apply C.seqK | apply C.regionK); intro _ _) | (apply R.buildSlice0; exact rfl; intro bz) | (apply R.box; exact rfl; (simp only [Value.cells]; rfl); exact rfl; intro bx) | (apply R.alloc; (simp only [Value.cells]; rfl); exact rfl; intro ba) | (apply R.buildSlice; (exact a_prt); exact rfl; exact rfl; (exact a_fills); exact rfl; intro bl) | (refine a_sp ?_ ?_; (intro h; skip; rotate_left; intro h; skip; rotate_left)) | fail))
      have hpl8 : endS pre ≤ bs.length := by omega
      have hpl9 := endS_len pre
      (apply R.append (news := [.slice Av X.length cv]); exact rfl; exact rfl; exact how; (exact a_tk); exact Rd.at_ (l := [.slice Av X.length cv]) (by (exact a_at)) (fun j u h => by rw [Nat.zero_add]; exact h); exact rfl; (intro u hu; simp only [List.mem_singleton] at hu; subst hu; rfl); omega; exact rfl; decide; decide; exact rfl; rintro ov2 hrow2 how2)
      (repeat' (first | refine a_go ?_ | (with_reducible apply Fin.thenK; assumption) | (with_reducible (first | apply C.seqK | apply C.regionK); intro _ _) | (apply R.buildSlice0; exact rfl; intro bz) | (apply R.box; exact rfl; (simp only [Value.cells]; rfl); exact rfl; intro bx) | (apply R.alloc; (simp only [Value.cells]; rfl); exact rfl; intro ba) | (apply R.buildSlice; (exact a_prt); exact rfl; exact rfl; (exact a_fills); exact rfl; intro bl) | (refine a_sp ?_ ?_; (intro h; skip; rotate_left; intro h; skip; rotate_left)) | fail))
      apply Fin.ice (hp := hp1) (H1 := hrow2 ++ H) (by (exact a_arr))
      intro M2 hM2 hin
      refine Fin.again (⟨at_ + (8 + X.length), ai + 8 + nn, M2, ov2, vs ++ [.slice Av X.length cv], pre ++ [X], hrow2⟩ : RlX) ⟨by dsimp only; omega, by dsimp only; omega, hM1.trans_ hM2, (hvs.mono hM2).snoc (hown.plB hin), ?_, ?_, ?_⟩ (by dsimp only; omega) ?_ rfl rfl
      · dsimp only
        rw [List.length_append]
        exact how2
      · dsimp only
        rw [hfr, hfr2, List.append_assoc]
        rfl
      · dsimp only
        rw [endS_append, hend]
        simp [endS]
      · dsimp only
        (exact a_subs)
    all_goals
      apply Fin.ice (hp := hrow) (Arr.all _)
      intro M2 hM2 hin
      have hw : wholeS (bs.drop at_) = none := hmis (by
        rintro ⟨e4, e5, e6, e7⟩
        first
          | exact (by assumption : (x4.toNat : Int) ≠ (UInt8.ofNat sX).toNat) (by rw [e4])
          | exact (by assumption : (x5.toNat : Int) ≠ (UInt8.ofNat (sX / 256)).toNat) (by rw [e5])
          | exact (by assumption : (x6.toNat : Int) ≠ (UInt8.ofNat (sX / 65536)).toNat) (by rw [e6])
          | exact (by assumption : (x7.toNat : Int) ≠ (UInt8.ofNat (sX / 16777216)).toNat) (by rw [e7]))
      (refine Fin.rt ?_)
      exact fin hw M2 hM2 hin
  · apply Fin.ice (hp := hrow) (Arr.all _)
    intro M2 hM2 hin
    have hw : wholeS (bs.drop at_) = none := if_pos (by simp; omega)
    (refine Fin.rt ?_)
    exact fin hw M2 hM2 hin
end Go.Sx
end
section
namespace Go.Sx
open Go Go.Proofs Go.RowKit
attribute [local irreducible] C R Fin K Own OwnT Rd Pl Ok KOf RetOk OpsOf RP KP Res NoPanic KV KE MapS ItS EntS FsO FsR RowD PlD DkO PlFs RT KT OneT RS KS OneS RdO
variable {M M' : Mem} {H H1 H2 : Hp}
theorem rframe_KF {A : Option Addr} {cap m : Nat} {bs : List UInt8} (hpl : Pl M A (bs.map bv)) (hm : bs.length = m) (hb : m ≤ 140737488351232) : K Try.prog 30 [.slice A m cap] M H fun v M' H' =>
    PlB M' v (frameS bs) ∧ M.le M' ∧ H' = H := by
  subst hm
  refine (rframe_K hpl hb).freezeT ?_
  rintro v M' H' ⟨hp, h1, rfl, rfl⟩
  exact ⟨hp, _, Arr.all _, fun M2 hM2 hin => ⟨h1.plB hin, hM2, rfl⟩⟩
theorem here_K {rb : Nat} {d : Dk} {hp : Hp} {n : Txt} (ho : RdO M rb d hp) (hl : d.now.length ≤ 1000000) : K Try.prog 61 [.pointer (some ⟨rb, 0, none⟩), str n] M (hp ++ H) fun v' M' H' => v' = .bool (readD d n).isSome ∧ M' = M ∧ H' = hp ++ H := by
  refine K.enterK Try.func61 rfl rfl rfl ?_
  intro Q hNP hQ
  (repeat' (first | refine a_go ?_ | (with_reducible apply Fin.thenK; assumption) | (with_reducible (first | apply C.seqK | apply C.regionK); intro _ _) | (apply R.buildSlice0; exact rfl; intro bz) | (apply R.box; exact rfl; (simp only [Value.cells]; rfl); exact rfl; intro bx) | (apply R.alloc; (simp only [Value.cells]; rfl); exact rfl; intro ba) | (apply R.buildSlice; (exact a_prt); exact rfl; exact rfl; (exact a_fills); exact rfl; intro bl) | (refine a_sp ?_ ?_; (intro h; skip; rotate_left; intro h; skip; rotate_left)) | fail))
  (apply R.call; (exact a_evs); exact rfl; exact rread_KD (n := n) ho hl; rintro _ M _ ⟨v, rfl, hb, rfl, rfl⟩)
  obtain ⟨A, c, rfl, _⟩ := hb
  (repeat' (first | refine a_go ?_ | (with_reducible apply Fin.thenK; assumption) | (with_reducible (first | apply C.seqK | apply C.regionK); intro _ _) | (apply R.buildSlice0; exact rfl; intro bz) | (apply R.box; exact rfl; (simp only [Value.cells]; rfl); exact rfl; intro bx) | (apply R.alloc; (simp only [Value.cells]; rfl); exact rfl; intro ba) | (apply R.buildSlice; (exact a_prt); exact rfl; exact rfl; (exact a_fills); exact rfl; intro bl) | (refine a_sp ?_ ?_; (intro h; skip; rotate_left; intro h; skip; rotate_left)) | fail))
  (apply Fin.returnA (H2 := hp ++ H); assumption; (first | exact .inl rfl | exact .inr rfl); exact rfl; (exact a_res); (simp only [retv]; rfl); (exact a_arr))
  exact ⟨rfl, rfl, rfl⟩
theorem opD_ps2 (d : Dk) (e : Int) (x : De) : szD (opD e d x) ≤ szD d + 1 := by
  unfold opD szD
  split
  · show (cntD d).S.length + (d.ps ++ [x]).length ≤ _
    rw [cntD_S, List.length_append]
    exact Nat.le_refl _
  · rw [cntD_S, cntD_ps]
    omega
theorem clearD_sz (d : Dk) : szD (clearD d).2 ≤ szD d + 1 := by
  unfold clearD
  split
  · exact opD_ps2 _ _ _
  · exact Nat.le_succ _
structure RcX2 where
  M : Mem
  hp : Hp
end Go.Sx
end
section
namespace Go.Sx
open Go Go.Proofs Go.RowKit
attribute [local irreducible] C R Fin K Own OwnT Rd Pl Ok KOf RetOk OpsOf RP KP Res NoPanic KV KE MapS ItS EntS FsO FsR RowD PlD DkO PlFs RT KT OneT RS KS OneS RdO
variable {M M' : Mem} {H H1 H2 : Hp}
theorem rlist_Km {A : Option Addr} {cap m : Nat} {bs : List UInt8} (hpl : Pl M A (bs.map bv)) (hm : bs.length = m) (hc : m ≤ cap) (hb : cap ≤ 9223372036854775807) (hsm : m ≤ 2147483648) : K Try.prog 64 [.slice A m cap] M H fun v M' H' =>
    ∃ ov, v = .tuple #[ov, .int .i64 (endS (framesF bs.length bs))] ∧ PlL M' ov (framesF bs.length bs) ∧ M.le M' ∧ H' = H := by
  subst hm
  exact rlist_K hpl hc hb hsm
theorem framesF_small : ∀ (k : Nat) (bs : List UInt8), ∀ r ∈ framesF k bs, r.length ≤ 65536
  | 0, bs => by
    intro r hr
    unfold framesF at hr
    cases hr
  | k + 1, bs => by
    intro r hr
    unfold framesF at hr
    split at hr
    · cases hr
    · rename_i x hx
      rcases List.mem_cons.1 hr with rfl | hr
      · exact (wholeS_len hx).2
      · exact framesF_small k _ r hr
structure RohX where
  i : Nat
  ii : Int
  h : Nat × Int
  at_ : Nat
structure RohY where
  h : Nat × Int
  at_ : Nat
theorem ropenH_K {rb : Nat} {d : Dk} {hp : Hp} (ho : RdO M rb d hp) (hsz : szD d ≤ 900000) : K Try.prog 32 [.pointer (some ⟨rb, 0, none⟩)] M (hp ++ H) fun v' M' H' => v' = .tuple #[hrdV (openD d).2.2, .int .i64 (openD d).1] ∧ M.le M' ∧ ∃ hp', RdO M' rb (openD d).2.1 hp' ∧ H' = hp' ++ H := by
  refine K.enterK Try.func32 rfl rfl rfl ?_
  intro Q hNP hQ
  unfold hrdV hrdC at hQ
  have hnow := now_sz d
  have hpsz : d.ps.length ≤ szD d := Nat.le_add_left _ _
  (repeat' (first | (apply R.step; (exact a_ok); exact rfl) | (first | (with_reducible first | apply R.nil | apply C.ret | apply C.block | apply C.skip | apply C.exit | apply Fin.thenRet | apply Fin.thenExit | apply Fin.blockNormal | apply Fin.blockRet | apply Fin.blockExit) | (with_reducible apply Fin.thenK; assumption) | (with_reducible apply C.seqK; intro _ _) | (with_reducible apply C.regionK; intro _ _) | (with_reducible apply Fin.blockOther; exact rfl)) | (apply R.store; exact rfl; exact rfl; exact rfl; (exact a_at); (exact a_blit); exact rfl; (focus (simp [Value.oneCell']; done))) | (first | (apply R.guardT; assumption; exact rfl; exact rfl; exact rfl) | (apply R.guardF; assumption; exact rfl; exact rfl; exact rfl; exact rfl; exact rfl) | (apply R.guardU; assumption; exact rfl; exact rfl; exact rfl; exact rfl) | (apply R.guardDec; assumption; exact rfl; exact rfl; (intro h; skip; rotate_left; intro h; skip; rotate_left)) | (apply R.guardBeq; assumption; exact rfl; exact rfl; (intro h; skip; rotate_left; intro h; skip; rotate_left)) | (apply R.guardBne; assumption; exact rfl; exact rfl; (intro h; skip; rotate_left; intro h; skip; rotate_left)) | (apply R.guardNDec; assumption; exact rfl; exact rfl; (intro h; skip; rotate_left; intro h; skip; rotate_left)) | (apply R.guardNot; assumption; exact rfl; exact rfl; (intro h; skip; rotate_left; intro h; skip; rotate_left)) | (apply R.guardC; assumption; exact rfl; exact rfl; (intro h; skip; rotate_left; intro h; skip; rotate_left))) | (first | (apply C.condT; exact rfl) | (apply C.condF; exact rfl) | (apply C.condDec; exact rfl; (intro h; skip; rotate_left; intro h; skip; rotate_left)) | (apply C.condBeq; exact rfl; (intro h; skip; rotate_left; intro h; skip; rotate_left)) | (apply C.condBne; exact rfl; (intro h; skip; rotate_left; intro h; skip; rotate_left)) | (apply C.condNDec; exact rfl; (intro h; skip; rotate_left; intro h; skip; rotate_left)) | (apply C.condNot; exact rfl; (intro h; skip; rotate_left; intro h; skip; rotate_left)) | (apply C.cond; exact rfl; (intro h; skip; rotate_left; intro h; skip; rotate_left)))))
  ((apply R.alloc; (simp only [Value.cells]; rfl); exact rfl); intro b2)
  (repeat' (first | (apply R.step; (exact a_ok); exact rfl) | (first | (with_reducible first | apply R.nil | apply C.ret | apply C.block | apply C.skip | apply C.exit | apply Fin.thenRet | apply Fin.thenExit | apply Fin.blockNormal | apply Fin.blockRet | apply Fin.blockExit) | (with_reducible apply Fin.thenK; assumption) | (with_reducible apply C.seqR; intro _ _) | (with_reducible apply C.regionK; intro _ _) | (with_reducible apply Fin.blockOther; exact rfl)) | (first | (apply R.store; exact rfl; exact rfl; exact rfl; (exact a_at); (exact a_blit); exact rfl; (focus (simp [Value.oneCell']; done))) | (apply R.buildSlice0; exact rfl; intro bz) | (apply R.box; exact rfl; (simp only [Value.cells]; rfl); exact rfl; intro bx) | (apply R.alloc; (simp only [Value.cells]; rfl); exact rfl; intro ba) | (apply R.buildSlice; (exact a_prt); exact rfl; exact rfl; (exact a_fills); exact rfl; intro bl)) | (first | (apply R.guardT; assumption; exact rfl; exact rfl; exact rfl) | (apply R.guardF; assumption; exact rfl; exact rfl; exact rfl; exact rfl; exact rfl) | (apply R.guardU; assumption; exact rfl; exact rfl; exact rfl; exact rfl) | (apply R.guardDec; assumption; exact rfl; exact rfl; (intro h; skip; rotate_left; intro h; skip; rotate_left)) | (apply R.guardBeq; assumption; exact rfl; exact rfl; (intro h; skip; rotate_left; intro h; skip; rotate_left)) | (apply R.guardBne; assumption; exact rfl; exact rfl; (intro h; skip; rotate_left; intro h; skip; rotate_left)) | (apply R.guardNDec; assumption; exact rfl; exact rfl; (intro h; skip; rotate_left; intro h; skip; rotate_left)) | (apply R.guardNot; assumption; exact rfl; exact rfl; (intro h; skip; rotate_left; intro h; skip; rotate_left)) | (apply R.guardC; assumption; exact rfl; exact rfl; (intro h; skip; rotate_left; intro h; skip; rotate_left)))))
  (apply C.seqK; intro _ _)
  (repeat' (first | (apply R.step; (apply Ok.move; exact rfl); exact rfl) | (apply R.step; (apply Ok.eqPN; exact rfl; exact rfl); exact rfl) | (apply R.step; (exact a_ok); exact rfl) | (first | (with_reducible first | apply R.nil | apply C.ret | apply C.block | apply C.skip | apply C.exit | apply Fin.thenRet | apply Fin.thenExit | apply Fin.blockNormal | apply Fin.blockRet | apply Fin.blockExit) | (with_reducible apply Fin.thenK; assumption) | (with_reducible apply C.seqR; intro _ _) | (with_reducible apply C.regionK; intro _ _) | (with_reducible apply Fin.blockOther; exact rfl)) | (first | (apply R.store; exact rfl; exact rfl; exact rfl; (exact a_at); (exact a_blit); exact rfl; (focus (simp [Value.oneCell']; done))) | (apply R.buildSlice0; exact rfl; intro bz) | (apply R.box; exact rfl; (simp only [Value.cells]; rfl); exact rfl; intro bx) | (apply R.alloc; (simp only [Value.cells]; rfl); exact rfl; intro ba) | (apply R.buildSlice; (exact a_prt); exact rfl; exact rfl; (exact a_fills); exact rfl; intro bl)) | (first | (apply R.guardT; assumption; exact rfl; exact rfl; exact rfl) | (apply R.guardF; assumption; exact rfl; exact rfl; exact rfl; exact rfl; exact rfl) | (apply R.guardU; assumption; exact rfl; exact rfl; exact rfl; exact rfl) | (apply R.guardDec; assumption; exact rfl; exact rfl; (intro h; skip; rotate_left; intro h; skip; rotate_left)) | (apply R.guardBeq; assumption; exact rfl; exact rfl; (intro h; skip; rotate_left; intro h; skip; rotate_left)) | (apply R.guardBne; assumption; exact rfl; exact rfl; (intro h; skip; rotate_left; intro h; skip; rotate_left)) | (apply R.guardNDec; assumption; exact rfl; exact rfl; (intro h; skip; rotate_left; intro h; skip; rotate_left)) | (apply R.guardNot; assumption; exact rfl; exact rfl; (intro h; skip; rotate_left; intro h; skip; rotate_left)) | (apply R.guardC; assumption; exact rfl; exact rfl; (intro h; skip; rotate_left; intro h; skip; rotate_left)))))
  ((apply C.condF; exact rfl); apply C.skip; (apply Fin.thenK; assumption))
  apply C.arr (H2 := hp ++ ((b2, .cells [.int .u64 0, .int .i64 0].toArray 44 (0, 0)) :: H)) (by ((try simp only [List.append_assoc, List.cons_append, List.nil_append, List.append_nil]); exact a_arr))
  apply C.seqCut (X := RcX2) (fun y => M.le y.M ∧ (clearD d).1 = 0 ∧ RdO y.M rb (clearD d).2 y.hp) (fun _ => [(0, .pointer (some ⟨rb, 0, none⟩)), (2, .pointer (some ⟨b2, 0, none⟩))]) (fun y => y.M) (fun y => y.hp ++ ((b2, .cells [.int .u64 0, .int .i64 0].toArray 44 (0, 0)) :: H))
  · (repeat' (first | refine a_go ?_ | (with_reducible apply Fin.thenK; assumption) | (with_reducible (first | apply C.seqK | apply C.regionK); intro _ _) | (apply R.buildSlice0; exact rfl; intro bz) | (apply R.box; exact rfl; (simp only [Value.cells]; rfl); exact rfl; intro bx) | (apply R.alloc; (simp only [Value.cells]; rfl); exact rfl; intro ba) | (apply R.buildSlice; (exact a_prt); exact rfl; exact rfl; (exact a_fills); exact rfl; intro bl) | (refine a_sp ?_ ?_; (intro h; skip; rotate_left; intro h; skip; rotate_left)) | fail))
    (apply R.call; (exact a_evs); exact rfl; exact here_K (n := hnew) ho (by omega); rintro _ M _ ⟨rfl, rfl, rfl⟩)
    cases hs : (readD d hnew).isSome with
    | false =>
      have hcl : clearD d = (0, d) := by unfold clearD; rw [hs]; rfl
      (repeat' (first | refine a_go ?_ | (with_reducible apply Fin.thenK; assumption) | (with_reducible (first | apply C.seqK | apply C.regionK); intro _ _) | (apply R.buildSlice0; exact rfl; intro bz) | (apply R.box; exact rfl; (simp only [Value.cells]; rfl); exact rfl; intro bx) | (apply R.alloc; (simp only [Value.cells]; rfl); exact rfl; intro ba) | (apply R.buildSlice; (exact a_prt); exact rfl; exact rfl; (exact a_fills); exact rfl; intro bl) | (refine a_sp ?_ ?_; (intro h; skip; rotate_left; intro h; skip; rotate_left)) | fail))
      refine Fin.join (⟨M, hp⟩ : RcX2) ⟨Mem.le_refl _, by rw [hcl], by dsimp only; rw [hcl]; exact ho⟩ ?_ rfl rfl
      (exact a_subs)
    | true =>
      have hcl : clearD d = (remE d hnew, opD (remE d hnew) d (.rem hnew)) := by unfold clearD; rw [hs]; rfl
      (repeat' (first | refine a_go ?_ | (with_reducible apply Fin.thenK; assumption) | (with_reducible (first | apply C.seqK | apply C.regionK); intro _ _) | (apply R.buildSlice0; exact rfl; intro bz) | (apply R.box; exact rfl; (simp only [Value.cells]; rfl); exact rfl; intro bx) | (apply R.alloc; (simp only [Value.cells]; rfl); exact rfl; intro ba) | (apply R.buildSlice; (exact a_prt); exact rfl; exact rfl; (exact a_fills); exact rfl; intro bl) | (refine a_sp ?_ ?_; (intro h; skip; rotate_left; intro h; skip; rotate_left)) | fail))
      (apply R.call; (exact a_evs); exact rfl; exact rremove_K (n := hnew) ho (by omega) (by omega); rintro _ M8 _ ⟨rfl, hM8, hp8, ho8, rfl⟩)
      by_cases hc1 : remE d hnew ≠ 0
      · have hE : openD d = (remE d hnew, opD (remE d hnew) d (.rem hnew), (0, 0)) := by
          unfold openD
          rw [hcl]
          exact if_pos hc1
        rw [hE] at hQ
        (repeat' (first | (apply R.step; (apply Ok.move; exact rfl); exact rfl) | (apply R.step; (apply Ok.neIT; exact rfl; exact rfl; exact hc1); exact rfl) | refine a_go ?_ | (with_reducible apply Fin.thenK; assumption) | (with_reducible (first | apply C.seqK | apply C.regionK); intro _ _) | (apply R.buildSlice0; exact rfl; intro bz) | (apply R.box; exact rfl; (simp only [Value.cells]; rfl); exact rfl; intro bx) | (apply R.alloc; (simp only [Value.cells]; rfl); exact rfl; intro ba) | (apply R.buildSlice; (exact a_prt); exact rfl; exact rfl; (exact a_fills); exact rfl; intro bl) | (refine a_sp ?_ ?_; (intro h; skip; rotate_left; intro h; skip; rotate_left)) | fail))
        (apply Fin.returnA (H2 := hp8 ++ H); assumption; (first | exact .inl rfl | exact .inr rfl); exact rfl; (exact a_res); (simp only [retv]; rfl); (exact a_arr))
        exact ⟨rfl, hM8, hp8, ho8, rfl⟩
      · have hc0 : remE d hnew = 0 := by omega
        (repeat' (first | (apply R.step; (apply Ok.move; exact rfl); exact rfl) | (apply R.step; (apply Ok.neIR; exact rfl; exact rfl; exact hc0); exact rfl) | refine a_go ?_ | (with_reducible apply Fin.thenK; assumption) | (with_reducible (first | apply C.seqK | apply C.regionK); intro _ _) | (apply R.buildSlice0; exact rfl; intro bz) | (apply R.box; exact rfl; (simp only [Value.cells]; rfl); exact rfl; intro bx) | (apply R.alloc; (simp only [Value.cells]; rfl); exact rfl; intro ba) | (apply R.buildSlice; (exact a_prt); exact rfl; exact rfl; (exact a_fills); exact rfl; intro bl) | (refine a_sp ?_ ?_; (intro h; skip; rotate_left; intro h; skip; rotate_left)) | fail))
        refine Fin.join (⟨M8, hp8⟩ : RcX2) ⟨hM8, by rw [hcl]; exact hc0, by dsimp only; rw [hcl]; exact ho8⟩ ?_ rfl rfl
        (exact a_subs)
  rintro ⟨M1, hp1⟩ ⟨hM1, hc0, ho1⟩
  dsimp only at hM1 hc0 ho1 ⊢
  have hE : openD d = openC (clearD d).2 ((readD (clearD d).2 hfile).getD []) (openF (framesF ((readD (clearD d).2 hfile).getD []).length ((readD (clearD d).2 hfile).getD [])) (0, 0) 0) := if_neg (by rw [hc0]; decide)
  rw [hE] at hQ
  have hcs := clearD_sz d
  have hcn := now_sz (clearD d).2
  have hcp : (clearD d).2.ps.length ≤ szD (clearD d).2 := Nat.le_add_left _ _
  clear hE hc0 ho
  generalize (clearD d).2 = d1 at ho1 hcs hcn hcp hQ
  have hbl := readD_len ho1.isok hfile
  (repeat' (first | refine a_go ?_ | (with_reducible apply Fin.thenK; assumption) | (with_reducible (first | apply C.seqK | apply C.regionK); intro _ _) | (apply R.buildSlice0; exact rfl; intro bz) | (apply R.box; exact rfl; (simp only [Value.cells]; rfl); exact rfl; intro bx) | (apply R.alloc; (simp only [Value.cells]; rfl); exact rfl; intro ba) | (apply R.buildSlice; (exact a_prt); exact rfl; exact rfl; (exact a_fills); exact rfl; intro bl) | (refine a_sp ?_ ?_; (intro h; skip; rotate_left; intro h; skip; rotate_left)) | fail))
  (apply R.call; (exact a_evs); exact rfl; exact rread_KD (n := hfile) ho1 (by omega); rintro _ M1 _ ⟨v5, rfl, hb5, rfl, rfl⟩)
  generalize (readD d1 hfile).getD [] = b at hb5 hbl hQ
  obtain ⟨A5, c5, rfl, k1, k2, hpl5⟩ := hb5
  (repeat' (first | refine a_go ?_ | (with_reducible apply Fin.thenK; assumption) | (with_reducible (first | apply C.seqK | apply C.regionK); intro _ _) | (apply R.buildSlice0; exact rfl; intro bz) | (apply R.box; exact rfl; (simp only [Value.cells]; rfl); exact rfl; intro bx) | (apply R.alloc; (simp only [Value.cells]; rfl); exact rfl; intro ba) | (apply R.buildSlice; (exact a_prt); exact rfl; exact rfl; (exact a_fills); exact rfl; intro bl) | (refine a_sp ?_ ?_; (intro h; skip; rotate_left; intro h; skip; rotate_left)) | fail))
  (apply R.call; (exact a_evs); exact rfl; exact rlist_Km hpl5 rfl k1 k2 (by omega); rintro _ M2 _ ⟨ov, rfl, hls, hM2, rfl⟩)
  obtain ⟨AL, cL, vs, rfl, q1, q2, q3, q4⟩ := hls
  obtain ⟨fs, hfs⟩ : ∃ fs, fs = framesF b.length b := ⟨_, rfl⟩
  have hend := framesF_end b.length b
  rw [← hfs] at q1 q4 hend hQ ⊢
  have hfl := framesF_small b.length b
  rw [← hfs] at hfl
  (repeat' (first | (apply R.step; (exact a_ok); exact rfl) | (first | (with_reducible first | apply R.nil | apply C.ret | apply C.block | apply C.skip | apply C.exit | apply Fin.thenRet | apply Fin.thenExit | apply Fin.blockNormal | apply Fin.blockRet | apply Fin.blockExit) | (with_reducible apply Fin.thenK; assumption) | (with_reducible apply C.seqK; intro _ _) | (with_reducible apply C.regionK; intro _ _) | (with_reducible apply Fin.blockOther; exact rfl)) | (apply R.store; exact rfl; exact rfl; exact rfl; (exact a_at); (exact a_blit); exact rfl; (focus (simp [Value.oneCell']; done))) | (first | (apply R.guardT; assumption; exact rfl; exact rfl; exact rfl) | (apply R.guardF; assumption; exact rfl; exact rfl; exact rfl; exact rfl; exact rfl) | (apply R.guardU; assumption; exact rfl; exact rfl; exact rfl; exact rfl) | (apply R.guardDec; assumption; exact rfl; exact rfl; (intro h; skip; rotate_left; intro h; skip; rotate_left)) | (apply R.guardBeq; assumption; exact rfl; exact rfl; (intro h; skip; rotate_left; intro h; skip; rotate_left)) | (apply R.guardBne; assumption; exact rfl; exact rfl; (intro h; skip; rotate_left; intro h; skip; rotate_left)) | (apply R.guardNDec; assumption; exact rfl; exact rfl; (intro h; skip; rotate_left; intro h; skip; rotate_left)) | (apply R.guardNot; assumption; exact rfl; exact rfl; (intro h; skip; rotate_left; intro h; skip; rotate_left)) | (apply R.guardC; assumption; exact rfl; exact rfl; (intro h; skip; rotate_left; intro h; skip; rotate_left))) | (first | (apply C.condT; exact rfl) | (apply C.condF; exact rfl) | (apply C.condDec; exact rfl; (intro h; skip; rotate_left; intro h; skip; rotate_left)) | (apply C.condBeq; exact rfl; (intro h; skip; rotate_left; intro h; skip; rotate_left)) | (apply C.condBne; exact rfl; (intro h; skip; rotate_left; intro h; skip; rotate_left)) | (apply C.condNDec; exact rfl; (intro h; skip; rotate_left; intro h; skip; rotate_left)) | (apply C.condNot; exact rfl; (intro h; skip; rotate_left; intro h; skip; rotate_left)) | (apply C.cond; exact rfl; (intro h; skip; rotate_left; intro h; skip; rotate_left)))))
  ((apply R.alloc; (simp only [Value.cells]; rfl); exact rfl); intro b9)
  (repeat' (first | (apply R.step; (exact a_ok); exact rfl) | (first | (with_reducible first | apply R.nil | apply C.ret | apply C.block | apply C.skip | apply C.exit | apply Fin.thenRet | apply Fin.thenExit | apply Fin.blockNormal | apply Fin.blockRet | apply Fin.blockExit) | (with_reducible apply Fin.thenK; assumption) | (with_reducible apply C.seqR; intro _ _) | (with_reducible apply C.regionK; intro _ _) | (with_reducible apply Fin.blockOther; exact rfl)) | (first | (apply R.store; exact rfl; exact rfl; exact rfl; (exact a_at); (exact a_blit); exact rfl; (focus (simp [Value.oneCell']; done))) | (apply R.buildSlice0; exact rfl; intro bz) | (apply R.box; exact rfl; (simp only [Value.cells]; rfl); exact rfl; intro bx) | (apply R.alloc; (simp only [Value.cells]; rfl); exact rfl; intro ba) | (apply R.buildSlice; (exact a_prt); exact rfl; exact rfl; (exact a_fills); exact rfl; intro bl)) | (first | (apply R.guardT; assumption; exact rfl; exact rfl; exact rfl) | (apply R.guardF; assumption; exact rfl; exact rfl; exact rfl; exact rfl; exact rfl) | (apply R.guardU; assumption; exact rfl; exact rfl; exact rfl; exact rfl) | (apply R.guardDec; assumption; exact rfl; exact rfl; (intro h; skip; rotate_left; intro h; skip; rotate_left)) | (apply R.guardBeq; assumption; exact rfl; exact rfl; (intro h; skip; rotate_left; intro h; skip; rotate_left)) | (apply R.guardBne; assumption; exact rfl; exact rfl; (intro h; skip; rotate_left; intro h; skip; rotate_left)) | (apply R.guardNDec; assumption; exact rfl; exact rfl; (intro h; skip; rotate_left; intro h; skip; rotate_left)) | (apply R.guardNot; assumption; exact rfl; exact rfl; (intro h; skip; rotate_left; intro h; skip; rotate_left)) | (apply R.guardC; assumption; exact rfl; exact rfl; (intro h; skip; rotate_left; intro h; skip; rotate_left)))))
  apply C.seqCut (X := RohY) (fun y => openF fs (0, 0) 0 = (y.h, y.at_)) (fun y => [(0, .pointer (some ⟨rb, 0, none⟩)), (2, .pointer (some ⟨b2, 0, none⟩)), (5, .slice A5 b.length c5), (9, .pointer (some ⟨b9, 0, none⟩)), (10, .int .i64 (y.at_ : Int))]) (fun _ => M2) (fun y => (b9, .cells [.int .u64 (y.h.1 : Int), .int .i64 y.h.2].toArray 44 (0, 0)) :: (hp1 ++ ((b2, .cells [.int .u64 0, .int .i64 0].toArray 44 (0, 0)) :: H)))
  · (repeat' (first | refine a_go ?_ | (with_reducible apply Fin.thenK; assumption) | (with_reducible (first | apply C.seqK | apply C.regionK); intro _ _) | (apply R.buildSlice0; exact rfl; intro bz) | (apply R.box; exact rfl; (simp only [Value.cells]; rfl); exact rfl; intro bx) | (apply R.alloc; (simp only [Value.cells]; rfl); exact rfl; intro ba) | (apply R.buildSlice; (exact a_prt); exact rfl; exact rfl; (exact a_fills); exact rfl; intro bl) | (refine a_sp ?_ ?_; (intro h; skip; rotate_left; intro h; skip; rotate_left)) | fail))
    apply C.loop (fun y : RohX => (y.i : Int) = y.ii ∧ y.i ≤ fs.length ∧ openF fs (0, 0) 0 = openF (fs.drop y.i) y.h y.at_ ∧ y.at_ = endS (fs.take y.i)) (fun y => [(0, .pointer (some ⟨rb, 0, none⟩)), (2, .pointer (some ⟨b2, 0, none⟩)), (5, .slice A5 b.length c5), (7, .slice AL fs.length cL), (9, .pointer (some ⟨b9, 0, none⟩)), (10, .int .i64 (y.at_ : Int)), (11, .int .i64 y.ii)]) (fun _ => M2) (fun y => (b9, .cells [.int .u64 (y.h.1 : Int), .int .i64 y.h.2].toArray 44 (0, 0)) :: (hp1 ++ ((b2, .cells [.int .u64 0, .int .i64 0].toArray 44 (0, 0)) :: H))) (fun y => fs.length - y.i) ⟨0, 0, (0, 0), 0⟩
    · exact ⟨rfl, Nat.zero_le _, rfl, rfl⟩
    · (exact a_subs)
    · exact rfl
    · exact rfl
    rintro ⟨i, ii, ⟨ht, hv⟩, at_⟩ ⟨hii, hi, hop, hat⟩
    dsimp only at hii hi hop hat ⊢
    have hate : at_ ≤ b.length := by
      have := endS_take fs i
      omega
    by_cases hix : i < fs.length
    · obtain ⟨bb, o, c, e, fr, Ai, ci, hA, hM, hcell, _, hl1, hl2, hpi⟩ := PlV.at_ q3 q4 hix
      subst hA
      rw [show o + i = o + ii.toNat * 1 by omega] at hcell
      have hr6 : fs[i].length ≤ 65536 := hfl _ (List.getElem_mem hix)
      have hdr := List.drop_eq_getElem_cons hix
      rw [hdr] at hop
      have hes : endS (fs.take (i + 1)) = at_ + (8 + fs[i].length) := by
        rw [hat, List.take_succ_eq_append_getElem hix, endS_append]
        simp [endS]
      have hes2 := endS_take fs (i + 1)
      have hbr : PlB M2 (.slice Ai fs[i].length ci) fs[i] := ⟨Ai, ci, rfl, hl1, hl2, hpi⟩
      generalize fs[i] = r at hcell hr6 hop hes hl1 hpi hbr hdr
      (repeat' (first | (apply R.step; (apply Ok.move; exact rfl); exact rfl) | (apply R.step; (first | (apply Ok.ltTr; exact rfl; exact rfl; omega) | (apply Ok.loadP; exact rfl; exact rfl; exact hM; exact hcell)); exact rfl) | refine a_go ?_ | (with_reducible apply Fin.thenK; assumption) | (with_reducible (first | apply C.seqK | apply C.regionK); intro _ _) | (apply R.buildSlice0; exact rfl; intro bz) | (apply R.box; exact rfl; (simp only [Value.cells]; rfl); exact rfl; intro bx) | (apply R.alloc; (simp only [Value.cells]; rfl); exact rfl; intro ba) | (apply R.buildSlice; (exact a_prt); exact rfl; exact rfl; (exact a_fills); exact rfl; intro bl) | (refine a_sp ?_ ?_; (intro h; skip; rotate_left; intro h; skip; rotate_left)) | fail))
      (apply R.call; (exact a_evs); exact rfl; (apply K.arr (h := rrnum_K (v := .slice Ai r.length ci) (rb := bx) (most := 72057594037927935) (at_ := 0) (bad := 0) (H := (b9, .cells [.int .u64 (ht : Int), .int .i64 hv].toArray 44 (0, 0)) :: (hp1 ++ ((b2, .cells [.int .u64 0, .int .i64 0].toArray 44 (0, 0)) :: H))) hbr (by omega) (Nat.zero_le _))); ((try simp only [List.append_assoc, List.cons_append, List.nil_append, List.append_nil]); exact a_arr); rintro _ M2 _ ⟨rfl, rfl, rfl⟩)
      have hz1 := numRd_at (bs := r) (most := 72057594037927935) (at_ := 0) (bad := 0) (Nat.zero_le _)
      have hrec : recP r = if endR r (byteR r 7 (numRd r 72057594037927935 0 0).2.1 (numRd r 72057594037927935 0 0).2.2).2.1 (byteR r 7 (numRd r 72057594037927935 0 0).2.1 (numRd r 72057594037927935 0 0).2.2).2.2 = 0
        then some ((numRd r 72057594037927935 0 0).1, ((byteR r 7 (numRd r 72057594037927935 0 0).2.1 (numRd r 72057594037927935 0 0).2.2).1.toNat : Int)) else none := rfl
      generalize numRd r 72057594037927935 0 0 = z1 at hz1 hrec
      obtain ⟨t1, a1, e1⟩ := z1
      dsimp only at hz1 hrec ⊢
      (repeat' (first | (apply R.step; (exact a_ok); exact rfl) | (first | (with_reducible first | apply R.nil | apply C.ret | apply C.block | apply C.skip | apply C.exit | apply Fin.thenRet | apply Fin.thenExit | apply Fin.blockNormal | apply Fin.blockRet | apply Fin.blockExit) | (with_reducible apply Fin.thenK; assumption) | (with_reducible apply C.seqK; intro _ _) | (with_reducible apply C.regionK; intro _ _) | (with_reducible apply Fin.blockOther; exact rfl)) | (apply R.store; exact rfl; exact rfl; exact rfl; (exact a_at); (exact a_blit); exact rfl; (focus (simp [Value.oneCell']; done))) | (first | (apply R.guardT; assumption; exact rfl; exact rfl; exact rfl) | (apply R.guardF; assumption; exact rfl; exact rfl; exact rfl; exact rfl; exact rfl) | (apply R.guardU; assumption; exact rfl; exact rfl; exact rfl; exact rfl) | (apply R.guardDec; assumption; exact rfl; exact rfl; (intro h; skip; rotate_left; intro h; skip; rotate_left)) | (apply R.guardBeq; assumption; exact rfl; exact rfl; (intro h; skip; rotate_left; intro h; skip; rotate_left)) | (apply R.guardBne; assumption; exact rfl; exact rfl; (intro h; skip; rotate_left; intro h; skip; rotate_left)) | (apply R.guardNDec; assumption; exact rfl; exact rfl; (intro h; skip; rotate_left; intro h; skip; rotate_left)) | (apply R.guardNot; assumption; exact rfl; exact rfl; (intro h; skip; rotate_left; intro h; skip; rotate_left)) | (apply R.guardC; assumption; exact rfl; exact rfl; (intro h; skip; rotate_left; intro h; skip; rotate_left))) | (first | (apply C.condT; exact rfl) | (apply C.condF; exact rfl) | (apply C.condDec; exact rfl; (intro h; skip; rotate_left; intro h; skip; rotate_left)) | (apply C.condBeq; exact rfl; (intro h; skip; rotate_left; intro h; skip; rotate_left)) | (apply C.condBne; exact rfl; (intro h; skip; rotate_left; intro h; skip; rotate_left)) | (apply C.condNDec; exact rfl; (intro h; skip; rotate_left; intro h; skip; rotate_left)) | (apply C.condNot; exact rfl; (intro h; skip; rotate_left; intro h; skip; rotate_left)) | (apply C.cond; exact rfl; (intro h; skip; rotate_left; intro h; skip; rotate_left)))))
      ((apply R.alloc; (simp only [Value.cells]; rfl); exact rfl); intro b13)
      (repeat' (first | refine a_go ?_ | (with_reducible apply Fin.thenK; assumption) | (with_reducible (first | apply C.seqK | apply C.regionK); intro _ _) | (apply R.buildSlice0; exact rfl; intro bz) | (apply R.box; exact rfl; (simp only [Value.cells]; rfl); exact rfl; intro bx) | (apply R.alloc; (simp only [Value.cells]; rfl); exact rfl; intro ba) | (apply R.buildSlice; (exact a_prt); exact rfl; exact rfl; (exact a_fills); exact rfl; intro bl) | (refine a_sp ?_ ?_; (intro h; skip; rotate_left; intro h; skip; rotate_left)) | fail))
      (apply R.call; (exact a_evs); exact rfl; (apply K.arr (h := rrbyte_K (v := .slice Ai r.length ci) (rb := bx) (most := 7) (at_ := a1) (bad := e1) (H := (b13, .cells [.int .u64 (t1 : Int), .int .i64 0].toArray 44 (0, 0)) :: (b9, .cells [.int .u64 (ht : Int), .int .i64 hv].toArray 44 (0, 0)) :: (hp1 ++ ((b2, .cells [.int .u64 0, .int .i64 0].toArray 44 (0, 0)) :: H))) hbr hz1)); ((try simp only [List.append_assoc, List.cons_append, List.nil_append, List.append_nil]); exact a_arr); rintro _ M2 _ ⟨rfl, rfl, rfl⟩)
      generalize byteR r 7 a1 e1 = z2 at hrec
      obtain ⟨t2, a2, e2⟩ := z2
      dsimp only at hrec ⊢
      (repeat' (first | (apply R.step; (apply Ok.move; exact rfl); exact rfl) | (apply R.step; (apply Ok.convBI; exact rfl); exact rfl) | refine a_go ?_ | (with_reducible apply Fin.thenK; assumption) | (with_reducible (first | apply C.seqK | apply C.regionK); intro _ _) | (apply R.buildSlice0; exact rfl; intro bz) | (apply R.box; exact rfl; (simp only [Value.cells]; rfl); exact rfl; intro bx) | (apply R.alloc; (simp only [Value.cells]; rfl); exact rfl; intro ba) | (apply R.buildSlice; (exact a_prt); exact rfl; exact rfl; (exact a_fills); exact rfl; intro bl) | (refine a_sp ?_ ?_; (intro h; skip; rotate_left; intro h; skip; rotate_left)) | fail))
      (apply R.call; (exact a_evs); exact rfl; (apply K.arr (h := rrend_K (v := .slice Ai r.length ci) (rb := bx) (at_ := a2) (bad := e2) (H := (b13, .cells [.int .u64 (t1 : Int), .int .i64 (t2.toNat : Int)].toArray 44 (0, 0)) :: (b9, .cells [.int .u64 (ht : Int), .int .i64 hv].toArray 44 (0, 0)) :: (hp1 ++ ((b2, .cells [.int .u64 0, .int .i64 0].toArray 44 (0, 0)) :: H))) hbr (by omega))); ((try simp only [List.append_assoc, List.cons_append, List.nil_append, List.append_nil]); exact a_arr); rintro _ M2 _ ⟨rfl, rfl, rfl⟩)
      by_cases hE : endR r a2 e2 = 0
      · rw [if_pos hE] at hrec
        rw [hE]
        have hat2 : (at_ : Int) + 8 + (r.length : Int) = ((at_ + (8 + r.length) : Nat) : Int) := by omega
        (repeat' (first | (apply R.step; (apply Ok.move; exact rfl); exact rfl) | (apply R.step; (first | (apply Ok.loadP; exact rfl; exact rfl; exact hM; exact hcell) | (apply Ok.addQ ((at_ + (8 + r.length) : Nat) : Int); exact rfl; exact rfl; exact hat2; apply w64; omega; omega)); exact rfl) | refine a_go ?_ | (with_reducible apply Fin.thenK; assumption) | (with_reducible (first | apply C.seqK | apply C.regionK); intro _ _) | (apply R.buildSlice0; exact rfl; intro bz) | (apply R.box; exact rfl; (simp only [Value.cells]; rfl); exact rfl; intro bx) | (apply R.alloc; (simp only [Value.cells]; rfl); exact rfl; intro ba) | (apply R.buildSlice; (exact a_prt); exact rfl; exact rfl; (exact a_fills); exact rfl; intro bl) | (refine a_sp ?_ ?_; (intro h; skip; rotate_left; intro h; skip; rotate_left)) | fail))
        (apply Fin.arr (H2 := (b9, .cells [.int .u64 (t1 : Int), .int .i64 (t2.toNat : Int)].toArray 44 (0, 0)) :: (hp1 ++ ((b2, .cells [.int .u64 0, .int .i64 0].toArray 44 (0, 0)) :: H))); ((try simp only [List.append_assoc, List.cons_append, List.nil_append, List.append_nil]); exact a_arr))
        refine Fin.again (⟨i + 1, ii + 1, (t1, (t2.toNat : Int)), at_ + (8 + r.length)⟩ : RohX) ⟨by dsimp only; omega, by dsimp only; omega, ?_, hes.symm⟩ (by dsimp only; omega) ?_ rfl rfl
        · dsimp only
          rw [hop, openF_some hrec, frameS_len hr6]
        · (exact a_subs)
      · rw [if_neg hE] at hrec
        (repeat' (first | (apply R.step; (apply Ok.move; exact rfl); exact rfl) | (apply R.step; (apply Ok.neIT; exact rfl; exact rfl; exact hE); exact rfl) | refine a_go ?_ | (with_reducible apply Fin.thenK; assumption) | (with_reducible (first | apply C.seqK | apply C.regionK); intro _ _) | (apply R.buildSlice0; exact rfl; intro bz) | (apply R.box; exact rfl; (simp only [Value.cells]; rfl); exact rfl; intro bx) | (apply R.alloc; (simp only [Value.cells]; rfl); exact rfl; intro ba) | (apply R.buildSlice; (exact a_prt); exact rfl; exact rfl; (exact a_fills); exact rfl; intro bl) | (refine a_sp ?_ ?_; (intro h; skip; rotate_left; intro h; skip; rotate_left)) | fail))
        apply Fin.blockOther (by exact rfl)
        (repeat' (first | refine a_go ?_ | (with_reducible apply Fin.thenK; assumption) | (with_reducible (first | apply C.seqK | apply C.regionK); intro _ _) | (apply R.buildSlice0; exact rfl; intro bz) | (apply R.box; exact rfl; (simp only [Value.cells]; rfl); exact rfl; intro bx) | (apply R.alloc; (simp only [Value.cells]; rfl); exact rfl; intro ba) | (apply R.buildSlice; (exact a_prt); exact rfl; exact rfl; (exact a_fills); exact rfl; intro bl) | (refine a_sp ?_ ?_; (intro h; skip; rotate_left; intro h; skip; rotate_left)) | fail))
        (apply Fin.arr (H2 := (b9, .cells [.int .u64 (ht : Int), .int .i64 hv].toArray 44 (0, 0)) :: (hp1 ++ ((b2, .cells [.int .u64 0, .int .i64 0].toArray 44 (0, 0)) :: H))); ((try simp only [List.append_assoc, List.cons_append, List.nil_append, List.append_nil]); exact a_arr))
        refine Fin.join (⟨(ht, hv), at_⟩ : RohY) (by dsimp only; rw [hop, openF_none hrec]) ?_ rfl rfl
        (exact a_subs)
    have hie : i = fs.length := by omega
    subst hie
    rw [List.drop_length] at hop
    (repeat' (first | (apply R.step; (apply Ok.move; exact rfl); exact rfl) | (apply R.step; (first | (apply Ok.ltTr; exact rfl; exact rfl; omega) | (apply Ok.ltF; exact rfl; exact rfl; omega) | (apply Ok.gtTr; exact rfl; exact rfl; omega) | (apply Ok.gtF; exact rfl; exact rfl; omega) | (apply Ok.geTr; exact rfl; exact rfl; omega) | (apply Ok.geF; exact rfl; exact rfl; omega) | (apply Ok.leTr; exact rfl; exact rfl; omega) | (apply Ok.leF; exact rfl; exact rfl; omega) | (apply Ok.neIT; exact rfl; exact rfl; omega) | (apply Ok.eqIF; exact rfl; exact rfl; omega)); exact rfl) | refine a_go ?_ | (with_reducible apply Fin.thenK; assumption) | (with_reducible (first | apply C.seqK | apply C.regionK); intro _ _) | (apply R.buildSlice0; exact rfl; intro bz) | (apply R.box; exact rfl; (simp only [Value.cells]; rfl); exact rfl; intro bx) | (apply R.alloc; (simp only [Value.cells]; rfl); exact rfl; intro ba) | (apply R.buildSlice; (exact a_prt); exact rfl; exact rfl; (exact a_fills); exact rfl; intro bl) | (refine a_sp ?_ ?_; (intro h; skip; rotate_left; intro h; skip; rotate_left)) | fail))
    refine Fin.join (⟨(ht, hv), at_⟩ : RohY) (by dsimp only; exact hop) ?_ rfl rfl
    (exact a_subs)
  rintro ⟨⟨ht, hv⟩, at_⟩ hop
  dsimp only at hop ⊢
  rw [hop] at hQ
  by_cases hlt : at_ < b.length
  · (repeat' (first | (apply R.step; (apply Ok.move; exact rfl); exact rfl) | (apply R.step; (first | (apply Ok.ltTr; exact rfl; exact rfl; omega) | (apply Ok.ltF; exact rfl; exact rfl; omega) | (apply Ok.gtTr; exact rfl; exact rfl; omega) | (apply Ok.gtF; exact rfl; exact rfl; omega) | (apply Ok.geTr; exact rfl; exact rfl; omega) | (apply Ok.geF; exact rfl; exact rfl; omega) | (apply Ok.leTr; exact rfl; exact rfl; omega) | (apply Ok.leF; exact rfl; exact rfl; omega) | (apply Ok.neIT; exact rfl; exact rfl; omega) | (apply Ok.eqIF; exact rfl; exact rfl; omega)); exact rfl) | refine a_go ?_ | (with_reducible apply Fin.thenK; assumption) | (with_reducible (first | apply C.seqK | apply C.regionK); intro _ _) | (apply R.buildSlice0; exact rfl; intro bz) | (apply R.box; exact rfl; (simp only [Value.cells]; rfl); exact rfl; intro bx) | (apply R.alloc; (simp only [Value.cells]; rfl); exact rfl; intro ba) | (apply R.buildSlice; (exact a_prt); exact rfl; exact rfl; (exact a_fills); exact rfl; intro bl) | (refine a_sp ?_ ?_; (intro h; skip; rotate_left; intro h; skip; rotate_left)) | fail))
    apply R.arr (H2 := hp1 ++ ((b9, .cells [.int .u64 (ht : Int), .int .i64 hv].toArray 44 (0, 0)) :: (b2, .cells [.int .u64 0, .int .i64 0].toArray 44 (0, 0)) :: H)) (by ((try simp only [List.append_assoc, List.cons_append, List.nil_append, List.append_nil]); exact a_arr))
    (apply R.call; (exact a_evs); exact rfl; exact rtruncate_K (n := hfile) (k := (at_ : Int)) (ho1.mono hM2) (by omega) (by omega); rintro _ M4 _ ⟨rfl, hM4, hp4, ho4, rfl⟩)
    rw [Int.toNat_natCast] at ho4
    by_cases hte : trcE d1 hfile (at_ : Int) ≠ 0
    · have hE : openC d1 b ((ht, hv), at_) = (trcE d1 hfile (at_ : Int), opD (trcE d1 hfile (at_ : Int)) d1 (.trc hfile at_), (0, 0)) := (if_pos hlt).trans (if_pos hte)
      rw [hE] at hQ
      (repeat' (first | (apply R.step; (apply Ok.move; exact rfl); exact rfl) | (apply R.step; (apply Ok.neIT; exact rfl; exact rfl; exact hte); exact rfl) | refine a_go ?_ | (with_reducible apply Fin.thenK; assumption) | (with_reducible (first | apply C.seqK | apply C.regionK); intro _ _) | (apply R.buildSlice0; exact rfl; intro bz) | (apply R.box; exact rfl; (simp only [Value.cells]; rfl); exact rfl; intro bx) | (apply R.alloc; (simp only [Value.cells]; rfl); exact rfl; intro ba) | (apply R.buildSlice; (exact a_prt); exact rfl; exact rfl; (exact a_fills); exact rfl; intro bl) | (refine a_sp ?_ ?_; (intro h; skip; rotate_left; intro h; skip; rotate_left)) | fail))
      (apply Fin.returnA (H2 := hp4 ++ H); assumption; (first | exact .inl rfl | exact .inr rfl); exact rfl; (exact a_res); (simp only [retv]; rfl); (exact a_arr))
      exact ⟨rfl, hM1.trans_ (hM2.trans_ hM4), hp4, ho4, rfl⟩
    · have hte0 : trcE d1 hfile (at_ : Int) = 0 := by omega
      have hE : openC d1 b ((ht, hv), at_) = (0, opD 0 d1 (.trc hfile at_), (ht, hv)) := (if_pos hlt).trans (if_neg hte)
      rw [hE] at hQ
      rw [hte0] at ho4 ⊢
      (repeat' (first | refine a_go ?_ | (with_reducible apply Fin.thenK; assumption) | (with_reducible (first | apply C.seqK | apply C.regionK); intro _ _) | (apply R.buildSlice0; exact rfl; intro bz) | (apply R.box; exact rfl; (simp only [Value.cells]; rfl); exact rfl; intro bx) | (apply R.alloc; (simp only [Value.cells]; rfl); exact rfl; intro ba) | (apply R.buildSlice; (exact a_prt); exact rfl; exact rfl; (exact a_fills); exact rfl; intro bl) | (refine a_sp ?_ ?_; (intro h; skip; rotate_left; intro h; skip; rotate_left)) | fail))
      (apply Fin.returnA (H2 := hp4 ++ H); assumption; (first | exact .inl rfl | exact .inr rfl); exact rfl; (exact a_res); (simp only [retv]; rfl); (exact a_arr))
      exact ⟨rfl, hM1.trans_ (hM2.trans_ hM4), hp4, ho4, rfl⟩
  · have hE : openC d1 b ((ht, hv), at_) = (0, d1, (ht, hv)) := if_neg hlt
    rw [hE] at hQ
    (repeat' (first | (apply R.step; (apply Ok.move; exact rfl); exact rfl) | (apply R.step; (first | (apply Ok.ltTr; exact rfl; exact rfl; omega) | (apply Ok.ltF; exact rfl; exact rfl; omega) | (apply Ok.gtTr; exact rfl; exact rfl; omega) | (apply Ok.gtF; exact rfl; exact rfl; omega) | (apply Ok.geTr; exact rfl; exact rfl; omega) | (apply Ok.geF; exact rfl; exact rfl; omega) | (apply Ok.leTr; exact rfl; exact rfl; omega) | (apply Ok.leF; exact rfl; exact rfl; omega) | (apply Ok.neIT; exact rfl; exact rfl; omega) | (apply Ok.eqIF; exact rfl; exact rfl; omega)); exact rfl) | refine a_go ?_ | (with_reducible apply Fin.thenK; assumption) | (with_reducible (first | apply C.seqK | apply C.regionK); intro _ _) | (apply R.buildSlice0; exact rfl; intro bz) | (apply R.box; exact rfl; (simp only [Value.cells]; rfl); exact rfl; intro bx) | (apply R.alloc; (simp only [Value.cells]; rfl); exact rfl; intro ba) | (apply R.buildSlice; (exact a_prt); exact rfl; exact rfl; (exact a_fills); exact rfl; intro bl) | (refine a_sp ?_ ?_; (intro h; skip; rotate_left; intro h; skip; rotate_left)) | fail))
    (apply Fin.returnA (H2 := hp1 ++ H); assumption; (first | exact .inl rfl | exact .inr rfl); exact rfl; (exact a_res); (simp only [retv]; rfl); (exact a_arr))
    exact ⟨rfl, hM1.trans_ hM2, hp1, ho1.mono hM2, rfl⟩
end Go.Sx
end
section
namespace Go.Sx
open Go Go.Proofs Go.RowKit
attribute [local irreducible] C R Fin K Own OwnT Rd Pl Ok KOf RetOk OpsOf RP KP Res NoPanic KV KE MapS ItS EntS FsO FsR RowD PlD DkO PlFs RT KT OneT RS KS OneS RdO
section
variable {H : Type} {enc : TypeId × Value → H} {W : World} {m : Nat} {cs : List Value} {z : DataW H × List MemPlace}
end
variable {M M' : Mem} {H H1 H2 : Hp}
theorem openD_sz (d : Dk) : szD (openD d).2.1 ≤ szD d + 2 := by
  have h := clearD_sz d
  unfold openD
  split
  · dsimp only
    omega
  · unfold openC
    split
    · split
      · have := opD_ps2 (clearD d).2 (trcE (clearD d).2 hfile (openF (framesF ((readD (clearD d).2 hfile).getD []).length ((readD (clearD d).2 hfile).getD [])) (0, 0) 0).2) (.trc hfile (openF (framesF ((readD (clearD d).2 hfile).getD []).length ((readD (clearD d).2 hfile).getD [])) (0, 0) 0).2)
        exact Nat.le_trans this (by omega)
      · exact Nat.le_trans (opD_ps2 _ _ _) (by omega)
    · dsimp only
      omega
end Go.Sx
end
section
namespace Go.Sx
open Go Go.Proofs Go.RowKit
attribute [local irreducible] C R Fin K Own OwnT Rd Pl Ok KOf RetOk OpsOf RP KP Res NoPanic KV KE MapS ItS EntS FsO FsR RowD PlD DkO PlFs RT KT OneT RS KS OneS RdO
variable {M M' : Mem} {H H1 H2 : Hp}
theorem PlFs.mk {A : Option Addr} {cap : Nat} {es : List FE} (h1 : es.length ≤ cap) (h2 : cap ≤ 9223372036854775807) (h3 : Pl M A (es.map feC).flatten) (h4 : EsOk M es) : PlFs M (.slice A es.length cap) (es.map feP) := by
  unfold PlFs
  exact ⟨A, cap, es, rfl, h1, h2, h3, h4, rfl⟩
theorem Own.row1 {e sz b : Nat} {c : List Value} (h : c.length = sz) : Own e sz (.slice (some ⟨b, 0, none⟩) 1 1) 1 c [(b, .cells c.toArray e (0, 0))] := by
  unfold Own
  exact ⟨by omega, .inr ⟨b, 1, c.toArray, rfl, rfl, Nat.le_refl _, by unfold maxLen; omega, by simp; omega, by rw [Nat.one_mul, ← h]; simp⟩⟩
theorem appsD_sz : ∀ (F : Fs) (d : Dk), szD (appsD d F) ≤ szD d + F.length
  | [], d => Nat.le_refl _
  | p :: F, d => by
    have h1 := appsD_sz F (opD (appE d p.1 p.2) d (.app p.1 p.2))
    have h2 := opD_ps2 d (appE d p.1 p.2) (.app p.1 p.2)
    have h3 : appsD d (p :: F) = appsD (opD (appE d p.1 p.2) d (.app p.1 p.2)) F := rfl
    rw [h3, List.length_cons]
    omega
theorem pairD_sz (r : Int) (F : Fs) (h : F.length ≤ 20) : szD (pairD r F) ≤ F.length := by
  have h1 := synD_sz (appsD (newD r) (F.take 20))
  have h2 := appsD_sz (F.take 20) (newD r)
  have h3 : szD (newD r) = 0 := rfl
  rw [List.take_of_length_le h] at h1 h2
  unfold pairD
  rw [List.take_of_length_le h]
  omega
structure HaX where
  i : Nat
  ii : Int
  v : Value
  bs : Txt
  hp : Hp
  M : Mem
structure HaY where
  v : Value
  es : List FE
  hp : Hp
  M : Mem
def fe1 (v : Value) (b : Txt) : FE := ⟨hfile, v, b⟩
def fe2 (v : Value) (b : Txt) : FE := ⟨hnew, v, b⟩
theorem hardAny_K {A B : Option Addr} {cap cb : Nat} {xs : List Hd} {bs : Txt} {cut : Int} {other : Bool} (hb : Pl M B (bs.map bv)) (hbc : bs.length ≤ cb) (hbl : cb ≤ 140737488351232) (hpl : Pl M A (xs.map hdC).flatten) (hx : ∀ x ∈ xs, rngH x) : K Try.prog 10 [.slice B bs.length cb, .slice A xs.length cap, .int .i64 cut, .bool other] M H fun v' M' H' => v' = .bool true ∧ M.le M' := by
  refine K.enterK Try.func10 rfl rfl rfl ?_
  intro Q hNP hQ
  (repeat' (first | (apply R.step; (exact a_ok); exact rfl) | (first | (with_reducible first | apply R.nil | apply C.ret | apply C.block | apply C.skip | apply C.exit | apply Fin.thenRet | apply Fin.thenExit | apply Fin.blockNormal | apply Fin.blockRet | apply Fin.blockExit) | (with_reducible apply Fin.thenK; assumption) | (with_reducible apply C.seqR; intro _ _) | (with_reducible apply C.regionK; intro _ _) | (with_reducible apply Fin.blockOther; exact rfl)) | (first | (apply R.store; exact rfl; exact rfl; exact rfl; (exact a_at); (exact a_blit); exact rfl; (focus (simp [Value.oneCell']; done))) | (apply R.buildSlice0; exact rfl; intro bz) | (apply R.box; exact rfl; (simp only [Value.cells]; rfl); exact rfl; intro bx) | (apply R.alloc; (simp only [Value.cells]; rfl); exact rfl; intro ba) | (apply R.buildSlice; (exact a_prt); exact rfl; exact rfl; (exact a_fills); exact rfl; intro bl)) | (first | (apply R.guardT; assumption; exact rfl; exact rfl; exact rfl) | (apply R.guardF; assumption; exact rfl; exact rfl; exact rfl; exact rfl; exact rfl) | (apply R.guardU; assumption; exact rfl; exact rfl; exact rfl; exact rfl) | (apply R.guardDec; assumption; exact rfl; exact rfl; (intro h; skip; rotate_left; intro h; skip; rotate_left)) | (apply R.guardBeq; assumption; exact rfl; exact rfl; (intro h; skip; rotate_left; intro h; skip; rotate_left)) | (apply R.guardBne; assumption; exact rfl; exact rfl; (intro h; skip; rotate_left; intro h; skip; rotate_left)) | (apply R.guardNDec; assumption; exact rfl; exact rfl; (intro h; skip; rotate_left; intro h; skip; rotate_left)) | (apply R.guardNot; assumption; exact rfl; exact rfl; (intro h; skip; rotate_left; intro h; skip; rotate_left)) | (apply R.guardC; assumption; exact rfl; exact rfl; (intro h; skip; rotate_left; intro h; skip; rotate_left)))))
  apply C.seqCut (X := HaX) (fun y => y.bs.length ≤ 300 ∧ M.le y.M ∧ Own 5 1 y.v y.bs.length (y.bs.map bv) y.hp)
    (fun y => [(0, .slice B bs.length cb), (2, .int .i64 cut), (3, .bool other), (9, y.v)]) (fun y => y.M) (fun y => y.hp ++ H)
  · (repeat' (first | refine a_go ?_ | (with_reducible apply Fin.thenK; assumption) | (with_reducible (first | apply C.seqK | apply C.regionK); intro _ _) | (apply R.buildSlice0; exact rfl; intro bz) | (apply R.box; exact rfl; (simp only [Value.cells]; rfl); exact rfl; intro bx) | (apply R.alloc; (simp only [Value.cells]; rfl); exact rfl; intro ba) | (apply R.buildSlice; (exact a_prt); exact rfl; exact rfl; (exact a_fills); exact rfl; intro bl) | (refine a_sp ?_ ?_; (intro h; skip; rotate_left; intro h; skip; rotate_left)) | fail))
    apply C.loop (fun y : HaX => (y.i : Int) = y.ii ∧ y.i ≤ 30 ∧ y.bs.length ≤ 10 * y.i ∧ M.le y.M ∧ Own 5 1 y.v y.bs.length (y.bs.map bv) y.hp)
      (fun y => [(0, .slice B bs.length cb), (1, .slice A xs.length cap), (2, .int .i64 cut), (3, .bool other), (9, y.v), (10, .int .i64 y.ii)]) (fun y => y.M) (fun y => y.hp ++ H) (fun y => 30 - y.i) ⟨0, 0, .slice (some ⟨bz, 0, none⟩) 0 0, [], [(bz, .cells #[] 5 (0, 0))], M⟩
    · exact ⟨rfl, Nat.zero_le _, Nat.le_refl _, Mem.le_refl _, Own.empty⟩
    · (exact a_subs)
    · exact rfl
    · exact rfl
    rintro ⟨i, ii, v, x, hp, M1⟩ ⟨hii, hi, hxl, hM1, hown⟩
    dsimp only at hii hi hxl hM1 hown ⊢
    obtain ⟨Ax, cx, rfl, _, _⟩ := hown.form
    by_cases hix : i < xs.length ∧ i < 30
    · obtain ⟨hix, hi1⟩ := hix
      obtain ⟨b, o, cc, e, fr, hA, hMb, hc0, hc1⟩ := hd_at (hpl.mono hM1) hix
      subst hA
      rw [show o + i * 2 = o + ii.toNat * 2 by omega] at hc0 hc1
      generalize xs[i] = h at hc0 hc1
      obtain ⟨t, v⟩ := h
      dsimp only at hc0 hc1
      obtain ⟨vn, hvn⟩ : ∃ vn : Nat, v % 9 = (vn : Int) := ⟨_, (Int.toNat_of_nonneg (Int.emod_nonneg _ (by decide))).symm⟩
      have e1 : (t : Int) % 128 = ((t % 128 : Nat) : Int) := by omega
      (repeat' (first | (apply R.step; (apply Ok.move; exact rfl); exact rfl) | (apply R.step; (first | (first | (apply Ok.ltTr; exact rfl; exact rfl; omega) | (apply Ok.ltF; exact rfl; exact rfl; omega) | (apply Ok.gtTr; exact rfl; exact rfl; omega) | (apply Ok.gtF; exact rfl; exact rfl; omega) | (apply Ok.geTr; exact rfl; exact rfl; omega) | (apply Ok.geF; exact rfl; exact rfl; omega) | (apply Ok.leTr; exact rfl; exact rfl; omega) | (apply Ok.leF; exact rfl; exact rfl; omega) | (apply Ok.neIT; exact rfl; exact rfl; omega) | (apply Ok.eqIF; exact rfl; exact rfl; omega)) | (apply Ok.loadP; exact rfl; exact rfl; exact hMb; exact hc0) | (apply Ok.loadP; exact rfl; exact rfl; exact hMb; exact hc1) | (rw [e1]; apply Ok.convLI; exact rfl)); exact rfl) | refine a_go ?_ | (with_reducible apply Fin.thenK; assumption) | (with_reducible (first | apply C.seqK | apply C.regionK); intro _ _) | (apply R.buildSlice0; exact rfl; intro bz) | (apply R.box; exact rfl; (simp only [Value.cells]; rfl); exact rfl; intro bx) | (apply R.alloc; (simp only [Value.cells]; rfl); exact rfl; intro ba) | (apply R.buildSlice; (exact a_prt); exact rfl; exact rfl; (exact a_fills); exact rfl; intro bl) | (refine a_sp ?_ ?_; (intro h; skip; rotate_left; intro h; skip; rotate_left)) | fail))
      (apply R.call; (exact a_evs); exact rfl; exact pick_K v 9 (by decide) (by decide); rintro _ M1 _ ⟨rfl, rfl, rfl⟩)
      rw [hvn]
      (repeat' (first | (apply R.step; (apply Ok.move; exact rfl); exact rfl) | (apply R.step; (apply Ok.convLI; exact rfl); exact rfl) | refine a_go ?_ | (with_reducible apply Fin.thenK; assumption) | (with_reducible (first | apply C.seqK | apply C.regionK); intro _ _) | (apply R.buildSlice0; exact rfl; intro bz) | (apply R.box; exact rfl; (simp only [Value.cells]; rfl); exact rfl; intro bx) | (apply R.alloc; (simp only [Value.cells]; rfl); exact rfl; intro ba) | (apply R.buildSlice; (exact a_prt); exact rfl; exact rfl; (exact a_fills); exact rfl; intro bl) | (refine a_sp ?_ ?_; (intro h; skip; rotate_left; intro h; skip; rotate_left)) | fail))
      apply R.arr (H2 := [(bl, .cells #[bv (UInt8.ofNat (t % 128)), bv (UInt8.ofNat vn)] 5 (0, 0))] ++ (hp ++ H)) (by ((try simp only [List.append_assoc, List.cons_append, List.nil_append, List.append_nil]); exact a_arr))
      apply R.ice (Arr.all _)
      intro M2 hM2 hin2
      have hp2 : Pl M2 (some ⟨bl, 0, none⟩) ([UInt8.ofNat (t % 128), UInt8.ofNat vn].map bv) := (Own.of_cells (e := 5) (b := bl) (xs := [bv (UInt8.ofNat (t % 128)), bv (UInt8.ofNat vn)]) (show 2 ≤ maxLen by decide)).plIn hin2
      (apply R.call; (exact a_evs); exact rfl; exact rframe_KF hp2 rfl (show 2 ≤ 140737488351232 by decide); rintro v6 M6 _ ⟨hb6, hM6, rfl⟩)
      have hfl : (frameS [UInt8.ofNat (t % 128), UInt8.ofNat vn]).length = 10 := frameS_len (show 2 ≤ 65536 by decide)
      generalize frameS [UInt8.ofNat (t % 128), UInt8.ofNat vn] = f at hb6 hfl
      obtain ⟨A6, c6, rfl, k6, k7, hp6⟩ := hb6
      (apply R.append (news := f.map bv); exact rfl; exact rfl; exact hown; (exact a_tk); exact Pl.rd hp6; (rw [List.length_map, Nat.mul_one]); exact bv_one _; omega; exact rfl; decide; decide; exact rfl; rintro v4 hp4 hown4)
      (repeat' (first | refine a_go ?_ | (with_reducible apply Fin.thenK; assumption) | (with_reducible (first | apply C.seqK | apply C.regionK); intro _ _) | (apply R.buildSlice0; exact rfl; intro bz) | (apply R.box; exact rfl; (simp only [Value.cells]; rfl); exact rfl; intro bx) | (apply R.alloc; (simp only [Value.cells]; rfl); exact rfl; intro ba) | (apply R.buildSlice; (exact a_prt); exact rfl; exact rfl; (exact a_fills); exact rfl; intro bl) | (refine a_sp ?_ ?_; (intro h; skip; rotate_left; intro h; skip; rotate_left)) | fail))
      (apply Fin.arr (H2 := hp4 ++ H); ((try simp only [List.append_assoc, List.cons_append, List.nil_append, List.append_nil]); exact a_arr))
      refine Fin.again (⟨i + 1, ii + 1, v4, x ++ f, hp4, M6⟩ : HaX) ⟨by dsimp only; omega, by dsimp only; omega, by dsimp only; rw [List.length_append]; omega, hM1.trans_ (hM2.trans_ hM6), by dsimp only; rw [List.length_append, List.map_append]; exact hown4⟩ (by dsimp only; omega) ?_ rfl rfl
      (exact a_subs)
    · by_cases h1 : i < xs.length
      · have h2 : ¬ i < 30 := fun h => hix ⟨h1, h⟩
        (repeat' (first | (apply R.step; (apply Ok.move; exact rfl); exact rfl) | (apply R.step; (first | (apply Ok.ltTr; exact rfl; exact rfl; omega) | (apply Ok.ltF; exact rfl; exact rfl; omega) | (apply Ok.gtTr; exact rfl; exact rfl; omega) | (apply Ok.gtF; exact rfl; exact rfl; omega) | (apply Ok.geTr; exact rfl; exact rfl; omega) | (apply Ok.geF; exact rfl; exact rfl; omega) | (apply Ok.leTr; exact rfl; exact rfl; omega) | (apply Ok.leF; exact rfl; exact rfl; omega) | (apply Ok.neIT; exact rfl; exact rfl; omega) | (apply Ok.eqIF; exact rfl; exact rfl; omega)); exact rfl) | refine a_go ?_ | (with_reducible apply Fin.thenK; assumption) | (with_reducible (first | apply C.seqK | apply C.regionK); intro _ _) | (apply R.buildSlice0; exact rfl; intro bz) | (apply R.box; exact rfl; (simp only [Value.cells]; rfl); exact rfl; intro bx) | (apply R.alloc; (simp only [Value.cells]; rfl); exact rfl; intro ba) | (apply R.buildSlice; (exact a_prt); exact rfl; exact rfl; (exact a_fills); exact rfl; intro bl) | (refine a_sp ?_ ?_; (intro h; skip; rotate_left; intro h; skip; rotate_left)) | fail))
        refine Fin.join (⟨0, 0, _, x, hp, M1⟩ : HaX) ⟨by dsimp only; omega, hM1, hown⟩ ?_ rfl rfl
        (exact a_subs)
      · (repeat' (first | (apply R.step; (apply Ok.move; exact rfl); exact rfl) | (apply R.step; (first | (apply Ok.ltTr; exact rfl; exact rfl; omega) | (apply Ok.ltF; exact rfl; exact rfl; omega) | (apply Ok.gtTr; exact rfl; exact rfl; omega) | (apply Ok.gtF; exact rfl; exact rfl; omega) | (apply Ok.geTr; exact rfl; exact rfl; omega) | (apply Ok.geF; exact rfl; exact rfl; omega) | (apply Ok.leTr; exact rfl; exact rfl; omega) | (apply Ok.leF; exact rfl; exact rfl; omega) | (apply Ok.neIT; exact rfl; exact rfl; omega) | (apply Ok.eqIF; exact rfl; exact rfl; omega)); exact rfl) | refine a_go ?_ | (with_reducible apply Fin.thenK; assumption) | (with_reducible (first | apply C.seqK | apply C.regionK); intro _ _) | (apply R.buildSlice0; exact rfl; intro bz) | (apply R.box; exact rfl; (simp only [Value.cells]; rfl); exact rfl; intro bx) | (apply R.alloc; (simp only [Value.cells]; rfl); exact rfl; intro ba) | (apply R.buildSlice; (exact a_prt); exact rfl; exact rfl; (exact a_fills); exact rfl; intro bl) | (refine a_sp ?_ ?_; (intro h; skip; rotate_left; intro h; skip; rotate_left)) | fail))
        refine Fin.join (⟨0, 0, _, x, hp, M1⟩ : HaX) ⟨by dsimp only; omega, hM1, hown⟩ ?_ rfl rfl
        (exact a_subs)
  rintro ⟨_, _, x, xs1, hp, M1⟩ ⟨hxl, hM1, hown⟩
  dsimp only at hxl hM1 hown ⊢
  obtain ⟨Ax, cx, rfl, _, _⟩ := hown.form
  replace hb := hb.mono hM1
  (repeat' (first | refine a_go ?_ | (with_reducible apply Fin.thenK; assumption) | (with_reducible (first | apply C.seqK | apply C.regionK); intro _ _) | (apply R.buildSlice0; exact rfl; intro bz) | (apply R.box; exact rfl; (simp only [Value.cells]; rfl); exact rfl; intro bx) | (apply R.alloc; (simp only [Value.cells]; rfl); exact rfl; intro ba) | (apply R.buildSlice; (exact a_prt); exact rfl; exact rfl; (exact a_fills); exact rfl; intro bl) | (refine a_sp ?_ ?_; (intro h; skip; rotate_left; intro h; skip; rotate_left)) | fail))
  (apply R.append (news := bs.map bv); exact rfl; exact rfl; exact hown; (exact a_tk); exact Pl.rd hb; (rw [List.length_map, Nat.mul_one]); exact bv_one _; omega; exact rfl; decide; decide; exact rfl; rintro v4 hp4 hown4)
  rw [← List.map_append, ← List.length_append] at hown4
  have hyl : (xs1 ++ bs).length ≤ 300 + 140737488351232 := by rw [List.length_append]; omega
  generalize xs1 ++ bs = ys at hown4 hyl
  obtain ⟨Ay, cy, rfl, hy1, hy2⟩ := hown4.form
  apply R.arr (H2 := hp4 ++ H) (by ((try simp only [List.append_assoc, List.cons_append, List.nil_append, List.append_nil]); exact a_arr))
  apply R.ice (Arr.all _)
  intro M2 hM2 hin2
  have hpy := hown4.plIn hin2
  (repeat' (first | refine a_go ?_ | (with_reducible apply Fin.thenK; assumption) | (with_reducible (first | apply C.seqK | apply C.regionK); intro _ _) | (apply R.buildSlice0; exact rfl; intro bz) | (apply R.box; exact rfl; (simp only [Value.cells]; rfl); exact rfl; intro bx) | (apply R.alloc; (simp only [Value.cells]; rfl); exact rfl; intro ba) | (apply R.buildSlice; (exact a_prt); exact rfl; exact rfl; (exact a_fills); exact rfl; intro bl) | (refine a_sp ?_ ?_; (intro h; skip; rotate_left; intro h; skip; rotate_left)) | fail))
  obtain ⟨mm, hmm⟩ : ∃ mm : Int, mm = min (ys.length : Int) 12 + 1 := ⟨_, rfl⟩
  rw [← hmm]
  (apply R.call; (exact a_evs); exact rfl; exact pick_K cut mm (by omega) (by omega); rintro _ M2 H ⟨rfl, rfl, rfl⟩)
  have hk0 : 0 ≤ cut % mm := Int.emod_nonneg _ (by omega)
  have hk1 : cut % mm < mm := Int.emod_lt_of_pos _ (by omega)
  (repeat' (first | (apply R.step; (apply Ok.move; exact rfl); exact rfl) | (apply R.step; (apply Ok.sliceHi; exact rfl; exact rfl; omega; omega); exact rfl) | (apply R.step; (exact a_ok); exact rfl) | (first | (with_reducible first | apply R.nil | apply C.ret | apply C.block | apply C.skip | apply C.exit | apply Fin.thenRet | apply Fin.thenExit | apply Fin.blockNormal | apply Fin.blockRet | apply Fin.blockExit) | (with_reducible apply Fin.thenK; assumption) | (with_reducible apply C.seqR; intro _ _) | (with_reducible apply C.regionK; intro _ _) | (with_reducible apply Fin.blockOther; exact rfl)) | (first | (apply R.store; exact rfl; exact rfl; exact rfl; (exact a_at); (exact a_blit); exact rfl; (focus (simp [Value.oneCell']; done))) | (apply R.buildSlice0; exact rfl; intro bz) | (apply R.box; exact rfl; (simp only [Value.cells]; rfl); exact rfl; intro bx) | (apply R.alloc; (simp only [Value.cells]; rfl); exact rfl; intro ba) | (apply R.buildSlice; (exact a_prt); exact rfl; exact rfl; (exact a_fills); exact rfl; intro bl)) | (first | (apply R.guardT; assumption; exact rfl; exact rfl; exact rfl) | (apply R.guardF; assumption; exact rfl; exact rfl; exact rfl; exact rfl; exact rfl) | (apply R.guardU; assumption; exact rfl; exact rfl; exact rfl; exact rfl) | (apply R.guardDec; assumption; exact rfl; exact rfl; (intro h; skip; rotate_left; intro h; skip; rotate_left)) | (apply R.guardBeq; assumption; exact rfl; exact rfl; (intro h; skip; rotate_left; intro h; skip; rotate_left)) | (apply R.guardBne; assumption; exact rfl; exact rfl; (intro h; skip; rotate_left; intro h; skip; rotate_left)) | (apply R.guardNDec; assumption; exact rfl; exact rfl; (intro h; skip; rotate_left; intro h; skip; rotate_left)) | (apply R.guardNot; assumption; exact rfl; exact rfl; (intro h; skip; rotate_left; intro h; skip; rotate_left)) | (apply R.guardC; assumption; exact rfl; exact rfl; (intro h; skip; rotate_left; intro h; skip; rotate_left)))))
  obtain ⟨z, hz⟩ : ∃ z : Nat, z = ((ys.length : Int) - cut % mm).toNat := ⟨_, rfl⟩
  rw [← hz]
  have hz1 : z ≤ ys.length := by omega
  have hpz : Pl M2 Ay ((ys.take z).map bv) := by
    rw [List.map_take]
    exact hpy.take _
  have hzl : (ys.take z).length = z := by rw [List.length_take]; omega
  have hbz : PlB M2 (.slice Ay z cy) (ys.take z) := ⟨Ay, cy, by rw [hzl], by rw [hzl]; omega, by (first | omega | (unfold maxLen at *; omega)), hpz⟩
  have hbb : PlB M2 (.slice B bs.length cb) bs := ⟨B, cb, rfl, hbc, by (first | omega | (unfold maxLen at *; omega)), hb.mono hM2⟩
  apply C.seqCut (X := HaY) (fun y => M2.le y.M ∧ Own 61 2 y.v y.es.length (y.es.map feC).flatten y.hp ∧ EsOk y.M y.es ∧ y.es.length ≤ 2 ∧ ∀ e ∈ y.es, e.n.length ≤ 8 ∧ e.b.length ≤ 300 + 140737488351232)
    (fun y => [(0, .slice B bs.length cb), (12, y.v)]) (fun y => y.M) (fun y => y.hp ++ H)
  · have ho1 : Own 61 2 (.slice (some ⟨bl, 0, none⟩) 1 1) 1 (feC (fe1 (.slice Ay z cy) (ys.take z))) [(bl, .cells (feC (fe1 (.slice Ay z cy) (ys.take z))).toArray 61 (0, 0))] := Own.row1 rfl
    (repeat' (first | refine a_go ?_ | (with_reducible apply Fin.thenK; assumption) | (with_reducible (first | apply C.seqK | apply C.regionK); intro _ _) | (apply R.buildSlice0; exact rfl; intro bz) | (apply R.box; exact rfl; (simp only [Value.cells]; rfl); exact rfl; intro bx) | (apply R.alloc; (simp only [Value.cells]; rfl); exact rfl; intro ba) | (apply R.buildSlice; (exact a_prt); exact rfl; exact rfl; (exact a_fills); exact rfl; intro bl) | (refine a_sp ?_ ?_; (intro h; skip; rotate_left; intro h; skip; rotate_left)) | fail))
    rotate_left
    · refine Fin.join (⟨.slice (some ⟨bl, 0, none⟩) 1 1, [fe1 (.slice Ay z cy) (ys.take z)], [(bl, .cells (feC (fe1 (.slice Ay z cy) (ys.take z))).toArray 61 (0, 0))], M2⟩ : HaY) ⟨Mem.le_refl _, ho1, fun e he => by rw [List.mem_singleton] at he; subst he; exact hbz, (show 1 ≤ 2 by decide), fun e he => by rw [List.mem_singleton] at he; subst he; exact ⟨(show 4 ≤ 8 by decide), by show (ys.take z).length ≤ _; omega⟩⟩ ?_ rfl rfl
      (exact a_subs)
    (apply R.append (news := feC (fe2 (.slice B bs.length cb) bs)) (k := 1); exact rfl; exact rfl; exact ho1; (exact a_tk); exact Rd.at_ (l := feC (fe2 (.slice B bs.length cb) bs)) (by (exact a_at)) (fun j u h => by rw [Nat.zero_add]; exact h); exact rfl; (intro u hu; rcases List.mem_cons.mp hu with rfl | hu; exact rfl; rw [List.mem_singleton] at hu; subst hu; rfl); omega; exact rfl; decide; decide; exact rfl; rintro v5 hp5 hown5)
    (repeat' (first | refine a_go ?_ | (with_reducible apply Fin.thenK; assumption) | (with_reducible (first | apply C.seqK | apply C.regionK); intro _ _) | (apply R.buildSlice0; exact rfl; intro bz) | (apply R.box; exact rfl; (simp only [Value.cells]; rfl); exact rfl; intro bx) | (apply R.alloc; (simp only [Value.cells]; rfl); exact rfl; intro ba) | (apply R.buildSlice; (exact a_prt); exact rfl; exact rfl; (exact a_fills); exact rfl; intro bl) | (refine a_sp ?_ ?_; (intro h; skip; rotate_left; intro h; skip; rotate_left)) | fail))
    (apply Fin.arr (H2 := hp5 ++ H); ((try simp only [List.append_assoc, List.cons_append, List.nil_append, List.append_nil]); exact a_arr))
    refine Fin.join (⟨v5, [fe1 (.slice Ay z cy) (ys.take z), fe2 (.slice B bs.length cb) bs], hp5, M2⟩ : HaY) ⟨Mem.le_refl _, hown5, fun e he => ?_, Nat.le_refl 2, fun e he => ?_⟩ ?_ rfl rfl
    · rcases List.mem_cons.mp he with rfl | he
      · exact hbz
      · rw [List.mem_singleton] at he; subst he; exact hbb
    · rcases List.mem_cons.mp he with rfl | he
      · exact ⟨(show 4 ≤ 8 by decide), by show (ys.take z).length ≤ _; omega⟩
      · rw [List.mem_singleton] at he; subst he; exact ⟨(show 8 ≤ 8 by decide), by show bs.length ≤ _; omega⟩
    (exact a_subs)
  rintro ⟨v5, es, hp5, M5⟩ ⟨hM5, ho5, hes, hel, hbd⟩
  dsimp only at hM5 ho5 hes hel hbd ⊢
  obtain ⟨A5, c5, rfl, q1, q2⟩ := ho5.form
  (repeat' (first | refine a_go ?_ | (with_reducible apply Fin.thenK; assumption) | (with_reducible (first | apply C.seqK | apply C.regionK); intro _ _) | (apply R.buildSlice0; exact rfl; intro bz) | (apply R.box; exact rfl; (simp only [Value.cells]; rfl); exact rfl; intro bx) | (apply R.alloc; (simp only [Value.cells]; rfl); exact rfl; intro ba) | (apply R.buildSlice; (exact a_prt); exact rfl; exact rfl; (exact a_fills); exact rfl; intro bl) | (refine a_sp ?_ ?_; (intro h; skip; rotate_left; intro h; skip; rotate_left)) | fail))
  apply R.ice (Arr.all _)
  intro M6 hM6 hin6
  have hfs := PlFs.mk (cap := c5) (by omega) (by (first | omega | (unfold maxLen at *; omega))) (ho5.plIn hin6) (hes.mono hM6)
  (apply R.call; (exact a_evs); exact rfl; exact pair_K (room := 1048576) (by decide) (by decide) hfs (fun p hp => by (obtain ⟨e, he, rfl⟩ := List.mem_map.mp hp; have h := hbd e he; exact ⟨Nat.le_trans h.1 (by decide), Nat.le_trans h.2 (by decide)⟩)); rintro _ M7 _ ⟨db, rb, hp, hq, rfl, hM7, ho, hr, rfl⟩)
  (repeat' (first | refine a_go ?_ | (with_reducible apply Fin.thenK; assumption) | (with_reducible (first | apply C.seqK | apply C.regionK); intro _ _) | (apply R.buildSlice0; exact rfl; intro bz) | (apply R.box; exact rfl; (simp only [Value.cells]; rfl); exact rfl; intro bx) | (apply R.alloc; (simp only [Value.cells]; rfl); exact rfl; intro ba) | (apply R.buildSlice; (exact a_prt); exact rfl; exact rfl; (exact a_fills); exact rfl; intro bl) | (refine a_sp ?_ ?_; (intro h; skip; rotate_left; intro h; skip; rotate_left)) | fail))
  (apply R.call; (exact a_evs); exact rfl; exact hknown_K; rintro _ M8 _ ⟨rfl, hM8, rfl⟩)
  replace ho := ho.mono hM8
  replace hr := hr.mono hM8
  have hsz0 : szD (pairD 1048576 (es.map feP)) ≤ 2 := Nat.le_trans (pairD_sz _ _ (by rw [List.length_map]; omega)) (by rw [List.length_map]; exact hel)
  generalize pairD 1048576 (es.map feP) = d4 at ho hr hsz0
  have hps4 := ps_sz d4
  have hos := openD_sz d4
  (repeat' (first | refine a_go ?_ | (with_reducible apply Fin.thenK; assumption) | (with_reducible (first | apply C.seqK | apply C.regionK); intro _ _) | (apply R.buildSlice0; exact rfl; intro bz) | (apply R.box; exact rfl; (simp only [Value.cells]; rfl); exact rfl; intro bx) | (apply R.alloc; (simp only [Value.cells]; rfl); exact rfl; intro ba) | (apply R.buildSlice; (exact a_prt); exact rfl; exact rfl; (exact a_fills); exact rfl; intro bl) | (refine a_sp ?_ ?_; (intro h; skip; rotate_left; intro h; skip; rotate_left)) | fail))
  (apply R.call; (exact a_evs); exact rfl; exact open_K ho (by omega); rintro _ M9 _ ⟨rfl, hM9, hp9, ho9, rfl⟩)
  generalize hoz : openD d4 = zz at ho9 hos
  obtain ⟨ze, zd, ⟨zt, zv⟩⟩ := zz
  dsimp only at ho9 hos ⊢
  unfold hrdV hrdC
  (repeat' (first | refine a_go ?_ | (with_reducible apply Fin.thenK; assumption) | (with_reducible (first | apply C.seqK | apply C.regionK); intro _ _) | (apply R.buildSlice0; exact rfl; intro bz) | (apply R.box; exact rfl; (simp only [Value.cells]; rfl); exact rfl; intro bx) | (apply R.alloc; (simp only [Value.cells]; rfl); exact rfl; intro ba) | (apply R.buildSlice; (exact a_prt); exact rfl; exact rfl; (exact a_fills); exact rfl; intro bl) | (refine a_sp ?_ ?_; (intro h; skip; rotate_left; intro h; skip; rotate_left)) | fail))
  apply R.arr (H2 := hq ++ ((ba, .cells #[.int .u64 (zt : Int), .int .i64 zv] 44 (0, 0)) :: (hp9 ++ H))) (by ((try simp only [List.append_assoc, List.cons_append, List.nil_append, List.append_nil]); exact a_arr))
  (apply R.call; (exact a_evs); exact rfl; exact ropenH_K (hr.mono hM9) (by omega); rintro _ M10 _ ⟨rfl, hM10, hq10, hr10, rfl⟩)
  rw [hoz] at hr10 ⊢
  dsimp only at hr10 ⊢
  unfold hrdV hrdC
  (repeat' (first | (apply R.step; (apply Ok.move; exact rfl); exact rfl) | (apply R.step; (first | (apply Ok.eqS; exact rfl; exact rfl; exact hard_guard; exact hard_same _ _) | (apply Ok.eqIR; exact rfl; exact rfl; exact rfl)); exact rfl) | refine a_go ?_ | (with_reducible apply Fin.thenK; assumption) | (with_reducible (first | apply C.seqK | apply C.regionK); intro _ _) | (apply R.buildSlice0; exact rfl; intro bz) | (apply R.box; exact rfl; (simp only [Value.cells]; rfl); exact rfl; intro bx) | (apply R.alloc; (simp only [Value.cells]; rfl); exact rfl; intro ba) | (apply R.buildSlice; (exact a_prt); exact rfl; exact rfl; (exact a_fills); exact rfl; intro bl) | (refine a_sp ?_ ?_; (intro h; skip; rotate_left; intro h; skip; rotate_left)) | fail))
  apply R.arr (H2 := hp9 ++ (hq10 ++ H)) (by ((try simp only [List.append_assoc, List.cons_append, List.nil_append, List.append_nil]); exact a_arr))
  (apply R.call; (exact a_evs); exact rfl; exact sameDisk_K (ho9.mono hM10) hr10 (by omega); rintro _ M11 _ ⟨rfl, hM11, rfl⟩)
  (repeat' (first | refine a_go ?_ | (with_reducible apply Fin.thenK; assumption) | (with_reducible (first | apply C.seqK | apply C.regionK); intro _ _) | (apply R.buildSlice0; exact rfl; intro bz) | (apply R.box; exact rfl; (simp only [Value.cells]; rfl); exact rfl; intro bx) | (apply R.alloc; (simp only [Value.cells]; rfl); exact rfl; intro ba) | (apply R.buildSlice; (exact a_prt); exact rfl; exact rfl; (exact a_fills); exact rfl; intro bl) | (refine a_sp ?_ ?_; (intro h; skip; rotate_left; intro h; skip; rotate_left)) | fail))
  (apply Fin.returnA (H2 := hp9 ++ (hq10 ++ H)); assumption; (first | exact .inl rfl | exact .inr rfl); exact rfl; (exact a_res); (simp only [retv]; rfl); (exact a_arr))
  exact ⟨rfl, hM1.trans_ (hM2.trans_ (hM5.trans_ (hM6.trans_ (hM7.trans_ (hM8.trans_ (hM9.trans_ (hM10.trans_ hM11)))))))⟩
end Go.Sx
end
