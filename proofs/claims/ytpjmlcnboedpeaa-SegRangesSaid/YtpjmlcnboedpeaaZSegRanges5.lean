import Derived.Test.YtpjmlcnboedpeaaZSegRanges4
section
namespace Go.Sx
open Go Go.Proofs Go.RowKit
attribute [local irreducible] C R Fin K Own OwnT Rd Pl Ok KOf RetOk OpsOf RP KP Res NoPanic KV KE MapS ItS EntS FsO FsR RowD PlD DkO RT KT OneT RS KS OneS SgO
variable {M M' : Mem} {H H1 H2 : Hp}
theorem seqF_none {prev : Option En} {f : Nat} : ∀ {es acc : List En}, seqF prev f acc es → seqF none f acc es
  | [], _, _ => trivial
  | e :: es, acc, h => by
    refine ⟨h.1, ?_, seqF_none h.2.2⟩
    have h1 := h.2.1
    unfold fitS at h1 ⊢
    cases hl : acc.getLast? with
    | none =>
      rw [hl] at h1
      exact ⟨h1.1, trivial⟩
    | some a =>
      rw [hl] at h1
      exact h1
theorem OkS.none_ {prev : Option En} {s : Sg} (h : OkS prev s) : OkS none s := ⟨h.num, h.len, h.it, seqF_none h.seq, h.room⟩
theorem okG_none {prev : Option En} : ∀ {ss : List Sg}, okG prev ss → okG none ss
  | [], _ => trivial
  | _ :: _, h => ⟨h.1.none_, h.2⟩
theorem head_key {ss : List Sg} {s : Sg} {prev : Option En} (h : okG prev (s :: ss)) : nameS s.first ∉ keyS (filesG ss) := by
  have hpw := okG_pw h
  have hm := okG_num h
  rw [List.pairwise_cons] at hpw
  refine key_not (hm s (List.mem_cons_self ..)) (fun x hx => hm x (List.mem_cons_of_mem _ hx)) fun x hx => ?_
  have := hpw.1 x hx
  omega
theorem del_head {F : Fs} {n f : Txt} (h : n ∉ keyS F) : delS ((n, f) :: F) n = F := by
  have hF : ∀ x ∈ F, x.1 ≠ n := fun x hx e => h (List.mem_map.2 ⟨x, hx, e⟩)
  unfold delS
  rw [List.filter_cons, if_neg (by simp), List.filter_eq_self.2 (fun x hx => by rw [decide_eq_true_eq]; exact hF x hx)]
theorem OkS.idx_le {prev : Option En} {s : Sg} (h : OkS prev s) : ∀ e ∈ s.es, e.idx ≤ lastI s := by
  obtain ⟨a, ha, hai⟩ := h.last
  intro e he
  obtain ⟨j, hj⟩ := List.mem_iff_getElem?.1 he
  have h1 := h.con.2 j e hj
  have h2 := (List.getElem?_eq_some_iff.1 hj).1
  rw [Sg.es_len] at h2
  have h3 : lastI s = a.idx := by unfold lastI; rw [ha]
  omega
theorem dropG_all {i : Int} : ∀ (ss : List Sg) (d : Dk), LogD d ss → ∃ d' ss' X, dropG d i ss = (0, d', ss') ∧ LogD d' ss' ∧ listG ss = X ++ listG ss' ∧ (∀ e ∈ X, e.idx ≤ i) ∧ (ss ≠ [] → ss' ≠ []) ∧ d'.room = d.room ∧ sumF d'.now ≤ sumF d.now ∧ d'.ps.length ≤ d.ps.length + ss.length
  | [], d, h => ⟨d, [], [], rfl, h, rfl, fun e he => absurd he List.not_mem_nil, fun h => h, rfl, Nat.le_refl _, Nat.le_refl _⟩
  | s :: r, d, h => by
    by_cases hi : r ≠ [] ∧ lastI s ≤ i
    · have hk := head_key h.ok
      have hnow : d.now = (nameS s.first, fileS s) :: filesG r := h.now
      have hr : remE d (nameS s.first) = 0 := by
        unfold remE
        rw [if_neg h.go.stop, hnow]
        unfold getS
        rw [List.find?_cons]
        simp
      have hno : (opD 0 d (.rem (nameS s.first))).now = filesG r := by
        rw [h.go.now, hnow]
        exact del_head hk
      obtain ⟨d', ss', X, g1, g2, g3, g4, g5, g6, g7, g8⟩ := dropG_all (i := i) r (opD 0 d (.rem (nameS s.first))) ⟨h.go.op', hno, okG_none h.ok.2⟩
      refine ⟨d', ss', s.es ++ X, ?_, g2, ?_, ?_, fun _ => g5 hi.1, ?_, ?_, ?_⟩
      · rw [dropG, if_pos hi, if_neg (fun g => g hr)]
        exact g1
      · have e1 : listG (s :: r) = s.es ++ listG r := rfl
        rw [e1, g3, List.append_assoc]
      · intro e he
        rcases List.mem_append.1 he with he | he
        · have := h.ok.1.idx_le e he
          omega
        · exact g4 e he
      · rw [g6, h.go.op]
      · rw [hno] at g7
        rw [hnow]
        have e2 : sumF ((nameS s.first, fileS s) :: filesG r) = (fileS s).length + sumF (filesG r) := rfl
        omega
      · rw [h.go.op] at g8
        have h9 : (d.ps ++ [De.rem (nameS s.first)]).length = d.ps.length + 1 := by rw [List.length_append]; rfl
        rw [List.length_cons]
        exact Nat.le_trans g8 (by rw [h9]; omega)
    · refine ⟨d, s :: r, [], ?_, h, rfl, fun e he => absurd he List.not_mem_nil, fun h => h, rfl, Nat.le_refl _, by rw [List.length_cons]; omega⟩
      rw [dropG, if_neg hi]
theorem sdrop_L {lb db : Nat} {lim : Int} {d : Dk} {ss : List Sg} {i : Int} {es : List En} {hL hp : Hp} {k : Nat} (h : LogE d ss es k) (hdl : d.ps.length + k + 65 ≤ 50000) (hg : SgO M lb db lim ss hL) (ho : DkO M db d hp) : K Try.prog 26 [.pointer (some ⟨lb, 0, none⟩), .int .u64 i] M (hL ++ (hp ++ H)) fun v' M' H' => v' = .int .i64 0 ∧ M.le M' ∧ ∃ d' ss' es' X hL' hp', LogE d' ss' es' k ∧ es = X ++ es' ∧ (∀ e ∈ X, e.idx ≤ i) ∧ (es ≠ [] → es' ≠ []) ∧ SgO M' lb db lim ss' hL' ∧ DkO M' db d' hp' ∧ H' = hL' ++ (hp' ++ H) := by
  have hnum := h.num
  have hd := h.deeds
  have hr := h.room
  have hsl := len_listG h.log.ok
  rw [h.list] at hsl
  obtain ⟨d', ss', X, g1, g2, g3, g4, g5, g6, g7, g8⟩ := dropG_all (i := i) ss d h.log
  rw [h.list] at g3
  refine (sdrop_K hg h.sgs (fun s hs => (okG_con h.log.ok s hs).1) ho (by omega)).mono ?_
  rw [g1]
  rintro v' M' H' ⟨h1, hM, hL', hp', h2, h3, h4⟩
  have hle : (listG ss').length ≤ es.length := by
    rw [g3, List.length_append]
    omega
  refine ⟨h1, hM, d', ss', listG ss', X, hL', hp', ⟨g2, rfl, by omega, by omega, by omega⟩, g3, g4, fun hne => ?_, h2, h3, h4⟩
  have hss : ss ≠ [] := fun e => by
    subst e
    exact hne (h.list ▸ rfl)
  have h5 := len_listG g2.ok
  have h6 := List.length_pos_iff.2 (g5 hss)
  exact List.ne_nil_of_length_pos (by omega)
end Go.Sx
end
section
namespace Go.Sx
open Go Go.Proofs Go.RowKit
attribute [local irreducible] C R Fin K Own OwnT Rd Pl Ok KOf RetOk OpsOf RP KP Res NoPanic KV KE MapS ItS EntS FsO FsR RowD PlD DkO RT KT OneT RS KS OneS SgO
variable {M M' : Mem} {H H1 H2 : Hp}
def nG (i t : Int) : En := ⟨0, t, i, [], 0⟩
theorem none9_K {i t : Int} : K Try.prog 13 [.int .u64 i, .int .u64 t] M H fun v M' H' => v = eV (nG i t) (.slice none 0 0) ∧ M' = M ∧ H' = H := by
  refine K.enterK Try.func13 rfl rfl rfl ?_
  intro Q hNP hQ
  (repeat' (first | refine a_go ?_ | (with_reducible apply Fin.thenK; assumption) | (with_reducible (first | apply C.seqK | apply C.regionK); intro _ _) | (apply R.buildSlice0; exact rfl; intro bz) | (apply R.box; exact rfl; (simp only [Value.cells]; rfl); exact rfl; intro bx) | (apply R.alloc; (simp only [Value.cells]; rfl); exact rfl; intro ba) | (apply R.buildSlice; (exact a_prt); exact rfl; exact rfl; (exact a_fills); exact rfl; intro bl) | (refine a_sp ?_ ?_; (intro h; skip; rotate_left; intro h; skip; rotate_left)) | fail))
  (apply Fin.returnA (H2 := H); assumption; (first | exact .inl rfl | exact .inr rfl); exact rfl; (exact a_res); (simp only [retv]; rfl); (exact a_arr))
  exact ⟨rfl, rfl, rfl⟩
theorem PlV.nonesG (n : Nat) : PlV M (List.replicate n (.slice none 0 0)) (List.replicate n []) := by
  refine ⟨by simp, fun i v l h1 h2 => ?_⟩
  rw [List.getElem?_replicate] at h1 h2
  split at h1
  · rename_i hi
    rw [if_pos hi] at h2
    cases h1
    cases h2
    exact ⟨none, 0, rfl, Nat.le_refl _, by decide, Pl.nil⟩
  · cases h1
theorem builtG3 {i t i' t' i2 t2 : Int} {bl e : Nat} {fr : Nat × Nat} (h : In M [(bl, .cells #[.int .i64 0, .int .u64 t, .int .u64 i, .slice none 0 0, .int .i64 0, .int .i64 0, .int .u64 t', .int .u64 i', .slice none 0 0, .int .i64 0, .int .i64 0, .int .u64 t2, .int .u64 i2, .slice none 0 0, .int .i64 0] e fr)]) : EnL M (.slice (some ⟨bl, 0, none⟩) 3 3) [nG i t, nG i' t', nG i2 t2] :=
  ⟨_, 3, List.replicate 3 (.slice none 0 0), rfl, Nat.le_refl _, by decide, Pl.ofAt h.one, PlV.nonesG 3⟩
theorem firstG_list {ss : List Sg} (h : sgsOk ss) : firstG ss = match listG ss with | [] => 0 | e :: _ => e.idx := by
  match ss, h with
  | [], _ => rfl
  | s :: r, h =>
    have h1 := (h s (List.mem_cons_self ..)).1
    rw [← Sg.es_len] at h1
    have e1 : listG (s :: r) = s.es ++ listG r := rfl
    have e2 : firstG (s :: r) = match s.es.head? with | some e => e.idx | none => 0 := rfl
    rw [e1, e2]
    match hs : s.es, h1 with
    | x :: xs, _ => rfl
theorem lastO_list : ∀ {ss : List Sg}, sgsOk ss → lastO ss = (listG ss).getLast?
  | [], _ => rfl
  | s :: r, h => by
    have h1 := (h s (List.mem_cons_self ..)).1
    rw [← Sg.es_len] at h1
    have e1 : listG (s :: r) = s.es ++ listG r := rfl
    have ih := lastO_list (ss := r) (h.sub fun t ht => List.mem_cons_of_mem _ ht)
    rw [e1, List.getLast?_append, ← ih]
    by_cases hr : r = []
    · subst hr
      exact lastO_snoc [] s
    · have h2 : lastO (s :: r) = lastO r := by
        unfold lastO
        rw [List.getLast?_cons]
        cases hg : r.getLast? with
        | none => exact absurd (List.getLast?_eq_none_iff.1 hg) hr
        | some t => rfl
      rw [h2]
      obtain ⟨init, t, rfl⟩ : ∃ init t, r = init ++ [t] := ⟨r.dropLast, r.getLast hr, (List.dropLast_concat_getLast hr).symm⟩
      have h3 := (h t (List.mem_cons_of_mem _ (List.mem_append_right _ (List.mem_singleton_self _)))).1
      rw [← Sg.es_len] at h3
      rw [lastO_snoc, getLast_len h3]
      rfl
theorem CutS.is {i : Int} {es es' : List En} (h : CutS i es es') : es' = es.takeWhile fun e => decide (e.idx < i) := by
  obtain ⟨X, rfl, h1, h2⟩ := h
  rw [List.takeWhile_append_of_pos (fun e he => decide_eq_true (h1 e he))]
  cases X with
  | nil => simp
  | cons x xs =>
    rw [List.takeWhile_cons, if_neg (by rw [decide_eq_true_eq]; have := h2 x (List.mem_cons_self ..); omega), List.append_nil]
theorem ent_nG {i t : Int} (hi : 1 ≤ i ∧ i ≤ 72057594037927935) (ht : 1 ≤ t ∧ t ≤ 72057594037927935) : entS (nG i t) := ⟨ht, hi, .inl ⟨rfl, rfl, rfl⟩⟩
theorem known9_K : K Try.prog 10 [] M H fun v M' H' => v = .bool true ∧ M.le M' ∧ H' = H := by
  refine K.enterK Try.func10 rfl rfl rfl ?_
  intro Q hNP hQ
  have hn5 : nameS 5 = [115, 48, 48, 48, 48, 48, 48, 48, 48, 48, 48, 48, 48, 48, 48, 53] := by decide
  have hfo : folE none [nG 5 1, nG 6 1, nG 7 2] := ⟨ent_nG (by decide) (by decide), trivial, ent_nG (by decide) (by decide), ⟨rfl, by decide⟩, ent_nG (by decide) (by decide), ⟨rfl, by decide⟩, trivial⟩
  (repeat' (first | refine a_go ?_ | (with_reducible apply Fin.thenK; assumption) | (with_reducible (first | apply C.seqK | apply C.regionK); intro _ _) | (apply R.buildSlice0; exact rfl; intro bz) | (apply R.box; exact rfl; (simp only [Value.cells]; rfl); exact rfl; intro bx) | (apply R.alloc; (simp only [Value.cells]; rfl); exact rfl; intro ba) | (apply R.buildSlice; (exact a_prt); exact rfl; exact rfl; (exact a_fills); exact rfl; intro bl) | (refine a_sp ?_ ?_; (intro h; skip; rotate_left; intro h; skip; rotate_left)) | fail))
  (apply R.call; (exact a_evs); exact rfl; exact new_K (room := 1048576) (by decide) (by decide); rintro _ M _ ⟨db, hp, rfl, rfl, ho, rfl⟩)
  (repeat' (first | (apply R.step; (apply Ok.move; exact rfl); exact rfl) | (apply R.step; (apply Ok.eqPN; exact rfl; exact rfl); exact rfl) | refine a_go ?_ | (with_reducible apply Fin.thenK; assumption) | (with_reducible (first | apply C.seqK | apply C.regionK); intro _ _) | (apply R.buildSlice0; exact rfl; intro bz) | (apply R.box; exact rfl; (simp only [Value.cells]; rfl); exact rfl; intro bx) | (apply R.alloc; (simp only [Value.cells]; rfl); exact rfl; intro ba) | (apply R.buildSlice; (exact a_prt); exact rfl; exact rfl; (exact a_fills); exact rfl; intro bl) | (refine a_sp ?_ ?_; (intro h; skip; rotate_left; intro h; skip; rotate_left)) | fail))
  (apply R.call; (exact a_evs); exact rfl; exact segName_K (n := 5) (by decide); rintro _ M _ ⟨rfl, rfl, rfl⟩)
  rw [hn5]
  (repeat' (first | refine a_go ?_ | (with_reducible apply Fin.thenK; assumption) | (with_reducible (first | apply C.seqK | apply C.regionK); intro _ _) | (apply R.buildSlice0; exact rfl; intro bz) | (apply R.box; exact rfl; (simp only [Value.cells]; rfl); exact rfl; intro bx) | (apply R.alloc; (simp only [Value.cells]; rfl); exact rfl; intro ba) | (apply R.buildSlice; (exact a_prt); exact rfl; exact rfl; (exact a_fills); exact rfl; intro bl) | (refine a_sp ?_ ?_; (intro h; skip; rotate_left; intro h; skip; rotate_left)) | fail))
  (apply R.call; (exact a_evs); exact rfl; exact sopen_L (lim := 64) (by decide) LogE.new ho; rintro _ M1 _ ⟨hM1, lb, hL1, hp1, rfl, ho1, hg1, rfl⟩)
  (repeat' (first | (apply R.step; (apply Ok.move; exact rfl); exact rfl) | (apply R.step; (apply Ok.eqPN; exact rfl; exact rfl); exact rfl) | refine a_go ?_ | (with_reducible apply Fin.thenK; assumption) | (with_reducible (first | apply C.seqK | apply C.regionK); intro _ _) | (apply R.buildSlice0; exact rfl; intro bz) | (apply R.box; exact rfl; (simp only [Value.cells]; rfl); exact rfl; intro bx) | (apply R.alloc; (simp only [Value.cells]; rfl); exact rfl; intro ba) | (apply R.buildSlice; (exact a_prt); exact rfl; exact rfl; (exact a_fills); exact rfl; intro bl) | (refine a_sp ?_ ?_; (intro h; skip; rotate_left; intro h; skip; rotate_left)) | fail))
  (repeat' (first | refine a_go ?_ | (with_reducible apply Fin.thenK; assumption) | (with_reducible (first | apply C.seqK | apply C.regionK); intro _ _) | (apply R.buildSlice0; exact rfl; intro bz) | (apply R.box; exact rfl; (simp only [Value.cells]; rfl); exact rfl; intro bx) | (apply R.alloc; (simp only [Value.cells]; rfl); exact rfl; intro ba) | (apply R.buildSlice; (exact a_prt); exact rfl; exact rfl; (exact a_fills); exact rfl; intro bl) | (refine a_sp ?_ ?_; (intro h; skip; rotate_left; intro h; skip; rotate_left)) | fail | (apply R.call; (exact a_evs); exact rfl; (first | exact none9_K); rintro _ _ _ ⟨rfl, e1_, e2_⟩; replace e1_ := e1_.symm; subst e1_; replace e2_ := e2_.symm; subst e2_)))
  unfold eV ecells nG
  (repeat' (first | refine a_go ?_ | (with_reducible apply Fin.thenK; assumption) | (with_reducible (first | apply C.seqK | apply C.regionK); intro _ _) | (apply R.buildSlice0; exact rfl; intro bz) | (apply R.box; exact rfl; (simp only [Value.cells]; rfl); exact rfl; intro bx) | (apply R.alloc; (simp only [Value.cells]; rfl); exact rfl; intro ba) | (apply R.buildSlice; (exact a_prt); exact rfl; exact rfl; (exact a_fills); exact rfl; intro bl) | (refine a_sp ?_ ?_; (intro h; skip; rotate_left; intro h; skip; rotate_left)) | fail | (apply R.call; (exact a_evs); exact rfl; (first | exact none9_K); rintro _ _ _ ⟨rfl, e1_, e2_⟩; replace e1_ := e1_.symm; subst e1_; replace e2_ := e2_.symm; subst e2_)))
  (apply R.ice (hp := [_]) (Arr.all _); intro M2 hM2 hin2)
  have hE2 : EnL M2 _ [nG 5 1, nG 6 1, nG 7 2] := builtG3 hin2
  (apply R.call; (exact a_evs); exact rfl; exact sappend_L (ss := []) (es := []) (fs := [nG 5 1, nG 6 1, nG 7 2]) (k := 61) (lim := 64) (by decide) LogE.new hfo (hg1.mono hM2) hE2 (ho1.mono hM2); rintro _ M3 _ ⟨rfl, hM3, d3, s3, hL3, hp3, hl3, _, hd3, hg3, ho3, rfl⟩)
  have hd3' : d3.ps.length = 3 := hd3
  (repeat' (first | refine a_go ?_ | (with_reducible apply Fin.thenK; assumption) | (with_reducible (first | apply C.seqK | apply C.regionK); intro _ _) | (apply R.buildSlice0; exact rfl; intro bz) | (apply R.box; exact rfl; (simp only [Value.cells]; rfl); exact rfl; intro bx) | (apply R.alloc; (simp only [Value.cells]; rfl); exact rfl; intro ba) | (apply R.buildSlice; (exact a_prt); exact rfl; exact rfl; (exact a_fills); exact rfl; intro bl) | (refine a_sp ?_ ?_; (intro h; skip; rotate_left; intro h; skip; rotate_left)) | fail))
  (apply R.call; (exact a_evs); exact rfl; exact scut_L (i := 7) (by decide) hl3 (by omega) hg3 ho3; rintro _ M4 _ ⟨rfl, hM4, d4, s4, e4, hL4, hp4, hl4, hc4, hd4, hg4, ho4, rfl⟩)
  have he4 : e4 = [nG 5 1, nG 6 1] := hc4.is
  subst he4
  (repeat' (first | refine a_go ?_ | (with_reducible apply Fin.thenK; assumption) | (with_reducible (first | apply C.seqK | apply C.regionK); intro _ _) | (apply R.buildSlice0; exact rfl; intro bz) | (apply R.box; exact rfl; (simp only [Value.cells]; rfl); exact rfl; intro bx) | (apply R.alloc; (simp only [Value.cells]; rfl); exact rfl; intro ba) | (apply R.buildSlice; (exact a_prt); exact rfl; exact rfl; (exact a_fills); exact rfl; intro bl) | (refine a_sp ?_ ?_; (intro h; skip; rotate_left; intro h; skip; rotate_left)) | fail))
  apply R.arr (H2 := hp4 ++ (hL4 ++ H)) (by (exact a_arrs))
  (apply R.call; (exact a_evs); exact rfl; exact sopen_L (lim := 64) (by decide) hl4 ho4; rintro _ M5 _ ⟨hM5, lb5, hL5, hp5, rfl, ho5, hg5, rfl⟩)
  have hf5 : firstG s4 = 5 := by rw [firstG_list hl4.sgs, hl4.list]; rfl
  have hl5 : lastG s4 = 6 := by unfold lastG; rw [lastO_list hl4.sgs, hl4.list]; rfl
  (repeat' (first | (apply R.step; (apply Ok.move; exact rfl); exact rfl) | (apply R.step; (apply Ok.nePN; exact rfl; exact rfl); exact rfl) | refine a_go ?_ | (with_reducible apply Fin.thenK; assumption) | (with_reducible (first | apply C.seqK | apply C.regionK); intro _ _) | (apply R.buildSlice0; exact rfl; intro bz) | (apply R.box; exact rfl; (simp only [Value.cells]; rfl); exact rfl; intro bx) | (apply R.alloc; (simp only [Value.cells]; rfl); exact rfl; intro ba) | (apply R.buildSlice; (exact a_prt); exact rfl; exact rfl; (exact a_fills); exact rfl; intro bl) | (refine a_sp ?_ ?_; (intro h; skip; rotate_left; intro h; skip; rotate_left)) | fail))
  (apply R.call; (exact a_evs); exact rfl; exact sfirst_KL (H1 := hp5 ++ (hL4 ++ H)) hg5 hl4.sgs (by (exact a_arr)); rintro _ M5 _ ⟨rfl, rfl, rfl⟩)
  rw [hf5]
  (repeat' (first | refine a_go ?_ | (with_reducible apply Fin.thenK; assumption) | (with_reducible (first | apply C.seqK | apply C.regionK); intro _ _) | (apply R.buildSlice0; exact rfl; intro bz) | (apply R.box; exact rfl; (simp only [Value.cells]; rfl); exact rfl; intro bx) | (apply R.alloc; (simp only [Value.cells]; rfl); exact rfl; intro ba) | (apply R.buildSlice; (exact a_prt); exact rfl; exact rfl; (exact a_fills); exact rfl; intro bl) | (refine a_sp ?_ ?_; (intro h; skip; rotate_left; intro h; skip; rotate_left)) | fail))
  (apply R.call; (exact a_evs); exact rfl; exact slast_KL (H1 := hp5 ++ (hL4 ++ H)) hg5 hl4.sgs (by (exact a_arr)); rintro _ M5 _ ⟨rfl, rfl, rfl⟩)
  rw [hl5]
  (repeat' (first | refine a_go ?_ | (with_reducible apply Fin.thenK; assumption) | (with_reducible (first | apply C.seqK | apply C.regionK); intro _ _) | (apply R.buildSlice0; exact rfl; intro bz) | (apply R.box; exact rfl; (simp only [Value.cells]; rfl); exact rfl; intro bx) | (apply R.alloc; (simp only [Value.cells]; rfl); exact rfl; intro ba) | (apply R.buildSlice; (exact a_prt); exact rfl; exact rfl; (exact a_fills); exact rfl; intro bl) | (refine a_sp ?_ ?_; (intro h; skip; rotate_left; intro h; skip; rotate_left)) | fail))
  (apply R.call; (exact a_evs); exact rfl; exact slist_L hl4 hg5; rintro _ M6 _ ⟨hE6, hM6, rfl⟩)
  obtain ⟨A6, c6, vs6, rfl, _⟩ := hE6
  rw [show ([nG 5 1, nG 6 1] : List En).length = 2 from rfl]
  (repeat' (first | refine a_go ?_ | (with_reducible apply Fin.thenK; assumption) | (with_reducible (first | apply C.seqK | apply C.regionK); intro _ _) | (apply R.buildSlice0; exact rfl; intro bz) | (apply R.box; exact rfl; (simp only [Value.cells]; rfl); exact rfl; intro bx) | (apply R.alloc; (simp only [Value.cells]; rfl); exact rfl; intro ba) | (apply R.buildSlice; (exact a_prt); exact rfl; exact rfl; (exact a_fills); exact rfl; intro bl) | (refine a_sp ?_ ?_; (intro h; skip; rotate_left; intro h; skip; rotate_left)) | fail))
  (apply Fin.returnA (H2 := H); assumption; (first | exact .inl rfl | exact .inr rfl); exact rfl; (exact a_res); (simp only [retv]; rfl); (exact a_arr))
  exact ⟨rfl, hM1.trans_ (hM2.trans_ (hM3.trans_ (hM4.trans_ (hM5.trans_ hM6)))), rfl⟩
end Go.Sx
end
section
namespace Go.Sx
open Go Go.Proofs Go.RowKit
theorem mkE_ent {i t : Int} {l : En} (hi : 1 ≤ i ∧ i ≤ 72057594037927935) (ht : t ≤ 72057594037927935) : entS (mkE i t l) := by
  refine ⟨?_, hi, ?_⟩
  · show 1 ≤ max 1 t ∧ max 1 t ≤ 72057594037927935
    omega
  · have h3 : l.conf % 3 = 0 ∨ l.conf % 3 = 1 ∨ l.conf % 3 = 2 := by omega
    unfold mkE
    dsimp only
    rcases h3 with h | h | h
    · rw [h]
      exact .inl ⟨rfl, rfl, rfl⟩
    · rw [h]
      refine .inr (.inl ⟨rfl, ?_, ?_, rfl⟩)
      · show 1 ≤ (1 :: l.data.take 30).length
        rw [List.length_cons]
        omega
      · show (1 :: l.data.take 30).length ≤ 128
        rw [List.length_cons, List.length_take]
        omega
    · rw [h]
      refine .inr (.inr ⟨rfl, rfl, ?_⟩)
      show setS (2 * (1 + l.term % 200 % 31))
      unfold setS
      omega
theorem handE_fol : ∀ (ls : List En) (i t : Int) (prev : Option En), 0 ≤ i → i + ls.length ≤ 72057594037927935 → 0 ≤ t → t + ls.length ≤ 72057594037927935 → (∀ a, prev = some a → a.idx = i ∧ a.term ≤ max 1 t) → folE prev (handE i t ls)
  | [], _, _, _, _, _, _, _, _ => trivial
  | l :: ls, i, t, prev, hi, hil, ht, htl, hp => by
    rw [List.length_cons] at hil htl
    have hk : 0 ≤ l.kind % 8 / 6 ∧ l.kind % 8 / 6 ≤ 1 := by omega
    refine ⟨mkE_ent (by omega) (by omega), ?_, handE_fol ls _ _ _ (by omega) (by omega) (by omega) (by omega) ?_⟩
    · cases prev with
      | none => trivial
      | some a =>
        have := hp a rfl
        refine ⟨?_, ?_⟩
        · show i + 1 = a.idx + 1
          omega
        · show a.term ≤ max 1 (t + l.kind % 8 / 6)
          omega
    · intro a ha
      cases ha
      exact ⟨rfl, Int.le_refl _⟩
theorem handE_len : ∀ (ls : List En) (i t : Int), (handE i t ls).length = ls.length
  | [], _, _ => rfl
  | l :: ls, i, t => by rw [handE, List.length_cons, List.length_cons, handE_len ls]
theorem handE_idx : ∀ (ls : List En) (i t : Int) (j : Nat) e, (handE i t ls)[j]? = some e → e.idx = i + j + 1
  | [], _, _, j, e, h => by cases h
  | l :: ls, i, t, 0, e, h => by
    cases h
    show i + 1 = i + 0 + 1
    omega
  | l :: ls, i, t, j + 1, e, h => by
    have := handE_idx ls (i + 1) (t + l.kind % 8 / 6) j e h
    omega
end Go.Sx
end
section
namespace Go.Sx
open Go Go.Proofs Go.RowKit Go.ChangeShapes Go.WideShapes Go.ChangeAt
attribute [local irreducible] C R Fin K Own OwnT Rd Pl Ok KOf RetOk OpsOf RP KP Res NoPanic KV
variable {M M' : Mem} {H H1 hrow : Hp}
section
variable {Hh : Type} {enc : TypeId × Value → Hh} {W : World} {m : Nat} {cs : List Value} {z : DataW Hh × List MemPlace}
theorem rd_en (h : Trd enc Try.prog W m 34 cs z) (hw : Wgt Try.prog 34 z.1) : ∃ (e : En) (A : Option Addr) (cap : Nat), cs = ecells e (.slice A e.data.length cap) ∧ Pl (Mem.of W) A (e.data.map bv) ∧ e.data.length ≤ cap ∧ cap ≤ 140737488351232 ∧ rng e := by
  obtain ⟨hl, k, hf⟩ := rd_fields Try.underlying34 h hw
  rw [show Try.prog.cellsOf 34 = 5 by kernel_rfl] at hl
  obtain ⟨y0, h0, _⟩ := hf 0 3 0 1 rfl (by kernel_rfl)
  obtain ⟨y1, h1, _⟩ := hf 1 31 1 1 rfl (by kernel_rfl)
  obtain ⟨y2, h2, _⟩ := hf 2 31 2 1 rfl (by kernel_rfl)
  obtain ⟨y3, h3, g3⟩ := hf 3 30 3 1 rfl (by kernel_rfl)
  obtain ⟨y4, h4, _⟩ := hf 4 3 4 1 rfl (by kernel_rfl)
  obtain ⟨a0, e0, w0⟩ := rd_int h0
  obtain ⟨a1, e1, w1⟩ := rd_int h1
  obtain ⟨a2, e2, w2⟩ := rd_int h2
  obtain ⟨A, bs, cap, e3, q1, q2, q3⟩ := rd_bytes h3 g3
  obtain ⟨a4, e4, w4⟩ := rd_int h4
  match cs, hl with
  | [x0, x1, x2, x3, x4], _ =>
    cases e0; cases e1; cases e2; cases e3; cases e4
    exact ⟨⟨a0, a1, a2, bs, a4⟩, A, cap, rfl, q2, q1, q3, w0, w1, w2, w4⟩
theorem rd_ens : ∀ (css : List (List Value)), (∀ c ∈ css, c.length = 5 ∧ ∃ m y, Trd enc Try.prog W m 34 c y ∧ Wgt Try.prog 34 y.1) → ∃ (es : List En) (vs : List Value), css = rowE es vs ∧ es.length = css.length ∧ PlV (Mem.of W) vs (es.map En.data) ∧ ∀ e ∈ es, rng e ∧ e.data.length ≤ 140737488351232
  | [], _ => ⟨[], [], rfl, rfl, PlV.nil, fun _ h => absurd h (List.not_mem_nil)⟩
  | c :: css, h => by
    obtain ⟨es, vs, h1, h2, h3, h4⟩ := rd_ens css (fun c hc => h c (List.mem_cons_of_mem _ hc))
    obtain ⟨_, m, y, h5, h6⟩ := h c (List.mem_cons_self ..)
    obtain ⟨e, A, cap, rfl, q1, q2, q3, q4⟩ := rd_en h5 h6
    refine ⟨e :: es, .slice A e.data.length cap :: vs, by rw [h1]; rfl, by simp [h2], ?_, ?_⟩
    · refine ⟨by simp [h3.1], fun i v l hv hl => ?_⟩
      cases i with
      | zero =>
        cases hv
        cases hl
        exact ⟨A, cap, rfl, q2, by omega, q1⟩
      | succ i => exact h3.2 i v l hv hl
    · intro x hx
      rcases List.mem_cons.1 hx with rfl | hx
      · exact ⟨q4, by omega⟩
      · exact h4 x hx
theorem arg_ens {A : Option Addr} {css : List (List Value)} {cap : Nat} (hl : css.length ≤ cap) (hp : Pl (Mem.of W) A css.flatten) (hc : cap * 56 ≤ 140737488351232) (hall : ∀ c ∈ css, c.length = 5 ∧ ∃ m y, Trd enc Try.prog W m 34 c y ∧ Wgt Try.prog 34 y.1) :
    ∃ es : List En, es.length = css.length ∧ EnL (Mem.of W) (.slice A css.length cap) es ∧ (∀ e ∈ es, e.data.length ≤ 140737488351232) ∧ ∀ e ∈ es, rng e := by
  obtain ⟨es, vs, h1, h2, h3, h4⟩ := rd_ens css hall
  refine ⟨es, h2, ⟨A, cap, vs, by rw [h2], by omega, by omega, by rw [← h1]; exact hp, h3⟩, fun e he => (h4 e he).2, fun e he => (h4 e he).1⟩
end
end Go.Sx
end
section
namespace Go.Sx
open Go Go.Proofs Go.RowKit
attribute [local irreducible] C R Fin K Own OwnT Rd Pl Ok KOf RetOk OpsOf RP KP Res NoPanic KV KE MapS ItS EntS FsO FsR RowD PlD DkO RT KT OneT RS KS OneS SgO
variable {M M' : Mem} {H H1 H2 : Hp}
theorem sr1_K {e : En} {dv gv : Value} {ges : List En} {hgot : Hp} {bG bM : Nat} {most : Int} (hd : PlB M dv e.data) (hg : OwnP M gv ges hgot) (hl : ges.length ≤ 1000) : K Try.prog 25 [eV e dv, .pointer (some ⟨bG, 0, none⟩), .pointer (some ⟨bM, 0, none⟩)] M ((bG, .cells #[gv] 42 (0, 0)) :: (bM, .cells #[.int .i64 most] 3 (0, 0)) :: (hgot ++ H)) fun v' M' H' =>
    v' = .bool (decide (((ges.length + 1 : Nat) : Int) < most)) ∧ M' = M ∧ ∃ gv' hgot', OwnP M gv' (ges ++ [e]) hgot' ∧ H' = (bG, .cells #[gv'] 42 (0, 0)) :: (bM, .cells #[.int .i64 most] 3 (0, 0)) :: (hgot' ++ H) := by
  obtain ⟨Ad, cd, rfl, _, _, _⟩ := id hd
  obtain ⟨Ag, cg, rfl, _, _⟩ := hg.form
  obtain ⟨vs, hot, hpv⟩ := id hg
  refine K.enterK Try.func25 rfl rfl rfl ?_
  intro Q hNP hQ
  unfold eV ecells
  (repeat' (first | refine a_go ?_ | (with_reducible apply Fin.thenK; assumption) | (with_reducible (first | apply C.seqK | apply C.regionK); intro _ _) | (apply R.buildSlice0; exact rfl; intro bz) | (apply R.box; exact rfl; (simp only [Value.cells]; rfl); exact rfl; intro bx) | (apply R.alloc; (simp only [Value.cells]; rfl); exact rfl; intro ba) | (apply R.buildSlice; (exact a_prt); exact rfl; exact rfl; (exact a_fills); exact rfl; intro bl) | (refine a_sp ?_ ?_; (intro h; skip; rotate_left; intro h; skip; rotate_left)) | fail))
  (apply R.appendT (news := ecells e (.slice Ad e.data.length cd)); exact rfl; exact rfl; exact hot; (exact a_tk); exact Rd.at_ (l := ecells e (.slice Ad e.data.length cd)) (by (exact a_at)) (fun j u h => by rw [Nat.zero_add]; exact h); exact rfl; (intro u hu; simp only [ecells, List.mem_cons, List.not_mem_nil, or_false] at hu; rcases hu with rfl | rfl | rfl | rfl | rfl <;> rfl); omega; exact rfl; decide; decide; exact rfl; rintro gv' hgot' hot')
  have hog' : OwnP M gv' (ges ++ [e]) hgot' := OwnP.snocE hot' hpv hd
  obtain ⟨Ag', cg', rfl, _, _⟩ := hot'.form
  (repeat' (first | refine a_go ?_ | (with_reducible apply Fin.thenK; assumption) | (with_reducible (first | apply C.seqK | apply C.regionK); intro _ _) | (apply R.buildSlice0; exact rfl; intro bz) | (apply R.box; exact rfl; (simp only [Value.cells]; rfl); exact rfl; intro bx) | (apply R.alloc; (simp only [Value.cells]; rfl); exact rfl; intro ba) | (apply R.buildSlice; (exact a_prt); exact rfl; exact rfl; (exact a_fills); exact rfl; intro bl) | (refine a_sp ?_ ?_; (intro h; skip; rotate_left; intro h; skip; rotate_left)) | fail))
  (apply Fin.returnA (H2 := (bG, .cells #[.slice Ag' (ges.length + 1) cg'] 42 (0, 0)) :: (bM, .cells #[.int .i64 most] 3 (0, 0)) :: (hgot' ++ H)); assumption; (first | exact .inl rfl | exact .inr rfl); exact rfl; (exact a_res); (simp only [retv]; rfl); (exact a_arr))
  exact ⟨rfl, rfl, _, hgot', hog', rfl⟩
structure AlS where
  k : Nat
  kk : Int
  gv : Value
  hgot : Hp
theorem sall1_K {lb db bx bG bM : Nat} {lim most : Int} {d : Dk} {ss : List Sg} {es : List En} {n : Nat} {hL : Hp} (h : LogE d ss es n) (hg : SgO M lb db lim ss hL) (hm : 1 ≤ most) :
    K Try.prog 43 [.func (.func 25) #[] #[.pointer (some ⟨bG, 0, none⟩), .pointer (some ⟨bM, 0, none⟩)], .pointer (some ⟨bx, 0, none⟩)] M
      ((bG, .cells #[.slice none 0 0] 42 (0, 0)) :: (bM, .cells #[.int .i64 most] 3 (0, 0)) :: (bx, .cells #[.pointer (some ⟨lb, 0, none⟩)] 26 (0, 0)) :: (hL ++ H)) fun _ M' H' =>
      M.le M' ∧ ∃ gv' hgot', OwnP M' gv' (es.take most.toNat) hgot' ∧ H' = (bG, .cells #[gv'] 42 (0, 0)) :: (bM, .cells #[.int .i64 most] 3 (0, 0)) :: (hgot' ++ (hL ++ ((bx, .cells #[.pointer (some ⟨lb, 0, none⟩)] 26 (0, 0)) :: H))) := by
  have hl : es.length ≤ 1000 := by have := h.num; omega
  refine K.enterK Try.func43 rfl rfl rfl ?_
  intro Q hNP hQ
  (repeat' (first | refine a_go ?_ | (with_reducible apply Fin.thenK; assumption) | (with_reducible (first | apply C.seqK | apply C.regionK); intro _ _) | (apply R.buildSlice0; exact rfl; intro bz) | (apply R.box; exact rfl; (simp only [Value.cells]; rfl); exact rfl; intro bx) | (apply R.alloc; (simp only [Value.cells]; rfl); exact rfl; intro ba) | (apply R.buildSlice; (exact a_prt); exact rfl; exact rfl; (exact a_fills); exact rfl; intro bl) | (refine a_sp ?_ ?_; (intro h; skip; rotate_left; intro h; skip; rotate_left)) | fail))
  apply R.arr (H2 := hL ++ ((bG, .cells #[.slice none 0 0] 42 (0, 0)) :: (bM, .cells #[.int .i64 most] 3 (0, 0)) :: (bx, .cells #[.pointer (some ⟨lb, 0, none⟩)] 26 (0, 0)) :: H)) (by (exact a_arrs))
  (apply R.call; (exact a_evs); exact rfl; exact slist_L h hg; rintro tv M2 _ ⟨hE2, hM2, rfl⟩)
  obtain ⟨A2, c2, v2, rfl, _, _, p2, q2⟩ := id hE2
  (repeat' (first | refine a_go ?_ | (with_reducible apply Fin.thenK; assumption) | (with_reducible (first | apply C.seqK | apply C.regionK); intro _ _) | (apply R.buildSlice0; exact rfl; intro bz) | (apply R.box; exact rfl; (simp only [Value.cells]; rfl); exact rfl; intro bx) | (apply R.alloc; (simp only [Value.cells]; rfl); exact rfl; intro ba) | (apply R.buildSlice; (exact a_prt); exact rfl; exact rfl; (exact a_fills); exact rfl; intro bl) | (refine a_sp ?_ ?_; (intro h; skip; rotate_left; intro h; skip; rotate_left)) | fail))
  apply C.arr (H2 := (bG, .cells #[.slice none 0 0] 42 (0, 0)) :: (bM, .cells #[.int .i64 most] 3 (0, 0)) :: (hL ++ ((bx, .cells #[.pointer (some ⟨lb, 0, none⟩)] 26 (0, 0)) :: H))) (by (exact a_arr))
  apply C.loop (fun x : AlS => (x.k : Int) = x.kk ∧ x.k ≤ es.length ∧ (x.k = 0 ∨ (x.k : Int) < most) ∧ OwnP M2 x.gv (es.take x.k) x.hgot)
    (fun x => [(0, .func (.func 25) #[] #[.pointer (some ⟨bG, 0, none⟩), .pointer (some ⟨bM, 0, none⟩)]), (6, .slice A2 es.length c2), (7, .int .i64 (es.length : Int)), (8, .int .i64 x.kk)]) (fun _ => M2)
    (fun x => (bG, .cells #[x.gv] 42 (0, 0)) :: (bM, .cells #[.int .i64 most] 3 (0, 0)) :: (x.hgot ++ (hL ++ ((bx, .cells #[.pointer (some ⟨lb, 0, none⟩)] 26 (0, 0)) :: H)))) (fun x => es.length - x.k) ⟨0, 0, .slice none 0 0, []⟩
  · exact ⟨rfl, Nat.zero_le _, .inl rfl, OwnP.nil⟩
  · (exact a_subs)
  · exact rfl
  · exact rfl
  rintro ⟨k, kk, gv, hgot⟩ ⟨hkk, hk, hkm, hog⟩
  dsimp only at hkk hk hkm hog ⊢
  subst hkk
  obtain ⟨Ag, cg, rfl, hcg1, hcg2⟩ := hog.form
  (repeat' (first | refine a_go ?_ | (with_reducible apply Fin.thenK; assumption) | (with_reducible (first | apply C.seqK | apply C.regionK); intro _ _) | (apply R.buildSlice0; exact rfl; intro bz) | (apply R.box; exact rfl; (simp only [Value.cells]; rfl); exact rfl; intro bx) | (apply R.alloc; (simp only [Value.cells]; rfl); exact rfl; intro ba) | (apply R.buildSlice; (exact a_prt); exact rfl; exact rfl; (exact a_fills); exact rfl; intro bl) | (refine a_sp ?_ ?_; (intro h; skip; rotate_left; intro h; skip; rotate_left)) | fail))
  · have hlt : (k : Int) < (es.length : Int) := by assumption
    have hka : k < es.length := by omega
    have htk : es.take (k + 1) = es.take k ++ [es[k]] := List.take_succ_eq_append_getElem hka
    obtain ⟨b', o, c, e, fr, Ai, ci, rfl, hMb, hcell, _, hci1, hci2, hpi⟩ := en_at p2 q2 hka
    generalize es[k] = x at hcell hci1 hci2 hpi htk
    (repeat' (first | refine a_go ?_ | (with_reducible apply Fin.thenK; assumption) | (with_reducible (first | apply C.seqK | apply C.regionK); intro _ _) | (apply R.buildSlice0; exact rfl; intro bz) | (apply R.box; exact rfl; (simp only [Value.cells]; rfl); exact rfl; intro bx) | (apply R.alloc; (simp only [Value.cells]; rfl); exact rfl; intro ba) | (apply R.buildSlice; (exact a_prt); exact rfl; exact rfl; (exact a_fills); exact rfl; intro bl) | (refine a_sp ?_ ?_; (intro h; skip; rotate_left; intro h; skip; rotate_left)) | fail))
    obtain ⟨b4, rfl⟩ : ∃ b4, b4 = ba := ⟨_, rfl⟩
    have hlk : (es.take k).length = k := by rw [List.length_take]; omega
    (apply R.callC (f := 25) (fs := []) (cs := [.pointer (some ⟨bG, 0, none⟩), .pointer (some ⟨bM, 0, none⟩)]); exact rfl; (exact a_evs); exact rfl; (apply K.arr (H2 := (bG, .cells #[.slice Ag (es.take k).length cg] 42 (0, 0)) :: (bM, .cells #[.int .i64 most] 3 (0, 0)) :: (hgot ++ ((b4, .cells #[.int .i64 x.kind, .int .u64 x.term, .int .u64 x.idx, .slice Ai x.data.length ci, .int .i64 x.conf] 34 (0, 0)) :: (hL ++ ((bx, .cells #[.pointer (some ⟨lb, 0, none⟩)] 26 (0, 0)) :: H))))); (exact a_arr); exact sr1_K (e := x) ⟨Ai, ci, rfl, hci1, hci2, hpi⟩ hog (by omega)); rintro _ _ _ ⟨rfl, e1_, gv', hgot', hg', rfl⟩; replace e1_ := e1_.symm; subst e1_)
    rw [hlk]
    rw [← htk] at hg'
    (repeat' (first | refine a_go ?_ | (with_reducible apply Fin.thenK; assumption) | (with_reducible (first | apply C.seqK | apply C.regionK); intro _ _) | (apply R.buildSlice0; exact rfl; intro bz) | (apply R.box; exact rfl; (simp only [Value.cells]; rfl); exact rfl; intro bx) | (apply R.alloc; (simp only [Value.cells]; rfl); exact rfl; intro ba) | (apply R.buildSlice; (exact a_prt); exact rfl; exact rfl; (exact a_fills); exact rfl; intro bl) | (refine a_sp ?_ ?_; (intro h; skip; rotate_left; intro h; skip; rotate_left)) | fail))
    · have h9 : ¬ ((k + 1 : Nat) : Int) < most := by assumption
      have hte : es.take most.toNat = es.take (k + 1) := by rw [show most.toNat = k + 1 by omega]
      (apply Fin.returnA (H2 := (bG, .cells #[gv'] 42 (0, 0)) :: (bM, .cells #[.int .i64 most] 3 (0, 0)) :: (hgot' ++ (hL ++ ((bx, .cells #[.pointer (some ⟨lb, 0, none⟩)] 26 (0, 0)) :: H)))); assumption; (first | exact .inl rfl | exact .inr rfl); exact rfl; (exact a_res); (simp only [retv]; rfl); (exact a_arr))
      exact ⟨hM2, _, hgot', by rw [hte]; exact hg', rfl⟩
    · have h9 : ((k + 1 : Nat) : Int) < most := by assumption
      apply Fin.arr (H2 := (bG, .cells #[gv'] 42 (0, 0)) :: (bM, .cells #[.int .i64 most] 3 (0, 0)) :: (hgot' ++ (hL ++ ((bx, .cells #[.pointer (some ⟨lb, 0, none⟩)] 26 (0, 0)) :: H)))) (by (exact a_arr))
      refine Fin.again (⟨k + 1, (k : Int) + 1, gv', hgot'⟩ : AlS) ⟨by dsimp only; omega, by dsimp only; omega, .inr h9, hg'⟩ (by dsimp only; omega) ?_ rfl rfl
      dsimp only
      (exact a_subs)
  · have hge : ¬ (k : Int) < (es.length : Int) := by assumption
    have hke : es.take k = es := List.take_of_length_le (by omega)
    rw [hke] at hog ⊢
    have hte : es.take most.toNat = es := List.take_of_length_le (by omega)
    (apply Fin.returnA (H2 := (bG, .cells #[.slice Ag es.length cg] 42 (0, 0)) :: (bM, .cells #[.int .i64 most] 3 (0, 0)) :: (hgot ++ (hL ++ ((bx, .cells #[.pointer (some ⟨lb, 0, none⟩)] 26 (0, 0)) :: H)))); assumption; exact .inr rfl; exact rfl; (exact a_res); (simp only [retv]; rfl); (exact a_arr))
    exact ⟨hM2, _, hgot, by rw [hte]; exact hog, rfl⟩
end Go.Sx
end
section
namespace Go.Sx
open Go Go.Proofs Go.RowKit
attribute [local irreducible] C R Fin K Own OwnT Rd Pl Ok KOf RetOk OpsOf RP KP Res NoPanic KV KE MapS ItS EntS FsO FsR RowD PlD DkO RT KT OneT RS KS OneS SgO
variable {M M' : Mem} {H H1 H2 : Hp}
theorem EnL.takeK {A : Option Addr} {cap k : Nat} {es : List En} (h : EnL M (.slice A es.length cap) es) (hk : k ≤ es.length) : EnL M (.slice A k cap) (es.take k) := by
  obtain ⟨A', cap', vs, e, h1, h2, h3, h4⟩ := h
  cases e
  refine ⟨A, cap, vs.take k, by rw [List.length_take, Nat.min_eq_left hk], by rw [List.length_take]; omega, h2, ?_, by rw [List.map_take]; exact h4.take k⟩
  rw [← rowE_take]
  exact h3.take (k * 5)
end Go.Sx
end
section
namespace Go.Sx
open Go Go.Proofs Go.RowKit
attribute [local irreducible] C R Fin K Own OwnT Rd Pl Ok KOf RetOk OpsOf RP KP Res NoPanic KV KE MapS ItS EntS FsO FsR RowD PlD DkO RT KT OneT RS KS OneS SgO
variable {M M' : Mem} {H H1 H2 : Hp}
theorem EnL.dropK {A : Option Addr} {cap k : Nat} {es : List En} (h : EnL M (.slice A es.length cap) es) (hk : k ≤ es.length) : EnL M (.slice (adv A k 5 cap) (es.length - k) (cap - k)) (es.drop k) := by
  obtain ⟨A', cap', vs, e, h1, h2, h3, h4⟩ := h
  cases e
  refine ⟨_, cap - k, vs.drop k, by rw [List.length_drop], by rw [List.length_drop]; omega, by omega, ?_, by rw [List.map_drop]; exact h4.drop k⟩
  rw [← rowE_drop]
  exact h3.cut (l := k) (size := 5) (cap := cap) (by rw [(rowE_cells h4).2.1]; omega)
theorem segRanges_K {lm mo dr : Int} {lv : Value} {l : List En} (hl : EnL M lv l) (hlr : ∀ e ∈ l, rng e) (hdr : 0 ≤ dr ∧ dr ≤ 18446744073709551615) : K Try.prog 6 [.int .i64 lm, lv, .int .i64 mo, .int .u64 dr] M H fun v' M' _ => v' = .bool true ∧ M.le M' := by
  obtain ⟨Al, cl, vl, rfl, _⟩ := id hl
  refine K.enterK Try.func6 rfl rfl rfl ?_
  intro Q hNP hQ
  have hlm : 0 ≤ lm % 200 ∧ lm % 200 < 200 := ⟨Int.emod_nonneg _ (by decide), Int.emod_lt_of_pos _ (by decide)⟩
  have hmo : 0 ≤ mo % 10 ∧ mo % 10 < 10 := ⟨Int.emod_nonneg _ (by decide), Int.emod_lt_of_pos _ (by decide)⟩
  (repeat' (first | refine a_go ?_ | (with_reducible apply Fin.thenK; assumption) | (with_reducible (first | apply C.seqK | apply C.regionK); intro _ _) | (apply R.buildSlice0; exact rfl; intro bz) | (apply R.box; exact rfl; (simp only [Value.cells]; rfl); exact rfl; intro bx) | (apply R.alloc; (simp only [Value.cells]; rfl); exact rfl; intro ba) | (apply R.buildSlice; (exact a_prt); exact rfl; exact rfl; (exact a_fills); exact rfl; intro bl) | (refine a_sp ?_ ?_; (intro h; skip; rotate_left; intro h; skip; rotate_left)) | fail))
  obtain ⟨bm, hbm⟩ : ∃ q, q = bx := ⟨_, rfl⟩
  subst hbm
  (apply R.call; (exact a_evs); exact rfl; (first | exact pick_K lm 200 (by decide) (by decide)); rintro _ _ _ ⟨rfl, e1_, e2_⟩; replace e1_ := e1_.symm; subst e1_; replace e2_ := e2_.symm; subst e2_)
  (repeat' (first | (apply R.step; (apply Ok.move; exact rfl); exact rfl) | (apply R.step; (apply Ok.addQ (64 + lm % 200); exact rfl; exact rfl; exact rfl; apply w64; omega; omega); exact rfl) | refine a_go ?_ | (with_reducible apply Fin.thenK; assumption) | (with_reducible (first | apply C.seqK | apply C.regionK); intro _ _) | (apply R.buildSlice0; exact rfl; intro bz) | (apply R.box; exact rfl; (simp only [Value.cells]; rfl); exact rfl; intro bx) | (apply R.alloc; (simp only [Value.cells]; rfl); exact rfl; intro ba) | (apply R.buildSlice; (exact a_prt); exact rfl; exact rfl; (exact a_fills); exact rfl; intro bl) | (refine a_sp ?_ ?_; (intro h; skip; rotate_left; intro h; skip; rotate_left)) | fail))
  (apply R.call; (exact a_evs); exact rfl; exact new_K (room := 1048576) (by decide) (by decide); rintro _ M _ ⟨db, hp, rfl, rfl, ho, rfl⟩)
  (repeat' (first | refine a_go ?_ | (with_reducible apply Fin.thenK; assumption) | (with_reducible (first | apply C.seqK | apply C.regionK); intro _ _) | (apply R.buildSlice0; exact rfl; intro bz) | (apply R.box; exact rfl; (simp only [Value.cells]; rfl); exact rfl; intro bx) | (apply R.alloc; (simp only [Value.cells]; rfl); exact rfl; intro ba) | (apply R.buildSlice; (exact a_prt); exact rfl; exact rfl; (exact a_fills); exact rfl; intro bl) | (refine a_sp ?_ ?_; (intro h; skip; rotate_left; intro h; skip; rotate_left)) | fail))
  (apply R.call; (exact a_evs); exact rfl; exact known9_K; rintro _ M1 H' ⟨rfl, hM1, e2_⟩)
  subst e2_
  replace ho := ho.mono hM1
  (repeat' (first | (apply R.step; (apply Ok.move; exact rfl); exact rfl) | (apply R.step; (apply Ok.eqPN; exact rfl; exact rfl); exact rfl) | refine a_go ?_ | (with_reducible apply Fin.thenK; assumption) | (with_reducible (first | apply C.seqK | apply C.regionK); intro _ _) | (apply R.buildSlice0; exact rfl; intro bz) | (apply R.box; exact rfl; (simp only [Value.cells]; rfl); exact rfl; intro bx) | (apply R.alloc; (simp only [Value.cells]; rfl); exact rfl; intro ba) | (apply R.buildSlice; (exact a_prt); exact rfl; exact rfl; (exact a_fills); exact rfl; intro bl) | (refine a_sp ?_ ?_; (intro h; skip; rotate_left; intro h; skip; rotate_left)) | fail))
  generalize hlim : 64 + lm % 200 = lim
  have hlim2 : 64 ≤ lim ∧ lim ≤ 16384 := by omega
  (apply R.call; (exact a_evs); exact rfl; exact sopen_L (lim := lim) hlim2 LogE.new ho; rintro _ M2 _ ⟨hM2, lb, hL2, hp2, rfl, ho2, hg2, rfl⟩)
  (repeat' (first | refine a_go ?_ | (with_reducible apply Fin.thenK; assumption) | (with_reducible (first | apply C.seqK | apply C.regionK); intro _ _) | (apply R.buildSlice0; exact rfl; intro bz) | (apply R.box; exact rfl; (simp only [Value.cells]; rfl); exact rfl; intro bx) | (apply R.alloc; (simp only [Value.cells]; rfl); exact rfl; intro ba) | (apply R.buildSlice; (exact a_prt); exact rfl; exact rfl; (exact a_fills); exact rfl; intro bl) | (refine a_sp ?_ ?_; (intro h; skip; rotate_left; intro h; skip; rotate_left)) | fail))
  (apply R.call; (exact a_evs); exact rfl; exact hEntries_K (i := 0) (t := 1) (m := 30) ((hl.mono hM1).mono hM2) hlr (by decide) (by decide) (by decide); rintro fv M3 _ ⟨hrf, hof, hM3, rfl⟩)
  have hfl : (l.take (30 : Int).toNat).length ≤ 30 := by rw [List.length_take]; exact Nat.min_le_left _ _
  have hffol : folE none (handE 0 1 (l.take (30 : Int).toNat)) := handE_fol _ _ _ _ (by decide) (by omega) (by decide) (by omega) (fun a h => by cases h)
  have hfix := handE_idx (l.take (30 : Int).toNat) 0 1
  have hfle := handE_len (l.take (30 : Int).toNat) 0 1
  generalize handE 0 1 (l.take (30 : Int).toNat) = fs at hof hffol hfix hfle
  obtain ⟨Af, cf, rfl, hcf, hcf2⟩ := hof.form
  (apply R.ice (hp := hrf) (Arr.all _); intro M4 hM4 hin4)
  have hEf : EnL M4 (.slice Af fs.length cf) fs := (hof.mono hM4).enL hin4
  replace hg2 := (hg2.mono hM3).mono hM4
  replace ho2 := (ho2.mono hM3).mono hM4
  have hMa := hM1.trans_ (hM2.trans_ (hM3.trans_ hM4))
  (repeat' (first | (apply R.step; (apply Ok.move; exact rfl); exact rfl) | (apply R.step; (apply Ok.eqPN; exact rfl; exact rfl); exact rfl) | refine a_go ?_ | (with_reducible apply Fin.thenK; assumption) | (with_reducible (first | apply C.seqK | apply C.regionK); intro _ _) | (apply R.buildSlice0; exact rfl; intro bz) | (apply R.box; exact rfl; (simp only [Value.cells]; rfl); exact rfl; intro bx) | (apply R.alloc; (simp only [Value.cells]; rfl); exact rfl; intro ba) | (apply R.buildSlice; (exact a_prt); exact rfl; exact rfl; (exact a_fills); exact rfl; intro bl) | (refine a_sp ?_ ?_; (intro h; skip; rotate_left; intro h; skip; rotate_left)) | fail))
  (apply R.call; (exact a_evs); exact rfl; exact sappend_L (ss := []) (es := []) (fs := fs) (k := 34) (lim := lim) hlim2 (LogE.new.less (by omega)) hffol hg2 hEf ho2; rintro _ M5 _ ⟨rfl, hM5, d5, s5, hL5, hp5, hl5, _, hd5, hg5, ho5, rfl⟩)
  have hd5' : d5.ps.length = fs.length := by rw [hd5]; exact Nat.zero_add _
  rw [List.nil_append] at hl5
  (repeat' (first | refine a_go ?_ | (with_reducible apply Fin.thenK; assumption) | (with_reducible (first | apply C.seqK | apply C.regionK); intro _ _) | (apply R.buildSlice0; exact rfl; intro bz) | (apply R.box; exact rfl; (simp only [Value.cells]; rfl); exact rfl; intro bx) | (apply R.alloc; (simp only [Value.cells]; rfl); exact rfl; intro ba) | (apply R.buildSlice; (exact a_prt); exact rfl; exact rfl; (exact a_fills); exact rfl; intro bl) | (refine a_sp ?_ ?_; (intro h; skip; rotate_left; intro h; skip; rotate_left)) | fail))
  (apply R.call; (exact a_evs); exact rfl; (first | exact pick_K mo 10 (by decide) (by decide)); rintro _ _ _ ⟨rfl, e1_, e2_⟩; replace e1_ := e1_.symm; subst e1_; replace e2_ := e2_.symm; subst e2_)
  (repeat' (first | (apply R.step; (apply Ok.move; exact rfl); exact rfl) | (apply R.step; (apply Ok.addQ (1 + mo % 10); exact rfl; exact rfl; exact rfl; apply w64; omega; omega); exact rfl) | refine a_go ?_ | (with_reducible apply Fin.thenK; assumption) | (with_reducible (first | apply C.seqK | apply C.regionK); intro _ _) | (apply R.buildSlice0; exact rfl; intro bz) | (apply R.box; exact rfl; (simp only [Value.cells]; rfl); exact rfl; intro bx) | (apply R.alloc; (simp only [Value.cells]; rfl); exact rfl; intro ba) | (apply R.buildSlice; (exact a_prt); exact rfl; exact rfl; (exact a_fills); exact rfl; intro bl) | (refine a_sp ?_ ?_; (intro h; skip; rotate_left; intro h; skip; rotate_left)) | fail))
  obtain ⟨most, hmost⟩ : ∃ m : Int, m = 1 + mo % 10 := ⟨_, rfl⟩
  rw [← hmost]
  have hm1 : 1 ≤ most ∧ most ≤ 10 := by omega
  obtain ⟨bg, hbg⟩ : ∃ q, q = ba := ⟨_, rfl⟩
  subst hbg
  (apply R.call; (exact a_evs); exact rfl; exact sall_K; rintro _ _ _ ⟨bx, rfl, e1_, rfl⟩; replace e1_ := e1_.symm; subst e1_)
  (apply R.step; (apply Ok.makeFunc (fs := []) ; (exact a_evs); (exact a_evs); (intro w; rfl)); exact rfl)
  (apply R.callC (f := 43) (fs := []) (cs := [.pointer (some ⟨bx, 0, none⟩)]); exact rfl; (exact a_evs); exact rfl; (apply K.arr (H2 := (bg, .cells #[.slice none 0 0] 42 (0, 0)) :: (bm, .cells #[.int .i64 most] 3 (0, 0)) :: (bx, .cells #[.pointer (some ⟨lb, 0, none⟩)] 26 (0, 0)) :: (hL5 ++ (hp5 ++ H)))); (exact a_arr); exact sall1_K (most := most) hl5 hg5 hm1.1; rintro _ M6 _ ⟨hM6, gv, hgot, hog, rfl⟩)
  (repeat' (first | refine a_go ?_ | (with_reducible apply Fin.thenK; assumption) | (with_reducible (first | apply C.seqK | apply C.regionK); intro _ _) | (apply R.buildSlice0; exact rfl; intro bz) | (apply R.box; exact rfl; (simp only [Value.cells]; rfl); exact rfl; intro bx) | (apply R.alloc; (simp only [Value.cells]; rfl); exact rfl; intro ba) | (apply R.buildSlice; (exact a_prt); exact rfl; exact rfl; (exact a_fills); exact rfl; intro bl) | (refine a_sp ?_ ?_; (intro h; skip; rotate_left; intro h; skip; rotate_left)) | fail))
  apply C.ice (hp := hgot) (H1 := (bg, .cells #[gv] 42 (0, 0)) :: (bm, .cells #[.int .i64 most] 3 (0, 0)) :: (hL5 ++ (hp5 ++ H))) (by (exact a_arrs))
  intro M7 hM7 hin7
  have hEg := (hog.mono hM7).enL hin7
  obtain ⟨Ag, cg, rfl, hcg, hcg2⟩ := hog.form
  have hEf7 := ((hEf.mono hM5).mono hM6).mono hM7
  have hmf : fs.take most.toNat = fs.take (min most.toNat fs.length) := by
    rcases Nat.le_total most.toNat fs.length with h | h
    · rw [Nat.min_eq_left h]
    · rw [Nat.min_eq_right h, List.take_of_length_le h, List.take_of_length_le (Nat.le_refl _)]
  have hkf : min most.toNat fs.length ≤ fs.length := Nat.min_le_right _ _
  have hEk := hEf7.takeK hkf
  rw [← hmf] at hEk
  have hmi : ((min most.toNat fs.length : Nat) : Int) = min most (fs.length : Int) := by omega
  generalize min most.toNat fs.length = kf at hkf hEk hmi
  (apply C.regionT (t := .free 0 (.free 1 (.free 2 (.free 3 (.free 4 (.free 5 (.free 6 (.free 7 (.free 8 .nil))))))))) (Hs := [(bg, .cells #[.slice Ag (List.take most.toNat fs).length cg] 42 (0, 0)), (bm, .cells #[.int .i64 most] 3 (0, 0))]); exact Mix.h; (first | exact Arr.all _ | (exact a_arr) | (exact a_arrs)); (exact a_np); kernel_rfl)
  (repeat' (first | (apply RT.step; exact rfl; intro _ _ _; (apply Ok.move; exact rfl); exact rfl) | (apply RT.step; exact rfl; intro _ _ _; (apply Ok.minI; exact rfl; exact rfl); exact rfl) | (first | (apply RT.step; exact rfl; intro _ _ _; (exact a_ok); exact rfl) | (apply RT.stepT; exact rfl; exact rfl; exact rfl; exact rfl; intro _ _ _; (exact a_ok); exact rfl) | (apply RT.stepF; exact rfl; exact rfl; exact rfl; exact rfl; exact rfl; exact rfl) | (apply RT.stepU; exact rfl; exact rfl; exact rfl; exact rfl; exact rfl) | (apply RT.one; apply OneT.effF; exact rfl; exact rfl; exact rfl; exact rfl; exact rfl; exact rfl) | (apply RT.one; apply OneT.effU; exact rfl; exact rfl; exact rfl; exact rfl; exact rfl))))
  rw [← hmi]
  (repeat' (first | (apply RT.step; exact rfl; intro _ _ _; (apply Ok.move; exact rfl); exact rfl) | (apply RT.step; exact rfl; intro _ _ _; (apply Ok.sliceHi; exact rfl; exact rfl; omega; omega); exact rfl) | (first | (apply RT.step; exact rfl; intro _ _ _; (exact a_ok); exact rfl) | (apply RT.stepT; exact rfl; exact rfl; exact rfl; exact rfl; intro _ _ _; (exact a_ok); exact rfl) | (apply RT.stepF; exact rfl; exact rfl; exact rfl; exact rfl; exact rfl; exact rfl) | (apply RT.stepU; exact rfl; exact rfl; exact rfl; exact rfl; exact rfl) | (apply RT.one; apply OneT.effF; exact rfl; exact rfl; exact rfl; exact rfl; exact rfl; exact rfl) | (apply RT.one; apply OneT.effU; exact rfl; exact rfl; exact rfl; exact rfl; exact rfl))))
  rw [Int.toNat_natCast]
  (repeat' (first | (apply RT.step; exact rfl; intro _ _ _; (apply Ok.move; exact rfl); exact rfl) | (apply RT.callQ; exact rfl; exact inferInstance; (exact a_evs); exact rfl; (intro M' Hx' hM'; exact sents_K (hEg.mono hM') (hEk.mono hM'))) | (first | (apply RT.step; exact rfl; intro _ _ _; (exact a_ok); exact rfl) | (apply RT.stepT; exact rfl; exact rfl; exact rfl; exact rfl; intro _ _ _; (exact a_ok); exact rfl) | (apply RT.stepF; exact rfl; exact rfl; exact rfl; exact rfl; exact rfl; exact rfl) | (apply RT.stepU; exact rfl; exact rfl; exact rfl; exact rfl; exact rfl) | (apply RT.one; apply OneT.effF; exact rfl; exact rfl; exact rfl; exact rfl; exact rfl; exact rfl) | (apply RT.one; apply OneT.effU; exact rfl; exact rfl; exact rfl; exact rfl; exact rfl))))
  apply RT.nil
  rw [decide_eq_true rfl]
  have hMb := hMa.trans_ (hM5.trans_ (hM6.trans_ hM7))
  have hdm : 0 ≤ dr % ((fs.length + 3 : Nat) : Int) ∧ dr % ((fs.length + 3 : Nat) : Int) < ((fs.length + 3 : Nat) : Int) := ⟨Int.emod_nonneg _ (by omega), Int.emod_lt_of_pos _ (by omega)⟩
  (repeat' (first | (apply R.step; (apply Ok.move; exact rfl); exact rfl) | (apply R.step; (first | (apply Ok.addQ ((fs.length + 3 : Nat) : Int); exact rfl; exact rfl; omega; apply w64; omega; omega) | (apply Ok.remP; exact rfl; exact rfl; omega; omega)); exact rfl) | refine a_go ?_ | (with_reducible apply Fin.thenK; assumption) | (with_reducible (first | apply C.seqK | apply C.regionK); intro _ _) | (apply R.buildSlice0; exact rfl; intro bz) | (apply R.box; exact rfl; (simp only [Value.cells]; rfl); exact rfl; intro bx) | (apply R.alloc; (simp only [Value.cells]; rfl); exact rfl; intro ba) | (apply R.buildSlice; (exact a_prt); exact rfl; exact rfl; (exact a_fills); exact rfl; intro bl) | (refine a_sp ?_ ?_; (intro h; skip; rotate_left; intro h; skip; rotate_left)) | fail))
  obtain ⟨dq, hdq⟩ : ∃ q : Int, q = dr % ((fs.length + 3 : Nat) : Int) := ⟨_, rfl⟩
  rw [← hdq] at hdm ⊢
  apply R.arr (H2 := hL5 ++ (hp5 ++ H)) (by (exact a_art))
  (apply R.call; (exact a_evs); exact rfl; exact sdrop_L (i := dq) hl5 (by omega) ((hg5.mono hM6).mono hM7) ((ho5.mono hM6).mono hM7); rintro _ M8 _ ⟨rfl, hM8, d8, s8, e8, X, hL8, hp8, hl8, hX1, hX2, hX3, hg8, ho8, rfl⟩)
  (repeat' (first | refine a_go ?_ | (with_reducible apply Fin.thenK; assumption) | (with_reducible (first | apply C.seqK | apply C.regionK); intro _ _) | (apply R.buildSlice0; exact rfl; intro bz) | (apply R.box; exact rfl; (simp only [Value.cells]; rfl); exact rfl; intro bx) | (apply R.alloc; (simp only [Value.cells]; rfl); exact rfl; intro ba) | (apply R.buildSlice; (exact a_prt); exact rfl; exact rfl; (exact a_fills); exact rfl; intro bl) | (refine a_sp ?_ ?_; (intro h; skip; rotate_left; intro h; skip; rotate_left)) | fail))
  (apply R.call; (exact a_evs); exact rfl; exact slist_L hl8 hg8; rintro gv8 M9 _ ⟨hE8, hM9, rfl⟩)
  have hXl : fs.length = X.length + e8.length := by rw [hX1, List.length_append]
  have hed : fs.drop X.length = e8 := by rw [hX1, List.drop_left]
  have hXd : (X.length : Int) ≤ dq := by
    by_cases h0 : X.length = 0
    · omega
    · have h1 : fs[X.length - 1]? = some X[X.length - 1] := by
        rw [hX1, List.getElem?_append_left (by omega), List.getElem?_eq_getElem (by omega)]
      have h2 := hfix _ _ h1
      have h3 := hX2 _ (List.getElem_mem (show X.length - 1 < X.length by omega))
      omega
  have hEd := (((hEf7.mono hM8).mono hM9)).dropK (k := X.length) (by omega)
  rw [hed] at hEd
  have hE8' := hE8
  obtain ⟨A8, c8, v8, rfl, _, _, _, _⟩ := id hE8
  have hsub : (fs.length : Int) - (e8.length : Int) = ((X.length : Nat) : Int) := by omega
  (repeat' (first | (apply R.step; (apply Ok.move; exact rfl); exact rfl) | (apply R.step; (first | (apply Ok.subQ ((X.length : Nat) : Int); exact rfl; exact rfl; exact hsub; apply w64; omega; omega) | (apply Ok.geTr; exact rfl; exact rfl; omega) | (apply Ok.leTr; exact rfl; exact rfl; exact hXd) | (apply Ok.sliceLo; exact rfl; exact rfl; omega; omega)); exact rfl) | refine a_go ?_ | (with_reducible apply Fin.thenK; assumption) | (with_reducible (first | apply C.seqK | apply C.regionK); intro _ _) | (apply R.buildSlice0; exact rfl; intro bz) | (apply R.box; exact rfl; (simp only [Value.cells]; rfl); exact rfl; intro bx) | (apply R.alloc; (simp only [Value.cells]; rfl); exact rfl; intro ba) | (apply R.buildSlice; (exact a_prt); exact rfl; exact rfl; (exact a_fills); exact rfl; intro bl) | (refine a_sp ?_ ?_; (intro h; skip; rotate_left; intro h; skip; rotate_left)) | fail))
  rw [Int.toNat_natCast]
  (apply R.call; (exact a_evs); exact rfl; exact sents_K hE8' hEd; rintro _ M10 _ ⟨rfl, rfl, rfl⟩)
  rw [decide_eq_true rfl]
  by_cases hz : fs.length = 0
  · (repeat' (first | (apply R.step; (apply Ok.move; exact rfl); exact rfl) | (apply R.step; (apply Ok.eqIR; exact rfl; exact rfl; omega); exact rfl) | refine a_go ?_ | (with_reducible apply Fin.thenK; assumption) | (with_reducible (first | apply C.seqK | apply C.regionK); intro _ _) | (apply R.buildSlice0; exact rfl; intro bz) | (apply R.box; exact rfl; (simp only [Value.cells]; rfl); exact rfl; intro bx) | (apply R.alloc; (simp only [Value.cells]; rfl); exact rfl; intro ba) | (apply R.buildSlice; (exact a_prt); exact rfl; exact rfl; (exact a_fills); exact rfl; intro bl) | (refine a_sp ?_ ?_; (intro h; skip; rotate_left; intro h; skip; rotate_left)) | fail))
    (apply Fin.returnA (H2 := H); assumption; (first | exact .inl rfl | exact .inr rfl); exact rfl; (exact a_res); (simp only [retv]; rfl); (exact a_arr))
    exact ⟨rfl, hMb.trans_ (hM8.trans_ hM9)⟩
  · have he8 : 0 < e8.length := List.length_pos_iff.2 (hX3 (List.ne_nil_of_length_pos (by omega)))
    (repeat' (first | (apply R.step; (apply Ok.move; exact rfl); exact rfl) | (apply R.step; (first | (apply Ok.eqIF; exact rfl; exact rfl; omega) | (apply Ok.gtTr; exact rfl; exact rfl; omega)); exact rfl) | refine a_go ?_ | (with_reducible apply Fin.thenK; assumption) | (with_reducible (first | apply C.seqK | apply C.regionK); intro _ _) | (apply R.buildSlice0; exact rfl; intro bz) | (apply R.box; exact rfl; (simp only [Value.cells]; rfl); exact rfl; intro bx) | (apply R.alloc; (simp only [Value.cells]; rfl); exact rfl; intro ba) | (apply R.buildSlice; (exact a_prt); exact rfl; exact rfl; (exact a_fills); exact rfl; intro bl) | (refine a_sp ?_ ?_; (intro h; skip; rotate_left; intro h; skip; rotate_left)) | fail))
    (apply Fin.returnA (H2 := H); assumption; (first | exact .inl rfl | exact .inr rfl); exact rfl; (exact a_res); (simp only [retv]; rfl); (exact a_arr))
    exact ⟨rfl, hMb.trans_ (hM8.trans_ hM9)⟩
end Go.Sx
end
