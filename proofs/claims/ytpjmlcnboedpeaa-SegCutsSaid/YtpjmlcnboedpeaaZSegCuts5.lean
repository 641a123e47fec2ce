import Derived.Test.YtpjmlcnboedpeaaZSegCuts4
section
namespace Go.Sx
open Go Go.Proofs Go.RowKit
attribute [local irreducible] C R Fin K Own OwnT Rd Pl Ok KOf RetOk OpsOf RP KP Res NoPanic KV KE MapS ItS EntS FsO FsR RowD PlD DkO RT KT OneT RS KS OneS SgO
variable {M M' : Mem} {H H1 H2 : Hp}
theorem fits_small {es : List En} (h : ∀ e ∈ es, entS e) (hl : es.length ≤ 1000) : fits es := by
  refine ⟨by omega, fun e he => ?_⟩
  have := (entS_kind (h e he)).2.2.2.2.2.2
  omega
theorem EnL.takeK {A : Option Addr} {cap k : Nat} {es : List En} (h : EnL M (.slice A es.length cap) es) (hk : k ≤ es.length) : EnL M (.slice A k cap) (es.take k) := by
  obtain ⟨A', cap', vs, e, h1, h2, h3, h4⟩ := h
  cases e
  refine ⟨A, cap, vs.take k, by rw [List.length_take, Nat.min_eq_left hk], by rw [List.length_take]; omega, h2, ?_, by rw [List.map_take]; exact h4.take k⟩
  rw [← rowE_take]
  exact h3.take (k * 5)
theorem lastO_of {ss : List Sg} {d : Dk} {es : List En} {k : Nat} (h : LogE d ss es k) : lastO ss = es.getLast? := by rw [lastO_list h.sgs, h.list]
theorem segCuts_K {lm at_ : Int} {lv mv : Value} {l more : List En} (hl : EnL M lv l) (hlr : ∀ e ∈ l, rng e) (hm : EnL M mv more) (hmr : ∀ e ∈ more, rng e) : K Try.prog 5 [.int .i64 lm, lv, mv, .int .i64 at_] M H fun v' M' _ => v' = .bool true ∧ M.le M' := by
  obtain ⟨Al, cl, vl, rfl, _⟩ := id hl
  obtain ⟨Am, cm, vm, rfl, _⟩ := id hm
  refine K.enterK Try.func5 rfl rfl rfl ?_
  intro Q hNP hQ
  have hlm : 0 ≤ lm % 200 ∧ lm % 200 < 200 := ⟨Int.emod_nonneg _ (by decide), Int.emod_lt_of_pos _ (by decide)⟩
  (repeat' (first | refine a_go ?_ | (with_reducible apply Fin.thenK; assumption) | (with_reducible (first | apply C.seqK | apply C.regionK); intro _ _) | (apply R.buildSlice0; exact rfl; intro bz) | (apply R.box; exact rfl; (simp only [Value.cells]; rfl); exact rfl; intro bx) | (apply R.alloc; (simp only [Value.cells]; rfl); exact rfl; intro ba) | (apply R.buildSlice; (exact a_prt); exact rfl; exact rfl; (exact a_fills); exact rfl; intro bl) | (refine a_sp ?_ ?_; (intro h; skip; rotate_left; intro h; skip; rotate_left)) | fail))
  (apply R.call; (exact a_evs); exact rfl; (first | exact pick_K lm 200 (by decide) (by decide)); rintro _ _ _ ⟨rfl, e1_, e2_⟩; replace e1_ := e1_.symm; subst e1_; replace e2_ := e2_.symm; subst e2_)
  (repeat' (first | (apply R.step; (apply Ok.move; exact rfl); exact rfl) | (apply R.step; (apply Ok.addQ (64 + lm % 200); exact rfl; exact rfl; exact rfl; apply w64; omega; omega); exact rfl) | refine a_go ?_ | (with_reducible apply Fin.thenK; assumption) | (with_reducible (first | apply C.seqK | apply C.regionK); intro _ _) | (apply R.buildSlice0; exact rfl; intro bz) | (apply R.box; exact rfl; (simp only [Value.cells]; rfl); exact rfl; intro bx) | (apply R.alloc; (simp only [Value.cells]; rfl); exact rfl; intro ba) | (apply R.buildSlice; (exact a_prt); exact rfl; exact rfl; (exact a_fills); exact rfl; intro bl) | (refine a_sp ?_ ?_; (intro h; skip; rotate_left; intro h; skip; rotate_left)) | fail))
  (apply R.call; (exact a_evs); exact rfl; exact new_K (room := 1048576) (by decide) (by decide); rintro _ M _ ⟨db, hp, rfl, rfl, ho, rfl⟩)
  (repeat' (first | refine a_go ?_ | (with_reducible apply Fin.thenK; assumption) | (with_reducible (first | apply C.seqK | apply C.regionK); intro _ _) | (apply R.buildSlice0; exact rfl; intro bz) | (apply R.box; exact rfl; (simp only [Value.cells]; rfl); exact rfl; intro bx) | (apply R.alloc; (simp only [Value.cells]; rfl); exact rfl; intro ba) | (apply R.buildSlice; (exact a_prt); exact rfl; exact rfl; (exact a_fills); exact rfl; intro bl) | (refine a_sp ?_ ?_; (intro h; skip; rotate_left; intro h; skip; rotate_left)) | fail))
  (apply R.call; (exact a_evs); exact rfl; exact known9_K; rintro _ M1 H' ⟨rfl, hM1, e2_⟩)
  subst e2_
  replace ho := ho.mono hM1
  (repeat' (first | (apply R.step; (apply Ok.move; exact rfl); exact rfl) | (apply R.step; (apply Ok.eqPN; exact rfl; exact rfl); exact rfl) | refine a_go ?_ | (with_reducible apply Fin.thenK; assumption) | (with_reducible (first | apply C.seqK | apply C.regionK); intro _ _) | (apply R.buildSlice0; exact rfl; intro bz) | (apply R.box; exact rfl; (simp only [Value.cells]; rfl); exact rfl; intro bx) | (apply R.alloc; (simp only [Value.cells]; rfl); exact rfl; intro ba) | (apply R.buildSlice; (exact a_prt); exact rfl; exact rfl; (exact a_fills); exact rfl; intro bl) | (refine a_sp ?_ ?_; (intro h; skip; rotate_left; intro h; skip; rotate_left)) | fail))
  generalize hlim : 64 + lm % 200 = lim
  have hlim2 : 64 ≤ lim ∧ lim ≤ 16384 := by omega
  (apply R.call; (exact a_evs); exact rfl; exact sopen_L (lim := lim) hlim2 LogE.new ho; rintro _ M2 _ ⟨hM2, lb, hL2, hp2, rfl, ho2, hg2, rfl⟩)
  (repeat' (first | refine a_go ?_ | (with_reducible apply Fin.thenK; assumption) | (with_reducible (first | apply C.seqK | apply C.regionK); intro _ _) | (apply R.buildSlice0; exact rfl; intro bz) | (apply R.box; exact rfl; (simp only [Value.cells]; rfl); exact rfl; intro bx) | (apply R.alloc; (simp only [Value.cells]; rfl); exact rfl; intro ba) | (apply R.buildSlice; (exact a_prt); exact rfl; exact rfl; (exact a_fills); exact rfl; intro bl) | (refine a_sp ?_ ?_; (intro h; skip; rotate_left; intro h; skip; rotate_left)) | fail))
  (apply R.call; (exact a_evs); exact rfl; exact hEntries_K (i := 0) (t := 1) (m := 20) ((hl.mono hM1).mono hM2) hlr (by decide) (by decide) (by decide); rintro fv M3 _ ⟨hrf, hof, hM3, rfl⟩)
  have hfl : (l.take (20 : Int).toNat).length ≤ 20 := by rw [List.length_take]; exact Nat.min_le_left _ _
  have hffol : folE none (handE 0 1 (l.take (20 : Int).toNat)) := handE_fol _ _ _ _ (by decide) (by omega) (by decide) (by omega) (fun a h => by cases h)
  have hfix := handE_idx (l.take (20 : Int).toNat) 0 1
  have hfle := handE_len (l.take (20 : Int).toNat) 0 1
  have hft := handE_term (l.take (20 : Int).toNat) 0 1
  generalize handE 0 1 (l.take (20 : Int).toNat) = fs at hof hffol hfix hfle hft
  obtain ⟨Af, cf, rfl, hcf, hcf2⟩ := hof.form
  (apply R.ice (hp := hrf) (Arr.all _); intro M4 hM4 hin4)
  have hEf : EnL M4 (.slice Af fs.length cf) fs := (hof.mono hM4).enL hin4
  replace hg2 := (hg2.mono hM3).mono hM4
  replace ho2 := (ho2.mono hM3).mono hM4
  have hMa := hM1.trans_ (hM2.trans_ (hM3.trans_ hM4))
  (repeat' (first | (apply R.step; (apply Ok.move; exact rfl); exact rfl) | (apply R.step; (apply Ok.eqPN; exact rfl; exact rfl); exact rfl) | refine a_go ?_ | (with_reducible apply Fin.thenK; assumption) | (with_reducible (first | apply C.seqK | apply C.regionK); intro _ _) | (apply R.buildSlice0; exact rfl; intro bz) | (apply R.box; exact rfl; (simp only [Value.cells]; rfl); exact rfl; intro bx) | (apply R.alloc; (simp only [Value.cells]; rfl); exact rfl; intro ba) | (apply R.buildSlice; (exact a_prt); exact rfl; exact rfl; (exact a_fills); exact rfl; intro bl) | (refine a_sp ?_ ?_; (intro h; skip; rotate_left; intro h; skip; rotate_left)) | fail))
  (apply R.call; (exact a_evs); exact rfl; exact sappend_L (ss := []) (es := []) (fs := fs) (k := 44) (lim := lim) hlim2 (LogE.new.less (by omega)) hffol hg2 hEf ho2; rintro _ M5 _ ⟨rfl, hM5, d5, s5, hL5, hp5, hl5, _, hd5, hg5, ho5, rfl⟩)
  have hd5' : d5.ps.length = fs.length := by rw [hd5]; exact Nat.zero_add _
  rw [List.nil_append] at hl5
  (repeat' (first | (apply R.step; (apply Ok.move; exact rfl); exact rfl) | (apply R.step; (apply Ok.addQ ((fs.length + 1 : Nat) : Int); exact rfl; exact rfl; exact (Int.natCast_succ _).symm; apply w64; omega; omega); exact rfl) | refine a_go ?_ | (with_reducible apply Fin.thenK; assumption) | (with_reducible (first | apply C.seqK | apply C.regionK); intro _ _) | (apply R.buildSlice0; exact rfl; intro bz) | (apply R.box; exact rfl; (simp only [Value.cells]; rfl); exact rfl; intro bx) | (apply R.alloc; (simp only [Value.cells]; rfl); exact rfl; intro ba) | (apply R.buildSlice; (exact a_prt); exact rfl; exact rfl; (exact a_fills); exact rfl; intro bl) | (refine a_sp ?_ ?_; (intro h; skip; rotate_left; intro h; skip; rotate_left)) | fail))
  (apply R.call; (exact a_evs); exact rfl; (first | exact pick_K at_ ((fs.length + 1 : Nat) : Int) (by omega) (by omega)); rintro _ _ _ ⟨rfl, e1_, e2_⟩; replace e1_ := e1_.symm; subst e1_; replace e2_ := e2_.symm; subst e2_)
  obtain ⟨a, ha⟩ : ∃ a : Nat, (a : Int) = at_ % ((fs.length + 1 : Nat) : Int) := ⟨(at_ % ((fs.length + 1 : Nat) : Int)).toNat, Int.toNat_of_nonneg (Int.emod_nonneg _ (by omega))⟩
  have hal : a ≤ fs.length := by
    have := Int.emod_lt_of_pos at_ (show 0 < ((fs.length + 1 : Nat) : Int) by omega)
    omega
  rw [← ha]
  (repeat' (first | (apply R.step; (apply Ok.move; exact rfl); exact rfl) | (apply R.step; (first | (apply Ok.addQ ((a + 1 : Nat) : Int); exact rfl; exact rfl; exact (Int.natCast_succ _).symm; apply w64; omega; omega)); exact rfl) | refine a_go ?_ | (with_reducible apply Fin.thenK; assumption) | (with_reducible (first | apply C.seqK | apply C.regionK); intro _ _) | (apply R.buildSlice0; exact rfl; intro bz) | (apply R.box; exact rfl; (simp only [Value.cells]; rfl); exact rfl; intro bx) | (apply R.alloc; (simp only [Value.cells]; rfl); exact rfl; intro ba) | (apply R.buildSlice; (exact a_prt); exact rfl; exact rfl; (exact a_fills); exact rfl; intro bl) | (refine a_sp ?_ ?_; (intro h; skip; rotate_left; intro h; skip; rotate_left)) | fail))
  (apply R.call; (exact a_evs); exact rfl; exact scut_L (i := ((a + 1 : Nat) : Int)) (by omega) hl5 (by omega) hg5 ho5; rintro _ M6 _ ⟨rfl, hM6, d6, s6, e6, hL6, hp6, hl6, hc6, hd6, hg6, ho6, rfl⟩)
  have he6 : e6 = fs.take a := by
    have h1 := takeWhile_idx (i := 0) (a := a) (es := fs) (fun j e he => hfix j e he)
    rw [hc6.is, ← h1]
    congr 1
    funext e
    congr 1
    exact propext (by omega)
  subst he6
  have hfent := folE_drop hffol
  have hEf6 : EnL M6 (.slice Af fs.length cf) fs := (hEf.mono hM5).mono hM6
  (repeat' (first | (apply R.step; (exact a_ok); exact rfl) | (first | (with_reducible first | apply R.nil | apply C.ret | apply C.block | apply C.skip | apply C.exit | apply Fin.thenRet | apply Fin.thenExit | apply Fin.blockNormal | apply Fin.blockRet | apply Fin.blockExit) | (with_reducible apply Fin.thenK; assumption) | (with_reducible apply C.seqR; intro _ _) | (with_reducible apply C.regionK; intro _ _) | (with_reducible apply Fin.blockOther; exact rfl)) | (first | (apply R.store; exact rfl; exact rfl; exact rfl; (exact a_at); (exact a_blit); exact rfl; (focus (simp [Value.oneCell']; done))) | (apply R.buildSlice0; exact rfl; intro bz) | (apply R.box; exact rfl; (simp only [Value.cells]; rfl); exact rfl; intro bx) | (apply R.alloc; (simp only [Value.cells]; rfl); exact rfl; intro ba) | (apply R.buildSlice; (exact a_prt); exact rfl; exact rfl; (exact a_fills); exact rfl; intro bl)) | (first | (apply R.guardT; assumption; exact rfl; exact rfl; exact rfl) | (apply R.guardF; assumption; exact rfl; exact rfl; exact rfl; exact rfl; exact rfl) | (apply R.guardU; assumption; exact rfl; exact rfl; exact rfl; exact rfl) | (apply R.guardDec; assumption; exact rfl; exact rfl; (intro h; skip; rotate_left; intro h; skip; rotate_left)) | (apply R.guardBeq; assumption; exact rfl; exact rfl; (intro h; skip; rotate_left; intro h; skip; rotate_left)) | (apply R.guardBne; assumption; exact rfl; exact rfl; (intro h; skip; rotate_left; intro h; skip; rotate_left)) | (apply R.guardNDec; assumption; exact rfl; exact rfl; (intro h; skip; rotate_left; intro h; skip; rotate_left)) | (apply R.guardNot; assumption; exact rfl; exact rfl; (intro h; skip; rotate_left; intro h; skip; rotate_left)) | (apply R.guardC; assumption; exact rfl; exact rfl; (intro h; skip; rotate_left; intro h; skip; rotate_left)))))
  ((apply C.condF; exact rfl); apply C.skip; (apply Fin.thenK; assumption))
  (repeat' (first | (apply R.step; (exact a_ok); exact rfl) | (first | (with_reducible first | apply R.nil | apply C.ret | apply C.block | apply C.skip | apply C.exit | apply Fin.thenRet | apply Fin.thenExit | apply Fin.blockNormal | apply Fin.blockRet | apply Fin.blockExit) | (with_reducible apply Fin.thenK; assumption) | (with_reducible apply C.seqR; intro _ _) | (with_reducible apply C.regionK; intro _ _) | (with_reducible apply Fin.blockOther; exact rfl)) | (first | (apply R.store; exact rfl; exact rfl; exact rfl; (exact a_at); (exact a_blit); exact rfl; (focus (simp [Value.oneCell']; done))) | (apply R.buildSlice0; exact rfl; intro bz) | (apply R.box; exact rfl; (simp only [Value.cells]; rfl); exact rfl; intro bx) | (apply R.alloc; (simp only [Value.cells]; rfl); exact rfl; intro ba) | (apply R.buildSlice; (exact a_prt); exact rfl; exact rfl; (exact a_fills); exact rfl; intro bl)) | (first | (apply R.guardT; assumption; exact rfl; exact rfl; exact rfl) | (apply R.guardF; assumption; exact rfl; exact rfl; exact rfl; exact rfl; exact rfl) | (apply R.guardU; assumption; exact rfl; exact rfl; exact rfl; exact rfl) | (apply R.guardDec; assumption; exact rfl; exact rfl; (intro h; skip; rotate_left; intro h; skip; rotate_left)) | (apply R.guardBeq; assumption; exact rfl; exact rfl; (intro h; skip; rotate_left; intro h; skip; rotate_left)) | (apply R.guardBne; assumption; exact rfl; exact rfl; (intro h; skip; rotate_left; intro h; skip; rotate_left)) | (apply R.guardNDec; assumption; exact rfl; exact rfl; (intro h; skip; rotate_left; intro h; skip; rotate_left)) | (apply R.guardNot; assumption; exact rfl; exact rfl; (intro h; skip; rotate_left; intro h; skip; rotate_left)) | (apply R.guardC; assumption; exact rfl; exact rfl; (intro h; skip; rotate_left; intro h; skip; rotate_left)))))
  apply C.seqCut (X := Int) (fun t => 1 ≤ t ∧ t ≤ 1000 ∧ ∀ e, (fs.take a).getLast? = some e → e.term ≤ t) (fun t => [(0, .int .i64 lim), (2, .slice Am more.length cm), (3, .int .i64 (a : Int)), (9, .pointer (some ⟨db, 0, none⟩)), (11, .pointer (some ⟨lb, 0, none⟩)), (13, .slice Af fs.length cf), (14, .int .u64 t)]) (fun _ => M6) (fun _ => hL6 ++ (hp6 ++ H))
  · by_cases h0 : 0 < a
    · have hai : a - 1 < fs.length := by omega
      obtain ⟨A9, c9, v9, e9, k9, k10, p9, q9⟩ := id hEf6
      cases e9
      obtain ⟨b', o, c, e', fr, Ai, ci, rfl, hMb, hcell, _, _, _, _⟩ := en_at p9 q9 hai
      have hll : (a : Int) - 1 = ((a - 1 : Nat) : Int) := by omega
      have hc1 : c[o + ((a - 1 : Nat) : Int).toNat * 5 + 1]? = some (.int .u64 fs[a - 1].term) := hcell 1 _ rfl
      have hgl : (fs.take a).getLast? = some fs[a - 1] := by
        rw [List.getLast?_eq_getElem?, List.length_take, Nat.min_eq_left hal, List.getElem?_take, if_pos (by omega), List.getElem?_eq_getElem hai]
      have htk := (entS_kind (hfent _ (List.getElem_mem hai))).2.2.2.2.1
      have htk2 := hft _ (List.getElem_mem hai)
      generalize fs[a - 1] = x at hc1 hgl htk htk2
      (repeat' (first | (apply R.step; (apply Ok.move; exact rfl); exact rfl) | (apply R.step; (first | (apply Ok.gtTr; exact rfl; exact rfl; omega) | (apply Ok.subQ ((a - 1 : Nat) : Int); exact rfl; exact rfl; exact hll; apply w64; omega; omega) | (apply Ok.indexAddr; exact rfl; exact rfl; omega; omega) | (apply Ok.loadP; exact rfl; exact rfl; exact hMb; exact hc1)); exact rfl) | refine a_go ?_ | (with_reducible apply Fin.thenK; assumption) | (with_reducible (first | apply C.seqK | apply C.regionK); intro _ _) | (apply R.buildSlice0; exact rfl; intro bz) | (apply R.box; exact rfl; (simp only [Value.cells]; rfl); exact rfl; intro bx) | (apply R.alloc; (simp only [Value.cells]; rfl); exact rfl; intro ba) | (apply R.buildSlice; (exact a_prt); exact rfl; exact rfl; (exact a_fills); exact rfl; intro bl) | (refine a_sp ?_ ?_; (intro h; skip; rotate_left; intro h; skip; rotate_left)) | fail))
      refine Fin.join (x.term : Int) ⟨htk.1, by omega, fun e he => by rw [hgl] at he; cases he; exact Int.le_refl _⟩ ?_ rfl rfl
      (exact a_subs)
    · have h00 : a = 0 := by omega
      (repeat' (first | (apply R.step; (apply Ok.move; exact rfl); exact rfl) | (apply R.step; (first | (apply Ok.gtF; exact rfl; exact rfl; omega)); exact rfl) | refine a_go ?_ | (with_reducible apply Fin.thenK; assumption) | (with_reducible (first | apply C.seqK | apply C.regionK); intro _ _) | (apply R.buildSlice0; exact rfl; intro bz) | (apply R.box; exact rfl; (simp only [Value.cells]; rfl); exact rfl; intro bx) | (apply R.alloc; (simp only [Value.cells]; rfl); exact rfl; intro ba) | (apply R.buildSlice; (exact a_prt); exact rfl; exact rfl; (exact a_fills); exact rfl; intro bl) | (refine a_sp ?_ ?_; (intro h; skip; rotate_left; intro h; skip; rotate_left)) | fail))
      refine Fin.join (1 : Int) ⟨by decide, by decide, fun e he => by rw [h00] at he; cases he⟩ ?_ rfl rfl
      (exact a_subs)
  rintro t ⟨ht1, ht2, htl⟩
  have hMb := hMa.trans_ (hM5.trans_ hM6)
  have hal2 : a ≤ 20 := by omega
  (repeat' (first | refine a_go ?_ | (with_reducible apply Fin.thenK; assumption) | (with_reducible (first | apply C.seqK | apply C.regionK); intro _ _) | (apply R.buildSlice0; exact rfl; intro bz) | (apply R.box; exact rfl; (simp only [Value.cells]; rfl); exact rfl; intro bx) | (apply R.alloc; (simp only [Value.cells]; rfl); exact rfl; intro ba) | (apply R.buildSlice; (exact a_prt); exact rfl; exact rfl; (exact a_fills); exact rfl; intro bl) | (refine a_sp ?_ ?_; (intro h; skip; rotate_left; intro h; skip; rotate_left)) | fail))
  (apply R.call; (exact a_evs); exact rfl; exact hEntries_K (i := (a : Int)) (t := t) (m := 20) (hm.mono hMb) hmr (by omega) (by omega) (by decide); rintro rv M7 _ ⟨hrr, hor, hM7, rfl⟩)
  have hrl : (more.take (20 : Int).toNat).length ≤ 20 := by rw [List.length_take]; exact Nat.min_le_left _ _
  have hrfol : folE (fs.take a).getLast? (handE (a : Int) t (more.take (20 : Int).toNat)) := handE_fol _ _ _ _ (by omega) (by omega) (by omega) (by omega) (fun x hx => by
    refine ⟨?_, by have := htl x hx; omega⟩
    rw [List.getLast?_eq_getElem?, List.length_take, Nat.min_eq_left hal, List.getElem?_take] at hx
    split at hx
    · have := hfix _ _ hx
      omega
    · cases hx)
  have hrle := handE_len (more.take (20 : Int).toNat) (a : Int) t
  generalize handE (a : Int) t (more.take (20 : Int).toNat) = rs at hor hrfol hrle
  obtain ⟨Ar, cr, rfl, hcr, hcr2⟩ := hor.form
  (apply R.ice (hp := hrr) (Arr.all _); intro M8 hM8 hin8)
  have hEr : EnL M8 (.slice Ar rs.length cr) rs := (hor.mono hM8).enL hin8
  replace hg6 := (hg6.mono hM7).mono hM8
  replace ho6 := (ho6.mono hM7).mono hM8
  rw [← lastO_of hl6] at hrfol
  (repeat' (first | refine a_go ?_ | (with_reducible apply Fin.thenK; assumption) | (with_reducible (first | apply C.seqK | apply C.regionK); intro _ _) | (apply R.buildSlice0; exact rfl; intro bz) | (apply R.box; exact rfl; (simp only [Value.cells]; rfl); exact rfl; intro bx) | (apply R.alloc; (simp only [Value.cells]; rfl); exact rfl; intro ba) | (apply R.buildSlice; (exact a_prt); exact rfl; exact rfl; (exact a_fills); exact rfl; intro bl) | (refine a_sp ?_ ?_; (intro h; skip; rotate_left; intro h; skip; rotate_left)) | fail))
  (apply R.call; (exact a_evs); exact rfl; exact sappend_L (fs := rs) (k := 24) (lim := lim) hlim2 (hl6.less (by omega)) hrfol hg6 hEr ho6; rintro _ M9 _ ⟨rfl, hM9, d9, s9, hL9, hp9, hl9, _, hd9, hg9, ho9, rfl⟩)
  have hEa : EnL M9 (.slice Af a cf) (fs.take a) := (((hEf6.mono hM7).mono hM8).mono hM9).takeK hal
  (repeat' (first | (apply R.step; (apply Ok.move; exact rfl); exact rfl) | (apply R.step; (apply Ok.sliceHi; exact rfl; exact rfl; omega; omega); exact rfl) | refine a_go ?_ | (with_reducible apply Fin.thenK; assumption) | (with_reducible (first | apply C.seqK | apply C.regionK); intro _ _) | (apply R.buildSlice0; exact rfl; intro bz) | (apply R.box; exact rfl; (simp only [Value.cells]; rfl); exact rfl; intro bx) | (apply R.alloc; (simp only [Value.cells]; rfl); exact rfl; intro ba) | (apply R.buildSlice; (exact a_prt); exact rfl; exact rfl; (exact a_fills); exact rfl; intro bl) | (refine a_sp ?_ ?_; (intro h; skip; rotate_left; intro h; skip; rotate_left)) | fail))
  rw [Int.toNat_natCast]
  (apply R.call; (exact a_evs); exact rfl; exact copy_KP hEa (fits_small (fun e he => hfent e (List.mem_of_mem_take he)) (by rw [List.length_take]; omega)); rintro cv M10 _ ⟨hrc, hoc, hM10, rfl⟩)
  obtain ⟨vsc, hotc, hpvc⟩ := id hoc
  obtain ⟨Ac, cc, rfl, _, _⟩ := hotc.form
  have hEr10 := (hEr.mono hM9).mono hM10
  obtain ⟨A7, c7, vs7, e7, _, _, p7, q7⟩ := id hEr10
  cases e7
  obtain ⟨_, len7, one7⟩ := rowE_cells q7
  have hta : (fs.take a).length ≤ 20 := by rw [List.length_take]; omega
  (repeat' (first | refine a_go ?_ | (with_reducible apply Fin.thenK; assumption) | (with_reducible (first | apply C.seqK | apply C.regionK); intro _ _) | (apply R.buildSlice0; exact rfl; intro bz) | (apply R.box; exact rfl; (simp only [Value.cells]; rfl); exact rfl; intro bx) | (apply R.alloc; (simp only [Value.cells]; rfl); exact rfl; intro ba) | (apply R.buildSlice; (exact a_prt); exact rfl; exact rfl; (exact a_fills); exact rfl; intro bl) | (refine a_sp ?_ ?_; (intro h; skip; rotate_left; intro h; skip; rotate_left)) | fail))
  (apply R.appendT; exact rfl; exact rfl; exact hotc; (exact a_tk); exact p7.rd; exact len7; exact one7; omega; exact rfl; decide; decide; exact rfl; rintro wv hrw hotw)
  have how : OwnP M10 wv (fs.take a ++ rs) hrw := OwnT.joined hotw hpvc q7
  (apply R.ice (hp := hrw) (Arr.all _); intro M11 hM11 hin11)
  have hEw := (how.mono hM11).enL hin11
  obtain ⟨Aw, cw, rfl, _, _⟩ := hotw.form
  replace hg9 := (hg9.mono hM10).mono hM11
  replace ho9 := (ho9.mono hM10).mono hM11
  (repeat' (first | refine a_go ?_ | (with_reducible apply Fin.thenK; assumption) | (with_reducible (first | apply C.seqK | apply C.regionK); intro _ _) | (apply R.buildSlice0; exact rfl; intro bz) | (apply R.box; exact rfl; (simp only [Value.cells]; rfl); exact rfl; intro bx) | (apply R.alloc; (simp only [Value.cells]; rfl); exact rfl; intro ba) | (apply R.buildSlice; (exact a_prt); exact rfl; exact rfl; (exact a_fills); exact rfl; intro bl) | (refine a_sp ?_ ?_; (intro h; skip; rotate_left; intro h; skip; rotate_left)) | fail))
  apply R.arr (H2 := hp9 ++ (hL9 ++ H)) (by (exact a_arrs))
  (apply R.call; (exact a_evs); exact rfl; exact sopen_L (lim := lim) hlim2 hl9 ho9; rintro _ M12 _ ⟨hM12, lb2, hL12, hp12, rfl, ho12, hg12, rfl⟩)
  (repeat' (first | (apply R.step; (apply Ok.move; exact rfl); exact rfl) | (apply R.step; (apply Ok.nePN; exact rfl; exact rfl); exact rfl) | refine a_go ?_ | (with_reducible apply Fin.thenK; assumption) | (with_reducible (first | apply C.seqK | apply C.regionK); intro _ _) | (apply R.buildSlice0; exact rfl; intro bz) | (apply R.box; exact rfl; (simp only [Value.cells]; rfl); exact rfl; intro bx) | (apply R.alloc; (simp only [Value.cells]; rfl); exact rfl; intro ba) | (apply R.buildSlice; (exact a_prt); exact rfl; exact rfl; (exact a_fills); exact rfl; intro bl) | (refine a_sp ?_ ?_; (intro h; skip; rotate_left; intro h; skip; rotate_left)) | fail))
  apply R.arr (H2 := hL9 ++ (hL12 ++ (hp12 ++ H))) (by (exact a_arrs))
  (apply R.call; (exact a_evs); exact rfl; exact slist_L hl9 (hg9.mono hM12); rintro gv M13 _ ⟨hEg, hM13, rfl⟩)
  have hEw13 := (hEw.mono hM12).mono hM13
  (repeat' (first | refine a_go ?_ | (with_reducible apply Fin.thenK; assumption) | (with_reducible (first | apply C.seqK | apply C.regionK); intro _ _) | (apply R.buildSlice0; exact rfl; intro bz) | (apply R.box; exact rfl; (simp only [Value.cells]; rfl); exact rfl; intro bx) | (apply R.alloc; (simp only [Value.cells]; rfl); exact rfl; intro ba) | (apply R.buildSlice; (exact a_prt); exact rfl; exact rfl; (exact a_fills); exact rfl; intro bl) | (refine a_sp ?_ ?_; (intro h; skip; rotate_left; intro h; skip; rotate_left)) | fail))
  (apply R.call; (exact a_evs); exact rfl; exact sents_K hEg hEw13; rintro _ M14 _ ⟨rfl, rfl, rfl⟩)
  rw [decide_eq_true rfl]
  (repeat' (first | refine a_go ?_ | (with_reducible apply Fin.thenK; assumption) | (with_reducible (first | apply C.seqK | apply C.regionK); intro _ _) | (apply R.buildSlice0; exact rfl; intro bz) | (apply R.box; exact rfl; (simp only [Value.cells]; rfl); exact rfl; intro bx) | (apply R.alloc; (simp only [Value.cells]; rfl); exact rfl; intro ba) | (apply R.buildSlice; (exact a_prt); exact rfl; exact rfl; (exact a_fills); exact rfl; intro bl) | (refine a_sp ?_ ?_; (intro h; skip; rotate_left; intro h; skip; rotate_left)) | fail))
  apply R.arr (H2 := hL12 ++ (hL9 ++ (hp12 ++ H))) (by (exact a_arrs))
  (apply R.call; (exact a_evs); exact rfl; exact slist_L hl9 (hg12.mono hM13); rintro gv2 M15 _ ⟨hEg2, hM15, rfl⟩)
  have hEw15 := hEw13.mono hM15
  (repeat' (first | refine a_go ?_ | (with_reducible apply Fin.thenK; assumption) | (with_reducible (first | apply C.seqK | apply C.regionK); intro _ _) | (apply R.buildSlice0; exact rfl; intro bz) | (apply R.box; exact rfl; (simp only [Value.cells]; rfl); exact rfl; intro bx) | (apply R.alloc; (simp only [Value.cells]; rfl); exact rfl; intro ba) | (apply R.buildSlice; (exact a_prt); exact rfl; exact rfl; (exact a_fills); exact rfl; intro bl) | (refine a_sp ?_ ?_; (intro h; skip; rotate_left; intro h; skip; rotate_left)) | fail))
  (apply R.call; (exact a_evs); exact rfl; exact sents_K hEg2 hEw15; rintro _ M16 _ ⟨rfl, rfl, rfl⟩)
  rw [decide_eq_true rfl]
  (repeat' (first | refine a_go ?_ | (with_reducible apply Fin.thenK; assumption) | (with_reducible (first | apply C.seqK | apply C.regionK); intro _ _) | (apply R.buildSlice0; exact rfl; intro bz) | (apply R.box; exact rfl; (simp only [Value.cells]; rfl); exact rfl; intro bx) | (apply R.alloc; (simp only [Value.cells]; rfl); exact rfl; intro ba) | (apply R.buildSlice; (exact a_prt); exact rfl; exact rfl; (exact a_fills); exact rfl; intro bl) | (refine a_sp ?_ ?_; (intro h; skip; rotate_left; intro h; skip; rotate_left)) | fail))
  (apply Fin.returnA (H2 := H); assumption; (first | exact .inl rfl | exact .inr rfl); exact rfl; (exact a_res); (simp only [retv]; rfl); (exact a_arr))
  exact ⟨rfl, hMb.trans_ (hM7.trans_ (hM8.trans_ (hM9.trans_ (hM10.trans_ (hM11.trans_ (hM12.trans_ (hM13.trans_ hM15)))))))⟩
end Go.Sx
end
