import Derived.Test.YtpjmlcnboedpeaaGreatZSegPlays5
set_option linter.unusedVariables false
set_option linter.unusedSimpArgs false
section
namespace Go.Sx
open Go Go.Proofs Go.RowKit
attribute [local irreducible] C R Fin K Own OwnT Rd Pl Ok KOf RetOk OpsOf RP KP Res NoPanic KV KE MapS ItS EntS FsO FsR RowD PlD DkO PlFs RT KT OneT RS KS OneS RdO
variable {M M' : Mem} {H H1 H2 : Hp}
structure RoX where
 fr : Bool
 nn : Int
 hL : Hp
 qs : List PtV
 p : PtV
 b : Nat
 o : Nat
 cap : Nat
 c : List Value
theorem RgO.rec_ {lb rb : Nat} {lim : Int} {ss : List Sg} {hL : Hp} (hg : RgO M lb rb lim ss hL) : ∃ A c hR, hL = (lb, .cells [.pointer (some ⟨rb, 0, none⟩), .int .i64 lim, .slice A ss.length c].toArray 91 (0, 0)) :: hR ∧ ss.length ≤ c ∧ c ≤ 9223372036854775807 := by
 obtain ⟨ps, pv, hrow, hss, hrw, hpt, rfl⟩ := hg
 obtain ⟨A, c, rfl, h1, h2⟩ := hrw.form
 have hpl : ps.length = ss.length := by rw [← hss, List.length_map]
 rw [hpl]
 exact ⟨A, c, _, rfl, by omega, by unfold maxLen at h2; omega⟩
set_option maxHeartbeats 8000000 in
theorem rappendG_K {lb rb : Nat} {lim : Int} {d : Dk} {ss : List Sg} {v : Value} {es : List En} {hL hp : Hp} (hl : 64 ≤ lim ∧ lim ≤ 16384) (hg : RgO M lb rb lim ss hL) (hok : sgsOk ss) (he : EnL M v es) (ho : RdO M rb d hp) (hes : es.length ≤ 100000) (hlen : szD d + es.length ≤ 900000) (hsl : ss.length + es.length ≤ 900000) (hsm : smG es.length ss) : K Tryz.prog 57 [.pointer (some ⟨lb, 0, none⟩), v] M (hL ++ (hp ++ H)) fun v' M' H' => v' = .int .i64 (appG d lim ss es).1 ∧ M.le M' ∧ ∃ hp', RdO M' rb (appG d lim ss es).2.1 hp' ∧ ((∃ hL', RgO M' lb rb lim (appG d lim ss es).2.2 hL' ∧ H' = hL' ++ (hp' ++ H)) ∨ ((appG d lim ss es).1 ≠ 0 ∧ folE (lastO ss) es ∧ H' = hp' ++ H)) := by
 refine K.enterK Tryz.func57 rfl rfl rfl ?_
 intro Q hNP hQ
 (repeat' (first | (refine a_bl ?_; intro bl) | (refine a_go ?_; intros) | refine a_sp (fun h => ?_) fun h => ?_ | fail))
 (apply R.call; (exact a_evs); exact rfl; exact rfollows_K (H := hp ++ H) hg hok he; rintro _ M _ ⟨rfl, rfl, rfl⟩)
 by_cases hfol : folE (lastO ss) es
 rotate_left
 ·rw [decide_eq_false hfol]
  have hA : appG d lim ss es = (1, d, ss) := if_neg hfol
  rw [hA] at hQ
  (repeat' (first | (refine a_bl ?_; intro bl) | (refine a_go ?_; intros) | refine a_sp (fun h => ?_) fun h => ?_ | fail))
  (refine Fin.rA (hL ++ (hp ++ H)) ?_)
  exact ⟨rfl, Mem.le_refl _, hp, ho, .inl ⟨hL, hg, rfl⟩⟩
 rw [decide_eq_true hfol]
 have hA : appG d lim ss es = appL d lim ss es := if_pos hfol
 rw [hA] at hQ
 clear hA
 have hE := folE_drop hfol
 obtain ⟨A, cap, vs, rfl, k1, k2, k3, k4⟩ := id he
 (repeat' (first | (refine a_bl ?_; intro bl) | (refine a_go ?_; intros) | refine a_sp (fun h => ?_) fun h => ?_ | fail))
 apply C.loop (fun y : ApX => (y.k : Int) = y.kk ∧ y.k ≤ es.length ∧ M.le y.M ∧ RgO y.M lb rb lim y.ss y.hL ∧ smG (es.length - y.k) y.ss ∧ RdO y.M rb y.d y.hp ∧ szD y.d ≤ szD d + y.k ∧ y.ss.length ≤ ss.length + y.k ∧ appL d lim ss es = appL y.d lim y.ss (es.drop y.k))
  (fun y => [(0, .pointer (some ⟨lb, 0, none⟩)), (1, .slice A es.length cap), (5, .int .i64 y.kk)]) (fun y => y.M) (fun y => y.hL ++ (y.hp ++ H)) (fun y => es.length - y.k) ⟨0, 0, d, ss, hL, hp, M⟩
 ·exact ⟨rfl, Nat.zero_le _, Mem.le_refl _, hg, hsm, ho, Nat.le_refl _, Nat.le_refl _, rfl⟩
 ·(exact a_subs)
 ·exact rfl
 ·exact rfl
 rintro ⟨k, kk, d1, s1, hL1, hp1, M1⟩ ⟨hkk, hk, hM1, hg1, hsm1, ho1, hd1, hs1, hap⟩
 dsimp only at hkk hk hM1 hg1 hsm1 ho1 hd1 hs1 hap ⊢
 by_cases hke : k < es.length
 rotate_left
 ·have hke' : k = es.length := by omega
  rw [hke', List.drop_eq_nil_of_le (Nat.le_refl _)] at hap
  have hap' : appL d lim ss es = (0, d1, s1) := hap
  rw [hap'] at hQ
  (repeat' (first | refine a_mv ?_ | (apply R.step; (exact a_cmp); exact rfl) | (refine a_bl ?_; intro bl) | (refine a_go ?_; intros) | refine a_sp (fun h => ?_) fun h => ?_ | fail))
  (refine Fin.rA (hL1 ++ (hp1 ++ H)) ?_)
  exact ⟨rfl, hM1, hp1, ho1, .inl ⟨hL1, hg1, rfl⟩⟩
 obtain ⟨b2, o2, c2, e2', fr2, Ai, ci, hA2, hMb2, hcell2, _, hi1, hi2, hpi⟩ := en_at k3 k4 hke
 rw [show o2 + k * 5 = o2 + kk.toNat * 5 by omega] at hcell2
 have hdr : es.drop k = es[k] :: es.drop (k + 1) := List.drop_eq_getElem_cons hke
 have hEx := hE _ (List.getElem_mem hke)
 have hcut1 : (es.drop k).take 1 = [es[k]] := by rw [hdr]; rfl
 generalize es[k] = x at hcell2 hpi hdr hi1 hEx hcut1
 have hEn1 := he.dropK (k := k) (by omega)
 have hEn2 := hEn1.takeK2 (k := 1) (by rw [List.length_drop]; omega)
 rw [hcut1] at hEn2
 rw [hdr] at hap
 have hxk := (entS_kind hEx).2.2.2.2.2
 have hz := layF_len hEx
 have hMb2' := hM1.2.2 _ _ hMb2
 rw [hA2] at hEn2 ⊢
 (repeat' (first | refine a_mv ?_ | (apply R.step; (exact a_cmp); exact rfl) | (apply R.step; (first | (apply Ok.indexAddr; exact rfl; exact rfl; omega; omega) | (apply Ok.loadAggP (vs := ecells x (.slice Ai x.data.length ci)); exact rfl; exact rfl; exact hMb2'; exact rfl; exact hcell2)); exact rfl) | (refine a_bl ?_; intro bl) | (refine a_go ?_; intros) | refine a_sp (fun h => ?_) fun h => ?_ | fail))
 (apply R.call; (exact a_evs); exact rfl; exact r5layEntry_K (e := x) (hpi.mono hM1); rintro _ M2 _ ⟨hM2, rfl, hL2⟩)
 rcases hL2 with ⟨_, w, rfl, hw⟩ | ⟨hno, _⟩
 rotate_left
 ·exact absurd hEx hno
 obtain ⟨Aw, cw, rfl, w1, w2, w3⟩ := id hw
 (repeat' (first | (refine a_bl ?_; intro bl) | (refine a_go ?_; intros) | refine a_sp (fun h => ?_) fun h => ?_ | fail))
 (apply R.call; (exact a_evs); exact rfl; exact rframe_KF w3 rfl (by omega); rintro _ M3 _ ⟨hfw, hM3, rfl⟩)
 obtain ⟨Af, cf, rfl, f1, f2, f3⟩ := id hfw
 obtain ⟨A1, c1, hR, hLe, hc11, hc12⟩ := hg1.rec_
 subst hLe
 (repeat' (first | (refine a_bl ?_; intro bl) | (refine a_g0 ?_; intros) | refine a_s3 (fun h => ?_) fun h => ?_ | fail))
 have hM13 := hM2.trans_ hM3
 have hMb5 := hM13.2.2 _ _ hMb2'
 have hidx : c2[o2 + kk.toNat * 5 + 2]? = some (.int .u64 x.idx) := hcell2 2 _ rfl
 have hxi : ((x.idx.toNat : Nat) : Int) = x.idx := Int.toNat_of_nonneg (by omega)
 apply C.seqCut (X := RoX) (fun y => freshG lim s1 (frameS (layE x)).length = y.fr ∧ EndR M3 lb rb lim (headG y.fr s1 ++ [tailG y.fr s1 x]) y.hL y.qs y.p y.b y.o y.cap y.c ∧ y.nn = (y.qs.length : Int) + 1)
  (fun y => [(0, .pointer (some ⟨lb, 0, none⟩)), (1, .slice (some ⟨b2, o2, none⟩) es.length cap), (5, .int .i64 kk), (8, .slice Af (frameS (layE x)).length cf), (9, .int .i64 y.nn)]) (fun _ => M3) (fun y => y.hL ++ (hp1 ++ H))
 ·by_cases h0 : s1.length = 0
  ·have hnl : s1 = [] := List.eq_nil_of_length_eq_zero h0
   have hfr : freshG lim s1 (frameS (layE x)).length = true := by rw [hnl]; rfl
   (apply C.seqK; intro _ _)
   (apply C.regionT (t := .free 0 (.free 1 (.free 2 (.free 3 (.free 4 (.free 5 (.free 6 (.free 7 (.free 8 (.free 9 (.free 10 (.free 11 (.free 12 (.free 13 (.free 14 (.free 15 (.free 16 (.free 17 (.free 18 (.free 19 (.free 20 .nil))))))))))))))))))))) (Hs := []); exact Mix.h; (first | exact Arr.all _ | (exact a_arr) | (exact a_arrs)); (exact a_np); kernel_rfl)
   (repeat' (first | (apply RT.step; exact rfl; intro _ _ _; (apply Ok.move; exact rfl); exact rfl) | (apply RT.step; exact rfl; intro _ _ _; (apply Ok.eqIR; exact rfl; exact rfl; omega); exact rfl) | refine a_ot ?_ | fail))
   apply RT.nil
   obtain ⟨ps, pv, hrow, hss, hrw, hpt, hheq⟩ := hg1
   obtain ⟨hu, hReq2⟩ := cells3_inj hheq
   have hpl : ps.length = s1.length := by rw [← hss, List.length_map]
   subst hu
   rw [hpl] at hrw
   apply Fin.arr (H2 := (lb, .cells [.pointer (some ⟨rb, 0, none⟩), .int .i64 lim, .slice A1 s1.length c1].toArray 91 (0, 0)) :: (hrow ++ (ptH ps ++ (hp1 ++ H)))) (by rw [hReq2]; (exact a_art))
   (repeat' (first | (refine a_bl ?_; intro bl) | (refine a_go ?_; intros) | refine a_sp (fun h => ?_) fun h => ?_ | fail))
   (apply C.regionS (A := [0, 1, 2, 3, 4, 5, 6, 7, 8, 9, 10, 11, 12]) (t := .free 0 (.free 1 (.free 2 (.free 3 (.free 4 (.free 5 (.free 6 (.free 7 (.free 8 (.free 9 (.free 10 (.one 11 (.one 12 .nil))))))))))))) (u := .free 13 (.free 14 (.one 15 .nil))) (Hs := [(lb, .cells [.pointer (some ⟨rb, 0, none⟩), .int .i64 lim, .slice A1 s1.length c1].toArray 91 (0, 0))]); exact Mix.h; (first | exact Arr.all _ | (exact a_arr) | (exact a_arrs)); (exact a_np); kernel_rfl)
   (repeat' (first | (apply RS.step; exact rfl; intro _ _ _; (apply Ok.move; exact rfl); exact rfl) | (apply RS.step; exact rfl; intro _ _ hMx; (first | (apply Ok.indexAddr; exact rfl; exact rfl; omega; omega) | (apply Ok.loadP; exact rfl; exact rfl; exact hMx.2.2 _ _ hMb5; exact hidx)); exact rfl) | refine a_os ?_ | fail))
   (apply RS.one; apply OneS.eff; exact rfl; intro Kc hKc ops0)
   (apply R.buildSlice; (exact a_prt); exact rfl; exact rfl; (exact a_fills); exact rfl; intro bq)
   (apply R.nil; apply Fin.ks (Hx := (bq, .cells [.int .u64 x.idx, .slice none 0 0, .slice none 0 0, .int .i64 0].toArray 93 (0, 0)) :: (hrow ++ (ptH ps ++ (hp1 ++ H)))) hKc; exact Mem.le_refl _; (exact a_art))
   (apply RS.one; apply OneS.eff; exact rfl; intro Kc hKc ops0)
   (apply R.arr (H2 := hrow ++ ((bq, .cells [.int .u64 x.idx, .slice none 0 0, .slice none 0 0, .int .i64 0].toArray 93 (0, 0)) :: (lb, .cells [.pointer (some ⟨rb, 0, none⟩), .int .i64 lim, .slice A1 s1.length c1].toArray 91 (0, 0)) :: (ptH ps ++ (hp1 ++ H)))) (by (exact a_art)))
   (apply R.appendT (news := [.int .u64 x.idx, .slice none 0 0, .slice none 0 0, .int .i64 0]) (k := 1); exact rfl; exact rfl; exact hrw; (exact a_tk); exact Rd.at_ (l := [.int .u64 x.idx, .slice none 0 0, .slice none 0 0, .int .i64 0]) (by (exact a_at)) (fun j u h => by rw [Nat.zero_add]; exact h); exact rfl; (intro u hu; simp only [List.mem_cons, List.not_mem_nil, or_false] at hu; rcases hu with rfl | rfl | rfl | rfl <;> rfl); omega; exact rfl; decide; decide; exact rfl; rintro pv2 hrow2 hrw2)
   obtain ⟨Ap2, cp2, rfl, qc1, qc2⟩ := hrw2.form
   have hg2 : RgO M3 lb rb lim (headG true s1 ++ [tailG true s1 x]) ((lb, rgB rb lim (.slice Ap2 (s1.length + 1) cp2)) :: (hrow2 ++ ptH (ps ++ [⟨⟨x.idx.toNat, []⟩, .slice none 0 0, .slice none 0 0, [], []⟩]))) := by
    refine ⟨ps ++ [⟨⟨x.idx.toNat, []⟩, .slice none 0 0, .slice none 0 0, [], []⟩], _, hrow2, by rw [List.map_append, hss]; rfl, ?_, ?_, rfl⟩
    ·rw [List.length_append, hpl, List.map_append, List.flatten_append]
     rw [← hxi] at hrw2
     exact hrw2
    ·intro q hq
     rcases List.mem_append.1 hq with hq | hq
     ·exact (hpt q hq).mono hM13
     ·rw [List.mem_singleton] at hq
      subst hq
      exact ⟨OwnP.nil, OwnT.nil _ _⟩
   (apply R.nil; apply Fin.ks (Hx := hrow2 ++ (ptH ps ++ (hp1 ++ H))) hKc; exact Mem.le_refl _; (exact a_art))
   refine RS.later (Hs2 := []) (Hx2 := (lb, .cells [.pointer (some ⟨rb, 0, none⟩), .int .i64 lim, .slice A1 s1.length c1].toArray 91 (0, 0)) :: (hrow2 ++ (ptH ps ++ (hp1 ++ H)))) (by (exact a_art)) ?_
   (repeat' (first | refine a_ot ?_ | fail))
   (apply RT.one; apply OneT.eff; exact rfl; intro Kc hKc ops0)
   (repeat' (first | (refine a_bl ?_; intro bl) | (refine a_go ?_; intros) | refine a_sp (fun h => ?_) fun h => ?_ | fail))
   ((first | apply R.nil | skip); apply Fin.kt hKc; exact Mem.le_refl _; (exact a_arrs))
   apply RT.nil
   (repeat' (first | (refine a_bl ?_; intro bl) | (refine a_go ?_; intros) | refine a_sp (fun h => ?_) fun h => ?_ | fail))
   obtain ⟨qs9, p9, b9, o9, cp9, c9, hX9⟩ := hg2.endR (by rw [List.length_append]; exact Nat.zero_lt_succ _)
   have hXl := hX9.len
   rw [List.length_append, List.length_singleton] at hXl
   obtain ⟨hL2, hHL⟩ : ∃ q : Hp, q = (lb, rgB rb lim (.slice Ap2 (s1.length + 1) cp2)) :: (hrow2 ++ ptH (ps ++ [⟨⟨x.idx.toNat, []⟩, .slice none 0 0, .slice none 0 0, [], []⟩])) := ⟨_, rfl⟩
   rw [← hHL] at hX9
   apply Fin.arr (H2 := hL2 ++ (hp1 ++ H)) (by rw [hHL, ptH_snoc]; unfold rgB; dsimp only; (exact a_art))
   refine Fin.join (⟨true, (s1.length : Int) + 1, hL2, qs9, p9, b9, o9, cp9, c9⟩ : RoX) ⟨hfr, hX9, by dsimp only; (have : (headG true s1).length = s1.length := rfl); omega⟩ ?_ rfl rfl
   (exact a_subs)
  ·obtain ⟨qs, p, b, o, cp, c, hX⟩ := hg1.endR (by omega)
   obtain ⟨hu, hReq⟩ := cells3_inj hX.heap
   injection hu with e1 e2 e3
   subst e1 e3
   have hgl : s1.getLast? = some p.s := by rw [hX.segs, List.getLast?_append]; rfl
   have hpm : p.s ∈ s1 := List.mem_of_getLast? hgl
   have hsz := (hsm1 _ hpm).2
   have hfr : freshG lim s1 (frameS (layE x)).length = decide (lim < ((p.s.size + (frameS (layE x)).length : Nat) : Int)) := by unfold freshG; rw [hgl]
   have hcell := hX.cell
   have hroom := hX.room
   have hcp1 := hX.cap1
   have hcp2 := hX.cap2
   have hll : (s1.length : Int) - 1 = ((s1.length - 1 : Nat) : Int) := by omega
   have hcell3 : c[o + ((s1.length - 1 : Nat) : Int).toNat * 4 + 3]? = some (.int .i64 (p.s.size : Int)) := hcell 3 _ rfl
   (apply C.seqK; intro _ _)
   apply C.arr (H2 := (lb, .cells [.pointer (some ⟨rb, 0, none⟩), .int .i64 lim, .slice (some ⟨b, o, none⟩) s1.length c1].toArray 91 (0, 0)) :: (b, .cells c.toArray 93 (0, 0)) :: (ptH qs ++ (p.lh ++ (p.eh ++ (hp1 ++ H))))) (by rw [hReq]; (exact a_art))
   (apply C.regionT (t := .free 0 (.free 1 (.free 2 (.free 3 (.free 4 (.free 5 (.free 6 (.free 7 (.free 8 (.free 9 (.free 10 (.free 11 (.free 12 (.free 13 (.free 14 (.free 15 (.free 16 (.free 17 (.free 18 (.free 19 (.free 20 .nil))))))))))))))))))))) (Hs := [(lb, .cells [.pointer (some ⟨rb, 0, none⟩), .int .i64 lim, .slice (some ⟨b, o, none⟩) s1.length c1].toArray 91 (0, 0)), (b, .cells c.toArray 93 (0, 0))]); exact Mix.h; (first | exact Arr.all _ | (exact a_arr) | (exact a_arrs)); (exact a_np); kernel_rfl)
   by_cases hcm : lim < ((p.s.size + (frameS (layE x)).length : Nat) : Int)
   ·(repeat' (first | (apply RT.step; exact rfl; intro _ _ _; (apply Ok.move; exact rfl); exact rfl) | (apply RT.step; exact rfl; intro _ _ _; (apply Ok.eqIF; exact rfl; exact rfl; omega); exact rfl) | (apply RT.stepT; exact rfl; exact rfl; exact rfl; exact rfl; intro _ _ _; (first | (apply Ok.subQ ((s1.length - 1 : Nat) : Int); exact rfl; exact rfl; exact hll; apply w64; omega; omega) | (apply Ok.indexAddr; exact rfl; exact rfl; omega; omega) | (apply Ok.load; exact rfl; exact rfl; (exact a_at); exact hcell3) | (apply Ok.addQ ((p.s.size + (frameS (layE x)).length : Nat) : Int); exact rfl; exact rfl; exact (Int.natCast_add _ _).symm; apply w64; omega; omega) | (apply Ok.gtTr; exact rfl; exact rfl; omega)); exact rfl) | refine a_ot ?_ | fail))
    apply RT.nil
    rw [decide_eq_true hcm] at hfr
    apply Fin.arr (H2 := (lb, .cells [.pointer (some ⟨rb, 0, none⟩), .int .i64 lim, .slice (some ⟨b, o, none⟩) s1.length c1].toArray 91 (0, 0)) :: (hR ++ (hp1 ++ H))) (by rw [hReq]; (exact a_art))
    obtain ⟨ps, pv, hrow, hss, hrw, hpt, hheq⟩ := hg1
    obtain ⟨hu, hReq2⟩ := cells3_inj hheq
    have hpl : ps.length = s1.length := by rw [← hss, List.length_map]
    subst hu
    rw [hpl] at hrw
    apply Fin.arr (H2 := (lb, .cells [.pointer (some ⟨rb, 0, none⟩), .int .i64 lim, .slice (some ⟨b, o, none⟩) s1.length c1].toArray 91 (0, 0)) :: (hrow ++ (ptH ps ++ (hp1 ++ H)))) (by rw [hReq2]; (exact a_art))
    (repeat' (first | (refine a_bl ?_; intro bl) | (refine a_go ?_; intros) | refine a_sp (fun h => ?_) fun h => ?_ | fail))
    (apply C.regionS (A := [0, 1, 2, 3, 4, 5, 6, 7, 8, 9, 10, 11, 12]) (t := .free 0 (.free 1 (.free 2 (.free 3 (.free 4 (.free 5 (.free 6 (.free 7 (.free 8 (.free 9 (.free 10 (.one 11 (.one 12 .nil))))))))))))) (u := .free 13 (.free 14 (.one 15 .nil))) (Hs := [(lb, .cells [.pointer (some ⟨rb, 0, none⟩), .int .i64 lim, .slice (some ⟨b, o, none⟩) s1.length c1].toArray 91 (0, 0))]); exact Mix.h; (first | exact Arr.all _ | (exact a_arr) | (exact a_arrs)); (exact a_np); kernel_rfl)
    (repeat' (first | (apply RS.step; exact rfl; intro _ _ _; (apply Ok.move; exact rfl); exact rfl) | (apply RS.step; exact rfl; intro _ _ hMx; (first | (apply Ok.indexAddr; exact rfl; exact rfl; omega; omega) | (apply Ok.loadP; exact rfl; exact rfl; exact hMx.2.2 _ _ hMb5; exact hidx)); exact rfl) | refine a_os ?_ | fail))
    (apply RS.one; apply OneS.eff; exact rfl; intro Kc hKc ops0)
    (apply R.buildSlice; (exact a_prt); exact rfl; exact rfl; (exact a_fills); exact rfl; intro bq)
    (apply R.nil; apply Fin.ks (Hx := (bq, .cells [.int .u64 x.idx, .slice none 0 0, .slice none 0 0, .int .i64 0].toArray 93 (0, 0)) :: (hrow ++ (ptH ps ++ (hp1 ++ H)))) hKc; exact Mem.le_refl _; (exact a_art))
    (apply RS.one; apply OneS.eff; exact rfl; intro Kc hKc ops0)
    (apply R.arr (H2 := hrow ++ ((bq, .cells [.int .u64 x.idx, .slice none 0 0, .slice none 0 0, .int .i64 0].toArray 93 (0, 0)) :: (lb, .cells [.pointer (some ⟨rb, 0, none⟩), .int .i64 lim, .slice (some ⟨b, o, none⟩) s1.length c1].toArray 91 (0, 0)) :: (ptH ps ++ (hp1 ++ H)))) (by (exact a_art)))
    (apply R.appendT (news := [.int .u64 x.idx, .slice none 0 0, .slice none 0 0, .int .i64 0]) (k := 1); exact rfl; exact rfl; exact hrw; (exact a_tk); exact Rd.at_ (l := [.int .u64 x.idx, .slice none 0 0, .slice none 0 0, .int .i64 0]) (by (exact a_at)) (fun j u h => by rw [Nat.zero_add]; exact h); exact rfl; (intro u hu; simp only [List.mem_cons, List.not_mem_nil, or_false] at hu; rcases hu with rfl | rfl | rfl | rfl <;> rfl); omega; exact rfl; decide; decide; exact rfl; rintro pv2 hrow2 hrw2)
    obtain ⟨Ap2, cp2, rfl, qc1, qc2⟩ := hrw2.form
    have hg2 : RgO M3 lb rb lim (headG true s1 ++ [tailG true s1 x]) ((lb, rgB rb lim (.slice Ap2 (s1.length + 1) cp2)) :: (hrow2 ++ ptH (ps ++ [⟨⟨x.idx.toNat, []⟩, .slice none 0 0, .slice none 0 0, [], []⟩]))) := by
     refine ⟨ps ++ [⟨⟨x.idx.toNat, []⟩, .slice none 0 0, .slice none 0 0, [], []⟩], _, hrow2, by rw [List.map_append, hss]; rfl, ?_, ?_, rfl⟩
     ·rw [List.length_append, hpl, List.map_append, List.flatten_append]
      rw [← hxi] at hrw2
      exact hrw2
     ·intro q hq
      rcases List.mem_append.1 hq with hq | hq
      ·exact (hpt q hq).mono hM13
      ·rw [List.mem_singleton] at hq
       subst hq
       exact ⟨OwnP.nil, OwnT.nil _ _⟩
    (apply R.nil; apply Fin.ks (Hx := hrow2 ++ (ptH ps ++ (hp1 ++ H))) hKc; exact Mem.le_refl _; (exact a_art))
    refine RS.later (Hs2 := []) (Hx2 := (lb, .cells [.pointer (some ⟨rb, 0, none⟩), .int .i64 lim, .slice (some ⟨b, o, none⟩) s1.length c1].toArray 91 (0, 0)) :: (hrow2 ++ (ptH ps ++ (hp1 ++ H)))) (by (exact a_art)) ?_
    (repeat' (first | refine a_ot ?_ | fail))
    (apply RT.one; apply OneT.eff; exact rfl; intro Kc hKc ops0)
    (repeat' (first | (refine a_bl ?_; intro bl) | (refine a_go ?_; intros) | refine a_sp (fun h => ?_) fun h => ?_ | fail))
    ((first | apply R.nil | skip); apply Fin.kt hKc; exact Mem.le_refl _; (exact a_arrs))
    apply RT.nil
    (repeat' (first | (refine a_bl ?_; intro bl) | (refine a_go ?_; intros) | refine a_sp (fun h => ?_) fun h => ?_ | fail))
    obtain ⟨qs9, p9, b9, o9, cp9, c9, hX9⟩ := hg2.endR (by rw [List.length_append]; exact Nat.zero_lt_succ _)
    have hXl := hX9.len
    rw [List.length_append, List.length_singleton] at hXl
    obtain ⟨hL2, hHL⟩ : ∃ q : Hp, q = (lb, rgB rb lim (.slice Ap2 (s1.length + 1) cp2)) :: (hrow2 ++ ptH (ps ++ [⟨⟨x.idx.toNat, []⟩, .slice none 0 0, .slice none 0 0, [], []⟩])) := ⟨_, rfl⟩
    rw [← hHL] at hX9
    apply Fin.arr (H2 := hL2 ++ (hp1 ++ H)) (by rw [hHL, ptH_snoc]; unfold rgB; dsimp only; (exact a_art))
    refine Fin.join (⟨true, (s1.length : Int) + 1, hL2, qs9, p9, b9, o9, cp9, c9⟩ : RoX) ⟨hfr, hX9, by dsimp only; (have : (headG true s1).length = s1.length := rfl); omega⟩ ?_ rfl rfl
    (exact a_subs)
   ·(repeat' (first | (apply RT.step; exact rfl; intro _ _ _; (apply Ok.move; exact rfl); exact rfl) | (apply RT.step; exact rfl; intro _ _ _; (apply Ok.eqIF; exact rfl; exact rfl; omega); exact rfl) | (apply RT.stepT; exact rfl; exact rfl; exact rfl; exact rfl; intro _ _ _; (first | (apply Ok.subQ ((s1.length - 1 : Nat) : Int); exact rfl; exact rfl; exact hll; apply w64; omega; omega) | (apply Ok.indexAddr; exact rfl; exact rfl; omega; omega) | (apply Ok.load; exact rfl; exact rfl; (exact a_at); exact hcell3) | (apply Ok.addQ ((p.s.size + (frameS (layE x)).length : Nat) : Int); exact rfl; exact rfl; exact (Int.natCast_add _ _).symm; apply w64; omega; omega) | (apply Ok.gtF; exact rfl; exact rfl; omega)); exact rfl) | refine a_ot ?_ | fail))
    apply RT.nil
    rw [decide_eq_false hcm] at hfr
    have hX4 := hX.mono hM13
    have hX3 : EndR M3 lb rb lim (headG false s1 ++ [tailG false s1 x]) ((lb, .cells [.pointer (some ⟨rb, 0, none⟩), .int .i64 lim, .slice (some ⟨b, o, none⟩) s1.length c1].toArray 91 (0, 0)) :: hR) qs p b o c1 c := by rw [← headG_tailG (ss := s1) (e := x) (List.ne_nil_of_length_pos (by omega))]; exact hX4
    apply Fin.arr (H2 := ((lb, .cells [.pointer (some ⟨rb, 0, none⟩), .int .i64 lim, .slice (some ⟨b, o, none⟩) s1.length c1].toArray 91 (0, 0)) :: hR) ++ (hp1 ++ H)) (by rw [hReq]; (exact a_art))
    (repeat' (first | (refine a_bl ?_; intro bl) | (refine a_go ?_; intros) | refine a_sp (fun h => ?_) fun h => ?_ | fail))
    have hXl := hX.len
    refine Fin.join (⟨false, (s1.length : Int), (lb, .cells [.pointer (some ⟨rb, 0, none⟩), .int .i64 lim, .slice (some ⟨b, o, none⟩) s1.length c1].toArray 91 (0, 0)) :: hR, qs, p, b, o, c1, c⟩ : RoX) ⟨hfr, hX3, by dsimp only; omega⟩ ?_ rfl rfl
    (exact a_subs)
 rintro ⟨fr, nn, hL2, qs, p, b, o, cp, c⟩ ⟨hfr, hX, hnn⟩
 dsimp only at hfr hX hnn ⊢
 have hap2 : appL d1 lim s1 (x :: es.drop (k + 1)) = if appE d1 (nameS (tailG fr s1 x).first) (frameS (layE x)) ≠ 0 then
   (appE d1 (nameS (tailG fr s1 x).first) (frameS (layE x)), opD (appE d1 (nameS (tailG fr s1 x).first) (frameS (layE x))) d1 (.app (nameS (tailG fr s1 x).first) (frameS (layE x))), s1)
  else appL (opD 0 d1 (.app (nameS (tailG fr s1 x).first) (frameS (layE x)))) lim (headG fr s1 ++ [addS (tailG fr s1 x) x]) (es.drop (k + 1)) := by rw [appL, hfr]
 rw [hap2] at hap
 clear hap2
 have hsm2 : smG (es.length - (k + 1)) (headG fr s1 ++ [addS (tailG fr s1 x) x]) := by
  rw [show es.length - k = es.length - (k + 1) + 1 by omega] at hsm1
  exact next_sm hsm1 hEx (by omega) hfr
 have hnl2 := next_len (ss := s1) (e := x) hfr
 have hts := tailG_sm hsm1 hEx (by omega) hfr
 have hqs : headG fr s1 = qs.map PtV.s := by
  have h1 := congrArg List.dropLast hX.segs
  rw [List.dropLast_concat, List.dropLast_concat] at h1
  exact h1
 have hps : tailG fr s1 x = p.s := by
  have h1 := congrArg List.getLast? hX.segs
  rw [List.getLast?_concat, List.getLast?_concat] at h1
  exact Option.some.inj h1
 have hXl := hX.len
 have hheap := hX.heap
 have hcell0 := hX.cell
 have hroom := hX.room
 have hcp1 := hX.cap1
 have hcp2 := hX.cap2
 have hrow := hX.row
 have hall := hX.all
 have hPO := hX.own
 rw [← hXl] at hheap hcell0 hcp1
 rw [hps, hqs] at hap
 rw [hps] at hts
 rw [hps, hqs] at hsm2 hnl2
 rw [Nat.add_sub_cancel] at hcell0
 clear hX
 subst hheap
 obtain ⟨⟨f_, it⟩, lv, ev, lh, eh⟩ := p
 obtain ⟨hoP, hoT⟩ := id hPO
 obtain ⟨Al, cl, hlv, kl1, kl2⟩ := hoP.form
 obtain ⟨Ae, ce, hev, ke1, ke2⟩ := hoT.form
 have hel : (⟨f_, it⟩ : Sg).es.length = it.length := Sg.es_len _
 have hszs : (⟨f_, it⟩ : Sg).size = (it.map Prod.snd).sum := rfl
 change lv = .slice Al (⟨f_, it⟩ : Sg).es.length cl at hlv
 change ev = .slice Ae it.length ce at hev
 rw [hel] at hlv
 subst hlv hev
 have hoP' : OwnP M3 (.slice Al it.length cl) (it.map Prod.fst) lh := hoP
 have hoT' : OwnT 3 1 (.slice Ae it.length ce) it.length (endC (begA 0 (it.map Prod.snd))) eh := hoT
 dsimp only at hts hap hsm2 hnl2 ⊢
 have hnl := nameS_len hts.1
 have hll : nn - 1 = ((qs.length : Nat) : Int) := by omega
 have hc0 : c[o + ((qs.length : Nat) : Int).toNat * 4 + 0]? = some (.int .u64 (f_ : Int)) := hcell0 0 _ rfl
 have ho3 := ho1.mono hM13
 have hnow3 := now_sz d1
 have hpsz3 := ps_sz d1
 unfold rgB
 (apply C.seqK; intro _ _)
 (apply C.seqK; intro _ _)
 (apply C.regionT (t := .free 0 (.free 1 (.free 2 (.free 3 (.free 4 (.free 5 (.free 6 (.free 7 (.free 8 (.free 9 (.free 10 (.free 11 (.free 12 (.free 13 (.free 14 (.one 15 (.free 16 .nil))))))))))))))))) (Hs := [(lb, .cells [.pointer (some ⟨rb, 0, none⟩), .int .i64 lim, .slice (some ⟨b, o, none⟩) (qs.length + 1) cp].toArray 91 (0, 0)), (b, .cells c.toArray 93 (0, 0))]); exact Mix.h; (first | exact Arr.all _ | (exact a_arr) | (exact a_arrs)); (exact a_np); kernel_rfl)
 (repeat' (first | (apply RT.step; exact rfl; intro _ _ _; (apply Ok.move; exact rfl); exact rfl) | (apply RT.callQ; exact rfl; exact inferInstance; (exact a_evs); exact rfl; (intro M' Hx' hM'; exact rName_K (n := f_) (by omega))) | (apply RT.step; exact rfl; intro _ _ _; (first | (apply Ok.subQ ((qs.length : Nat) : Int); exact rfl; exact rfl; exact hll; apply w64; omega; omega) | (apply Ok.indexAddr; exact rfl; exact rfl; omega; omega) | (apply Ok.load; exact rfl; exact rfl; (exact a_at); exact hc0)); exact rfl) | refine a_ot ?_ | fail))
 (apply RT.one; apply OneT.eff; exact rfl; intro Kc hKc ops0)
 apply R.arr (H2 := hp1 ++ ((lb, .cells [.pointer (some ⟨rb, 0, none⟩), .int .i64 lim, .slice (some ⟨b, o, none⟩) (qs.length + 1) cp].toArray 91 (0, 0)) :: (b, .cells c.toArray 93 (0, 0)) :: (ptH qs ++ (lh ++ (eh ++ H))))) (by (exact a_art))
 (apply R.call; (exact a_evs); exact rfl; exact rappend_K (n := nameS f_) ho3 hfw (by omega) (by omega) (by omega) (by omega); rintro _ M4 _ ⟨rfl, hM4, hp4, ho4, rfl⟩)
 (apply R.nil; apply Fin.kt (Hx := (ptH qs ++ (lh ++ (eh ++ (hp4 ++ H))))) hKc; exact hM4; (exact a_art))
 (repeat' (first | refine a_ot ?_ | fail))
 apply RT.nil
 by_cases hq : appE d1 (nameS f_) (frameS (layE x)) = 0
 rotate_left
 ·rw [if_pos hq] at hap
  rw [hap] at hQ
  (repeat' (first | refine a_mv ?_ | (apply R.step; (apply Ok.neIT; exact rfl; exact rfl; exact hq); exact rfl) | (refine a_bl ?_; intro bl) | (refine a_go ?_; intros) | refine a_sp (fun h => ?_) fun h => ?_ | fail))
  (refine Fin.rA (hp4 ++ H) ?_)
  exact ⟨rfl, hM1.trans_ (hM13.trans_ hM4), hp4, ho4, .inr ⟨hq, hfol, rfl⟩⟩
 rw [if_neg (fun h => h hq)] at hap
 rw [hq] at ho4
 (repeat' (first | refine a_mv ?_ | (apply R.step; (first | (apply Ok.neIR; exact rfl; exact rfl; exact hq) | (apply Ok.subQ ((qs.length : Nat) : Int); exact rfl; exact rfl; exact hll; apply w64; omega; omega) | (apply Ok.indexAddr; exact rfl; exact rfl; omega; omega)); exact rfl) | (refine a_bl ?_; intro bl) | (refine a_go ?_; intros) | refine a_sp (fun h => ?_) fun h => ?_ | fail))
 have hM34 := hM13.trans_ hM4
 have hEn3 : EnL M4 (.slice (adv (some ⟨b2, o2, none⟩) kk.toNat 5 cap) ((kk + 1).toNat - kk.toNat) (cap - kk.toNat)) [x] := by
  rw [show kk.toNat = k by omega, show (kk + 1).toNat - k = 1 by omega]
  exact hEn2.mono (hM1.trans_ hM34)
 have hc1 : c[o + ((qs.length : Nat) : Int).toNat * 4 + 1]? = some (.slice Al it.length cl) := hcell0 1 _ rfl
 have hc2 : c[o + ((qs.length : Nat) : Int).toNat * 4 + 2]? = some (.slice Ae it.length ce) := hcell0 2 _ rfl
 have hc3 : c[o + ((qs.length : Nat) : Int).toNat * 4 + 3]? = some (.int .i64 (((it.map Prod.snd).sum : Nat) : Int)) := hcell0 3 _ rfl
 have hclen : o + ((qs.length : Nat) : Int).toNat * 4 + 3 < c.length := (List.getElem?_eq_some_iff.1 hc3).1
 have hml : (it.map Prod.fst).length = it.length := List.length_map ..
 (apply C.regionS (A := [0, 1, 2, 3, 4, 5, 6, 7, 8, 9, 10, 11]) (t := .free 0 (.free 1 (.free 2 (.free 3 (.free 4 (.free 5 (.free 6 (.free 7 (.free 8 (.free 9 (.one 10 (.one 11 .nil)))))))))))) (u := .free 12 (.free 13 (.one 14 .nil))) (Hs := [(b, .cells c.toArray 93 (0, 0))]); exact Mix.h; (first | exact Arr.all _ | (exact a_arr) | (exact a_arrs)); (exact a_np); kernel_rfl)
 (repeat' (first | (apply RS.step; exact rfl; intro _ _ _; (apply Ok.move; exact rfl); exact rfl) | (apply RS.step; exact rfl; intro _ _ _; (first | (apply Ok.sliceLoHi; exact rfl; exact rfl; exact rfl; omega; omega; omega) | (apply Ok.load; exact rfl; exact rfl; (exact a_at); exact hc1)); exact rfl) | refine a_os ?_ | fail))
 (apply RS.one; apply OneS.eff; exact rfl; intro Kc hKc ops0)
 (apply R.call; (exact a_evs); exact rfl; exact copy_KP hEn3 (fits_small (fun e he => by rw [List.mem_singleton] at he; rw [he]; exact hEx) (by rw [List.length_singleton]; omega)); rintro cv M5 _ ⟨hrc, hoc, hM5, rfl⟩)
 obtain ⟨Acv, ccv, rfl, _, _⟩ := hoc.form
 (apply R.ice (hp := hrc) (Arr.all _); intro M6 hM6 hin6)
 have hEc := (hoc.mono hM6).enL hin6
 obtain ⟨A7, c7, vs7, e7, _, _, p7, q7⟩ := id hEc
 cases e7
 obtain ⟨_, len7, one7⟩ := rowE_cells q7
 have hM46 := hM5.trans_ hM6
 (apply R.nil; apply Fin.ks (Hx := (lb, .cells [.pointer (some ⟨rb, 0, none⟩), .int .i64 lim, .slice (some ⟨b, o, none⟩) (qs.length + 1) cp].toArray 91 (0, 0)) :: (ptH qs ++ (lh ++ (eh ++ (hp4 ++ H))))) hKc; exact hM46; (exact a_art))
 (apply RS.one; apply OneS.eff; exact rfl; intro Kc hKc ops0)
 obtain ⟨vsq, hot, hpvq⟩ := id hoP'
 apply R.arr (H2 := lh ++ ((b, .cells c.toArray 93 (0, 0)) :: (lb, .cells [.pointer (some ⟨rb, 0, none⟩), .int .i64 lim, .slice (some ⟨b, o, none⟩) (qs.length + 1) cp].toArray 91 (0, 0)) :: (ptH qs ++ (eh ++ (hp4 ++ H))))) (by (exact a_art))
 (apply R.appendT; exact rfl; exact rfl; exact hot; (exact a_tk); exact p7.rd; exact len7; exact one7; (rw [hml, List.length_singleton]; omega); exact rfl; decide; decide; exact rfl; rintro lv2 lh2 hotw)
 have how : OwnP M6 lv2 (it.map Prod.fst ++ [x]) lh2 := OwnT.joined hotw ((hpvq.mono hM4).mono hM46) q7
 obtain ⟨Al2, cl2, rfl, _, _⟩ := hotw.form
 (apply R.nil; apply Fin.ks (Hx := (lb, .cells [.pointer (some ⟨rb, 0, none⟩), .int .i64 lim, .slice (some ⟨b, o, none⟩) (qs.length + 1) cp].toArray 91 (0, 0)) :: (lh2 ++ (ptH qs ++ (eh ++ (hp4 ++ H))))) hKc; exact hM46; (exact a_art))
 refine RS.later (Hs2 := []) (Hx2 := (b, .cells c.toArray 93 (0, 0)) :: (lb, .cells [.pointer (some ⟨rb, 0, none⟩), .int .i64 lim, .slice (some ⟨b, o, none⟩) (qs.length + 1) cp].toArray 91 (0, 0)) :: (lh2 ++ (ptH qs ++ (eh ++ (hp4 ++ H))))) (by (exact a_art)) ?_
 (repeat' (first | refine a_ot ?_ | fail))
 (apply RT.one; apply OneT.eff; exact rfl; intro Kc hKc ops0)
 (apply R.storeI (v := .slice Al2 ((it.map Prod.fst).length + [x].length) cl2); exact rfl; exact rfl; exact rfl; (exact a_at); omega; exact rfl)
 ((first | apply R.nil | skip); apply Fin.kt hKc; exact Mem.le_refl _; (exact a_arrs))
 apply RT.nil
 rw [hml, List.length_singleton]
 obtain ⟨w1, hw1⟩ : ∃ q, q = c.set (o + ((qs.length : Nat) : Int).toNat * 4 + 1) (.slice Al2 (it.length + 1) cl2) := ⟨_, rfl⟩
 have hw1l : w1.length = c.length := by rw [hw1, List.length_set]
 have hw12 : w1[o + ((qs.length : Nat) : Int).toNat * 4 + 2]? = some (.slice Ae it.length ce) := by rw [hw1, List.getElem?_set_ne (by omega)]; exact hc2
 have hw13 : w1[o + ((qs.length : Nat) : Int).toNat * 4 + 3]? = some (.int .i64 (((it.map Prod.snd).sum : Nat) : Int)) := by rw [hw1, List.getElem?_set_ne (by omega)]; exact hc3
 rw [← hw1]
 (repeat' (first | (refine a_bl ?_; intro bl) | (refine a_go ?_; intros) | refine a_sp (fun h => ?_) fun h => ?_ | fail))
 (apply C.regionS (A := [0, 1, 2, 3, 4, 5, 6, 7, 8, 9, 10]) (t := .free 0 (.free 1 (.free 2 (.free 3 (.free 4 (.free 5 (.free 6 (.free 7 (.free 8 (.one 9 (.one 10 .nil))))))))))) (u := .free 11 (.free 12 (.one 13 .nil))) (Hs := [(b, .cells w1.toArray 93 (0, 0))]); exact Mix.h; (first | exact Arr.all _ | (exact a_arr) | (exact a_arrs)); (exact a_np); kernel_rfl)
 (repeat' (first | (apply RS.step; exact rfl; intro _ _ _; (apply Ok.move; exact rfl); exact rfl) | (apply RS.step; exact rfl; intro _ _ _; (first | (apply Ok.load; exact rfl; exact rfl; (exact a_at); exact hw12) | (apply Ok.load; exact rfl; exact rfl; (exact a_at); exact hw13)); exact rfl) | refine a_os ?_ | fail))
 (apply RS.one; apply OneS.eff; exact rfl; intro Kc hKc ops0)
 (apply R.buildSlice; (exact a_prt); exact rfl; exact rfl; (exact a_fills); exact rfl; intro bl)
 (apply R.nil; apply Fin.ks (Hx := (bl, .cells [.int .i64 (((it.map Prod.snd).sum : Nat) : Int)].toArray 3 (0, 0)) :: (lb, .cells [.pointer (some ⟨rb, 0, none⟩), .int .i64 lim, .slice (some ⟨b, o, none⟩) (qs.length + 1) cp].toArray 91 (0, 0)) :: (lh2 ++ (ptH qs ++ (eh ++ (hp4 ++ H))))) hKc; exact Mem.le_refl _; (exact a_art))
 (apply RS.one; apply OneS.eff; exact rfl; intro Kc hKc ops0)
 apply R.arr (H2 := eh ++ ((bl, .cells [.int .i64 (((it.map Prod.snd).sum : Nat) : Int)].toArray 3 (0, 0)) :: (b, .cells w1.toArray 93 (0, 0)) :: (lb, .cells [.pointer (some ⟨rb, 0, none⟩), .int .i64 lim, .slice (some ⟨b, o, none⟩) (qs.length + 1) cp].toArray 91 (0, 0)) :: (lh2 ++ (ptH qs ++ (hp4 ++ H))))) (by (exact a_art))
 (apply R.appendT (news := [.int .i64 (((it.map Prod.snd).sum : Nat) : Int)]) (k := 1); exact rfl; exact rfl; exact hoT'; (exact a_tk); exact Rd.at_ (l := [.int .i64 (((it.map Prod.snd).sum : Nat) : Int)]) (by (exact a_at)) (fun j u h => by rw [Nat.zero_add]; exact h); exact rfl; (intro u hu; rw [List.mem_singleton] at hu; subst hu; rfl); omega; exact rfl; decide; decide; exact rfl; rintro ev2 eh2 hot2)
 obtain ⟨Ae2, ce2, rfl, _, _⟩ := hot2.form
 (apply R.nil; apply Fin.ks (Hx := (lb, .cells [.pointer (some ⟨rb, 0, none⟩), .int .i64 lim, .slice (some ⟨b, o, none⟩) (qs.length + 1) cp].toArray 91 (0, 0)) :: (lh2 ++ (ptH qs ++ (eh2 ++ (hp4 ++ H))))) hKc; exact Mem.le_refl _; (exact a_art))
 refine RS.later (Hs2 := []) (Hx2 := (b, .cells w1.toArray 93 (0, 0)) :: (lb, .cells [.pointer (some ⟨rb, 0, none⟩), .int .i64 lim, .slice (some ⟨b, o, none⟩) (qs.length + 1) cp].toArray 91 (0, 0)) :: (lh2 ++ (ptH qs ++ (eh2 ++ (hp4 ++ H))))) (by (exact a_art)) ?_
 (repeat' (first | refine a_ot ?_ | fail))
 (apply RT.one; apply OneT.eff; exact rfl; intro Kc hKc ops0)
 (apply R.storeI (v := .slice Ae2 (it.length + 1) ce2); exact rfl; exact rfl; exact rfl; (exact a_at); omega; exact rfl)
 ((first | apply R.nil | skip); apply Fin.kt hKc; exact Mem.le_refl _; (exact a_arrs))
 apply RT.nil
 obtain ⟨w2, hw2⟩ : ∃ q, q = w1.set (o + ((qs.length : Nat) : Int).toNat * 4 + 2) (.slice Ae2 (it.length + 1) ce2) := ⟨_, rfl⟩
 have hw2l : w2.length = c.length := by rw [hw2, List.length_set, hw1l]
 have hw23 : w2[o + ((qs.length : Nat) : Int).toNat * 4 + 3]? = some (.int .i64 (((it.map Prod.snd).sum : Nat) : Int)) := by rw [hw2, List.getElem?_set_ne (by omega)]; exact hw13
 rw [← hw2]
 have hsum2 : (((it.map Prod.snd).sum : Nat) : Int) + (((frameS (layE x)).length : Nat) : Int) = ((((it.map Prod.snd).sum + (frameS (layE x)).length : Nat)) : Int) := (Int.natCast_add _ _).symm
 (repeat' (first | refine a_mv ?_ | (apply R.step; (first | (apply Ok.load; exact rfl; exact rfl; (exact a_at); exact hw23) | (apply Ok.addQ ((((it.map Prod.snd).sum + (frameS (layE x)).length : Nat)) : Int); exact rfl; exact rfl; exact hsum2; apply w64; omega; omega)); exact rfl) | (refine a_bl ?_; intro bl) | (refine a_go ?_; intros) | refine a_sp (fun h => ?_) fun h => ?_ | fail))
 (apply R.storeI (v := .int .i64 ((((it.map Prod.snd).sum + (frameS (layE x)).length : Nat)) : Int)); exact rfl; exact rfl; exact rfl; (exact a_at); omega; exact rfl)
 obtain ⟨w3, hw3⟩ : ∃ q, q = w2.set (o + ((qs.length : Nat) : Int).toNat * 4 + 3) (.int .i64 ((((it.map Prod.snd).sum + (frameS (layE x)).length : Nat)) : Int)) := ⟨_, rfl⟩
 rw [← hw3]
 have hPO2 : PrO M6 (⟨addS ⟨f_, it⟩ x, .slice Al2 (it.length + 1) cl2, .slice Ae2 (it.length + 1) ce2, lh2, eh2⟩ : PtV) := by
  refine ⟨?_, ?_⟩
  ·show OwnP M6 _ (addS ⟨f_, it⟩ x).es lh2
   rw [addS_es]
   rw [hml, List.length_singleton] at how
   exact how
  ·show OwnT 3 1 _ (addS ⟨f_, it⟩ x).it.length (endC (begA 0 ((it ++ [(x, (frameS (layE x)).length)]).map Prod.snd))) eh2
   rw [addS_len, List.map_append]
   show OwnT 3 1 _ (it.length + 1) (endC (begA 0 (it.map Prod.snd ++ [(frameS (layE x)).length]))) eh2
   rw [begA_snoc, Nat.zero_add]
   unfold endC at hot2 ⊢
   rw [List.map_append]
   exact hot2
 have hPC : (((prC ⟨⟨f_, it⟩, .slice Al it.length cl, .slice Ae it.length ce, lh, eh⟩).set 1 (.slice Al2 (it.length + 1) cl2)).set 2 (.slice Ae2 (it.length + 1) ce2)).set 3 (.int .i64 ((((it.map Prod.snd).sum + (frameS (layE x)).length : Nat)) : Int)) = prC (⟨addS ⟨f_, it⟩ x, .slice Al2 (it.length + 1) cl2, .slice Ae2 (it.length + 1) ce2, lh2, eh2⟩ : PtV) := by
  have : (addS ⟨f_, it⟩ x).size = (it.map Prod.snd).sum + (frameS (layE x)).length := addS_size _ _
  unfold prC
  dsimp only
  rw [this]
  rfl
 have hr1 := hrow.setLast (q := 1) (u := .slice Al2 (it.length + 1) cl2) (prC_flat qs) rfl (by decide)
 have hr2 := hr1.setLast (q := 2) (u := .slice Ae2 (it.length + 1) ce2) (prC_flat qs) (by rw [List.length_set]; rfl) (by decide)
 have hr3 := hr2.setLast (q := 3) (u := .int .i64 ((((it.map Prod.snd).sum + (frameS (layE x)).length : Nat)) : Int)) (prC_flat qs) (by rw [List.length_set, List.length_set]; rfl) (by decide)
 rw [hPC] at hr3
 rw [Int.toNat_natCast] at hw1 hw2 hw3
 rw [← hw1, ← hw2, ← hw3] at hr3
 have hg9 : RgO M6 lb rb lim (qs.map PtV.s ++ [addS ⟨f_, it⟩ x]) ((lb, rgB rb lim (.slice (some ⟨b, o, none⟩) (qs.length + 1) cp)) :: ([(b, .cells w3.toArray 93 (0, 0))] ++ ptH (qs ++ [(⟨addS ⟨f_, it⟩ x, .slice Al2 (it.length + 1) cl2, .slice Ae2 (it.length + 1) ce2, lh2, eh2⟩ : PtV)]))) := by
  refine ⟨qs ++ [(⟨addS ⟨f_, it⟩ x, .slice Al2 (it.length + 1) cl2, .slice Ae2 (it.length + 1) ce2, lh2, eh2⟩ : PtV)], _, _, by rw [List.map_append]; rfl, ?_, ?_, rfl⟩
  ·rw [List.length_append, rowR_snoc]
   exact hr3
  ·intro q hq
   rcases List.mem_append.1 hq with hq | hq
   ·exact (hall q hq).mono (hM4.trans_ hM46)
   ·rw [List.mem_singleton] at hq
    subst hq
    exact hPO2
 obtain ⟨hL9, hHL9⟩ : ∃ q : Hp, q = (lb, rgB rb lim (.slice (some ⟨b, o, none⟩) (qs.length + 1) cp)) :: ([(b, .cells w3.toArray 93 (0, 0))] ++ ptH (qs ++ [(⟨addS ⟨f_, it⟩ x, .slice Al2 (it.length + 1) cl2, .slice Ae2 (it.length + 1) ce2, lh2, eh2⟩ : PtV)])) := ⟨_, rfl⟩
 have hdsz := opD_sz d1 0 (.app (nameS f_) (frameS (layE x)))
 (repeat' (first | (refine a_bl ?_; intro bl) | (refine a_go ?_; intros) | refine a_sp (fun h => ?_) fun h => ?_ | fail))
 apply Fin.arr (H2 := hL9 ++ (hp4 ++ H)) (by rw [hHL9, ptH_snoc]; unfold rgB; dsimp only; (exact a_art))
 rw [← hHL9] at hg9
 refine Fin.again (⟨k + 1, kk + 1, opD 0 d1 (.app (nameS f_) (frameS (layE x))), qs.map PtV.s ++ [addS ⟨f_, it⟩ x], hL9, hp4, M6⟩ : ApX) ⟨by dsimp only; omega, by dsimp only; omega, hM1.trans_ (hM34.trans_ hM46), hg9, hsm2, ho4.mono hM46, by dsimp only; omega, by dsimp only; omega, hap⟩ (by dsimp only; omega) ?_ rfl rfl
 (exact a_subs)
theorem OwnP.shrink_ {A : Option Addr} {cap k : Nat} {es : List En} {hrow : Hp} (h : OwnP M (.slice A es.length cap) es hrow) (hk : k ≤ es.length) : OwnP M (.slice A k cap) (es.take k) hrow := by
 obtain ⟨vs, h1, h2⟩ := h
 refine ⟨vs.take k, ?_, by rw [List.map_take]; exact h2.take k⟩
 have := h1.shrink hk
 rw [rowE_take] at this
 rw [List.length_take, Nat.min_eq_left hk]
 exact this
set_option maxHeartbeats 8000000 in
theorem rcutG_K {lb rb : Nat} {lim : Int} {d : Dk} {ss : List Sg} {i : Int} {hL hp : Hp} (hi : 0 ≤ i ∧ i ≤ 18446744073709551615) (hg : RgO M lb rb lim ss hL) (hok : sgsOk ss) (hct : ∀ s ∈ ss, conG s) (hnm : ∀ s ∈ ss, s.it.length ≤ 1099511627776) (ho : RdO M rb d hp) (hlen : szD d + ss.length ≤ 900000) : K Tryz.prog 51 [.pointer (some ⟨lb, 0, none⟩), .int .u64 i] M (hL ++ (hp ++ H)) fun v' M' H' => v' = .int .i64 (cutG d ss i).1 ∧ M.le M' ∧ ∃ hp', RdO M' rb (cutG d ss i).2.1 hp' ∧ ((∃ hL', RgO M' lb rb lim (cutG d ss i).2.2 hL' ∧ H' = hL' ++ (hp' ++ H)) ∨ ((cutG d ss i).1 ≠ 0 ∧ H' = hp' ++ H)) := by
 refine K.enterK Tryz.func51 rfl rfl rfl ?_
 intro Q hNP hQ
 have hsl0 : ss.length ≤ 900000 := by omega
 obtain ⟨A0, c0, hR0, e0, _⟩ := hg.rec_
 rw [e0]
 (repeat' (first | (refine a_go ?_; intros) | refine a_sp (fun h => ?_) fun h => ?_ | fail))
 rw [← e0]
 apply C.loop (fun y : CuX => (y.ss.length : Int) = y.nn ∧ M.le y.M ∧ RgO y.M lb rb lim y.ss y.hL ∧ (∀ s ∈ y.ss, s ∈ ss) ∧ RdO y.M rb y.d y.hp ∧ szD y.d + y.ss.length ≤ szD d + ss.length ∧ cutR d i ss.reverse = cutR y.d i y.ss.reverse)
  (fun y => [(0, .pointer (some ⟨lb, 0, none⟩)), (1, .int .u64 i), (5, .int .i64 y.nn)]) (fun y => y.M) (fun y => y.hL ++ (y.hp ++ H)) (fun y => y.ss.length) ⟨(ss.length : Int), d, ss, hL, hp, M⟩
 ·exact ⟨rfl, Mem.le_refl _, hg, fun s h => h, ho, Nat.le_refl _, rfl⟩
 ·(exact a_subs)
 ·exact rfl
 ·exact rfl
 rintro ⟨nn, d1, s1, hL1, hp1, M1⟩ ⟨hnn, hM1, hg1, hsub, ho1, hd1, hcr⟩
 dsimp only at hnn hM1 hg1 hsub ho1 hd1 hcr ⊢
 subst hnn
 by_cases h0 : s1.length = 0
 ·have hnl : s1 = [] := List.eq_nil_of_length_eq_zero h0
  subst hnl
  have hcr2 : cutR d i ss.reverse = (0, d1, []) := hcr
  have hQ2 : cutG d ss i = (0, d1, []) := by
   unfold cutG
   rw [hcr2]
   rfl
  rw [hQ2] at hQ
  (repeat' (first | refine a_mv ?_ | (apply R.step; (apply Ok.gtF; exact rfl; exact rfl; omega); exact rfl) | (refine a_go ?_; intros) | refine a_sp (fun h => ?_) fun h => ?_ | fail))
  obtain ⟨A2, c2, hR2, rfl, _⟩ := hg1.rec_
  (repeat' (first | refine a_mv ?_ | (apply R.step; (apply Ok.eqIR; exact rfl; exact rfl; rfl); exact rfl) | (refine a_go ?_; intros) | refine a_sp (fun h => ?_) fun h => ?_ | fail))
  obtain ⟨hL2, hHL⟩ : ∃ q : Hp, q = (lb, .cells [.pointer (some ⟨rb, 0, none⟩), .int .i64 lim, .slice A2 ([] : List Sg).length c2].toArray 91 (0, 0)) :: hR2 := ⟨_, rfl⟩
  rw [← hHL] at hg1 ⊢
  (refine Fin.rA (hL2 ++ (hp1 ++ H)) ?_)
  exact ⟨rfl, hM1, hp1, ho1, .inl ⟨hL2, hg1, rfl⟩⟩
 obtain ⟨qs, p, b, o, cp, c, hX⟩ := hg1.endR (by omega)
 have hhp := hX.heap
 unfold rgB at hhp
 subst hhp
 have hgl : s1.getLast? = some p.s := by rw [hX.segs, List.getLast?_append]; rfl
 have hpm : p.s ∈ s1 := List.mem_of_getLast? hgl
 have hso := hok _ (hsub _ hpm)
 have hco := hct _ (hsub _ hpm)
 have hns := hnm _ (hsub _ hpm)
 have hsl2 := hX.len
 have hcell := hX.cell
 have hroom := hX.room
 have hcp1 := hX.cap1
 have hcp2 := hX.cap2
 have hll : (s1.length : Int) - 1 = ((s1.length - 1 : Nat) : Int) := by omega
 have hrev : s1.reverse = p.s :: (qs.map PtV.s).reverse := by rw [hX.segs, List.reverse_append]; rfl
 rw [hrev] at hcr
 have hPO := hX.own
 have hallX := hX.all
 have hrowX := hX.row
 obtain ⟨⟨f_, it⟩, lv, ev, lh, eh⟩ := p
 obtain ⟨hoP, hoT⟩ := id hPO
 obtain ⟨Al, cl, hlv, kl1, kl2⟩ := hoP.form
 obtain ⟨Ae, ce, hev, ke1, ke2⟩ := hoT.form
 change lv = .slice Al (⟨f_, it⟩ : Sg).es.length cl at hlv
 change ev = .slice Ae it.length ce at hev
 subst hlv hev
 dsimp only at hcr hso hns hoP hoT ⊢
 have hfb : f_ ≤ 72057594037927935 := hco.1
 have hcell0 : c[o + ((s1.length - 1 : Nat) : Int).toNat * 4 + 0]? = some (.int .u64 (f_ : Int)) := hcell 0 _ rfl
 have hcell' : ∀ (q : Nat) u, [Value.int .u64 (f_ : Int), .slice Al (⟨f_, it⟩ : Sg).es.length cl, .slice Ae it.length ce, .int .i64 ((⟨f_, it⟩ : Sg).size : Int)][q]? = some u → c[o + ((s1.length - 1 : Nat) : Int).toNat * 4 + q]? = some u := hcell
 by_cases hge : i ≤ (f_ : Int)
 ·have hcr1 : cutR d1 i (⟨f_, it⟩ :: (qs.map PtV.s).reverse) = if remE d1 (nameS f_) ≠ 0 then (remE d1 (nameS f_), opD (remE d1 (nameS f_)) d1 (.rem (nameS f_)), ⟨f_, it⟩ :: (qs.map PtV.s).reverse) else cutR (opD 0 d1 (.rem (nameS f_))) i (qs.map PtV.s).reverse := by
   rw [cutR, if_pos hge]
  rw [hcr1] at hcr
  clear hcr1
  (repeat' (first | refine a_mv ?_ | (apply R.step; (first | (apply Ok.gtTr; exact rfl; exact rfl; omega) | (apply Ok.subQ ((s1.length - 1 : Nat) : Int); exact rfl; exact rfl; exact hll; apply w64; omega; omega) | (apply Ok.indexAddr; exact rfl; exact rfl; omega; omega) | (apply Ok.load; exact rfl; exact rfl; (exact a_at); exact hcell0) | (apply Ok.geTr; exact rfl; exact rfl; exact hge)); exact rfl) | (refine a_go ?_; intros) | refine a_sp (fun h => ?_) fun h => ?_ | fail))
  have hnw := now_sz d1
  have hpw := ps_sz d1
  (apply C.regionT (t := .free 0 (.free 1 (.free 2 (.free 3 (.free 4 (.free 5 (.free 6 (.free 7 (.free 8 (.free 9 (.free 10 (.free 11 (.free 12 (.free 13 (.one 14 (.free 15 .nil)))))))))))))))) (Hs := [(lb, .cells [.pointer (some ⟨rb, 0, none⟩), .int .i64 lim, .slice (some ⟨b, o, none⟩) s1.length cp].toArray 91 (0, 0)), (b, .cells c.toArray 93 (0, 0))]); exact Mix.h; (first | exact Arr.all _ | (exact a_arr) | (exact a_arrs)); (exact a_np); kernel_rfl)
  (repeat' (first | (apply RT.step; exact rfl; intro _ _ _; (apply Ok.move; exact rfl); exact rfl) | (apply RT.callQ; exact rfl; exact inferInstance; (exact a_evs); exact rfl; (intro M' Hx' hM'; exact rName_K (n := f_) (by omega))) | (apply RT.step; exact rfl; intro _ _ _; (first | (apply Ok.subQ ((s1.length - 1 : Nat) : Int); exact rfl; exact rfl; exact hll; apply w64; omega; omega) | (apply Ok.indexAddr; exact rfl; exact rfl; omega; omega) | (apply Ok.load; exact rfl; exact rfl; (exact a_at); exact hcell0)); exact rfl) | refine a_ot ?_ | fail))
  (apply RT.one; apply OneT.eff; exact rfl; intro Kc hKc ops0)
  apply R.arr (H2 := hp1 ++ ((lb, .cells [.pointer (some ⟨rb, 0, none⟩), .int .i64 lim, .slice (some ⟨b, o, none⟩) s1.length cp].toArray 91 (0, 0)) :: (b, .cells c.toArray 93 (0, 0)) :: (ptH qs ++ (lh ++ (eh ++ H))))) (by (exact a_art))
  (apply R.call; (exact a_evs); exact rfl; exact rremove_K (n := nameS f_) ho1 (by omega) (by omega); rintro _ M2 _ ⟨rfl, hM2, hp2, ho2, rfl⟩)
  (apply R.nil; apply Fin.kt (Hx := ptH qs ++ (lh ++ (eh ++ (hp2 ++ H)))) hKc; exact hM2; (exact a_art))
  (repeat' (first | refine a_ot ?_ | fail))
  apply RT.nil
  by_cases hq : remE d1 (nameS f_) = 0
  rotate_left
  ·rw [if_pos hq] at hcr
   have hQ2 : cutG d ss i = (remE d1 (nameS f_), opD (remE d1 (nameS f_)) d1 (.rem (nameS f_)), s1) := by
    unfold cutG
    rw [hcr]
    dsimp only
    rw [if_pos hq, ← hrev, List.reverse_reverse]
   rw [hQ2] at hQ
   (repeat' (first | refine a_mv ?_ | (apply R.step; (apply Ok.neIT; exact rfl; exact rfl; exact hq); exact rfl) | (refine a_go ?_; intros) | refine a_sp (fun h => ?_) fun h => ?_ | fail))
   (refine Fin.rA (hp2 ++ H) ?_)
   exact ⟨rfl, hM1.trans_ hM2, hp2, ho2, .inr ⟨hq, rfl⟩⟩
  rw [if_neg (fun h => h hq)] at hcr
  rw [hq] at ho2
  have hnp := opD_sz d1 0 (.rem (nameS f_))
  have hg2 : RgO M2 lb rb lim (qs.map PtV.s) ((lb, rgB rb lim (.slice (some ⟨b, o, none⟩) (s1.length - 1) cp)) :: ([(b, .cells c.toArray 93 (0, 0))] ++ ptH qs)) := by
   refine ⟨qs, _, _, rfl, ?_, fun q hq => (hallX q hq).mono (hM2), rfl⟩
   have h1 := hrowX.shrink (k := s1.length - 1) (by omega)
   rw [List.take_left' (by rw [prC_flat]; omega)] at h1
   rw [show qs.length = s1.length - 1 by omega]
   exact h1
  (repeat' (first | refine a_mv ?_ | (apply R.step; (first | (apply Ok.neIR; exact rfl; exact rfl; exact hq) | (apply Ok.subQ ((s1.length - 1 : Nat) : Int); exact rfl; exact rfl; exact hll; apply w64; omega; omega) | (apply Ok.sliceHi; exact rfl; exact rfl; omega; omega)); exact rfl) | (refine a_go ?_; intros) | refine a_sp (fun h => ?_) fun h => ?_ | fail))
  obtain ⟨hL2, hHL⟩ : ∃ q : Hp, q = (lb, rgB rb lim (.slice (some ⟨b, o, none⟩) (s1.length - 1) cp)) :: ([(b, .cells c.toArray 93 (0, 0))] ++ ptH qs) := ⟨_, rfl⟩
  apply Fin.arr (H2 := hL2 ++ (hp2 ++ H)) (by rw [hHL, Int.toNat_natCast]; unfold rgB; (exact a_art))
  rw [← hHL] at hg2
  refine Fin.again (⟨((s1.length - 1 : Nat) : Int), opD 0 d1 (.rem (nameS f_)), qs.map PtV.s, hL2, hp2, M2⟩ : CuX) ⟨by dsimp only; rw [List.length_map]; omega, hM1.trans_ hM2, hg2, ?_, ho2, ?_, hcr⟩ ?_ ?_ rfl rfl
  ·intro s hs
   exact hsub s (by rw [hX.segs]; exact List.mem_append_left _ hs)
  ·dsimp only
   rw [List.length_map]
   omega
  ·dsimp only
   rw [List.length_map]
   omega
  ·(exact a_subs)
 ·have hcr1 : cutR d1 i (⟨f_, it⟩ :: (qs.map PtV.s).reverse) = (0, d1, ⟨f_, it⟩ :: (qs.map PtV.s).reverse) := by
   rw [cutR, if_neg hge]
  rw [hcr1] at hcr
  clear hcr1
  have hesl : (⟨f_, it⟩ : Sg).es.length = it.length := Sg.es_len _
  have hlen0 : 0 < it.length := hso.1
  obtain ⟨a, ha⟩ : ∃ a, (⟨f_, it⟩ : Sg).es.getLast? = some a := ⟨_, getLast_len (by omega)⟩
  have hai : a.idx = (f_ : Int) + ((it.length - 1 : Nat) : Int) := by
   have h1 := ha
   rw [List.getLast?_eq_getElem?, hesl] at h1
   exact hco.2 _ _ h1
  have hQ1 : cutG d ss i = ((cutT d1 i (⟨f_, it⟩ :: (qs.map PtV.s).reverse)).1, (cutT d1 i (⟨f_, it⟩ :: (qs.map PtV.s).reverse)).2.1, (cutT d1 i (⟨f_, it⟩ :: (qs.map PtV.s).reverse)).2.2.reverse) := by
   unfold cutG
   rw [hcr]
   dsimp only
   rw [if_neg (fun h => h rfl)]
  rw [hQ1] at hQ
  clear hQ1
  (repeat' (first | refine a_mv ?_ | (apply R.step; (first | (apply Ok.gtTr; exact rfl; exact rfl; omega) | (apply Ok.subQ ((s1.length - 1 : Nat) : Int); exact rfl; exact rfl; exact hll; apply w64; omega; omega) | (apply Ok.indexAddr; exact rfl; exact rfl; omega; omega) | (apply Ok.load; exact rfl; exact rfl; (exact a_at); exact hcell0) | (apply Ok.geF; exact rfl; exact rfl; omega) | (apply Ok.eqIF; exact rfl; exact rfl; omega) | fail); exact rfl) | (refine a_go ?_; intros) | refine a_sp (fun h => ?_) fun h => ?_ | fail))
  have hlG : lastG s1 = a.idx := by
   have h1 : lastO s1 = some a := by
    unfold lastO
    rw [hgl]
    exact ha
   unfold lastG
   rw [h1]
  apply R.arr (H2 := ((lb, .cells [.pointer (some ⟨rb, 0, none⟩), .int .i64 lim, .slice (some ⟨b, o, none⟩) s1.length cp].toArray 91 (0, 0)) :: (b, .cells c.toArray 93 (0, 0)) :: (ptH qs ++ (lh ++ eh))) ++ (hp1 ++ H)) (by (exact a_art))
  have hok1 : sgsOk s1 := fun s hs => hok _ (hsub _ hs)
  (apply R.call; (exact a_evs); exact rfl; exact rLast_K (H := hp1 ++ H) hg1 hok1; rintro _ M1 _ ⟨rfl, rfl, rfl⟩)
  apply R.arr (H2 := (lb, .cells [.pointer (some ⟨rb, 0, none⟩), .int .i64 lim, .slice (some ⟨b, o, none⟩) s1.length cp].toArray 91 (0, 0)) :: (b, .cells c.toArray 93 (0, 0)) :: (ptH qs ++ (lh ++ (eh ++ (hp1 ++ H))))) (by (exact a_art))
  rw [hlG]
  by_cases hlt : a.idx < i
  ·have hct2 : cutT d1 i (⟨f_, it⟩ :: (qs.map PtV.s).reverse) = (0, d1, ⟨f_, it⟩ :: (qs.map PtV.s).reverse) := by
    rw [cutT, ha]
    exact if_pos hlt
   rw [hct2] at hQ
   dsimp only at hQ
   rw [← hrev, List.reverse_reverse] at hQ
   (repeat' (first | refine a_mv ?_ | (apply R.step; (apply Ok.ltTr; exact rfl; exact rfl; exact hlt); exact rfl) | (refine a_go ?_; intros) | refine a_sp (fun h => ?_) fun h => ?_ | fail))
   obtain ⟨hL2, hHL⟩ : ∃ q : Hp, q = (lb, .cells [.pointer (some ⟨rb, 0, none⟩), .int .i64 lim, .slice (some ⟨b, o, none⟩) s1.length cp].toArray 91 (0, 0)) :: (b, .cells c.toArray 93 (0, 0)) :: (ptH qs ++ (lh ++ eh)) := ⟨_, rfl⟩
   apply Fin.arr (H2 := hL2 ++ (hp1 ++ H)) (by rw [hHL]; (exact a_art))
   rw [← hHL] at hg1
   (refine Fin.rA (hL2 ++ (hp1 ++ H)) ?_)
   exact ⟨rfl, hM1, hp1, ho1, .inl ⟨hL2, hg1, rfl⟩⟩
  obtain ⟨kp, hkp⟩ : ∃ kp : Nat, (kp : Int) = i - f_ := ⟨(i - f_).toNat, by omega⟩
  have hks : keepS i ⟨f_, it⟩ = ⟨f_, it.take kp⟩ := by
   unfold keepS
   dsimp only
   rw [← hkp, Int.toNat_natCast]
  have hct2 : cutT d1 i (⟨f_, it⟩ :: (qs.map PtV.s).reverse) = (trcE d1 (nameS f_) ((⟨f_, it.take kp⟩ : Sg).size : Int), opD (trcE d1 (nameS f_) ((⟨f_, it.take kp⟩ : Sg).size : Int)) d1 (.trc (nameS f_) (⟨f_, it.take kp⟩ : Sg).size), ⟨f_, it.take kp⟩ :: (qs.map PtV.s).reverse) := by
   rw [cutT, ha, hks]
   exact if_neg hlt
  rw [hct2] at hQ
  dsimp only at hQ
  rw [List.reverse_cons, List.reverse_reverse] at hQ
  have hkl : 0 < kp ∧ kp < it.length := by omega
  have hkl2 : kp ≤ cl ∧ kp ≤ ce := by dsimp only at kl1 ke1; omega
  have hcA0 : c[o + ((s1.length - 1 : Nat) : Int).toNat * 4 + 0]? = some (.int .u64 (f_ : Int)) := hcell' 0 _ rfl
  have hcA1 : c[o + ((s1.length - 1 : Nat) : Int).toNat * 4 + 1]? = some (.slice Al (⟨f_, it⟩ : Sg).es.length cl) := hcell' 1 _ rfl
  have hcA2 : c[o + ((s1.length - 1 : Nat) : Int).toNat * 4 + 2]? = some (.slice Ae it.length ce) := hcell' 2 _ rfl
  have hcA3 : c[o + ((s1.length - 1 : Nat) : Int).toNat * 4 + 3]? = some (.int .i64 ((⟨f_, it⟩ : Sg).size : Int)) := hcell' 3 _ rfl
  have hclen : o + ((s1.length - 1 : Nat) : Int).toNat * 4 + 3 < c.length := (List.getElem?_eq_some_iff.1 hcA3).1
  obtain ⟨be, oe, ec, hAe, hehe, _, _, _, hecell⟩ := OwnT.split (show OwnT 3 1 (.slice Ae it.length ce) it.length (endC (begA 0 (it.map Prod.snd))) eh from hoT) hlen0
  subst hAe hehe
  obtain ⟨kk, hkk⟩ : ∃ kk : Int, (kp : Int) = kk := ⟨_, rfl⟩
  have hez : ec[oe + kk.toNat * 1]? = some (.int .i64 ((⟨f_, it.take kp⟩ : Sg).size : Int)) := by
   rw [← hkk, Int.toNat_natCast, Nat.mul_one]
   refine hecell kp _ ?_
   unfold endC
   rw [List.getElem?_map, begA_get _ _ _ (by rw [List.length_map]; exact hkl.2), Nat.zero_add, ← List.map_take]
   rfl
  have hsz : kp = kk.toNat := by omega
  (repeat' (first | refine a_mv ?_ | (apply R.step; (first | (apply Ok.ltF; exact rfl; exact rfl; exact hlt)); exact rfl) | (refine a_go ?_; intros) | refine a_sp (fun h => ?_) fun h => ?_ | fail))
  (apply C.regionT (t := .free 0 (.free 1 (.free 2 (.free 3 (.free 4 (.free 5 (.free 6 (.free 7 (.free 8 (.free 9 (.free 10 (.free 11 .nil)))))))))))) (Hs := [(lb, .cells [.pointer (some ⟨rb, 0, none⟩), .int .i64 lim, .slice (some ⟨b, o, none⟩) s1.length cp].toArray 91 (0, 0))]); exact Mix.h; (first | exact Arr.all _ | (exact a_arr) | (exact a_arrs)); (exact a_np); kernel_rfl)
  (repeat' (first | (apply RT.step; exact rfl; intro _ _ _; (apply Ok.move; exact rfl); exact rfl) | (apply RT.step; exact rfl; intro _ _ _; (first | (apply Ok.subQ ((s1.length - 1 : Nat) : Int); exact rfl; exact rfl; exact hll; apply w64; omega; omega) | (apply Ok.indexAddr; exact rfl; exact rfl; omega; omega)); exact rfl) | refine a_ot ?_ | fail))
  apply RT.nil
  (repeat' (first | refine a_mv ?_ | (apply R.step; (first | (apply Ok.load; exact rfl; exact rfl; (exact a_at); exact hcA0) | (apply Ok.subQ kk; exact rfl; exact rfl; (rw [← hkk]; exact hkp.symm); apply wu64; omega; omega)); exact rfl) | (refine a_go ?_; intros) | refine a_sp (fun h => ?_) fun h => ?_ | fail))
  apply C.arr (H2 := (lb, .cells [.pointer (some ⟨rb, 0, none⟩), .int .i64 lim, .slice (some ⟨b, o, none⟩) s1.length cp].toArray 91 (0, 0)) :: (b, .cells c.toArray 93 (0, 0)) :: (be, .cells ec.toArray 3 (0, 0)) :: (ptH qs ++ (lh ++ (hp1 ++ H)))) (by (exact a_art))
  have hnw := now_sz d1
  have hpw := ps_sz d1
  (apply C.regionT (t := .free 0 (.free 1 (.free 2 (.free 3 (.free 4 (.free 5 (.free 6 (.free 7 (.free 8 (.free 9 (.free 10 (.free 11 (.free 12 (.free 13 (.free 14 (.free 15 (.one 16 (.free 17 .nil)))))))))))))))))) (Hs := [(lb, .cells [.pointer (some ⟨rb, 0, none⟩), .int .i64 lim, .slice (some ⟨b, o, none⟩) s1.length cp].toArray 91 (0, 0)), (b, .cells c.toArray 93 (0, 0)), (be, .cells ec.toArray 3 (0, 0))]); exact Mix.h; (first | exact Arr.all _ | (exact a_arr) | (exact a_arrs)); (exact a_np); kernel_rfl)
  (repeat' (first | (apply RT.step; exact rfl; intro _ _ _; (apply Ok.move; exact rfl); exact rfl) | (apply RT.callQ; exact rfl; exact inferInstance; (exact a_evs); exact rfl; (intro M' Hx' hM'; exact rName_K (n := f_) (by omega))) | (apply RT.step; exact rfl; intro _ _ _; (first | (apply Ok.indexAddr; exact rfl; exact rfl; omega; omega) | (apply Ok.load; exact rfl; exact rfl; (exact a_at); exact hcA0) | (apply Ok.load; exact rfl; exact rfl; (exact a_at); exact hcA2) | (apply Ok.load; exact rfl; exact rfl; (exact a_at); exact hez)); exact rfl) | refine a_ot ?_ | fail))
  (apply RT.one; apply OneT.eff; exact rfl; intro Kc hKc ops0)
  apply R.arr (H2 := hp1 ++ ((lb, .cells [.pointer (some ⟨rb, 0, none⟩), .int .i64 lim, .slice (some ⟨b, o, none⟩) s1.length cp].toArray 91 (0, 0)) :: (b, .cells c.toArray 93 (0, 0)) :: (be, .cells ec.toArray 3 (0, 0)) :: (ptH qs ++ (lh ++ H)))) (by (exact a_art))
  (apply R.call; (exact a_evs); exact rfl; exact rtruncate_K (n := nameS f_) (k := ((⟨f_, it.take kp⟩ : Sg).size : Int)) ho1 (by omega) (by omega); rintro _ M2 _ ⟨rfl, hM2, hp2, ho2, rfl⟩)
  rw [Int.toNat_natCast] at ho2
  (apply R.nil; apply Fin.kt (Hx := ptH qs ++ (lh ++ (hp2 ++ H))) hKc; exact hM2; (exact a_art))
  (repeat' (first | refine a_ot ?_ | fail))
  apply RT.nil
  by_cases hq : trcE d1 (nameS f_) ((⟨f_, it.take kp⟩ : Sg).size : Int) = 0
  rotate_left
  ·(repeat' (first | refine a_mv ?_ | (apply R.step; (apply Ok.neIT; exact rfl; exact rfl; exact hq); exact rfl) | (refine a_go ?_; intros) | refine a_sp (fun h => ?_) fun h => ?_ | fail))
   (refine Fin.rA (hp2 ++ H) ?_)
   exact ⟨rfl, hM1.trans_ hM2, hp2, ho2, .inr ⟨hq, rfl⟩⟩
  (repeat' (first | refine a_mv ?_ | (apply R.step; (first | (apply Ok.neIR; exact rfl; exact rfl; exact hq) | (apply Ok.indexAddr; exact rfl; exact rfl; omega; omega) | (apply Ok.load; exact rfl; exact rfl; (exact a_at); exact hcA2) | (apply Ok.load; exact rfl; exact rfl; (exact a_at); exact hez)); exact rfl) | (refine a_go ?_; intros) | refine a_sp (fun h => ?_) fun h => ?_ | fail))
  (apply R.storeI (v := .int .i64 ((⟨f_, it.take kp⟩ : Sg).size : Int)); exact rfl; exact rfl; exact rfl; (exact a_at); omega; exact rfl)
  obtain ⟨w1, hw1⟩ : ∃ q, q = c.set (o + ((s1.length - 1 : Nat) : Int).toNat * 4 + 3) (.int .i64 ((⟨f_, it.take kp⟩ : Sg).size : Int)) := ⟨_, rfl⟩
  have hw1l : w1.length = c.length := by rw [hw1, List.length_set]
  have hw11 : w1[o + ((s1.length - 1 : Nat) : Int).toNat * 4 + 1]? = some (.slice Al (⟨f_, it⟩ : Sg).es.length cl) := by rw [hw1, List.getElem?_set_ne (by omega)]; exact hcA1
  have hw12 : w1[o + ((s1.length - 1 : Nat) : Int).toNat * 4 + 2]? = some (.slice (some ⟨be, oe, none⟩) it.length ce) := by rw [hw1, List.getElem?_set_ne (by omega)]; exact hcA2
  rw [← hw1]
  (repeat' (first | refine a_mv ?_ | (apply R.step; (first | (apply Ok.sliceHi; exact rfl; exact rfl; omega; omega) | (apply Ok.load; exact rfl; exact rfl; (exact a_at); exact hw11)); exact rfl) | (refine a_go ?_; intros) | refine a_sp (fun h => ?_) fun h => ?_ | fail))
  (apply R.storeI (v := .slice Al kk.toNat cl); exact rfl; exact rfl; exact rfl; (exact a_at); omega; exact rfl)
  obtain ⟨w2, hw2⟩ : ∃ q, q = w1.set (o + ((s1.length - 1 : Nat) : Int).toNat * 4 + 1) (.slice Al kk.toNat cl) := ⟨_, rfl⟩
  have hw2l : w2.length = c.length := by rw [hw2, List.length_set, hw1l]
  have hw22 : w2[o + ((s1.length - 1 : Nat) : Int).toNat * 4 + 2]? = some (.slice (some ⟨be, oe, none⟩) it.length ce) := by rw [hw2, List.getElem?_set_ne (by omega)]; exact hw12
  rw [← hw2]
  (repeat' (first | refine a_mv ?_ | (apply R.step; (first | (apply Ok.sliceHi; exact rfl; exact rfl; omega; omega) | (apply Ok.load; exact rfl; exact rfl; (exact a_at); exact hw22)); exact rfl) | (refine a_go ?_; intros) | refine a_sp (fun h => ?_) fun h => ?_ | fail))
  (apply R.storeI (v := .slice (some ⟨be, oe, none⟩) kk.toNat ce); exact rfl; exact rfl; exact rfl; (exact a_at); omega; exact rfl)
  obtain ⟨w3, hw3⟩ : ∃ q, q = w2.set (o + ((s1.length - 1 : Nat) : Int).toNat * 4 + 2) (.slice (some ⟨be, oe, none⟩) kk.toNat ce) := ⟨_, rfl⟩
  rw [← hw3]
  have hPO2 : PrO M1 (⟨⟨f_, it.take kp⟩, .slice Al kp cl, .slice (some ⟨be, oe, none⟩) kp ce, lh, [(be, .cells ec.toArray 3 (0, 0))]⟩ : PtV) := by
   refine ⟨?_, ?_⟩
   ·show OwnP M1 _ ((it.take kp).map Prod.fst) lh
    rw [List.map_take]
    exact hoP.shrink_ (k := kp) (by omega)
   ·show OwnT 3 1 _ (it.take kp).length (endC (begA 0 ((it.take kp).map Prod.snd))) _
    have h1 := OwnT.shrink (k := kp) (show OwnT 3 1 (.slice (some ⟨be, oe, none⟩) it.length ce) it.length (endC (begA 0 (it.map Prod.snd))) [(be, .cells ec.toArray 3 (0, 0))] from hoT) (by omega)
    rw [List.length_take, Nat.min_eq_left (by omega), List.map_take, ← begA_take]
    unfold endC at h1 ⊢
    rw [Nat.mul_one, ← List.map_take] at h1
    exact h1
  have hr1 := hrowX.setLast (q := 3) (u := .int .i64 ((⟨f_, it.take kp⟩ : Sg).size : Int)) (prC_flat qs) rfl (by decide)
  have hr2 := hr1.setLast (q := 1) (u := .slice Al kk.toNat cl) (prC_flat qs) (by rw [List.length_set]; rfl) (by decide)
  have hr3 := hr2.setLast (q := 2) (u := .slice (some ⟨be, oe, none⟩) kk.toNat ce) (prC_flat qs) (by rw [List.length_set, List.length_set]; rfl) (by decide)
  rw [show ((s1.length - 1 : Nat) : Int).toNat = qs.length by omega] at hw1 hw2 hw3
  rw [← hw1, ← hw2, ← hw3] at hr3
  have hPC : (((prC ⟨⟨f_, it⟩, .slice Al (⟨f_, it⟩ : Sg).es.length cl, .slice (some ⟨be, oe, none⟩) it.length ce, lh, [(be, .cells ec.toArray 3 (0, 0))]⟩).set 3 (.int .i64 ((⟨f_, it.take kp⟩ : Sg).size : Int))).set 1 (.slice Al kk.toNat cl)).set 2 (.slice (some ⟨be, oe, none⟩) kk.toNat ce) = prC (⟨⟨f_, it.take kp⟩, .slice Al kp cl, .slice (some ⟨be, oe, none⟩) kp ce, lh, [(be, .cells ec.toArray 3 (0, 0))]⟩ : PtV) := by
   rw [← hsz]
   rfl
  rw [hPC] at hr3
  have hg9 : RgO M2 lb rb lim (qs.map PtV.s ++ [⟨f_, it.take kp⟩]) ((lb, rgB rb lim (.slice (some ⟨b, o, none⟩) s1.length cp)) :: ([(b, .cells w3.toArray 93 (0, 0))] ++ ptH (qs ++ [(⟨⟨f_, it.take kp⟩, .slice Al kp cl, .slice (some ⟨be, oe, none⟩) kp ce, lh, [(be, .cells ec.toArray 3 (0, 0))]⟩ : PtV)]))) := by
   refine ⟨qs ++ [(⟨⟨f_, it.take kp⟩, .slice Al kp cl, .slice (some ⟨be, oe, none⟩) kp ce, lh, [(be, .cells ec.toArray 3 (0, 0))]⟩ : PtV)], _, _, by rw [List.map_append]; rfl, ?_, ?_, rfl⟩
   ·rw [List.length_append, rowR_snoc, List.length_singleton, ← hsl2]
    exact hr3
   ·intro q hq
    rcases List.mem_append.1 hq with hq | hq
    ·exact (hallX q hq).mono hM2
    ·rw [List.mem_singleton] at hq
     subst hq
     exact hPO2.mono hM2
  rw [hq] at ho2 hQ
  obtain ⟨hL9, hHL9⟩ : ∃ q : Hp, q = (lb, rgB rb lim (.slice (some ⟨b, o, none⟩) s1.length cp)) :: ([(b, .cells w3.toArray 93 (0, 0))] ++ ptH (qs ++ [(⟨⟨f_, it.take kp⟩, .slice Al kp cl, .slice (some ⟨be, oe, none⟩) kp ce, lh, [(be, .cells ec.toArray 3 (0, 0))]⟩ : PtV)])) := ⟨_, rfl⟩
  (repeat' (first | (refine a_go ?_; intros) | refine a_sp (fun h => ?_) fun h => ?_ | fail))
  apply Fin.arr (H2 := hL9 ++ (hp2 ++ H)) (by rw [hHL9, ptH_snoc]; unfold rgB; dsimp only; (exact a_art))
  rw [← hHL9] at hg9
  (refine Fin.rA (hL9 ++ (hp2 ++ H)) ?_)
  exact ⟨rfl, hM1.trans_ hM2, hp2, ho2, .inl ⟨hL9, hg9, rfl⟩⟩
theorem RgO.headR {lb rb : Nat} {lim : Int} {ss : List Sg} {hL : Hp} (hg : RgO M lb rb lim ss hL) (h0 : 0 < ss.length) : ∃ (p : PtV) (qs : List PtV) (b o cap : Nat) (c : List Value), ss = p.s :: qs.map PtV.s ∧ hL = (lb, .cells [.pointer (some ⟨rb, 0, none⟩), .int .i64 lim, .slice (some ⟨b, o, none⟩) (qs.length + 1) cap].toArray 91 (0, 0)) :: (b, .cells c.toArray 93 (0, 0)) :: (p.lh ++ (p.eh ++ ptH qs)) ∧ OwnT 93 4 (.slice (some ⟨b, o, none⟩) (qs.length + 1) cap) (qs.length + 1) (prC p ++ (qs.map prC).flatten) [(b, .cells c.toArray 93 (0, 0))] ∧ qs.length + 1 ≤ cap ∧ cap ≤ 9223372036854775807 ∧ (∀ (q : Nat) u, (prC p)[q]? = some u → c[o + q]? = some u) ∧ (∀ x, qs.head? = some x → c[o + 4]? = some (.int .u64 (x.s.first : Int))) ∧ PrO M p ∧ ∀ x ∈ qs, PrO M x := by
 obtain ⟨ps, pv, hrow, hss, hrw, hpt, rfl⟩ := hg
 have hpl : ps.length = ss.length := by rw [← hss, List.length_map]
 match ps, hss, hpl, hrw, hpt with
 | [], hss, hpl, _, _ => simp at hpl; omega
 | p :: qs, hss, hpl, hrw, hpt =>
  obtain ⟨A, cap, rfl, _, _⟩ := hrw.form
  obtain ⟨b, o, c, rfl, rfl, h1, h2, h3, h4⟩ := hrw.split (Nat.zero_lt_succ _)
  unfold maxLen at h3
  refine ⟨p, qs, b, o, cap, c, hss.symm, ?_, hrw, h2, by omega, ?_, ?_, hpt p (List.mem_cons_self ..), fun x hx => hpt x (List.mem_cons_of_mem _ hx)⟩
  ·unfold rgB ptH
   rw [List.flatMap_cons, List.append_assoc]
   rfl
  ·intro q u hq
   refine h4 q u ?_
   rw [List.map_cons, List.flatten_cons, List.getElem?_append_left (List.getElem?_eq_some_iff.1 hq).1]
   exact hq
  ·intro x hx
   match qs, hx with
   | y :: ys, hx =>
    injection hx with hx
    subst hx
    refine h4 4 _ ?_
    rw [List.map_cons, List.flatten_cons, List.getElem?_append_right (show (prC p).length ≤ 4 from Nat.le_refl _)]
    rfl
set_option maxHeartbeats 8000000 in
theorem rdropG_K {lb rb : Nat} {lim : Int} {d : Dk} {ss : List Sg} {i : Int} {hL hp : Hp} (hg : RgO M lb rb lim ss hL) (hok : okW none ss) (ho : RdO M rb d hp) (hlen : szD d + ss.length ≤ 900000) : K Tryz.prog 53 [.pointer (some ⟨lb, 0, none⟩), .int .u64 i] M (hL ++ (hp ++ H)) fun v' M' H' => v' = .int .i64 (dropG d i ss).1 ∧ M.le M' ∧ ∃ hp', RdO M' rb (dropG d i ss).2.1 hp' ∧ ((∃ hL', RgO M' lb rb lim (dropG d i ss).2.2 hL' ∧ H' = hL' ++ (hp' ++ H)) ∨ ((dropG d i ss).1 ≠ 0 ∧ H' = hp' ++ H)) := by
 refine K.enterK Tryz.func53 rfl rfl rfl ?_
 intro Q hNP hQ
 (repeat' (first | (refine a_go ?_; intros) | refine a_sp (fun h => ?_) fun h => ?_ | fail))
 apply C.loop (fun y : CuX => M.le y.M ∧ RgO y.M lb rb lim y.ss y.hL ∧ (∃ pv, okW pv y.ss) ∧ RdO y.M rb y.d y.hp ∧ szD y.d + y.ss.length ≤ szD d + ss.length ∧ dropG d i ss = dropG y.d i y.ss)
  (fun y => [(0, .pointer (some ⟨lb, 0, none⟩)), (1, .int .u64 i)]) (fun y => y.M) (fun y => y.hL ++ (y.hp ++ H)) (fun y => y.ss.length) ⟨0, d, ss, hL, hp, M⟩
 ·exact ⟨Mem.le_refl _, hg, ⟨_, hok⟩, ho, Nat.le_refl _, rfl⟩
 ·(exact a_subs)
 ·exact rfl
 ·exact rfl
 rintro ⟨nn, d1, s1, hL1, hp1, M1⟩ ⟨hM1, hg1, ⟨pv1, hW1⟩, ho1, hd1, hcr⟩
 dsimp only at hM1 hg1 hW1 ho1 hd1 hcr ⊢
 by_cases h0 : s1.length = 0
 ·have hnl : s1 = [] := List.eq_nil_of_length_eq_zero h0
  subst hnl
  have hcr2 : dropG d i ss = (0, d1, []) := hcr
  rw [hcr2] at hQ
  obtain ⟨A2, c2, hR2, rfl, _⟩ := hg1.rec_
  (repeat' (first | refine a_mv ?_ | (apply R.step; (apply Ok.gtF; exact rfl; exact rfl; decide); exact rfl) | (refine a_go ?_; intros) | refine a_sp (fun h => ?_) fun h => ?_ | fail))
  obtain ⟨hL2, hHL⟩ : ∃ q : Hp, q = (lb, .cells [.pointer (some ⟨rb, 0, none⟩), .int .i64 lim, .slice A2 ([] : List Sg).length c2].toArray 91 (0, 0)) :: hR2 := ⟨_, rfl⟩
  rw [← hHL] at hg1 ⊢
  (refine Fin.rA (hL2 ++ (hp1 ++ H)) ?_)
  exact ⟨rfl, hM1, hp1, ho1, .inl ⟨hL2, hg1, rfl⟩⟩
 obtain ⟨p, qs, b, o, cp, c, hss1, rfl, hrow, hcp1, hcp2, hcell, hcell2, hPO, hQO⟩ := hg1.headR (by omega)
 have hW2 := hW1
 rw [hss1] at hW2
 have hso := okW.sgs hW2 _ (List.mem_cons_self ..)
 have hco := okW.con hW2 _ (List.mem_cons_self ..)
 obtain ⟨a, ha⟩ : ∃ a, p.s.es.getLast? = some a := ⟨_, getLast_len (by rw [Sg.es_len]; exact hso.1)⟩
 have hla : lastI p.s = a.idx := by unfold lastI; rw [ha]
 obtain ⟨⟨f_, it⟩, lv, ev, lh, eh⟩ := p
 obtain ⟨hoP, hoT⟩ := id hPO
 obtain ⟨Al, cl, hlv, kl1, kl2⟩ := hoP.form
 obtain ⟨Ae, ce, hev, ke1, ke2⟩ := hoT.form
 change lv = .slice Al (⟨f_, it⟩ : Sg).es.length cl at hlv
 change ev = .slice Ae it.length ce at hev
 subst hlv hev
 dsimp only at hso hss1 ha hla hW2 ⊢
 have hfb : f_ ≤ 72057594037927935 := hco.1
 have hcell0 : c[o + (0 : Int).toNat * 4 + 0]? = some (.int .u64 (f_ : Int)) := hcell 0 _ rfl
 have hcell' : ∀ (q : Nat) u, [Value.int .u64 (f_ : Int), .slice Al (⟨f_, it⟩ : Sg).es.length cl, .slice Ae it.length ce, .int .i64 ((⟨f_, it⟩ : Sg).size : Int)][q]? = some u → c[o + (0 : Int).toNat * 4 + q]? = some u := hcell
 have hsl : s1.length = qs.length + 1 := by rw [hss1, List.length_cons, List.length_map]
 by_cases h1 : 1 < ((qs.length + 1 : Nat) : Int)
 rotate_left
 ·have hnr : ¬ (qs.map PtV.s ≠ [] ∧ lastI ⟨f_, it⟩ ≤ i) := by
   intro h
   have := List.length_pos_iff.2 h.1
   rw [List.length_map] at this
   omega
  have hcr2 : dropG d i ss = (0, d1, s1) := by
   rw [hcr, hss1, dropG, if_neg hnr]
  rw [hcr2] at hQ
  (repeat' (first | refine a_mv ?_ | (apply R.step; (apply Ok.gtF; exact rfl; exact rfl; exact h1); exact rfl) | (refine a_go ?_; intros) | refine a_sp (fun h => ?_) fun h => ?_ | fail))
  obtain ⟨hL2, hHL⟩ : ∃ q : Hp, q = (lb, .cells [.pointer (some ⟨rb, 0, none⟩), .int .i64 lim, .slice (some ⟨b, o, none⟩) (qs.length + 1) cp].toArray 91 (0, 0)) :: (b, .cells c.toArray 93 (0, 0)) :: (lh ++ (eh ++ ptH qs)) := ⟨_, rfl⟩
  rw [← hHL] at hg1 ⊢
  (refine Fin.rA (hL2 ++ (hp1 ++ H)) ?_)
  exact ⟨rfl, hM1, hp1, ho1, .inl ⟨hL2, hg1, rfl⟩⟩
 have hrn : qs.map PtV.s ≠ [] := by
  refine List.ne_nil_of_length_pos ?_
  rw [List.length_map]
  omega
 obtain ⟨q1, qr, hqs⟩ : ∃ q1 qr, qs = q1 :: qr := List.exists_cons_of_length_pos (by omega)
 have hW3 := hW2.2
 rw [hqs] at hW3
 have hc2 : c[o + (1 : Int).toNat * 4 + 0]? = some (.int .u64 (q1.s.first : Int)) := hcell2 q1 (by rw [hqs]; rfl)
 have hf2 : (q1.s.first : Int) = a.idx + 1 := by
  have := hW3
  rw [ha] at this
  exact this.1.first
 have hf3 := hW3.1.num
 have hai : 0 ≤ a.idx := by
  obtain ⟨a', ha', hai'⟩ := hW2.1.last
  have ha2 := ha.symm.trans ha'
  injection ha2 with ha2
  rw [← ha2] at hai'
  have := hW2.1.len
  dsimp only at hai' this
  omega
 have hsb : (q1.s.first : Int) - 1 = a.idx := by omega
 by_cases hle : a.idx ≤ i
 rotate_left
 ·have hcr2 : dropG d i ss = (0, d1, s1) := by
   rw [hcr, hss1, dropG, if_neg (fun h => hle (hla ▸ h.2))]
  rw [hcr2] at hQ
  (repeat' (first | refine a_mv ?_ | (apply R.step; (first | (apply Ok.leF; exact rfl; exact rfl; exact hle) | (apply Ok.gtTr; exact rfl; exact rfl; exact h1) | (apply Ok.subQ a.idx; exact rfl; exact rfl; exact hsb; apply wu64; omega; omega) | (apply Ok.indexAddr; exact rfl; exact rfl; omega; omega) | (apply Ok.load; exact rfl; exact rfl; (exact a_at); exact hc2)); exact rfl) | (refine a_go ?_; intros) | refine a_sp (fun h => ?_) fun h => ?_ | fail))
  obtain ⟨hL2, hHL⟩ : ∃ q : Hp, q = (lb, .cells [.pointer (some ⟨rb, 0, none⟩), .int .i64 lim, .slice (some ⟨b, o, none⟩) (qs.length + 1) cp].toArray 91 (0, 0)) :: (b, .cells c.toArray 93 (0, 0)) :: (lh ++ (eh ++ ptH qs)) := ⟨_, rfl⟩
  apply Fin.arr (H2 := hL2 ++ (hp1 ++ H)) (by rw [hHL]; (exact a_art))
  rw [← hHL] at hg1
  (refine Fin.rA (hL2 ++ (hp1 ++ H)) ?_)
  exact ⟨rfl, hM1, hp1, ho1, .inl ⟨hL2, hg1, rfl⟩⟩
 have hcr1 : dropG d1 i (⟨f_, it⟩ :: qs.map PtV.s) = if remE d1 (nameS f_) ≠ 0 then (remE d1 (nameS f_), opD (remE d1 (nameS f_)) d1 (.rem (nameS f_)), ⟨f_, it⟩ :: qs.map PtV.s) else dropG (opD 0 d1 (.rem (nameS f_))) i (qs.map PtV.s) := by
  rw [dropG, if_pos ⟨hrn, by rw [hla]; exact hle⟩]
 rw [hss1, hcr1] at hcr
 clear hcr1
 (repeat' (first | refine a_mv ?_ | (apply R.step; (first | (apply Ok.leTr; exact rfl; exact rfl; exact hle) | (apply Ok.gtTr; exact rfl; exact rfl; exact h1) | (apply Ok.subQ a.idx; exact rfl; exact rfl; exact hsb; apply wu64; omega; omega) | (apply Ok.indexAddr; exact rfl; exact rfl; omega; omega) | (apply Ok.load; exact rfl; exact rfl; (exact a_at); exact hc2)); exact rfl) | (refine a_go ?_; intros) | refine a_sp (fun h => ?_) fun h => ?_ | fail))
 have hnw := now_sz d1
 have hpw := ps_sz d1
 (apply C.regionT (t := .free 0 (.free 1 (.free 2 (.free 3 (.free 4 (.free 5 (.free 6 (.free 7 (.free 8 (.free 9 (.free 10 (.free 11 (.one 12 (.free 13 .nil)))))))))))))) (Hs := [(lb, .cells [.pointer (some ⟨rb, 0, none⟩), .int .i64 lim, .slice (some ⟨b, o, none⟩) (qs.length + 1) cp].toArray 91 (0, 0)), (b, .cells c.toArray 93 (0, 0))]); exact Mix.h; (first | exact Arr.all _ | (exact a_arr) | (exact a_arrs)); (exact a_np); kernel_rfl)
 (repeat' (first | (apply RT.step; exact rfl; intro _ _ _; (apply Ok.move; exact rfl); exact rfl) | (apply RT.callQ; exact rfl; exact inferInstance; (exact a_evs); exact rfl; (intro M' Hx' hM'; exact rName_K (n := f_) (by omega))) | (apply RT.step; exact rfl; intro _ _ _; (first | (apply Ok.indexAddr; exact rfl; exact rfl; omega; omega) | (apply Ok.load; exact rfl; exact rfl; (exact a_at); exact hcell0)); exact rfl) | refine a_ot ?_ | fail))
 (apply RT.one; apply OneT.eff; exact rfl; intro Kc hKc ops0)
 apply R.arr (H2 := hp1 ++ ((lb, .cells [.pointer (some ⟨rb, 0, none⟩), .int .i64 lim, .slice (some ⟨b, o, none⟩) (qs.length + 1) cp].toArray 91 (0, 0)) :: (b, .cells c.toArray 93 (0, 0)) :: (ptH qs ++ (lh ++ (eh ++ H))))) (by (exact a_art))
 (apply R.call; (exact a_evs); exact rfl; exact rremove_K (n := nameS f_) ho1 (by omega) (by omega); rintro _ M2 _ ⟨rfl, hM2, hp2, ho2, rfl⟩)
 (apply R.nil; apply Fin.kt (Hx := ptH qs ++ (lh ++ (eh ++ (hp2 ++ H)))) hKc; exact hM2; (exact a_art))
 (repeat' (first | refine a_ot ?_ | fail))
 apply RT.nil
 by_cases hq : remE d1 (nameS f_) = 0
 rotate_left
 ·rw [if_pos hq] at hcr
  rw [hcr] at hQ
  (repeat' (first | refine a_mv ?_ | (apply R.step; (apply Ok.neIT; exact rfl; exact rfl; exact hq); exact rfl) | (refine a_go ?_; intros) | refine a_sp (fun h => ?_) fun h => ?_ | fail))
  (refine Fin.rA (hp2 ++ H) ?_)
  exact ⟨rfl, hM1.trans_ hM2, hp2, ho2, .inr ⟨hq, rfl⟩⟩
 rw [if_neg (fun h => h hq)] at hcr
 rw [hq] at ho2
 have hnp := opD_sz d1 0 (.rem (nameS f_))
 have hg2 : RgO M2 lb rb lim (qs.map PtV.s) ((lb, rgB rb lim (.slice (adv (some ⟨b, o, none⟩) 1 4 cp) (qs.length + 1 - 1) (cp - 1))) :: ([(b, .cells c.toArray 93 (0, 0))] ++ ptH qs)) := by
  refine ⟨qs, _, _, rfl, ?_, fun q hq => (hQO q hq).mono hM2, rfl⟩
  have h3 := hrow.cut (k := 1) (by omega)
  rw [List.drop_left' (show _ = 1 * 4 from rfl)] at h3
  exact h3
 (repeat' (first | refine a_mv ?_ | (apply R.step; (first | (apply Ok.neIR; exact rfl; exact rfl; exact hq) | (apply Ok.sliceLo; exact rfl; exact rfl; omega; omega)); exact rfl) | (refine a_go ?_; intros) | refine a_sp (fun h => ?_) fun h => ?_ | fail))
 rw [show Int.toNat 1 = 1 from rfl]
 obtain ⟨hL2, hHL⟩ : ∃ q : Hp, q = (lb, rgB rb lim (.slice (adv (some ⟨b, o, none⟩) 1 4 cp) (qs.length + 1 - 1) (cp - 1))) :: ([(b, .cells c.toArray 93 (0, 0))] ++ ptH qs) := ⟨_, rfl⟩
 apply Fin.arr (H2 := hL2 ++ (hp2 ++ H)) (by rw [hHL]; unfold rgB; (exact a_art))
 rw [← hHL] at hg2
 refine Fin.again (⟨0, opD 0 d1 (.rem (nameS f_)), qs.map PtV.s, hL2, hp2, M2⟩ : CuX) ⟨hM1.trans_ hM2, hg2, ?_, ho2, ?_, hcr⟩ ?_ ?_ rfl rfl
 ·exact ⟨_, hW2.2⟩
 ·dsimp only
  rw [List.length_map]
  omega
 ·dsimp only
  rw [List.length_map]
  omega
 ·(exact a_subs)
theorem rresetG_K {lb rb : Nat} {lim : Int} {d : Dk} {ss : List Sg} {hL hp : Hp} (hg : RgO M lb rb lim ss hL) (hok : sgsOk ss) (hct : ∀ s ∈ ss, conG s) (hnm : ∀ s ∈ ss, s.it.length ≤ 1099511627776) (ho : RdO M rb d hp) (hlen : szD d + ss.length ≤ 900000) : K Tryz.prog 55 [.pointer (some ⟨lb, 0, none⟩)] M (hL ++ (hp ++ H)) fun v' M' H' => v' = .int .i64 (cutG d ss 0).1 ∧ M.le M' ∧ ∃ hp', RdO M' rb (cutG d ss 0).2.1 hp' ∧ ((∃ hL', RgO M' lb rb lim (cutG d ss 0).2.2 hL' ∧ H' = hL' ++ (hp' ++ H)) ∨ ((cutG d ss 0).1 ≠ 0 ∧ H' = hp' ++ H)) := by
 refine K.enterK Tryz.func55 rfl rfl rfl ?_
 intro Q hNP hQ
 (repeat' (first | (refine a_go ?_; intros) | refine a_sp (fun h => ?_) fun h => ?_ | fail))
 (apply R.call; (exact a_evs); exact rfl; exact rcutG_K (i := 0) ⟨Int.le_refl _, by decide⟩ hg hok hct hnm ho hlen; rintro _ M2 H2 ⟨rfl, hM2, hp2, ho2, hor⟩)
 (repeat' (first | (refine a_go ?_; intros) | refine a_sp (fun h => ?_) fun h => ?_ | fail))
 (refine Fin.rA (H2) ?_)
 exact ⟨rfl, hM2, hp2, ho2, hor⟩
end Go.Sx
end
section
namespace Go.Sx
open Go Go.Proofs Go.RowKit
attribute [local irreducible] C R Fin K Own OwnT Rd Pl Ok KOf RetOk OpsOf RP KP Res NoPanic KV KE MapS ItS EntS FsO FsR RowD PlD DkO RT KT OneT RS KS OneS
variable {M M' : Mem} {H H1 H2 : Hp}
theorem sreset_K {lb db : Nat} {lim : Int} {d : Dk} {ss : List Sg} {hL hp : Hp} (hg : SgO M lb db lim ss hL) (hok : sgsOk ss) (hct : ∀ s ∈ ss, conG s) (hnm : ∀ s ∈ ss, s.it.length ≤ 1099511627776) (ho : DkO M db d hp) (hlen : d.ps.length + ss.length ≤ 900000) : K Tryz.prog 54 [.pointer (some ⟨lb, 0, none⟩)] M (hL ++ (hp ++ H)) fun v' M' H' => v' = .int .i64 (cutG d ss 0).1 ∧ M.le M' ∧ ∃ hL' hp', SgO M' lb db lim (cutG d ss 0).2.2 hL' ∧ DkO M' db (cutG d ss 0).2.1 hp' ∧ H' = hL' ++ (hp' ++ H) := by
 refine K.enterK Tryz.func54 rfl rfl rfl ?_
 intro Q hNP hQ
 have hsl0 : ss.length ≤ 900000 := by omega
 obtain ⟨A0, c0, hR0, e0, _⟩ := hg.rec_
 rw [e0]
 (repeat' (first | (refine a_go ?_; intros) | refine a_sp (fun h => ?_) fun h => ?_ | fail))
 rw [← e0]
 apply C.loop (fun y : CuX => (y.ss.length : Int) = y.nn ∧ M.le y.M ∧ SgO y.M lb db lim y.ss y.hL ∧ (∀ s ∈ y.ss, s ∈ ss) ∧ DkO y.M db y.d y.hp ∧ y.d.ps.length + y.ss.length ≤ d.ps.length + ss.length ∧ cutR d 0 ss.reverse = cutR y.d 0 y.ss.reverse)
  (fun y => [(0, .pointer (some ⟨lb, 0, none⟩)), (3, .int .i64 y.nn)]) (fun y => y.M) (fun y => y.hL ++ (y.hp ++ H)) (fun y => y.ss.length) ⟨(ss.length : Int), d, ss, hL, hp, M⟩
 ·exact ⟨rfl, Mem.le_refl _, hg, fun s h => h, ho, Nat.le_refl _, rfl⟩
 ·(exact a_subs)
 ·exact rfl
 ·exact rfl
 rintro ⟨nn, d1, s1, hL1, hp1, M1⟩ ⟨hnn, hM1, hg1, hsub, ho1, hd1, hcr⟩
 dsimp only at hnn hM1 hg1 hsub ho1 hd1 hcr ⊢
 subst hnn
 by_cases h0 : s1.length = 0
 ·have hnl : s1 = [] := List.eq_nil_of_length_eq_zero h0
  subst hnl
  have hcr2 : cutR d 0 ss.reverse = (0, d1, []) := hcr
  have hQ2 : cutG d ss 0 = (0, d1, []) := by
   unfold cutG
   rw [hcr2]
   rfl
  rw [hQ2] at hQ
  (repeat' (first | refine a_mv ?_ | (apply R.step; (apply Ok.gtF; exact rfl; exact rfl; omega); exact rfl) | (refine a_go ?_; intros) | refine a_sp (fun h => ?_) fun h => ?_ | fail))
  (refine Fin.rA (hL1 ++ (hp1 ++ H)) ?_)
  exact ⟨rfl, hM1, hL1, hp1, hg1, ho1, rfl⟩
 obtain ⟨qs, p, b, o, cp, c, hX⟩ := hg1.endO (by omega)
 have hhp := hX.heap
 unfold lgO at hhp
 subst hhp
 have hgl : s1.getLast? = some p.s := by rw [hX.segs, List.getLast?_append]; rfl
 have hpm : p.s ∈ s1 := List.mem_of_getLast? hgl
 have hso := hok _ (hsub _ hpm)
 have hco := hct _ (hsub _ hpm)
 have hns := hnm _ (hsub _ hpm)
 have hsl2 := hX.len
 have hcell := hX.cell
 have hroom := hX.room
 have hcp1 := hX.cap1
 have hcp2 := hX.cap2
 have hll : (s1.length : Int) - 1 = ((s1.length - 1 : Nat) : Int) := by omega
 have hrev : s1.reverse = p.s :: (qs.map PtV.s).reverse := by rw [hX.segs, List.reverse_append]; rfl
 rw [hrev] at hcr
 have hPO := hX.own
 have hallX := hX.all
 have hrowX := hX.row
 obtain ⟨⟨f_, it⟩, lv, ev, lh, eh⟩ := p
 obtain ⟨hoP, hoT⟩ := id hPO
 obtain ⟨Al, cl, hlv, kl1, kl2⟩ := hoP.form
 obtain ⟨Ae, ce, hev, ke1, ke2⟩ := hoT.form
 change lv = .slice Al (⟨f_, it⟩ : Sg).es.length cl at hlv
 change ev = .slice Ae it.length ce at hev
 subst hlv hev
 dsimp only at hcr hso hns hoP hoT ⊢
 have hfb : f_ ≤ 72057594037927935 := hco.1
 have hcell0 : c[o + ((s1.length - 1 : Nat) : Int).toNat * 3 + 0]? = some (.int .u64 (f_ : Int)) := hcell 0 _ rfl
 have hcell' : ∀ (q : Nat) u, [Value.int .u64 (f_ : Int), .slice Al (⟨f_, it⟩ : Sg).es.length cl, .slice Ae it.length ce][q]? = some u → c[o + ((s1.length - 1 : Nat) : Int).toNat * 3 + q]? = some u := hcell
 have hge : (0 : Int) ≤ (f_ : Int) := Int.natCast_nonneg _
 ·have hcr1 : cutR d1 0 (⟨f_, it⟩ :: (qs.map PtV.s).reverse) = if remE d1 (nameS f_) ≠ 0 then (remE d1 (nameS f_), opD (remE d1 (nameS f_)) d1 (.rem (nameS f_)), ⟨f_, it⟩ :: (qs.map PtV.s).reverse) else cutR (opD 0 d1 (.rem (nameS f_))) 0 (qs.map PtV.s).reverse := by
   rw [cutR, if_pos hge]
  rw [hcr1] at hcr
  clear hcr1
  (repeat' (first | refine a_mv ?_ | (apply R.step; (first | (apply Ok.gtTr; exact rfl; exact rfl; omega) | (apply Ok.subQ ((s1.length - 1 : Nat) : Int); exact rfl; exact rfl; exact hll; apply w64; omega; omega) | (apply Ok.indexAddr; exact rfl; exact rfl; omega; omega) | (apply Ok.load; exact rfl; exact rfl; (exact a_at); exact hcell0)); exact rfl) | (refine a_go ?_; intros) | refine a_sp (fun h => ?_) fun h => ?_ | fail))
  (apply C.regionT (t := .free 0 (.free 1 (.free 2 (.free 3 (.free 4 (.free 5 (.free 6 (.free 7 (.free 8 (.free 9 (.free 10 (.free 11 (.free 12 (.free 13 (.one 14 (.free 15 .nil)))))))))))))))) (Hs := [(lb, .cells [.pointer (some ⟨db, 0, none⟩), .int .i64 lim, .slice (some ⟨b, o, none⟩) s1.length cp].toArray 78 (0, 0)), (b, .cells c.toArray 85 (0, 0))]); exact Mix.h; (first | exact Arr.all _ | (exact a_arr) | (exact a_arrs)); (exact a_np); kernel_rfl)
  (repeat' (first | (apply RT.step; exact rfl; intro _ _ _; (apply Ok.move; exact rfl); exact rfl) | (apply RT.callQ; exact rfl; exact inferInstance; (exact a_evs); exact rfl; (intro M' Hx' hM'; exact segName_K (n := f_) (by omega))) | (apply RT.step; exact rfl; intro _ _ _; (first | (apply Ok.subQ ((s1.length - 1 : Nat) : Int); exact rfl; exact rfl; exact hll; apply w64; omega; omega) | (apply Ok.indexAddr; exact rfl; exact rfl; omega; omega) | (apply Ok.load; exact rfl; exact rfl; (exact a_at); exact hcell0)); exact rfl) | refine a_ot ?_ | fail))
  (apply RT.one; apply OneT.eff; exact rfl; intro Kc hKc ops0)
  apply R.arr (H2 := hp1 ++ ((lb, .cells [.pointer (some ⟨db, 0, none⟩), .int .i64 lim, .slice (some ⟨b, o, none⟩) s1.length cp].toArray 78 (0, 0)) :: (b, .cells c.toArray 85 (0, 0)) :: (ptH qs ++ (lh ++ (eh ++ H))))) (by (exact a_art))
  (apply R.call; (exact a_evs); exact rfl; exact remove_K (n := nameS f_) ho1 (by omega); rintro _ M2 _ ⟨rfl, hM2, hp2, ho2, rfl⟩)
  (apply R.nil; apply Fin.kt (Hx := ptH qs ++ (lh ++ (eh ++ (hp2 ++ H)))) hKc; exact hM2; (exact a_art))
  (repeat' (first | refine a_ot ?_ | fail))
  apply RT.nil
  by_cases hq : remE d1 (nameS f_) = 0
  rotate_left
  ·rw [if_pos hq] at hcr
   have hQ2 : cutG d ss 0 = (remE d1 (nameS f_), opD (remE d1 (nameS f_)) d1 (.rem (nameS f_)), s1) := by
    unfold cutG
    rw [hcr]
    dsimp only
    rw [if_pos hq, ← hrev, List.reverse_reverse]
   rw [hQ2] at hQ
   (repeat' (first | refine a_mv ?_ | (apply R.step; (apply Ok.neIT; exact rfl; exact rfl; exact hq); exact rfl) | (refine a_go ?_; intros) | refine a_sp (fun h => ?_) fun h => ?_ | fail))
   obtain ⟨hL2, hHL⟩ : ∃ q : Hp, q = (lb, .cells [.pointer (some ⟨db, 0, none⟩), .int .i64 lim, .slice (some ⟨b, o, none⟩) s1.length cp].toArray 78 (0, 0)) :: (b, .cells c.toArray 85 (0, 0)) :: (ptH qs ++ (lh ++ eh)) := ⟨_, rfl⟩
   apply Fin.arr (H2 := hL2 ++ (hp2 ++ H)) (by rw [hHL]; (exact a_art))
   rw [← hHL] at hg1
   (refine Fin.rA (hL2 ++ (hp2 ++ H)) ?_)
   exact ⟨rfl, hM1.trans_ hM2, hL2, hp2, hg1.mono hM2, ho2, rfl⟩
  rw [if_neg (fun h => h hq)] at hcr
  rw [hq] at ho2
  have hnp : (opD 0 d1 (.rem (nameS f_))).ps.length ≤ d1.ps.length + 1 := opD_ps _ _ _
  have hg2 : SgO M2 lb db lim (qs.map PtV.s) ((lb, lgO db lim (.slice (some ⟨b, o, none⟩) (s1.length - 1) cp)) :: ([(b, .cells c.toArray 85 (0, 0))] ++ ptH qs)) := by
   refine ⟨qs, _, _, rfl, ?_, fun q hq => (hallX q hq).mono (hM2), rfl⟩
   have h1 := hrowX.shrink (k := s1.length - 1) (by omega)
   rw [List.take_left' (by rw [ptC_flat]; omega)] at h1
   rw [show qs.length = s1.length - 1 by omega]
   exact h1
  (repeat' (first | refine a_mv ?_ | (apply R.step; (first | (apply Ok.neIR; exact rfl; exact rfl; exact hq) | (apply Ok.subQ ((s1.length - 1 : Nat) : Int); exact rfl; exact rfl; exact hll; apply w64; omega; omega) | (apply Ok.sliceHi; exact rfl; exact rfl; omega; omega)); exact rfl) | (refine a_go ?_; intros) | refine a_sp (fun h => ?_) fun h => ?_ | fail))
  obtain ⟨hL2, hHL⟩ : ∃ q : Hp, q = (lb, lgO db lim (.slice (some ⟨b, o, none⟩) (s1.length - 1) cp)) :: ([(b, .cells c.toArray 85 (0, 0))] ++ ptH qs) := ⟨_, rfl⟩
  apply Fin.arr (H2 := hL2 ++ (hp2 ++ H)) (by rw [hHL, Int.toNat_natCast]; unfold lgO; (exact a_art))
  rw [← hHL] at hg2
  refine Fin.again (⟨((s1.length - 1 : Nat) : Int), opD 0 d1 (.rem (nameS f_)), qs.map PtV.s, hL2, hp2, M2⟩ : CuX) ⟨by dsimp only; rw [List.length_map]; omega, hM1.trans_ hM2, hg2, ?_, ho2, ?_, hcr⟩ ?_ ?_ rfl rfl
  ·intro s hs
   exact hsub s (by rw [hX.segs]; exact List.mem_append_left _ hs)
  ·dsimp only
   rw [List.length_map]
   omega
  ·dsimp only
   rw [List.length_map]
   omega
  ·(exact a_subs)
end Go.Sx
end
section
namespace Go.Sx
open Go Go.Proofs Go.RowKit
attribute [local irreducible] C R Fin K Own OwnT Rd Pl Ok KOf RetOk OpsOf RP KP Res NoPanic KV KE MapS ItS EntS FsO FsR RowD PlD DkO PlFs RT KT OneT RS KS OneS RdO SgO RgO
variable {M M' : Mem} {H H1 H2 : Hp}
theorem take_get {l xs : List Value} {n j : Nat} {u : Value} (h : l.take n = xs) (hj : xs[j]? = some u) : l[j]? = some u := by
 rw [← h, List.getElem?_take] at hj
 split at hj
 ·exact hj
 ·cases hj
theorem take_set {l xs : List Value} {n j : Nat} {u : Value} (h : l.take n = xs) : (l.set j u).take n = xs.set j u := by
 rw [← h, List.take_set]
theorem OwnP.over {M : Mem} {v : Value} {es : List En} {hrow : Hp} (h : OwnP M v es hrow) {i : Nat} (hi : i < es.length) : ∃ b o cap, ∃ (l : List Value) (a : Value), v = .slice (some ⟨b, o, none⟩) es.length cap ∧ hrow = [(b, .cells l.toArray 33 (0, 0))] ∧ es.length ≤ cap ∧ o + es.length * 5 ≤ l.length ∧
  (∀ (q : Nat) u, (ecells es[i] a)[q]? = some u → l[o + (i * 5 + q)]? = some u) ∧
  ∀ t : Int, OwnP M v (es.set i { es[i] with idx := t }) [(b, .cells (l.set (o + (i * 5 + 2)) (.int .u64 t)).toArray 33 (0, 0))] := by
 obtain ⟨vs, h1, h2⟩ := h
 have hvl : vs.length = es.length := by rw [h2.1, List.length_map]
 unfold OwnT at h1
 obtain ⟨hxl, ⟨_, h0, _⟩ | ⟨b, o, cap, c, rfl, rfl, g3, g4, g5, g6⟩⟩ := h1
 ·omega
 have hms : es.length * 5 ≤ cap * 5 := Nat.mul_le_mul_right _ g3
 have hiv : i < vs.length := by omega
 refine ⟨b, o, cap, c.toList, vs[i], rfl, by simp, g3, by have : c.toList.length = c.size := Array.length_toList; omega, fun q u hq => ?_, fun t => ⟨vs, ?_, ?_⟩⟩
 ·have hg := flat_get _ (rowE_len es vs) i q _ u (rowE_i hi hiv) hq
  have := take_get g6 hg
  rwa [List.getElem?_drop] at this
 ·have hrow2 : (rowE (es.set i { es[i] with idx := t }) vs).flatten = (rowE es vs).flatten.set (i * 5 + 2) (.int .u64 t) := by
   have hrl : i < (rowE es vs).length := by unfold rowE; rw [List.length_zipWith]; omega
   rw [rows_set (n := 5) (rowE_len es vs) (i := i) (q := 2) hrl (by omega)]
   congr 1
   refine List.ext_getElem (by unfold rowE; simp) fun n h1 h2 => ?_
   by_cases hn : i = n
   ·subst hn
    rw [List.getElem_set_self]
    simp only [rowE, List.getElem_zipWith, List.getElem_set_self]
    rfl
   ·rw [List.getElem_set_ne hn]
    simp only [rowE, List.getElem_zipWith, List.getElem_set_ne hn]
  unfold OwnT
  rw [List.length_set, hrow2]
  refine ⟨by rw [List.length_set]; exact hxl, .inr ⟨b, o, cap, _, rfl, rfl, g3, g4, by simp only [List.size_toArray, List.length_set, Array.length_toList]; exact g5, ?_⟩⟩
  have hd : ((c.toList.set (o + (i * 5 + 2)) (.int .u64 t)).drop o) = (c.toList.drop o).set (i * 5 + 2) (.int .u64 t) := by
   rw [List.drop_set, if_neg (by omega)]
   congr 1
   omega
  show ((c.toList.set (o + (i * 5 + 2)) (.int .u64 t)).drop o).take (es.length * 5) = _
  rw [hd]
  exact take_set g6
 ·have : (es.set i { es[i] with idx := t }).map En.data = es.map En.data := by
   rw [List.map_set]
   show (es.map En.data).set i es[i].data = _
   refine List.ext_getElem (by simp) fun n h1 h2 => ?_
   rw [List.getElem_set]
   split
   ·rename_i hn; subst hn; rw [List.getElem_map]
   ·rfl
  rw [this]
  exact h2
theorem handE_data : ∀ (i t : Int) (ls : List En), ∀ e ∈ handE i t ls, e.data.length ≤ 31
 | _, _, [], e, h => absurd h (List.not_mem_nil)
 | i, t, l :: ls, e, h => by
  rw [handE] at h
  rcases List.mem_cons.1 h with rfl | h
  ·unfold mkE
   dsimp only
   split
   ·rw [List.length_cons, List.length_take]; omega
   ·exact Nat.zero_le _
  ·exact handE_data _ _ ls e h
theorem InvW.smG {n k : Nat} {d : Dk} {ss : List Sg} (h : InvW n d ss) (hn : n ≤ 1000) (hk : k ≤ 1000) : smG k ss := fun s hs => by
 have h1 := h.bd s hs
 have h2 := (okW.con h.ok s hs).1
 exact ⟨h2, by omega⟩
theorem InvW.now {n : Nat} {d d' : Dk} {ss : List Sg} (h : InvW n d ss) (hd : d'.now = d.now) : InvW n d' ss := ⟨h.ok, h.bd, by rw [hd]; exact h.fit⟩
theorem firstR_bd {ss : List Sg} (h : okW none ss) : 0 ≤ firstR ss ∧ firstR ss ≤ 72057594037927935 := by
 unfold firstR
 match ss, h with
 | [], _ => exact ⟨by decide, by decide⟩
 | s :: r, h =>
  have := h.1.num
  dsimp only [List.head?]
  omega
theorem listG_ent {ss : List Sg} (h : sgsOk ss) : ∀ e ∈ listG ss, entS e := by
 intro e he
 unfold listG at he
 obtain ⟨s, hs, h2⟩ := List.mem_flatMap.1 he
 exact (h s hs).2 e h2
theorem lastG_bd {ss : List Sg} (h : sgsOk ss) : 0 ≤ lastG ss ∧ lastG ss ≤ 72057594037927935 := by
 unfold lastG lastO
 cases hl : ss.getLast? with
 | none => exact ⟨by decide, by decide⟩
 | some s =>
  dsimp only [Option.bind]
  cases he : s.es.getLast? with
  | none => exact ⟨by decide, by decide⟩
  | some a =>
   have h1 := (h s (List.mem_of_getLast? hl)).2 a (List.mem_of_getLast? he)
   have h2 := (entS_kind h1).2.2.2.2.2.1
   dsimp only
   omega
theorem appG_W {n : Nat} {lim : Int} {d : Dk} {ss : List Sg} {es : List En} (h : InvW n d ss) (hn : ndD d) : ((appG d lim ss es).1 = 0 ∨ (appG d lim ss es).1 = 1 → InvW (n + es.length) (appG d lim ss es).2.1 (appG d lim ss es).2.2 ∧ (appG d lim ss es).2.2.length ≤ ss.length + es.length) ∧ szD (appG d lim ss es).2.1 ≤ szD d + es.length ∧ crD (appG d lim ss es).2.1 ≤ crD d + es.length ∧ (folE (lastO ss) es → (appG d lim ss es).1 ≠ 1) := by
 unfold appG
 split
 ·rename_i hf
  obtain ⟨g1, g2⟩ := appL_W (lim := lim) es d ss n h hn hf
  obtain ⟨g3, g4⟩ := appL_sz (lim := lim) es d ss
  refine ⟨fun h0 => ?_, g3, g4, fun _ => g1⟩
  rcases h0 with h0 | h0
  ·exact g2 h0
  ·exact absurd h0 g1
 ·rename_i hf
  exact ⟨fun _ => ⟨h.mono (by omega), by dsimp only; omega⟩, by dsimp only; omega, by dsimp only; omega, fun hq => absurd hq hf⟩
structure RixX where
 ix : Int
 tm : Int
structure RysX where
 v : Value
 es : List En
 M : Mem
structure RvX where
 e : Int
 d : Dk
 ss : List Sg
 hp : Hp
 hq : Hp
 hL : Hp
 hW : Hp
 M : Mem
set_option maxHeartbeats 8000000 in
theorem run_K {db rb lb lq n : Nat} {d : Dk} {lim : Int} {ss : List Sg} {hp hq hL hR : Hp} {w idx off a b c : Int} {lv : Value} {ls : List En} (hl : 64 ≤ lim ∧ lim ≤ 16384) (ho : DkO M db d hp) (hr : RdO M rb d hq) (hg : SgO M lb db lim ss hL) (hgr : RgO M lq rb lim ss hR) (hI : InvW n d ss) (hn : n ≤ 900) (hsz : szD d ≤ 90000) (hsl : ss.length ≤ 5000) (hlv : EnL M lv ls) (hrg : ∀ e ∈ ls, rng e) (hix : 0 ≤ idx ∧ idx ≤ 18446744073709551615) : K Tryz.prog 15 [.pointer (some ⟨db, 0, none⟩), .pointer (some ⟨rb, 0, none⟩), .pointer (some ⟨lb, 0, none⟩), .pointer (some ⟨lq, 0, none⟩), .agg #[.int .i64 w, .int .u64 idx, lv, .int .i64 off, .int .i64 a, .int .i64 b, .int .i64 c]] M (hp ++ (hq ++ (hL ++ (hR ++ H)))) fun v' M' H' => M.le M' ∧ ∃ over d' hp' hq', v' = .tuple #[.bool true, .bool over] ∧ DkO M' db d' hp' ∧ RdO M' rb d' hq' ∧ szD d' ≤ szD d + ss.length + 5 ∧ crD d' ≤ crD d + 4 ∧ ((over = true ∧ H' = hp' ++ (hq' ++ H)) ∨ (over = false ∧ ∃ ss' hL' hR', SgO M' lb db lim ss' hL' ∧ RgO M' lq rb lim ss' hR' ∧ InvW (n + 4) d' ss' ∧ ss'.length ≤ ss.length + 4 ∧ H' = hp' ++ (hq' ++ (hL' ++ (hR' ++ H))))) := by
 refine K.enterK Tryz.func15 rfl rfl rfl ?_
 intro Q hNP hQ
 obtain ⟨A, cap, vs, rfl, l1, l2, l3, l4⟩ := id hlv
 have hok := okW.sgs hI.ok
 have hcon := okW.con hI.ok
 have hfb := firstR_bd hI.ok
 have hlb := lastG_bd hok
 (repeat' (first | (refine a_bx ?_; intro bx) | (refine a_go ?_; intros) | refine a_sp (fun h => ?_) fun h => ?_ | fail))
 apply R.arr (H2 := hp ++ (hq ++ ((bx, .cells #[.int .i64 w, .int .u64 idx, .slice A ls.length cap, .int .i64 off, .int .i64 a, .int .i64 b, .int .i64 c] 57 (0, 0)) :: (hL ++ (hR ++ H))))) (by (exact a_arrs))
 (apply R.call; (exact a_evs); exact rfl; exact harms_K (what := a) (a := b) (b := c) ho hr (by omega); rintro _ M4 _ ⟨rfl, hM4, hp4, hq4, ho4, hr4, rfl⟩)
 have hsz4 := harmD_sz d a b c
 have hcr4 := harmD_cr d a b c
 (repeat' (first | (refine a_bx ?_; intro bx) | (refine a_go ?_; intros) | refine a_sp (fun h => ?_) fun h => ?_ | fail))
 (apply R.call; (exact a_evs); exact rfl; exact pick_K a 9 (by decide) (by decide); rintro _ M4 _ ⟨rfl, rfl, rfl⟩)
 by_cases h7 : a % 9 = 7
 ·(repeat' (first | refine a_mv ?_ | (apply R.step; (apply Ok.eqIR; exact rfl; exact rfl; exact h7); exact rfl) | (refine a_bx ?_; intro bx) | (refine a_go ?_; intros) | refine a_sp (fun h => ?_) fun h => ?_ | fail))
  (refine Fin.rA (hp4 ++ (hq4 ++ H)) ?_)
  exact ⟨hM4, true, _, hp4, hq4, rfl, ho4, hr4, by omega, by omega, .inl ⟨rfl, rfl⟩⟩
 have hI4 := hI.now (harmD_now (d := d) (a := b) (b := c) h7)
 generalize harmD d a b c = d4 at ho4 hr4 hsz4 hcr4 hI4
 have hg4 := hg.mono hM4
 have hgr4 := hgr.mono hM4
 have hps4 := ps_sz d4
 (repeat' (first | refine a_mv ?_ | (apply R.step; (apply Ok.eqIF; exact rfl; exact rfl; exact h7); exact rfl) | (refine a_bx ?_; intro bx) | (refine a_go ?_; intros) | refine a_sp (fun h => ?_) fun h => ?_ | fail))
 apply R.arr (H2 := hR ++ (hp4 ++ (hq4 ++ ((bx, .cells #[.int .i64 w, .int .u64 idx, .slice A ls.length cap, .int .i64 off, .int .i64 a, .int .i64 b, .int .i64 c] 57 (0, 0)) :: (hL ++ H))))) (by (exact a_arrs))
 (apply R.call; (exact a_evs); exact rfl; exact rFirst_K hgr4; rintro _ M4 _ ⟨rfl, rfl, rfl⟩)
 (repeat' (first | (refine a_bx ?_; intro bx) | (refine a_g0 ?_; intros) | refine a_s3 (fun h => ?_) fun h => ?_ | fail))
 apply C.seqCut (X := RvX) (fun y => M4.le y.M ∧ DkO y.M db y.d y.hp ∧ RdO y.M rb y.d y.hq ∧ SgO y.M lb db lim y.ss y.hL ∧ szD y.d ≤ szD d + ss.length + 5 ∧ crD y.d ≤ crD d + 4 ∧ (((y.e = 0 ∨ y.e = 1) ∧ RgO y.M lq rb lim y.ss y.hW ∧ InvW (n + 4) y.d y.ss ∧ y.ss.length ≤ ss.length + 4) ∨ (y.e ≠ 0 ∧ y.e ≠ 1)))
  (fun y => [(12, .int .i64 y.e), (13, .int .i64 y.e)]) (fun y => y.M) (fun y => y.hp ++ (y.hq ++ (y.hL ++ (y.hW ++ H))))
 rotate_left
 ·rintro ⟨e, d5, ss5, hp5, hq5, hL5, hW5, M5⟩ ⟨hM5, ho5, hr5, hg5, hz5, hc5, hor⟩
  dsimp only at hM5 ho5 hr5 hg5 hz5 hc5 hor ⊢
  have hM05 := hM4.trans_ hM5
  rcases hor with ⟨he, hgr5, hI5, hs5⟩ | ⟨he0, he1⟩
  ·rcases he with he | he
   ·subst he
    (repeat' (first | refine a_mv ?_ | (apply R.step; (exact a_cmp); exact rfl) | (refine a_bx ?_; intro bx) | (refine a_go ?_; intros) | refine a_sp (fun h => ?_) fun h => ?_ | fail))
    (refine Fin.rA (hp5 ++ (hq5 ++ (hL5 ++ (hW5 ++ H)))) ?_)
    exact ⟨hM05, false, d5, hp5, hq5, rfl, ho5, hr5, hz5, hc5, .inr ⟨rfl, ss5, hL5, hW5, hg5, hgr5, hI5, hs5, rfl⟩⟩
   ·subst he
    (repeat' (first | refine a_mv ?_ | (apply R.step; (exact a_cmp); exact rfl) | (refine a_bx ?_; intro bx) | (refine a_go ?_; intros) | refine a_sp (fun h => ?_) fun h => ?_ | fail))
    (refine Fin.rA (hp5 ++ (hq5 ++ (hL5 ++ (hW5 ++ H)))) ?_)
    exact ⟨hM05, false, d5, hp5, hq5, rfl, ho5, hr5, hz5, hc5, .inr ⟨rfl, ss5, hL5, hW5, hg5, hgr5, hI5, hs5, rfl⟩⟩
  ·(repeat' (first | refine a_mv ?_ | (apply R.step; (first | (apply Ok.eqIR; exact rfl; exact rfl; exact rfl) | (apply Ok.neIT; exact rfl; exact rfl; exact he0) | (apply Ok.neIT; exact rfl; exact rfl; exact he1)); exact rfl) | (refine a_bx ?_; intro bx) | (refine a_go ?_; intros) | refine a_sp (fun h => ?_) fun h => ?_ | fail))
   (refine Fin.rA (hp5 ++ (hq5 ++ H)) ?_)
   exact ⟨hM05, true, d5, hp5, hq5, rfl, ho5, hr5, hz5, hc5, .inl ⟨rfl, rfl⟩⟩
 have hnm : ∀ s ∈ ss, s.it.length ≤ 1099511627776 := fun s hs => by have := (hI.bd s hs).1; omega
 have hm6 := Int.emod_nonneg idx (show (6 : Int) ≠ 0 by decide)
 have hm6b := Int.emod_lt_of_pos idx (show (0 : Int) < 6 by decide)
 have hnd := ho4.nodup
 (apply C.seqK; intro _ _)
 (repeat' (first | (refine a_bx ?_; intro bx) | (refine a_go ?_; intros) | refine a_sp (fun h => ?_) fun h => ?_ | fail))
 (apply R.call; (exact a_evs); exact rfl; exact pick_K w 10 (by decide) (by decide); rintro _ M4 _ ⟨rfl, rfl, rfl⟩)
 obtain ⟨ci, hci⟩ : ∃ ci, firstR ss + idx % 6 = ci := ⟨_, rfl⟩
 by_cases h5 : w % 10 = 5
 ·obtain ⟨hc0, hc1⟩ := cutG_W (i := ci) hI4 hnd
  have hcz := cutG_sz (i := ci) d4 ss
  (repeat' (first | refine a_mv ?_ | (apply R.step; (first | (apply Ok.eqIR; exact rfl; exact rfl; exact h5) | (apply Ok.remP; exact rfl; exact rfl; omega; omega) | (apply Ok.addQ ci; exact rfl; exact rfl; exact hci; apply wu64; omega; omega)); exact rfl) | (refine a_bx ?_; intro bx) | (refine a_go ?_; intros) | refine a_sp (fun h => ?_) fun h => ?_ | fail))
  apply R.arr (H2 := hL ++ (hp4 ++ (hR ++ (hq4 ++ ((bx, .cells #[.int .i64 w, .int .u64 idx, .slice A ls.length cap, .int .i64 off, .int .i64 a, .int .i64 b, .int .i64 c] 57 (0, 0)) :: H))))) (by (exact a_arrs))
  (apply R.call; (exact a_evs); exact rfl; exact scut_K (i := ci) (by omega) hg4 hok hcon hnm ho4 (by omega); rintro _ M5 _ ⟨rfl, hM5, hL5, hp5, hg5, ho5, rfl⟩)
  (repeat' (first | refine a_mv ?_ | (apply R.step; (first | (apply Ok.eqIR; exact rfl; exact rfl; exact h5) | (apply Ok.remP; exact rfl; exact rfl; omega; omega) | (apply Ok.addQ ci; exact rfl; exact rfl; exact hci; apply wu64; omega; omega)); exact rfl) | (refine a_bx ?_; intro bx) | (refine a_go ?_; intros) | refine a_sp (fun h => ?_) fun h => ?_ | fail))
  apply R.arr (H2 := hR ++ (hq4 ++ (hL5 ++ (hp5 ++ ((bx, .cells #[.int .i64 w, .int .u64 idx, .slice A ls.length cap, .int .i64 off, .int .i64 a, .int .i64 b, .int .i64 c] 57 (0, 0)) :: H))))) (by (exact a_arrs))
  (apply R.call; (exact a_evs); exact rfl; exact rcutG_K (i := ci) (by omega) (hgr4.mono hM5) hok hcon hnm (hr4.mono hM5) (by omega); rintro _ M6 Hx ⟨rfl, hM6, hq6, hr6, hor⟩)
  rcases hor with ⟨hW6, hgr6, rfl⟩ | ⟨hne, rfl⟩
  ·(repeat' (first | (refine a_bx ?_; intro bx) | (refine a_go ?_; intros) | refine a_sp (fun h => ?_) fun h => ?_ | fail))
   (apply Fin.arr (H2 := hp5 ++ (hq6 ++ (hL5 ++ (hW6 ++ H)))); (exact a_arrs))
   refine Fin.join (⟨(cutG d4 ss ci).1, (cutG d4 ss ci).2.1, (cutG d4 ss ci).2.2, hp5, hq6, hL5, hW6, M6⟩ : RvX) ⟨hM5.trans_ hM6, ho5.mono hM6, hr6, hg5.mono hM6, by dsimp only; omega, by dsimp only; omega, ?_⟩ ?_ rfl rfl
   ·by_cases he : (cutG d4 ss ci).1 = 0
    ·exact .inl ⟨.inl he, hgr6, (hc1 he).1.mono (by omega), by have := (hc1 he).2; dsimp only; omega⟩
    ·exact .inr ⟨he, hc0⟩
   ·(exact a_subs)
  ·(repeat' (first | (refine a_bx ?_; intro bx) | (refine a_go ?_; intros) | refine a_sp (fun h => ?_) fun h => ?_ | fail))
   (apply Fin.arr (H2 := hp5 ++ (hq6 ++ (hL5 ++ (([] : Hp) ++ H)))); (exact a_arrs))
   refine Fin.join (⟨(cutG d4 ss ci).1, (cutG d4 ss ci).2.1, (cutG d4 ss ci).2.2, hp5, hq6, hL5, ([] : Hp), M6⟩ : RvX) ⟨hM5.trans_ hM6, ho5.mono hM6, hr6, hg5.mono hM6, by dsimp only; omega, by dsimp only; omega, ?_⟩ ?_ rfl rfl
   ·exact .inr ⟨hne, hc0⟩
   ·(exact a_subs)
 by_cases h6 : w % 10 = 6
 ·obtain ⟨hc0, hc1⟩ := dropG_W (i := ci) ss d4 hI4
  have hcz := dropG_sz (i := ci) ss d4
  (repeat' (first | refine a_mv ?_ | (apply R.step; (first | (apply Ok.eqIF; exact rfl; exact rfl; exact h5) | (apply Ok.eqIR; exact rfl; exact rfl; exact h6) | (apply Ok.remP; exact rfl; exact rfl; omega; omega) | (apply Ok.addQ ci; exact rfl; exact rfl; exact hci; apply wu64; omega; omega)); exact rfl) | (refine a_bx ?_; intro bx) | (refine a_go ?_; intros) | refine a_sp (fun h => ?_) fun h => ?_ | fail))
  apply R.arr (H2 := hL ++ (hp4 ++ (hR ++ (hq4 ++ ((bx, .cells #[.int .i64 w, .int .u64 idx, .slice A ls.length cap, .int .i64 off, .int .i64 a, .int .i64 b, .int .i64 c] 57 (0, 0)) :: H))))) (by (exact a_arrs))
  (apply R.call; (exact a_evs); exact rfl; exact sdrop_K (i := ci) hg4 hok hcon ho4 (by omega); rintro _ M5 _ ⟨rfl, hM5, hL5, hp5, hg5, ho5, rfl⟩)
  (repeat' (first | refine a_mv ?_ | (apply R.step; (first | (apply Ok.eqIF; exact rfl; exact rfl; exact h5) | (apply Ok.eqIR; exact rfl; exact rfl; exact h6) | (apply Ok.remP; exact rfl; exact rfl; omega; omega) | (apply Ok.addQ ci; exact rfl; exact rfl; exact hci; apply wu64; omega; omega)); exact rfl) | (refine a_bx ?_; intro bx) | (refine a_go ?_; intros) | refine a_sp (fun h => ?_) fun h => ?_ | fail))
  apply R.arr (H2 := hR ++ (hq4 ++ (hL5 ++ (hp5 ++ ((bx, .cells #[.int .i64 w, .int .u64 idx, .slice A ls.length cap, .int .i64 off, .int .i64 a, .int .i64 b, .int .i64 c] 57 (0, 0)) :: H))))) (by (exact a_arrs))
  (apply R.call; (exact a_evs); exact rfl; exact rdropG_K (i := ci) (hgr4.mono hM5) hI.ok (hr4.mono hM5) (by omega); rintro _ M6 Hx ⟨rfl, hM6, hq6, hr6, hor⟩)
  rcases hor with ⟨hW6, hgr6, rfl⟩ | ⟨hne, rfl⟩
  ·(repeat' (first | (refine a_bx ?_; intro bx) | (refine a_go ?_; intros) | refine a_sp (fun h => ?_) fun h => ?_ | fail))
   (apply Fin.arr (H2 := hp5 ++ (hq6 ++ (hL5 ++ (hW6 ++ H)))); (exact a_arrs))
   refine Fin.join (⟨(dropG d4 ci ss).1, (dropG d4 ci ss).2.1, (dropG d4 ci ss).2.2, hp5, hq6, hL5, hW6, M6⟩ : RvX) ⟨hM5.trans_ hM6, ho5.mono hM6, hr6, hg5.mono hM6, by dsimp only; omega, by dsimp only; omega, ?_⟩ ?_ rfl rfl
   ·by_cases he : (dropG d4 ci ss).1 = 0
    ·exact .inl ⟨.inl he, hgr6, (hc1 he).1.mono (by omega), by have := (hc1 he).2; dsimp only; omega⟩
    ·exact .inr ⟨he, hc0⟩
   ·(exact a_subs)
  ·(repeat' (first | (refine a_bx ?_; intro bx) | (refine a_go ?_; intros) | refine a_sp (fun h => ?_) fun h => ?_ | fail))
   (apply Fin.arr (H2 := hp5 ++ (hq6 ++ (hL5 ++ (([] : Hp) ++ H)))); (exact a_arrs))
   refine Fin.join (⟨(dropG d4 ci ss).1, (dropG d4 ci ss).2.1, (dropG d4 ci ss).2.2, hp5, hq6, hL5, ([] : Hp), M6⟩ : RvX) ⟨hM5.trans_ hM6, ho5.mono hM6, hr6, hg5.mono hM6, by dsimp only; omega, by dsimp only; omega, ?_⟩ ?_ rfl rfl
   ·exact .inr ⟨hne, hc0⟩
   ·(exact a_subs)
 by_cases h7 : w % 10 = 7
 ·obtain ⟨hc0, hc1⟩ := cutG_W (i := 0) hI4 hnd
  have hcz := cutG_sz (i := 0) d4 ss
  by_cases h4 : idx % 4 = 0
  ·(repeat' (first | refine a_mv ?_ | (apply R.step; (first | (apply Ok.eqIF; exact rfl; exact rfl; exact h5) | (apply Ok.eqIF; exact rfl; exact rfl; exact h6) | (apply Ok.eqIR; exact rfl; exact rfl; exact h7) | (apply Ok.remP; exact rfl; exact rfl; omega; omega) | (apply Ok.eqIR; exact rfl; exact rfl; exact h4)); exact rfl) | (refine a_bx ?_; intro bx) | (refine a_go ?_; intros) | refine a_sp (fun h => ?_) fun h => ?_ | fail))
   apply R.arr (H2 := hL ++ (hp4 ++ (hR ++ (hq4 ++ ((bx, .cells #[.int .i64 w, .int .u64 idx, .slice A ls.length cap, .int .i64 off, .int .i64 a, .int .i64 b, .int .i64 c] 57 (0, 0)) :: H))))) (by (exact a_arrs))
   (apply R.call; (exact a_evs); exact rfl; exact sreset_K hg4 hok hcon hnm ho4 (by omega); rintro _ M5 _ ⟨rfl, hM5, hL5, hp5, hg5, ho5, rfl⟩)
   (repeat' (first | (refine a_bx ?_; intro bx) | (refine a_go ?_; intros) | refine a_sp (fun h => ?_) fun h => ?_ | fail))
   apply R.arr (H2 := hR ++ (hq4 ++ (hL5 ++ (hp5 ++ ((bx, .cells #[.int .i64 w, .int .u64 idx, .slice A ls.length cap, .int .i64 off, .int .i64 a, .int .i64 b, .int .i64 c] 57 (0, 0)) :: H))))) (by (exact a_arrs))
   (apply R.call; (exact a_evs); exact rfl; exact rresetG_K (hgr4.mono hM5) hok hcon hnm (hr4.mono hM5) (by omega); rintro _ M6 Hx ⟨rfl, hM6, hq6, hr6, hor⟩)
   rcases hor with ⟨hW6, hgr6, rfl⟩ | ⟨hne, rfl⟩
   ·(repeat' (first | (refine a_bx ?_; intro bx) | (refine a_go ?_; intros) | refine a_sp (fun h => ?_) fun h => ?_ | fail))
    (apply Fin.arr (H2 := hp5 ++ (hq6 ++ (hL5 ++ (hW6 ++ H)))); (exact a_arrs))
    refine Fin.join (⟨(cutG d4 ss 0).1, (cutG d4 ss 0).2.1, (cutG d4 ss 0).2.2, hp5, hq6, hL5, hW6, M6⟩ : RvX) ⟨hM5.trans_ hM6, ho5.mono hM6, hr6, hg5.mono hM6, by dsimp only; omega, by dsimp only; omega, ?_⟩ ?_ rfl rfl
    ·by_cases he : (cutG d4 ss 0).1 = 0
     ·exact .inl ⟨.inl he, hgr6, (hc1 he).1.mono (by omega), by have := (hc1 he).2; dsimp only; omega⟩
     ·exact .inr ⟨he, hc0⟩
    ·(exact a_subs)
   ·(repeat' (first | (refine a_bx ?_; intro bx) | (refine a_go ?_; intros) | refine a_sp (fun h => ?_) fun h => ?_ | fail))
    (apply Fin.arr (H2 := hp5 ++ (hq6 ++ (hL5 ++ (([] : Hp) ++ H)))); (exact a_arrs))
    refine Fin.join (⟨(cutG d4 ss 0).1, (cutG d4 ss 0).2.1, (cutG d4 ss 0).2.2, hp5, hq6, hL5, ([] : Hp), M6⟩ : RvX) ⟨hM5.trans_ hM6, ho5.mono hM6, hr6, hg5.mono hM6, by dsimp only; omega, by dsimp only; omega, ?_⟩ ?_ rfl rfl
    ·exact .inr ⟨hne, hc0⟩
    ·(exact a_subs)
  ·(repeat' (first | refine a_mv ?_ | (apply R.step; (first | (apply Ok.eqIF; exact rfl; exact rfl; exact h5) | (apply Ok.eqIF; exact rfl; exact rfl; exact h6) | (apply Ok.eqIR; exact rfl; exact rfl; exact h7) | (apply Ok.remP; exact rfl; exact rfl; omega; omega) | (apply Ok.eqIF; exact rfl; exact rfl; exact h4)); exact rfl) | (refine a_bx ?_; intro bx) | (refine a_go ?_; intros) | refine a_sp (fun h => ?_) fun h => ?_ | fail))
   (apply Fin.arr (H2 := hp4 ++ (hq4 ++ (hL ++ (hR ++ H)))); (exact a_arrs))
   refine Fin.join (⟨0, d4, ss, hp4, hq4, hL, hR, M4⟩ : RvX) ⟨Mem.le_refl _, ho4, hr4, hg4, by dsimp only; omega, by dsimp only; omega, .inl ⟨.inl rfl, hgr4, hI4.mono (by omega), by dsimp only; omega⟩⟩ ?_ rfl rfl
   (exact a_subs)
 by_cases h8 : w % 10 = 8
 ·(repeat' (first | refine a_mv ?_ | (apply R.step; (first | (apply Ok.eqIF; exact rfl; exact rfl; exact h5) | (apply Ok.eqIF; exact rfl; exact rfl; exact h6) | (apply Ok.eqIF; exact rfl; exact rfl; exact h7) | (apply Ok.eqIR; exact rfl; exact rfl; exact h8)); exact rfl) | (refine a_bx ?_; intro bx) | (refine a_go ?_; intros) | refine a_sp (fun h => ?_) fun h => ?_ | fail))
  apply R.arr (H2 := hp4 ++ (hq4 ++ (hL ++ (hR ++ ((bx, .cells #[.int .i64 w, .int .u64 idx, .slice A ls.length cap, .int .i64 off, .int .i64 a, .int .i64 b, .int .i64 c] 57 (0, 0)) :: H))))) (by (exact a_arrs))
  (apply R.call; (exact a_evs); exact rfl; exact sync_K ho4; rintro _ M5 _ ⟨rfl, rfl, hp5, ho5, rfl⟩)
  (repeat' (first | (refine a_bx ?_; intro bx) | (refine a_go ?_; intros) | refine a_sp (fun h => ?_) fun h => ?_ | fail))
  apply R.arr (H2 := hq4 ++ (hp5 ++ (hL ++ (hR ++ ((bx, .cells #[.int .i64 w, .int .u64 idx, .slice A ls.length cap, .int .i64 off, .int .i64 a, .int .i64 b, .int .i64 c] 57 (0, 0)) :: H))))) (by (exact a_arrs))
  (apply R.call; (exact a_evs); exact rfl; exact rsync_K hr4; rintro _ M5 _ ⟨rfl, rfl, hq5, hr5, rfl⟩)
  (repeat' (first | (refine a_bx ?_; intro bx) | (refine a_go ?_; intros) | refine a_sp (fun h => ?_) fun h => ?_ | fail))
  have hy1 := synD_sz d4
  have hy2 := synD_cr d4
  (apply Fin.arr (H2 := hp5 ++ (hq5 ++ (hL ++ (hR ++ H)))); (exact a_arrs))
  refine Fin.join (⟨synE d4, synD d4, ss, hp5, hq5, hL, hR, M5⟩ : RvX) ⟨Mem.le_refl _, ho5, hr5, hg4, by dsimp only; omega, by dsimp only; omega, ?_⟩ ?_ rfl rfl
  ·by_cases he : synE d4 = 0
   ·exact .inl ⟨.inl he, hgr4, (hI4.now (synD_now d4)).mono (by omega), by dsimp only; omega⟩
   ·exact .inr ⟨he, by show synE d4 ≠ 1; unfold synE; split <;> decide⟩
  ·(exact a_subs)
 by_cases h9 : w % 10 = 9
 ·(repeat' (first | refine a_mv ?_ | (apply R.step; (first | (apply Ok.eqIF; exact rfl; exact rfl; exact h5) | (apply Ok.eqIF; exact rfl; exact rfl; exact h6) | (apply Ok.eqIF; exact rfl; exact rfl; exact h7) | (apply Ok.eqIF; exact rfl; exact rfl; exact h8) | (apply Ok.eqIR; exact rfl; exact rfl; exact h9)); exact rfl) | (refine a_bx ?_; intro bx) | (refine a_go ?_; intros) | refine a_sp (fun h => ?_) fun h => ?_ | fail))
  apply R.arr (H2 := hp4 ++ (hq4 ++ (hL ++ (hR ++ ((bx, .cells #[.int .i64 w, .int .u64 idx, .slice A ls.length cap, .int .i64 off, .int .i64 a, .int .i64 b, .int .i64 c] 57 (0, 0)) :: H))))) (by (exact a_arrs))
  (apply R.call; (exact a_evs); exact rfl; exact sync_K ho4; rintro _ M5 _ ⟨rfl, rfl, hp5, ho5, rfl⟩)
  (repeat' (first | (refine a_bx ?_; intro bx) | (refine a_go ?_; intros) | refine a_sp (fun h => ?_) fun h => ?_ | fail))
  apply R.arr (H2 := hq4 ++ (hp5 ++ (hL ++ (hR ++ ((bx, .cells #[.int .i64 w, .int .u64 idx, .slice A ls.length cap, .int .i64 off, .int .i64 a, .int .i64 b, .int .i64 c] 57 (0, 0)) :: H))))) (by (exact a_arrs))
  (apply R.call; (exact a_evs); exact rfl; exact rsync_K hr4; rintro _ M5 _ ⟨rfl, rfl, hq5, hr5, rfl⟩)
  (repeat' (first | (refine a_bx ?_; intro bx) | (refine a_go ?_; intros) | refine a_sp (fun h => ?_) fun h => ?_ | fail))
  have hy1 := synD_sz d4
  have hy2 := synD_cr d4
  (apply Fin.arr (H2 := hp5 ++ (hq5 ++ (hL ++ (hR ++ H)))); (exact a_arrs))
  refine Fin.join (⟨synE d4, synD d4, ss, hp5, hq5, hL, hR, M5⟩ : RvX) ⟨Mem.le_refl _, ho5, hr5, hg4, by dsimp only; omega, by dsimp only; omega, ?_⟩ ?_ rfl rfl
  ·by_cases he : synE d4 = 0
   ·exact .inl ⟨.inl he, hgr4, (hI4.now (synD_now d4)).mono (by omega), by dsimp only; omega⟩
   ·exact .inr ⟨he, by show synE d4 ≠ 1; unfold synE; split <;> decide⟩
  ·(exact a_subs)
 (repeat' (first | refine a_mv ?_ | (apply R.step; (first | (apply Ok.eqIF; exact rfl; exact rfl; exact h5) | (apply Ok.eqIF; exact rfl; exact rfl; exact h6) | (apply Ok.eqIF; exact rfl; exact rfl; exact h7) | (apply Ok.eqIF; exact rfl; exact rfl; exact h8) | (apply Ok.eqIF; exact rfl; exact rfl; exact h9)); exact rfl) | (refine a_bx ?_; intro bx) | (refine a_go ?_; intros) | refine a_sp (fun h => ?_) fun h => ?_ | fail))
 have hlg := listG_ent hok
 have hlb2 : (listG ss).length ≤ 1000000000 := by
  have h1 := list_bd hI.bd
  have h2 : (131072 + n) * ss.length ≤ (131072 + 900) * 5000 := Nat.mul_le_mul (by omega) hsl
  omega
 (apply R.call; (exact a_evs); exact rfl; exact rLast_K hgr4 hok; rintro _ M4 _ ⟨rfl, rfl, rfl⟩)
 (repeat' (first | (refine a_bx ?_; intro bx) | (refine a_go ?_; intros) | refine a_sp (fun h => ?_) fun h => ?_ | fail))
 (apply R.call; (exact a_evs); exact rfl; exact rList_K hgr4 hlb2; rintro v5 M5 _ ⟨hE5, hM5, rfl⟩)
 obtain ⟨A5, c5, vs5, rfl, p1, p2, p3, p4⟩ := id hE5
 (repeat' (first | (refine a_bx ?_; intro bx) | (refine a_g0 ?_; intros) | refine a_s3 (fun h => ?_) fun h => ?_ | fail))
 apply C.seqCut (X := RixX) (fun y => 0 ≤ y.ix ∧ y.ix ≤ 72057594037927935 ∧ 0 ≤ y.tm ∧ y.tm ≤ 72057594037927935) (fun y => [(0, .pointer (some ⟨db, 0, none⟩)), (1, .pointer (some ⟨rb, 0, none⟩)), (2, .pointer (some ⟨lb, 0, none⟩)), (3, .pointer (some ⟨lq, 0, none⟩)), (9, .pointer (some ⟨bx, 0, none⟩)), (12, .int .i64 0), (13, .int .i64 0), (15, .int .u64 y.ix), (16, .int .u64 y.tm)]) (fun _ => M5) (fun _ => hR ++ (hp4 ++ (hq4 ++ ((bx, .cells #[.int .i64 w, .int .u64 idx, .slice A ls.length cap, .int .i64 off, .int .i64 a, .int .i64 b, .int .i64 c] 57 (0, 0)) :: (hL ++ H)))))
 ·by_cases hz : (listG ss).length = 0
  ·have hm5 := Int.emod_nonneg idx (show (50 : Int) ≠ 0 by decide)
   have hm5b := Int.emod_lt_of_pos idx (show (0 : Int) < 50 by decide)
   (repeat' (first | refine a_mv ?_ | (apply R.step; (first | (apply Ok.gtF; exact rfl; exact rfl; omega) | (apply Ok.remP; exact rfl; exact rfl; omega; omega)); exact rfl) | (refine a_bx ?_; intro bx) | (refine a_go ?_; intros) | refine a_sp (fun h => ?_) fun h => ?_ | fail))
   refine Fin.join (⟨idx % 50, 1⟩ : RixX) ⟨by dsimp only; omega, by dsimp only; omega, by dsimp only; omega, by dsimp only; omega⟩ ?_ rfl rfl
   (exact a_subs)
  ·have hix5 : (listG ss).length - 1 < (listG ss).length := by omega
   obtain ⟨b2, o2, c2, e2, fr2, Ai, ci2, hA5, hMb2, hcell2, _⟩ := en_at2 p3 p4 hix5
   subst hA5
   have hent := hlg _ (List.getElem_mem hix5)
   generalize (listG ss)[(listG ss).length - 1] = x5 at hcell2 hent
   have hkd := entS_kind hent
   have htm : 1 ≤ x5.term ∧ x5.term ≤ 72057594037927935 := hent.1
   have hll5 : ((listG ss).length : Int) - 1 = (((listG ss).length - 1 : Nat) : Int) := by omega
   have hc5 : c2[o2 + (((listG ss).length - 1 : Nat) : Int).toNat * 5 + 1]? = some (.int .u64 x5.term) := by
    rw [Int.toNat_natCast]
    exact hcell2 1 _ rfl
   (repeat' (first | refine a_mv ?_ | (apply R.step; (first | (apply Ok.gtTr; exact rfl; exact rfl; omega) | (apply Ok.subQ (((listG ss).length - 1 : Nat) : Int); exact rfl; exact rfl; exact hll5; apply w64; omega; omega) | (apply Ok.indexAddr; exact rfl; exact rfl; omega; omega) | (apply Ok.loadP; exact rfl; exact rfl; exact hMb2; exact hc5)); exact rfl) | (refine a_bx ?_; intro bx) | (refine a_go ?_; intros) | refine a_sp (fun h => ?_) fun h => ?_ | fail))
   refine Fin.join (⟨lastG ss, x5.term⟩ : RixX) ⟨by dsimp only; omega, by dsimp only; omega, by dsimp only; omega, by dsimp only; omega⟩ ?_ rfl rfl
   (exact a_subs)
 rintro ⟨ix, tm⟩ ⟨hx1, hx2, hx3, hx4⟩
 dsimp only at hx1 hx2 hx3 hx4 ⊢
 clear hE5 p1 p2 p3 p4
 have hM05 := hM4.trans_ hM5
 (repeat' (first | (refine a_bx ?_; intro bx) | (refine a_go ?_; intros) | refine a_sp (fun h => ?_) fun h => ?_ | fail))
 (apply R.call; (exact a_evs); exact rfl; exact hEntries_K (i := ix) (t := tm) (m := 4) (hlv.mono hM05) hrg (by omega) (by omega) (by omega); rintro yv M6 _ ⟨hr6, hoy, hM6, rfl⟩)
 have hl6 : (handE ix tm (ls.take (4 : Int).toNat)).length ≤ 4 := by rw [handE_len, List.length_take]; exact Nat.min_le_left _ _
 have hd6 := handE_data ix tm (ls.take (4 : Int).toNat)
 generalize handE ix tm (ls.take (4 : Int).toNat) = ys at hoy hl6 hd6
 obtain ⟨AY, cY, rfl, _, _⟩ := hoy.form
 (repeat' (first | (refine a_bx ?_; intro bx) | (refine a_g0 ?_; intros) | refine a_s3 (fun h => ?_) fun h => ?_ | fail))
 apply C.seqCut (X := RysX) (fun y => EnL y.M y.v y.es ∧ M6.le y.M ∧ y.es.length ≤ 4 ∧ ∀ e ∈ y.es, e.data.length ≤ 31) (fun y => [(0, .pointer (some ⟨db, 0, none⟩)), (1, .pointer (some ⟨rb, 0, none⟩)), (2, .pointer (some ⟨lb, 0, none⟩)), (3, .pointer (some ⟨lq, 0, none⟩)), (12, .int .i64 0), (13, .int .i64 0), (18, y.v)]) (fun y => y.M) (fun _ => hR ++ (hp4 ++ (hq4 ++ (hL ++ H))))
 ·(repeat' (first | (refine a_bx ?_; intro bx) | (refine a_go ?_; intros) | refine a_sp (fun h => ?_) fun h => ?_ | fail))
  ·have hpos : (0 : Int) < (ys.length : Int) := by assumption
   (apply R.call; (exact a_evs); exact rfl; exact pick_K off (ys.length : Int) (by omega) (by omega); rintro _ M6 _ ⟨rfl, rfl, rfl⟩)
   have hj0 := Int.emod_nonneg off (show (ys.length : Int) ≠ 0 by omega)
   have hj1 := Int.emod_lt_of_pos off hpos
   obtain ⟨j, hj⟩ : ∃ j : Nat, (j : Int) = off % (ys.length : Int) := ⟨(off % (ys.length : Int)).toNat, by omega⟩
   rw [← hj]
   have hja : j < ys.length := by omega
   obtain ⟨by_, oy, capy, ly, ay, hvy, rfl, g3, g4, hcy, hovy⟩ := hoy.over hja
   injection hvy with q1 _ q3
   subst q1 q3
   have hc2 : ly[oy + ((j : Int)).toNat * 5 + 2]? = some (.int .u64 ys[j].idx) := by
    rw [show oy + ((j : Int)).toNat * 5 + 2 = oy + (j * 5 + 2) by omega]
    exact hcy 2 _ rfl
   (repeat' (first | refine a_mv ?_ | (apply R.step; (first | (apply Ok.load; exact rfl; exact rfl; exact At.head _ _ _; exact hc2) | (apply Ok.add (k := .u64); exact rfl; exact rfl)); exact rfl) | (refine a_bx ?_; intro bx) | (refine a_go ?_; intros) | refine a_sp (fun h => ?_) fun h => ?_ | fail))
   (apply R.storeI (v := .int .u64 (IntKind.u64.wrap (ys[j].idx + 1))); exact rfl; exact rfl; exact rfl; exact At.head _ _ _; omega; exact rfl)
   rw [show oy + ((j : Int)).toNat * 5 + 2 = oy + (j * 5 + 2) by omega]
   have ho3 := hovy (IntKind.u64.wrap (ys[j].idx + 1))
   (repeat' (first | (refine a_bx ?_; intro bx) | (refine a_go ?_; intros) | refine a_sp (fun h => ?_) fun h => ?_ | fail))
   (apply Fin.ice (hp := [_]) (Arr.all _); intro M7 hM7 hin7)
   have hE7 := (ho3.mono hM7).enL hin7
   (apply Fin.arr (H2 := hR ++ (hp4 ++ (hq4 ++ (hL ++ H)))); (exact a_arrs))
   refine Fin.join (⟨_, _, M7⟩ : RysX) ⟨hE7, hM7, by dsimp only; rw [List.length_set]; exact hl6, ?_⟩ ?_ rfl rfl
   ·intro e he
    rcases List.mem_or_eq_of_mem_set he with he | rfl
    ·exact hd6 e he
    ·exact hd6 ys[j] (List.getElem_mem hja)
   ·(exact a_subs)
  all_goals (apply Fin.ice (hp := hr6) (Arr.all _); intro M7 hM7 hin7)
  all_goals (apply Fin.arr (H2 := hR ++ (hp4 ++ (hq4 ++ (hL ++ H)))); (exact a_arrs))
  all_goals exact Fin.join (⟨.slice AY ys.length cY, ys, M7⟩ : RysX) ⟨(hoy.mono hM7).enL hin7, hM7, hl6, hd6⟩ (by (exact a_subs)) rfl rfl
 rintro ⟨yv, es, M7⟩ ⟨hE7, hM7, hl7, hd7⟩
 dsimp only at hE7 hM7 hl7 hd7 ⊢
 have hM47 := hM5.trans_ (hM6.trans_ hM7)
 have hfit : fits es := ⟨by omega, fun e he => by have := hd7 e he; omega⟩
 (repeat' (first | (refine a_bx ?_; intro bx) | (refine a_go ?_; intros) | refine a_sp (fun h => ?_) fun h => ?_ | fail))
 (apply R.call; (exact a_evs); exact rfl; exact copy_KF hE7 hfit; rintro ov M8 _ ⟨hO8, hM8, rfl⟩)
 have hM48 := hM47.trans_ hM8
 have hsm := hI4.smG (k := es.length) (by omega) (by omega)
 obtain ⟨hw1, hw2, hw3, hw4⟩ := appG_W (lim := lim) (es := es) hI4 hnd
 (repeat' (first | (refine a_bx ?_; intro bx) | (refine a_go ?_; intros) | refine a_sp (fun h => ?_) fun h => ?_ | fail))
 apply R.arr (H2 := hL ++ (hp4 ++ (hR ++ (hq4 ++ H)))) (by (exact a_arrs))
 (apply R.call; (exact a_evs); exact rfl; exact sappend_K hl (hg4.mono hM48) hok hO8 (ho4.mono hM48) (by omega) (by omega) (by omega) hsm; rintro _ M9 _ ⟨rfl, hM9, hL5, hp5, hg5, ho5, rfl⟩)
 (repeat' (first | (refine a_bx ?_; intro bx) | (refine a_go ?_; intros) | refine a_sp (fun h => ?_) fun h => ?_ | fail))
 have hM49 := hM48.trans_ hM9
 apply R.arr (H2 := hR ++ (hq4 ++ (hL5 ++ (hp5 ++ H)))) (by (exact a_arrs))
 (apply R.call; (exact a_evs); exact rfl; exact rappendG_K hl (hgr4.mono hM49) hok (hE7.mono (hM8.trans_ hM9)) (hr4.mono hM49) (by omega) (by omega) (by omega) hsm; rintro _ M10 Hx ⟨rfl, hM10, hq6, hr6, hor⟩)
 have hM410 := hM49.trans_ hM10
 rcases hor with ⟨hW6, hgr6, rfl⟩ | ⟨hne, hfo, rfl⟩
 ·(repeat' (first | (refine a_bx ?_; intro bx) | (refine a_go ?_; intros) | refine a_sp (fun h => ?_) fun h => ?_ | fail))
  (apply R.call; (exact a_evs); exact rfl; exact sents_K (hO8.mono (hM9.trans_ hM10)) (hE7.mono (hM8.trans_ (hM9.trans_ hM10))); rintro _ M10 _ ⟨rfl, rfl, rfl⟩)
  rw [decide_eq_true rfl]
  (repeat' (first | (refine a_bx ?_; intro bx) | (refine a_go ?_; intros) | refine a_sp (fun h => ?_) fun h => ?_ | fail))
  (apply Fin.arr (H2 := hp5 ++ (hq6 ++ (hL5 ++ (hW6 ++ H)))); (exact a_arrs))
  refine Fin.join (⟨(appG d4 lim ss es).1, (appG d4 lim ss es).2.1, (appG d4 lim ss es).2.2, hp5, hq6, hL5, hW6, M10⟩ : RvX) ⟨hM410, ho5.mono hM10, hr6, hg5.mono hM10, by dsimp only; omega, by dsimp only; omega, ?_⟩ ?_ rfl rfl
  ·by_cases he : (appG d4 lim ss es).1 = 0 ∨ (appG d4 lim ss es).1 = 1
   ·exact .inl ⟨he, hgr6, (hw1 he).1.mono (by omega), by have := (hw1 he).2; dsimp only; omega⟩
   ·exact .inr ⟨fun h => he (.inl h), fun h => he (.inr h)⟩
  ·(exact a_subs)
 ·(repeat' (first | (refine a_bx ?_; intro bx) | (refine a_go ?_; intros) | refine a_sp (fun h => ?_) fun h => ?_ | fail))
  (apply R.call; (exact a_evs); exact rfl; exact sents_K (hO8.mono (hM9.trans_ hM10)) (hE7.mono (hM8.trans_ (hM9.trans_ hM10))); rintro _ M10 _ ⟨rfl, rfl, rfl⟩)
  rw [decide_eq_true rfl]
  (repeat' (first | (refine a_bx ?_; intro bx) | (refine a_go ?_; intros) | refine a_sp (fun h => ?_) fun h => ?_ | fail))
  (apply Fin.arr (H2 := hp5 ++ (hq6 ++ (hL5 ++ (([] : Hp) ++ H)))); (exact a_arrs))
  refine Fin.join (⟨(appG d4 lim ss es).1, (appG d4 lim ss es).2.1, (appG d4 lim ss es).2.2, hp5, hq6, hL5, [], M10⟩ : RvX) ⟨hM410, ho5.mono hM10, hr6, hg5.mono hM10, by dsimp only; omega, by dsimp only; omega, .inr ⟨hne, hw4 hfo⟩⟩ ?_ rfl rfl
  (exact a_subs)
end Go.Sx
end
section
namespace Go.Sx
open Go Go.Proofs Go.RowKit
attribute [local irreducible] C R Fin K Own OwnT Rd Pl Ok KOf RetOk OpsOf RP KP Res NoPanic KV KE MapS ItS EntS FsO FsR RowD PlD DkO PlFs RT KT OneT RS KS OneS RdO
variable {M M' : Mem} {H H1 H2 : Hp}
section
variable {H : Type} {enc : TypeId × Value → H} {W : World} {m : Nat} {cs : List Value} {z : DataW H × List MemPlace}
theorem rd_harm (h : Trd enc Tryz.prog W m 55 cs z) (hw : Wgt Tryz.prog 55 z.1) : ∃ a b c : Int, cs = [.int .i64 a, .int .i64 b, .int .i64 c] := by
 obtain ⟨hl, k, hf⟩ := rd_fields Tryz.underlying55 h hw
 rw [show Tryz.prog.cellsOf 55 = 3 by kernel_rfl] at hl
 obtain ⟨y0, h0, _⟩ := hf 0 3 0 1 rfl (by kernel_rfl)
 obtain ⟨y1, h1, _⟩ := hf 1 3 1 1 rfl (by kernel_rfl)
 obtain ⟨y2, h2, _⟩ := hf 2 3 2 1 rfl (by kernel_rfl)
 obtain ⟨a0, e0, _⟩ := rd_int h0
 obtain ⟨a1, e1, _⟩ := rd_int h1
 obtain ⟨a2, e2, _⟩ := rd_int h2
 match cs, hl with
 | [x0, x1, x2], _ =>
  cases e0; cases e1; cases e2
  exact ⟨a0, a1, a2, rfl⟩
end
end Go.Sx
end
section
namespace Go.Sx
open Go Go.Proofs Go.RowKit
attribute [local irreducible] C R Fin K Own OwnT Rd Pl Ok KOf RetOk OpsOf RP KP Res NoPanic KV KE MapS ItS EntS FsO FsR RowD PlD DkO PlFs RT KT OneT RS KS OneS RdO SgO RgO
structure SStep where
 w : Int
 idx : Int
 lv : Value
 off : Int
 a : Int
 b : Int
 c : Int
 ls : List En
def sstR (x : SStep) : List Value := [.int .i64 x.w, .int .u64 x.idx, x.lv, .int .i64 x.off, .int .i64 x.a, .int .i64 x.b, .int .i64 x.c]
def sstOk (M : Mem) (x : SStep) : Prop := EnL M x.lv x.ls ∧ (∀ e ∈ x.ls, rng e) ∧ 0 ≤ x.idx ∧ x.idx ≤ 18446744073709551615
section
variable {H : Type} {enc : TypeId × Value → H} {W : World} {m : Nat} {cs : List Value} {z : DataW H × List MemPlace}
theorem rd_sst (h : Trd enc Tryz.prog W m 57 cs z) (hw : Wgt Tryz.prog 57 z.1) : ∃ x : SStep, cs = sstR x ∧ sstOk (Mem.of W) x := by
 obtain ⟨hl, k, hf⟩ := rd_fields Tryz.underlying57 h hw
 rw [show Tryz.prog.cellsOf 57 = 7 by kernel_rfl] at hl
 obtain ⟨y0, h0, _⟩ := hf 0 3 0 1 rfl (by kernel_rfl)
 obtain ⟨y1, h1, _⟩ := hf 1 27 1 1 rfl (by kernel_rfl)
 obtain ⟨y2, h2, g2⟩ := hf 2 23 2 1 rfl (by kernel_rfl)
 obtain ⟨y3, h3, _⟩ := hf 3 3 3 1 rfl (by kernel_rfl)
 obtain ⟨y4, h4, g4⟩ := hf 4 55 4 3 rfl (by kernel_rfl)
 obtain ⟨a0, e0, _⟩ := rd_int h0
 obtain ⟨a1, e1, w1⟩ := rd_int h1
 obtain ⟨A, css, cap, e2, q1, q2, q3, q4⟩ := rd_slice (e := 33) h2 g2
 obtain ⟨es, hel, hE, hd, hr⟩ := arg_ens q1 q2 q3 q4
 obtain ⟨a3, e3, _⟩ := rd_int h3
 obtain ⟨a, b, c, e4⟩ := rd_harm h4 g4
 match cs, hl with
 | [c0, c1, c2, c3, c4, c5, c6], _ =>
  cases e0; cases e1; cases e2; cases e3; cases e4
  exact ⟨⟨a0, a1, _, a3, a, b, c, es⟩, rfl, hE, hr, u64_bd w1⟩
theorem rd_ssts : ∀ (css : List (List Value)), (∀ c ∈ css, c.length = 7 ∧ ∃ m y, Trd enc Tryz.prog W m 57 c y ∧ Wgt Tryz.prog 57 y.1) → ∃ xs : List SStep, css = xs.map sstR ∧ ∀ x ∈ xs, sstOk (Mem.of W) x
 | [], _ => ⟨[], rfl, fun _ h => absurd h List.not_mem_nil⟩
 | c :: css, h => by
  obtain ⟨xs, h1, h2⟩ := rd_ssts css (fun c hc => h c (List.mem_cons_of_mem _ hc))
  obtain ⟨_, m, y, h5, h6⟩ := h c (List.mem_cons_self ..)
  obtain ⟨x, rfl, h7⟩ := rd_sst h5 h6
  refine ⟨x :: xs, by rw [h1]; rfl, fun a ha => ?_⟩
  rcases List.mem_cons.1 ha with rfl | ha
  ·exact h7
  ·exact h2 a ha
end
variable {M M' : Mem} {H H1 H2 : Hp}
theorem sstR_all (xs : List SStep) : ∀ c ∈ xs.map sstR, c.length = 7 := by
 intro c hc
 obtain ⟨x, _, rfl⟩ := List.mem_map.1 hc
 rfl
theorem openS_nil {d : Dk} (h : d.now.length = 0) : openS d = (0, d, []) := by
 have h1 : d.now = [] := List.eq_nil_of_length_eq_zero h
 have h2 : numsF (namesD d.down d.now) = [] := by
  refine List.eq_nil_of_length_eq_zero ?_
  have h3 := numsF_len (namesD d.down d.now)
  have h4 := namesD_len (d := d)
  omega
 unfold openS
 rw [h2]
 rfl
structure PlX where
 i : Nat
 ii : Int
 d : Dk
 ss : List Sg
 lb : Nat
 lq : Nat
 hp : Hp
 hq : Hp
 hL : Hp
 hR : Hp
 M : Mem
structure PoX where
 d : Dk
 hp : Hp
 hq : Hp
 M : Mem
set_option maxHeartbeats 8000000 in
theorem segPlays_K {lim0 : Int} {A : Option Addr} {cap : Nat} {xs : List SStep} (hpl : Pl M A (xs.map sstR).flatten) (hx : ∀ x ∈ xs, sstOk M x) : K Tryz.prog 4 [.int .i64 lim0, .slice A xs.length cap] M H fun v' M' H' => v' = .bool true ∧ M.le M' := by
 refine K.enterK Tryz.func4 rfl rfl rfl ?_
 intro Q hNP hQ
 (repeat' (first | (refine a_go ?_; intros) | refine a_sp (fun h => ?_) fun h => ?_ | fail))
 (apply R.call; (exact a_evs); exact rfl; exact pick_K lim0 200 (by decide) (by decide); rintro _ _ _ ⟨rfl, e1_, e2_⟩; replace e1_ := e1_.symm; subst e1_; replace e2_ := e2_.symm; subst e2_)
 have hl0 := Int.emod_nonneg lim0 (show (200 : Int) ≠ 0 by decide)
 have hl1 := Int.emod_lt_of_pos lim0 (show (0 : Int) < 200 by decide)
 obtain ⟨lim, hlim⟩ : ∃ lim, 64 + lim0 % 200 = lim := ⟨_, rfl⟩
 have hlm : 64 ≤ lim ∧ lim ≤ 16384 := by omega
 (repeat' (first | refine a_mv ?_ | (apply R.step; (apply Ok.addQ lim; exact rfl; exact rfl; exact hlim; apply w64; omega; omega); exact rfl) | (refine a_go ?_; intros) | refine a_sp (fun h => ?_) fun h => ?_ | fail))
 (apply R.call; (exact a_evs); exact rfl; exact pair_K (room := 1048576) (by decide) (by decide) PlFs.nil (fun p hp => by cases hp); rintro _ M1 _ ⟨db, rb, hp, hq, rfl, hM1, ho, hr, rfl⟩)
 (repeat' (first | (refine a_go ?_; intros) | refine a_sp (fun h => ?_) fun h => ?_ | fail))
 (apply R.call; (exact a_evs); exact rfl; exact known9_K; rintro _ M2 _ ⟨rfl, hM2, e2_⟩; replace e2_ := e2_.symm; subst e2_)
 replace ho := ho.mono hM2
 replace hr := hr.mono hM2
 have hM02 := hM1.trans_ hM2
 replace hpl := hpl.mono hM02
 have hsz0 : szD (pairD 1048576 []) ≤ 0 := synD_sz _
 have hcr0 : crD (pairD 1048576 []) ≤ 0 := synD_cr _
 generalize pairD 1048576 [] = d0 at ho hr hsz0 hcr0
 have hnw0 := now_sz d0
 have hps0 := ps_sz d0
 have hop : openS d0 = (0, d0, []) := openS_nil (by omega)
 have hI0 := openS_W ho.isok ho.nodup (by rw [hop])
 rw [hop] at hI0
 dsimp only at hI0
 (repeat' (first | (refine a_go ?_; intros) | refine a_sp (fun h => ?_) fun h => ?_ | fail))
 (apply R.call; (exact a_evs); exact rfl; exact sopen_K (lim := lim) hlm ho (by omega) (by omega); rintro _ M3 _ ⟨hM3, hp3, ho3, hcase⟩)
 rw [hop] at ho3 hcase
 rcases hcase with ⟨hne, _⟩ | ⟨_, lb0, hL, rfl, hg, rfl⟩
 ·exact absurd rfl hne
 (repeat' (first | (refine a_go ?_; intros) | refine a_sp (fun h => ?_) fun h => ?_ | fail))
 apply R.arr (H2 := hq ++ (hL ++ (hp3 ++ H))) (by (exact a_arrs))
 (apply R.call; (exact a_evs); exact rfl; exact rOpenLog_K (lim := lim) hlm (hr.mono hM3) (by omega); rintro _ M4 _ ⟨hM4, hq4, hr4, hcase⟩)
 rw [hop] at hr4 hcase
 rcases hcase with ⟨hne, _⟩ | ⟨_, lq0, hR, rfl, hgr, rfl⟩
 ·exact absurd rfl hne
 dsimp only at ho3 hg hr4 hgr
 have hM24 := hM3.trans_ hM4
 (repeat' (first | refine a_mv ?_ | (apply R.step; (first | (apply Ok.neIR; exact rfl; exact rfl; exact rfl) | (apply Ok.eqPN; exact rfl; exact rfl)); exact rfl) | (refine a_go ?_; intros) | refine a_sp (fun h => ?_) fun h => ?_ | fail))
 apply C.arr (H2 := hp3 ++ (hq4 ++ (hL ++ (hR ++ H)))) (by (exact a_arrs))
 apply C.loop (fun y : PlX => (y.i : Int) = y.ii ∧ y.i ≤ 80 ∧ szD y.d ≤ 1000 * y.i ∧ crD y.d ≤ 6 * y.i ∧ y.ss.length ≤ 6 * y.i ∧ M2.le y.M ∧ DkO y.M db y.d y.hp ∧ RdO y.M rb y.d y.hq ∧ SgO y.M y.lb db lim y.ss y.hL ∧ RgO y.M y.lq rb lim y.ss y.hR ∧ InvW (4 * y.i) y.d y.ss)
  (fun y => [(0, .int .i64 lim), (1, .slice A xs.length cap), (5, .pointer (some ⟨db, 0, none⟩)), (6, .pointer (some ⟨rb, 0, none⟩)), (8, .pointer (some ⟨y.lb, 0, none⟩)), (10, .pointer (some ⟨y.lq, 0, none⟩)), (12, .int .i64 y.ii)]) (fun y => y.M) (fun y => y.hp ++ (y.hq ++ (y.hL ++ (y.hR ++ H)))) (fun y => 80 - y.i) ⟨0, 0, d0, [], lb0, lq0, hp3, hq4, hL, hR, M4⟩
 ·exact ⟨rfl, Nat.zero_le _, by dsimp only; omega, by dsimp only; omega, Nat.zero_le _, hM24, ho3.mono hM4, hr4, hg.mono hM4, hgr, hI0⟩
 ·(exact a_subs)
 ·exact rfl
 ·exact rfl
 rintro ⟨i, ii, d, ss, lb, lq, hp, hq, hL, hR, M3⟩ ⟨hii, hi, hsz, hcr, hsl, hM3, ho, hr, hg, hgr, hI⟩
 dsimp only at hii hi hsz hcr hsl hM3 ho hr hg hgr hI ⊢
 by_cases hix : i < xs.length ∧ i < 80
 rotate_left
 ·by_cases h1 : i < xs.length
  ·have h2 : ¬ i < 80 := fun h => hix ⟨h1, h⟩
   (repeat' (first | refine a_mv ?_ | (apply R.step; (exact a_cmp); exact rfl) | (refine a_go ?_; intros) | refine a_sp (fun h => ?_) fun h => ?_ | fail))
   (refine Fin.rA (H) ?_)
   exact ⟨rfl, hM02.trans_ hM3⟩
  ·(repeat' (first | refine a_mv ?_ | (apply R.step; (exact a_cmp); exact rfl) | (refine a_go ?_; intros) | refine a_sp (fun h => ?_) fun h => ?_ | fail))
   (refine Fin.rA (H) ?_)
   exact ⟨rfl, hM02.trans_ hM3⟩
 obtain ⟨hix, hi1⟩ := hix
 obtain ⟨b, o, cc, e, fr, hA, hMb, hcell⟩ := row_agg (hpl.mono hM3) (sstR_all xs) (by decide) (k := i) (by rw [List.length_map]; exact hix)
 subst hA
 rw [List.getElem_map, show o + i * 7 = o + ii.toNat * 7 by omega] at hcell
 have hrx := hx _ (List.getElem_mem hix)
 generalize xs[i] = x at hcell hrx
 obtain ⟨w, idx, lv, off, a, b', c', ls⟩ := x
 obtain ⟨hlv, hrg, hid⟩ := hrx
 replace hlv := hlv.mono (hM02.trans_ hM3)
 have hall := hcell
 unfold sstR at hall
 dsimp only at hall hlv hrg hid
 (repeat' (first | refine a_mv ?_ | (apply R.step; (first | (exact a_cmp) | (apply Ok.indexAddr; exact rfl; exact rfl; omega; omega) | (apply Ok.loadAggP (vs := [Value.int .i64 w, .int .u64 idx, lv, .int .i64 off, .int .i64 a, .int .i64 b', .int .i64 c']); exact rfl; exact rfl; exact hMb; exact rfl; exact hall)); exact rfl) | (refine a_go ?_; intros) | refine a_sp (fun h => ?_) fun h => ?_ | fail))
 (apply R.call; (exact a_evs); exact rfl; exact run_K (n := 4 * i) hlm ho hr hg hgr hI (by omega) (by omega) (by omega) hlv hrg hid; rintro _ M4 Hx ⟨hM4, over, d4, hp4, hq4, rfl, ho4, hr4, hz4, hc4, hor⟩)
 have hMb4 := hM4.2.2 _ _ hMb
 have hps4 := ps_sz d4
 have hnw4 := now_sz d4
 have hnc4 := now_cr d4
 have hM34 := hM3.trans_ hM4
 have c0 : cc[o + ii.toNat * 7 + 0]? = some (.int .i64 w) := hcell 0 _ rfl
 have c5 : cc[o + ii.toNat * 7 + 5]? = some (.int .i64 b') := hcell 5 _ rfl
 have c6 : cc[o + ii.toNat * 7 + 6]? = some (.int .i64 c') := hcell 6 _ rfl
 (repeat' (first | (refine a_g0 ?_; intros) | refine a_s3 (fun h => ?_) fun h => ?_ | fail))
 (apply C.seqK; intro _ _)
 (repeat' (first | (refine a_g0 ?_; intros) | refine a_s3 (fun h => ?_) fun h => ?_ | fail))
 ((apply C.condF; exact rfl); apply C.skip; (apply Fin.thenK; assumption))
 (repeat' (first | (refine a_g0 ?_; intros) | refine a_s3 (fun h => ?_) fun h => ?_ | fail))
 apply C.seqCut (X := PlX) (fun y => szD y.d ≤ 1000 * i + 1000 ∧ crD y.d ≤ 6 * i + 6 ∧ y.ss.length ≤ 6 * i + 6 ∧ M4.le y.M ∧ DkO y.M db y.d y.hp ∧ RdO y.M rb y.d y.hq ∧ SgO y.M y.lb db lim y.ss y.hL ∧ RgO y.M y.lq rb lim y.ss y.hR ∧ InvW (4 * i + 4) y.d y.ss)
  (fun y => [(0, .int .i64 lim), (1, .slice (some ⟨b, o, none⟩) xs.length cap), (5, .pointer (some ⟨db, 0, none⟩)), (6, .pointer (some ⟨rb, 0, none⟩)), (8, .pointer (some ⟨y.lb, 0, none⟩)), (10, .pointer (some ⟨y.lq, 0, none⟩)), (12, .int .i64 ii)]) (fun y => y.M) (fun y => y.hp ++ (y.hq ++ (y.hL ++ (y.hR ++ H))))
 ·rcases hor with ⟨rfl, rfl⟩ | ⟨rfl, ss4, hL4, hR4, hg4, hgr4, hI4, hs4, rfl⟩
  ·
   (repeat' (first | (refine a_g0 ?_; intros) | refine a_s3 (fun h => ?_) fun h => ?_ | fail))
   (apply C.condT; exact rfl)
   (repeat' (first | (refine a_g0 ?_; intros) | refine a_s3 (fun h => ?_) fun h => ?_ | fail))
   apply C.seqCut (X := PoX) (fun y => szD y.d ≤ szD d4 ∧ crD y.d ≤ crD d4 ∧ M4.le y.M ∧ DkO y.M db y.d y.hp ∧ RdO y.M rb y.d y.hq) (fun y => [(0, .int .i64 lim), (1, .slice (some ⟨b, o, none⟩) xs.length cap), (5, .pointer (some ⟨db, 0, none⟩)), (6, .pointer (some ⟨rb, 0, none⟩)), (12, .int .i64 ii)]) (fun y => y.M) (fun y => y.hp ++ (y.hq ++ H))
   ·(repeat' (first | (refine a_go ?_; intros) | refine a_sp (fun h => ?_) fun h => ?_ | fail))
    (apply R.call; (exact a_evs); exact rfl; exact down_KD ho4; rintro _ M4 _ ⟨rfl, rfl, rfl⟩)
    by_cases hdn : d4.down = true
    ·rw [hdn]
     (repeat' (first | (refine a_go ?_; intros) | refine a_sp (fun h => ?_) fun h => ?_ | fail))
     have hMz := hMb4
     (apply C.regionT (t := .free 0 (.free 1 (.free 2 (.free 3 (.free 4 (.free 5 (.free 6 (.free 7 (.free 8 (.free 9 (.free 10 (.free 11 (.free 12 (.one 13 .nil)))))))))))))) (Hs := []); exact Mix.h; (first | exact Arr.all _ | (exact a_arr) | (exact a_arrs)); (exact a_np); kernel_rfl)
     (repeat' (first | (apply RT.step; exact rfl; intro _ _ _; (apply Ok.move; exact rfl); exact rfl) | (apply RT.step; exact rfl; intro _ _ hMx; (first | (apply Ok.indexAddr; exact rfl; exact rfl; omega; omega) | (apply Ok.loadP; exact rfl; exact rfl; exact hMx.2.2 _ _ hMz; exact c5) | (apply Ok.loadP; exact rfl; exact rfl; exact hMx.2.2 _ _ hMz; exact c6)); exact rfl) | refine a_ot ?_ | fail))
     (apply RT.one; apply OneT.eff; exact rfl; intro Kc hKc ops0)
     apply R.arr (H2 := hp4 ++ (hq4 ++ H)) (by (exact a_arrs))
     (apply R.call; (exact a_evs); exact rfl; exact crash_K (d := d4) (keep := c') (torn := b') ho4 (by omega); rintro _ M5 _ ⟨rfl, hM5, hp5, ho5, rfl⟩)
     (apply R.nil; apply Fin.kt (Hx := hp5 ++ (hq4 ++ H)) hKc; exact hM5; (exact a_arrs))
     (repeat' (first | refine a_ot ?_ | fail))
     apply RT.nil
     replace hMz := hM5.2.2 _ _ hMb4
     (repeat' (first | (refine a_go ?_; intros) | refine a_sp (fun h => ?_) fun h => ?_ | fail))
     (apply C.regionT (t := .free 0 (.free 1 (.free 2 (.free 3 (.free 4 (.free 5 (.free 6 (.free 7 (.free 8 (.free 9 (.free 10 (.free 11 (.free 12 (.one 13 .nil)))))))))))))) (Hs := []); exact Mix.h; (first | exact Arr.all _ | (exact a_arr) | (exact a_arrs)); (exact a_np); kernel_rfl)
     (repeat' (first | (apply RT.step; exact rfl; intro _ _ _; (apply Ok.move; exact rfl); exact rfl) | (apply RT.step; exact rfl; intro _ _ hMx; (first | (apply Ok.indexAddr; exact rfl; exact rfl; omega; omega) | (apply Ok.loadP; exact rfl; exact rfl; exact hMx.2.2 _ _ hMz; exact c5) | (apply Ok.loadP; exact rfl; exact rfl; exact hMx.2.2 _ _ hMz; exact c6)); exact rfl) | refine a_ot ?_ | fail))
     (apply RT.one; apply OneT.eff; exact rfl; intro Kc hKc ops0)
     apply R.arr (H2 := hq4 ++ (hp5 ++ H)) (by (exact a_arrs))
     (apply R.call; (exact a_evs); exact rfl; exact rcrash_K (d := d4) (keep := c') (torn := b') (hr4.mono hM5) (by omega); rintro _ M6 _ ⟨rfl, hM6, hq6, hr6, rfl⟩)
     (apply R.nil; apply Fin.kt (Hx := hp5 ++ (hq6 ++ H)) hKc; exact hM6; (exact a_arrs))
     (repeat' (first | refine a_ot ?_ | fail))
     apply RT.nil
     have hk1 := crash_sz d4 c' b'
     have hk2 := crash_cr d4 c' b'
     (repeat' (first | (refine a_go ?_; intros) | refine a_sp (fun h => ?_) fun h => ?_ | fail))
     (apply Fin.arr (H2 := hp5 ++ (hq6 ++ H)); (exact a_arrs))
     refine Fin.join (⟨crashD d4 c' b', hp5, hq6, M6⟩ : PoX) ⟨hk1, hk2, hM5.trans_ hM6, ho5.mono hM6, hr6⟩ ?_ rfl rfl
     (exact a_subs)
    ·rw [show d4.down = false by simpa using hdn]
     (repeat' (first | (refine a_go ?_; intros) | refine a_sp (fun h => ?_) fun h => ?_ | fail))
     (apply Fin.arr (H2 := hp4 ++ (hq4 ++ H)); (exact a_arrs))
     refine Fin.join (⟨d4, hp4, hq4, M4⟩ : PoX) ⟨Nat.le_refl _, Nat.le_refl _, Mem.le_refl _, ho4, hr4⟩ ?_ rfl rfl
     (exact a_subs)
   rintro ⟨d6, hp6, hq6, M6⟩ ⟨hz6, hc6, hM6, ho6, hr6⟩
   dsimp only at hz6 hc6 hM6 ho6 hr6 ⊢
   have hps6 := ps_sz d6
   have hnw6 := now_sz d6
   have hnc6 := now_cr d6
   have hsq := openS_sz d6
   have hcq := openS_cr d6
   have hlq := (openS_is ho6.isok).2.2
   have hW7 : (openS d6).1 = 0 → InvW 0 (openS d6).2.1 (openS d6).2.2 := openS_W ho6.isok ho6.nodup
   (repeat' (first | (refine a_go ?_; intros) | refine a_sp (fun h => ?_) fun h => ?_ | fail))
   (apply R.call; (exact a_evs); exact rfl; exact sopen_K (lim := lim) hlm ho6 (by omega) (by omega); rintro _ M7 _ ⟨hM7, hp7, ho7, hcase⟩)
   rcases hcase with ⟨hne, rfl, rfl⟩ | ⟨hz, lb7, hL7, rfl, hgl7, rfl⟩
   ·(repeat' (first | (refine a_go ?_; intros) | refine a_sp (fun h => ?_) fun h => ?_ | fail))
    apply R.arr (H2 := hq6 ++ (hp7 ++ H)) (by (exact a_arrs))
    (apply R.call; (exact a_evs); exact rfl; exact rOpenLog_K (lim := lim) hlm (hr6.mono hM7) (by omega); rintro _ M8 _ ⟨hM8, hq8, hr8, hcase8⟩)
    rcases hcase8 with ⟨_, rfl, rfl⟩ | ⟨hz8, _⟩
    rotate_left
    ·exact absurd hz8 hne
    (repeat' (first | refine a_mv ?_ | (apply R.step; (first | (apply Ok.neIR; exact rfl; exact rfl; exact rfl) | (apply Ok.neIT; exact rfl; exact rfl; exact hne) | (apply Ok.eqPNN; exact rfl; exact rfl) | (apply Ok.neBoS; exact rfl; exact rfl)); exact rfl) | (refine a_go ?_; intros) | refine a_sp (fun h => ?_) fun h => ?_ | fail))
    (refine Fin.rA (H) ?_)
    exact ⟨rfl, ((hM02.trans_ hM34).trans_ hM6).trans_ (hM7.trans_ hM8)⟩
   ·(repeat' (first | (refine a_go ?_; intros) | refine a_sp (fun h => ?_) fun h => ?_ | fail))
    apply R.arr (H2 := hq6 ++ (hL7 ++ (hp7 ++ H))) (by (exact a_arrs))
    (apply R.call; (exact a_evs); exact rfl; exact rOpenLog_K (lim := lim) hlm (hr6.mono hM7) (by omega); rintro _ M8 _ ⟨hM8, hq8, hr8, hcase8⟩)
    rcases hcase8 with ⟨hne8, _⟩ | ⟨_, lq7, hR7, rfl, hgr7, rfl⟩
    ·exact absurd hz hne8
    (repeat' (first | refine a_mv ?_ | (apply R.step; (first | (apply Ok.neIR; exact rfl; exact rfl; exact rfl) | (apply Ok.neIR; exact rfl; exact rfl; exact hz) | (apply Ok.eqPN; exact rfl; exact rfl) | (apply Ok.neBoS; exact rfl; exact rfl)); exact rfl) | (refine a_go ?_; intros) | refine a_sp (fun h => ?_) fun h => ?_ | fail))
    (apply Fin.arr (H2 := hp7 ++ (hq8 ++ (hL7 ++ (hR7 ++ H)))); (exact a_arrs))
    refine Fin.join (⟨i, ii, (openS d6).2.1, (openS d6).2.2, lb7, lq7, hp7, hq8, hL7, hR7, M8⟩ : PlX) ⟨by dsimp only; omega, by dsimp only; omega, by dsimp only; omega, hM6.trans_ (hM7.trans_ hM8), ho7.mono hM8, hr8, hgl7.mono hM8, hgr7, (hW7 hz).mono (by omega)⟩ ?_ rfl rfl
    (exact a_subs)
  ·by_cases hw : w.tmod 10 = 9
   ·(repeat' (first | refine a_mv ?_ | (apply R.step; (first | (apply Ok.eqIR; exact rfl; exact rfl; exact hw) | (apply Ok.rem; exact rfl; exact rfl; decide) | (apply Ok.indexAddr; exact rfl; exact rfl; omega; omega) | (apply Ok.loadP; exact rfl; exact rfl; exact hMb4; exact c0)); exact rfl) | (refine a_go ?_; intros) | refine a_sp (fun h => ?_) fun h => ?_ | fail))
    have hsq := openS_sz d4
    have hcq := openS_cr d4
    have hlq := (openS_is ho4.isok).2.2
    have hW7 : (openS d4).1 = 0 → InvW 0 (openS d4).2.1 (openS d4).2.2 := openS_W ho4.isok ho4.nodup
    apply R.arr (H2 := hp4 ++ (hq4 ++ H)) (by (exact a_arrs))
    (apply R.call; (exact a_evs); exact rfl; exact sopen_K (lim := lim) hlm ho4 (by omega) (by omega); rintro _ M7 _ ⟨hM7, hp7, ho7, hcase⟩)
    rcases hcase with ⟨hne, rfl, rfl⟩ | ⟨hz, lb7, hL7, rfl, hgl7, rfl⟩
    ·(repeat' (first | (refine a_go ?_; intros) | refine a_sp (fun h => ?_) fun h => ?_ | fail))
     apply R.arr (H2 := hq4 ++ (hp7 ++ H)) (by (exact a_arrs))
     (apply R.call; (exact a_evs); exact rfl; exact rOpenLog_K (lim := lim) hlm (hr4.mono hM7) (by omega); rintro _ M8 _ ⟨hM8, hq8, hr8, hcase8⟩)
     rcases hcase8 with ⟨_, rfl, rfl⟩ | ⟨hz8, _⟩
     rotate_left
     ·exact absurd hz8 hne
     (repeat' (first | refine a_mv ?_ | (apply R.step; (first | (apply Ok.neIR; exact rfl; exact rfl; exact rfl) | (apply Ok.neIT; exact rfl; exact rfl; exact hne) | (apply Ok.eqPNN; exact rfl; exact rfl) | (apply Ok.neBoS; exact rfl; exact rfl)); exact rfl) | (refine a_go ?_; intros) | refine a_sp (fun h => ?_) fun h => ?_ | fail))
     (refine Fin.rA (H) ?_)
     exact ⟨rfl, (hM02.trans_ hM34).trans_ (hM7.trans_ hM8)⟩
    ·(repeat' (first | (refine a_go ?_; intros) | refine a_sp (fun h => ?_) fun h => ?_ | fail))
     apply R.arr (H2 := hq4 ++ (hL7 ++ (hp7 ++ H))) (by (exact a_arrs))
     (apply R.call; (exact a_evs); exact rfl; exact rOpenLog_K (lim := lim) hlm (hr4.mono hM7) (by omega); rintro _ M8 _ ⟨hM8, hq8, hr8, hcase8⟩)
     rcases hcase8 with ⟨hne8, _⟩ | ⟨_, lq7, hR7, rfl, hgr7, rfl⟩
     ·exact absurd hz hne8
     (repeat' (first | refine a_mv ?_ | (apply R.step; (first | (apply Ok.neIR; exact rfl; exact rfl; exact rfl) | (apply Ok.neIR; exact rfl; exact rfl; exact hz) | (apply Ok.eqPN; exact rfl; exact rfl) | (apply Ok.neBoS; exact rfl; exact rfl)); exact rfl) | (refine a_go ?_; intros) | refine a_sp (fun h => ?_) fun h => ?_ | fail))
     (apply Fin.arr (H2 := hp7 ++ (hq8 ++ (hL7 ++ (hR7 ++ H)))); (exact a_arrs))
     refine Fin.join (⟨i, ii, (openS d4).2.1, (openS d4).2.2, lb7, lq7, hp7, hq8, hL7, hR7, M8⟩ : PlX) ⟨by dsimp only; omega, by dsimp only; omega, by dsimp only; omega, (Mem.le_refl _).trans_ (hM7.trans_ hM8), ho7.mono hM8, hr8, hgl7.mono hM8, hgr7, (hW7 hz).mono (by omega)⟩ ?_ rfl rfl
     (exact a_subs)
   ·(repeat' (first | refine a_mv ?_ | (apply R.step; (first | (apply Ok.eqIF; exact rfl; exact rfl; exact hw) | (apply Ok.rem; exact rfl; exact rfl; decide) | (apply Ok.indexAddr; exact rfl; exact rfl; omega; omega) | (apply Ok.loadP; exact rfl; exact rfl; exact hMb4; exact c0)); exact rfl) | (refine a_go ?_; intros) | refine a_sp (fun h => ?_) fun h => ?_ | fail))
    refine Fin.join (⟨i, ii, d4, ss4, lb, lq, hp4, hq4, hL4, hR4, M4⟩ : PlX) ⟨by dsimp only; omega, by dsimp only; omega, by dsimp only; omega, Mem.le_refl _, ho4, hr4, hg4, hgr4, hI4⟩ ?_ rfl rfl
    (exact a_subs)
 rintro ⟨_, _, d5, ss5, lb5, lq5, hp5, hq5, hL5, hR5, M5⟩ ⟨hz5, hc5, hs5, hM5, ho5, hr5, hg5, hgr5, hI5⟩
 dsimp only at hz5 hc5 hs5 hM5 ho5 hr5 hg5 hgr5 hI5 ⊢
 have hlb5 : (listG ss5).length ≤ 1000000000 := by
  have h1 := list_bd hI5.bd
  have h2 : (131072 + (4 * i + 4)) * ss5.length ≤ (131072 + 900) * 5000 := Nat.mul_le_mul (by omega) (by omega)
  omega
 (repeat' (first | (refine a_go ?_; intros) | refine a_sp (fun h => ?_) fun h => ?_ | fail))
 (apply R.call; (exact a_evs); exact rfl; exact lawSame9_K ho5 hr5 hg5 hgr5 (okW.sgs hI5.ok) hlb5 hI5.ok.first (by omega); rintro _ M6 _ ⟨rfl, hM6, rfl⟩)
 (repeat' (first | (refine a_go ?_; intros) | refine a_sp (fun h => ?_) fun h => ?_ | fail))
 refine Fin.again (⟨i + 1, ii + 1, d5, ss5, lb5, lq5, hp5, hq5, hL5, hR5, M6⟩ : PlX) ⟨by dsimp only; omega, by dsimp only; omega, by dsimp only; omega, by dsimp only; omega, by dsimp only; omega, hM34.trans_ (hM5.trans_ hM6), ho5.mono hM6, hr5.mono hM6, hg5.mono hM6, hgr5.mono hM6, hI5⟩ (by dsimp only; omega) ?_ rfl rfl
 (exact a_subs)
end Go.Sx
end
