import Derived.Sort.Walk0
import Derived.Test.YtpjmlcnboedpeaaGreatZSegPlays3
set_option linter.unusedVariables false
set_option linter.unusedSimpArgs false
section
namespace Go.Sx
open Go Go.Proofs Go.RowKit
attribute [local irreducible] C R Fin K Own OwnT Rd Pl Ok KOf RetOk OpsOf RP KP Res NoPanic KV KE MapS ItS EntS FsO FsR RowD PlD DkO RT KT OneT RS KS OneS
variable {M M' : Mem} {H H1 H2 : Hp}
theorem sfollow_KL {lb db : Nat} {lim : Int} {ss : List Sg} {hL : Hp} {v : Value} {es : List En} (hg : SgO M lb db lim ss hL) (hok : sgsOk ss) (he : EnL M v es) (ha : Arr H (hL ++ H1)) : K Tryz.prog 74 [.pointer (some ⟨lb, 0, none⟩), v] M H fun v' M' H' => v' = .bool (decide (folE (lastO ss) es)) ∧ M' = M ∧ H' = hL ++ H1 :=
 K.lends ha fun M2 hM2 hin => (sfollow_K (hg.sgP hM2 hin) hok (he.mono hM2)).mono fun v' M' H' ⟨h1, h2, h3⟩ => ⟨h2, h1, rfl, by rw [h3]⟩
theorem psize_KO {p : PtV} (hp : PtO M p) (h0 : 0 < p.s.it.length) : K Tryz.prog 77 [.agg (ptC p).toArray] M (p.eh ++ H) fun v' M' H' => v' = .int .i64 (p.s.size : Int) ∧ M' = M ∧ H' = p.eh ++ H := by
 obtain ⟨h1, h2⟩ := hp
 obtain ⟨A, c, e1, _, _⟩ := h1.form
 obtain ⟨B, c2, e2, _, _⟩ := h2.form
 unfold ptC
 rw [e1, e2]
 rw [e2] at h2
 exact psize_KL rfl h2 (Sg.zs_len _) h0
theorem SgO.rec_ {lb db : Nat} {lim : Int} {ss : List Sg} {hL : Hp} (hg : SgO M lb db lim ss hL) : ∃ A c hR, hL = (lb, .cells [.pointer (some ⟨db, 0, none⟩), .int .i64 lim, .slice A ss.length c].toArray 78 (0, 0)) :: hR ∧ ss.length ≤ 9223372036854775807 := by
 obtain ⟨ps, pv, hrow, hss, hrw, hpt, rfl⟩ := hg
 obtain ⟨A, c, rfl, h1, h2⟩ := hrw.form
 have hpl : ps.length = ss.length := by rw [← hss, List.length_map]
 rw [hpl]
 exact ⟨A, c, _, rfl, by unfold maxLen at h2; omega⟩
theorem cells3_inj {lb : Nat} {a a2 u u' : Value} {e : Nat} {z : Nat × Nat} {hR hR' : Hp} (h : ((lb, .cells [a, a2, u].toArray e z) :: hR : Hp) = (lb, .cells [a, a2, u'].toArray e z) :: hR') : u = u' ∧ hR = hR' := by
 injection h with h1 h2
 injection h1 with _ h1
 injection h1 with h1 _ _
 simp at h1
 exact ⟨h1, h2⟩
structure ApX where
 k : Nat
 kk : Int
 d : Dk
 ss : List Sg
 hL : Hp
 hp : Hp
 M : Mem
structure AqX where
 qs : List PtV
 p : PtV
 pv : Value
 hrow : Hp
theorem sappend_K {lb db : Nat} {lim : Int} {d : Dk} {ss : List Sg} {v : Value} {es : List En} {hL hp : Hp} (hl : 64 ≤ lim ∧ lim ≤ 16384) (hg : SgO M lb db lim ss hL) (hok : sgsOk ss) (he : EnL M v es) (ho : DkO M db d hp) (hes : es.length ≤ 100000) (hlen : d.ps.length + es.length ≤ 900000) (hsl : ss.length + es.length ≤ 900000) (hsm : smG es.length ss) : K Tryz.prog 29 [.pointer (some ⟨lb, 0, none⟩), v] M (hL ++ (hp ++ H)) fun v' M' H' => v' = .int .i64 (appG d lim ss es).1 ∧ M.le M' ∧ ∃ hL' hp', SgO M' lb db lim (appG d lim ss es).2.2 hL' ∧ DkO M' db (appG d lim ss es).2.1 hp' ∧ H' = hL' ++ (hp' ++ H) := by
 refine K.enterK Tryz.func29 rfl rfl rfl ?_
 intro Q hNP hQ
 (repeat' (first | (refine a_ba ?_; intro ba) | (refine a_bl ?_; intro bl) | (refine a_go ?_; intros) | refine a_sp (fun h => ?_) fun h => ?_ | fail))
 (apply R.call; (exact a_evs); exact rfl; exact sfollow_KL (H1 := hp ++ H) hg hok he (Arr.all _); rintro _ M _ ⟨rfl, rfl, rfl⟩)
 by_cases hfol : folE (lastO ss) es
 rotate_left
 ·rw [decide_eq_false hfol]
  have hA : appG d lim ss es = (1, d, ss) := if_neg hfol
  rw [hA] at hQ
  (repeat' (first | (refine a_ba ?_; intro ba) | (refine a_bl ?_; intro bl) | (refine a_go ?_; intros) | refine a_sp (fun h => ?_) fun h => ?_ | fail))
  (refine Fin.rA (hL ++ (hp ++ H)) ?_)
  exact ⟨rfl, Mem.le_refl _, hL, hp, hg, ho, rfl⟩
 rw [decide_eq_true hfol]
 have hA : appG d lim ss es = appL d lim ss es := if_pos hfol
 rw [hA] at hQ
 clear hA
 have hE := folE_drop hfol
 clear hfol
 obtain ⟨A, cap, vs, rfl, k1, k2, k3, k4⟩ := he
 (repeat' (first | (refine a_ba ?_; intro ba) | (refine a_bl ?_; intro bl) | (refine a_go ?_; intros) | refine a_sp (fun h => ?_) fun h => ?_ | fail))
 apply C.loop (fun y : ApX => (y.k : Int) = y.kk ∧ y.k ≤ es.length ∧ M.le y.M ∧ SgO y.M lb db lim y.ss y.hL ∧ sgsOk y.ss ∧ smG (es.length - y.k) y.ss ∧ DkO y.M db y.d y.hp ∧ y.d.ps.length ≤ d.ps.length + y.k ∧ y.ss.length ≤ ss.length + y.k ∧ appL d lim ss es = appL y.d lim y.ss (es.drop y.k))
  (fun y => [(0, .pointer (some ⟨lb, 0, none⟩)), (18, .slice A es.length cap), (19, .int .i64 (es.length : Int)), (20, .int .i64 y.kk)]) (fun y => y.M) (fun y => y.hL ++ (y.hp ++ H)) (fun y => es.length - y.k) ⟨0, 0, d, ss, hL, hp, M⟩
 ·exact ⟨rfl, Nat.zero_le _, Mem.le_refl _, hg, hok, hsm, ho, Nat.le_refl _, Nat.le_refl _, rfl⟩
 ·(exact a_subs)
 ·exact rfl
 ·exact rfl
 rintro ⟨k, kk, d1, s1, hL1, hp1, M1⟩ ⟨hkk, hk, hM1, hg1, hok1, hsm1, ho1, hd1, hs1, hap⟩
 dsimp only at hkk hk hM1 hg1 hok1 hsm1 ho1 hd1 hs1 hap ⊢
 by_cases hke : k < es.length
 ·obtain ⟨b2, o2, c2, e2', fr2, Ai, ci, rfl, hMb2, hcell2, _, hi1, hi2, hpi⟩ := en_at k3 k4 hke
  rw [show o2 + k * 5 = o2 + kk.toNat * 5 by omega] at hcell2
  have hdr : es.drop k = es[k] :: es.drop (k + 1) := List.drop_eq_getElem_cons hke
  have hEx := hE _ (List.getElem_mem hke)
  generalize es[k] = x at hcell2 hpi hdr hi1 hEx
  rw [hdr] at hap
  have hxk := (entS_kind hEx).2.2.2.2.2
  have hz := layF_len hEx
  have hMb2' := hM1.2.2 _ _ hMb2
  (repeat' (first | refine a_mv ?_ | (apply R.step; (exact a_cmp); exact rfl) | (apply R.step; (first | (apply Ok.indexAddr; exact rfl; exact rfl; omega; omega) | (apply Ok.loadAggP (vs := ecells x (.slice Ai x.data.length ci)); exact rfl; exact rfl; exact hMb2'; exact rfl; exact hcell2)); exact rfl) | (refine a_ba ?_; intro ba) | (refine a_bl ?_; intro bl) | (refine a_go ?_; intros) | refine a_sp (fun h => ?_) fun h => ?_ | fail))
  (apply R.call; (exact a_evs); exact rfl; exact layEntry_K (e := x) (hpi.mono hM1); rintro _ M2 _ ⟨hM2, rfl, hL2⟩)
  rcases hL2 with ⟨_, w, rfl, hw⟩ | ⟨hno, _⟩
  rotate_left
  ·exact absurd hEx hno
  obtain ⟨Aw, cw, rfl, w1, w2, w3⟩ := id hw
  (repeat' (first | (refine a_ba ?_; intro ba) | (refine a_bl ?_; intro bl) | (refine a_go ?_; intros) | refine a_sp (fun h => ?_) fun h => ?_ | fail))
  (apply R.call; (exact a_evs); exact rfl; exact frame_KF w3 rfl (by omega); rintro _ M3 _ ⟨hfw, hM3, rfl⟩)
  obtain ⟨Af, cf, rfl, f1, f2, f3⟩ := id hfw
  obtain ⟨A1, c1, hR, rfl, _⟩ := hg1.rec_
  (repeat' (first | (refine a_ba ?_; intro ba) | (refine a_bl ?_; intro bl) | (refine a_g0 ?_; intros) | refine a_s3 (fun h => ?_) fun h => ?_ | fail))
  apply C.cutK (X := Bool) (hk := by assumption) (fun fr => freshG lim s1 (frameS (layE x)).length = fr) (fun fr => [(0, .pointer (some ⟨lb, 0, none⟩)), (6, .pointer (some ⟨ba, 0, none⟩)), (7, .slice Af (frameS (layE x)).length cf), (9, .int .i64 (s1.length : Int)), (10, .bool fr), (18, .slice (some ⟨b2, o2, none⟩) es.length cap), (19, .int .i64 (es.length : Int)), (20, .int .i64 kk)]) (fun _ => M3) (fun _ => (ba, .cells (ecells x (.slice Ai x.data.length ci)).toArray 33 (0, 0)) :: (((lb, .cells [.pointer (some ⟨db, 0, none⟩), .int .i64 lim, .slice A1 s1.length c1].toArray 78 (0, 0)) :: hR) ++ (hp1 ++ H)))
  ·by_cases h0 : s1.length = 0
   ·have hnl : s1 = [] := List.eq_nil_of_length_eq_zero h0
    (apply C.regionT (t := .free 0 (.free 1 (.free 2 (.free 3 (.free 4 (.free 5 (.free 6 (.free 7 (.free 8 (.free 9 (.free 10 (.free 11 (.free 12 (.free 13 (.free 14 (.free 15 (.free 16 (.free 17 (.free 18 (.free 19 (.free 20 (.free 21 .nil)))))))))))))))))))))) (Hs := []); exact Mix.h; (first | exact Arr.all _ | (exact a_arr) | (exact a_arrs)); (exact a_np); kernel_rfl)
    (repeat' (first | (apply RT.step; exact rfl; intro _ _ _; (apply Ok.move; exact rfl); exact rfl) | (apply RT.step; exact rfl; intro _ _ _; (apply Ok.eqIR; exact rfl; exact rfl; omega); exact rfl) | refine a_ot ?_ | fail))
    apply RT.nil
    (repeat' (first | (refine a_ba ?_; intro ba) | (refine a_bl ?_; intro bl) | (refine a_go ?_; intros) | refine a_sp (fun h => ?_) fun h => ?_ | fail))
    refine Fin.join (true : Bool) (by rw [hnl]; rfl) ?_ rfl rfl
    (exact a_subs)
   ·obtain ⟨qs, p, b, o, cp, c, hX⟩ := hg1.endO (by omega)
    obtain ⟨hu, rfl⟩ := cells3_inj hX.heap
    injection hu with e1 e2 e3
    subst e1 e3
    have hgl : s1.getLast? = some p.s := by rw [hX.segs, List.getLast?_append]; rfl
    have hpm : p.s ∈ s1 := List.mem_of_getLast? hgl
    have hso := hok1 _ hpm
    have hsz := (hsm1 _ hpm).2
    have hfr : freshG lim s1 (frameS (layE x)).length = decide (lim < ((p.s.size + (frameS (layE x)).length : Nat) : Int)) := by unfold freshG; rw [hgl]
    have hcell := hX.cell
    have hroom := hX.room
    have hcp1 := hX.cap1
    have hcp2 := hX.cap2
    have hll : (s1.length : Int) - 1 = ((s1.length - 1 : Nat) : Int) := by omega
    have hcell' : ∀ (q : Nat) u, (ptC p)[q]? = some u → c[o + ((s1.length - 1 : Nat) : Int).toNat * 3 + q]? = some u := hcell
    have hPO : PtO M3 p := (hX.own.mono hM2).mono hM3
    have hK := psize_KO (H := (lb, .cells [.pointer (some ⟨db, 0, none⟩), .int .i64 lim, .slice (some ⟨b, o, none⟩) s1.length c1].toArray 78 (0, 0)) :: (b, .cells c.toArray 85 (0, 0)) :: (ba, .cells (ecells x (.slice Ai x.data.length ci)).toArray 33 (0, 0)) :: (ptH qs ++ (p.lh ++ (hp1 ++ H)))) hPO hso.1
    (apply C.regionT (t := .free 0 (.free 1 (.free 2 (.free 3 (.free 4 (.free 5 (.free 6 (.free 7 (.free 8 (.free 9 (.free 10 (.free 12 (.free 13 (.free 15 (.free 16 (.free 17 (.free 18 (.one 11 (.free 14 (.free 19 (.free 20 (.free 21 .nil)))))))))))))))))))))) (Hs := [(lb, .cells [.pointer (some ⟨db, 0, none⟩), .int .i64 lim, .slice (some ⟨b, o, none⟩) s1.length c1].toArray 78 (0, 0)), (b, .cells c.toArray 85 (0, 0))]); exact Mix.h; (first | exact Arr.all _ | (exact a_arr) | (exact a_arrs)); (exact a_np); kernel_rfl)
    (repeat' (first | (apply RT.step; exact rfl; intro _ _ _; (apply Ok.move; exact rfl); exact rfl) | (apply RT.step; exact rfl; intro _ _ _; (apply Ok.eqIF; exact rfl; exact rfl; omega); exact rfl) | (apply RT.stepT; exact rfl; exact rfl; exact rfl; exact rfl; intro _ _ _; (first | (apply Ok.subQ ((s1.length - 1 : Nat) : Int); exact rfl; exact rfl; exact hll; apply w64; omega; omega) | (apply Ok.indexAddr; exact rfl; exact rfl; omega; omega) | (apply Ok.loadAggO (vs := ptC p); exact rfl; exact rfl; (exact a_at); exact hcell'; exact rfl)); exact rfl) | refine a_ot ?_ | fail))
    (apply RT.one; apply OneT.effT; exact rfl; exact rfl; exact rfl; exact rfl; intro Kc hKc ops0)
    apply R.arr (H2 := p.eh ++ ((lb, .cells [.pointer (some ⟨db, 0, none⟩), .int .i64 lim, .slice (some ⟨b, o, none⟩) s1.length c1].toArray 78 (0, 0)) :: (b, .cells c.toArray 85 (0, 0)) :: (ba, .cells (ecells x (.slice Ai x.data.length ci)).toArray 33 (0, 0)) :: (ptH qs ++ (p.lh ++ (hp1 ++ H))))) (by unfold ecells; (exact a_art))
    (apply R.call; (exact a_evs); exact rfl; exact hK; rintro _ M3 _ ⟨rfl, rfl, rfl⟩)
    (apply R.nil; apply Fin.kt (Hx := p.eh ++ ((ba, .cells (ecells x (.slice Ai x.data.length ci)).toArray 33 (0, 0)) :: (ptH qs ++ (p.lh ++ (hp1 ++ H))))) hKc; exact Mem.le_refl _; (exact a_art))
    by_cases hcm : lim < ((p.s.size + (frameS (layE x)).length : Nat) : Int)
    ·(repeat' (first | (apply RT.step; exact rfl; intro _ _ _; (apply Ok.move; exact rfl); exact rfl) | (apply RT.stepT; exact rfl; exact rfl; exact rfl; exact rfl; intro _ _ _; (first | (apply Ok.addQ ((p.s.size + (frameS (layE x)).length : Nat) : Int); exact rfl; exact rfl; exact (Int.natCast_add _ _).symm; apply w64; omega; omega) | (apply Ok.gtTr; exact rfl; exact rfl; omega)); exact rfl) | refine a_ot ?_ | fail))
     apply RT.nil
     (repeat' (first | (refine a_ba ?_; intro ba) | (refine a_bl ?_; intro bl) | (refine a_go ?_; intros) | refine a_sp (fun h => ?_) fun h => ?_ | fail))
     apply Fin.arr (H2 := (ba, .cells (ecells x (.slice Ai x.data.length ci)).toArray 33 (0, 0)) :: (((lb, .cells [.pointer (some ⟨db, 0, none⟩), .int .i64 lim, .slice (some ⟨b, o, none⟩) s1.length c1].toArray 78 (0, 0)) :: (b, .cells c.toArray 85 (0, 0)) :: (ptH qs ++ (p.lh ++ p.eh))) ++ (hp1 ++ H))) (by (exact a_art))
     refine Fin.join (true : Bool) (by rw [hfr]; exact decide_eq_true hcm) ?_ rfl rfl
     (exact a_subs)
    ·(repeat' (first | (apply RT.step; exact rfl; intro _ _ _; (apply Ok.move; exact rfl); exact rfl) | (apply RT.stepT; exact rfl; exact rfl; exact rfl; exact rfl; intro _ _ _; (first | (apply Ok.addQ ((p.s.size + (frameS (layE x)).length : Nat) : Int); exact rfl; exact rfl; exact (Int.natCast_add _ _).symm; apply w64; omega; omega) | (apply Ok.gtF; exact rfl; exact rfl; omega)); exact rfl) | refine a_ot ?_ | fail))
     apply RT.nil
     (repeat' (first | (refine a_ba ?_; intro ba) | (refine a_bl ?_; intro bl) | (refine a_go ?_; intros) | refine a_sp (fun h => ?_) fun h => ?_ | fail))
     apply Fin.arr (H2 := (ba, .cells (ecells x (.slice Ai x.data.length ci)).toArray 33 (0, 0)) :: (((lb, .cells [.pointer (some ⟨db, 0, none⟩), .int .i64 lim, .slice (some ⟨b, o, none⟩) s1.length c1].toArray 78 (0, 0)) :: (b, .cells c.toArray 85 (0, 0)) :: (ptH qs ++ (p.lh ++ p.eh))) ++ (hp1 ++ H))) (by (exact a_art))
     refine Fin.join (false : Bool) (by rw [hfr]; exact decide_eq_false hcm) ?_ rfl rfl
     (exact a_subs)
  intro fr hfr
  have hap2 : appL d1 lim s1 (x :: es.drop (k + 1)) = if appE d1 (nameS (tailG fr s1 x).first) (frameS (layE x)) ≠ 0 then
    (appE d1 (nameS (tailG fr s1 x).first) (frameS (layE x)), opD (appE d1 (nameS (tailG fr s1 x).first) (frameS (layE x))) d1 (.app (nameS (tailG fr s1 x).first) (frameS (layE x))), s1)
   else appL (opD 0 d1 (.app (nameS (tailG fr s1 x).first) (frameS (layE x)))) lim (headG fr s1 ++ [addS (tailG fr s1 x) x]) (es.drop (k + 1)) := by rw [appL, hfr]
  rw [hap2] at hap
  clear hap2
  have hxi : ((x.idx.toNat : Nat) : Int) = x.idx := Int.toNat_of_nonneg (by omega)
  have hM13 := hM2.trans_ hM3
  obtain ⟨b6, hb6⟩ : ∃ q, q = ba := ⟨_, rfl⟩
  subst hb6
  unfold ecells
  (repeat' (first | (refine a_ba ?_; intro ba) | (refine a_bl ?_; intro bl) | (refine a_g0 ?_; intros) | refine a_s3 (fun h => ?_) fun h => ?_ | fail))
  apply C.seqCut (X := AqX) (fun y => y.qs.map PtV.s = headG fr s1 ∧ y.p.s = tailG fr s1 x ∧ PtO M3 y.p ∧ (∀ q ∈ y.qs, PtO M3 q) ∧ OwnT 85 3 y.pv s1.length ((y.qs.map ptC).flatten ++ (if fr then [] else ptC y.p)) y.hrow ∧ hR = y.hrow ++ (ptH y.qs ++ (y.p.lh ++ y.p.eh)) ∧ y.pv = .slice A1 s1.length c1)
   (fun y => [(0, .pointer (some ⟨lb, 0, none⟩)), (6, .pointer (some ⟨b6, 0, none⟩)), (7, .slice Af (frameS (layE x)).length cf), (9, .int .i64 (s1.length : Int)), (10, .bool fr), (11, .pointer (some ⟨ba, 0, none⟩)), (12, .int .i64 (y.p.s.size : Int)), (18, .slice (some ⟨b2, o2, none⟩) es.length cap), (19, .int .i64 (es.length : Int)), (20, .int .i64 kk)]) (fun _ => M3) (fun y => (ba, .cells (ptC y.p).toArray 85 (0, 0)) :: (b6, .cells (ecells x (.slice Ai x.data.length ci)).toArray 33 (0, 0)) :: (lb, .cells [.pointer (some ⟨db, 0, none⟩), .int .i64 lim, y.pv].toArray 78 (0, 0)) :: (y.hrow ++ (ptH y.qs ++ (y.p.lh ++ (y.p.eh ++ (hp1 ++ H))))))
  ·cases fr with
   | true =>
    (repeat' (first | (refine a_ba ?_; intro ba) | (refine a_bl ?_; intro bl) | (refine a_go ?_; intros) | refine a_sp (fun h => ?_) fun h => ?_ | fail))
    obtain ⟨ps, pv, hrow, hss, hrw, hpt, hheq⟩ := hg1
    obtain ⟨hu, rfl⟩ := cells3_inj hheq
    have hpl : ps.length = s1.length := by rw [← hss, List.length_map]
    refine Fin.join (⟨ps, ⟨⟨x.idx.toNat, []⟩, .slice none 0 0, .slice none 0 0, [], []⟩, pv, hrow⟩ : AqX) ⟨hss, rfl, ⟨OwnP.nil, OwnT.nil _ _⟩, fun q hq => (hpt q hq).mono hM13, ?_, by simp, hu.symm⟩ ?_ rfl ?_
    ·rw [if_pos rfl, List.append_nil, ← hpl]
     exact hrw
    ·(exact a_subs)
    ·dsimp only
     unfold ptC ecells
     dsimp only
     rw [hxi, ← hu]
     simp only [List.nil_append, List.append_assoc, List.cons_append]
   | false =>
    obtain ⟨qs, p, b, o, cp, c, hX⟩ := hg1.endO (by have := freshG_ne hfr; exact List.length_pos_iff.2 this)
    obtain ⟨hu, rfl⟩ := cells3_inj hX.heap
    injection hu with e1 e2 e3
    subst e1 e3
    have hgl : s1.getLast? = some p.s := by rw [hX.segs, List.getLast?_append]; rfl
    have hso := hok1 _ (List.mem_of_getLast? hgl)
    have hsl2 := hX.len
    have hcell := hX.cell
    have hroom := hX.room
    have hcp1 := hX.cap1
    have hcp2 := hX.cap2
    have hll : (s1.length : Int) - 1 = ((s1.length - 1 : Nat) : Int) := by omega
    have hPO : PtO M3 p := hX.own.mono hM13
    have hK := psize_KO (H := (ba, .cells (ptC p).toArray 85 (0, 0)) :: (b6, .cells (ecells x (.slice Ai x.data.length ci)).toArray 33 (0, 0)) :: (lb, .cells [.pointer (some ⟨db, 0, none⟩), .int .i64 lim, .slice (some ⟨b, o, none⟩) s1.length c1].toArray 78 (0, 0)) :: (b, .cells c.toArray 85 (0, 0)) :: (ptH qs ++ (p.lh ++ (hp1 ++ H)))) hPO hso.1
    have hhd : headG false s1 = qs.map PtV.s := by
     unfold headG
     rw [if_neg (by decide)]
     have h1 := congrArg List.dropLast hX.segs
     rw [List.dropLast_concat] at h1
     exact h1
    have htl : tailG false s1 x = p.s := by
     unfold tailG
     rw [if_neg (by decide), List.getLastD_eq_getLast?, hgl]
     rfl
    have hrowX := hX.row
    have hallX := hX.all
    obtain ⟨⟨f_, it⟩, lv, ev, lh, eh⟩ := p
    obtain ⟨hoP, hoT⟩ := id hPO
    obtain ⟨Al, cl, hlv, kl1, kl2⟩ := hoP.form
    obtain ⟨Ae, ce, hev, ke1, ke2⟩ := hoT.form
    change lv = .slice Al (⟨f_, it⟩ : Sg).es.length cl at hlv
    change ev = .slice Ae it.length ce at hev
    subst hlv hev
    have hcell' : ∀ (q : Nat) u, [Value.int .u64 (f_ : Int), .slice Al (⟨f_, it⟩ : Sg).es.length cl, .slice Ae it.length ce][q]? = some u → c[o + ((s1.length - 1 : Nat) : Int).toNat * 3 + q]? = some u := hcell
    unfold ptC at hK
    dsimp only at hK
    (repeat' (first | refine a_mv ?_ | (apply R.step; (first | (apply Ok.subQ ((s1.length - 1 : Nat) : Int); exact rfl; exact rfl; exact hll; apply w64; omega; omega) | (apply Ok.indexAddr; exact rfl; exact rfl; omega; omega) | (apply Ok.loadAggO (vs := [Value.int .u64 (f_ : Int), .slice Al (⟨f_, it⟩ : Sg).es.length cl, .slice Ae it.length ce]); exact rfl; exact rfl; (exact a_at); exact hcell'; exact rfl)); exact rfl) | (refine a_ba ?_; intro ba) | (refine a_bl ?_; intro bl) | (refine a_go ?_; intros) | refine a_sp (fun h => ?_) fun h => ?_ | fail))
    apply R.arr (H2 := eh ++ ((ba, .cells [.int .u64 (f_ : Int), .slice Al (⟨f_, it⟩ : Sg).es.length cl, .slice Ae it.length ce].toArray 85 (0, 0)) :: (b6, .cells (ecells x (.slice Ai x.data.length ci)).toArray 33 (0, 0)) :: (lb, .cells [.pointer (some ⟨db, 0, none⟩), .int .i64 lim, .slice (some ⟨b, o, none⟩) s1.length c1].toArray 78 (0, 0)) :: (b, .cells c.toArray 85 (0, 0)) :: (ptH qs ++ (lh ++ (hp1 ++ H))))) (by unfold ecells; (exact a_art))
    (apply R.call; (exact a_evs); exact rfl; exact hK; rintro _ M3 _ ⟨rfl, rfl, rfl⟩)
    (repeat' (first | (refine a_ba ?_; intro ba) | (refine a_bl ?_; intro bl) | (refine a_go ?_; intros) | refine a_sp (fun h => ?_) fun h => ?_ | fail))
    apply Fin.arr (H2 := (ba, .cells [.int .u64 (f_ : Int), .slice Al (⟨f_, it⟩ : Sg).es.length cl, .slice Ae it.length ce].toArray 85 (0, 0)) :: (b6, .cells (ecells x (.slice Ai x.data.length ci)).toArray 33 (0, 0)) :: (lb, .cells [.pointer (some ⟨db, 0, none⟩), .int .i64 lim, .slice (some ⟨b, o, none⟩) s1.length c1].toArray 78 (0, 0)) :: ([(b, .cells c.toArray 85 (0, 0))] ++ (ptH qs ++ (lh ++ (eh ++ (hp1 ++ H)))))) (by (exact a_art))
    refine Fin.join (⟨qs, ⟨⟨f_, it⟩, .slice Al (⟨f_, it⟩ : Sg).es.length cl, .slice Ae it.length ce, lh, eh⟩, .slice (some ⟨b, o, none⟩) s1.length c1, [(b, .cells c.toArray 85 (0, 0))]⟩ : AqX) ⟨hhd.symm, htl.symm, hPO, fun q hq => (hallX q hq).mono hM13, ?_, rfl, rfl⟩ ?_ rfl rfl
    ·rw [if_neg (by decide)]
     exact hrowX
    ·(exact a_subs)
  rintro ⟨qs, p, pv, hrow⟩ ⟨hqs, hps, hPO, hQO, hrw, hReq, hpv⟩
  dsimp only at hqs hps hPO hQO hrw hReq hpv ⊢
  subst hReq hpv
  have hts := tailG_sm hsm1 hEx (by omega) hfr
  have ho3 : DkO M3 db d1 hp1 := ho1.mono hM13
  rw [← hps] at hts hap
  obtain ⟨⟨f_, it⟩, lv, ev, lh, eh⟩ := p
  obtain ⟨hoP, hoT⟩ := id hPO
  obtain ⟨Al, cl, hlv, kl1, kl2⟩ := hoP.form
  obtain ⟨Ae, ce, hev, ke1, ke2⟩ := hoT.form
  change lv = .slice Al (⟨f_, it⟩ : Sg).es.length cl at hlv
  change ev = .slice Ae it.length ce at hev
  subst hlv hev
  have hoT' : OwnT 3 1 (.slice Ae it.length ce) it.length (endC (endsA 0 (it.map Prod.snd))) eh := hoT
  unfold ptC
  dsimp only at hts hap ⊢
  have hnl := nameS_len hts.1
  (apply C.seqK; intro _ _)
  (apply C.seqK; intro _ _)
  (apply C.regionT (t := .free 0 (.free 1 (.free 2 (.free 3 (.free 4 (.free 5 (.free 6 (.free 7 (.one 8 (.free 9 .nil)))))))))) (Hs := [(lb, .cells [.pointer (some ⟨db, 0, none⟩), .int .i64 lim, .slice A1 s1.length c1].toArray 78 (0, 0)), (ba, .cells [.int .u64 ↑f_, .slice Al (Sg.es ⟨f_, it⟩).length cl, .slice Ae it.length ce].toArray 85 (0, 0))]); exact Mix.h; (first | exact Arr.all _ | (exact a_arr) | (exact a_arrs)); (exact a_np); kernel_rfl)
  (repeat' (first | (apply RT.step; exact rfl; intro _ _ _; (apply Ok.move; exact rfl); exact rfl) | (apply RT.callQ; exact rfl; exact inferInstance; (exact a_evs); exact rfl; (intro M' Hx' hM'; exact segName_K (n := f_) (by omega))) | refine a_ot ?_ | fail))
  (apply RT.one; apply OneT.eff; exact rfl; intro Kc hKc ops0)
  apply R.arr (H2 := hp1 ++ ((lb, .cells [.pointer (some ⟨db, 0, none⟩), .int .i64 lim, .slice A1 s1.length c1].toArray 78 (0, 0)) :: (ba, .cells [.int .u64 (f_ : Int), .slice Al (⟨f_, it⟩ : Sg).es.length cl, .slice Ae it.length ce].toArray 85 (0, 0)) :: (b6, .cells (ecells x (.slice Ai x.data.length ci)).toArray 33 (0, 0)) :: (hrow ++ (ptH qs ++ (lh ++ (eh ++ H)))))) (by (exact a_art))
  (apply R.call; (exact a_evs); exact rfl; exact append_K (n := nameS f_) ho3 hfw (by omega) (by omega) (by omega); rintro _ M4 _ ⟨rfl, hM4, hp4, ho4, rfl⟩)
  (apply R.nil; apply Fin.kt (Hx := (b6, .cells (ecells x (.slice Ai x.data.length ci)).toArray 33 (0, 0)) :: (hrow ++ (ptH qs ++ (lh ++ (eh ++ (hp4 ++ H)))))) hKc; exact hM4; (exact a_art))
  (repeat' (first | refine a_ot ?_ | fail))
  apply RT.nil
  by_cases hq : appE d1 (nameS f_) (frameS (layE x)) = 0
  rotate_left
  ·rw [if_pos hq] at hap
   rw [hap] at hQ
   (repeat' (first | refine a_mv ?_ | (apply R.step; (apply Ok.neIT; exact rfl; exact rfl; exact hq); exact rfl) | (refine a_ba ?_; intro ba) | (refine a_bl ?_; intro bl) | (refine a_go ?_; intros) | refine a_sp (fun h => ?_) fun h => ?_ | fail))
   apply Fin.arr (H2 := ((lb, .cells [.pointer (some ⟨db, 0, none⟩), .int .i64 lim, .slice A1 s1.length c1].toArray 78 (0, 0)) :: (hrow ++ (ptH qs ++ (lh ++ eh)))) ++ (hp4 ++ H)) (by (exact a_art))
   obtain ⟨hL2, hHL⟩ : ∃ q : Hp, q = (lb, .cells [.pointer (some ⟨db, 0, none⟩), .int .i64 lim, .slice A1 s1.length c1].toArray 78 (0, 0)) :: (hrow ++ (ptH qs ++ (lh ++ eh))) := ⟨_, rfl⟩
   rw [← hHL]
   dsimp only at hg1
   rw [← hHL] at hg1
   (refine Fin.rA (hL2 ++ (hp4 ++ H)) ?_)
   exact ⟨rfl, hM1.trans_ (hM13.trans_ hM4), hL2, hp4, hg1.mono (hM13.trans_ hM4), ho4, rfl⟩
  rw [if_neg (fun h => h hq)] at hap
  rw [hq] at ho4
  (repeat' (first | refine a_mv ?_ | (apply R.step; (apply Ok.neIR; exact rfl; exact rfl; exact hq); exact rfl) | (refine a_ba ?_; intro ba) | (refine a_bl ?_; intro bl) | (refine a_go ?_; intros) | refine a_sp (fun h => ?_) fun h => ?_ | fail))
  unfold ecells
  (apply C.regionS (A := [0, 1, 2, 3, 4, 5]) (t := .free 0 (.free 1 (.free 2 (.one 3 (.one 4 (.one 5 .nil)))))) (u := .free 6 (.one 7 .nil)) (Hs := [(ba, .cells [.int .u64 ↑f_, .slice Al (Sg.es ⟨f_, it⟩).length cl, .slice Ae it.length ce].toArray 85 (0, 0)), (b6, .cells [.int .i64 x.kind, .int .u64 x.term, .int .u64 x.idx, .slice Ai x.data.length ci, .int .i64 x.conf].toArray 33 (0, 0))]); exact Mix.h; (first | exact Arr.all _ | (exact a_arr) | (exact a_arrs)); (exact a_np); kernel_rfl)
  (repeat' (first | refine a_os ?_ | fail))
  (apply RS.one; apply OneS.eff; exact rfl; intro Kc hKc ops0)
  (apply R.call; (exact a_evs); exact rfl; exact stwin_K (e := x) (hpi.mono (hM1.trans_ (hM13.trans_ hM4))) (by omega); rintro _ M5 _ ⟨Atw, ct, rfl, hbt, hM5, rfl⟩)
  unfold eV ecells
  (apply R.nil; apply Fin.ks (Hx := (lb, .cells [.pointer (some ⟨db, 0, none⟩), .int .i64 lim, .slice A1 s1.length c1].toArray 78 (0, 0)) :: (hrow ++ (ptH qs ++ (lh ++ (eh ++ (hp4 ++ H)))))) hKc; exact hM5; (exact a_art))
  (apply RS.one; apply OneS.eff; exact rfl; intro Kc hKc ops0)
  (apply R.buildSlice; (exact a_prt); exact rfl; exact rfl; (exact a_fills); exact rfl; intro bq)
  apply R.arr (H2 := (ba, .cells [.int .u64 (f_ : Int), .slice Al (⟨f_, it⟩ : Sg).es.length cl, .slice Ae it.length ce].toArray 85 (0, 0)) :: (b6, .cells [.int .i64 x.kind, .int .u64 x.term, .int .u64 x.idx, .slice Ai x.data.length ci, .int .i64 x.conf].toArray 33 (0, 0)) :: (bq, .cells [.int .i64 x.kind, .int .u64 x.term, .int .u64 x.idx, .slice Atw x.data.length ct, .int .i64 x.conf].toArray 33 (0, 0)) :: (lb, .cells [.pointer (some ⟨db, 0, none⟩), .int .i64 lim, .slice A1 s1.length c1].toArray 78 (0, 0)) :: (hrow ++ (ptH qs ++ (lh ++ (eh ++ (hp4 ++ H)))))) (by (exact a_art))
  (apply R.nil; apply Fin.ks (Hx := (bq, .cells [.int .i64 x.kind, .int .u64 x.term, .int .u64 x.idx, .slice Atw x.data.length ct, .int .i64 x.conf].toArray 33 (0, 0)) :: (lb, .cells [.pointer (some ⟨db, 0, none⟩), .int .i64 lim, .slice A1 s1.length c1].toArray 78 (0, 0)) :: (hrow ++ (ptH qs ++ (lh ++ (eh ++ (hp4 ++ H)))))) hKc; exact hM5; (exact a_art))
  (apply RS.one; apply OneS.eff; exact rfl; intro Kc hKc ops0)
  obtain ⟨vs2, hot, hpv2⟩ := hoP.mono (hM4.trans_ hM5)
  dsimp only at hot hpv2
  have hesl : (⟨f_, it⟩ : Sg).es.length = it.length := Sg.es_len _
  apply R.arr (H2 := lh ++ ((bq, .cells [.int .i64 x.kind, .int .u64 x.term, .int .u64 x.idx, .slice Atw x.data.length ct, .int .i64 x.conf].toArray 33 (0, 0)) :: (ba, .cells [.int .u64 (f_ : Int), .slice Al (⟨f_, it⟩ : Sg).es.length cl, .slice Ae it.length ce].toArray 85 (0, 0)) :: (b6, .cells [.int .i64 x.kind, .int .u64 x.term, .int .u64 x.idx, .slice Ai x.data.length ci, .int .i64 x.conf].toArray 33 (0, 0)) :: (lb, .cells [.pointer (some ⟨db, 0, none⟩), .int .i64 lim, .slice A1 s1.length c1].toArray 78 (0, 0)) :: (hrow ++ (ptH qs ++ (eh ++ (hp4 ++ H)))))) (by (exact a_art))
  (apply R.appendT (news := [.int .i64 x.kind, .int .u64 x.term, .int .u64 x.idx, .slice Atw x.data.length ct, .int .i64 x.conf]) (k := 1); exact rfl; exact rfl; exact hot; (exact a_tk); exact Rd.at_ (l := [.int .i64 x.kind, .int .u64 x.term, .int .u64 x.idx, .slice Atw x.data.length ct, .int .i64 x.conf]) (by (exact a_at)) (fun j u h => by rw [Nat.zero_add]; exact h); exact rfl; (intro u hu; simp only [List.mem_cons, List.not_mem_nil, or_false] at hu; rcases hu with rfl | rfl | rfl | rfl | rfl <;> rfl); omega; exact rfl; decide; decide; exact rfl; rintro lv2 lh2 how2)
  have hoP2 : OwnP M5 lv2 ((⟨f_, it⟩ : Sg).es ++ [x]) lh2 := OwnP.snocE how2 hpv2 hbt
  obtain ⟨Al2, cl2, rfl, _, _⟩ := how2.form
  (apply R.nil; apply Fin.ks (Hx := lh2 ++ ((lb, .cells [.pointer (some ⟨db, 0, none⟩), .int .i64 lim, .slice A1 s1.length c1].toArray 78 (0, 0)) :: (hrow ++ (ptH qs ++ (eh ++ (hp4 ++ H)))))) hKc; exact hM5; (exact a_art))
  refine RS.later (Hs2 := []) (Hx2 := (ba, .cells [.int .u64 (f_ : Int), .slice Al (⟨f_, it⟩ : Sg).es.length cl, .slice Ae it.length ce].toArray 85 (0, 0)) :: (lb, .cells [.pointer (some ⟨db, 0, none⟩), .int .i64 lim, .slice A1 s1.length c1].toArray 78 (0, 0)) :: (lh2 ++ (hrow ++ (ptH qs ++ (eh ++ (hp4 ++ H)))))) (by (exact a_art)) ?_
  (repeat' (first | refine a_ot ?_ | fail))
  (apply RT.one; apply OneT.eff; exact rfl; intro Kc hKc ops0)
  (repeat' (first | (refine a_ba ?_; intro ba) | (refine a_bl ?_; intro bl) | (refine a_go ?_; intros) | refine a_sp (fun h => ?_) fun h => ?_ | fail))
  ((first | apply R.nil | skip); apply Fin.kt hKc; exact Mem.le_refl _; (exact a_arrs))
  apply RT.nil
  (repeat' (first | (refine a_ba ?_; intro ba) | (refine a_bl ?_; intro bl) | (refine a_go ?_; intros) | refine a_sp (fun h => ?_) fun h => ?_ | fail))
  apply R.arr (H2 := eh ++ ((bl, .cells [.int .i64 ((((⟨f_, it⟩ : Sg).size : Nat) : Int) + (((frameS (layE x)).length : Nat) : Int))].toArray 3 (0, 0)) :: (ba, .cells [.int .u64 (f_ : Int), .slice Al2 ((⟨f_, it⟩ : Sg).es.length + 1) cl2, .slice Ae it.length ce].toArray 85 (0, 0)) :: (lb, .cells [.pointer (some ⟨db, 0, none⟩), .int .i64 lim, .slice A1 s1.length c1].toArray 78 (0, 0)) :: (lh2 ++ (hrow ++ (ptH qs ++ (hp4 ++ H)))))) (by (exact a_art))
  (apply R.appendT (news := [.int .i64 ((((⟨f_, it⟩ : Sg).size : Nat) : Int) + (((frameS (layE x)).length : Nat) : Int))]) (k := 1); exact rfl; exact rfl; exact hoT'; (exact a_tk); exact Rd.at_ (l := [.int .i64 ((((⟨f_, it⟩ : Sg).size : Nat) : Int) + (((frameS (layE x)).length : Nat) : Int))]) (by (exact a_at)) (fun j u h => by rw [Nat.zero_add]; exact h); exact rfl; (intro u hu; rw [List.mem_singleton] at hu; subst hu; rfl); omega; exact rfl; decide; decide; exact rfl; rintro ev2 eh2 hoT2)
  obtain ⟨Ae2, ce2, rfl, _, _⟩ := hoT2.form
  have hPO2 : PtO M5 ⟨addS ⟨f_, it⟩ x, .slice Al2 ((⟨f_, it⟩ : Sg).es.length + 1) cl2, .slice Ae2 (it.length + 1) ce2, lh2, eh2⟩ := by
   refine ⟨?_, ?_⟩
   ·show OwnP M5 _ (addS ⟨f_, it⟩ x).es lh2
    rw [addS_es]
    exact hoP2
   ·show OwnT 3 1 _ (addS ⟨f_, it⟩ x).it.length (endC (endsA 0 ((it ++ [(x, (frameS (layE x)).length)]).map Prod.snd))) eh2
    rw [addS_len, List.map_append]
    show OwnT 3 1 _ (it.length + 1) (endC (endsA 0 (it.map Prod.snd ++ [(frameS (layE x)).length]))) eh2
    rw [endsA_snoc, Nat.zero_add]
    unfold endC at hoT2 ⊢
    rw [List.map_append]
    have h9 : ((((⟨f_, it⟩ : Sg).size + (frameS (layE x)).length : Nat) : Int)) = (((⟨f_, it⟩ : Sg).size : Nat) : Int) + (((frameS (layE x)).length : Nat) : Int) := Int.natCast_add _ _
    rw [← h9] at hoT2
    exact hoT2
  have hok2 := next_ok hok1 hEx hfr
  have hsm2 : smG (es.length - (k + 1)) (headG fr s1 ++ [addS (tailG fr s1 x) x]) := by
   rw [show es.length - k = es.length - (k + 1) + 1 by omega] at hsm1
   exact next_sm hsm1 hEx (by omega) hfr
  have hnl2 := next_len (ss := s1) (e := x) hfr
  have hnp : (opD 0 d1 (.app (nameS f_) (frameS (layE x)))).ps.length ≤ d1.ps.length + 1 := opD_ps _ _ _
  rw [← hps] at hok2 hsm2 hnl2
  dsimp only at hok2 hsm2 hnl2
  cases fr with
  | true =>
   rw [if_pos rfl, List.append_nil] at hrw
   have hql : qs.length = s1.length := by
    have := congrArg List.length hqs
    rw [List.length_map] at this
    exact this
   (repeat' (first | (refine a_ba ?_; intro ba) | (refine a_bl ?_; intro bl) | (refine a_go ?_; intros) | refine a_sp (fun h => ?_) fun h => ?_ | fail))
   (apply C.regionS (A := [0, 1, 2, 3, 4, 5, 6, 7]) (t := .free 0 (.free 1 (.free 2 (.free 3 (.free 4 (.free 5 (.one 6 (.one 7 .nil)))))))) (u := .free 8 (.free 9 (.one 10 .nil))) (Hs := [(ba, .cells [.int .u64 ↑f_, .slice Al2 ((Sg.es ⟨f_, it⟩).length + 1) cl2, .slice Ae2 (it.length + 1) ce2].toArray 85 (0, 0)), (lb, .cells [.pointer (some ⟨db, 0, none⟩), .int .i64 lim, .slice A1 s1.length c1].toArray 78 (0, 0))]); exact Mix.h; (first | exact Arr.all _ | (exact a_arr) | (exact a_arrs)); (exact a_np); kernel_rfl)
   (repeat' (first | refine a_os ?_ | fail))
   (apply RS.one; apply OneS.eff; exact rfl; intro Kc hKc ops0)
   (apply R.buildSlice; (exact a_prt); exact rfl; exact rfl; (exact a_fills); exact rfl; intro bq)
   apply R.arr (H2 := (ba, .cells [.int .u64 (f_ : Int), .slice Al2 ((⟨f_, it⟩ : Sg).es.length + 1) cl2, .slice Ae2 (it.length + 1) ce2].toArray 85 (0, 0)) :: (lb, .cells [.pointer (some ⟨db, 0, none⟩), .int .i64 lim, .slice A1 s1.length c1].toArray 78 (0, 0)) :: (bq, .cells [.int .u64 (f_ : Int), .slice Al2 ((⟨f_, it⟩ : Sg).es.length + 1) cl2, .slice Ae2 (it.length + 1) ce2].toArray 85 (0, 0)) :: (hrow ++ (lh2 ++ (eh2 ++ (ptH qs ++ (hp4 ++ H)))))) (by (exact a_art))
   (apply R.nil; apply Fin.ks (Hx := (bq, .cells [.int .u64 (f_ : Int), .slice Al2 ((⟨f_, it⟩ : Sg).es.length + 1) cl2, .slice Ae2 (it.length + 1) ce2].toArray 85 (0, 0)) :: (hrow ++ (lh2 ++ (eh2 ++ (ptH qs ++ (hp4 ++ H)))))) hKc; exact Mem.le_refl _; (exact a_art))
   (apply RS.one; apply OneS.eff; exact rfl; intro Kc hKc ops0)
   apply R.arr (H2 := hrow ++ ((bq, .cells [.int .u64 (f_ : Int), .slice Al2 ((⟨f_, it⟩ : Sg).es.length + 1) cl2, .slice Ae2 (it.length + 1) ce2].toArray 85 (0, 0)) :: (ba, .cells [.int .u64 (f_ : Int), .slice Al2 ((⟨f_, it⟩ : Sg).es.length + 1) cl2, .slice Ae2 (it.length + 1) ce2].toArray 85 (0, 0)) :: (lb, .cells [.pointer (some ⟨db, 0, none⟩), .int .i64 lim, .slice A1 s1.length c1].toArray 78 (0, 0)) :: (lh2 ++ (eh2 ++ (ptH qs ++ (hp4 ++ H)))))) (by (exact a_art))
   (apply R.appendT (news := [.int .u64 (f_ : Int), .slice Al2 ((⟨f_, it⟩ : Sg).es.length + 1) cl2, .slice Ae2 (it.length + 1) ce2]) (k := 1); exact rfl; exact rfl; exact hrw; (exact a_tk); exact Rd.at_ (l := [.int .u64 (f_ : Int), .slice Al2 ((⟨f_, it⟩ : Sg).es.length + 1) cl2, .slice Ae2 (it.length + 1) ce2]) (by (exact a_at)) (fun j u h => by rw [Nat.zero_add]; exact h); exact rfl; (intro u hu; simp only [List.mem_cons, List.not_mem_nil, or_false] at hu; rcases hu with rfl | rfl | rfl <;> rfl); omega; exact rfl; decide; decide; exact rfl; rintro pv2 hrow2 hrw2)
   obtain ⟨Ap2, cp2, rfl, qc1, qc2⟩ := hrw2.form
   have hg2 : SgO M5 lb db lim (headG true s1 ++ [addS ⟨f_, it⟩ x]) ((lb, lgO db lim (.slice Ap2 (s1.length + 1) cp2)) :: (hrow2 ++ ptH (qs ++ [⟨addS ⟨f_, it⟩ x, .slice Al2 ((⟨f_, it⟩ : Sg).es.length + 1) cl2, .slice Ae2 (it.length + 1) ce2, lh2, eh2⟩]))) := by
    refine ⟨qs ++ [⟨addS ⟨f_, it⟩ x, .slice Al2 ((⟨f_, it⟩ : Sg).es.length + 1) cl2, .slice Ae2 (it.length + 1) ce2, lh2, eh2⟩], _, hrow2, by rw [List.map_append, hqs]; rfl, ?_, ?_, rfl⟩
    ·rw [List.length_append, List.map_append, List.flatten_append, List.length_singleton, hql]
     exact hrw2
    ·intro q hq
     rcases List.mem_append.1 hq with hq | hq
     ·exact (hQO q hq).mono (hM4.trans_ hM5)
     ·rw [List.mem_singleton] at hq
      subst hq
      exact hPO2
   (apply R.nil; apply Fin.ks (Hx := hrow2 ++ (lh2 ++ (eh2 ++ (ptH qs ++ (hp4 ++ H))))) hKc; exact Mem.le_refl _; (exact a_art))
   refine RS.later (Hs2 := []) (Hx2 := (lb, .cells [.pointer (some ⟨db, 0, none⟩), .int .i64 lim, .slice A1 s1.length c1].toArray 78 (0, 0)) :: (hrow2 ++ (lh2 ++ (eh2 ++ (ptH qs ++ (hp4 ++ H)))))) (by (exact a_art)) ?_
   (repeat' (first | refine a_ot ?_ | fail))
   (apply RT.one; apply OneT.eff; exact rfl; intro Kc hKc ops0)
   (repeat' (first | (refine a_ba ?_; intro ba) | (refine a_bl ?_; intro bl) | (refine a_go ?_; intros) | refine a_sp (fun h => ?_) fun h => ?_ | fail))
   ((first | apply R.nil | skip); apply Fin.kt hKc; exact Mem.le_refl _; (exact a_arrs))
   apply RT.nil
   (repeat' (first | (refine a_ba ?_; intro ba) | (refine a_bl ?_; intro bl) | (refine a_go ?_; intros) | refine a_sp (fun h => ?_) fun h => ?_ | fail))
   obtain ⟨hL2, hHL⟩ : ∃ q : Hp, q = (lb, lgO db lim (.slice Ap2 (s1.length + 1) cp2)) :: (hrow2 ++ ptH (qs ++ [⟨addS ⟨f_, it⟩ x, .slice Al2 ((⟨f_, it⟩ : Sg).es.length + 1) cl2, .slice Ae2 (it.length + 1) ce2, lh2, eh2⟩])) := ⟨_, rfl⟩
   apply Fin.arr (H2 := hL2 ++ (hp4 ++ H)) (by rw [hHL, ptH_snoc]; unfold lgO; dsimp only; (exact a_art))
   rw [← hHL] at hg2
   refine Fin.again (⟨k + 1, kk + 1, opD 0 d1 (.app (nameS f_) (frameS (layE x))), headG true s1 ++ [addS ⟨f_, it⟩ x], hL2, hp4, M5⟩ : ApX) ⟨by dsimp only; omega, by dsimp only; omega, hM1.trans_ (hM13.trans_ (hM4.trans_ hM5)), hg2, hok2, hsm2, ho4.mono hM5, by dsimp only; omega, by dsimp only; omega, by dsimp only; exact hap⟩ (by dsimp only; omega) ?_ rfl rfl
   (exact a_subs)
  | false =>
   rw [if_neg (by decide)] at hrw
   have hql : qs.length + 1 = s1.length := by
    have h1 := congrArg List.length hqs
    have h2 := List.length_pos_iff.2 (freshG_ne hfr)
    unfold headG at h1
    rw [List.length_map, if_neg (by decide), List.length_dropLast] at h1
    omega
   obtain ⟨b, o, c, rfl, rfl, hroom, hc1, hc2, _⟩ := hrw.split (by omega)
   unfold maxLen at hc2
   have hll : (s1.length : Int) - 1 = ((qs.length : Nat) : Int) := by omega
   have hrw2 : OwnT 85 3 (.slice (some ⟨b, o, none⟩) s1.length c1) s1.length ((qs.map ptC).flatten ++ ([.int .u64 (f_ : Int), .slice Al2 ((⟨f_, it⟩ : Sg).es.length + 1) cl2, .slice Ae2 (it.length + 1) ce2] : List Value)) [(b, .cells (c.take (o + qs.length * 3) ++ ([.int .u64 (f_ : Int), .slice Al2 ((⟨f_, it⟩ : Sg).es.length + 1) cl2, .slice Ae2 (it.length + 1) ce2] : List Value) ++ c.drop (o + qs.length * 3 + ([.int .u64 (f_ : Int), .slice Al2 ((⟨f_, it⟩ : Sg).es.length + 1) cl2, .slice Ae2 (it.length + 1) ce2] : List Value).length)).toArray 85 (0, 0))] := by
    rw [← hql] at hrw ⊢
    exact hrw.putLast (ptC_flat qs) rfl
   have hg2 : SgO M5 lb db lim (headG false s1 ++ [addS ⟨f_, it⟩ x]) ((lb, lgO db lim (.slice (some ⟨b, o, none⟩) s1.length c1)) :: ([(b, .cells (c.take (o + qs.length * 3) ++ ([.int .u64 (f_ : Int), .slice Al2 ((⟨f_, it⟩ : Sg).es.length + 1) cl2, .slice Ae2 (it.length + 1) ce2] : List Value) ++ c.drop (o + qs.length * 3 + ([.int .u64 (f_ : Int), .slice Al2 ((⟨f_, it⟩ : Sg).es.length + 1) cl2, .slice Ae2 (it.length + 1) ce2] : List Value).length)).toArray 85 (0, 0))] ++ ptH (qs ++ [⟨addS ⟨f_, it⟩ x, .slice Al2 ((⟨f_, it⟩ : Sg).es.length + 1) cl2, .slice Ae2 (it.length + 1) ce2, lh2, eh2⟩]))) := by
    refine ⟨qs ++ [⟨addS ⟨f_, it⟩ x, .slice Al2 ((⟨f_, it⟩ : Sg).es.length + 1) cl2, .slice Ae2 (it.length + 1) ce2, lh2, eh2⟩], _, _, by rw [List.map_append, hqs]; rfl, ?_, ?_, rfl⟩
    ·rw [List.length_append, List.map_append, List.flatten_append, List.length_singleton, hql]
     exact hrw2
    ·intro q hq
     rcases List.mem_append.1 hq with hq | hq
     ·exact (hQO q hq).mono (hM4.trans_ hM5)
     ·rw [List.mem_singleton] at hq
      subst hq
      exact hPO2
   (repeat' (first | (refine a_ba ?_; intro ba) | (refine a_bl ?_; intro bl) | (refine a_go ?_; intros) | refine a_sp (fun h => ?_) fun h => ?_ | fail))
   (apply C.regionT (t := .free 0 (.free 1 (.free 2 (.free 3 (.free 4 (.free 5 (.free 6 (.free 7 (.one 8 .nil))))))))) (Hs := [(lb, .cells [.pointer (some ⟨db, 0, none⟩), .int .i64 lim, .slice (some ⟨b, o, none⟩) s1.length c1].toArray 78 (0, 0)), (ba, .cells [.int .u64 ↑f_, .slice Al2 ((Sg.es ⟨f_, it⟩).length + 1) cl2, .slice Ae2 (it.length + 1) ce2].toArray 85 (0, 0))]); exact Mix.h; (first | exact Arr.all _ | (exact a_arr) | (exact a_arrs)); (exact a_np); kernel_rfl)
   (repeat' (first | (apply RT.step; exact rfl; intro _ _ _; (apply Ok.move; exact rfl); exact rfl) | (apply RT.step; exact rfl; intro _ _ _; (first | (apply Ok.subQ ((qs.length : Nat) : Int); exact rfl; exact rfl; exact hll; apply w64; omega; omega) | (apply Ok.indexAddr; exact rfl; exact rfl; omega; omega)); exact rfl) | refine a_ot ?_ | fail))
   (apply RT.one; apply OneT.eff; exact rfl; intro Kc hKc ops0)
   apply R.arr (H2 := (b, .cells c.toArray 85 (0, 0)) :: (lb, .cells [.pointer (some ⟨db, 0, none⟩), .int .i64 lim, .slice (some ⟨b, o, none⟩) s1.length c1].toArray 78 (0, 0)) :: (ba, .cells [.int .u64 (f_ : Int), .slice Al2 ((⟨f_, it⟩ : Sg).es.length + 1) cl2, .slice Ae2 (it.length + 1) ce2].toArray 85 (0, 0)) :: (lh2 ++ (eh2 ++ (ptH qs ++ (hp4 ++ H))))) (by (exact a_art))
   rw [Int.toNat_natCast]
   (apply R.storeRow (vs := [.int .u64 (f_ : Int), .slice Al2 ((⟨f_, it⟩ : Sg).es.length + 1) cl2, .slice Ae2 (it.length + 1) ce2]); exact rfl; exact rfl; exact rfl; (exact a_at); (simp only [List.length_cons, List.length_nil]; omega); exact rfl; (intro u hu; simp only [List.mem_cons, List.not_mem_nil, or_false] at hu; rcases hu with rfl | rfl | rfl <;> rfl))
   apply R.arr (H2 := (lb, .cells [.pointer (some ⟨db, 0, none⟩), .int .i64 lim, .slice (some ⟨b, o, none⟩) s1.length c1].toArray 78 (0, 0)) :: (ba, .cells [.int .u64 (f_ : Int), .slice Al2 ((⟨f_, it⟩ : Sg).es.length + 1) cl2, .slice Ae2 (it.length + 1) ce2].toArray 85 (0, 0)) :: (b, .cells (c.take (o + qs.length * 3) ++ ([.int .u64 (f_ : Int), .slice Al2 ((⟨f_, it⟩ : Sg).es.length + 1) cl2, .slice Ae2 (it.length + 1) ce2] : List Value) ++ c.drop (o + qs.length * 3 + ([.int .u64 (f_ : Int), .slice Al2 ((⟨f_, it⟩ : Sg).es.length + 1) cl2, .slice Ae2 (it.length + 1) ce2] : List Value).length)).toArray 85 (0, 0)) :: (lh2 ++ (eh2 ++ (ptH qs ++ (hp4 ++ H))))) (by (exact a_art))
   (apply R.nil; apply Fin.kt (Hx := (b, .cells (c.take (o + qs.length * 3) ++ ([.int .u64 (f_ : Int), .slice Al2 ((⟨f_, it⟩ : Sg).es.length + 1) cl2, .slice Ae2 (it.length + 1) ce2] : List Value) ++ c.drop (o + qs.length * 3 + ([.int .u64 (f_ : Int), .slice Al2 ((⟨f_, it⟩ : Sg).es.length + 1) cl2, .slice Ae2 (it.length + 1) ce2] : List Value).length)).toArray 85 (0, 0)) :: (lh2 ++ (eh2 ++ (ptH qs ++ (hp4 ++ H))))) hKc; exact Mem.le_refl _; (exact a_art))
   (repeat' (first | refine a_ot ?_ | fail))
   apply RT.nil
   (repeat' (first | (refine a_ba ?_; intro ba) | (refine a_bl ?_; intro bl) | (refine a_go ?_; intros) | refine a_sp (fun h => ?_) fun h => ?_ | fail))
   obtain ⟨hL2, hHL⟩ : ∃ q : Hp, q = (lb, lgO db lim (.slice (some ⟨b, o, none⟩) s1.length c1)) :: ([(b, .cells (c.take (o + qs.length * 3) ++ ([.int .u64 (f_ : Int), .slice Al2 ((⟨f_, it⟩ : Sg).es.length + 1) cl2, .slice Ae2 (it.length + 1) ce2] : List Value) ++ c.drop (o + qs.length * 3 + ([.int .u64 (f_ : Int), .slice Al2 ((⟨f_, it⟩ : Sg).es.length + 1) cl2, .slice Ae2 (it.length + 1) ce2] : List Value).length)).toArray 85 (0, 0))] ++ ptH (qs ++ [⟨addS ⟨f_, it⟩ x, .slice Al2 ((⟨f_, it⟩ : Sg).es.length + 1) cl2, .slice Ae2 (it.length + 1) ce2, lh2, eh2⟩])) := ⟨_, rfl⟩
   apply Fin.arr (H2 := hL2 ++ (hp4 ++ H)) (by rw [hHL, ptH_snoc]; unfold lgO; dsimp only; (exact a_art))
   rw [← hHL] at hg2
   refine Fin.again (⟨k + 1, kk + 1, opD 0 d1 (.app (nameS f_) (frameS (layE x))), headG false s1 ++ [addS ⟨f_, it⟩ x], hL2, hp4, M5⟩ : ApX) ⟨by dsimp only; omega, by dsimp only; omega, hM1.trans_ (hM13.trans_ (hM4.trans_ hM5)), hg2, hok2, hsm2, ho4.mono hM5, by dsimp only; omega, by dsimp only; omega, by dsimp only; exact hap⟩ (by dsimp only; omega) ?_ rfl rfl
   (exact a_subs)
 ·have hke' : k = es.length := by omega
  rw [hke', List.drop_eq_nil_of_le (Nat.le_refl _)] at hap
  have hap' : appL d lim ss es = (0, d1, s1) := hap
  rw [hap'] at hQ
  (repeat' (first | refine a_mv ?_ | (apply R.step; (exact a_cmp); exact rfl) | (refine a_ba ?_; intro ba) | (refine a_bl ?_; intro bl) | (refine a_go ?_; intros) | refine a_sp (fun h => ?_) fun h => ?_ | fail))
  (refine Fin.rA (hL1 ++ (hp1 ++ H)) ?_)
  exact ⟨rfl, hM1, hL1, hp1, hg1, ho1, rfl⟩
def cutR (d : Dk) (i : Int) : List Sg → Int × Dk × List Sg
 | [] => (0, d, [])
 | s :: r => if i ≤ (s.first : Int) then (if remE d (nameS s.first) ≠ 0 then (remE d (nameS s.first), opD (remE d (nameS s.first)) d (.rem (nameS s.first)), s :: r) else cutR (opD 0 d (.rem (nameS s.first))) i r) else (0, d, s :: r)
def keepS (i : Int) (s : Sg) : Sg := ⟨s.first, s.it.take (i - s.first).toNat⟩
def cutT (d : Dk) (i : Int) : List Sg → Int × Dk × List Sg
 | [] => (0, d, [])
 | s :: r => if (match s.es.getLast? with | some a => a.idx | none => 0) < i then (0, d, s :: r) else
  (trcE d (nameS s.first) ((keepS i s).size : Int), opD (trcE d (nameS s.first) ((keepS i s).size : Int)) d (.trc (nameS s.first) (keepS i s).size), keepS i s :: r)
def cutG (d : Dk) (ss : List Sg) (i : Int) : Int × Dk × List Sg :=
 if (cutR d i ss.reverse).1 ≠ 0 then ((cutR d i ss.reverse).1, (cutR d i ss.reverse).2.1, (cutR d i ss.reverse).2.2.reverse)
 else ((cutT (cutR d i ss.reverse).2.1 i (cutR d i ss.reverse).2.2).1, (cutT (cutR d i ss.reverse).2.1 i (cutR d i ss.reverse).2.2).2.1, (cutT (cutR d i ss.reverse).2.1 i (cutR d i ss.reverse).2.2).2.2.reverse)
def conG (s : Sg) : Prop := s.first ≤ 72057594037927935 ∧ ∀ (j : Nat) e, s.es[j]? = some e → e.idx = (s.first : Int) + j
theorem plast_KO {p : PtV} {a : En} (hp : PtO M p) (ha : p.s.es.getLast? = some a) : K Tryz.prog 80 [.agg (ptC p).toArray] M (p.lh ++ H) fun v' M' H' => (∃ A' c', v' = eV a (.slice A' a.data.length c')) ∧ M' = M ∧ H' = p.lh ++ H :=
 K.lendsR (P := fun v' => ∃ A' c', v' = eV a (.slice A' a.data.length c')) (Arr.all _) fun M2 hM2 hin => by
  obtain ⟨h1, h2⟩ := hp
  obtain ⟨A, c, e1, _, _⟩ := h1.form
  obtain ⟨B, c2, e2, _, _⟩ := h2.form
  have hE := (h1.mono hM2).enL hin
  unfold ptC
  rw [e1, e2]
  rw [e1] at hE
  obtain ⟨A', c', _, hK⟩ := plast_KQ (f := p.s.first) (B := B) (m := p.s.it.length) (cb := c2) hE ha
  exact (hK M2 H (Mem.le_refl _)).mono fun v' M' H' ⟨g1, g2, g3⟩ => ⟨⟨A', c', g1⟩, g2, g3⟩
structure CuX where
 nn : Int
 d : Dk
 ss : List Sg
 hL : Hp
 hp : Hp
 M : Mem
theorem scut_K {lb db : Nat} {lim : Int} {d : Dk} {ss : List Sg} {i : Int} {hL hp : Hp} (hi : 0 ≤ i ∧ i ≤ 18446744073709551615) (hg : SgO M lb db lim ss hL) (hok : sgsOk ss) (hct : ∀ s ∈ ss, conG s) (hnm : ∀ s ∈ ss, s.it.length ≤ 1099511627776) (ho : DkO M db d hp) (hlen : d.ps.length + ss.length ≤ 900000) : K Tryz.prog 31 [.pointer (some ⟨lb, 0, none⟩), .int .u64 i] M (hL ++ (hp ++ H)) fun v' M' H' => v' = .int .i64 (cutG d ss i).1 ∧ M.le M' ∧ ∃ hL' hp', SgO M' lb db lim (cutG d ss i).2.2 hL' ∧ DkO M' db (cutG d ss i).2.1 hp' ∧ H' = hL' ++ (hp' ++ H) := by
 refine K.enterK Tryz.func31 rfl rfl rfl ?_
 intro Q hNP hQ
 have hsl0 : ss.length ≤ 900000 := by omega
 obtain ⟨A0, c0, hR0, e0, _⟩ := hg.rec_
 rw [e0]
 (repeat' (first | (refine a_ba ?_; intro ba) | (refine a_go ?_; intros) | refine a_sp (fun h => ?_) fun h => ?_ | fail))
 rw [← e0]
 apply C.loop (fun y : CuX => (y.ss.length : Int) = y.nn ∧ M.le y.M ∧ SgO y.M lb db lim y.ss y.hL ∧ (∀ s ∈ y.ss, s ∈ ss) ∧ DkO y.M db y.d y.hp ∧ y.d.ps.length + y.ss.length ≤ d.ps.length + ss.length ∧ cutR d i ss.reverse = cutR y.d i y.ss.reverse)
  (fun y => [(0, .pointer (some ⟨lb, 0, none⟩)), (1, .int .u64 i), (5, .int .i64 y.nn)]) (fun y => y.M) (fun y => y.hL ++ (y.hp ++ H)) (fun y => y.ss.length) ⟨(ss.length : Int), d, ss, hL, hp, M⟩
 ·exact ⟨rfl, Mem.le_refl _, hg, fun s h => h, ho, Nat.le_refl _, rfl⟩
 ·(exact a_subs)
 ·exact rfl
 ·exact rfl
 rintro ⟨nn, d1, s1, hL1, hp1, M1⟩ ⟨hnn, hM1, hg1, hsub, ho1, hd1, hcr⟩
 dsimp only at hnn hM1 hg1 hsub ho1 hd1 hcr ⊢
 subst hnn
 by_cases h0 : s1.length = 0
 ·have hnl : s1 = [] := List.eq_nil_of_length_eq_zero h0
  subst hnl
  have hcr2 : cutR d i ss.reverse = (0, d1, []) := hcr
  have hQ2 : cutG d ss i = (0, d1, []) := by
   unfold cutG
   rw [hcr2]
   rfl
  rw [hQ2] at hQ
  (repeat' (first | refine a_mv ?_ | (apply R.step; (apply Ok.gtF; exact rfl; exact rfl; omega); exact rfl) | (refine a_ba ?_; intro ba) | (refine a_go ?_; intros) | refine a_sp (fun h => ?_) fun h => ?_ | fail))
  obtain ⟨A2, c2, hR2, rfl, _⟩ := hg1.rec_
  (repeat' (first | refine a_mv ?_ | (apply R.step; (apply Ok.eqIR; exact rfl; exact rfl; rfl); exact rfl) | (refine a_ba ?_; intro ba) | (refine a_go ?_; intros) | refine a_sp (fun h => ?_) fun h => ?_ | fail))
  obtain ⟨hL2, hHL⟩ : ∃ q : Hp, q = (lb, .cells [.pointer (some ⟨db, 0, none⟩), .int .i64 lim, .slice A2 ([] : List Sg).length c2].toArray 78 (0, 0)) :: hR2 := ⟨_, rfl⟩
  rw [← hHL] at hg1 ⊢
  (refine Fin.rA (hL2 ++ (hp1 ++ H)) ?_)
  exact ⟨rfl, hM1, hL2, hp1, hg1, ho1, rfl⟩
 obtain ⟨qs, p, b, o, cp, c, hX⟩ := hg1.endO (by omega)
 have hhp := hX.heap
 unfold lgO at hhp
 subst hhp
 have hgl : s1.getLast? = some p.s := by rw [hX.segs, List.getLast?_append]; rfl
 have hpm : p.s ∈ s1 := List.mem_of_getLast? hgl
 have hso := hok _ (hsub _ hpm)
 have hco := hct _ (hsub _ hpm)
 have hns := hnm _ (hsub _ hpm)
 have hsl2 := hX.len
 have hcell := hX.cell
 have hroom := hX.room
 have hcp1 := hX.cap1
 have hcp2 := hX.cap2
 have hll : (s1.length : Int) - 1 = ((s1.length - 1 : Nat) : Int) := by omega
 have hrev : s1.reverse = p.s :: (qs.map PtV.s).reverse := by rw [hX.segs, List.reverse_append]; rfl
 rw [hrev] at hcr
 have hPO := hX.own
 have hallX := hX.all
 have hrowX := hX.row
 obtain ⟨⟨f_, it⟩, lv, ev, lh, eh⟩ := p
 obtain ⟨hoP, hoT⟩ := id hPO
 obtain ⟨Al, cl, hlv, kl1, kl2⟩ := hoP.form
 obtain ⟨Ae, ce, hev, ke1, ke2⟩ := hoT.form
 change lv = .slice Al (⟨f_, it⟩ : Sg).es.length cl at hlv
 change ev = .slice Ae it.length ce at hev
 subst hlv hev
 dsimp only at hcr hso hns hoP hoT ⊢
 have hfb : f_ ≤ 72057594037927935 := hco.1
 have hcell0 : c[o + ((s1.length - 1 : Nat) : Int).toNat * 3 + 0]? = some (.int .u64 (f_ : Int)) := hcell 0 _ rfl
 have hcell' : ∀ (q : Nat) u, [Value.int .u64 (f_ : Int), .slice Al (⟨f_, it⟩ : Sg).es.length cl, .slice Ae it.length ce][q]? = some u → c[o + ((s1.length - 1 : Nat) : Int).toNat * 3 + q]? = some u := hcell
 by_cases hge : i ≤ (f_ : Int)
 ·have hcr1 : cutR d1 i (⟨f_, it⟩ :: (qs.map PtV.s).reverse) = if remE d1 (nameS f_) ≠ 0 then (remE d1 (nameS f_), opD (remE d1 (nameS f_)) d1 (.rem (nameS f_)), ⟨f_, it⟩ :: (qs.map PtV.s).reverse) else cutR (opD 0 d1 (.rem (nameS f_))) i (qs.map PtV.s).reverse := by
   rw [cutR, if_pos hge]
  rw [hcr1] at hcr
  clear hcr1
  (repeat' (first | refine a_mv ?_ | (apply R.step; (first | (apply Ok.gtTr; exact rfl; exact rfl; omega) | (apply Ok.subQ ((s1.length - 1 : Nat) : Int); exact rfl; exact rfl; exact hll; apply w64; omega; omega) | (apply Ok.indexAddr; exact rfl; exact rfl; omega; omega) | (apply Ok.load; exact rfl; exact rfl; (exact a_at); exact hcell0) | (apply Ok.geTr; exact rfl; exact rfl; exact hge)); exact rfl) | (refine a_ba ?_; intro ba) | (refine a_go ?_; intros) | refine a_sp (fun h => ?_) fun h => ?_ | fail))
  (apply C.regionT (t := .free 0 (.free 1 (.free 2 (.free 3 (.free 4 (.free 5 (.free 6 (.free 7 (.free 8 (.free 9 (.free 10 (.free 11 (.free 12 (.free 13 (.one 14 (.free 15 .nil)))))))))))))))) (Hs := [(lb, .cells [.pointer (some ⟨db, 0, none⟩), .int .i64 lim, .slice (some ⟨b, o, none⟩) s1.length cp].toArray 78 (0, 0)), (b, .cells c.toArray 85 (0, 0))]); exact Mix.h; (first | exact Arr.all _ | (exact a_arr) | (exact a_arrs)); (exact a_np); kernel_rfl)
  (repeat' (first | (apply RT.step; exact rfl; intro _ _ _; (apply Ok.move; exact rfl); exact rfl) | (apply RT.callQ; exact rfl; exact inferInstance; (exact a_evs); exact rfl; (intro M' Hx' hM'; exact segName_K (n := f_) (by omega))) | (apply RT.step; exact rfl; intro _ _ _; (first | (apply Ok.subQ ((s1.length - 1 : Nat) : Int); exact rfl; exact rfl; exact hll; apply w64; omega; omega) | (apply Ok.indexAddr; exact rfl; exact rfl; omega; omega) | (apply Ok.load; exact rfl; exact rfl; (exact a_at); exact hcell0)); exact rfl) | refine a_ot ?_ | fail))
  (apply RT.one; apply OneT.eff; exact rfl; intro Kc hKc ops0)
  apply R.arr (H2 := hp1 ++ ((lb, .cells [.pointer (some ⟨db, 0, none⟩), .int .i64 lim, .slice (some ⟨b, o, none⟩) s1.length cp].toArray 78 (0, 0)) :: (b, .cells c.toArray 85 (0, 0)) :: (ptH qs ++ (lh ++ (eh ++ H))))) (by (exact a_art))
  (apply R.call; (exact a_evs); exact rfl; exact remove_K (n := nameS f_) ho1 (by omega); rintro _ M2 _ ⟨rfl, hM2, hp2, ho2, rfl⟩)
  (apply R.nil; apply Fin.kt (Hx := ptH qs ++ (lh ++ (eh ++ (hp2 ++ H)))) hKc; exact hM2; (exact a_art))
  (repeat' (first | refine a_ot ?_ | fail))
  apply RT.nil
  by_cases hq : remE d1 (nameS f_) = 0
  rotate_left
  ·rw [if_pos hq] at hcr
   have hQ2 : cutG d ss i = (remE d1 (nameS f_), opD (remE d1 (nameS f_)) d1 (.rem (nameS f_)), s1) := by
    unfold cutG
    rw [hcr]
    dsimp only
    rw [if_pos hq, ← hrev, List.reverse_reverse]
   rw [hQ2] at hQ
   (repeat' (first | refine a_mv ?_ | (apply R.step; (apply Ok.neIT; exact rfl; exact rfl; exact hq); exact rfl) | (refine a_ba ?_; intro ba) | (refine a_go ?_; intros) | refine a_sp (fun h => ?_) fun h => ?_ | fail))
   obtain ⟨hL2, hHL⟩ : ∃ q : Hp, q = (lb, .cells [.pointer (some ⟨db, 0, none⟩), .int .i64 lim, .slice (some ⟨b, o, none⟩) s1.length cp].toArray 78 (0, 0)) :: (b, .cells c.toArray 85 (0, 0)) :: (ptH qs ++ (lh ++ eh)) := ⟨_, rfl⟩
   apply Fin.arr (H2 := hL2 ++ (hp2 ++ H)) (by rw [hHL]; (exact a_art))
   rw [← hHL] at hg1
   (refine Fin.rA (hL2 ++ (hp2 ++ H)) ?_)
   exact ⟨rfl, hM1.trans_ hM2, hL2, hp2, hg1.mono hM2, ho2, rfl⟩
  rw [if_neg (fun h => h hq)] at hcr
  rw [hq] at ho2
  have hnp : (opD 0 d1 (.rem (nameS f_))).ps.length ≤ d1.ps.length + 1 := opD_ps _ _ _
  have hg2 : SgO M2 lb db lim (qs.map PtV.s) ((lb, lgO db lim (.slice (some ⟨b, o, none⟩) (s1.length - 1) cp)) :: ([(b, .cells c.toArray 85 (0, 0))] ++ ptH qs)) := by
   refine ⟨qs, _, _, rfl, ?_, fun q hq => (hallX q hq).mono (hM2), rfl⟩
   have h1 := hrowX.shrink (k := s1.length - 1) (by omega)
   rw [List.take_left' (by rw [ptC_flat]; omega)] at h1
   rw [show qs.length = s1.length - 1 by omega]
   exact h1
  (repeat' (first | refine a_mv ?_ | (apply R.step; (first | (apply Ok.neIR; exact rfl; exact rfl; exact hq) | (apply Ok.subQ ((s1.length - 1 : Nat) : Int); exact rfl; exact rfl; exact hll; apply w64; omega; omega) | (apply Ok.sliceHi; exact rfl; exact rfl; omega; omega)); exact rfl) | (refine a_ba ?_; intro ba) | (refine a_go ?_; intros) | refine a_sp (fun h => ?_) fun h => ?_ | fail))
  obtain ⟨hL2, hHL⟩ : ∃ q : Hp, q = (lb, lgO db lim (.slice (some ⟨b, o, none⟩) (s1.length - 1) cp)) :: ([(b, .cells c.toArray 85 (0, 0))] ++ ptH qs) := ⟨_, rfl⟩
  apply Fin.arr (H2 := hL2 ++ (hp2 ++ H)) (by rw [hHL, Int.toNat_natCast]; unfold lgO; (exact a_art))
  rw [← hHL] at hg2
  refine Fin.again (⟨((s1.length - 1 : Nat) : Int), opD 0 d1 (.rem (nameS f_)), qs.map PtV.s, hL2, hp2, M2⟩ : CuX) ⟨by dsimp only; rw [List.length_map]; omega, hM1.trans_ hM2, hg2, ?_, ho2, ?_, hcr⟩ ?_ ?_ rfl rfl
  ·intro s hs
   exact hsub s (by rw [hX.segs]; exact List.mem_append_left _ hs)
  ·dsimp only
   rw [List.length_map]
   omega
  ·dsimp only
   rw [List.length_map]
   omega
  ·(exact a_subs)
 ·have hcr1 : cutR d1 i (⟨f_, it⟩ :: (qs.map PtV.s).reverse) = (0, d1, ⟨f_, it⟩ :: (qs.map PtV.s).reverse) := by
   rw [cutR, if_neg hge]
  rw [hcr1] at hcr
  clear hcr1
  have hesl : (⟨f_, it⟩ : Sg).es.length = it.length := Sg.es_len _
  have hlen0 : 0 < it.length := hso.1
  obtain ⟨a, ha⟩ : ∃ a, (⟨f_, it⟩ : Sg).es.getLast? = some a := ⟨_, getLast_len (by omega)⟩
  have hai : a.idx = (f_ : Int) + ((it.length - 1 : Nat) : Int) := by
   have h1 := ha
   rw [List.getLast?_eq_getElem?, hesl] at h1
   exact hco.2 _ _ h1
  have hQ1 : cutG d ss i = ((cutT d1 i (⟨f_, it⟩ :: (qs.map PtV.s).reverse)).1, (cutT d1 i (⟨f_, it⟩ :: (qs.map PtV.s).reverse)).2.1, (cutT d1 i (⟨f_, it⟩ :: (qs.map PtV.s).reverse)).2.2.reverse) := by
   unfold cutG
   rw [hcr]
   dsimp only
   rw [if_neg (fun h => h rfl)]
  rw [hQ1] at hQ
  clear hQ1
  (repeat' (first | refine a_mv ?_ | (apply R.step; (first | (apply Ok.gtTr; exact rfl; exact rfl; omega) | (apply Ok.subQ ((s1.length - 1 : Nat) : Int); exact rfl; exact rfl; exact hll; apply w64; omega; omega) | (apply Ok.indexAddr; exact rfl; exact rfl; omega; omega) | (apply Ok.load; exact rfl; exact rfl; (exact a_at); exact hcell0) | (apply Ok.geF; exact rfl; exact rfl; omega) | (apply Ok.eqIF; exact rfl; exact rfl; omega) | (apply Ok.loadAggO (vs := [Value.int .u64 (f_ : Int), .slice Al (⟨f_, it⟩ : Sg).es.length cl, .slice Ae it.length ce]); exact rfl; exact rfl; (exact a_at); exact hcell'; exact rfl)); exact rfl) | (refine a_ba ?_; intro ba) | (refine a_go ?_; intros) | refine a_sp (fun h => ?_) fun h => ?_ | fail))
  apply R.arr (H2 := lh ++ ((lb, .cells [.pointer (some ⟨db, 0, none⟩), .int .i64 lim, .slice (some ⟨b, o, none⟩) s1.length cp].toArray 78 (0, 0)) :: (b, .cells c.toArray 85 (0, 0)) :: (ptH qs ++ (eh ++ (hp1 ++ H))))) (by (exact a_art))
  (apply R.call; (exact a_evs); exact rfl; exact plast_KO hPO ha; rintro _ M1 _ ⟨⟨A', c', rfl⟩, rfl, rfl⟩)
  unfold eV ecells
  by_cases hlt : a.idx < i
  ·have hct2 : cutT d1 i (⟨f_, it⟩ :: (qs.map PtV.s).reverse) = (0, d1, ⟨f_, it⟩ :: (qs.map PtV.s).reverse) := by
    rw [cutT, ha]
    exact if_pos hlt
   rw [hct2] at hQ
   dsimp only at hQ
   rw [← hrev, List.reverse_reverse] at hQ
   (repeat' (first | refine a_mv ?_ | (apply R.step; (apply Ok.ltTr; exact rfl; exact rfl; exact hlt); exact rfl) | (refine a_ba ?_; intro ba) | (refine a_go ?_; intros) | refine a_sp (fun h => ?_) fun h => ?_ | fail))
   obtain ⟨hL2, hHL⟩ : ∃ q : Hp, q = (lb, .cells [.pointer (some ⟨db, 0, none⟩), .int .i64 lim, .slice (some ⟨b, o, none⟩) s1.length cp].toArray 78 (0, 0)) :: (b, .cells c.toArray 85 (0, 0)) :: (ptH qs ++ (lh ++ eh)) := ⟨_, rfl⟩
   apply Fin.arr (H2 := hL2 ++ (hp1 ++ H)) (by rw [hHL]; (exact a_art))
   rw [← hHL] at hg1
   (refine Fin.rA (hL2 ++ (hp1 ++ H)) ?_)
   exact ⟨rfl, hM1, hL2, hp1, hg1, ho1, rfl⟩
  obtain ⟨kp, hkp⟩ : ∃ kp : Nat, (kp : Int) = i - f_ := ⟨(i - f_).toNat, by omega⟩
  have hks : keepS i ⟨f_, it⟩ = ⟨f_, it.take kp⟩ := by
   unfold keepS
   dsimp only
   rw [← hkp, Int.toNat_natCast]
  have hct2 : cutT d1 i (⟨f_, it⟩ :: (qs.map PtV.s).reverse) = (trcE d1 (nameS f_) ((⟨f_, it.take kp⟩ : Sg).size : Int), opD (trcE d1 (nameS f_) ((⟨f_, it.take kp⟩ : Sg).size : Int)) d1 (.trc (nameS f_) (⟨f_, it.take kp⟩ : Sg).size), ⟨f_, it.take kp⟩ :: (qs.map PtV.s).reverse) := by
   rw [cutT, ha, hks]
   exact if_neg hlt
  rw [hct2] at hQ
  dsimp only at hQ
  rw [List.reverse_cons, List.reverse_reverse] at hQ
  have hkl : 0 < kp ∧ kp ≤ it.length := by omega
  have hkl2 : kp ≤ cl ∧ kp ≤ ce := by dsimp only at kl1 ke1; omega
  (repeat' (first | refine a_mv ?_ | (apply R.step; (first | (apply Ok.ltF; exact rfl; exact rfl; exact hlt) | (apply Ok.subQ ((s1.length - 1 : Nat) : Int); exact rfl; exact rfl; exact hll; apply w64; omega; omega) | (apply Ok.subQ (kp : Int); exact rfl; exact rfl; exact hkp.symm; apply wu64; omega; omega) | (apply Ok.indexAddr; exact rfl; exact rfl; omega; omega) | (apply Ok.loadAggO (vs := [Value.int .u64 (f_ : Int), .slice Al (⟨f_, it⟩ : Sg).es.length cl, .slice Ae it.length ce]); exact rfl; exact rfl; (exact a_at); exact hcell'; exact rfl)); exact rfl) | (refine a_ba ?_; intro ba) | (refine a_go ?_; intros) | refine a_sp (fun h => ?_) fun h => ?_ | fail))
  have hPO2 : PtO M1 ⟨⟨f_, it.take kp⟩, .slice Al kp kp, .slice Ae kp kp, lh, eh⟩ := by
   refine ⟨?_, ?_⟩
   ·show OwnP M1 _ ((it.take kp).map Prod.fst) lh
    rw [List.map_take]
    exact hoP.hiMax (k := kp) (by omega)
   ·show OwnT 3 1 _ (it.take kp).length (endC (endsA 0 ((it.take kp).map Prod.snd))) eh
    have h1 := OwnT.hiMax (k := kp) (show OwnT 3 1 (.slice Ae it.length ce) it.length (endC (endsA 0 (it.map Prod.snd))) eh from hoT) (by omega)
    rw [List.length_take, Nat.min_eq_left hkl.2, List.map_take, ← endsA_take]
    unfold endC at h1 ⊢
    rw [Nat.mul_one, ← List.map_take] at h1
    exact h1
  dsimp only
  apply C.cutK (X := Unit) (hk := by assumption) (fun _ => True) (fun _ => [(0, .pointer (some ⟨lb, 0, none⟩)), (7, .int .i64 (s1.length : Int)), (8, .pointer (some ⟨ba, 0, none⟩))]) (fun _ => M1) (fun _ => (ba, .cells [.int .u64 (f_ : Int), .slice Al kp kp, .slice Ae kp kp].toArray 85 (0, 0)) :: (lb, .cells [.pointer (some ⟨db, 0, none⟩), .int .i64 lim, .slice (some ⟨b, o, none⟩) s1.length cp].toArray 78 (0, 0)) :: (b, .cells c.toArray 85 (0, 0)) :: (lh ++ (ptH qs ++ (eh ++ (hp1 ++ H)))))
  ·(apply C.regionT (t := .free 0 (.free 2 (.free 3 (.free 5 (.free 7 (.free 8 (.alt 1 6 (.free 4 (.one 6 (.free 9 (.free 10 (.one 11 (.free 12 (.one 13 .nil))))))) (.free 9 (.one 1 (.free 4 (.free 10 (.one 11 (.free 12 (.one 13 .nil)))))))))))))) (Hs := []); exact Mix.h; (first | exact Arr.all _ | (exact a_arr) | (exact a_arrs)); (exact a_np); kernel_rfl)
   (repeat' (first | refine a_ot ?_ | fail))
   apply RT.alt
   all_goals (apply OneT.eff; exact rfl; intro Kc hKc ops0)
   all_goals (repeat' (first | (refine a_ba ?_; intro ba) | (refine a_go ?_; intros) | refine a_sp (fun h => ?_) fun h => ?_ | fail))
   all_goals ((first | apply R.nil | skip); apply Fin.kt hKc; exact Mem.le_refl _; (exact a_arrs))
   all_goals (repeat' (first | (apply RT.step; exact rfl; intro _ _ _; (apply Ok.move; exact rfl); exact rfl) | (apply RT.step; exact rfl; intro _ _ _; (apply Ok.sliceHiMax; exact rfl; exact rfl; exact rfl; omega; omega; omega); exact rfl) | refine a_ot ?_ | fail))
   all_goals (apply RT.one; apply OneT.eff; exact rfl; intro Kc hKc ops0)
   all_goals (repeat' (first | (refine a_ba ?_; intro ba) | (refine a_go ?_; intros) | refine a_sp (fun h => ?_) fun h => ?_ | fail))
   all_goals ((first | apply R.nil | skip); apply Fin.kt hKc; exact Mem.le_refl _; (exact a_arrs))
   all_goals (repeat' (first | (apply RT.step; exact rfl; intro _ _ _; (apply Ok.move; exact rfl); exact rfl) | (apply RT.step; exact rfl; intro _ _ _; (apply Ok.sliceHiMax; exact rfl; exact rfl; exact rfl; omega; omega; omega); exact rfl) | refine a_ot ?_ | fail))
   all_goals (apply RT.one; apply OneT.eff; exact rfl; intro Kc hKc ops0)
   all_goals (repeat' (first | (refine a_ba ?_; intro ba) | (refine a_go ?_; intros) | refine a_sp (fun h => ?_) fun h => ?_ | fail))
   all_goals ((first | apply R.nil | skip); apply Fin.kt hKc; exact Mem.le_refl _; (exact a_arrs))
   all_goals (repeat' (first | refine a_ot ?_ | fail))
   all_goals (apply RT.one; apply OneT.eff; exact rfl; intro Kc hKc ops0)
   all_goals (repeat' (first | (refine a_ba ?_; intro ba) | (refine a_go ?_; intros) | refine a_sp (fun h => ?_) fun h => ?_ | fail))
   all_goals ((first | apply R.nil | skip); apply Fin.kt hKc; exact Mem.le_refl _; (exact a_arrs))
   all_goals apply RT.nil
   all_goals (repeat' (first | (refine a_ba ?_; intro ba) | (refine a_go ?_; intros) | refine a_sp (fun h => ?_) fun h => ?_ | fail))
   all_goals rw [Int.toNat_natCast]
   all_goals (apply Fin.arr (H2 := (ba, .cells [.int .u64 (f_ : Int), .slice Al kp kp, .slice Ae kp kp].toArray 85 (0, 0)) :: (lb, .cells [.pointer (some ⟨db, 0, none⟩), .int .i64 lim, .slice (some ⟨b, o, none⟩) s1.length cp].toArray 78 (0, 0)) :: (b, .cells c.toArray 85 (0, 0)) :: (lh ++ (ptH qs ++ (eh ++ (hp1 ++ H))))) (by (exact a_art)); refine Fin.join () trivial ?_ rfl rfl; (exact a_subs))
  rintro _ _
  have hrow2 : OwnT 85 3 (.slice (some ⟨b, o, none⟩) s1.length cp) s1.length ((qs.map ptC).flatten ++ ([.int .u64 (f_ : Int), .slice Al kp kp, .slice Ae kp kp] : List Value)) [(b, .cells (c.take (o + qs.length * 3) ++ ([.int .u64 (f_ : Int), .slice Al kp kp, .slice Ae kp kp] : List Value) ++ c.drop (o + qs.length * 3 + ([.int .u64 (f_ : Int), .slice Al kp kp, .slice Ae kp kp] : List Value).length)).toArray 85 (0, 0))] := by
   rw [← hsl2] at hrowX ⊢
   exact hrowX.putLast (ptC_flat qs) rfl
  have hg2 : SgO M1 lb db lim (qs.map PtV.s ++ [⟨f_, it.take kp⟩]) ((lb, lgO db lim (.slice (some ⟨b, o, none⟩) s1.length cp)) :: ([(b, .cells (c.take (o + qs.length * 3) ++ ([.int .u64 (f_ : Int), .slice Al kp kp, .slice Ae kp kp] : List Value) ++ c.drop (o + qs.length * 3 + ([.int .u64 (f_ : Int), .slice Al kp kp, .slice Ae kp kp] : List Value).length)).toArray 85 (0, 0))] ++ ptH (qs ++ [⟨⟨f_, it.take kp⟩, .slice Al kp kp, .slice Ae kp kp, lh, eh⟩]))) := by
   refine ⟨qs ++ [⟨⟨f_, it.take kp⟩, .slice Al kp kp, .slice Ae kp kp, lh, eh⟩], _, _, by rw [List.map_append]; rfl, ?_, ?_, rfl⟩
   ·rw [List.length_append, List.map_append, List.flatten_append, List.length_singleton, hsl2]
    exact hrow2
   ·intro q hq
    rcases List.mem_append.1 hq with hq | hq
    ·exact hallX q hq
    ·rw [List.mem_singleton] at hq
     subst hq
     exact hPO2
  have hll3 : (s1.length : Int) - 1 = ((qs.length : Nat) : Int) := by omega
  (repeat' (first | (refine a_ba ?_; intro ba) | (refine a_go ?_; intros) | refine a_sp (fun h => ?_) fun h => ?_ | fail))
  (apply C.regionT (t := .free 0 (.free 1 (.free 2 (.free 3 (.free 4 (.free 5 (.free 6 (.free 7 (.one 8 .nil))))))))) (Hs := [(lb, .cells [.pointer (some ⟨db, 0, none⟩), .int .i64 lim, .slice (some ⟨b, o, none⟩) s1.length cp].toArray 78 (0, 0)), (ba, .cells [.int .u64 ↑f_, .slice Al kp kp, .slice Ae kp kp].toArray 85 (0, 0))]); exact Mix.h; (first | exact Arr.all _ | (exact a_arr) | (exact a_arrs)); (exact a_np); kernel_rfl)
  (repeat' (first | (apply RT.step; exact rfl; intro _ _ _; (apply Ok.move; exact rfl); exact rfl) | (apply RT.step; exact rfl; intro _ _ _; (first | (apply Ok.subQ ((qs.length : Nat) : Int); exact rfl; exact rfl; exact hll3; apply w64; omega; omega) | (apply Ok.indexAddr; exact rfl; exact rfl; omega; omega)); exact rfl) | refine a_ot ?_ | fail))
  (apply RT.one; apply OneT.eff; exact rfl; intro Kc hKc ops0)
  apply R.arr (H2 := (b, .cells c.toArray 85 (0, 0)) :: (lb, .cells [.pointer (some ⟨db, 0, none⟩), .int .i64 lim, .slice (some ⟨b, o, none⟩) s1.length cp].toArray 78 (0, 0)) :: (ba, .cells [.int .u64 (f_ : Int), .slice Al kp kp, .slice Ae kp kp].toArray 85 (0, 0)) :: (lh ++ (ptH qs ++ (eh ++ (hp1 ++ H))))) (by (exact a_art))
  rw [Int.toNat_natCast]
  (apply R.storeRow (vs := [.int .u64 (f_ : Int), .slice Al kp kp, .slice Ae kp kp]); exact rfl; exact rfl; exact rfl; (exact a_at); (simp only [List.length_cons, List.length_nil]; omega); exact rfl; (intro u hu; simp only [List.mem_cons, List.not_mem_nil, or_false] at hu; rcases hu with rfl | rfl | rfl <;> rfl))
  apply R.arr (H2 := (lb, .cells [.pointer (some ⟨db, 0, none⟩), .int .i64 lim, .slice (some ⟨b, o, none⟩) s1.length cp].toArray 78 (0, 0)) :: (ba, .cells [.int .u64 (f_ : Int), .slice Al kp kp, .slice Ae kp kp].toArray 85 (0, 0)) :: (b, .cells (c.take (o + qs.length * 3) ++ ([.int .u64 (f_ : Int), .slice Al kp kp, .slice Ae kp kp] : List Value) ++ c.drop (o + qs.length * 3 + ([.int .u64 (f_ : Int), .slice Al kp kp, .slice Ae kp kp] : List Value).length)).toArray 85 (0, 0)) :: (lh ++ (ptH qs ++ (eh ++ (hp1 ++ H))))) (by (exact a_art))
  (apply R.nil; apply Fin.kt (Hx := (b, .cells (c.take (o + qs.length * 3) ++ ([.int .u64 (f_ : Int), .slice Al kp kp, .slice Ae kp kp] : List Value) ++ c.drop (o + qs.length * 3 + ([.int .u64 (f_ : Int), .slice Al kp kp, .slice Ae kp kp] : List Value).length)).toArray 85 (0, 0)) :: (lh ++ (ptH qs ++ (eh ++ (hp1 ++ H))))) hKc; exact Mem.le_refl _; (exact a_art))
  (repeat' (first | refine a_ot ?_ | fail))
  apply RT.nil
  (repeat' (first | (refine a_ba ?_; intro ba) | (refine a_go ?_; intros) | refine a_sp (fun h => ?_) fun h => ?_ | fail))
  have hK2 := psize_KO (H := (lb, .cells [.pointer (some ⟨db, 0, none⟩), .int .i64 lim, .slice (some ⟨b, o, none⟩) s1.length cp].toArray 78 (0, 0)) :: (ba, .cells [.int .u64 (f_ : Int), .slice Al kp kp, .slice Ae kp kp].toArray 85 (0, 0)) :: (b, .cells (c.take (o + qs.length * 3) ++ ([.int .u64 (f_ : Int), .slice Al kp kp, .slice Ae kp kp] : List Value) ++ c.drop (o + qs.length * 3 + ([.int .u64 (f_ : Int), .slice Al kp kp, .slice Ae kp kp] : List Value).length)).toArray 85 (0, 0)) :: (lh ++ (ptH qs ++ (hp1 ++ H)))) hPO2 (by show 0 < (it.take kp).length; rw [List.length_take]; omega)
  unfold ptC at hK2
  dsimp only at hK2
  (apply C.regionT (t := .free 0 (.free 1 (.free 2 (.free 3 (.free 4 (.free 5 (.free 6 (.free 7 (.one 8 (.one 9 (.free 10 .nil))))))))))) (Hs := [(lb, .cells [.pointer (some ⟨db, 0, none⟩), .int .i64 lim, .slice (some ⟨b, o, none⟩) s1.length cp].toArray 78 (0, 0)), (ba, .cells [.int .u64 ↑f_, .slice Al kp kp, .slice Ae kp kp].toArray 85 (0, 0))]); exact Mix.h; (first | exact Arr.all _ | (exact a_arr) | (exact a_arrs)); (exact a_np); kernel_rfl)
  (repeat' (first | (apply RT.step; exact rfl; intro _ _ _; (apply Ok.move; exact rfl); exact rfl) | (apply RT.callQ; exact rfl; exact inferInstance; (exact a_evs); exact rfl; (intro M' Hx' hM'; exact segName_K (n := f_) (by omega))) | refine a_ot ?_ | fail))
  (apply RT.one; apply OneT.eff; exact rfl; intro Kc hKc ops0)
  apply R.arr (H2 := eh ++ ((lb, .cells [.pointer (some ⟨db, 0, none⟩), .int .i64 lim, .slice (some ⟨b, o, none⟩) s1.length cp].toArray 78 (0, 0)) :: (ba, .cells [.int .u64 (f_ : Int), .slice Al kp kp, .slice Ae kp kp].toArray 85 (0, 0)) :: (b, .cells (c.take (o + qs.length * 3) ++ ([.int .u64 (f_ : Int), .slice Al kp kp, .slice Ae kp kp] : List Value) ++ c.drop (o + qs.length * 3 + ([.int .u64 (f_ : Int), .slice Al kp kp, .slice Ae kp kp] : List Value).length)).toArray 85 (0, 0)) :: (lh ++ (ptH qs ++ (hp1 ++ H))))) (by (exact a_art))
  (apply R.call; (exact a_evs); exact rfl; exact hK2; rintro _ M1 _ ⟨rfl, rfl, rfl⟩)
  (apply R.nil; apply Fin.kt (Hx := (b, .cells (c.take (o + qs.length * 3) ++ ([.int .u64 (f_ : Int), .slice Al kp kp, .slice Ae kp kp] : List Value) ++ c.drop (o + qs.length * 3 + ([.int .u64 (f_ : Int), .slice Al kp kp, .slice Ae kp kp] : List Value).length)).toArray 85 (0, 0)) :: (lh ++ (ptH qs ++ (eh ++ (hp1 ++ H))))) hKc; exact Mem.le_refl _; (exact a_art))
  (repeat' (first | refine a_ot ?_ | fail))
  (apply RT.one; apply OneT.eff; exact rfl; intro Kc hKc ops0)
  apply R.arr (H2 := hp1 ++ ((lb, .cells [.pointer (some ⟨db, 0, none⟩), .int .i64 lim, .slice (some ⟨b, o, none⟩) s1.length cp].toArray 78 (0, 0)) :: (ba, .cells [.int .u64 (f_ : Int), .slice Al kp kp, .slice Ae kp kp].toArray 85 (0, 0)) :: (b, .cells (c.take (o + qs.length * 3) ++ ([.int .u64 (f_ : Int), .slice Al kp kp, .slice Ae kp kp] : List Value) ++ c.drop (o + qs.length * 3 + ([.int .u64 (f_ : Int), .slice Al kp kp, .slice Ae kp kp] : List Value).length)).toArray 85 (0, 0)) :: (lh ++ (ptH qs ++ (eh ++ H))))) (by (exact a_art))
  (apply R.call; (exact a_evs); exact rfl; exact truncate_K (n := nameS f_) (k := ((⟨f_, it.take kp⟩ : Sg).size : Int)) ho1 (by omega); rintro _ M2 _ ⟨rfl, hM2, hp2, ho2, rfl⟩)
  rw [Int.toNat_natCast] at ho2
  (apply R.nil; apply Fin.kt (Hx := (b, .cells (c.take (o + qs.length * 3) ++ ([.int .u64 (f_ : Int), .slice Al kp kp, .slice Ae kp kp] : List Value) ++ c.drop (o + qs.length * 3 + ([.int .u64 (f_ : Int), .slice Al kp kp, .slice Ae kp kp] : List Value).length)).toArray 85 (0, 0)) :: (lh ++ (ptH qs ++ (eh ++ (hp2 ++ H))))) hKc; exact hM2; (exact a_art))
  (repeat' (first | refine a_ot ?_ | fail))
  apply RT.nil
  (repeat' (first | (refine a_ba ?_; intro ba) | (refine a_go ?_; intros) | refine a_sp (fun h => ?_) fun h => ?_ | fail))
  obtain ⟨hL2, hHL⟩ : ∃ q : Hp, q = (lb, lgO db lim (.slice (some ⟨b, o, none⟩) s1.length cp)) :: ([(b, .cells (c.take (o + qs.length * 3) ++ ([.int .u64 (f_ : Int), .slice Al kp kp, .slice Ae kp kp] : List Value) ++ c.drop (o + qs.length * 3 + ([.int .u64 (f_ : Int), .slice Al kp kp, .slice Ae kp kp] : List Value).length)).toArray 85 (0, 0))] ++ ptH (qs ++ [⟨⟨f_, it.take kp⟩, .slice Al kp kp, .slice Ae kp kp, lh, eh⟩])) := ⟨_, rfl⟩
  apply Fin.arr (H2 := hL2 ++ (hp2 ++ H)) (by rw [hHL, ptH_snoc]; unfold lgO; dsimp only; (exact a_art))
  rw [← hHL] at hg2
  (refine Fin.rA (hL2 ++ (hp2 ++ H)) ?_)
  exact ⟨rfl, hM1.trans_ hM2, hL2, hp2, hg2.mono hM2, ho2, rfl⟩
def lastI (s : Sg) : Int := match s.es.getLast? with
 | some a => a.idx
 | none => 0
def dropG (d : Dk) (i : Int) : List Sg → Int × Dk × List Sg
 | [] => (0, d, [])
 | s :: r => if r ≠ [] ∧ lastI s ≤ i then (if remE d (nameS s.first) ≠ 0 then (remE d (nameS s.first), opD (remE d (nameS s.first)) d (.rem (nameS s.first)), s :: r) else dropG (opD 0 d (.rem (nameS s.first))) i r) else (0, d, s :: r)
theorem SgO.headO {lb db : Nat} {lim : Int} {ss : List Sg} {hL : Hp} (hg : SgO M lb db lim ss hL) (h0 : 0 < ss.length) : ∃ (p : PtV) (qs : List PtV) (b o cap : Nat) (c : List Value), ss = p.s :: qs.map PtV.s ∧ hL = (lb, .cells [.pointer (some ⟨db, 0, none⟩), .int .i64 lim, .slice (some ⟨b, o, none⟩) (qs.length + 1) cap].toArray 78 (0, 0)) :: (b, .cells c.toArray 85 (0, 0)) :: (p.lh ++ (p.eh ++ ptH qs)) ∧ OwnT 85 3 (.slice (some ⟨b, o, none⟩) (qs.length + 1) cap) (qs.length + 1) (ptC p ++ (qs.map ptC).flatten) [(b, .cells c.toArray 85 (0, 0))] ∧ qs.length + 1 ≤ cap ∧ cap ≤ 9223372036854775807 ∧ (∀ (q : Nat) u, (ptC p)[q]? = some u → c[o + q]? = some u) ∧ PtO M p ∧ ∀ x ∈ qs, PtO M x := by
 obtain ⟨ps, pv, hrow, hss, hrw, hpt, rfl⟩ := hg
 have hpl : ps.length = ss.length := by rw [← hss, List.length_map]
 match ps, hss, hpl, hrw, hpt with
 | [], hss, hpl, _, _ => simp at hpl; omega
 | p :: qs, hss, hpl, hrw, hpt =>
  obtain ⟨A, cap, rfl, _, _⟩ := hrw.form
  obtain ⟨b, o, c, rfl, rfl, h1, h2, h3, h4⟩ := hrw.split (Nat.zero_lt_succ _)
  unfold maxLen at h3
  refine ⟨p, qs, b, o, cap, c, hss.symm, ?_, hrw, h2, by omega, ?_, hpt p (List.mem_cons_self ..), fun x hx => hpt x (List.mem_cons_of_mem _ hx)⟩
  ·unfold lgO ptH
   rw [List.flatMap_cons, List.append_assoc]
   rfl
  ·intro q u hq
   refine h4 q u ?_
   rw [List.map_cons, List.flatten_cons, List.getElem?_append_left (List.getElem?_eq_some_iff.1 hq).1]
   exact hq
theorem sdrop_K {lb db : Nat} {lim : Int} {d : Dk} {ss : List Sg} {i : Int} {hL hp : Hp} (hg : SgO M lb db lim ss hL) (hok : sgsOk ss) (hct : ∀ s ∈ ss, conG s) (ho : DkO M db d hp) (hlen : d.ps.length + ss.length ≤ 900000) : K Tryz.prog 52 [.pointer (some ⟨lb, 0, none⟩), .int .u64 i] M (hL ++ (hp ++ H)) fun v' M' H' => v' = .int .i64 (dropG d i ss).1 ∧ M.le M' ∧ ∃ hL' hp', SgO M' lb db lim (dropG d i ss).2.2 hL' ∧ DkO M' db (dropG d i ss).2.1 hp' ∧ H' = hL' ++ (hp' ++ H) := by
 refine K.enterK Tryz.func52 rfl rfl rfl ?_
 intro Q hNP hQ
 (repeat' (first | (refine a_go ?_; intros) | refine a_sp (fun h => ?_) fun h => ?_ | fail))
 apply C.loop (fun y : CuX => M.le y.M ∧ SgO y.M lb db lim y.ss y.hL ∧ (∀ s ∈ y.ss, s ∈ ss) ∧ DkO y.M db y.d y.hp ∧ y.d.ps.length + y.ss.length ≤ d.ps.length + ss.length ∧ dropG d i ss = dropG y.d i y.ss)
  (fun y => [(0, .pointer (some ⟨lb, 0, none⟩)), (1, .int .u64 i)]) (fun y => y.M) (fun y => y.hL ++ (y.hp ++ H)) (fun y => y.ss.length) ⟨0, d, ss, hL, hp, M⟩
 ·exact ⟨Mem.le_refl _, hg, fun s h => h, ho, Nat.le_refl _, rfl⟩
 ·(exact a_subs)
 ·exact rfl
 ·exact rfl
 rintro ⟨nn, d1, s1, hL1, hp1, M1⟩ ⟨hM1, hg1, hsub, ho1, hd1, hcr⟩
 dsimp only at hM1 hg1 hsub ho1 hd1 hcr ⊢
 by_cases h0 : s1.length = 0
 ·have hnl : s1 = [] := List.eq_nil_of_length_eq_zero h0
  subst hnl
  have hcr2 : dropG d i ss = (0, d1, []) := hcr
  rw [hcr2] at hQ
  obtain ⟨A2, c2, hR2, rfl, _⟩ := hg1.rec_
  (repeat' (first | refine a_mv ?_ | (apply R.step; (apply Ok.gtF; exact rfl; exact rfl; decide); exact rfl) | (refine a_go ?_; intros) | refine a_sp (fun h => ?_) fun h => ?_ | fail))
  obtain ⟨hL2, hHL⟩ : ∃ q : Hp, q = (lb, .cells [.pointer (some ⟨db, 0, none⟩), .int .i64 lim, .slice A2 ([] : List Sg).length c2].toArray 78 (0, 0)) :: hR2 := ⟨_, rfl⟩
  rw [← hHL] at hg1 ⊢
  (refine Fin.rA (hL2 ++ (hp1 ++ H)) ?_)
  exact ⟨rfl, hM1, hL2, hp1, hg1, ho1, rfl⟩
 obtain ⟨p, qs, b, o, cp, c, hss1, rfl, hrow, hcp1, hcp2, hcell, hPO, hQO⟩ := hg1.headO (by omega)
 have hso := hok _ (hsub p.s (by rw [hss1]; exact List.mem_cons_self ..))
 have hco := hct _ (hsub p.s (by rw [hss1]; exact List.mem_cons_self ..))
 obtain ⟨a, ha⟩ : ∃ a, p.s.es.getLast? = some a := ⟨_, getLast_len (by rw [Sg.es_len]; exact hso.1)⟩
 have hla : lastI p.s = a.idx := by unfold lastI; rw [ha]
 obtain ⟨⟨f_, it⟩, lv, ev, lh, eh⟩ := p
 obtain ⟨hoP, hoT⟩ := id hPO
 obtain ⟨Al, cl, hlv, kl1, kl2⟩ := hoP.form
 obtain ⟨Ae, ce, hev, ke1, ke2⟩ := hoT.form
 change lv = .slice Al (⟨f_, it⟩ : Sg).es.length cl at hlv
 change ev = .slice Ae it.length ce at hev
 subst hlv hev
 dsimp only at hso hss1 ha hla ⊢
 have hfb : f_ ≤ 72057594037927935 := hco.1
 have hcell0 : c[o + (0 : Int).toNat * 3 + 0]? = some (.int .u64 (f_ : Int)) := hcell 0 _ rfl
 have hcell' : ∀ (q : Nat) u, [Value.int .u64 (f_ : Int), .slice Al (⟨f_, it⟩ : Sg).es.length cl, .slice Ae it.length ce][q]? = some u → c[o + (0 : Int).toNat * 3 + q]? = some u := hcell
 have hsl : s1.length = qs.length + 1 := by rw [hss1, List.length_cons, List.length_map]
 by_cases h1 : 1 < ((qs.length + 1 : Nat) : Int)
 rotate_left
 ·have hnr : ¬ (qs.map PtV.s ≠ [] ∧ lastI ⟨f_, it⟩ ≤ i) := by
   intro h
   have := List.length_pos_iff.2 h.1
   rw [List.length_map] at this
   omega
  have hcr2 : dropG d i ss = (0, d1, s1) := by
   rw [hcr, hss1, dropG, if_neg hnr]
  rw [hcr2] at hQ
  (repeat' (first | refine a_mv ?_ | (apply R.step; (apply Ok.gtF; exact rfl; exact rfl; exact h1); exact rfl) | (refine a_go ?_; intros) | refine a_sp (fun h => ?_) fun h => ?_ | fail))
  obtain ⟨hL2, hHL⟩ : ∃ q : Hp, q = (lb, .cells [.pointer (some ⟨db, 0, none⟩), .int .i64 lim, .slice (some ⟨b, o, none⟩) (qs.length + 1) cp].toArray 78 (0, 0)) :: (b, .cells c.toArray 85 (0, 0)) :: (lh ++ (eh ++ ptH qs)) := ⟨_, rfl⟩
  rw [← hHL] at hg1 ⊢
  (refine Fin.rA (hL2 ++ (hp1 ++ H)) ?_)
  exact ⟨rfl, hM1, hL2, hp1, hg1, ho1, rfl⟩
 have hrn : qs.map PtV.s ≠ [] := by
  refine List.ne_nil_of_length_pos ?_
  rw [List.length_map]
  omega
 (repeat' (first | refine a_mv ?_ | (apply R.step; (first | (apply Ok.gtTr; exact rfl; exact rfl; exact h1) | (apply Ok.indexAddr; exact rfl; exact rfl; omega; omega) | (apply Ok.loadAggO (vs := [Value.int .u64 (f_ : Int), .slice Al (⟨f_, it⟩ : Sg).es.length cl, .slice Ae it.length ce]); exact rfl; exact rfl; (exact a_at); exact hcell'; exact rfl)); exact rfl) | (refine a_go ?_; intros) | refine a_sp (fun h => ?_) fun h => ?_ | fail))
 apply R.arr (H2 := lh ++ ((lb, .cells [.pointer (some ⟨db, 0, none⟩), .int .i64 lim, .slice (some ⟨b, o, none⟩) (qs.length + 1) cp].toArray 78 (0, 0)) :: (b, .cells c.toArray 85 (0, 0)) :: (eh ++ (ptH qs ++ (hp1 ++ H))))) (by (exact a_art))
 (apply R.call; (exact a_evs); exact rfl; exact plast_KO hPO ha; rintro _ M1 _ ⟨⟨A', c', rfl⟩, rfl, rfl⟩)
 unfold eV ecells
 by_cases hle : a.idx ≤ i
 rotate_left
 ·have hcr2 : dropG d i ss = (0, d1, s1) := by
   rw [hcr, hss1, dropG, if_neg (fun h => hle (hla ▸ h.2))]
  rw [hcr2] at hQ
  (repeat' (first | refine a_mv ?_ | (apply R.step; (apply Ok.leF; exact rfl; exact rfl; exact hle); exact rfl) | (refine a_go ?_; intros) | refine a_sp (fun h => ?_) fun h => ?_ | fail))
  obtain ⟨hL2, hHL⟩ : ∃ q : Hp, q = (lb, .cells [.pointer (some ⟨db, 0, none⟩), .int .i64 lim, .slice (some ⟨b, o, none⟩) (qs.length + 1) cp].toArray 78 (0, 0)) :: (b, .cells c.toArray 85 (0, 0)) :: (lh ++ (eh ++ ptH qs)) := ⟨_, rfl⟩
  apply Fin.arr (H2 := hL2 ++ (hp1 ++ H)) (by rw [hHL]; (exact a_art))
  rw [← hHL] at hg1
  (refine Fin.rA (hL2 ++ (hp1 ++ H)) ?_)
  exact ⟨rfl, hM1, hL2, hp1, hg1, ho1, rfl⟩
 have hcr1 : dropG d1 i (⟨f_, it⟩ :: qs.map PtV.s) = if remE d1 (nameS f_) ≠ 0 then (remE d1 (nameS f_), opD (remE d1 (nameS f_)) d1 (.rem (nameS f_)), ⟨f_, it⟩ :: qs.map PtV.s) else dropG (opD 0 d1 (.rem (nameS f_))) i (qs.map PtV.s) := by
  rw [dropG, if_pos ⟨hrn, by rw [hla]; exact hle⟩]
 rw [hss1, hcr1] at hcr
 clear hcr1
 (repeat' (first | refine a_mv ?_ | (apply R.step; (apply Ok.leTr; exact rfl; exact rfl; exact hle); exact rfl) | (refine a_go ?_; intros) | refine a_sp (fun h => ?_) fun h => ?_ | fail))
 (apply C.regionT (t := .free 0 (.free 1 (.free 2 (.free 3 (.free 4 (.free 5 (.free 6 (.free 7 (.free 8 (.free 9 (.free 10 (.free 11 (.one 12 (.free 13 .nil)))))))))))))) (Hs := [(lb, .cells [.pointer (some ⟨db, 0, none⟩), .int .i64 lim, .slice (some ⟨b, o, none⟩) (qs.length + 1) cp].toArray 78 (0, 0)), (b, .cells c.toArray 85 (0, 0))]); exact Mix.h; (first | exact Arr.all _ | (exact a_arr) | (exact a_arrs)); (exact a_np); kernel_rfl)
 (repeat' (first | (apply RT.step; exact rfl; intro _ _ _; (apply Ok.move; exact rfl); exact rfl) | (apply RT.callQ; exact rfl; exact inferInstance; (exact a_evs); exact rfl; (intro M' Hx' hM'; exact segName_K (n := f_) (by omega))) | (apply RT.step; exact rfl; intro _ _ _; (first | (apply Ok.indexAddr; exact rfl; exact rfl; omega; omega) | (apply Ok.load; exact rfl; exact rfl; (exact a_at); exact hcell0)); exact rfl) | refine a_ot ?_ | fail))
 (apply RT.one; apply OneT.eff; exact rfl; intro Kc hKc ops0)
 apply R.arr (H2 := hp1 ++ ((lb, .cells [.pointer (some ⟨db, 0, none⟩), .int .i64 lim, .slice (some ⟨b, o, none⟩) (qs.length + 1) cp].toArray 78 (0, 0)) :: (b, .cells c.toArray 85 (0, 0)) :: (ptH qs ++ (lh ++ (eh ++ H))))) (by (exact a_art))
 (apply R.call; (exact a_evs); exact rfl; exact remove_K (n := nameS f_) ho1 (by omega); rintro _ M2 _ ⟨rfl, hM2, hp2, ho2, rfl⟩)
 (apply R.nil; apply Fin.kt (Hx := ptH qs ++ (lh ++ (eh ++ (hp2 ++ H)))) hKc; exact hM2; (exact a_art))
 (repeat' (first | refine a_ot ?_ | fail))
 apply RT.nil
 by_cases hq : remE d1 (nameS f_) = 0
 rotate_left
 ·rw [if_pos hq] at hcr
  rw [hcr] at hQ
  rw [hss1] at hg1
  (repeat' (first | refine a_mv ?_ | (apply R.step; (apply Ok.neIT; exact rfl; exact rfl; exact hq); exact rfl) | (refine a_go ?_; intros) | refine a_sp (fun h => ?_) fun h => ?_ | fail))
  obtain ⟨hL2, hHL⟩ : ∃ q : Hp, q = (lb, .cells [.pointer (some ⟨db, 0, none⟩), .int .i64 lim, .slice (some ⟨b, o, none⟩) (qs.length + 1) cp].toArray 78 (0, 0)) :: (b, .cells c.toArray 85 (0, 0)) :: (lh ++ (eh ++ ptH qs)) := ⟨_, rfl⟩
  apply Fin.arr (H2 := hL2 ++ (hp2 ++ H)) (by rw [hHL]; (exact a_art))
  rw [← hHL] at hg1
  (refine Fin.rA (hL2 ++ (hp2 ++ H)) ?_)
  exact ⟨rfl, hM1.trans_ hM2, hL2, hp2, hg1.mono hM2, ho2, rfl⟩
 rw [if_neg (fun h => h hq)] at hcr
 rw [hq] at ho2
 have hnp : (opD 0 d1 (.rem (nameS f_))).ps.length ≤ d1.ps.length + 1 := opD_ps _ _ _
 have hg2 : SgO M2 lb db lim (qs.map PtV.s) ((lb, lgO db lim (.slice (adv (some ⟨b, o, none⟩) 1 3 cp) (qs.length + 1 - 1) (cp - 1))) :: ([(b, .cells c.toArray 85 (0, 0))] ++ ptH qs)) := by
  refine ⟨qs, _, _, rfl, ?_, fun q hq => (hQO q hq).mono hM2, rfl⟩
  have h3 := hrow.cut (k := 1) (by omega)
  rw [List.drop_left' (show _ = 1 * 3 from rfl)] at h3
  exact h3
 (repeat' (first | refine a_mv ?_ | (apply R.step; (first | (apply Ok.neIR; exact rfl; exact rfl; exact hq) | (apply Ok.sliceLo; exact rfl; exact rfl; omega; omega)); exact rfl) | (refine a_go ?_; intros) | refine a_sp (fun h => ?_) fun h => ?_ | fail))
 rw [show Int.toNat 1 = 1 from rfl]
 obtain ⟨hL2, hHL⟩ : ∃ q : Hp, q = (lb, lgO db lim (.slice (adv (some ⟨b, o, none⟩) 1 3 cp) (qs.length + 1 - 1) (cp - 1))) :: ([(b, .cells c.toArray 85 (0, 0))] ++ ptH qs) := ⟨_, rfl⟩
 apply Fin.arr (H2 := hL2 ++ (hp2 ++ H)) (by rw [hHL]; unfold lgO; (exact a_art))
 rw [← hHL] at hg2
 refine Fin.again (⟨0, opD 0 d1 (.rem (nameS f_)), qs.map PtV.s, hL2, hp2, M2⟩ : CuX) ⟨hM1.trans_ hM2, hg2, ?_, ho2, ?_, hcr⟩ ?_ ?_ rfl rfl
 ·intro s hs
  exact hsub s (by rw [hss1]; exact List.mem_cons_of_mem _ hs)
 ·dsimp only
  rw [List.length_map]
  omega
 ·dsimp only
  rw [List.length_map]
  omega
 ·(exact a_subs)
end Go.Sx
end
section
namespace Go.Sx
open Go Go.Proofs Go.RowKit
theorem byteR_lay {pre rest : Txt} {b most : UInt8} (h : b.toNat ≤ most.toNat) : byteR (pre ++ (b :: rest)) most pre.length 0 = (b, pre.length + 1, 0) := by
 unfold byteR
 rw [if_neg (fun h => h rfl), List.getElem?_append_right (Nat.le_refl _), Nat.sub_self, List.getElem?_cons_zero]
 dsimp only
 exact if_neg (by omega)
theorem textR_lay {pre b : Txt} {most : Nat} (h : b.length ≤ most) (hm : most ≤ 18446744073709551615) (rest : Txt) : textR (pre ++ (textS b ++ rest)) most pre.length 0 = (b, pre.length + (textS b).length, 0) := by
 have e1 := numRd_lay (n := b.length) (most := most) (rest := b ++ rest) (pre := pre) (by omega) h
 have e2 : pre ++ (textS b ++ rest) = pre ++ (numS b.length ++ (b ++ rest)) := by
  unfold textS
  rw [List.append_assoc]
 rw [e2]
 unfold textR
 rw [e1]
 dsimp only
 rw [if_neg (fun h => h rfl), if_neg (by simp only [List.length_append]; omega)]
 have e3 : (pre ++ (numS b.length ++ (b ++ rest))).drop (pre.length + (numS b.length).length) = b ++ rest := by
  rw [← List.append_assoc, ← List.length_append, List.drop_left]
 rw [e3, List.take_left]
 refine Prod.ext rfl (Prod.ext ?_ rfl)
 show pre.length + (numS b.length).length + b.length = pre.length + (textS b).length
 unfold textS
 rw [List.length_append]
 omega
theorem readE_lay {e : En} (h : entS e) : readE (layE e) = some e := by
 obtain ⟨h1, h2, h3, h4, h5, h6, h7⟩ := entS_kind h
 have hEl := layE_len h
 obtain ⟨ek, et, ei, ed, ec⟩ := e
 dsimp only at h1 h2 h3 h4 h5 h6 h7
 obtain ⟨kn, rfl⟩ : ∃ kn : Nat, ek = (kn : Int) := ⟨_, (Int.toNat_of_nonneg h1).symm⟩
 obtain ⟨tn, rfl⟩ : ∃ tn : Nat, et = (tn : Int) := ⟨_, (Int.toNat_of_nonneg (by omega)).symm⟩
 obtain ⟨idn, rfl⟩ : ∃ idn : Nat, ei = (idn : Int) := ⟨_, (Int.toNat_of_nonneg (by omega)).symm⟩
 obtain ⟨cn, rfl⟩ : ∃ cn : Nat, ec = (cn : Int) := ⟨_, (Int.toNat_of_nonneg h3).symm⟩
 have hk : (UInt8.ofNat kn).toNat = kn := by rw [UInt8.toNat_ofNat']; omega
 have hc : (UInt8.ofNat cn).toNat = cn := by rw [UInt8.toNat_ofNat']; omega
 obtain ⟨T, hT⟩ : ∃ T, T = layT ⟨(kn : Int), (tn : Int), (idn : Int), ed, (cn : Int)⟩ := ⟨_, rfl⟩
 obtain ⟨x, hx⟩ : ∃ x, x = layE ⟨(kn : Int), (tn : Int), (idn : Int), ed, (cn : Int)⟩ := ⟨_, rfl⟩
 have hx0 : x = ([UInt8.ofNat kn] ++ numS tn ++ numS idn) ++ T := by rw [hx, hT]; rfl
 rw [← hx] at hEl ⊢
 have hl0 : ([UInt8.ofNat kn] : Txt).length = 1 := rfl
 have z0 : byteR x 2 0 0 = (UInt8.ofNat kn, 1, 0) := by
  have := byteR_lay (pre := []) (rest := numS tn ++ (numS idn ++ T)) (b := UInt8.ofNat kn) (most := 2) (by rw [hk]; show kn ≤ 2; omega)
  rw [List.nil_append, List.length_nil] at this
  rw [hx0]
  simpa using this
 have z1 : numRd x 72057594037927935 1 0 = (tn, 1 + (numS tn).length, 0) := by
  have := numRd_lay (n := tn) (most := 72057594037927935) (pre := [UInt8.ofNat kn]) (rest := numS idn ++ T) (by omega) (by omega)
  rw [hl0] at this
  rw [hx0]
  simpa using this
 have z2 : numRd x 72057594037927935 (1 + (numS tn).length) 0 = (idn, 1 + (numS tn).length + (numS idn).length, 0) := by
  have := numRd_lay (n := idn) (most := 72057594037927935) (pre := [UInt8.ofNat kn] ++ numS tn) (rest := T) (by omega) (by omega)
  rw [List.length_append, hl0] at this
  rw [hx0]
  simpa using this
 have hpl : ([UInt8.ofNat kn] ++ numS tn ++ numS idn).length = 1 + (numS tn).length + (numS idn).length := by
  simp only [List.length_append, hl0]
 have hxl : x.length = 1 + (numS tn).length + (numS idn).length + T.length := by rw [hx0, List.length_append, hpl]
 have z3 : ∃ d c, tailR x kn (1 + (numS tn).length + (numS idn).length) 0 = (d, c, x.length, 0) ∧ d = ed ∧ c = (cn : Int) := by
  unfold entS at h
  dsimp only at h
  by_cases hk1 : (kn : Int) = 1
  ·have hTe : T = textS ed := by rw [hT]; exact if_pos hk1
   have := textR_lay (pre := [UInt8.ofNat kn] ++ numS tn ++ numS idn) (b := ed) (most := 128) (by omega) (by decide) []
   rw [List.append_nil, ← hTe, ← hx0, hpl, ← hxl] at this
   refine ⟨ed, 0, ?_, rfl, by omega⟩
   unfold tailR
   rw [if_pos (by omega), this]
  ·by_cases hk2 : (kn : Int) = 2
   ·have hTe : T = [UInt8.ofNat cn] := by rw [hT]; exact (if_neg hk1).trans (if_pos hk2)
    have := byteR_lay (pre := [UInt8.ofNat kn] ++ numS tn ++ numS idn) (rest := []) (b := UInt8.ofNat cn) (most := 254) (by rw [hc]; show cn ≤ 254; omega)
    rw [← hTe, ← hx0, hpl] at this
    have hTl : T.length = 1 := by rw [hTe]; rfl
    refine ⟨[], (cn : Int), ?_, ?_, rfl⟩
    ·unfold tailR
     rw [if_neg (by omega), if_pos (by omega), this, hc]
     rw [hxl, hTl]
    ·exact (List.eq_nil_of_length_eq_zero (by omega)).symm
   ·have hTe : T = [] := by rw [hT]; exact (if_neg hk1).trans (if_neg hk2)
    refine ⟨[], 0, ?_, ?_, ?_⟩
    ·unfold tailR
     rw [if_neg (by omega), if_neg (by omega), hxl, hTe]
     rfl
    ·exact (List.eq_nil_of_length_eq_zero (by omega)).symm
    ·omega
 obtain ⟨d, c, z3, hd3, hc3⟩ := z3
 subst hd3 hc3
 have hz3 := z3
 rw [← hk] at hz3
 rw [readE_of (by omega) z0 z1 z2 hz3]
 unfold readG
 dsimp only
 rw [hk]
 refine if_pos ⟨?_, h⟩
 unfold endR
 exact if_neg (by omega)
theorem dig_lt {a b : Nat} (h : a < b) (hb : b < 16) : dig a < dig b := by
 have : ∀ (i j : _root_.Fin 16), i < j → dig i.val < dig j.val := by decide
 exact this ⟨a, by omega⟩ ⟨b, hb⟩ h
theorem hexS_le : ∀ (k n m : Nat), n % 16 ^ k ≤ m % 16 ^ k → hexS k n ≤ hexS k m
 | 0, _, _, _ => List.le_refl _
 | k + 1, n, m, h => by
  rw [hexS_cons, hexS_cons, List.cons_le_cons_iff]
  have h1 : n % 16 ^ (k + 1) = n % 16 ^ k + 16 ^ k * (n / 16 ^ k % 16) := Nat.mod_pow_succ
  have h2 : m % 16 ^ (k + 1) = m % 16 ^ k + 16 ^ k * (m / 16 ^ k % 16) := Nat.mod_pow_succ
  have hp : 0 < 16 ^ k := Nat.pow_pos (by decide)
  have a1 := Nat.mod_lt n hp
  have a2 := Nat.mod_lt m hp
  rcases Nat.lt_trichotomy (n / 16 ^ k % 16) (m / 16 ^ k % 16) with g | g | g
  ·exact .inl (dig_lt g (Nat.mod_lt _ (by decide)))
  ·refine .inr ⟨by rw [g], hexS_le k n m ?_⟩
   rw [h1, h2, g] at h
   omega
  ·have : 16 ^ k * (m / 16 ^ k % 16 + 1) ≤ 16 ^ k * (n / 16 ^ k % 16) := Nat.mul_le_mul_left _ g
   rw [Nat.mul_add] at this
   omega
theorem nameS_le {a b : Nat} (hb : b ≤ 72057594037927935) (h : a ≤ b) : nameS a ≤ nameS b := by
 rw [nameS_ok (by omega), nameS_ok hb, List.cons_le_cons_iff]
 refine .inr ⟨rfl, hexS_le _ _ _ ?_⟩
 have e : (16 : Nat) ^ 15 = 1152921504606846976 := by decide
 rw [Nat.mod_eq_of_lt (by omega), Nat.mod_eq_of_lt (by omega)]
 exact h
def fileS (s : Sg) : Txt := cat (s.es.map layE)
def filesG (ss : List Sg) : Fs := ss.map fun s => (nameS s.first, fileS s)
def seqF (prev : Option En) (first : Nat) : List En → List En → Prop
 | _, [] => True
 | acc, e :: es => entS e ∧ fitS prev first acc e ∧ seqF prev first (acc ++ [e]) es
def zE (e : En) : En × Nat := (e, 8 + (layE e).length)
theorem goF_all {prev : Option En} {first : Nat} : ∀ (es acc : List En), seqF prev first acc es → goF prev first (es.map layE) (acc.map zE) = ((acc ++ es).map zE, true)
 | [], acc, _ => by rw [List.append_nil]; rfl
 | e :: es, acc, h => by
  have e1 : (acc.map zE).map Prod.fst = acc := by
   rw [List.map_map]
   exact List.map_id' _
  rw [List.map_cons, goF_some (readE_lay h.1) (by rw [e1]; exact h.2.1)]
  have e2 : acc.map zE ++ [(e, 8 + (layE e).length)] = (acc ++ [e]).map zE := by rw [List.map_append]; rfl
  rw [e2, goF_all es _ h.2.2, List.append_assoc]
  rfl
theorem seqF_ent {prev : Option En} {first : Nat} : ∀ {es acc : List En}, seqF prev first acc es → ∀ e ∈ es, entS e
 | [], _, _, _, he => absurd he List.not_mem_nil
 | _ :: _, _, h, e, he => by
  rcases List.mem_cons.1 he with he | he
  ·rw [he]; exact h.1
  ·exact seqF_ent h.2.2 e he
structure OkS (prev : Option En) (s : Sg) : Prop where
 num : s.first ≤ 72057594037927935
 len : 0 < s.it.length
 it : s.it = s.es.map zE
 seq : seqF prev s.first [] s.es
 room : s.it.length ≤ 1000000
theorem lay_small {es : List En} (h : ∀ e ∈ es, entS e) : ∀ p ∈ es.map layE, p.length ≤ 65536 := by
 intro p hp
 obtain ⟨e, he, rfl⟩ := List.mem_map.1 hp
 have := layE_len (h e he)
 omega
theorem cat_le {es : List En} (h : ∀ e ∈ es, entS e) : (cat (es.map layE)).length ≤ 167 * es.length := by
 rw [cat_len _ (lay_small h)]
 induction es with
 | nil => exact Nat.le_refl _
 | cons e es ih =>
  have h1 := layE_len (h e (List.mem_cons_self ..))
  have h2 := ih (fun x hx => h x (List.mem_cons_of_mem _ hx))
  rw [List.map_cons]
  unfold endS at h2 ⊢
  rw [List.map_cons, List.sum_cons, List.length_cons]
  omega
theorem OkS.ents {prev : Option En} {s : Sg} (h : OkS prev s) : ∀ e ∈ s.es, entS e := seqF_ent h.seq
theorem OkS.zsum {prev : Option En} {s : Sg} (h : OkS prev s) : (s.it.map Prod.snd).sum = (fileS s).length := by
 unfold fileS
 rw [cat_len _ (lay_small h.ents), h.it]
 unfold endS
 rw [List.map_map, List.map_map]
 rfl
theorem OkS.file_len {prev : Option En} {s : Sg} (h : OkS prev s) : (fileS s).length ≤ 167000000 := by
 have h1 := cat_le h.ents
 have h2 := h.room
 rw [Sg.es_len] at h1
 unfold fileS
 omega
theorem readF_all {prev : Option En} {s : Sg} (h : OkS prev s) : readF prev s.first (fileS s) = (s.it, true) := by
 have hl := h.file_len
 have h1 : framesF (fileS s).length (fileS s) = s.es.map layE := frames_cat _ (lay_small h.ents) (by unfold fileS at hl; omega)
 have h2 := goF_all (prev := prev) (first := s.first) s.es [] h.seq
 rw [List.map_nil, List.nil_append, ← h.it] at h2
 unfold readF
 rw [h1, h2]
 dsimp only
 rw [h.zsum, Bool.true_and, decide_eq_true ⟨rfl, h.len⟩]
def okG : Option En → List Sg → Prop
 | _, [] => True
 | prev, s :: r => OkS prev s ∧ okG s.es.getLast? r
theorem lastO_snoc (ss : List Sg) (s : Sg) : lastO (ss ++ [s]) = s.es.getLast? := by
 unfold lastO
 rw [List.getLast?_append]
 rfl
theorem openG_all {d : Dk} : ∀ (ss done : List Sg), okG (lastO done) ss → (∀ s ∈ ss, readD d (nameS s.first) = some (fileS s)) → openG d (ss.map Sg.first) done = (0, d, done ++ ss)
 | [], done, _, _ => by rw [List.append_nil]; rfl
 | s :: r, done, h, hr => by
  have h1 := readF_all h.1
  rw [List.map_cons, openG, hr s (List.mem_cons_self ..), Option.getD_some, h1]
  dsimp only
  rw [if_pos rfl, if_pos h.1.len, openG_all r (done ++ [s]) (by rw [lastO_snoc]; exact h.2) (fun x hx => hr x (List.mem_cons_of_mem _ hx)), List.append_assoc]
  rfl
theorem seqF_idx {prev : Option En} {f : Nat} : ∀ (es acc : List En), seqF prev f acc es → (∀ a, acc.getLast? = some a → a.idx = (f : Int) + acc.length - 1) → ∀ (j : Nat) e, es[j]? = some e → e.idx = (f : Int) + acc.length + j
 | [], _, _, _, j, e, he => by cases he
 | x :: es, acc, h, ha, j, e, he => by
  have hx : x.idx = (f : Int) + acc.length := by
   have h1 := h.2.1
   unfold fitS at h1
   cases hl : acc.getLast? with
   | none =>
    rw [hl] at h1
    have : acc = [] := List.getLast?_eq_none_iff.1 hl
    rw [this]
    simpa using h1.1
   | some a =>
    rw [hl] at h1
    have := ha a hl
    have h2 := h1.1
    omega
  cases j with
  | zero =>
   cases he
   simpa using hx
  | succ j =>
   have := seqF_idx es (acc ++ [x]) h.2.2 (fun a h3 => by
    have h4 : a = x := by
     rw [List.getLast?_append] at h3
     exact (Option.some.inj h3).symm
    subst h4
    rw [List.length_append, List.length_singleton]
    omega) j e he
   rw [List.length_append, List.length_singleton] at this
   omega
theorem OkS.con {prev : Option En} {s : Sg} (h : OkS prev s) : conG s := by
 refine ⟨h.num, fun j e he => ?_⟩
 have := seqF_idx s.es [] h.seq (fun a h => by cases h) j e he
 simpa using this
theorem OkS.first {s : Sg} {a : En} (h : OkS (some a) s) : (s.first : Int) = a.idx + 1 := by
 have h1 := h.seq
 have h2 := h.len
 have hc := h.con.2 0
 rw [← Sg.es_len] at h2
 match hes : s.es, h1, h2 with
 | e :: es, h1, _ =>
  have h3 := h1.2.1
  have h4 := hc e (by rw [hes]; rfl)
  have h5 : e.idx = a.idx + 1 := h3.2.1
  have h6 : e.idx = (s.first : Int) := h3.1
  omega
theorem OkS.last {prev : Option En} {s : Sg} (h : OkS prev s) : ∃ a, s.es.getLast? = some a ∧ a.idx = (s.first : Int) + s.it.length - 1 := by
 have h2 := h.len
 refine ⟨_, getLast_len (by rw [Sg.es_len]; exact h2), ?_⟩
 have := h.con.2 (s.es.length - 1) _ (List.getElem?_eq_getElem (by rw [Sg.es_len]; omega))
 rw [this, Sg.es_len]
 omega
theorem okG_gt : ∀ {ss : List Sg} {a : En}, okG (some a) ss → ∀ s ∈ ss, a.idx < (s.first : Int)
 | [], _, _, s, hs => absurd hs List.not_mem_nil
 | x :: r, a, h, s, hs => by
  have h1 := h.1.first
  rcases List.mem_cons.1 hs with hs | hs
  ·rw [hs]; omega
  ·obtain ⟨b, hb, hbi⟩ := h.1.last
   have h2 := h.2
   rw [hb] at h2
   have := okG_gt h2 s hs
   have := h.1.len
   omega
theorem okG_pw : ∀ {ss : List Sg} {prev : Option En}, okG prev ss → ss.Pairwise (fun s t => s.first < t.first)
 | [], _, _ => List.Pairwise.nil
 | x :: r, _, h => by
  refine List.Pairwise.cons (fun t ht => ?_) (okG_pw h.2)
  obtain ⟨b, hb, hbi⟩ := h.1.last
  have h2 := h.2
  rw [hb] at h2
  have := okG_gt h2 t ht
  have := h.1.len
  omega
theorem okG_num : ∀ {ss : List Sg} {prev : Option En}, okG prev ss → ∀ s ∈ ss, s.first ≤ 72057594037927935
 | [], _, _, s, hs => absurd hs List.not_mem_nil
 | x :: r, _, h, s, hs => by
  rcases List.mem_cons.1 hs with hs | hs
  ·rw [hs]; exact h.1.num
  ·exact okG_num h.2 s hs
theorem get_files : ∀ {ss : List Sg}, ss.Pairwise (fun s t => s.first < t.first) → (∀ s ∈ ss, s.first ≤ 72057594037927935) → ∀ s ∈ ss, getS (filesG ss) (nameS s.first) = some (fileS s)
 | [], _, _, s, hs => absurd hs List.not_mem_nil
 | x :: r, hp, hn, s, hs => by
  obtain ⟨h1, h2⟩ := List.pairwise_cons.1 hp
  unfold filesG getS
  rw [List.map_cons, List.find?_cons]
  rcases List.mem_cons.1 hs with hs | hs
  ·rw [hs]
   simp
  ·have h3 := h1 s hs
   have h4 : nameS x.first ≠ nameS s.first := fun h => by
    have := name_inj (hn x (List.mem_cons_self ..)) (hn s (List.mem_cons_of_mem _ hs)) h
    omega
   rw [decide_eq_false h4]
   exact get_files h2 (fun t ht => hn t (List.mem_cons_of_mem _ ht)) s hs
theorem keys_files (ss : List Sg) : keyS (filesG ss) = ss.map fun s => nameS s.first := by
 unfold keyS filesG
 rw [List.map_map]
 rfl
theorem names_files {ss : List Sg} (hp : ss.Pairwise (fun s t => s.first < t.first)) (hn : ∀ s ∈ ss, s.first ≤ 72057594037927935) : namesD false (filesG ss) = ss.map fun s => nameS s.first := by
 unfold namesD
 rw [if_neg (by decide), keys_files]
 unfold sortT
 refine List.mergeSort_of_pairwise ?_
 rw [List.pairwise_map]
 refine List.Pairwise.imp_of_mem ?_ hp
 intro s t _ ht h
 exact decide_eq_true (nameS_le (hn t ht) (Nat.le_of_lt h))
theorem nums_files : ∀ {ss : List Sg}, (∀ s ∈ ss, s.first ≤ 72057594037927935) → numsF (ss.map fun s => nameS s.first) = ss.map Sg.first
 | [], _ => rfl
 | x :: r, hn => by
  unfold numsF
  rw [List.map_cons, List.filterMap_cons, numO_name (hn x (List.mem_cons_self ..))]
  exact congrArg (x.first :: ·) (nums_files fun t ht => hn t (List.mem_cons_of_mem _ ht))
theorem openS_all {d : Dk} {ss : List Sg} (hd : d.down = false) (hn : d.now = filesG ss) (hg : okG none ss) : openS d = (0, d, ss) := by
 have hp := okG_pw hg
 have hm := okG_num hg
 unfold openS
 rw [hd, hn, names_files hp hm, nums_files hm, openG_all ss [] hg (fun s hs => by
  unfold readD
  rw [if_neg (by rw [hd]; decide), hn]
  exact get_files hp hm s hs)]
 rfl
end Go.Sx
end
section
namespace Go.Sx
open Go Go.Proofs Go.RowKit
attribute [local irreducible] C R Fin K Own OwnT Rd Pl Ok KOf RetOk OpsOf RP KP Res NoPanic KV KE MapS ItS EntS FsO FsR RowD PlD DkO
variable {M M' : Mem} {H H1 H2 : Hp}
theorem getS_del_ne {α : Type} {n k : Txt} (h : k ≠ n) : ∀ l : List (Txt × α), getS (delS l n) k = getS l k
 | [] => rfl
 | p :: l => by
  have ih := getS_del_ne h l
  unfold getS delS at ih ⊢
  rw [List.filter_cons]
  by_cases hp : p.1 = n
  ·rw [if_neg (by simp [hp]), ih, List.find?_cons_of_neg (by rw [hp]; simp [Ne.symm h])]
  ·rw [if_pos (by simp [hp])]
   by_cases hk : p.1 = k
   ·rw [List.find?_cons_of_pos (by simp [hk]), List.find?_cons_of_pos (by simp [hk])]
   ·rw [List.find?_cons_of_neg (by simp [hk]), List.find?_cons_of_neg (by simp [hk]), ih]
theorem getS_put_ne {α : Type} {n k : Txt} {v : α} {l : List (Txt × α)} (hn : (keyS l).Nodup) (h : k ≠ n) : getS (putS l n v) k = getS l k := by
 have e : ∀ w, getS (putS l n v) k = some w ↔ getS l k = some w := by
  intro w
  rw [getS_mem (putS_keys hn), getS_mem hn]
  unfold putS
  split
  ·constructor
   ·intro hm
    obtain ⟨p, hp, he⟩ := List.mem_map.1 hm
    split at he
    ·cases he
     exact absurd rfl h
    ·rw [← he]
     exact hp
   ·intro hm
    refine List.mem_map.2 ⟨(k, w), hm, ?_⟩
    rw [if_neg h]
  ·rw [List.mem_append, List.mem_singleton]
   constructor
   ·rintro (hm | hm)
    ·exact hm
    ·cases hm
     exact absurd rfl h
   ·exact .inl
 cases hx : getS l k with
 | none =>
  cases hy : getS (putS l n v) k with
  | none => rfl
  | some w =>
   rw [(e w).1 hy] at hx
   cases hx
 | some w => exact (e w).2 hx
def goes (d : Dk) : Prop := d.fuse = -1 ∧ d.down = false
theorem goes.stop {d : Dk} (h : goes d) : ¬ stopD d := by
 rintro (h1 | h1)
 ·rw [h.2] at h1
  cases h1
 ·rw [h.1] at h1
  cases h1
theorem goes.cnt {d : Dk} (h : goes d) : cntD d = d := by
 unfold cntD
 rw [if_neg h.stop, h.1, if_neg (by decide), ← h.1]
theorem goes.op {d : Dk} {x : De} (h : goes d) : opD 0 d x = { d with ps := d.ps ++ [x] } := by
 unfold opD
 rw [if_pos rfl, h.cnt]
theorem goes.op' {d : Dk} {x : De} (h : goes d) : goes (opD 0 d x) := by
 rw [h.op]
 exact h
theorem goes.now {d : Dk} {x : De} (h : goes d) : (opD 0 d x).now = doF d.now x := by
 rw [h.op]
 unfold Dk.now
 rw [List.foldl_append]
 rfl
end Go.Sx
end
section
namespace Go.Sx
open Go Go.Proofs Go.RowKit
theorem okG_snoc {s : Sg} : ∀ {ss : List Sg} {prev : Option En}, okG prev (ss ++ [s]) ↔ okG prev ss ∧ OkS (match ss.getLast? with | none => prev | some t => t.es.getLast?) s
 | [], prev => ⟨fun h => ⟨trivial, h.1⟩, fun h => ⟨h.2, trivial⟩⟩
 | x :: r, prev => by
  rw [List.cons_append]
  have h := okG_snoc (s := s) (ss := r) (prev := x.es.getLast?)
  have e : (match (x :: r).getLast? with | none => prev | some t => t.es.getLast?) = (match r.getLast? with | none => x.es.getLast? | some t => t.es.getLast?) := by
   rw [List.getLast?_cons]
   cases r.getLast? <;> rfl
  rw [e]
  exact ⟨fun g => ⟨⟨g.1, (h.1 g.2).1⟩, (h.1 g.2).2⟩, fun g => ⟨g.1.1, h.2 ⟨g.1.2, g.2⟩⟩⟩
theorem okG_last {ss : List Sg} {s : Sg} : okG none (ss ++ [s]) ↔ okG none ss ∧ OkS (lastO ss) s := by
 rw [okG_snoc]
 unfold lastO
 cases ss.getLast? <;> exact Iff.rfl
theorem seqF_snoc {prev : Option En} {f : Nat} {e : En} : ∀ {es acc : List En}, seqF prev f acc (es ++ [e]) ↔ seqF prev f acc es ∧ entS e ∧ fitS prev f (acc ++ es) e
 | [], acc => by
  rw [List.append_nil]
  exact ⟨fun h => ⟨trivial, h.1, h.2.1⟩, fun h => ⟨h.2.1, h.2.2, trivial⟩⟩
 | x :: es, acc => by
  have h := seqF_snoc (prev := prev) (f := f) (e := e) (es := es) (acc := acc ++ [x])
  rw [List.append_assoc] at h
  exact ⟨fun g => ⟨⟨g.1, g.2.1, (h.1 g.2.2).1⟩, (h.1 g.2.2).2⟩, fun g => ⟨g.1.1, g.1.2.1, h.2 ⟨g.1.2.2, g.2⟩⟩⟩
theorem zE_frame {e : En} (h : entS e) : zE e = (e, (frameS (layE e)).length) := by
 unfold zE
 rw [(layF_len h).1]
theorem cat_snoc' (ls : List Txt) (p : Txt) : cat (ls ++ [p]) = cat ls ++ frameS p := by simp [cat]
theorem fileS_add (s : Sg) (e : En) : fileS (addS s e) = fileS s ++ frameS (layE e) := by
 unfold fileS
 rw [addS_es, List.map_append]
 exact cat_snoc' _ _
theorem OkS.add {prev : Option En} {s : Sg} {e : En} (h : OkS prev s) (he : entS e) (hf : prevE s.es.getLast? e) (hr : s.it.length + 1 ≤ 1000000) : OkS prev (addS s e) := by
 refine ⟨h.num, by rw [addS_len]; exact Nat.zero_lt_succ _, ?_, ?_, by rw [addS_len]; exact hr⟩
 ·rw [addS_es, List.map_append, ← h.it]
  show s.it ++ [(e, (frameS (layE e)).length)] = s.it ++ [zE e]
  rw [zE_frame he]
 ·rw [addS_es]
  show seqF prev s.first [] (s.es ++ [e])
  refine seqF_snoc.2 ⟨h.seq, he, ?_⟩
  obtain ⟨a, ha, _⟩ := h.last
  unfold fitS
  rw [List.nil_append, ha]
  rw [ha] at hf
  exact hf
theorem OkS.new {prev : Option En} {e : En} (he : entS e) (hf : prevE prev e) : OkS prev (addS ⟨e.idx.toNat, []⟩ e) := by
 have h1 := (entS_kind he).2.2.2.2.2.1
 refine ⟨by show e.idx.toNat ≤ _; omega, Nat.zero_lt_one, ?_, ?_, by show 1 ≤ 1000000; decide⟩
 ·show [(e, (frameS (layE e)).length)] = [zE e]
  rw [zE_frame he]
 ·refine ⟨he, ⟨?_, ?_⟩, trivial⟩
  ·show e.idx = ((e.idx.toNat : Nat) : Int)
   omega
  ·cases prev with
   | none => trivial
   | some a => exact hf
structure LogD (d : Dk) (ss : List Sg) : Prop where
 go : goes d
 now : d.now = filesG ss
 ok : okG none ss
theorem LogD.open_ {d : Dk} {ss : List Sg} (h : LogD d ss) : openS d = (0, d, ss) := openS_all h.go.2 h.now h.ok
theorem okG_last_le : ∀ {ss : List Sg} {prev : Option En} {a : En}, okG prev ss → lastO ss = some a → ∀ s ∈ ss, (s.first : Int) ≤ a.idx
 | [], _, _, _, h, _, _ => by cases h
 | x :: r, prev, a, h, hl, s, hs => by
  obtain ⟨b, hb, hbi⟩ := h.1.last
  have hx := h.1.len
  by_cases hr : r = []
  ·subst hr
   have h1 : lastO [x] = x.es.getLast? := lastO_snoc [] x
   rw [h1, hb] at hl
   cases hl
   rw [List.mem_singleton] at hs
   rw [hs]
   omega
  ·have h1 : lastO (x :: r) = lastO r := by
    unfold lastO
    rw [List.getLast?_cons]
    cases hg : r.getLast? with
    | none => exact absurd (List.getLast?_eq_none_iff.1 hg) hr
    | some t => rfl
   rw [h1] at hl
   have h2 := h.2
   rw [hb] at h2
   rcases List.mem_cons.1 hs with hsx | hs
   ·obtain ⟨y, hy⟩ : ∃ y, y ∈ r := List.exists_mem_of_ne_nil r hr
    have h3 := okG_gt h2 y hy
    have h4 := okG_last_le h2 hl y hy
    rw [hsx]
    omega
   ·exact okG_last_le h2 hl s hs
theorem put_new {F : Fs} {n : Txt} (h : n ∉ keyS F) (b : Txt) : doF F (.app n b) = F ++ [(n, b)] := by
 have hg : getS F n = none := by
  unfold getS
  rw [Option.map_eq_none_iff, List.find?_eq_none]
  intro x hx
  rw [decide_eq_true_eq]
  intro e
  exact h (List.mem_map.2 ⟨x, hx, e⟩)
 show putS F n (fileD F n ++ b) = _
 unfold putS fileD
 rw [if_neg h, hg]
 rfl
theorem put_last {F : Fs} {n f : Txt} (h : n ∉ keyS F) (b : Txt) : doF (F ++ [(n, f)]) (.app n b) = F ++ [(n, f ++ b)] := by
 have hk : n ∈ keyS (F ++ [(n, f)]) := by
  unfold keyS
  rw [List.map_append]
  exact List.mem_append_right _ (List.mem_singleton.2 rfl)
 have hF : ∀ x ∈ F, x.1 ≠ n := fun x hx e => h (List.mem_map.2 ⟨x, hx, e⟩)
 have hg : getS (F ++ [(n, f)]) n = some f := by
  unfold getS
  rw [List.find?_append]
  have : F.find? (fun p => decide (p.1 = n)) = none := List.find?_eq_none.2 fun x hx => by rw [decide_eq_true_eq]; exact hF x hx
  rw [this]
  simp
 show putS (F ++ [(n, f)]) n (fileD (F ++ [(n, f)]) n ++ b) = _
 unfold putS fileD
 rw [if_pos hk, hg, List.map_append]
 congr 1
 ·conv => rhs; rw [← List.map_id F]
  refine List.map_congr_left fun x hx => ?_
  rw [if_neg (hF x hx)]
  rfl
 ·simp
theorem files_app (ss ts : List Sg) : filesG (ss ++ ts) = filesG ss ++ filesG ts := by
 unfold filesG
 rw [List.map_append]
theorem key_not {ss : List Sg} {n : Nat} (hn : n ≤ 72057594037927935) (hm : ∀ s ∈ ss, s.first ≤ 72057594037927935) (h : ∀ s ∈ ss, s.first ≠ n) : nameS n ∉ keyS (filesG ss) := by
 rw [keys_files]
 intro hk
 obtain ⟨s, hs, e⟩ := List.mem_map.1 hk
 exact h s hs (name_inj (hm s hs) hn e)
theorem step_files {ss : List Sg} {e : En} {lim : Int} {fr : Bool} (hok : okG none ss) (he : entS e) (hp : prevE (lastO ss) e) (hsm : ∀ s ∈ ss, s.it.length + 1 ≤ 1000000) (hf : freshG lim ss (frameS (layE e)).length = fr) : okG none (headG fr ss ++ [addS (tailG fr ss e) e]) ∧ doF (filesG ss) (.app (nameS (tailG fr ss e).first) (frameS (layE e))) = filesG (headG fr ss ++ [addS (tailG fr ss e) e]) ∧ listG (headG fr ss ++ [addS (tailG fr ss e) e]) = listG ss ++ [e] ∧ (∀ t, doF (filesG ss) (.app (nameS (tailG fr ss e).first) ((frameS (layE e)).take t)) = filesG (headG fr ss) ++ [(nameS (tailG fr ss e).first, fileS (tailG fr ss e) ++ (frameS (layE e)).take t)]) := by
 have hm := okG_num hok
 have h1 := (entS_kind he).2.2.2.2.2.1
 cases fr with
 | true =>
  have hn : nameS e.idx.toNat ∉ keyS (filesG ss) := by
   refine key_not (by omega) hm fun s hs => ?_
   cases hl : lastO ss with
   | none =>
    unfold lastO at hl
    cases hg : ss.getLast? with
    | none =>
     rw [List.getLast?_eq_none_iff.1 hg] at hs
     cases hs
    | some t =>
     rw [hg] at hl
     obtain ⟨init, rfl⟩ := List.getLast?_eq_some_iff.1 hg
     obtain ⟨a, ha, _⟩ := (okG_last.1 hok).2.last
     have hl' : t.es.getLast? = none := hl
     rw [ha] at hl'
     cases hl'
   | some a =>
    have h2 := okG_last_le hok hl s hs
    rw [hl] at hp
    have h3 : e.idx = a.idx + 1 := hp.1
    omega
  refine ⟨okG_last.2 ⟨hok, OkS.new he hp⟩, ?_, ?_, fun t => ?_⟩
  ·rw [put_new (n := nameS (tailG true ss e).first) hn]
   show _ = filesG (ss ++ [addS ⟨e.idx.toNat, []⟩ e])
   rw [files_app]
   show _ = filesG ss ++ [(nameS e.idx.toNat, fileS (addS ⟨e.idx.toNat, []⟩ e))]
   rw [fileS_add]
   rfl
  ·rw [listG_snoc, addS_es]
   rfl
  ·rw [put_new (n := nameS (tailG true ss e).first) hn]
   rfl
 | false =>
  have hne := freshG_ne hf
  have hs := headG_tailG (e := e) hne
  have hsok := hok
  rw [hs, okG_last] at hsok
  have hlast : lastO ss = (tailG false ss e).es.getLast? := by
   have := lastO_snoc (headG false ss) (tailG false ss e)
   rwa [← hs] at this
  rw [hlast] at hp
  have hpw := okG_pw hok
  rw [hs, List.pairwise_append] at hpw
  have hn : nameS (tailG false ss e).first ∉ keyS (filesG (headG false ss)) := by
   refine key_not (hm _ (tailG_mem hne)) (fun s h => hm s (headG_mem h)) fun s h => ?_
   have := hpw.2.2 s h _ (List.mem_singleton_self _)
   omega
  have hfe : filesG ss = filesG (headG false ss) ++ [(nameS (tailG false ss e).first, fileS (tailG false ss e))] := by
   have := files_app (headG false ss) [tailG false ss e]
   rw [← hs] at this
   exact this
  refine ⟨okG_last.2 ⟨hsok.1, hsok.2.add he hp (hsm _ (tailG_mem hne))⟩, ?_, ?_, fun t => ?_⟩
  ·rw [hfe, put_last hn, files_app]
   show _ = _ ++ [(nameS (addS (tailG false ss e) e).first, fileS (addS (tailG false ss e) e))]
   rw [fileS_add]
   rfl
  ·have h4 := listG_snoc (headG false ss) (tailG false ss e)
   rw [← hs] at h4
   rw [listG_snoc, addS_es, h4, List.append_assoc]
  ·rw [hfe, put_last hn]
def firstR (ss : List Sg) : Int := match ss.head? with
 | some s => (s.first : Int)
 | none => 0
structure OkW (prev : Option En) (s : Sg) : Prop where
 num : s.first ≤ 72057594037927935
 len : 0 < s.it.length
 seq : seqF prev s.first [] s.es
def okW : Option En → List Sg → Prop
 | _, [] => True
 | prev, s :: r => OkW prev s ∧ okW s.es.getLast? r
theorem okW_snoc {s : Sg} : ∀ {ss : List Sg} {prev : Option En}, okW prev (ss ++ [s]) ↔ okW prev ss ∧ OkW (match ss.getLast? with | none => prev | some t => t.es.getLast?) s
 | [], prev => ⟨fun h => ⟨trivial, h.1⟩, fun h => ⟨h.2, trivial⟩⟩
 | x :: r, prev => by
  rw [List.cons_append]
  have h := okW_snoc (s := s) (ss := r) (prev := x.es.getLast?)
  have e : (match (x :: r).getLast? with | none => prev | some t => t.es.getLast?) = (match r.getLast? with | none => x.es.getLast? | some t => t.es.getLast?) := by
   rw [List.getLast?_cons]
   cases r.getLast? <;> rfl
  rw [e]
  exact ⟨fun g => ⟨⟨g.1, (h.1 g.2).1⟩, (h.1 g.2).2⟩, fun g => ⟨g.1.1, h.2 ⟨g.1.2, g.2⟩⟩⟩
theorem okW_last {ss : List Sg} {s : Sg} : okW none (ss ++ [s]) ↔ okW none ss ∧ OkW (lastO ss) s := by
 rw [okW_snoc]
 unfold lastO
 cases ss.getLast? <;> exact Iff.rfl
theorem OkW.con {prev : Option En} {s : Sg} (h : OkW prev s) : conG s := by
 refine ⟨h.num, fun j e he => ?_⟩
 have := seqF_idx s.es [] h.seq (fun a h => by cases h) j e he
 simpa using this
theorem OkW.first {s : Sg} {a : En} (h : OkW (some a) s) : (s.first : Int) = a.idx + 1 := by
 have h1 := h.seq
 have h2 := h.len
 have hc := h.con.2 0
 rw [← Sg.es_len] at h2
 match hes : s.es, h1, h2 with
 | e :: es, h1, _ =>
  have h3 := h1.2.1
  have h4 := hc e (by rw [hes]; rfl)
  have h5 : e.idx = a.idx + 1 := h3.2.1
  have h6 : e.idx = (s.first : Int) := h3.1
  omega
theorem OkW.last {prev : Option En} {s : Sg} (h : OkW prev s) : ∃ a, s.es.getLast? = some a ∧ a.idx = (s.first : Int) + s.it.length - 1 := by
 have h2 := h.len
 refine ⟨_, getLast_len (by rw [Sg.es_len]; exact h2), ?_⟩
 have := h.con.2 (s.es.length - 1) _ (List.getElem?_eq_getElem (by rw [Sg.es_len]; omega))
 rw [this, Sg.es_len]
 omega
theorem okW_gt : ∀ {ss : List Sg} {a : En}, okW (some a) ss → ∀ s ∈ ss, a.idx < (s.first : Int)
 | [], _, _, s, hs => absurd hs List.not_mem_nil
 | x :: r, a, h, s, hs => by
  have h1 := h.1.first
  rcases List.mem_cons.1 hs with hs | hs
  ·rw [hs]; omega
  ·obtain ⟨b, hb, hbi⟩ := h.1.last
   have h2 := h.2
   rw [hb] at h2
   have := okW_gt h2 s hs
   have := h.1.len
   omega
theorem okW_pw : ∀ {ss : List Sg} {prev : Option En}, okW prev ss → ss.Pairwise (fun s t => s.first < t.first)
 | [], _, _ => List.Pairwise.nil
 | x :: r, _, h => by
  refine List.Pairwise.cons (fun t ht => ?_) (okW_pw h.2)
  obtain ⟨b, hb, hbi⟩ := h.1.last
  have h2 := h.2
  rw [hb] at h2
  have := okW_gt h2 t ht
  have := h.1.len
  omega
theorem okW_mem : ∀ {ss : List Sg} {prev : Option En}, okW prev ss → ∀ s ∈ ss, ∃ p, OkW p s
 | [], _, _, s, hs => absurd hs List.not_mem_nil
 | x :: r, prev, h, s, hs => by
  rcases List.mem_cons.1 hs with hs | hs
  ·exact ⟨prev, hs ▸ h.1⟩
  ·exact okW_mem h.2 s hs
theorem okW.sgs {ss : List Sg} {prev : Option En} (h : okW prev ss) : sgsOk ss := fun s hs => by
 obtain ⟨p, hp⟩ := okW_mem h s hs
 exact ⟨hp.len, seqF_ent hp.seq⟩
theorem okW.con {ss : List Sg} {prev : Option En} (h : okW prev ss) : ∀ s ∈ ss, conG s := fun s hs => by
 obtain ⟨p, hp⟩ := okW_mem h s hs
 exact hp.con
theorem okW.first {ss : List Sg} (h : okW none ss) : firstR ss = firstG ss := by
 match ss, h with
 | [], _ => rfl
 | s :: r, h =>
  have h2 := h.1.len
  have hc := h.1.con.2 0
  rw [← Sg.es_len] at h2
  show (s.first : Int) = (match s.es.head? with | some e => e.idx | none => 0)
  match hes : s.es, h2 with
  | e :: es, _ =>
   have := hc e (by rw [hes]; rfl)
   show (s.first : Int) = e.idx
   omega
theorem goF_is {prev : Option En} {f : Nat} : ∀ (fs : List Txt) (it : List (En × Nat)), seqF prev f [] (it.map Prod.fst) → 8 * it.length ≤ (it.map Prod.snd).sum → seqF prev f [] ((goF prev f fs it).1.map Prod.fst) ∧ ((goF prev f fs it).1.map Prod.snd).sum ≤ (it.map Prod.snd).sum + endS fs ∧ 8 * (goF prev f fs it).1.length ≤ ((goF prev f fs it).1.map Prod.snd).sum
 | [], it, h, h8 => ⟨h, by show _ ≤ _ + 0; exact Nat.le_refl _, h8⟩
 | r :: rs, it, h, h8 => by
  have hends : endS (r :: rs) = 8 + r.length + endS rs := by simp [endS]
  cases hr : readE r with
  | none =>
   rw [goF_none hr]
   exact ⟨h, Nat.le_add_right _ _, h8⟩
  | some e =>
   by_cases hf : fitS prev f (it.map Prod.fst) e
   ·rw [goF_some hr hf]
    have hs : (((it ++ [(e, 8 + r.length)]).map Prod.snd).sum) = (it.map Prod.snd).sum + (8 + r.length) := by
     rw [List.map_append, List.sum_append]
     simp
    obtain ⟨g1, g2, g3⟩ := goF_is (prev := prev) (f := f) rs (it ++ [(e, 8 + r.length)]) (by
     rw [List.map_append]
     exact seqF_snoc.2 ⟨h, readE_ok hr, by rw [List.nil_append]; exact hf⟩) (by
     rw [hs, List.length_append, List.length_singleton]
     omega)
    refine ⟨g1, ?_, g3⟩
    rw [hs] at g2
    omega
   ·rw [goF_no hr hf]
    exact ⟨h, Nat.le_add_right _ _, h8⟩
theorem readF_is (prev : Option En) (f : Nat) (b : Txt) : seqF prev f [] ((readF prev f b).1.map Prod.fst) ∧ ((readF prev f b).1.map Prod.snd).sum ≤ b.length ∧ 8 * (readF prev f b).1.length ≤ b.length := by
 obtain ⟨h1, h2, h3⟩ := goF_is (prev := prev) (f := f) (framesF b.length b) [] trivial (Nat.le_refl _)
 have h4 := framesF_end b.length b
 have h5 : ((([] : List (En × Nat)).map Prod.snd).sum) = 0 := rfl
 rw [h5] at h2
 refine ⟨h1, ?_, ?_⟩
 ·show ((goF prev f (framesF b.length b) []).1.map Prod.snd).sum ≤ _
  omega
 ·show 8 * (goF prev f (framesF b.length b) []).1.length ≤ _
  omega
def bdW (n : Nat) (ss : List Sg) : Prop := ∀ s ∈ ss, s.it.length ≤ 131072 + n ∧ s.size ≤ 1048576 + 167 * n
theorem bdW.snoc {n : Nat} {ss : List Sg} {s : Sg} (h : bdW n ss) (h1 : s.it.length ≤ 131072 + n) (h2 : s.size ≤ 1048576 + 167 * n) : bdW n (ss ++ [s]) := by
 intro x hx
 rcases List.mem_append.1 hx with hx | hx
 ·exact h x hx
 ·rw [List.mem_singleton] at hx
  subst hx
  exact ⟨h1, h2⟩
theorem bdW.nil {n : Nat} : bdW n [] := fun s h => absurd h List.not_mem_nil
theorem openG_is {d : Dk} (hd : d.ok) : ∀ (ns : List Nat) (acc : List Sg), (∀ n ∈ ns, n ≤ 72057594037927935) → okW none acc → bdW 0 acc → okW none (openG d ns acc).2.2 ∧ bdW 0 (openG d ns acc).2.2 ∧ (openG d ns acc).2.2.length ≤ acc.length + ns.length
 | [], acc, _, h, hb => ⟨h, hb, Nat.le_refl _⟩
 | n :: ns, acc, hn, h, hb => by
  obtain ⟨r1, r2, r3⟩ := readF_is (lastO acc) n ((readD d (nameS n)).getD [])
  have hl := readD_len hd (nameS n)
  have hnn := hn n (List.mem_cons_self ..)
  rw [openG]
  generalize readF (lastO acc) n ((readD d (nameS n)).getD []) = z at r1 r2 r3
  obtain ⟨it, fine⟩ := z
  dsimp only at r1 r2 r3 ⊢
  have key : okW none (if 0 < it.length then acc ++ [⟨n, it⟩] else acc) ∧ bdW 0 (if 0 < it.length then acc ++ [⟨n, it⟩] else acc) ∧ (if 0 < it.length then acc ++ [⟨n, it⟩] else acc).length ≤ acc.length + 1 := by
   split
   ·rename_i h0
    refine ⟨okW_last.2 ⟨h, ⟨hnn, h0, r1⟩⟩, hb.snoc (by show it.length ≤ _; omega) (by show (it.map Prod.snd).sum ≤ _; omega), ?_⟩
    rw [List.length_append]
    exact Nat.le_refl _
   ·exact ⟨h, hb, Nat.le_succ _⟩
  obtain ⟨k1, k2, k3⟩ := key
  split
  ·obtain ⟨g1, g2, g3⟩ := openG_is hd ns _ (fun m hm => hn m (List.mem_cons_of_mem _ hm)) k1 k2
   refine ⟨g1, g2, ?_⟩
   rw [List.length_cons]
   omega
  ·split
   ·exact ⟨trivial, bdW.nil, Nat.zero_le _⟩
   ·refine ⟨k1, k2, ?_⟩
    rw [List.length_cons]
    dsimp only
    omega
theorem openS_is {d : Dk} (hd : d.ok) : okW none (openS d).2.2 ∧ bdW 0 (openS d).2.2 ∧ (openS d).2.2.length ≤ d.now.length := by
 obtain ⟨h1, h2, h3⟩ := openG_is hd (numsF (namesD d.down d.now)) [] numsF_ok trivial bdW.nil
 refine ⟨h1, h2, Nat.le_trans h3 ?_⟩
 rw [List.length_nil, Nat.zero_add]
 exact Nat.le_trans (numsF_len _) namesD_len
theorem list_bd {n : Nat} : ∀ {ss : List Sg}, bdW n ss → (listG ss).length ≤ (131072 + n) * ss.length
 | [], _ => Nat.zero_le _
 | s :: r, h => by
  have h1 := (h s (List.mem_cons_self ..)).1
  have h2 := list_bd (fun x hx => h x (List.mem_cons_of_mem _ hx) : bdW n r)
  have e : listG (s :: r) = s.es ++ listG r := rfl
  rw [e, List.length_append, Sg.es_len, List.length_cons, Nat.mul_succ]
  omega
theorem sumF_snoc (F : Fs) (n f : Txt) : sumF (F ++ [(n, f)]) = sumF F + f.length := by
 unfold sumF
 rw [List.map_append, List.sum_append]
 simp
theorem sumF_step {ss : List Sg} {e : En} {lim : Int} {fr : Bool} (hf : freshG lim ss (frameS (layE e)).length = fr) : sumF (filesG (headG fr ss ++ [addS (tailG fr ss e) e])) = sumF (filesG ss) + (frameS (layE e)).length := by
 have h1 : filesG (headG fr ss ++ [addS (tailG fr ss e) e]) = filesG (headG fr ss) ++ [((nameS (addS (tailG fr ss e) e).first, fileS (addS (tailG fr ss e) e)))] := files_app _ _
 rw [h1, sumF_snoc, fileS_add, List.length_append]
 cases fr with
 | true =>
  show sumF (filesG ss) + ([].length + _) = _
  rw [List.length_nil]
  omega
 | false =>
  have hs := headG_tailG (e := e) (freshG_ne hf)
  have h2 := files_app (headG false ss) [tailG false ss e]
  rw [← hs] at h2
  have h3 : sumF (filesG ss) = sumF (filesG (headG false ss)) + (fileS (tailG false ss e)).length := by
   rw [h2]
   exact sumF_snoc _ _ _
  omega
theorem lastO_next {ss : List Sg} {e : En} {fr : Bool} : lastO (headG fr ss ++ [addS (tailG fr ss e) e]) = some e := by
 rw [lastO_snoc, addS_es, List.getLast?_append]
 rfl
theorem folE_go {prev : Option En} {e : En} {es : List En} (h : folE prev (e :: es)) : entS e ∧ prevE prev e ∧ folE (some e) es := h
theorem appE_ok {d : Dk} {ss : List Sg} {n b : Txt} (h : LogD d ss) (hn : n.length = 16) (hl : ss.length < 64) (hr : ((sumF d.now + b.length : Nat) : Int) ≤ d.room) : appE d n b = 0 := by
 have h2 : namedB n = true := by
  unfold namedB
  rw [hn]
  rfl
 have h3 : d.now.length = ss.length := by rw [h.now]; exact List.length_map ..
 unfold appE
 rw [if_neg h.go.stop, if_neg (by rw [h2]; decide), if_neg (by omega)]
structure LogR (d : Dk) (ss : List Sg) (k : Nat) : Prop where
 log : LogD d ss
 its : ∀ s ∈ ss, s.it.length + k ≤ 1000000
 num : ss.length + k ≤ 64
 room : ((sumF d.now + 167 * k : Nat) : Int) ≤ d.room
theorem LogR.step {d : Dk} {ss : List Sg} {k : Nat} {e : En} {lim : Int} (h : LogR d ss (k + 1)) (he : entS e) (hp : prevE (lastO ss) e) : appE d (nameS (tailG (freshG lim ss (frameS (layE e)).length) ss e).first) (frameS (layE e)) = 0 ∧ LogR (opD 0 d (.app (nameS (tailG (freshG lim ss (frameS (layE e)).length) ss e).first) (frameS (layE e)))) (headG (freshG lim ss (frameS (layE e)).length) ss ++ [addS (tailG (freshG lim ss (frameS (layE e)).length) ss e) e]) k := by
 generalize hf : freshG lim ss (frameS (layE e)).length = fr
 have hz := layF_len he
 obtain ⟨h1, h2, h3, h4⟩ := step_files (lim := lim) h.log.ok he hp (fun s hs => by have := h.its s hs; omega) hf
 have hsum := sumF_step hf
 have hnum : (tailG fr ss e).first ≤ 72057594037927935 := okG_num h1 (addS (tailG fr ss e) e) (List.mem_append_right _ (List.mem_singleton_self _))
 have hr := h.room
 have hn := h.num
 have hno : (opD 0 d (.app (nameS (tailG fr ss e).first) (frameS (layE e)))).now = filesG (headG fr ss ++ [addS (tailG fr ss e) e]) := by
  rw [h.log.go.now, h.log.now, h2]
 refine ⟨appE_ok h.log (nameS_len hnum) (by omega) (by omega), ⟨h.log.go.op', hno, h1⟩, ?_, ?_, ?_⟩
 ·intro s hs
  rcases List.mem_append.1 hs with hs | hs
  ·have := h.its s (headG_mem hs)
   omega
  ·rw [List.mem_singleton] at hs
   rw [hs, addS_len]
   cases fr with
   | true =>
    show 0 + 1 + k ≤ 1000000
    omega
   | false =>
    have := h.its _ (tailG_mem (e := e) (freshG_ne hf))
    omega
 ·have := next_len (ss := ss) (e := e) hf
  omega
 ·rw [hno, hsum, ← h.log.now, show (opD 0 d (.app (nameS (tailG fr ss e).first) (frameS (layE e)))).room = d.room by rw [h.log.go.op]]
  omega
theorem appL_all {lim : Int} : ∀ (es : List En) (d : Dk) (ss : List Sg) (k : Nat), LogR d ss (k + es.length) → folE (lastO ss) es → ∃ d' ss', appL d lim ss es = (0, d', ss') ∧ LogR d' ss' k ∧ listG ss' = listG ss ++ es ∧ d'.ps.length = d.ps.length + es.length ∧ d'.S = d.S ∧ d'.room = d.room
 | [], d, ss, k, h, _ => ⟨d, ss, rfl, h, by rw [List.append_nil], rfl, rfl, rfl⟩
 | e :: es, d, ss, k, h, hfo => by
  obtain ⟨he, hp, hr⟩ := folE_go hfo
  rw [List.length_cons, show k + (es.length + 1) = k + es.length + 1 by omega] at h
  obtain ⟨h1, h2⟩ := h.step (lim := lim) he hp
  obtain ⟨d', ss', g1, g2, g3, g4, g5, g6⟩ := appL_all (lim := lim) es _ _ k h2 (by rw [lastO_next]; exact hr)
  have hst := (step_files (lim := lim) h.log.ok he hp (fun s hs => by have := h.its s hs; omega) rfl).2.2.1
  refine ⟨d', ss', ?_, g2, ?_, ?_, ?_, ?_⟩
  ·rw [appL, if_neg (fun g => g h1)]
   exact g1
  ·rw [g3, hst, List.append_assoc]
   rfl
  ·rw [g4, h.log.go.op, List.length_cons]
   show (d.ps ++ [_]).length + _ = _
   rw [List.length_append, List.length_singleton]
   omega
  ·rw [g5, h.log.go.op]
  ·rw [g6, h.log.go.op]
theorem LogR.less {d : Dk} {ss : List Sg} {k j : Nat} (h : LogR d ss k) (hj : j ≤ k) : LogR d ss j :=
 ⟨h.log, fun s hs => by have := h.its s hs; omega, by have := h.num; omega, by have := h.room; omega⟩
theorem LogR.new : LogR (newD 1048576) [] 64 := by
 refine ⟨⟨⟨rfl, rfl⟩, rfl, trivial⟩, fun s hs => absurd hs List.not_mem_nil, Nat.le_refl _, ?_⟩
 show ((sumF [] + 167 * 64 : Nat) : Int) ≤ 1048576
 decide
theorem get_last {F : Fs} {n f : Txt} (h : n ∉ keyS F) : getS (F ++ [(n, f)]) n = some f := by
 have hF : ∀ x ∈ F, x.1 ≠ n := fun x hx e => h (List.mem_map.2 ⟨x, hx, e⟩)
 unfold getS
 rw [List.find?_append]
 have : F.find? (fun p => decide (p.1 = n)) = none := List.find?_eq_none.2 fun x hx => by rw [decide_eq_true_eq]; exact hF x hx
 rw [this]
 simp
theorem del_last {F : Fs} {n f : Txt} (h : n ∉ keyS F) : delS (F ++ [(n, f)]) n = F := by
 have hF : ∀ x ∈ F, x.1 ≠ n := fun x hx e => h (List.mem_map.2 ⟨x, hx, e⟩)
 unfold delS
 rw [List.filter_append, List.filter_eq_self.2 (fun x hx => by rw [decide_eq_true_eq]; exact hF x hx)]
 simp
theorem trc_last {F : Fs} {n f : Txt} (h : n ∉ keyS F) (k : Nat) : doF (F ++ [(n, f)]) (.trc n k) = F ++ [(n, f.take k)] := by
 have hk : n ∈ keyS (F ++ [(n, f)]) := by
  unfold keyS
  rw [List.map_append]
  exact List.mem_append_right _ (List.mem_singleton.2 rfl)
 have hF : ∀ x ∈ F, x.1 ≠ n := fun x hx e => h (List.mem_map.2 ⟨x, hx, e⟩)
 show putS (F ++ [(n, f)]) n ((fileD (F ++ [(n, f)]) n).take k) = _
 unfold putS fileD
 rw [if_pos hk, get_last h, List.map_append]
 congr 1
 ·conv => rhs; rw [← List.map_id F]
  refine List.map_congr_left fun x hx => ?_
  rw [if_neg (hF x hx)]
  rfl
 ·simp
theorem last_key {ss : List Sg} {s : Sg} (h : okG none (ss ++ [s])) : nameS s.first ∉ keyS (filesG ss) ∧ filesG (ss ++ [s]) = filesG ss ++ [(nameS s.first, fileS s)] := by
 have hpw := okG_pw h
 have hm := okG_num h
 rw [List.pairwise_append] at hpw
 refine ⟨key_not (hm s (List.mem_append_right _ (List.mem_singleton_self _))) (fun x hx => hm x (List.mem_append_left _ hx)) fun x hx => ?_, files_app ss [s]⟩
 have := hpw.2.2 x hx s (List.mem_singleton_self _)
 omega
theorem OkS.idx_ge {prev : Option En} {s : Sg} (h : OkS prev s) : ∀ e ∈ s.es, (s.first : Int) ≤ e.idx := by
 intro e he
 obtain ⟨j, hj⟩ := List.mem_iff_getElem?.1 he
 have := h.con.2 j e hj
 omega
def CutS (i : Int) (es es' : List En) : Prop := ∃ X, es = es' ++ X ∧ (∀ e ∈ es', e.idx < i) ∧ ∀ e ∈ X, i ≤ e.idx
theorem cutR_all {i : Int} : ∀ (r : List Sg) (d : Dk), LogD d r.reverse → ∃ d' r' X, cutR d i r = (0, d', r') ∧ LogD d' r'.reverse ∧ listG r.reverse = listG r'.reverse ++ X ∧ (∀ e ∈ X, i ≤ e.idx) ∧ (∀ s ∈ r'.head?, (s.first : Int) < i) ∧ d'.room = d.room ∧ sumF d'.now ≤ sumF d.now ∧ d'.ps.length ≤ d.ps.length + r.length ∧ ∀ s ∈ r', s ∈ r
 | [], d, h => ⟨d, [], [], rfl, h, rfl, fun e he => absurd he List.not_mem_nil, fun s hs => (by cases hs), rfl, Nat.le_refl _, Nat.le_refl _, fun s hs => hs⟩
 | s :: r, d, h => by
  by_cases hi : i ≤ (s.first : Int)
  ·have hok := h.ok
   rw [List.reverse_cons] at hok
   obtain ⟨hk1, hk2⟩ := last_key hok
   have hnow := h.now
   rw [List.reverse_cons, hk2] at hnow
   have hr : remE d (nameS s.first) = 0 := by
    unfold remE
    rw [if_neg h.go.stop, hnow, get_last hk1]
    rfl
   have hno : (opD 0 d (.rem (nameS s.first))).now = filesG r.reverse := by
    rw [h.go.now, hnow]
    exact del_last hk1
   obtain ⟨d', r', X, g1, g2, g3, g4, g5, g6, g7, g8, g9⟩ := cutR_all (i := i) r (opD 0 d (.rem (nameS s.first))) ⟨h.go.op', hno, (okG_last.1 hok).1⟩
   refine ⟨d', r', X ++ s.es, ?_, g2, ?_, ?_, g5, ?_, ?_, ?_, fun x hx => List.mem_cons_of_mem _ (g9 x hx)⟩
   ·rw [cutR, if_pos hi, if_neg (fun g => g hr)]
    exact g1
   ·rw [List.reverse_cons, listG_snoc, g3, List.append_assoc]
   ·intro e he
    rcases List.mem_append.1 he with he | he
    ·exact g4 e he
    ·have := (okG_last.1 hok).2.idx_ge e he
     omega
   ·rw [g6, h.go.op]
   ·rw [hno] at g7
    rw [hnow, sumF_snoc]
    omega
   ·rw [h.go.op] at g8
    have h9 : (d.ps ++ [De.rem (nameS s.first)]).length = d.ps.length + 1 := by rw [List.length_append]; rfl
    rw [List.length_cons]
    exact Nat.le_trans g8 (by rw [h9]; omega)
  ·refine ⟨d, s :: r, [], ?_, h, by rw [List.append_nil], fun e he => absurd he List.not_mem_nil, ?_, rfl, Nat.le_refl _, by rw [List.length_cons]; omega, fun s hs => hs⟩
   ·rw [cutR, if_neg hi]
   ·intro x hx
    cases hx
    omega
theorem seqF_take {prev : Option En} {f : Nat} : ∀ {es acc : List En} (k : Nat), seqF prev f acc es → seqF prev f acc (es.take k)
 | [], _, k, _ => by rw [List.take_nil]; trivial
 | _ :: _, _, 0, _ => trivial
 | x :: es, acc, k + 1, h => ⟨h.1, h.2.1, seqF_take k h.2.2⟩
theorem OkS.take {prev : Option En} {s : Sg} {k : Nat} (h : OkS prev s) (hk : 0 < k) (hk2 : k ≤ s.it.length) : OkS prev ⟨s.first, s.it.take k⟩ := by
 have he : (⟨s.first, s.it.take k⟩ : Sg).es = s.es.take k := List.map_take
 refine ⟨h.num, ?_, ?_, ?_, ?_⟩
 ·show 0 < (s.it.take k).length
  rw [List.length_take]
  omega
 ·rw [he, List.map_take, ← h.it]
 ·rw [he]
  exact seqF_take k h.seq
 ·show (s.it.take k).length ≤ 1000000
  have := h.room
  rw [List.length_take]
  omega
theorem cat_app (a b : List Txt) : cat (a ++ b) = cat a ++ cat b := by simp [cat]
theorem fileS_take {prev : Option En} {s : Sg} {k : Nat} (h : OkS prev s) (hk : 0 < k) (hk2 : k ≤ s.it.length) : (fileS s).take (⟨s.first, s.it.take k⟩ : Sg).size = fileS ⟨s.first, s.it.take k⟩ ∧ (⟨s.first, s.it.take k⟩ : Sg).size ≤ (fileS s).length := by
 have h1 := (h.take hk hk2).zsum
 have he : (⟨s.first, s.it.take k⟩ : Sg).es = s.es.take k := List.map_take
 have h2 : fileS s = fileS ⟨s.first, s.it.take k⟩ ++ cat ((s.es.drop k).map layE) := by
  unfold fileS
  rw [he, ← cat_app, ← List.map_append, List.take_append_drop]
 have h3 : (⟨s.first, s.it.take k⟩ : Sg).size = (fileS ⟨s.first, s.it.take k⟩).length := h1
 rw [h3, h2]
 exact ⟨List.take_left, by rw [List.length_append]; omega⟩
theorem cutR_len {i : Int} : ∀ {r : List Sg} {d : Dk} {e : Int} {d' : Dk} {r' : List Sg}, cutR d i r = (e, d', r') → r'.length ≤ r.length
 | [], _, _, _, _, h => by cases h; exact Nat.le_refl _
 | s :: r, d, e, d', r', h => by
  rw [cutR] at h
  split at h
  ·split at h
   ·cases h; exact Nat.le_refl _
   ·have := cutR_len h
    rw [List.length_cons]
    omega
  ·cases h; exact Nat.le_refl _
theorem okG_idx_le {ss : List Sg} {prev : Option En} {a : En} (h : okG prev ss) (hl : lastO ss = some a) : ∀ e ∈ listG ss, e.idx ≤ a.idx := by
 induction ss generalizing prev with
 | nil => intro e he; cases he
 | cons x r ih =>
  obtain ⟨b, hb, hbi⟩ := h.1.last
  intro e he
  have hx : ∀ e ∈ x.es, e.idx ≤ b.idx := by
   intro e he
   obtain ⟨j, hj⟩ := List.mem_iff_getElem?.1 he
   have h1 := h.1.con.2 j e hj
   have h2 := (List.getElem?_eq_some_iff.1 hj).1
   rw [Sg.es_len] at h2
   omega
  have he2 : e ∈ x.es ++ listG r := he
  by_cases hr : r = []
  ·subst hr
   have h1 : lastO [x] = x.es.getLast? := lastO_snoc [] x
   rw [h1, hb] at hl
   cases hl
   rcases List.mem_append.1 he2 with g | g
   ·exact hx e g
   ·cases g
  ·have h1 : lastO (x :: r) = lastO r := by
    unfold lastO
    rw [List.getLast?_cons]
    cases hg : r.getLast? with
    | none => exact absurd (List.getLast?_eq_none_iff.1 hg) hr
    | some t => rfl
   rw [h1] at hl
   have h2 := h.2
   rcases List.mem_append.1 he2 with g | g
   ·obtain ⟨y, hy⟩ : ∃ y, y ∈ r := List.exists_mem_of_ne_nil r hr
    rw [hb] at h2
    have h3 := okG_gt h2 y hy
    have h4 := okG_last_le h2 hl y hy
    have := hx e g
    omega
   ·exact ih h2 hl e g
theorem cutG_all {i : Int} {ss : List Sg} {d : Dk} (h : LogD d ss) : ∃ d' ss', cutG d ss i = (0, d', ss') ∧ LogD d' ss' ∧ CutS i (listG ss) (listG ss') ∧ d'.room = d.room ∧ sumF d'.now ≤ sumF d.now ∧ d'.ps.length ≤ d.ps.length + ss.length + 1 ∧ ss'.length ≤ ss.length := by
 have h0 := h
 rw [← List.reverse_reverse ss] at h0
 obtain ⟨d1, r1, X, g1, g2, g3, g4, g5, g6, g7, g8, g9⟩ := cutR_all (i := i) ss.reverse d h0
 rw [List.reverse_reverse] at g3
 rw [List.length_reverse] at g8
 have hlen1 : r1.length ≤ ss.length := by
  have h1 := cutR_len g1
  rw [List.length_reverse] at h1
  exact h1
 unfold cutG
 rw [g1]
 dsimp only
 rw [if_neg (fun g => g rfl)]
 match r1, g2, g3, g5, hlen1 with
 | [], g2, g3, g5, hlen1 =>
  exact ⟨d1, [], rfl, g2, ⟨X, g3, fun e he => absurd he List.not_mem_nil, g4⟩, g6, g7, by omega, Nat.zero_le _⟩
 | s :: r, g2, g3, g5, hlen1 =>
  have hsf : (s.first : Int) < i := g5 s rfl
  have hok := g2.ok
  rw [List.reverse_cons] at hok
  obtain ⟨hk1, hk2⟩ := last_key hok
  obtain ⟨hokr, hoks⟩ := okG_last.1 hok
  obtain ⟨a, ha, hai⟩ := hoks.last
  have hl0 := hoks.len
  have hlow : ∀ e ∈ listG r.reverse, e.idx < i := by
   intro e he
   obtain ⟨t, ht, het⟩ := List.mem_flatMap.1 he
   obtain ⟨j, hj⟩ := List.mem_iff_getElem?.1 het
   have hpw := okG_pw hok
   rw [List.pairwise_append] at hpw
   cases hlo : lastO r.reverse with
   | none =>
    exfalso
    unfold lastO at hlo
    cases hg : r.reverse.getLast? with
    | none =>
     rw [List.getLast?_eq_none_iff.1 hg] at ht
     cases ht
    | some u =>
     rw [hg] at hlo
     obtain ⟨init, hin⟩ := List.getLast?_eq_some_iff.1 hg
     rw [hin] at hokr
     obtain ⟨b, hb, _⟩ := (okG_last.1 hokr).2.last
     have hlo' : u.es.getLast? = none := hlo
     rw [hb] at hlo'
     cases hlo'
   | some b =>
    rw [hlo] at hoks
    have h1 := hoks.first
    have h2 := okG_idx_le hokr hlo e he
    omega
  by_cases hlt : a.idx < i
  ·have hT : cutT d1 i (s :: r) = (0, d1, s :: r) := by
    rw [cutT, ha]
    exact if_pos hlt
   rw [hT]
   refine ⟨d1, (s :: r).reverse, rfl, g2, ⟨X, g3, fun e he => ?_, g4⟩, g6, g7, by omega, by rw [List.length_reverse]; exact hlen1⟩
   rw [List.reverse_cons, listG_snoc] at he
   rcases List.mem_append.1 he with he | he
   ·exact hlow e he
   ·obtain ⟨j, hj⟩ := List.mem_iff_getElem?.1 he
    have h1 := hoks.con.2 j e hj
    have h2 := (List.getElem?_eq_some_iff.1 hj).1
    rw [Sg.es_len] at h2
    omega
  ·obtain ⟨k, hk⟩ : ∃ k : Nat, (k : Int) = i - s.first := ⟨(i - s.first).toNat, by omega⟩
   have hkp : 0 < k ∧ k ≤ s.it.length := by omega
   have hks : keepS i s = ⟨s.first, s.it.take k⟩ := by
    unfold keepS
    rw [← hk, Int.toNat_natCast]
   obtain ⟨f1, f2⟩ := fileS_take hoks hkp.1 hkp.2
   have hnow := g2.now
   rw [List.reverse_cons, hk2] at hnow
   have htr : trcE d1 (nameS s.first) ((⟨s.first, s.it.take k⟩ : Sg).size : Int) = 0 := by
    unfold trcE
    rw [if_neg g2.go.stop, hnow, get_last hk1, if_neg (by simp), if_neg]
    unfold fileD
    rw [get_last hk1, Option.getD_some]
    omega
   have hT : cutT d1 i (s :: r) = (0, opD 0 d1 (.trc (nameS s.first) (⟨s.first, s.it.take k⟩ : Sg).size), ⟨s.first, s.it.take k⟩ :: r) := by
    rw [cutT, ha, hks, htr]
    exact if_neg hlt
   rw [hT]
   dsimp only
   have hno : (opD 0 d1 (.trc (nameS s.first) (⟨s.first, s.it.take k⟩ : Sg).size)).now = filesG (r.reverse ++ [⟨s.first, s.it.take k⟩]) := by
    rw [g2.go.now, hnow, trc_last hk1, f1, files_app]
    rfl
   refine ⟨_, (⟨s.first, s.it.take k⟩ :: r).reverse, rfl, ⟨g2.go.op', ?_, ?_⟩, ⟨s.es.drop k ++ X, ?_, fun e he => ?_, fun e he => ?_⟩, ?_, ?_, ?_, ?_⟩
   ·rw [List.reverse_cons]
    exact hno
   ·rw [List.reverse_cons]
    exact okG_last.2 ⟨hokr, hoks.take hkp.1 hkp.2⟩
   ·rw [g3, List.reverse_cons, List.reverse_cons, listG_snoc, listG_snoc, show (⟨s.first, s.it.take k⟩ : Sg).es = s.es.take k from List.map_take, List.append_assoc, List.append_assoc, ← List.append_assoc (s.es.take k), List.take_append_drop]
   ·rw [List.reverse_cons, listG_snoc] at he
    rcases List.mem_append.1 he with he | he
    ·exact hlow e he
    ·rw [show (⟨s.first, s.it.take k⟩ : Sg).es = s.es.take k from List.map_take] at he
     obtain ⟨j, hj⟩ := List.mem_iff_getElem?.1 he
     rw [List.getElem?_take] at hj
     split at hj
     ·have h1 := hoks.con.2 j e hj
      omega
     ·cases hj
   ·rcases List.mem_append.1 he with he | he
    ·obtain ⟨j, hj⟩ := List.mem_iff_getElem?.1 he
     rw [List.getElem?_drop] at hj
     have h1 := hoks.con.2 (k + j) e hj
     omega
    ·exact g4 e he
   ·rw [← g6, g2.go.op]
   ·rw [hno, files_app]
    have h1 : sumF d1.now = sumF (filesG r.reverse) + (fileS s).length := by rw [hnow, sumF_snoc]
    have h2 : sumF (filesG r.reverse ++ filesG [⟨s.first, s.it.take k⟩]) = sumF (filesG r.reverse) + (fileS ⟨s.first, s.it.take k⟩).length := sumF_snoc _ _ _
    have h3 : (fileS ⟨s.first, s.it.take k⟩).length ≤ (fileS s).length := by
     rw [← f1, List.length_take]
     omega
    omega
   ·rw [g2.go.op]
    show (d1.ps ++ [_]).length ≤ _
    rw [List.length_append, List.length_singleton]
    omega
   ·rw [List.length_reverse]
    exact hlen1
end Go.Sx
end
section
namespace Go.Sx
open Go Go.Proofs Go.RowKit
attribute [local irreducible] C R Fin K Own OwnT Rd Pl Ok KOf RetOk OpsOf RP KP Res NoPanic KV KE MapS ItS EntS FsO FsR RowD PlD DkO RT KT OneT RS KS OneS SgO
variable {M M' : Mem} {H H1 H2 : Hp}
theorem mem_listG {ss : List Sg} {s : Sg} (h : s ∈ ss) : s.it.length ≤ (listG ss).length := by
 induction ss with
 | nil => cases h
 | cons x r ih =>
  have e : (listG (x :: r)).length = x.es.length + (listG r).length := by
   show (x.es ++ listG r).length = _
   rw [List.length_append]
  rw [e, Sg.es_len]
  rcases List.mem_cons.1 h with h | h
  ·rw [h]; omega
  ·have := ih h
   omega
theorem len_listG : ∀ {ss : List Sg} {prev : Option En}, okG prev ss → ss.length ≤ (listG ss).length
 | [], _, _ => Nat.zero_le _
 | x :: r, _, h => by
  have e : (listG (x :: r)).length = x.es.length + (listG r).length := by
   show (x.es ++ listG r).length = _
   rw [List.length_append]
  have h1 := len_listG h.2
  have h2 := h.1.len
  rw [e, Sg.es_len, List.length_cons]
  omega
structure LogE (d : Dk) (ss : List Sg) (es : List En) (k : Nat) : Prop where
 log : LogD d ss
 list : listG ss = es
 num : es.length + k ≤ 64
 room : ((sumF d.now + 167 * k : Nat) : Int) ≤ d.room
 deeds : d.ps.length + k ≤ 50000
theorem LogE.logR {d : Dk} {ss : List Sg} {es : List En} {k : Nat} (h : LogE d ss es k) : LogR d ss k := by
 have h1 := h.num
 refine ⟨h.log, fun s hs => ?_, ?_, h.room⟩
 ·have := mem_listG hs
  rw [h.list] at this
  omega
 ·have := len_listG h.log.ok
  rw [h.list] at this
  omega
theorem LogE.sgs {d : Dk} {ss : List Sg} {es : List En} {k : Nat} (h : LogE d ss es k) : sgsOk ss := by
 have : ∀ {ss : List Sg} {prev : Option En}, okG prev ss → sgsOk ss := by
  intro ss
  induction ss with
  | nil => intro _ _ s hs; cases hs
  | cons x r ih =>
   intro prev g s hs
   rcases List.mem_cons.1 hs with hs | hs
   ·rw [hs]; exact ⟨g.1.len, g.1.ents⟩
   ·exact ih g.2 s hs
 exact this h.log.ok
theorem okG_con : ∀ {ss : List Sg} {prev : Option En}, okG prev ss → ∀ s ∈ ss, conG s ∧ s.size ≤ 167000000 ∧ s.it.length ≤ 1000000
 | [], _, _, s, hs => absurd hs List.not_mem_nil
 | x :: r, _, h, s, hs => by
  rcases List.mem_cons.1 hs with hs | hs
  ·rw [hs]
   have h1 := h.1.zsum
   have h2 := h.1.file_len
   exact ⟨h.1.con, by show (x.it.map Prod.snd).sum ≤ _; omega, h.1.room⟩
  ·exact okG_con h.2 s hs
theorem LogE.new : LogE (newD 1048576) [] [] 64 := ⟨LogR.new.log, rfl, by decide, LogR.new.room, by decide⟩
theorem LogE.less {d : Dk} {ss : List Sg} {es : List En} {k j : Nat} (h : LogE d ss es k) (hj : j ≤ k) : LogE d ss es j :=
 ⟨h.log, h.list, by have := h.num; omega, by have := h.room; omega, by have := h.deeds; omega⟩
theorem LogE.now_len {d : Dk} {ss : List Sg} {es : List En} {k : Nat} (h : LogE d ss es k) : d.now.length ≤ 64 := by
 have h1 := len_listG h.log.ok
 have h2 := h.num
 rw [h.list] at h1
 rw [h.log.now]
 unfold filesG
 rw [List.length_map]
 omega
theorem sopen_L {db : Nat} {d : Dk} {lim : Int} {hp : Hp} {ss : List Sg} {es : List En} {k : Nat} (hl : 64 ≤ lim ∧ lim ≤ 16384) (h : LogE d ss es k) (ho : DkO M db d hp) : K Tryz.prog 12 [.pointer (some ⟨db, 0, none⟩), .int .i64 lim] M (hp ++ H) fun v' M' H' => M.le M' ∧ ∃ lb hL hp', v' = .tuple #[.pointer (some ⟨lb, 0, none⟩), .int .i64 0] ∧ DkO M' db d hp' ∧ SgO M' lb db lim ss hL ∧ H' = hL ++ (hp' ++ H) := by
 have hd := h.deeds
 have hn := h.now_len
 refine (sopen_K hl ho (by omega) (by omega)).mono ?_
 rw [h.log.open_]
 rintro v' M' H' ⟨hM, hp', h1, h2⟩
 refine ⟨hM, ?_⟩
 rcases h2 with ⟨h2, _⟩ | ⟨_, lb, hL, h3, h4, h5⟩
 ·exact absurd rfl h2
 ·exact ⟨lb, hL, hp', h3, h1, h4, h5⟩
theorem sappend_L {lb db : Nat} {lim : Int} {d : Dk} {ss : List Sg} {v : Value} {fs es : List En} {hL hp : Hp} {k : Nat} (hl : 64 ≤ lim ∧ lim ≤ 16384) (h : LogE d ss es (k + fs.length)) (hf : folE (lastO ss) fs) (hg : SgO M lb db lim ss hL) (he : EnL M v fs) (ho : DkO M db d hp) : K Tryz.prog 29 [.pointer (some ⟨lb, 0, none⟩), v] M (hL ++ (hp ++ H)) fun v' M' H' => v' = .int .i64 0 ∧ M.le M' ∧ ∃ d' ss' hL' hp', LogE d' ss' (es ++ fs) k ∧ d'.S = d.S ∧ d'.ps.length = d.ps.length + fs.length ∧ SgO M' lb db lim ss' hL' ∧ DkO M' db d' hp' ∧ H' = hL' ++ (hp' ++ H) := by
 have hnum := h.num
 have hd := h.deeds
 have hsl := len_listG h.log.ok
 rw [h.list] at hsl
 have hA : appG d lim ss fs = appL d lim ss fs := if_pos hf
 obtain ⟨d', ss', g1, g2, g3, g4, g5, g6⟩ := appL_all (lim := lim) fs d ss k h.logR hf
 refine (sappend_K hl hg h.sgs he ho (by omega) (by omega) (by omega) ?_).mono ?_
 ·intro s hs
  have := okG_con h.log.ok s hs
  exact ⟨this.1.1, by omega⟩
 ·rw [hA, g1]
  rintro v' M' H' ⟨h1, hM, hL', hp', h2, h3, h4⟩
  refine ⟨h1, hM, d', ss', hL', hp', ⟨g2.log, by rw [g3, h.list], ?_, g2.room, by omega⟩, g5, g4, h2, h3, h4⟩
  rw [List.length_append]
  omega
theorem scut_L {lb db : Nat} {lim : Int} {d : Dk} {ss : List Sg} {i : Int} {es : List En} {hL hp : Hp} {k : Nat} (hi : 0 ≤ i ∧ i ≤ 18446744073709551615) (h : LogE d ss es k) (hdl : d.ps.length + k + 65 ≤ 50000) (hg : SgO M lb db lim ss hL) (ho : DkO M db d hp) : K Tryz.prog 31 [.pointer (some ⟨lb, 0, none⟩), .int .u64 i] M (hL ++ (hp ++ H)) fun v' M' H' => v' = .int .i64 0 ∧ M.le M' ∧ ∃ d' ss' es' hL' hp', LogE d' ss' es' k ∧ CutS i es es' ∧ d'.ps.length ≤ d.ps.length + 65 ∧ SgO M' lb db lim ss' hL' ∧ DkO M' db d' hp' ∧ H' = hL' ++ (hp' ++ H) := by
 have hnum := h.num
 have hd := h.deeds
 have hr := h.room
 have hsl := len_listG h.log.ok
 rw [h.list] at hsl
 obtain ⟨d', ss', g1, g2, g3, g4, g5, g6, g7⟩ := cutG_all (i := i) h.log
 rw [h.list] at g3
 refine (scut_K hi hg h.sgs (fun s hs => (okG_con h.log.ok s hs).1) (fun s hs => by have := (okG_con h.log.ok s hs).2.2; omega) ho (by omega)).mono ?_
 rw [g1]
 rintro v' M' H' ⟨h1, hM, hL', hp', h2, h3, h4⟩
 have hle : (listG ss').length ≤ es.length := by
  obtain ⟨X, e1, _⟩ := g3
  rw [e1, List.length_append]
  omega
 exact ⟨h1, hM, d', ss', listG ss', hL', hp', ⟨g2, rfl, by omega, by omega, by omega⟩, g3, by omega, h2, h3, h4⟩
theorem slist_L {lb db : Nat} {lim : Int} {d : Dk} {ss : List Sg} {es : List En} {k : Nat} {hL : Hp} (h : LogE d ss es k) (hg : SgO M lb db lim ss hL) : K Tryz.prog 34 [.pointer (some ⟨lb, 0, none⟩)] M (hL ++ H) fun v' M' H' => EnL M' v' es ∧ M.le M' ∧ H' = hL ++ H := by
 have hn := h.num
 have := slist_KL (H1 := H) hg h.sgs (by rw [h.list]; omega) (Arr.all _)
 rw [h.list] at this
 exact this
theorem seqF_none {prev : Option En} {f : Nat} : ∀ {es acc : List En}, seqF prev f acc es → seqF none f acc es
 | [], _, _ => trivial
 | e :: es, acc, h => by
  refine ⟨h.1, ?_, seqF_none h.2.2⟩
  have h1 := h.2.1
  unfold fitS at h1 ⊢
  cases hl : acc.getLast? with
  | none =>
   rw [hl] at h1
   exact ⟨h1.1, trivial⟩
  | some a =>
   rw [hl] at h1
   exact h1
theorem OkS.none_ {prev : Option En} {s : Sg} (h : OkS prev s) : OkS none s := ⟨h.num, h.len, h.it, seqF_none h.seq, h.room⟩
end Go.Sx
end
section
namespace Go.Sx
open Go Go.Proofs Go.RowKit
def szD (d : Dk) : Nat := d.S.length + d.ps.length
theorem putS_length {α : Type} (l : List (Txt × α)) (n : Txt) (v : α) : (putS l n v).length ≤ l.length + 1 := by
 unfold putS
 split
 ·rw [List.length_map]; omega
 ·rw [List.length_append]; exact Nat.le_refl _
theorem doF_length (F : Fs) (x : De) : (doF F x).length ≤ F.length + 1 := by
 cases x with
 | app n b => exact putS_length _ _ _
 | trc n k => exact putS_length _ _ _
 | ren n t => exact Nat.le_trans (putS_length _ _ _) (Nat.succ_le_succ (List.length_filter_le _ _))
 | rem n => exact Nat.le_trans (List.length_filter_le _ _) (Nat.le_succ _)
theorem fold_length : ∀ (ps : List De) (F : Fs), (ps.foldl doF F).length ≤ F.length + ps.length
 | [], _ => Nat.le_refl _
 | x :: ps, F => by
  have h1 := fold_length ps (doF F x)
  have h2 := doF_length F x
  rw [List.foldl_cons, List.length_cons]
  omega
theorem now_sz (d : Dk) : d.now.length ≤ szD d := fold_length _ _
theorem cntD_sz (d : Dk) : szD (cntD d) = szD d := by
 unfold szD
 rw [cntD_S, cntD_ps]
theorem opD_sz (d : Dk) (e : Int) (x : De) : szD (opD e d x) ≤ szD d + 1 := by
 unfold opD
 split
 ·show (cntD d).S.length + (d.ps ++ [x]).length ≤ _
  rw [cntD_S, List.length_append]
  exact Nat.le_refl _
 ·rw [cntD_sz]
  omega
theorem synD_sz (d : Dk) : szD (synD d) ≤ szD d := by
 unfold synD
 split
 ·rw [cntD_sz]; exact Nat.le_refl _
 ·exact now_sz d
theorem torn_length (F : Fs) (x : De) (torn : Int) : (tornF F x torn).length ≤ F.length + 1 := by
 cases x with
 | app n b =>
  unfold tornF
  dsimp only
  split
  ·exact doF_length _ _
  ·omega
 | trc n k => exact Nat.le_succ _
 | ren n t => exact Nat.le_succ _
 | rem n => exact Nat.le_succ _
theorem crash_sz (d : Dk) (keep torn : Int) : szD (crashD d keep torn) ≤ szD d := by
 have hk : keepD d keep ≤ d.ps.length := by
  unfold keepD
  have h1 : keep % ((d.ps.length + 1 : Nat) : Int) < ((d.ps.length + 1 : Nat) : Int) := Int.emod_lt_of_pos _ (by omega)
  omega
 show (crashF d keep torn).length + 0 ≤ d.S.length + d.ps.length
 have h1 := fold_length (d.ps.take (keepD d keep)) d.S
 rw [List.length_take] at h1
 unfold crashF
 split
 ·rename_i x hx
  have hlt := (List.getElem?_eq_some_iff.1 hx).1
  have h2 := torn_length ((d.ps.take (keepD d keep)).foldl doF d.S) x torn
  omega
 ·omega
theorem ps_sz (d : Dk) : d.ps.length ≤ szD d := Nat.le_add_left _ _
def ndD (d : Dk) : Prop := (keyS d.now).Nodup
theorem opW_now (d : Dk) (x : De) : (opD 0 d x).now = doF d.now x := by
 unfold opD
 rw [if_pos rfl]
 show (d.ps ++ [x]).foldl doF (cntD d).S = _
 rw [cntD_S, List.foldl_append]
 rfl
theorem opW_nd {d : Dk} {x : De} (h : ndD d) : ndD (opD 0 d x) := by
 unfold ndD
 rw [opW_now]
 exact doF_keys h
theorem fileD_app {F : Fs} {n b m : Txt} (hn : (keyS F).Nodup) : fileD (doF F (.app n b)) m = if m = n then fileD F n ++ b else fileD F m := by
 show fileD (putS F n (fileD F n ++ b)) m = _
 by_cases h : m = n
 ·rw [if_pos h, h, fileD_put hn]
 ·rw [if_neg h]
  unfold fileD
  rw [getS_put_ne hn h]
theorem fileD_trc {F : Fs} {n m : Txt} {k : Nat} (hn : (keyS F).Nodup) : fileD (doF F (.trc n k)) m = if m = n then (fileD F n).take k else fileD F m := by
 show fileD (putS F n ((fileD F n).take k)) m = _
 by_cases h : m = n
 ·rw [if_pos h, h, fileD_put hn]
 ·rw [if_neg h]
  unfold fileD
  rw [getS_put_ne hn h]
theorem fileD_rem {F : Fs} {n m : Txt} (h : m ≠ n) : fileD (doF F (.rem n)) m = fileD F m := by
 unfold fileD
 rw [show doF F (.rem n) = delS F n from rfl, getS_del_ne h]
def fitW (F : Fs) (ss : List Sg) : Prop := ∀ s ∈ ss, s.size ≤ (fileD F (nameS s.first)).length
structure InvW (n : Nat) (d : Dk) (ss : List Sg) : Prop where
 ok : okW none ss
 bd : bdW n ss
 fit : fitW d.now ss
theorem bdW.mono {n m : Nat} {ss : List Sg} (h : bdW n ss) (hm : n ≤ m) : bdW m ss := fun s hs => by
 have := h s hs
 omega
theorem InvW.mono {n m : Nat} {d : Dk} {ss : List Sg} (h : InvW n d ss) (hm : n ≤ m) : InvW m d ss := ⟨h.ok, h.bd.mono hm, h.fit⟩
theorem OkW.add {prev : Option En} {s : Sg} {e : En} (h : OkW prev s) (he : entS e) (hf : prevE s.es.getLast? e) : OkW prev (addS s e) := by
 refine ⟨h.num, by rw [addS_len]; exact Nat.zero_lt_succ _, ?_⟩
 rw [addS_es]
 show seqF prev s.first [] (s.es ++ [e])
 refine seqF_snoc.2 ⟨h.seq, he, ?_⟩
 obtain ⟨a, ha, _⟩ := h.last
 unfold fitS
 rw [List.nil_append, ha]
 rw [ha] at hf
 exact hf
theorem OkW.new {prev : Option En} {e : En} (he : entS e) (hf : prevE prev e) : OkW prev (addS ⟨e.idx.toNat, []⟩ e) := by
 have h := OkS.new he hf
 exact ⟨h.num, h.len, h.seq⟩
theorem step_W {lim : Int} {ss : List Sg} {e : En} {fr : Bool} (h : okW none ss) (he : entS e) (hp : prevE (lastO ss) e) (hf : freshG lim ss (frameS (layE e)).length = fr) : okW none (headG fr ss ++ [addS (tailG fr ss e) e]) := by
 cases fr with
 | true => exact okW_last.2 ⟨h, OkW.new he hp⟩
 | false =>
  have hs := headG_tailG (e := e) (freshG_ne hf)
  have h' := h
  rw [hs] at h'
  obtain ⟨h1, h2⟩ := okW_last.1 h'
  refine okW_last.2 ⟨h1, h2.add he ?_⟩
  rw [hs, lastO_snoc] at hp
  exact hp
theorem step_bd {lim : Int} {ss : List Sg} {e : En} {fr : Bool} {n : Nat} (h : bdW n ss) (he : entS e) (hf : freshG lim ss (frameS (layE e)).length = fr) : bdW (n + 1) (headG fr ss ++ [addS (tailG fr ss e) e]) := by
 have hz := layF_len he
 intro x hx
 rcases List.mem_append.1 hx with hx | hx
 ·have := h x (headG_mem hx)
  omega
 ·rw [List.mem_singleton] at hx
  rw [hx, addS_len, addS_size]
  cases fr with
  | true =>
   show 0 + 1 ≤ _ ∧ ([] : List Nat).sum + _ ≤ _
   simp
   omega
  | false =>
   have := h _ (tailG_mem (e := e) (freshG_ne hf))
   omega
theorem step_fit {lim : Int} {ss : List Sg} {e : En} {fr : Bool} {d : Dk} (hn : ndD d) (h : fitW d.now ss) (hf : freshG lim ss (frameS (layE e)).length = fr) : fitW (opD 0 d (.app (nameS (tailG fr ss e).first) (frameS (layE e)))).now (headG fr ss ++ [addS (tailG fr ss e) e]) := by
 intro x hx
 rw [opW_now, fileD_app hn]
 rcases List.mem_append.1 hx with hx | hx
 ·have h1 := h x (headG_mem hx)
  split
  ·rename_i h2
   rw [← h2, List.length_append]
   omega
  ·exact h1
 ·rw [List.mem_singleton] at hx
  rw [hx, addS_size, if_pos (show nameS (addS (tailG fr ss e) e).first = nameS (tailG fr ss e).first from rfl), List.length_append]
  cases fr with
  | true =>
   show ([] : List Nat).sum + _ ≤ _
   simp
  | false =>
   have := h _ (tailG_mem (e := e) (freshG_ne hf))
   omega
theorem appE_ne {d : Dk} {f : Nat} {b : Txt} (h : f ≤ 72057594037927935) : appE d (nameS f) b ≠ 1 := by
 have h2 : namedB (nameS f) = true := by
  unfold namedB
  rw [nameS_len h]
  rfl
 unfold appE
 rw [h2]
 split
 ·decide
 ·rw [if_neg (by decide)]
  split <;> decide
theorem appL_W {lim : Int} : ∀ (es : List En) (d : Dk) (ss : List Sg) (n : Nat), InvW n d ss → ndD d → folE (lastO ss) es → (appL d lim ss es).1 ≠ 1 ∧ ((appL d lim ss es).1 = 0 → InvW (n + es.length) (appL d lim ss es).2.1 (appL d lim ss es).2.2 ∧ (appL d lim ss es).2.2.length ≤ ss.length + es.length)
 | [], d, ss, n, h, _, _ => ⟨by show (0 : Int) ≠ 1; decide, fun _ => ⟨h, Nat.le_refl _⟩⟩
 | e :: es, d, ss, n, h, hn, hfo => by
  obtain ⟨he, hp, hr⟩ := folE_go hfo
  generalize hf : freshG lim ss (frameS (layE e)).length = fr
  have h1 := step_W h.ok he hp hf
  have h2 := step_bd h.bd he hf
  have h3 := step_fit hn h.fit hf
  have h4 := next_len (ss := ss) (e := e) hf
  have hnum : (tailG fr ss e).first ≤ 72057594037927935 := (okW.con h1 (addS (tailG fr ss e) e) (List.mem_append_right _ (List.mem_singleton_self _))).1
  have hne := appE_ne (d := d) (b := frameS (layE e)) hnum
  rw [appL, hf]
  split
  ·rename_i hq
   exact ⟨hne, fun h0 => absurd h0 hq⟩
  ·obtain ⟨g1, g2⟩ := appL_W (lim := lim) es _ _ (n + 1) ⟨h1, h2, h3⟩ (opW_nd hn) (by rw [lastO_next]; exact hr)
   refine ⟨g1, fun h0 => ?_⟩
   obtain ⟨g3, g4⟩ := g2 h0
   refine ⟨g3.mono (by rw [List.length_cons]; omega), ?_⟩
   rw [List.length_cons]
   omega
theorem okW_ne {ss : List Sg} {s : Sg} (h : okW none (ss ++ [s])) : ∀ x ∈ ss, nameS x.first ≠ nameS s.first := by
 intro x hx e
 have h1 := (List.pairwise_append.1 (okW_pw h)).2.2 x hx s (List.mem_singleton_self _)
 have h2 := (okW.con h x (List.mem_append_left _ hx)).1
 have h3 := (okW.con h s (List.mem_append_right _ (List.mem_singleton_self _))).1
 have := name_inj h2 h3 e
 omega
theorem fit_rem {d : Dk} {ss : List Sg} {n : Txt} (h : fitW d.now ss) (hn : ∀ x ∈ ss, nameS x.first ≠ n) : fitW (opD 0 d (.rem n)).now ss := by
 intro x hx
 rw [opW_now, fileD_rem (hn x hx)]
 exact h x hx
theorem remE_ne (d : Dk) (n : Txt) : remE d n ≠ 1 := by
 unfold remE
 split
 ·decide
 ·split <;> decide
theorem cutR_W {i : Int} {n : Nat} : ∀ (r : List Sg) (d : Dk), InvW n d r.reverse → ndD d → (cutR d i r).1 ≠ 1 ∧ ((cutR d i r).1 = 0 → InvW n (cutR d i r).2.1 (cutR d i r).2.2.reverse ∧ ndD (cutR d i r).2.1 ∧ (∀ s ∈ (cutR d i r).2.2.head?, (s.first : Int) < i) ∧ (cutR d i r).2.2.length ≤ r.length)
 | [], d, h, hn => ⟨by show (0 : Int) ≠ 1; decide, fun _ => ⟨h, hn, fun s hs => (by cases hs), Nat.le_refl _⟩⟩
 | s :: r, d, h, hn => by
  have hok := h.ok
  have hbd := h.bd
  have hft := h.fit
  rw [List.reverse_cons] at hok hbd hft
  rw [cutR]
  split
  ·split
   ·rename_i hq
    exact ⟨remE_ne _ _, fun h0 => absurd h0 hq⟩
   ·obtain ⟨g1, g2⟩ := cutR_W (i := i) (n := n) r (opD 0 d (.rem (nameS s.first))) ⟨(okW_last.1 hok).1, fun x hx => hbd x (List.mem_append_left _ hx), fit_rem (fun x hx => hft x (List.mem_append_left _ hx)) (okW_ne hok)⟩ (opW_nd hn)
    refine ⟨g1, fun h0 => ?_⟩
    obtain ⟨a1, a2, a3, a4⟩ := g2 h0
    exact ⟨a1, a2, a3, by rw [List.length_cons]; omega⟩
  ·rename_i hi
   refine ⟨by show (0 : Int) ≠ 1; decide, fun _ => ⟨h, hn, ?_, Nat.le_refl _⟩⟩
   intro x hx
   cases hx
   omega
theorem sum_take (l : List Nat) (k : Nat) : (l.take k).sum ≤ l.sum := by
 conv => rhs; rw [← List.take_append_drop k l, List.sum_append]
 omega
theorem keepS_size (i : Int) (s : Sg) : (keepS i s).size ≤ s.size := by
 show ((s.it.take (i - s.first).toNat).map Prod.snd).sum ≤ (s.it.map Prod.snd).sum
 rw [List.map_take]
 exact sum_take _ _
theorem OkW.keep {prev : Option En} {s : Sg} {i : Int} (h : OkW prev s) (hi : (s.first : Int) < i) : OkW prev (keepS i s) := by
 have he : (keepS i s).es = s.es.take (i - s.first).toNat := List.map_take
 refine ⟨h.num, ?_, ?_⟩
 ·show 0 < (s.it.take (i - s.first).toNat).length
  have := h.len
  rw [List.length_take]
  omega
 ·rw [he]
  exact seqF_take _ h.seq
theorem cutT_W {i : Int} {n : Nat} {d : Dk} {r : List Sg} (h : InvW n d r.reverse) (hn : ndD d) (hh : ∀ s ∈ r.head?, (s.first : Int) < i) : (cutT d i r).1 ≠ 1 ∧ ((cutT d i r).1 = 0 → InvW n (cutT d i r).2.1 (cutT d i r).2.2.reverse ∧ (cutT d i r).2.2.length ≤ r.length) := by
 match r, h, hh with
 | [], h, _ => exact ⟨by show (0 : Int) ≠ 1; decide, fun _ => ⟨h, Nat.le_refl _⟩⟩
 | s :: r, h, hh =>
  have hi := hh s rfl
  have hok := h.ok
  have hbd := h.bd
  have hft := h.fit
  rw [List.reverse_cons] at hok hbd hft
  have hs : s ∈ r.reverse ++ [s] := List.mem_append_right _ (List.mem_singleton_self _)
  have hfs := hft s hs
  have hks := keepS_size i s
  have e0 : cutT d i (s :: r) = if lastI s < i then (0, d, s :: r) else (trcE d (nameS s.first) ((keepS i s).size : Int), opD (trcE d (nameS s.first) ((keepS i s).size : Int)) d (.trc (nameS s.first) (keepS i s).size), keepS i s :: r) := rfl
  rw [e0]
  split
  ·exact ⟨by show (0 : Int) ≠ 1; decide, fun _ => ⟨h, Nat.le_refl _⟩⟩
  ·refine ⟨?_, fun h0 => ⟨⟨?_, ?_, ?_⟩, Nat.le_refl _⟩⟩
   ·show trcE d (nameS s.first) ((keepS i s).size : Int) ≠ 1
    unfold trcE
    split
    ·decide
    ·split
     ·decide
     ·rw [if_neg (by omega)]
      decide
   ·rw [List.reverse_cons]
    obtain ⟨a1, a2⟩ := okW_last.1 hok
    exact okW_last.2 ⟨a1, a2.keep hi⟩
   ·rw [List.reverse_cons]
    intro x hx
    rcases List.mem_append.1 hx with hx | hx
    ·exact hbd x (List.mem_append_left _ hx)
    ·rw [List.mem_singleton] at hx
     have := hbd s hs
     rw [hx]
     refine ⟨?_, by omega⟩
     show (s.it.take _).length ≤ _
     rw [List.length_take]
     omega
   ·have h1 : trcE d (nameS s.first) ((keepS i s).size : Int) = 0 := h0
    rw [h1, List.reverse_cons]
    intro x hx
    rw [opW_now, fileD_trc hn]
    rcases List.mem_append.1 hx with hx | hx
    ·rw [if_neg (okW_ne hok x hx)]
     exact hft x (List.mem_append_left _ hx)
    ·rw [List.mem_singleton] at hx
     rw [hx, if_pos (show nameS (keepS i s).first = nameS s.first from rfl), List.length_take]
     omega
theorem cutG_W {i : Int} {n : Nat} {d : Dk} {ss : List Sg} (h : InvW n d ss) (hn : ndD d) : (cutG d ss i).1 ≠ 1 ∧ ((cutG d ss i).1 = 0 → InvW n (cutG d ss i).2.1 (cutG d ss i).2.2 ∧ (cutG d ss i).2.2.length ≤ ss.length) := by
 obtain ⟨g1, g2⟩ := cutR_W (i := i) (n := n) ss.reverse d (by rw [List.reverse_reverse]; exact h) hn
 rw [List.length_reverse] at g2
 unfold cutG
 split
 ·rename_i hq
  exact ⟨g1, fun h0 => absurd h0 hq⟩
 ·rename_i hq
  obtain ⟨a1, a2, a3, a4⟩ := g2 (Decidable.not_not.1 hq)
  obtain ⟨b1, b2⟩ := cutT_W (i := i) a1 a2 a3
  refine ⟨b1, fun h0 => ?_⟩
  obtain ⟨c1, c2⟩ := b2 h0
  refine ⟨c1, ?_⟩
  rw [List.length_reverse]
  omega
theorem OkW.none_ {prev : Option En} {s : Sg} (h : OkW prev s) : OkW none s := ⟨h.num, h.len, seqF_none h.seq⟩
theorem okW_none {prev : Option En} : ∀ {ss : List Sg}, okW prev ss → okW none ss
 | [], _ => trivial
 | _ :: _, h => ⟨h.1.none_, h.2⟩
theorem okW_hd {r : List Sg} {s : Sg} (h : okW none (s :: r)) : ∀ x ∈ r, nameS x.first ≠ nameS s.first := by
 intro x hx e
 have h1 := (List.pairwise_cons.1 (okW_pw h)).1 x hx
 have h2 := (okW.con h x (List.mem_cons_of_mem _ hx)).1
 have h3 := (okW.con h s (List.mem_cons_self ..)).1
 have := name_inj h2 h3 e
 omega
theorem dropG_W {i : Int} {n : Nat} : ∀ (ss : List Sg) (d : Dk), InvW n d ss → (dropG d i ss).1 ≠ 1 ∧ ((dropG d i ss).1 = 0 → InvW n (dropG d i ss).2.1 (dropG d i ss).2.2 ∧ (dropG d i ss).2.2.length ≤ ss.length)
 | [], d, h => ⟨by show (0 : Int) ≠ 1; decide, fun _ => ⟨h, Nat.le_refl _⟩⟩
 | s :: r, d, h => by
  rw [dropG]
  split
  ·split
   ·rename_i hq
    exact ⟨remE_ne _ _, fun h0 => absurd h0 hq⟩
   ·obtain ⟨g1, g2⟩ := dropG_W (i := i) (n := n) r (opD 0 d (.rem (nameS s.first))) ⟨okW_none h.ok.2, fun x hx => h.bd x (List.mem_cons_of_mem _ hx), fit_rem (fun x hx => h.fit x (List.mem_cons_of_mem _ hx)) (okW_hd h.ok)⟩
    refine ⟨g1, fun h0 => ?_⟩
    obtain ⟨a1, a2⟩ := g2 h0
    exact ⟨a1, by rw [List.length_cons]; omega⟩
  ·exact ⟨by show (0 : Int) ≠ 1; decide, fun _ => ⟨h, Nat.le_refl _⟩⟩
theorem mendR_fit : ∀ (ns : List Nat) (d : Dk), ndD d → (mendR d ns).1 = 0 → ndD (mendR d ns).2 ∧ ∀ m, (∀ n ∈ ns, m ≠ nameS n) → fileD (mendR d ns).2.now m = fileD d.now m
 | [], d, hn, _ => ⟨hn, fun _ _ => rfl⟩
 | n :: ns, d, hn, h0 => by
  rw [mendR] at h0 ⊢
  split
  ·rename_i hq
   rw [if_pos hq] at h0
   exact absurd h0 hq
  ·rename_i hq
   rw [if_neg hq] at h0
   obtain ⟨g1, g2⟩ := mendR_fit ns (opD 0 d (.rem (nameS n))) (opW_nd hn) h0
   refine ⟨g1, fun m hm => ?_⟩
   rw [g2 m (fun k hk => hm k (List.mem_cons_of_mem _ hk)), opW_now, fileD_rem (hm n (List.mem_cons_self ..))]
theorem openG_fit {d : Dk} (hd : ndD d) : ∀ (ns : List Nat) (acc : List Sg), (∀ n ∈ ns, n ≤ 72057594037927935) → ns.Nodup → (∀ s ∈ acc, s.first ≤ 72057594037927935 ∧ s.first ∉ ns) → fitW d.now acc → (openG d ns acc).1 = 0 → fitW (openG d ns acc).2.1.now (openG d ns acc).2.2
 | [], acc, _, _, _, hf, _ => hf
 | n :: ns, acc, hm, hnd, ha, hf, h0 => by
  have hnn := hm n (List.mem_cons_self ..)
  obtain ⟨hn1, hn2⟩ := List.nodup_cons.1 hnd
  obtain ⟨_, r2, _⟩ := readF_is (lastO acc) n ((readD d (nameS n)).getD [])
  have hrd : ((readD d (nameS n)).getD []).length ≤ (fileD d.now (nameS n)).length := by
   unfold readD
   split
   ·exact Nat.zero_le _
   ·exact Nat.le_refl _
  rw [openG] at h0 ⊢
  generalize readF (lastO acc) n ((readD d (nameS n)).getD []) = z at r2 h0 ⊢
  obtain ⟨it, fine⟩ := z
  dsimp only at r2 h0 ⊢
  have hfit : fitW d.now (if 0 < it.length then acc ++ [⟨n, it⟩] else acc) := by
   split
   ·intro x hx
    rcases List.mem_append.1 hx with hx | hx
    ·exact hf x hx
    ·rw [List.mem_singleton] at hx
     rw [hx]
     show (it.map Prod.snd).sum ≤ (fileD d.now (nameS n)).length
     omega
   ·exact hf
  split
  ·rename_i hfi
   rw [if_pos hfi] at h0
   refine openG_fit hd ns _ (fun m h => hm m (List.mem_cons_of_mem _ h)) hn2 ?_ hfit h0
   split
   ·intro x hx
    rcases List.mem_append.1 hx with hx | hx
    ·exact ⟨(ha x hx).1, fun h => (ha x hx).2 (List.mem_cons_of_mem _ h)⟩
    ·rw [List.mem_singleton] at hx
     rw [hx]
     exact ⟨hnn, hn1⟩
   ·exact fun x hx => ⟨(ha x hx).1, fun h => (ha x hx).2 (List.mem_cons_of_mem _ h)⟩
  ·rename_i hfi
   rw [if_neg hfi] at h0
   split
   ·intro x hx
    exact absurd hx List.not_mem_nil
   ·rename_i hq
    have hq' := Decidable.not_not.1 hq
    unfold mendD at hq' ⊢
    rw [List.tail_cons] at hq' ⊢
    split at hq'
    ·rename_i h1
     exact absurd hq' h1
    ·rename_i h1
     rw [if_neg h1]
     obtain ⟨k1, k2⟩ := mendR_fit ns.reverse d hd (Decidable.not_not.1 h1)
     generalize (mendR d ns.reverse).2 = d2 at k1 k2 hq' ⊢
     have hacc : ∀ x ∈ acc, nameS x.first ≠ nameS n ∧ x.size ≤ (fileD d2.now (nameS x.first)).length := by
      intro x hx
      obtain ⟨b1, b2⟩ := ha x hx
      refine ⟨fun e => b2 (by rw [name_inj b1 hnn e]; exact List.mem_cons_self ..), ?_⟩
      rw [k2 _ (fun m hm2 e => b2 (by rw [name_inj b1 (hm m (List.mem_cons_of_mem _ (List.mem_reverse.1 hm2))) e]; exact List.mem_cons_of_mem _ (List.mem_reverse.1 hm2)))]
      exact hf x hx
     unfold mendE at hq' ⊢
     split
     ·rename_i hl
      rw [if_pos hl] at hq'
      dsimp only at hq' ⊢
      rw [if_neg (by omega), hq']
      intro x hx
      rw [opW_now, fileD_rem (hacc x hx).1]
      exact (hacc x hx).2
     ·rename_i hl
      rw [if_neg hl] at hq'
      dsimp only at hq' ⊢
      rw [if_pos (by omega), hq']
      intro x hx
      rw [opW_now, fileD_trc k1]
      rcases List.mem_append.1 hx with hx | hx
      ·rw [if_neg (hacc x hx).1]
       exact (hacc x hx).2
      ·rw [List.mem_singleton] at hx
       rw [hx, if_pos (show nameS (⟨n, it⟩ : Sg).first = nameS n from rfl), List.length_take]
       show (it.map Prod.snd).sum ≤ min (it.map Prod.snd).sum (fileD d2.now (nameS n)).length
       rw [k2 _ (fun m hm2 e => hn1 (by rw [name_inj hnn (hm m (List.mem_cons_of_mem _ (List.mem_reverse.1 hm2))) e]; exact List.mem_reverse.1 hm2))]
       omega
theorem numsF_nodup : ∀ {l : List Txt}, l.Nodup → (numsF l).Nodup
 | [], _ => List.Pairwise.nil
 | t :: l, h => by
  obtain ⟨h1, h2⟩ := List.nodup_cons.1 h
  have ih := numsF_nodup h2
  unfold numsF at ih ⊢
  rw [List.filterMap_cons]
  split
  ·exact ih
  ·rename_i n hn
   refine List.nodup_cons.2 ⟨fun hm => h1 ?_, ih⟩
   obtain ⟨u, hu, hun⟩ := List.mem_filterMap.1 hm
   have e1 := (numO_some hn).1
   have e2 := (numO_some hun).1
   rw [← e1, e2]
   exact hu
theorem namesD_nodup {d : Dk} (h : ndD d) : (namesD d.down d.now).Nodup := by
 unfold namesD
 split
 ·exact List.Pairwise.nil
 ·exact (List.mergeSort_perm _ _).nodup_iff.2 h
theorem openS_W {d : Dk} (hd : d.ok) (hn : ndD d) (h0 : (openS d).1 = 0) : InvW 0 (openS d).2.1 (openS d).2.2 := by
 obtain ⟨h1, h2, _⟩ := openS_is hd
 exact ⟨h1, h2, openG_fit hn _ [] numsF_ok (numsF_nodup (namesD_nodup hn)) (fun s hs => absurd hs List.not_mem_nil) (fun s hs => absurd hs List.not_mem_nil) h0⟩
end Go.Sx
end
section
namespace Go.Sx
open Go Go.Proofs Go.RowKit
attribute [local irreducible] C R Fin K Own OwnT Rd Pl Ok KOf RetOk OpsOf RP KP Res NoPanic KV KE MapS ItS EntS RT KT OneT RS KS OneS
variable {M M' : Mem} {H H1 H2 : Hp}
def begA : Nat → List Nat → List Nat
 | _, [] => []
 | a, z :: zs => a :: begA (a + z) zs
theorem begA_snoc : ∀ (zs : List Nat) (a z : Nat), begA a (zs ++ [z]) = begA a zs ++ [a + zs.sum]
 | [], a, z => by simp [begA]
 | y :: zs, a, z => by
  rw [List.cons_append, begA, begA_snoc zs, begA, List.sum_cons, List.cons_append, Nat.add_assoc]
theorem begA_take : ∀ (zs : List Nat) (a k : Nat), (begA a zs).take k = begA a (zs.take k)
 | [], _, k => by simp [begA]
 | z :: zs, a, 0 => rfl
 | z :: zs, a, k + 1 => by rw [begA, List.take_succ_cons, begA_take zs, List.take_succ_cons, begA]
theorem begA_get : ∀ (zs : List Nat) (a k : Nat), k < zs.length → (begA a zs)[k]? = some (a + (zs.take k).sum)
 | [], _, k, h => absurd h (Nat.not_lt_zero _)
 | z :: zs, a, 0, _ => by simp [begA]
 | z :: zs, a, k + 1, h => by
  rw [begA, List.getElem?_cons_succ, begA_get zs (a + z) k (Nat.lt_of_succ_lt_succ h), List.take_succ_cons, List.sum_cons, Nat.add_assoc]
def PrO (M : Mem) (p : PtV) : Prop := OwnP M p.lv p.s.es p.lh ∧ OwnT 3 1 p.ev p.s.it.length (endC (begA 0 p.s.zs)) p.eh
theorem PrO.mono {p : PtV} (hM : M.le M') (h : PrO M p) : PrO M' p := ⟨h.1.mono hM, h.2⟩
def prC (p : PtV) : List Value := [.int .u64 (p.s.first : Int), p.lv, p.ev, .int .i64 (p.s.size : Int)]
theorem prC_all (ps : List PtV) : ∀ c ∈ ps.map prC, c.length = 4 := by
 intro c hc
 obtain ⟨p, _, rfl⟩ := List.mem_map.1 hc
 rfl
theorem prC_flat (ps : List PtV) : (ps.map prC).flatten.length = ps.length * 4 := by
 induction ps with
 | nil => rfl
 | cons p ps ih => rw [List.map_cons, List.flatten_cons, List.length_append, ih, List.length_cons]; show 4 + _ = _; omega
theorem rowR_snoc (qs : List PtV) (p : PtV) : ((qs ++ [p]).map prC).flatten = (qs.map prC).flatten ++ prC p := by simp
def rgB (rb : Nat) (lim : Int) (pv : Value) : Obj := .cells [.pointer (some ⟨rb, 0, none⟩), .int .i64 lim, pv].toArray 91 (0, 0)
def PrP (M0 M : Mem) (p : PtV) : Prop := ∃ A cap vs, p.lv = .slice A p.s.es.length cap ∧ p.s.es.length ≤ cap ∧ cap ≤ 9223372036854775807 ∧ Pl M A (rowE p.s.es vs).flatten ∧ PlV M0 vs (p.s.es.map En.data) ∧ ∃ Ae ce, p.ev = .slice Ae p.s.it.length ce ∧ p.s.it.length ≤ ce ∧ ce ≤ 9223372036854775807 ∧ Pl M Ae (endC (begA 0 p.s.zs))
theorem PrO.prP {M2 : Mem} {p : PtV} (h : PrO M p) (hi : In M2 (p.lh ++ p.eh)) : PrP M M2 p := by
 obtain ⟨vs, hot, hpv⟩ := h.1
 obtain ⟨A, c, hv, h1, h2⟩ := hot.form
 rw [hv] at hot
 have hoT := h.2
 obtain ⟨Ae, ce, he, h3, h4⟩ := hoT.form
 rw [he] at hoT
 exact ⟨A, c, vs, hv, h1, by unfold maxLen at h2; omega, hot.plIn hi.left, hpv, Ae, ce, he, h3, by unfold maxLen at h4; omega, hoT.plIn hi.right⟩
def RgO (M : Mem) (lb rb : Nat) (lim : Int) (ss : List Sg) (hp : Hp) : Prop := ∃ (ps : List PtV) (pv : Value) (hrow : Hp), ps.map PtV.s = ss ∧ OwnT 93 4 pv ps.length (ps.map prC).flatten hrow ∧ (∀ p ∈ ps, PrO M p) ∧ hp = (lb, rgB rb lim pv) :: (hrow ++ ptH ps)
theorem RgO.mono {lb rb : Nat} {lim : Int} {ss : List Sg} {hp : Hp} (h : RgO M lb rb lim ss hp) (hM : M.le M') : RgO M' lb rb lim ss hp := by
 obtain ⟨ps, pv, hrow, h1, h2, h3, h4⟩ := h
 exact ⟨ps, pv, hrow, h1, h2, fun p hp => (h3 p hp).mono hM, h4⟩
def RgP (M0 M : Mem) (lb rb : Nat) (lim : Int) (ss : List Sg) : Prop := ∃ (ps : List PtV) (A : Option Addr) (cap : Nat), ps.map PtV.s = ss ∧ M.at_ lb = some (rgB rb lim (.slice A ps.length cap)) ∧ ps.length ≤ cap ∧ cap ≤ 9223372036854775807 ∧ Pl M A (ps.map prC).flatten ∧ ∀ p ∈ ps, PrP M0 M p
theorem RgO.rgP {lb rb : Nat} {lim : Int} {ss : List Sg} {hp : Hp} {M2 : Mem} (h : RgO M lb rb lim ss hp) (hi : In M2 hp) : RgP M M2 lb rb lim ss := by
 obtain ⟨ps, pv, hrow, h1, h2, h3, rfl⟩ := h
 obtain ⟨A, c, rfl, k1, k2⟩ := h2.form
 exact ⟨ps, A, c, h1, hi.head, k1, by unfold maxLen at k2; omega, h2.plIn hi.tail.left, fun p hp => (h3 p hp).prP (ptH_in hi.tail.right hp)⟩
theorem PrP.enl {M0 : Mem} {p : PtV} (h : PrP M0 M p) (hM : M0.le M) : EnL M p.lv p.s.es := by
 obtain ⟨A, cap, vs, h1, h2, h3, h4, h5, _⟩ := h
 exact ⟨A, cap, vs, h1, h2, h3, h4, h5.mono hM⟩
theorem en_at2 {M0 : Mem} {A : Option Addr} {es : List En} {vs : List Value} (hp : Pl M A (rowE es vs).flatten) (hv : PlV M0 vs (es.map En.data)) {i : Nat} (hi : i < es.length) :
  ∃ b o c e fr Ai ci, A = some ⟨b, o, none⟩ ∧ M.at_ b = some (.cells c e fr) ∧ (∀ (q : Nat) u, (ecells es[i] (.slice Ai es[i].data.length ci))[q]? = some u → c[o + i * 5 + q]? = some u) ∧ vs[i]? = some (.slice Ai es[i].data.length ci) ∧ es[i].data.length ≤ ci ∧ ci ≤ 9223372036854775807 ∧ Pl M0 Ai (es[i].data.map bv) := by
 have hvl : vs.length = es.length := by rw [hv.1, List.length_map]
 have h1 : vs[i]? = some (vs[i]'(by omega)) := List.getElem?_eq_getElem _
 have h2 : (es.map En.data)[i]? = some es[i].data := by rw [List.getElem?_map, List.getElem?_eq_getElem hi]; rfl
 obtain ⟨Ai, ci, k1, k2, k3, k4⟩ := hv.2 i _ _ h1 h2
 have hrow := rowE_i (vs := vs) hi (by omega)
 rw [k1] at hrow h1
 have hcell : ∀ q u, (ecells es[i] (.slice Ai es[i].data.length ci))[q]? = some u → (rowE es vs).flatten[i * 5 + q]? = some u := fun q u hq => flat_get _ (rowE_len es vs) i q _ u hrow hq
 obtain ⟨b, o, c, e, fr, g1, g2, _⟩ := hp.get (hcell 0 _ rfl)
 refine ⟨b, o, c, e, fr, Ai, ci, g1, g2, fun q u hq => ?_, h1, k2, k3, k4⟩
 obtain ⟨b', o', c', e', fr', g1', g2', g3'⟩ := hp.get (hcell q u hq)
 rw [g1] at g1'
 injection g1' with g1'
 injection g1' with g1' g4
 subst g1' g4
 rw [g2] at g2'
 injection g2' with g2'
 injection g2' with g2' _ _
 subst g2'
 rw [show o + i * 5 + q = o + (i * 5 + q) by omega]
 exact g3'
structure LastR (M0 M : Mem) (lb rb : Nat) (lim : Int) (ss : List Sg) (s : Sg) (a : En) (b o cap cl ci ce : Nat) (Al Ai Ae : Option Addr) (cc : Array Value) : Prop where
 rec_ : M.at_ lb = some (.cells #[.pointer (some ⟨rb, 0, none⟩), .int .i64 lim, .slice (some ⟨b, o, none⟩) ss.length cap] 91 (0, 0))
 cap1 : ss.length ≤ cap
 cap2 : cap ≤ 9223372036854775807
 last : ss.getLast? = some s
 row : ∃ e fr, M.at_ b = some (.cells cc e fr)
 cell : ∀ (q : Nat) u, [Value.int .u64 (s.first : Int), .slice Al s.es.length cl, .slice Ae s.it.length ce, .int .i64 (s.size : Int)][q]? = some u → cc[o + ((ss.length - 1 : Nat) : Int).toNat * 4 + q]? = some u
 lcap : s.es.length ≤ cl
 lcap2 : cl ≤ 9223372036854775807
 len : 0 < s.es.length
 lastE : s.es.getLast? = some a
 lastOE : lastO ss = some a
 data : PlB M0 (.slice Ai a.data.length ci) a.data
 ent : ∃ b2 o2 c2 e2 fr2, Al = some ⟨b2, o2, none⟩ ∧ M.at_ b2 = some (.cells c2 e2 fr2) ∧ ∀ (q : Nat) u, (ecells a (.slice Ai a.data.length ci))[q]? = some u → c2[o2 + (s.es.length - 1) * 5 + q]? = some u
theorem RgP.nil_ {M0 : Mem} {lb rb : Nat} {lim : Int} (h : RgP M0 M lb rb lim []) : ∃ A cap, M.at_ lb = some (.cells #[.pointer (some ⟨rb, 0, none⟩), .int .i64 lim, .slice A 0 cap] 91 (0, 0)) := by
 obtain ⟨ps, A, cap, h1, h2, _⟩ := h
 have : ps = [] := List.map_eq_nil_iff.1 h1
 subst this
 exact ⟨A, cap, h2⟩
theorem RgP.last {M0 : Mem} {lb rb : Nat} {lim : Int} {ss : List Sg} (h : RgP M0 M lb rb lim ss) (hok : sgsOk ss) (h0 : 0 < ss.length) : ∃ s a b o cap cl ci ce Al Ai Ae cc, LastR M0 M lb rb lim ss s a b o cap cl ci ce Al Ai Ae cc := by
 obtain ⟨ps, Ap, cp, hss, hMl, p1, p2, p3, p4⟩ := h
 have hpl : ps.length = ss.length := by rw [← hss, List.length_map]
 have hpi : ps.length - 1 < ps.length := by omega
 obtain ⟨p, hp⟩ : ∃ p, ps[ps.length - 1]? = some p := ⟨_, List.getElem?_eq_getElem hpi⟩
 have hp' := (List.getElem?_eq_some_iff.1 hp).2
 have hls : ss.getLast? = some p.s := by
  rw [List.getLast?_eq_getElem?, ← hpl, ← hss, List.getElem?_map, hp]
  rfl
 have hpm : p ∈ ps := List.mem_of_getElem? hp
 have hso := hok p.s (by rw [← hss]; exact List.mem_map_of_mem hpm)
 have hel : 0 < p.s.es.length := by rw [Sg.es_len]; exact hso.1
 obtain ⟨b, o, cc, e0, fr, hA, hMb, hcell⟩ := row_agg p3 (prC_all ps) (by decide) (k := ps.length - 1) (by rw [List.length_map]; exact hpi)
 subst hA
 rw [List.getElem_map, hp'] at hcell
 obtain ⟨Al, cl, vs, hlv, l1, l2, l3, l4, Ae, ce, hev, _⟩ := p4 p hpm
 have hix : p.s.es.length - 1 < p.s.es.length := by omega
 obtain ⟨b2, o2, c2, e2, fr2, Ai, ci, hA2, hMb2, hcell2, hv2, hi1, hi2, hpi2⟩ := en_at2 l3 l4 hix
 refine ⟨p.s, p.s.es[p.s.es.length - 1], b, o, cp, cl, ci, ce, Al, Ai, Ae, cc, ?_, by omega, p2, hls, ⟨e0, fr, hMb⟩, ?_, l1, l2, hel, getLast_len hel, ?_, ⟨Ai, ci, rfl, hi1, hi2, hpi2⟩, ⟨b2, o2, c2, e2, fr2, hA2, hMb2, hcell2⟩⟩
 ·rw [← hpl]
  exact hMl
 ·intro q u hq
  rw [← hpl]
  refine hcell q u ?_
  show [Value.int .u64 (p.s.first : Int), p.lv, p.ev, .int .i64 (p.s.size : Int)][q]? = some u
  rw [hlv, hev]
  exact hq
 ·unfold lastO
  rw [hls]
  exact getLast_len hel
theorem rlast_KP {M0 : Mem} {lb rb : Nat} {lim : Int} {ss : List Sg} (hM0 : M0.le M) (hg : RgP M0 M lb rb lim ss) (hok : sgsOk ss) : K Tryz.prog 89 [.pointer (some ⟨lb, 0, none⟩)] M H fun v' M' H' => (match lastO ss with
  | none => v' = .tuple #[eV ⟨0, 0, 0, [], 0⟩ (.slice none 0 0), .bool false]
  | some a => ∃ v, v' = .tuple #[eV a v, .bool true] ∧ PlB M0 v a.data) ∧ M' = M ∧ H' = H := by
 refine K.enterM Tryz.func89 rfl rfl rfl ?_
 intro Q hNP hQ
 by_cases h0 : ss.length = 0
 ·have hnl : ss = [] := List.eq_nil_of_length_eq_zero h0
  subst hnl
  obtain ⟨A, cap, hMl⟩ := hg.nil_
  have hpv : (#[.pointer (some ⟨rb, 0, none⟩), .int .i64 lim, .slice A 0 cap] : Array Value)[0 + 2]? = some (.slice A 0 cap) := rfl
  (repeat' (first | (refine a_gn ?_; intros) | refine a_sp (fun h => ?_) fun h => ?_ | fail))
  ((apply R.alloc; (simp only [Value.cells]; rfl); exact rfl); intro b2)
  (repeat' (first | refine a_mv ?_ | (apply R.step; (first | (apply Ok.loadP; exact rfl; exact rfl; exact hMl; exact hpv)); exact rfl) | (refine a_go ?_; intros) | refine a_sp (fun h => ?_) fun h => ?_ | fail))
  (apply Fin.returnM (H2 := H); assumption; exact .inl rfl; exact rfl; exact Marks.nil _; (exact a_res); (simp only [retv]; rfl); (exact a_arr))
  exact ⟨rfl, rfl, rfl⟩
 obtain ⟨s, a, b, o, cap, cl, ci, ce, Al, Ai, Ae, cc, hL⟩ := hg.last hok (by omega)
 rw [hL.lastOE] at hQ
 have hMl := hL.rec_
 have hpv : (#[.pointer (some ⟨rb, 0, none⟩), .int .i64 lim, .slice (some ⟨b, o, none⟩) ss.length cap] : Array Value)[0 + 2]? = some (.slice (some ⟨b, o, none⟩) ss.length cap) := rfl
 obtain ⟨e0, fr, hMb⟩ := hL.row
 have hcap := hL.cap1
 have hcap2 := hL.cap2
 have hcell := hL.cell
 have hlc := hL.lcap
 have hlc2 := hL.lcap2
 have hlen := hL.len
 obtain ⟨b3, o3, c3, e3, fr3, hA3, hMb3, hcell3⟩ := hL.ent
 subst hA3
 have hll : (ss.length : Int) - 1 = ((ss.length - 1 : Nat) : Int) := by omega
 have hle : (s.es.length : Int) - 1 = ((s.es.length - 1 : Nat) : Int) := by omega
 have hagg : ∀ (q : Nat) u, (ecells a (.slice Ai a.data.length ci))[q]? = some u → c3[o3 + ((s.es.length - 1 : Nat) : Int).toNat * 5 + q]? = some u := fun q u hq => by rw [Int.toNat_natCast]; exact hcell3 q u hq
 (repeat' (first | (refine a_gn ?_; intros) | refine a_sp (fun h => ?_) fun h => ?_ | fail))
 ((apply R.alloc; (simp only [Value.cells]; rfl); exact rfl); intro b2)
 (repeat' (first | refine a_mv ?_ | (apply R.step; (first | (apply Ok.eqIF; exact rfl; exact rfl; omega) | (apply Ok.loadP; exact rfl; exact rfl; exact hMl; exact hpv)); exact rfl) | (refine a_go ?_; intros) | refine a_sp (fun h => ?_) fun h => ?_ | fail))
 (apply C.regionT (t := .free 0 (.free 1 (.free 2 (.free 3 (.free 4 (.free 5 (.free 6 (.free 7 (.free 8 (.free 9 (.free 10 (.free 11 (.one 12 (.one 13 .nil)))))))))))))) (Hs := []); exact Mix.h; (first | exact Arr.all _ | (exact a_arr) | (exact a_arrs)); (exact a_np); kernel_rfl)
 (repeat' (first | (apply RT.step; exact rfl; intro _ _ _; (apply Ok.move; exact rfl); exact rfl) | (apply RT.step; exact rfl; intro _ _ hMx; (first | (apply Ok.loadP; exact rfl; exact rfl; exact hMx.2.2 _ _ hMl; exact hpv) | (apply Ok.subQ ((ss.length - 1 : Nat) : Int); exact rfl; exact rfl; exact hll; apply w64; omega; omega) | (apply Ok.indexAddr; exact rfl; exact rfl; omega; omega) | (apply Ok.loadAggP (vs := [Value.int .u64 (s.first : Int), .slice (some ⟨b3, o3, none⟩) s.es.length cl, .slice Ae s.it.length ce, .int .i64 (s.size : Int)]); exact rfl; exact rfl; exact hMx.2.2 _ _ hMb; exact rfl; exact hcell)); exact rfl) | refine a_ot ?_ | fail))
 (apply RT.one; apply OneT.eff; exact rfl; intro Kc hKc ops0)
 ((apply R.alloc; (simp only [Value.cells]; rfl); exact rfl); intro b4)
 (apply R.nil; apply Fin.kt (Hx := (b4, .cells #[.int .u64 0, .slice none 0 0, .slice none 0 0, .int .i64 0] 93 (0, 0)) :: (b2, .cells #[.int .i64 0, .int .u64 0, .int .u64 0, .slice none 0 0, .int .i64 0] 33 (0, 0)) :: H) hKc; exact Mem.le_refl _; (exact a_arrs))
 (repeat' (first | refine a_ot ?_ | fail))
 (apply RT.one; apply OneT.eff; exact rfl; intro Kc hKc ops0)
 apply R.arr (H2 := (b4, .cells #[.int .u64 0, .slice none 0 0, .slice none 0 0, .int .i64 0] 93 (0, 0)) :: (b2, .cells #[.int .i64 0, .int .u64 0, .int .u64 0, .slice none 0 0, .int .i64 0] 33 (0, 0)) :: H) (by (exact a_arrs))
 (repeat' (first | (refine a_go ?_; intros) | refine a_sp (fun h => ?_) fun h => ?_ | fail))
 (apply Fin.kt (Hx := (b4, .cells [.int .u64 (s.first : Int), .slice (some ⟨b3, o3, none⟩) s.es.length cl, .slice Ae s.it.length ce, .int .i64 (s.size : Int)].toArray 93 (0, 0)) :: (b2, .cells #[.int .i64 0, .int .u64 0, .int .u64 0, .slice none 0 0, .int .i64 0] 33 (0, 0)) :: H) hKc; exact Mem.le_refl _; (exact a_arrs))
 apply RT.nil
 (repeat' (first | refine a_mv ?_ | (apply R.step; (first | (apply Ok.subQ ((s.es.length - 1 : Nat) : Int); exact rfl; exact rfl; exact hle; apply w64; omega; omega) | (apply Ok.indexAddr; exact rfl; exact rfl; omega; omega) | (apply Ok.loadAggP (vs := ecells a (.slice Ai a.data.length ci)); exact rfl; exact rfl; exact hMb3; exact rfl; exact hagg)); exact rfl) | (refine a_go ?_; intros) | refine a_sp (fun h => ?_) fun h => ?_ | fail))
 unfold ecells
 (repeat' (first | (refine a_go ?_; intros) | refine a_sp (fun h => ?_) fun h => ?_ | fail))
 (apply Fin.returnM (H2 := H); assumption; exact .inl rfl; exact rfl; exact Marks.nil _; (exact a_res); (simp only [retv]; rfl); (exact a_arr))
 exact ⟨⟨_, rfl, hL.data⟩, rfl, rfl⟩
theorem rlast_K {lb rb : Nat} {lim : Int} {ss : List Sg} {hL : Hp} (hg : RgO M lb rb lim ss hL) (hok : sgsOk ss) : K Tryz.prog 89 [.pointer (some ⟨lb, 0, none⟩)] M (hL ++ H) fun v' M' H' => (match lastO ss with
  | none => v' = .tuple #[eV ⟨0, 0, 0, [], 0⟩ (.slice none 0 0), .bool false]
  | some a => ∃ v, v' = .tuple #[eV a v, .bool true] ∧ PlB M v a.data) ∧ M' = M ∧ H' = hL ++ H :=
 K.lendsR (P := fun v' => match lastO ss with
  | none => v' = .tuple #[eV ⟨0, 0, 0, [], 0⟩ (.slice none 0 0), .bool false]
  | some a => ∃ v, v' = .tuple #[eV a v, .bool true] ∧ PlB M v a.data) (Arr.all _) fun M2 hM2 hin => (rlast_KP hM2 (hg.rgP hin) hok).mono fun _ _ _ h => h
theorem rLast_K {lb rb : Nat} {lim : Int} {ss : List Sg} {hL : Hp} (hg : RgO M lb rb lim ss hL) (hok : sgsOk ss) : K Tryz.prog 48 [.pointer (some ⟨lb, 0, none⟩)] M (hL ++ H) fun v' M' H' => v' = .int .u64 (lastG ss) ∧ M' = M ∧ H' = hL ++ H := by
 refine K.enterK Tryz.func48 rfl rfl rfl ?_
 intro Q hNP hQ
 have hk := rlast_K (H := H) hg hok
 cases hl : lastO ss with
 | none =>
  have e : lastG ss = 0 := by unfold lastG; rw [hl]
  rw [e] at hQ
  rw [hl] at hk
  (repeat' (first | (refine a_go ?_; intros) | refine a_sp (fun h => ?_) fun h => ?_ | fail))
  (apply R.call; (exact a_evs); exact rfl; exact hk; rintro _ M _ ⟨rfl, rfl, rfl⟩)
  unfold eV ecells
  (repeat' (first | (refine a_go ?_; intros) | refine a_sp (fun h => ?_) fun h => ?_ | fail))
  (refine Fin.rA (hL ++ H) ?_)
  exact ⟨rfl, rfl, rfl⟩
 | some a =>
  have e : lastG ss = a.idx := by unfold lastG; rw [hl]
  rw [e] at hQ
  rw [hl] at hk
  (repeat' (first | (refine a_go ?_; intros) | refine a_sp (fun h => ?_) fun h => ?_ | fail))
  (apply R.call; (exact a_evs); exact rfl; exact hk; rintro _ M _ ⟨⟨v, rfl, hb⟩, rfl, rfl⟩)
  obtain ⟨Ad, cd, rfl, _⟩ := hb
  unfold eV ecells
  (repeat' (first | (refine a_go ?_; intros) | refine a_sp (fun h => ?_) fun h => ?_ | fail))
  (refine Fin.rA (hL ++ H) ?_)
  exact ⟨rfl, rfl, rfl⟩
theorem rFirst_KP {M0 : Mem} {lb rb : Nat} {lim : Int} {ss : List Sg} (hg : RgP M0 M lb rb lim ss) : K Tryz.prog 47 [.pointer (some ⟨lb, 0, none⟩)] M H fun v' M' H' => v' = .int .u64 (firstR ss) ∧ M' = M ∧ H' = H := by
 refine K.enterK Tryz.func47 rfl rfl rfl ?_
 intro Q hNP hQ
 obtain ⟨ps, A, cap, hss, hMl, p1, p2, p3, p4⟩ := hg
 unfold rgB at hMl
 have hpv : (#[.pointer (some ⟨rb, 0, none⟩), .int .i64 lim, .slice A ps.length cap] : Array Value)[0 + 2]? = some (.slice A ps.length cap) := rfl
 match ps, hss, p3 with
 | [], hss, p3 =>
  subst hss
  (repeat' (first | refine a_mv ?_ | (apply R.step; (first | (apply Ok.loadP; exact rfl; exact rfl; exact hMl; exact hpv)); exact rfl) | (refine a_go ?_; intros) | refine a_sp (fun h => ?_) fun h => ?_ | fail))
  (refine Fin.rA (H) ?_)
  exact ⟨rfl, rfl, rfl⟩
 | p :: ps, hss, p3 =>
  subst hss
  have hl : (p :: ps).length = ps.length + 1 := rfl
  obtain ⟨b, o, c, e, fr, rfl, hMb, hcell⟩ := row_agg p3 (prC_all (p :: ps)) (by decide) (k := 0) (by rw [List.length_map]; exact Nat.zero_lt_succ _)
  have hc0 : c[o + (0 : Int).toNat * 4 + 0]? = some (.int .u64 (p.s.first : Int)) := hcell 0 _ rfl
  rw [hl] at p1
  (repeat' (first | refine a_mv ?_ | (apply R.step; (first | (apply Ok.loadP; exact rfl; exact rfl; exact hMl; exact hpv) | (apply Ok.eqIF; exact rfl; exact rfl; rw [hl]; omega) | (apply Ok.indexAddr; exact rfl; exact rfl; omega; rw [hl]; omega) | (apply Ok.loadP; exact rfl; exact rfl; exact hMb; exact hc0)); exact rfl) | (refine a_go ?_; intros) | refine a_sp (fun h => ?_) fun h => ?_ | fail))
  (refine Fin.rA (H) ?_)
  exact ⟨rfl, rfl, rfl⟩
theorem rFirst_K {lb rb : Nat} {lim : Int} {ss : List Sg} {hL : Hp} (hg : RgO M lb rb lim ss hL) : K Tryz.prog 47 [.pointer (some ⟨lb, 0, none⟩)] M (hL ++ H) fun v' M' H' => v' = .int .u64 (firstR ss) ∧ M' = M ∧ H' = hL ++ H :=
 K.lendsR (P := fun v' => v' = .int .u64 (firstR ss)) (Arr.all _) fun M2 hM2 hin => (rFirst_KP (hg.rgP hin)).mono fun _ _ _ h => h
structure RliX where
 i : Nat
 ii : Int
 v : Value
 hp : Hp
theorem rList_KP {M0 : Mem} {lb rb : Nat} {lim : Int} {ss : List Sg} (hg : RgP M0 M lb rb lim ss) (hn : (listG ss).length ≤ 1000000000) : K Tryz.prog 46 [.pointer (some ⟨lb, 0, none⟩)] M H fun v' M' H' => ∃ hrow, OwnP M0 v' (listG ss) hrow ∧ M' = M ∧ H' = hrow ++ H := by
 refine K.enterK Tryz.func46 rfl rfl rfl ?_
 intro Q hNP hQ
 obtain ⟨ps, A, cap, hss, hMl, p1, p2, p3, p4⟩ := hg
 unfold rgB at hMl
 have hpv : (#[.pointer (some ⟨rb, 0, none⟩), .int .i64 lim, .slice A ps.length cap] : Array Value)[0 + 2]? = some (.slice A ps.length cap) := rfl
 have hpl : ps.length = ss.length := by rw [← hss, List.length_map]
 (repeat' (first | (refine a_go ?_; intros) | refine a_sp (fun h => ?_) fun h => ?_ | fail))
 apply C.loop (fun y : RliX => (y.i : Int) = y.ii ∧ y.i ≤ ps.length ∧ OwnP M0 y.v (listG (ss.take y.i)) y.hp)
  (fun y => [(0, .pointer (some ⟨lb, 0, none⟩)), (3, y.v), (4, .int .i64 y.ii)]) (fun _ => M) (fun y => y.hp ++ H) (fun y => ps.length - y.i) ⟨0, 0, .slice none 0 0, []⟩
 ·exact ⟨rfl, Nat.zero_le _, OwnP.nil⟩
 ·(exact a_subs)
 ·exact rfl
 ·exact rfl
 rintro ⟨i, ii, v, hp⟩ ⟨hii, hi, hown⟩
 dsimp only at hii hi hown ⊢
 by_cases hlt : i < ps.length
 ·obtain ⟨p, hp'⟩ : ∃ p, ps[i] = p := ⟨_, rfl⟩
  have hsi : ss[i]? = some p.s := by rw [← hss, List.getElem?_map, List.getElem?_eq_getElem hlt, hp']; rfl
  have htk : ss.take (i + 1) = ss.take i ++ [p.s] := by rw [List.take_add_one, hsi]; rfl
  obtain ⟨b, o, c, e, fr, rfl, hMb, hcell⟩ := row_agg p3 (prC_all ps) (by decide) (k := i) (by rw [List.length_map]; exact hlt)
  rw [List.getElem_map, hp'] at hcell
  obtain ⟨Al, cl, vs, hlv, l1, l2, l3, l4, _⟩ := p4 p (hp' ▸ List.getElem_mem hlt)
  have hc1 : c[o + ii.toNat * 4 + 1]? = some (.slice Al p.s.es.length cl) := by
   rw [show ii.toNat = i by omega]
   refine hcell 1 _ ?_
   show some p.lv = _
   rw [hlv]
  obtain ⟨_, hrl, hro⟩ := rowE_cells l4
  have hpre : (listG (ss.take i)).length + p.s.es.length ≤ (listG ss).length := by
   have : listG ss = listG (ss.take (i + 1)) ++ listG (ss.drop (i + 1)) := by
    unfold listG
    rw [← List.flatMap_append, List.take_append_drop]
   rw [this, htk, listG_snoc, List.length_append, List.length_append]
   omega
  obtain ⟨vsv, hot, hpvv⟩ := id hown
  (repeat' (first | refine a_mv ?_ | (apply R.step; (first | (apply Ok.ltTr; exact rfl; exact rfl; omega) | (apply Ok.loadP; exact rfl; exact rfl; exact hMl; exact hpv) | (apply Ok.indexAddr; exact rfl; exact rfl; omega; omega) | (apply Ok.loadP; exact rfl; exact rfl; exact hMb; exact hc1)); exact rfl) | (refine a_go ?_; intros) | refine a_sp (fun h => ?_) fun h => ?_ | fail))
  (apply R.appendT; exact rfl; exact rfl; exact hot; (exact a_tk); exact l3.rd; exact hrl; exact hro; omega; exact rfl; decide; decide; exact rfl; rintro wv hrw hotw)
  have how : OwnP M0 wv (listG (ss.take i) ++ p.s.es) hrw := OwnT.joined hotw hpvv l4
  rw [← listG_snoc, ← htk] at how
  (repeat' (first | (refine a_go ?_; intros) | refine a_sp (fun h => ?_) fun h => ?_ | fail))
  refine Fin.again (⟨i + 1, ii + 1, wv, hrw⟩ : RliX) ⟨by dsimp only; omega, by dsimp only; omega, how⟩ (by dsimp only; omega) ?_ rfl rfl
  (exact a_subs)
 ·have hie : i = ss.length := by omega
  rw [hie, List.take_length] at hown
  (repeat' (first | refine a_mv ?_ | (apply R.step; (first | (apply Ok.ltF; exact rfl; exact rfl; omega) | (apply Ok.loadP; exact rfl; exact rfl; exact hMl; exact hpv)); exact rfl) | (refine a_go ?_; intros) | refine a_sp (fun h => ?_) fun h => ?_ | fail))
  (refine Fin.rA (hp ++ H) ?_)
  exact ⟨hp, hown, rfl, rfl⟩
theorem rList_KO {lb rb : Nat} {lim : Int} {ss : List Sg} {hL : Hp} (hg : RgO M lb rb lim ss hL) (hn : (listG ss).length ≤ 1000000000) : K Tryz.prog 46 [.pointer (some ⟨lb, 0, none⟩)] M (hL ++ H) fun v' M' H' => ∃ hrow, OwnP M v' (listG ss) hrow ∧ M' = M ∧ H' = hL ++ (hrow ++ H) :=
 K.lends (Arr.all _) fun M2 hM2 hin => by
  refine (rList_KP (hg.rgP hin) hn).mono ?_
  rintro v' M' H' ⟨hrow, h1, rfl, rfl⟩
  exact ⟨rfl, hrow, h1, rfl, rfl⟩
theorem rList_K {lb rb : Nat} {lim : Int} {ss : List Sg} {hL : Hp} (hg : RgO M lb rb lim ss hL) (hn : (listG ss).length ≤ 1000000000) : K Tryz.prog 46 [.pointer (some ⟨lb, 0, none⟩)] M (hL ++ H) fun v' M' H' => EnL M' v' (listG ss) ∧ M.le M' ∧ H' = hL ++ H := by
 refine (rList_KO hg hn).freezeT ?_
 rintro v' M' H' ⟨hrow, how, rfl, rfl⟩
 exact ⟨hrow, hL ++ H, by (exact a_arr), fun M2 hM2 hin => ⟨(how.mono hM2).enL hin, hM2, rfl⟩⟩
end Go.Sx
end
section
namespace Go.Sx
open Go Go.Proofs Go.RowKit
attribute [local irreducible] C R Fin K Own OwnT Rd Pl Ok KOf RetOk OpsOf RP KP Res NoPanic KV KE MapS ItS EntS FsO FsR RowD PlD DkO RT KT OneT RS KS OneS SgO
variable {M M' : Mem} {H H1 H2 : Hp}
def nG (i t : Int) : En := ⟨0, t, i, [], 0⟩
theorem none9_K {i t : Int} : K Tryz.prog 30 [.int .u64 i, .int .u64 t] M H fun v M' H' => v = eV (nG i t) (.slice none 0 0) ∧ M' = M ∧ H' = H := by
 refine K.enterK Tryz.func30 rfl rfl rfl ?_
 intro Q hNP hQ
 (repeat' (first | (refine a_go ?_; intros) | refine a_sp (fun h => ?_) fun h => ?_ | fail))
 (refine Fin.rA (H) ?_)
 exact ⟨rfl, rfl, rfl⟩
theorem PlV.nonesG (n : Nat) : PlV M (List.replicate n (.slice none 0 0)) (List.replicate n []) := by
 refine ⟨by simp, fun i v l h1 h2 => ?_⟩
 rw [List.getElem?_replicate] at h1 h2
 split at h1
 ·rename_i hi
  rw [if_pos hi] at h2
  cases h1
  cases h2
  exact ⟨none, 0, rfl, Nat.le_refl _, by decide, Pl.nil⟩
 ·cases h1
theorem builtG3 {i t i' t' i2 t2 : Int} {bl e : Nat} {fr : Nat × Nat} (h : In M [(bl, .cells #[.int .i64 0, .int .u64 t, .int .u64 i, .slice none 0 0, .int .i64 0, .int .i64 0, .int .u64 t', .int .u64 i', .slice none 0 0, .int .i64 0, .int .i64 0, .int .u64 t2, .int .u64 i2, .slice none 0 0, .int .i64 0] e fr)]) : EnL M (.slice (some ⟨bl, 0, none⟩) 3 3) [nG i t, nG i' t', nG i2 t2] :=
 ⟨_, 3, List.replicate 3 (.slice none 0 0), rfl, Nat.le_refl _, by decide, Pl.ofAt h.one, PlV.nonesG 3⟩
theorem firstG_list {ss : List Sg} (h : sgsOk ss) : firstG ss = match listG ss with | [] => 0 | e :: _ => e.idx := by
 match ss, h with
 | [], _ => rfl
 | s :: r, h =>
  have h1 := (h s (List.mem_cons_self ..)).1
  rw [← Sg.es_len] at h1
  have e1 : listG (s :: r) = s.es ++ listG r := rfl
  have e2 : firstG (s :: r) = match s.es.head? with | some e => e.idx | none => 0 := rfl
  rw [e1, e2]
  match hs : s.es, h1 with
  | x :: xs, _ => rfl
theorem lastO_list : ∀ {ss : List Sg}, sgsOk ss → lastO ss = (listG ss).getLast?
 | [], _ => rfl
 | s :: r, h => by
  have h1 := (h s (List.mem_cons_self ..)).1
  rw [← Sg.es_len] at h1
  have e1 : listG (s :: r) = s.es ++ listG r := rfl
  have ih := lastO_list (ss := r) (h.sub fun t ht => List.mem_cons_of_mem _ ht)
  rw [e1, List.getLast?_append, ← ih]
  by_cases hr : r = []
  ·subst hr
   exact lastO_snoc [] s
  ·have h2 : lastO (s :: r) = lastO r := by
    unfold lastO
    rw [List.getLast?_cons]
    cases hg : r.getLast? with
    | none => exact absurd (List.getLast?_eq_none_iff.1 hg) hr
    | some t => rfl
   rw [h2]
   obtain ⟨init, t, rfl⟩ : ∃ init t, r = init ++ [t] := ⟨r.dropLast, r.getLast hr, (List.dropLast_concat_getLast hr).symm⟩
   have h3 := (h t (List.mem_cons_of_mem _ (List.mem_append_right _ (List.mem_singleton_self _)))).1
   rw [← Sg.es_len] at h3
   rw [lastO_snoc, getLast_len h3]
   rfl
theorem CutS.is {i : Int} {es es' : List En} (h : CutS i es es') : es' = es.takeWhile fun e => decide (e.idx < i) := by
 obtain ⟨X, rfl, h1, h2⟩ := h
 rw [List.takeWhile_append_of_pos (fun e he => decide_eq_true (h1 e he))]
 cases X with
 | nil => simp
 | cons x xs =>
  rw [List.takeWhile_cons, if_neg (by rw [decide_eq_true_eq]; have := h2 x (List.mem_cons_self ..); omega), List.append_nil]
theorem ent_nG {i t : Int} (hi : 1 ≤ i ∧ i ≤ 72057594037927935) (ht : 1 ≤ t ∧ t ≤ 72057594037927935) : entS (nG i t) := ⟨ht, hi, .inl ⟨rfl, rfl, rfl⟩⟩
theorem known9_K : K Tryz.prog 11 [] M H fun v M' H' => v = .bool true ∧ M.le M' ∧ H' = H := by
 refine K.enterK Tryz.func11 rfl rfl rfl ?_
 intro Q hNP hQ
 have hn5 : nameS 5 = [115, 48, 48, 48, 48, 48, 48, 48, 48, 48, 48, 48, 48, 48, 48, 53] := by decide
 have hfo : folE none [nG 5 1, nG 6 1, nG 7 2] := ⟨ent_nG (by decide) (by decide), trivial, ent_nG (by decide) (by decide), ⟨rfl, by decide⟩, ent_nG (by decide) (by decide), ⟨rfl, by decide⟩, trivial⟩
 (repeat' (first | (refine a_go ?_; intros) | refine a_sp (fun h => ?_) fun h => ?_ | fail))
 (apply R.call; (exact a_evs); exact rfl; exact new_K (room := 1048576) (by decide) (by decide); rintro _ M _ ⟨db, hp, rfl, rfl, ho, rfl⟩)
 (repeat' (first | refine a_mv ?_ | (apply R.step; (apply Ok.eqPN; exact rfl; exact rfl); exact rfl) | (refine a_go ?_; intros) | refine a_sp (fun h => ?_) fun h => ?_ | fail))
 (apply R.call; (exact a_evs); exact rfl; exact segName_K (n := 5) (by decide); rintro _ M _ ⟨rfl, rfl, rfl⟩)
 rw [hn5]
 (repeat' (first | (refine a_go ?_; intros) | refine a_sp (fun h => ?_) fun h => ?_ | fail))
 (apply R.call; (exact a_evs); exact rfl; exact sopen_L (lim := 64) (by decide) LogE.new ho; rintro _ M1 _ ⟨hM1, lb, hL1, hp1, rfl, ho1, hg1, rfl⟩)
 (repeat' (first | refine a_mv ?_ | (apply R.step; (apply Ok.eqPN; exact rfl; exact rfl); exact rfl) | (refine a_go ?_; intros) | refine a_sp (fun h => ?_) fun h => ?_ | fail))
 (repeat' (first | (refine a_go ?_; intros) | refine a_sp (fun h => ?_) fun h => ?_ | fail | (apply R.call; (exact a_evs); exact rfl; (first | exact none9_K); rintro _ _ _ ⟨rfl, e1_, e2_⟩; replace e1_ := e1_.symm; subst e1_; replace e2_ := e2_.symm; subst e2_)))
 unfold eV ecells nG
 (repeat' (first | (refine a_go ?_; intros) | refine a_sp (fun h => ?_) fun h => ?_ | fail | (apply R.call; (exact a_evs); exact rfl; (first | exact none9_K); rintro _ _ _ ⟨rfl, e1_, e2_⟩; replace e1_ := e1_.symm; subst e1_; replace e2_ := e2_.symm; subst e2_)))
 (apply R.ice (hp := [_]) (Arr.all _); intro M2 hM2 hin2)
 have hE2 : EnL M2 _ [nG 5 1, nG 6 1, nG 7 2] := builtG3 hin2
 (apply R.call; (exact a_evs); exact rfl; exact sappend_L (ss := []) (es := []) (fs := [nG 5 1, nG 6 1, nG 7 2]) (k := 61) (lim := 64) (by decide) LogE.new hfo (hg1.mono hM2) hE2 (ho1.mono hM2); rintro _ M3 _ ⟨rfl, hM3, d3, s3, hL3, hp3, hl3, _, hd3, hg3, ho3, rfl⟩)
 have hd3' : d3.ps.length = 3 := hd3
 (repeat' (first | (refine a_go ?_; intros) | refine a_sp (fun h => ?_) fun h => ?_ | fail))
 (apply R.call; (exact a_evs); exact rfl; exact scut_L (i := 7) (by decide) hl3 (by omega) hg3 ho3; rintro _ M4 _ ⟨rfl, hM4, d4, s4, e4, hL4, hp4, hl4, hc4, hd4, hg4, ho4, rfl⟩)
 have he4 : e4 = [nG 5 1, nG 6 1] := hc4.is
 subst he4
 (repeat' (first | (refine a_go ?_; intros) | refine a_sp (fun h => ?_) fun h => ?_ | fail))
 apply R.arr (H2 := hp4 ++ (hL4 ++ H)) (by (exact a_arrs))
 (apply R.call; (exact a_evs); exact rfl; exact sopen_L (lim := 64) (by decide) hl4 ho4; rintro _ M5 _ ⟨hM5, lb5, hL5, hp5, rfl, ho5, hg5, rfl⟩)
 have hf5 : firstG s4 = 5 := by rw [firstG_list hl4.sgs, hl4.list]; rfl
 have hl5 : lastG s4 = 6 := by unfold lastG; rw [lastO_list hl4.sgs, hl4.list]; rfl
 (repeat' (first | refine a_mv ?_ | (apply R.step; (apply Ok.nePN; exact rfl; exact rfl); exact rfl) | (refine a_go ?_; intros) | refine a_sp (fun h => ?_) fun h => ?_ | fail))
 (apply R.call; (exact a_evs); exact rfl; exact sfirst_KL (H1 := hp5 ++ (hL4 ++ H)) hg5 hl4.sgs (by (exact a_arr)); rintro _ M5 _ ⟨rfl, rfl, rfl⟩)
 rw [hf5]
 (repeat' (first | (refine a_go ?_; intros) | refine a_sp (fun h => ?_) fun h => ?_ | fail))
 (apply R.call; (exact a_evs); exact rfl; exact slast_KL (H1 := hp5 ++ (hL4 ++ H)) hg5 hl4.sgs (by (exact a_arr)); rintro _ M5 _ ⟨rfl, rfl, rfl⟩)
 rw [hl5]
 (repeat' (first | (refine a_go ?_; intros) | refine a_sp (fun h => ?_) fun h => ?_ | fail))
 (apply R.call; (exact a_evs); exact rfl; exact slist_L hl4 hg5; rintro _ M6 _ ⟨hE6, hM6, rfl⟩)
 obtain ⟨A6, c6, vs6, rfl, _⟩ := hE6
 rw [show ([nG 5 1, nG 6 1] : List En).length = 2 from rfl]
 (repeat' (first | (refine a_go ?_; intros) | refine a_sp (fun h => ?_) fun h => ?_ | fail))
 (refine Fin.rA (H) ?_)
 exact ⟨rfl, hM1.trans_ (hM2.trans_ (hM3.trans_ (hM4.trans_ (hM5.trans_ hM6)))), rfl⟩
end Go.Sx
end
section
namespace Go.Sx
open Go Go.Proofs Go.RowKit
attribute [local irreducible] C R Fin K Own OwnT Rd Pl Ok KOf RetOk OpsOf RP KP Res NoPanic KV KE MapS ItS EntS FsO FsR RowD PlD DkO
variable {M M' : Mem} {H H1 H2 : Hp}
structure FE where
 n : Txt
 v : Value
 b : Txt
def feC (e : FE) : List Value := [str e.n, e.v]
def feP (e : FE) : Txt × Txt := (e.n, e.b)
def EsOk (M : Mem) (es : List FE) : Prop := ∀ e ∈ es, PlB M e.v e.b
theorem EsOk.mono {es : List FE} (hM : M.le M') (h : EsOk M es) : EsOk M' es := fun e he => (h e he).mono hM
def PlFs (M : Mem) (v : Value) (F : Fs) : Prop := ∃ A cap es, v = .slice A es.length cap ∧ es.length ≤ cap ∧ cap ≤ 9223372036854775807 ∧ Pl M A (es.map feC).flatten ∧ EsOk M es ∧ es.map feP = F
theorem PlFs.mono {v : Value} {F : Fs} (hM : M.le M') (h : PlFs M v F) : PlFs M' v F := by
 obtain ⟨A, cap, es, h1, h2, h3, h4, h5, h6⟩ := h
 exact ⟨A, cap, es, h1, h2, h3, h4.mono hM, h5.mono hM, h6⟩
theorem PlFs.nil : PlFs M (.slice none 0 0) [] := ⟨none, 0, [], rfl, Nat.le_refl _, by omega, Pl.nil, fun _ h => absurd h List.not_mem_nil, rfl⟩
theorem feC_all (es : List FE) : ∀ c ∈ es.map feC, c.length = 2 := by
 intro c hc
 obtain ⟨e, _, rfl⟩ := List.mem_map.1 hc
 rfl
theorem feC_len (es : List FE) : (es.map feC).flatten.length = es.length * 2 := by
 rw [rows_len (feC_all es), List.length_map]
theorem feC_take (es : List FE) (k : Nat) : (es.map feC).flatten.take (k * 2) = ((es.take k).map feC).flatten := by
 rw [rows_take (feC_all es), List.map_take]
theorem feC_drop (es : List FE) (k : Nat) : (es.map feC).flatten.drop (k * 2) = ((es.drop k).map feC).flatten := by
 rw [rows_drop (feC_all es), List.map_drop]
theorem feC_snoc (es : List FE) (e : FE) : ((es ++ [e]).map feC).flatten = (es.map feC).flatten ++ feC e := by
 rw [List.map_append, List.flatten_append]
 rfl
theorem feC_one {es : List FE} (h : EsOk M es) : ∀ u ∈ (es.map feC).flatten, u.oneCell' = true := by
 intro u hu
 obtain ⟨c, hc, huc⟩ := List.mem_flatten.1 hu
 obtain ⟨e, he, rfl⟩ := List.mem_map.1 hc
 obtain ⟨A, cap, h1, _⟩ := h e he
 unfold feC at huc
 rw [h1] at huc
 simp only [List.mem_cons, List.not_mem_nil, or_false] at huc
 rcases huc with rfl | rfl <;> rfl
theorem fe_at {A : Option Addr} {es : List FE} {k : Nat} (hp : Pl M A (es.map feC).flatten) (hk : k < es.length) :
  ∃ b o c e fr, A = some ⟨b, o, none⟩ ∧ M.at_ b = some (.cells c e fr) ∧ c[o + k * 2 + 0]? = some (str es[k].n) ∧ c[o + k * 2 + 1]? = some es[k].v := by
 have hkm : k < (es.map feC).length := by rw [List.length_map]; exact hk
 have hfl : ∀ (q : Nat) u, (feC es[k])[q]? = some u → (es.map feC).flatten[k * 2 + q]? = some u := fun q u hq => rows_get (feC_all es) hkm (by rw [List.getElem_map]; exact hq)
 obtain ⟨b, o, c, e, fr, g1, g2, g3⟩ := hp.get (hfl 0 _ rfl)
 obtain ⟨b', o', c', e', fr', g1', g2', g3'⟩ := hp.get (hfl 1 _ rfl)
 rw [g1] at g1'
 cases g1'
 rw [g2] at g2'
 cases g2'
 exact ⟨b, o, c, e, fr, g1, g2, by rw [show o + k * 2 + 0 = o + (k * 2 + 0) by omega]; exact g3, by rw [show o + k * 2 + 1 = o + (k * 2 + 1) by omega]; exact g3'⟩
def findI : Fs → Txt → Int → Int
 | [], _, _ => -1
 | p :: F, n, i => if p.1 = n then i else findI F n (i + 1)
theorem findI_spec : ∀ (F : Fs) (n : Txt) (i : Int), (findI F n i = -1 ∧ getS F n = none) ∨ ∃ j b, findI F n i = i + (j : Nat) ∧ F[j]? = some (n, b) ∧ getS F n = some b
 | [], _, _ => .inl ⟨rfl, rfl⟩
 | p :: F, n, i => by
  unfold findI getS
  by_cases h : p.1 = n
  ·refine .inr ⟨0, p.2, ?_, ?_, ?_⟩
   ·rw [if_pos h]; omega
   ·rw [List.getElem?_cons_zero, ← h]
   ·rw [List.find?_cons_of_pos (by simp [h])]; rfl
  ·rw [if_neg h, List.find?_cons_of_neg (by simp [h])]
   rcases findI_spec F n (i + 1) with ⟨h1, h2⟩ | ⟨j, b, h1, h2, h3⟩
   ·exact .inl ⟨h1, h2⟩
   ·refine .inr ⟨j + 1, b, by rw [h1]; omega, by rw [List.getElem?_cons_succ]; exact h2, h3⟩
theorem findI_cons (p : Txt × Txt) (F : Fs) (n : Txt) (i : Int) : findI (p :: F) n i = if p.1 = n then i else findI F n (i + 1) := rfl
theorem take_snocE {α : Type} {l : List α} {i : Nat} (h : i < l.length) : l.take (i + 1) = l.take i ++ [l[i]] := List.take_succ_eq_append_getElem h
structure FiX where
 i : Nat
 ii : Int
theorem rfind_K {v : Value} {F : Fs} {n : Txt} (hf : PlFs M v F) (hl : F.length ≤ 1000000) : K Tryz.prog 72 [v, str n] M H fun v' M' H' => v' = .int .i64 (findI F n 0) ∧ M' = M ∧ H' = H := by
 obtain ⟨A, cap, es, rfl, h1, h2, h3, h4, rfl⟩ := hf
 rw [List.length_map] at hl
 refine K.enterK Tryz.func72 rfl rfl rfl ?_
 intro Q hNP hQ
 (repeat' (first | (refine a_go ?_; intros) | refine a_sp (fun h => ?_) fun h => ?_ | fail))
 apply C.loop (fun y : FiX => (y.i : Int) = y.ii ∧ y.i ≤ es.length ∧ findI (es.map feP) n 0 = findI ((es.drop y.i).map feP) n y.ii)
  (fun y => [(0, .slice A es.length cap), (1, str n), (5, .int .i64 y.ii)]) (fun _ => M) (fun _ => H) (fun y => es.length - y.i) ⟨0, 0⟩
 ·exact ⟨rfl, Nat.zero_le _, rfl⟩
 ·(exact a_subs)
 ·exact rfl
 ·exact rfl
 rintro ⟨i, ii⟩ ⟨hii, hi, hf⟩
 dsimp only at hii hi hf ⊢
 by_cases hix : i < es.length
 ·obtain ⟨b, o, c, e, fr, rfl, hM, hc0, hc1⟩ := fe_at h3 hix
  rw [show o + i * 2 = o + ii.toNat * 2 by omega] at hc0 hc1
  rw [List.drop_eq_getElem_cons hix, List.map_cons, findI_cons] at hf
  (repeat' (first | refine a_mv ?_ | (apply R.step; (first | (apply Ok.loadP; exact rfl; exact rfl; exact hM; exact hc0) | (apply Ok.eqT; exact rfl; exact rfl)); exact rfl) | (refine a_go ?_; intros) | refine a_sp (fun h => ?_) fun h => ?_ | fail))
  ·have he : es[i].n = n := by assumption
   have hf : findI (es.map feP) n 0 = ii := hf.trans (if_pos he)
   (refine Fin.rt ?_)
   exact ⟨by rw [hf], rfl, rfl⟩
  ·have he : ¬ es[i].n = n := by assumption
   have hf : findI (es.map feP) n 0 = findI ((es.drop (i + 1)).map feP) n (ii + 1) := hf.trans (if_neg he)
   refine Fin.again (⟨i + 1, ii + 1⟩ : FiX) ⟨by dsimp only; omega, by dsimp only; omega, hf⟩ (by dsimp only; omega) ?_ rfl rfl
   (exact a_subs)
  all_goals (exfalso; omega)
 have hie : i = es.length := by omega
 subst hie
 rw [List.drop_length] at hf
 (repeat' (first | (refine a_go ?_; intros) | refine a_sp (fun h => ?_) fun h => ?_ | fail))
 any_goals (exfalso; omega)
 (refine Fin.rt ?_)
 exact ⟨by rw [hf]; rfl, rfl, rfl⟩
structure WoX where
 i : Nat
 ii : Int
 os : List FE
 ov : Value
 ho : Hp
theorem rwithout_K {v : Value} {F : Fs} {n : Txt} (hf : PlFs M v F) (hl : F.length ≤ 1000000) : K Tryz.prog 98 [v, str n] M H fun v' M' H' => PlFs M' v' (delS F n) ∧ M.le M' ∧ H' = H := by
 obtain ⟨A, cap, es, rfl, h1, h2, h3, h4, rfl⟩ := hf
 rw [List.length_map] at hl
 refine K.enterK Tryz.func98 rfl rfl rfl ?_
 intro Q hNP hQ
 (repeat' (first | (refine a_go ?_; intros) | refine a_sp (fun h => ?_) fun h => ?_ | fail))
 apply C.loop (fun y : WoX => (y.i : Int) = y.ii ∧ y.i ≤ es.length ∧ y.os.length ≤ y.i ∧ EsOk M y.os ∧ y.os.map feP = delS ((es.take y.i).map feP) n ∧ Own 37 2 y.ov y.os.length (y.os.map feC).flatten y.ho)
  (fun y => [(0, .slice A es.length cap), (1, str n), (5, y.ov), (6, .int .i64 y.ii)]) (fun _ => M) (fun y => y.ho ++ H) (fun y => es.length - y.i) ⟨0, 0, [], .slice none 0 0, []⟩
 ·exact ⟨rfl, Nat.zero_le _, Nat.le_refl _, fun _ h => absurd h List.not_mem_nil, rfl, Own.nil _ _⟩
 ·(exact a_subs)
 ·exact rfl
 ·exact rfl
 rintro ⟨i, ii, os, ov, ho⟩ ⟨hii, hi, hol, hok, hos, hown⟩
 dsimp only at hii hi hol hok hos hown ⊢
 obtain ⟨AO, co, rfl, k1, k2⟩ := hown.form
 by_cases hix : i < es.length
 ·obtain ⟨b, o, c, e, fr, hA, hM, hc0, hc1⟩ := fe_at h3 hix
  subst hA
  rw [show o + i * 2 = o + ii.toNat * 2 by omega] at hc0 hc1
  have hei := h4 _ (List.getElem_mem hix)
  have htk : (es.take (i + 1)).map feP = (es.take i).map feP ++ [feP es[i]] := by rw [take_snocE hix, List.map_append]; rfl
  (repeat' (first | refine a_mv ?_ | (apply R.step; (first | (apply Ok.loadP; exact rfl; exact rfl; exact hM; exact hc0) | (apply Ok.neT; exact rfl; exact rfl)); exact rfl) | (refine a_go ?_; intros) | refine a_sp (fun h => ?_) fun h => ?_ | fail))
  ·have he : ¬ es[i].n = n := by assumption
   obtain ⟨Ai, ci, hvi, _⟩ := hei
   rw [hvi] at hc1
   have hagg : ∀ j u, [str es[i].n, Value.slice Ai es[i].b.length ci][j]? = some u → c[o + ii.toNat * 2 + j]? = some u := by
    intro j u hj
    match j, hj with
    | 0, hj => cases hj; exact hc0
    | 1, hj => cases hj; exact hc1
   (repeat' (first | refine a_mv ?_ | (apply R.step; (apply Ok.loadAggP (vs := [str es[i].n, .slice Ai es[i].b.length ci]); exact rfl; exact rfl; exact hM; exact rfl; exact hagg); exact rfl) | (refine a_go ?_; intros) | refine a_sp (fun h => ?_) fun h => ?_ | fail))
   (apply R.append (news := [str es[i].n, .slice Ai es[i].b.length ci]) (k := 1); exact rfl; exact rfl; exact hown; (exact a_tk); exact Rd.at_ (l := [str es[i].n, .slice Ai es[i].b.length ci]) (by (exact a_at)) (fun j x h => by rw [Nat.zero_add]; exact h); exact rfl; (intro u hu; simp only [List.mem_cons, List.not_mem_nil, or_false] at hu; rcases hu with rfl | rfl <;> rfl); omega; exact rfl; decide; decide; exact rfl; rintro v3 hp3 ho3)
   (repeat' (first | (refine a_go ?_; intros) | refine a_sp (fun h => ?_) fun h => ?_ | fail))
   (apply Fin.arr (H2 := hp3 ++ H); (exact a_arrs))
   refine Fin.again (⟨i + 1, ii + 1, os ++ [es[i]], v3, hp3⟩ : WoX) ⟨by dsimp only; omega, by dsimp only; omega, by dsimp only; rw [List.length_append]; show _ + 1 ≤ _; omega, ?_, ?_, ?_⟩ (by dsimp only; omega) ?_ rfl rfl
   ·intro e he
    rcases List.mem_append.1 he with he | he
    ·exact hok e he
    ·rw [List.mem_singleton] at he
     rw [he]
     exact h4 _ (List.getElem_mem hix)
   ·dsimp only
    rw [htk, List.map_append, hos]
    unfold delS
    rw [List.filter_append, List.filter_cons_of_pos (by simp [feP, he])]
    rfl
   ·dsimp only
    rw [feC_snoc, List.length_append]
    unfold feC
    rw [hvi]
    exact ho3
   ·(exact a_subs)
  ·have he : es[i].n = n := by assumption
   refine Fin.again (⟨i + 1, ii + 1, os, _, ho⟩ : WoX) ⟨by dsimp only; omega, by dsimp only; omega, by dsimp only; omega, hok, ?_, hown⟩ (by dsimp only; omega) ?_ rfl rfl
   ·dsimp only
    rw [htk, hos]
    unfold delS
    rw [List.filter_append, List.filter_cons_of_neg (by simp [feP, he])]
    simp
   ·(exact a_subs)
  all_goals (exfalso; omega)
 have hie : i = es.length := by omega
 subst hie
 rw [List.take_length] at hos
 (repeat' (first | (refine a_go ?_; intros) | refine a_sp (fun h => ?_) fun h => ?_ | fail))
 any_goals (exfalso; omega)
 (apply Fin.ice (hp := ho) (H1 := H) (by (exact a_arr)); intro M2 hM2 hin2)
 (refine Fin.rA (H) ?_)
 exact ⟨⟨AO, co, os, rfl, k1, by unfold maxLen at k2; omega, hown.plIn hin2, hok.mono hM2, hos⟩, hM2, rfl⟩
def insF : Fs → Txt × Txt → Fs
 | [], p => [p]
 | q :: F, p => if Op.bytesLess q.1 p.1 then q :: insF F p else p :: q :: F
theorem insF_cons (q : Txt × Txt) (F : Fs) (p : Txt × Txt) : insF (q :: F) p = if Op.bytesLess q.1 p.1 then q :: insF F p else p :: q :: F := rfl
def insE : List FE → FE → List FE
 | [], p => [p]
 | q :: F, p => if Op.bytesLess q.n p.n then q :: insE F p else p :: q :: F
theorem insE_map : ∀ (es : List FE) (e : FE), (insE es e).map feP = insF (es.map feP) (feP e)
 | [], _ => rfl
 | q :: es, e => by
  unfold insE
  rw [List.map_cons, insF_cons]
  show (if Op.bytesLess q.n e.n then q :: insE es e else e :: q :: es).map feP = if Op.bytesLess q.n e.n then feP q :: insF (es.map feP) (feP e) else feP e :: feP q :: es.map feP
  split
  ·rw [List.map_cons, insE_map es e]
  ·rfl
structure WiX where
 v : Value
 b : Nat
 hp : Hp
theorem rwith_K {v fv : Value} {F : Fs} {n b : Txt} (hf : PlFs M v F) (hb : PlB M fv b) (hl : F.length ≤ 1000000) : K Tryz.prog 97 [v, .agg #[str n, fv]] M H fun v' M' H' => PlFs M' v' (insF (delS F n) (n, b)) ∧ M.le M' ∧ H' = H := by
 refine K.enterK Tryz.func97 rfl rfl rfl ?_
 intro Q hNP hQ
 have hb0 := hb
 obtain ⟨Ab, cb, rfl, hb1, hb2, hb3⟩ := hb0
 (repeat' (first | (refine a_bx ?_; intro bx) | (refine a_bl ?_; intro bl) | (refine a_go ?_; intros) | refine a_sp (fun h => ?_) fun h => ?_ | fail))
 (apply R.call; (exact a_evs); exact rfl; exact rwithout_K (n := n) hf hl; rintro v1 M1 _ ⟨hf1, hM1, rfl⟩)
 replace hb := hb.mono hM1
 have hl1 : (delS F n).length ≤ 1000000 := Nat.le_trans (List.length_filter_le _ _) hl
 generalize delS F n = G at hf1 hQ hl1
 obtain ⟨A, cap, es, rfl, h1, h2, h3, h4, rfl⟩ := hf1
 rw [List.length_map] at hl1
 (repeat' (first | (refine a_bx ?_; intro bx) | (refine a_bl ?_; intro bl) | (refine a_g0 ?_; intros) | refine a_s3 (fun h => ?_) fun h => ?_ | fail))
 apply C.seqCut (fun y : FiX => (y.i : Int) = y.ii ∧ y.i ≤ es.length ∧ insE es ⟨n, .slice Ab b.length cb, b⟩ = es.take y.i ++ ⟨n, .slice Ab b.length cb, b⟩ :: es.drop y.i)
  (fun y => [(0, .slice A es.length cap), (3, .pointer (some ⟨bx, 0, none⟩)), (5, .int .i64 y.ii)]) (fun _ => M1) (fun _ => (bx, .cells #[str n, .slice Ab b.length cb] 37 (0, 0)) :: H)
 ·(repeat' (first | (refine a_bx ?_; intro bx) | (refine a_bl ?_; intro bl) | (refine a_go ?_; intros) | refine a_sp (fun h => ?_) fun h => ?_ | fail))
  apply C.loop (fun y : FiX => (y.i : Int) = y.ii ∧ y.i ≤ es.length ∧ insE es ⟨n, .slice Ab b.length cb, b⟩ = es.take y.i ++ insE (es.drop y.i) ⟨n, .slice Ab b.length cb, b⟩)
   (fun y => [(0, .slice A es.length cap), (3, .pointer (some ⟨bx, 0, none⟩)), (5, .int .i64 y.ii)]) (fun _ => M1) (fun _ => (bx, .cells #[str n, .slice Ab b.length cb] 37 (0, 0)) :: H) (fun y => es.length - y.i) ⟨0, 0⟩
  ·exact ⟨rfl, Nat.zero_le _, rfl⟩
  ·(exact a_subs)
  ·exact rfl
  ·exact rfl
  rintro ⟨i, ii⟩ ⟨hii, hi, hins⟩
  dsimp only at hii hi hins ⊢
  by_cases hix : i < es.length
  ·obtain ⟨bb, o, c, e, fr, hA, hM, hc0, hc1⟩ := fe_at h3 hix
   subst hA
   rw [show o + i * 2 = o + ii.toNat * 2 by omega] at hc0 hc1
   have hdr := List.drop_eq_getElem_cons hix
   rw [hdr] at hins
   change _ = _ ++ if Op.bytesLess es[i].n n then _ else _ at hins
   (repeat' (first | (refine a_bx ?_; intro bx) | (refine a_bl ?_; intro bl) | (refine a_go ?_; intros) | refine a_sp (fun h => ?_) fun h => ?_ | fail))
   (apply C.regionO (ks := [1, 1, 1, 1, 1, 1, 1, 1, 1, 1, 1, 1, 1, 1]) (is := [0, 1, 2, 3, 4, 5, 6, 7, 8, 9, 10, 11, 12, 13]) (Hs := [(bx, .cells #[str n, .slice Ab b.length cb] 37 (0, 0))]); exact Mix.h; (first | exact Arr.all _ | (exact a_arr)); (exact a_np); (exact a_picked); kernel_rfl; intro _ e; subst e)
   (repeat' (first | (apply RP.step; intro _ _ _; (apply Ok.move; exact rfl); exact rfl) | (apply RP.step; intro _ _ hMx; (apply Ok.ltTr; exact rfl; exact rfl; omega); exact rfl) | (apply RP.stepT; exact rfl; exact rfl; exact rfl; intro _ _ hMx; (first | (apply Ok.loadP; exact rfl; exact rfl; exact hMx.2.2 _ _ hM; exact hc0) | (apply Ok.ltT; exact rfl; exact rfl)); exact rfl) | refine a_op ?_ | (apply RP.callQ; (exact a_evs); exact rfl)))
   (first | apply RP.nil0 | apply RP.nil)
   cases hlt : Op.bytesLess es[i].n n with
   | true =>
    rw [if_pos hlt] at hins
    (repeat' (first | (refine a_bx ?_; intro bx) | (refine a_bl ?_; intro bl) | (refine a_go ?_; intros) | refine a_sp (fun h => ?_) fun h => ?_ | fail))
    refine Fin.again (⟨i + 1, ii + 1⟩ : FiX) ⟨by dsimp only; omega, by dsimp only; omega, ?_⟩ (by dsimp only; omega) ?_ rfl rfl
    ·dsimp only
     rw [take_snocE hix, List.append_assoc]
     exact hins
    ·(exact a_subs)
   | false =>
    rw [if_neg (by rw [hlt]; decide)] at hins
    (repeat' (first | (refine a_bx ?_; intro bx) | (refine a_bl ?_; intro bl) | (refine a_go ?_; intros) | refine a_sp (fun h => ?_) fun h => ?_ | fail))
    refine Fin.join (⟨i, ii⟩ : FiX) ⟨hii, hi, ?_⟩ ?_ rfl rfl
    ·dsimp only
     rw [hdr]
     exact hins
    ·(exact a_subs)
  have hie : i = es.length := by omega
  subst hie
  (repeat' (first | (refine a_bx ?_; intro bx) | (refine a_bl ?_; intro bl) | (refine a_go ?_; intros) | refine a_sp (fun h => ?_) fun h => ?_ | fail))
  (apply C.regionO (ks := [1, 1, 1, 1, 1, 1, 1, 1, 1, 1, 1, 1, 1, 1]) (is := [0, 1, 2, 3, 4, 5, 6, 7, 8, 9, 10, 11, 12, 13]) (Hs := [(bx, .cells #[str n, .slice Ab b.length cb] 37 (0, 0))]); exact Mix.h; (first | exact Arr.all _ | (exact a_arr)); (exact a_np); (exact a_picked); kernel_rfl; intro _ e; subst e)
  (repeat' (first | (apply RP.step; intro _ _ _; (apply Ok.move; exact rfl); exact rfl) | (apply RP.step; intro _ _ hMx; (apply Ok.ltF; exact rfl; exact rfl; omega); exact rfl) | refine a_op ?_ | (apply RP.callQ; (exact a_evs); exact rfl)))
  (first | apply RP.nil0 | apply RP.nil)
  (repeat' (first | (refine a_bx ?_; intro bx) | (refine a_bl ?_; intro bl) | (refine a_go ?_; intros) | refine a_sp (fun h => ?_) fun h => ?_ | fail))
  refine Fin.join (⟨es.length, ii⟩ : FiX) ⟨hii, hi, ?_⟩ ?_ rfl rfl
  ·dsimp only
   rw [List.drop_length] at hins ⊢
   exact hins
  ·(exact a_subs)
 rintro ⟨i, ii⟩ ⟨hii, hi, hins⟩
 dsimp only at hii hi hins ⊢
 have hpt : Pl M1 A ((es.take i).map feC).flatten := by rw [← feC_take]; exact h3.take _
 have hpd : Pl M1 (adv A i 2 cap) ((es.drop i).map feC).flatten := by rw [← feC_drop]; exact h3.cut (by rw [feC_len]; omega)
 have hone1 := feC_one (es := es.take i) (fun e he => h4 e (List.mem_of_mem_take he))
 have hone2 := feC_one (es := es.drop i) (fun e he => h4 e (List.mem_of_mem_drop he))
 have hlt : ((es.take i).map feC).flatten.length = i * 2 := by rw [feC_len, List.length_take]; omega
 have hld : ((es.drop i).map feC).flatten.length = (es.length - i) * 2 := by rw [feC_len, List.length_drop]
 subst hii
 (repeat' (first | (refine a_bx ?_; intro bx) | (refine a_bl ?_; intro bl) | (refine a_go ?_; intros) | refine a_sp (fun h => ?_) fun h => ?_ | fail))
 (apply C.regionO (ks := [1, 1, 1, 1, 1, 1, 1, 1, 2, 2, 0, 0, 1]) (is := [0, 1, 2, 3, 5, 8, 9, 10, 4, 6, 7, 11, 12]) (Hs := [(bx, .cells #[str n, .slice Ab b.length cb] 37 (0, 0))]); exact Mix.h; (first | exact Arr.all _ | (exact a_arr)); (exact a_np); (exact a_picked); kernel_rfl; intro _ e; subst e)
 (repeat' (first | (apply RP.step; intro _ _ _; (apply Ok.move; exact rfl); exact rfl) | (apply RP.step; intro _ _ hMx; (first | (apply Ok.sliceHi; exact rfl; exact rfl; omega; omega) | (apply Ok.sliceLo; exact rfl; exact rfl; omega; omega)); exact rfl) | refine a_op ?_ | (apply RP.callQ; (exact a_evs); exact rfl)))
 apply RP.pair (I := fun y : WiX => Own 37 2 y.v i ((es.take i).map feC).flatten y.hp) (Lf := fun y => [(31, y.v), (33, .slice (some ⟨y.b, 0, none⟩) 1 1), (37, .slice (adv A i 2 cap) (es.length - i) (cap - i))]) (Mf := fun _ => M1) (Hf := fun y => y.hp ++ ((y.b, .cells [str n, .slice Ab b.length cb].toArray 37 (0, 0)) :: H))
 ·intro Kc hKc ops0
  (apply R.append (news := ((es.take i).map feC).flatten) (k := i); exact rfl; exact rfl; exact Own.nil _ _; exact Tk.none _; exact hpt.rd; exact hlt; exact hone1; omega; exact rfl; decide; decide; exact rfl; rintro w1 hw1 ho1)
  rw [Nat.zero_add, List.nil_append] at ho1
  apply R.nil
  apply Fin.ke hKc (Hx := hw1 ++ H) (Mem.le_refl _) (by (exact a_arr))
  intro ops1
  (apply R.buildSlice; (exact a_prt); exact rfl; exact rfl; (exact a_fills); exact rfl; intro bl)
  apply R.nil
  apply Fin.meet (⟨w1, bl, hw1⟩ : WiX) ho1 (Mem.le_refl _) ?_ rfl (by (exact a_arr))
  dsimp only
  (exact a_subs)
 ·intro Kc hKc ops0
  (apply R.buildSlice; (exact a_prt); exact rfl; exact rfl; (exact a_fills); exact rfl; intro bl)
  apply R.nil
  apply Fin.ke hKc (Hx := (bl, .cells [str n, .slice Ab b.length cb].toArray 37 (0, 0)) :: H) (Mem.le_refl _) (by (exact a_arr))
  intro ops1
  (apply R.append (news := ((es.take i).map feC).flatten) (k := i); exact rfl; exact rfl; exact Own.nil _ _; exact Tk.none _; exact hpt.rd; exact hlt; exact hone1; omega; exact rfl; decide; decide; exact rfl; rintro w1 hw1 ho1)
  rw [Nat.zero_add, List.nil_append] at ho1
  apply R.nil
  apply Fin.meet (⟨w1, bl, hw1⟩ : WiX) ho1 (Mem.le_refl _) ?_ rfl (by (exact a_arr))
  dsimp only
  (exact a_subs)
 rintro ⟨w1, bl, hw1⟩ ho1
 dsimp only at ho1 ⊢
 obtain ⟨A1, c1, rfl, _, _⟩ := ho1.form
 (apply RP.eff; intro Kc hKc ops0)
 (apply R.append (news := [str n, .slice Ab b.length cb]) (k := 1); exact rfl; exact rfl; exact ho1; (exact a_tk); exact Rd.at_ (l := [str n, .slice Ab b.length cb]) (by (exact a_at)) (fun j x h => by rw [Nat.zero_add]; exact h); exact rfl; (intro u hu; simp only [List.mem_cons, List.not_mem_nil, or_false] at hu; rcases hu with rfl | rfl <;> rfl); omega; exact rfl; decide; decide; exact rfl; rintro w2 hw2 ho2)
 obtain ⟨A2, c2, rfl, _, _⟩ := ho2.form
 (apply R.nil; apply Fin.kp (Hx := hw2 ++ H) hKc; exact Mem.le_refl _; (exact a_arrs))
 (apply RP.eff; intro Kc hKc ops0)
 (apply R.append (news := ((es.drop i).map feC).flatten) (k := es.length - i); exact rfl; exact rfl; exact ho2; (exact a_tk); exact hpd.rd; exact hld; exact hone2; omega; exact rfl; decide; decide; exact rfl; rintro w3 hw3 ho3)
 obtain ⟨A3, c3, rfl, k1, k2⟩ := ho3.form
 (apply R.nil; apply Fin.kp (Hx := hw3 ++ H) hKc; exact Mem.le_refl _; (exact a_arrs))
 (repeat' (first | refine a_op ?_ | (apply RP.callQ; (exact a_evs); exact rfl)))
 (first | apply RP.nil0 | apply RP.nil)
 (repeat' (first | (refine a_bx ?_; intro bx) | (refine a_bl ?_; intro bl) | (refine a_go ?_; intros) | refine a_sp (fun h => ?_) fun h => ?_ | fail))
 have hE : ((es.take i).map feC).flatten ++ [str n, .slice Ab b.length cb] ++ ((es.drop i).map feC).flatten = ((insE es ⟨n, .slice Ab b.length cb, b⟩).map feC).flatten := by
  rw [hins, List.map_append, List.map_cons, List.flatten_append, List.flatten_cons, List.append_assoc]
  rfl
 have hL : (insE es ⟨n, .slice Ab b.length cb, b⟩).length = i + 1 + (es.length - i) := by
  rw [hins, List.length_append, List.length_cons, List.length_take, List.length_drop]
  omega
 rw [hE] at ho3
 (apply Fin.ice (hp := hw3) (H1 := H) (by (exact a_arr)); intro M2 hM2 hin2)
 (refine Fin.rA (H) ?_)
 refine ⟨⟨A3, c3, insE es ⟨n, .slice Ab b.length cb, b⟩, by rw [hL], by rw [hL]; exact k1, by unfold maxLen at k2; omega, ho3.plIn hin2, ?_, insE_map _ _⟩, hM1.trans_ hM2, rfl⟩
 intro e he
 rw [hins] at he
 rcases List.mem_append.1 he with he | he
 ·exact (h4 e (List.mem_of_mem_take he)).mono hM2
 ·rcases List.mem_cons.1 he with rfl | he
  ·exact hb.mono hM2
  ·exact (h4 e (List.mem_of_mem_drop he)).mono hM2
end Go.Sx
end
section
namespace Go.Sx
open Go Go.Proofs Go.RowKit
attribute [local irreducible] C R Fin K Own OwnT Rd Pl Ok KOf RetOk OpsOf RP KP Res NoPanic KV KE MapS ItS EntS FsO FsR RowD PlD DkO PlFs
variable {M M' : Mem} {H H1 H2 : Hp}
def doneF (F : Fs) : De → Fs
 | .app n b => insF (delS F n) (n, fileD F n ++ b)
 | .trc n k => insF (delS F n) (n, (fileD F n).take k)
 | .ren n t => insF (delS (delS F n) t) (t, fileD F n)
 | .rem n => delS F n
def smallX (F : Fs) : De → Prop
 | .app _ b => b.length ≤ 1048576
 | .trc n k => k ≤ (fileD F n).length
 | _ => True
theorem Fit.small {F : Fs} {x : De} (hn : (keyS F).Nodup) (h : Fit F x) : smallX F x := by
 cases x with
 | app n b =>
  have h1 := h.1
  have h2 := sumF_put (b := fileD F n ++ b) (n := n) hn
  change sumF (putS F n (fileD F n ++ b)) ≤ _ at h1
  have h3 := fileD_len (F := F) (n := n)
  rw [List.length_append] at h2
  show b.length ≤ _
  omega
 | trc n k => exact h.2
 | ren n t => trivial
 | rem n => trivial
def nameX : De → Txt
 | .app n _ => n
 | .trc n _ => n
 | .ren n _ => n
 | .rem n => n
structure DnX where
 v : Value
 hp : Hp
theorem PlFs.get {v : Value} {F : Fs} {j : Nat} {n b : Txt} (h : PlFs M v F) (hj : F[j]? = some (n, b)) : ∃ A cap bb o c e fr Af cf, v = .slice A F.length cap ∧ A = some ⟨bb, o, none⟩ ∧ M.at_ bb = some (.cells c e fr) ∧ c[o + j * 2 + 0]? = some (str n) ∧ c[o + j * 2 + 1]? = some (.slice Af b.length cf) ∧ b.length ≤ cf ∧ cf ≤ 9223372036854775807 ∧ Pl M Af (b.map bv) := by
 unfold PlFs at h
 obtain ⟨A, cap, es, rfl, h1, h2, h3, h4, rfl⟩ := h
 obtain ⟨hjl, hje⟩ := List.getElem?_eq_some_iff.1 hj
 rw [List.length_map] at hjl
 rw [List.getElem_map] at hje
 obtain ⟨bb, o, c, e, fr, g1, g2, g3, g4⟩ := fe_at h3 hjl
 obtain ⟨Af, cf, k1, k2, k3, k4⟩ := h4 _ (List.getElem_mem hjl)
 rw [k1] at g4
 have e1 : es[j].n = n := congrArg Prod.fst hje
 have e2 : es[j].b = b := congrArg Prod.snd hje
 rw [e1] at g3
 rw [e2] at g4 k2 k4
 exact ⟨A, cap, bb, o, c, e, fr, Af, cf, by rw [List.length_map], g1, g2, g3, g4, k2, k3, k4⟩
theorem fileD_some {F : Fs} {n b : Txt} (h : getS F n = some b) : fileD F n = b := by
 unfold fileD
 rw [h]
 rfl
theorem fileD_none {F : Fs} {n : Txt} (h : getS F n = none) : fileD F n = [] := by
 unfold fileD
 rw [h]
 rfl
theorem rdone_K {v : Value} {F : Fs} {x : De} {c : List Value} (hf : PlFs M v F) (hl : F.length ≤ 1000000) (hs : sumF F ≤ 1048576) (hx : DeC M x c) (hsm : smallX F x) : K Tryz.prog 62 [v, .agg c.toArray] M H fun v' M' H' => PlFs M' v' (doneF F x) ∧ M.le M' ∧ H' = H := by
 refine K.enterK Tryz.func62 rfl rfl rfl ?_
 intro Q hNP hQ
 obtain ⟨c0, c1, c2, c3, c4, hc, hc1⟩ : ∃ c0 c1 c2 c3 c4, c = [c0, c1, c2, c3, c4] ∧ c1 = str (nameX x) := by
  cases x with
  | app n b => obtain ⟨bv, rfl, _⟩ := hx; exact ⟨_, _, _, _, _, rfl, rfl⟩
  | trc n k => cases hx; exact ⟨_, _, _, _, _, rfl, rfl⟩
  | ren n k => cases hx; exact ⟨_, _, _, _, _, rfl, rfl⟩
  | rem n => cases hx; exact ⟨_, _, _, _, _, rfl, rfl⟩
 have hfl := fileD_len (F := F) (n := nameX x)
 have hll : ∃ A cap, v = .slice A F.length cap := by
  unfold PlFs at hf
  obtain ⟨A, cap, es, rfl, h1, h2, h3, h4, rfl⟩ := hf
  exact ⟨A, cap, by rw [List.length_map]⟩
 obtain ⟨A, cap, rfl⟩ := hll
 subst hc hc1
 (repeat' (first | (refine a_bx ?_; intro bx) | (refine a_g0 ?_; intros) | refine a_s3 (fun h => ?_) fun h => ?_ | fail))
 apply C.seqCut (fun y : DnX => Own 5 1 y.v (fileD F (nameX x)).length ((fileD F (nameX x)).map bv) y.hp)
  (fun y => [(0, .slice A F.length cap), (3, .pointer (some ⟨bx, 0, none⟩)), (5, y.v)]) (fun _ => M) (fun y => (bx, .cells #[c0, str (nameX x), c2, c3, c4] 113 (0, 0)) :: (y.hp ++ H))
 ·(repeat' (first | (refine a_bx ?_; intro bx) | (refine a_go ?_; intros) | refine a_sp (fun h => ?_) fun h => ?_ | fail))
  (apply R.call; (exact a_evs); exact rfl; (apply K.arr (h := rfind_K (n := nameX x) (H := (bx, .cells #[c0, str (nameX x), c2, c3, c4] 113 (0, 0)) :: H) hf hl)); (exact a_arrs); rintro _ M _ ⟨rfl, rfl, rfl⟩)
  rcases findI_spec F (nameX x) 0 with ⟨h1, h2⟩ | ⟨j, b, h1, h2, h3⟩
  ·rw [h1]
   (repeat' (first | (refine a_bx ?_; intro bx) | (refine a_go ?_; intros) | refine a_sp (fun h => ?_) fun h => ?_ | fail))
   refine Fin.join (⟨.slice none 0 0, []⟩ : DnX) (by dsimp only; rw [fileD_none h2]; exact Own.nil _ _) ?_ rfl rfl
   (exact a_subs)
  ·rw [h1]
   rw [fileD_some h3] at hfl
   obtain ⟨A', cap', bb, o, cc, e, fr, Af, cf, hv, rfl, hM, g1, g2, g3, g4, g5⟩ := hf.get h2
   cases hv
   rw [show o + j * 2 = o + (0 + (j : Int)).toNat * 2 by omega] at g2
   have hjl : j < F.length := (List.getElem?_eq_some_iff.1 h2).1
   have hge : (0 : Int) ≤ 0 + (j : Int) := by omega
   (repeat' (first | refine a_mv ?_ | (apply R.step; (first | (apply Ok.geTr; exact rfl; exact rfl; exact hge) | (apply Ok.loadP; exact rfl; exact rfl; exact hM; exact g2)); exact rfl) | (refine a_bx ?_; intro bx) | (refine a_go ?_; intros) | refine a_sp (fun h => ?_) fun h => ?_ | fail))
   (apply R.append (news := b.map bv) (k := b.length); exact rfl; exact rfl; exact Own.empty; (exact a_tk); exact g5.rd; (rw [List.length_map, Nat.mul_one]); exact bv_one _; omega; exact rfl; decide; decide; exact rfl; rintro v4 hp4 hown4)
   rw [List.nil_append, Nat.zero_add] at hown4
   (repeat' (first | (refine a_bx ?_; intro bx) | (refine a_go ?_; intros) | refine a_sp (fun h => ?_) fun h => ?_ | fail))
   (apply Fin.arr (H2 := (bx, .cells #[c0, str (nameX x), c2, c3, c4] 113 (0, 0)) :: (hp4 ++ H)); (exact a_arrs))
   refine Fin.join (⟨v4, hp4⟩ : DnX) (by dsimp only; rw [fileD_some h3]; exact hown4) ?_ rfl rfl
   (exact a_subs)
 rintro ⟨v1, hp1⟩ hown
 dsimp only at hown ⊢
 obtain ⟨A1, k1, rfl, _, _⟩ := hown.form
 cases x with
 | app n b =>
  obtain ⟨fv, hc, hb⟩ := hx
  cases hc
  obtain ⟨Ab, cb, rfl, q1, q2, q3⟩ := hb
  change b.length ≤ 1048576 at hsm
  change (fileD F n).length ≤ _ at hfl
  change Own _ _ _ (fileD F n).length _ _ at hown
  (repeat' (first | (refine a_bx ?_; intro bx) | (refine a_go ?_; intros) | refine a_sp (fun h => ?_) fun h => ?_ | fail))
  (apply C.regionO (ks := [1, 1, 1, 1, 1, 1, 0, 1, 0, 1]) (is := [0, 1, 2, 3, 4, 5, 6, 7, 8, 9]) (Hs := [(bx, .cells #[.int .i64 0, str n, str [], .slice Ab b.length cb, .int .i64 0] 113 (0, 0))]); exact Mix.h; (first | exact Arr.all _ | (exact a_arr)); (exact a_np); (exact a_picked); kernel_rfl; intro _ e; subst e)
  (repeat' (first | refine a_op ?_ | (apply RP.callQ; (exact a_evs); exact rfl)))
  (apply RP.eff; intro Kc hKc ops0)
  (apply R.append (news := b.map bv) (k := b.length); exact rfl; exact rfl; exact hown; (exact a_tk); exact q3.rd; (rw [List.length_map, Nat.mul_one]); exact bv_one _; omega; exact rfl; decide; decide; exact rfl; rintro v4 hp4 hown4)
  rw [← List.map_append, ← List.length_append] at hown4
  (apply R.ice (hp := hp4) (H1 := (bx, .cells #[.int .i64 0, str n, str [], .slice Ab b.length cb, .int .i64 0] 113 (0, 0)) :: H) (by (exact a_arr)); intro M2 hM2 hin2)
  have hb4 := hown4.plB hin2
  obtain ⟨A4, k4, rfl, _, _⟩ := hown4.form
  (apply R.nil; apply Fin.kpB (E := []) hKc; exact hM2; (exact a_arr))
  (repeat' (first | refine a_op ?_ | (apply RP.callQ; (exact a_evs); exact rfl)))
  (apply RP.eff; intro Kc hKc ops0)
  (apply R.call; (exact a_evs); exact rfl; exact rwith_K (hf.mono hM2) hb4 hl; rintro v5 M5 _ ⟨hf5, hM5, rfl⟩)
  (apply R.nil; apply Fin.kpB (E := []) hKc; exact hM5; (exact a_arr))
  (repeat' (first | refine a_op ?_ | (apply RP.callQ; (exact a_evs); exact rfl)))
  (first | apply RP.nil0 | apply RP.nil)
  (repeat' (first | (refine a_bx ?_; intro bx) | (refine a_go ?_; intros) | refine a_sp (fun h => ?_) fun h => ?_ | fail))
  (refine Fin.rA (H) ?_)
  exact ⟨hf5, hM2.trans_ hM5, rfl⟩
 | trc n k =>
  cases hx
  change k ≤ (fileD F n).length at hsm
  change (fileD F n).length ≤ _ at hfl
  change Own _ _ _ (fileD F n).length _ _ at hown
  (repeat' (first | (refine a_bx ?_; intro bx) | (refine a_go ?_; intros) | refine a_sp (fun h => ?_) fun h => ?_ | fail))
  (apply C.ice (hp := hp1) (H1 := (bx, .cells #[.int .i64 1, str n, str [], .slice none 0 0, .int .i64 (k : Int)] 113 (0, 0)) :: H) (by (exact a_arr)); intro M2 hM2 hin2)
  have hb2 := hown.plB hin2
  (apply C.regionO (ks := [1, 1, 1, 1, 1, 1, 1, 1, 0, 1]) (is := [0, 1, 2, 3, 4, 5, 6, 7, 8, 9]) (Hs := [(bx, .cells #[.int .i64 1, str n, str [], .slice none 0 0, .int .i64 ↑k] 113 (0, 0))]); exact Mix.h; (first | exact Arr.all _ | (exact a_arr)); (exact a_np); (exact a_picked); kernel_rfl; intro _ e; subst e)
  (repeat' (first | (apply RP.step; intro _ _ _; (apply Ok.move; exact rfl); exact rfl) | (apply RP.step; intro _ _ hMx; (apply Ok.sliceHi; exact rfl; exact rfl; omega; (have hle := hsm; have hk1 : (fileD F n).length ≤ k1 := ‹_›; omega)); exact rfl) | refine a_op ?_ | (apply RP.callQ; (exact a_evs); exact rfl)))
  have hk1 : (fileD F n).length ≤ k1 := ‹_›
  have hb3 : PlB M2 (.slice A1 (k : Int).toNat k1) ((fileD F n).take k) := by
   obtain ⟨A', c', e', g1, g2, g3⟩ := hb2
   cases e'
   have e1 : ((fileD F n).take k).length = k := by rw [List.length_take]; omega
   refine ⟨A1, k1, by rw [e1]; rfl, by omega, g2, ?_⟩
   have := g3.take k
   rwa [← List.map_take] at this
  (apply RP.eff; intro Kc hKc ops0)
  (apply R.call; (exact a_evs); exact rfl; exact rwith_K (hf.mono hM2) hb3 hl; rintro v5 M5 _ ⟨hf5, hM5, rfl⟩)
  (apply R.nil; apply Fin.kpB (E := []) hKc; exact hM5; (exact a_arr))
  (repeat' (first | refine a_op ?_ | (apply RP.callQ; (exact a_evs); exact rfl)))
  (first | apply RP.nil0 | apply RP.nil)
  (repeat' (first | (refine a_bx ?_; intro bx) | (refine a_go ?_; intros) | refine a_sp (fun h => ?_) fun h => ?_ | fail))
  (refine Fin.rA (H) ?_)
  exact ⟨hf5, hM2.trans_ hM5, rfl⟩
 | ren n t =>
  cases hx
  change (fileD F n).length ≤ _ at hfl
  change Own _ _ _ (fileD F n).length _ _ at hown
  (repeat' (first | (refine a_bx ?_; intro bx) | (refine a_go ?_; intros) | refine a_sp (fun h => ?_) fun h => ?_ | fail))
  (apply C.ice (hp := hp1) (H1 := (bx, .cells #[.int .i64 2, str n, str t, .slice none 0 0, .int .i64 0] 113 (0, 0)) :: H) (by (exact a_arr)); intro M2 hM2 hin2)
  have hb2 := hown.plB hin2
  (apply C.regionO (ks := [1, 1, 1, 1, 1, 1, 1, 0, 0, 1]) (is := [0, 1, 2, 4, 5, 6, 7, 3, 8, 9]) (Hs := [(bx, .cells #[.int .i64 2, str n, str t, .slice none 0 0, .int .i64 0] 113 (0, 0))]); exact Mix.h; (first | exact Arr.all _ | (exact a_arr)); (exact a_np); (exact a_picked); kernel_rfl; intro _ e; subst e)
  (repeat' (first | refine a_op ?_ | (apply RP.callQ; (exact a_evs); exact rfl)))
  (apply RP.eff; intro Kc hKc ops0)
  (apply R.call; (exact a_evs); exact rfl; exact rwithout_K (hf.mono hM2) hl; rintro v4 M4 _ ⟨hf4, hM4, rfl⟩)
  (apply R.nil; apply Fin.kpB (E := []) hKc; exact hM4; (exact a_arr))
  (repeat' (first | refine a_op ?_ | (apply RP.callQ; (exact a_evs); exact rfl)))
  (apply RP.eff; intro Kc hKc ops0)
  (apply R.call; (exact a_evs); exact rfl; exact rwith_K hf4 (hb2.mono hM4) (Nat.le_trans (List.length_filter_le _ _) hl); rintro v5 M5 _ ⟨hf5, hM5, rfl⟩)
  (apply R.nil; apply Fin.kpB (E := []) hKc; exact hM5; (exact a_arr))
  (repeat' (first | refine a_op ?_ | (apply RP.callQ; (exact a_evs); exact rfl)))
  (first | apply RP.nil0 | apply RP.nil)
  (repeat' (first | (refine a_bx ?_; intro bx) | (refine a_go ?_; intros) | refine a_sp (fun h => ?_) fun h => ?_ | fail))
  (refine Fin.rA (H) ?_)
  exact ⟨hf5, hM2.trans_ (hM4.trans_ hM5), rfl⟩
 | rem n =>
  cases hx
  (repeat' (first | (refine a_bx ?_; intro bx) | (refine a_go ?_; intros) | refine a_sp (fun h => ?_) fun h => ?_ | fail))
  (apply R.call; (exact a_evs); exact rfl; exact rwithout_K hf hl; rintro v4 M4 _ ⟨hf4, hM4, rfl⟩)
  (repeat' (first | (refine a_bx ?_; intro bx) | (refine a_go ?_; intros) | refine a_sp (fun h => ?_) fun h => ?_ | fail))
  (refine Fin.rA (H) ?_)
  exact ⟨hf4, hM4, rfl⟩
end Go.Sx
end
section
namespace Go.Sx
open Go Go.Proofs Go.RowKit
attribute [local irreducible] C R Fin K Own OwnT Rd Pl Ok KOf RetOk OpsOf RP KP Res NoPanic KV KE MapS ItS EntS FsO FsR RowD PlD
variable {M M' : Mem} {H H1 H2 : Hp}
theorem pending_K {db sb nb : Nat} {room fuse : Int} {A : Option Addr} {m c : Nat} {down : Bool} : K Tryz.prog 92 [.pointer (some ⟨db, 0, none⟩)] M ((db, dkB room sb nb (.slice A m c) fuse down) :: H) fun v' M' H' => v' = .int .i64 (m : Int) ∧ M' = M ∧ H' = (db, dkB room sb nb (.slice A m c) fuse down) :: H := by
 refine K.enterK Tryz.func92 rfl rfl rfl ?_
 intro Q hNP hQ
 unfold dkB at hQ ⊢
 (repeat' (first | (refine a_go ?_; intros) | refine a_sp (fun h => ?_) fun h => ?_ | fail))
 (refine Fin.rt ?_)
 exact ⟨rfl, rfl, rfl⟩
theorem pending_KD {db : Nat} {d : Dk} {hp : Hp} (ho : DkO M db d hp) : K Tryz.prog 92 [.pointer (some ⟨db, 0, none⟩)] M (hp ++ H) fun v' M' H' => v' = .int .i64 (d.ps.length : Int) ∧ M' = M ∧ H' = hp ++ H := by
 obtain ⟨h0, sb, nb, so, no, pv, hr, h1, h2, h3, rfl⟩ := ho
 obtain ⟨A, c, rfl, _, _⟩ := h3.form
 exact pending_K
end Go.Sx
end
section
namespace Go.Sx
open Go Go.Proofs Go.RowKit
attribute [local irreducible] C R Fin K Own OwnT Rd Pl Ok KOf RetOk OpsOf RP KP Res NoPanic KV KE MapS ItS EntS FsO FsR RowD PlD DkO PlFs
variable {M M' : Mem} {H H1 H2 : Hp}
def Srt (F : Fs) : Prop := (keyS F).Pairwise (fun a b => a < b)
theorem insF_perm : ∀ (F : Fs) (p : Txt × Txt), (insF F p).Perm (F ++ [p])
 | [], p => List.Perm.refl _
 | q :: F, p => by
  rw [insF_cons]
  split
  ·exact (insF_perm F p).cons q
  ·exact (List.perm_append_comm (l₁ := [p]) (l₂ := q :: F))
theorem Srt.nodup {F : Fs} (h : Srt F) : (keyS F).Nodup := h.imp fun h e => by
 subst e
 exact absurd h (List.lt_irrefl _)
theorem txt_lt_of {a b : Txt} (h1 : ¬ a < b) (h2 : a ≠ b) : b < a := by
 have h3 : b ≤ a := List.not_lt.1 h1
 by_cases h4 : b < a
 ·exact h4
 ·exact absurd (List.le_antisymm (List.not_lt.1 h4) h3) h2
theorem insF_srt : ∀ {F : Fs} {p : Txt × Txt}, Srt F → p.1 ∉ keyS F → Srt (insF F p)
 | [], p, _, _ => List.pairwise_singleton _ _
 | q :: F, p, h, hn => by
  rw [insF_cons, bytesLess_eq]
  unfold Srt keyS at h
  rw [List.map_cons, List.pairwise_cons] at h
  have hne : p.1 ≠ q.1 := fun e => hn (by rw [e]; exact List.mem_cons_self ..)
  have hnF : p.1 ∉ keyS F := fun hm => hn (List.mem_cons_of_mem _ hm)
  by_cases hq : q.1 < p.1
  ·rw [if_pos (by simpa using hq)]
   unfold Srt keyS
   rw [List.map_cons, List.pairwise_cons]
   refine ⟨fun k hk => ?_, insF_srt h.2 hnF⟩
   have hk2 := ((insF_perm F p).map Prod.fst).mem_iff.1 hk
   rw [List.map_append, List.mem_append] at hk2
   rcases hk2 with hk2 | hk2
   ·exact h.1 k hk2
   ·simp only [List.map_cons, List.map_nil, List.mem_singleton] at hk2
    rw [hk2]
    exact hq
  ·rw [if_neg (by simpa using hq)]
   have hpq : p.1 < q.1 := txt_lt_of hq (Ne.symm hne)
   unfold Srt keyS
   rw [List.map_cons, List.map_cons, List.pairwise_cons, List.pairwise_cons]
   refine ⟨fun k hk => ?_, h⟩
   rcases List.mem_cons.1 hk with rfl | hk
   ·exact hpq
   ·exact List.lt_trans hpq (h.1 k hk)
theorem del_mem {F : Fs} {n : Txt} : n ∉ keyS (delS F n) := by
 intro h
 obtain ⟨p, hp, e⟩ := List.mem_map.1 h
 have := (List.mem_filter.1 hp).2
 rw [e] at this
 simp at this
theorem del_srt {F : Fs} {n : Txt} (h : Srt F) : Srt (delS F n) := List.Pairwise.sublist (List.filter_sublist.map Prod.fst) h
theorem del_put_perm {F : Fs} {n b : Txt} (hn : (keyS F).Nodup) : (delS F n ++ [(n, b)]).Perm (putS F n b) := by
 by_cases h : n ∈ keyS F
 ·obtain ⟨p, hp, rfl⟩ := List.mem_map.1 h
  obtain ⟨l1, l2, rfl⟩ := List.append_of_mem hp
  have hn' : (keyS (l1 ++ (p.1, p.2) :: l2)).Nodup := hn
  rw [show l1 ++ p :: l2 = l1 ++ (p.1, p.2) :: l2 from rfl, delS_some hn', putS_old hn', List.append_assoc]
  exact List.perm_append_comm.append_left l1
 ·rw [delS_none h, putS_new h]
theorem ins_put_perm {F : Fs} {n b : Txt} (hn : (keyS F).Nodup) : (insF (delS F n) (n, b)).Perm (putS F n b) := (insF_perm _ _).trans (del_put_perm hn)
theorem ins_put_srt {F : Fs} {n b : Txt} (h : Srt F) : Srt (insF (delS F n) (n, b)) := insF_srt (del_srt h) del_mem
theorem doneF_srt {F : Fs} {x : De} (h : Srt F) : Srt (doneF F x) := by
 cases x with
 | app n b => exact ins_put_srt h
 | trc n k => exact ins_put_srt h
 | ren n t => exact ins_put_srt (del_srt h)
 | rem n => exact del_srt h
theorem doneF_perm {F G : Fs} {x : De} (hs : Srt F) (h : F.Perm G) : (doneF F x).Perm (doF G x) := by
 have hn := hs.nodup
 refine List.Perm.trans ?_ (doF_perm h hn x)
 cases x with
 | app n b => exact ins_put_perm hn
 | trc n k => exact ins_put_perm hn
 | ren n t => exact ins_put_perm (delS_keys hn)
 | rem n => exact List.Perm.refl _
theorem srt_names {F G : Fs} (hs : Srt F) (h : F.Perm G) : sortT (keyS G) = keyS F := by
 have e : sortT (keyS G) = sortT (keyS F) := sortT_of_perm (h.map Prod.fst).symm
 rw [e]
 unfold sortT
 refine List.mergeSort_of_pairwise ?_
 exact hs.imp fun h => by simpa using List.le_of_lt h
def rdkB (space : Int) (sv nv wv : Value) (fused : Bool) (fuse : Int) (down : Bool) : Obj := .cells [.int .i64 space, sv, nv, wv, .bool fused, .int .i64 fuse, .bool down].toArray 68 (0, 0)
def PlW (M : Mem) (wv : Value) (ps : List De) : Prop := ∃ A cap, wv = .slice A ps.length cap ∧ ps.length ≤ cap ∧ cap ≤ 9223372036854775807 ∧ PlD M A ps
theorem PlW.mono {wv : Value} {ps : List De} (hM : M.le M') (h : PlW M wv ps) : PlW M' wv ps := by
 obtain ⟨A, cap, h1, h2, h3, h4⟩ := h
 exact ⟨A, cap, h1, h2, h3, h4.mono hM⟩
theorem PlD.nil : PlD M none [] := by
 unfold PlD
 exact ⟨[], Pl.nil, rfl, fun i x c hx => by simp at hx⟩
theorem PlW.nil : PlW M (.slice none 0 0) [] := ⟨none, 0, rfl, Nat.le_refl _, by omega, PlD.nil⟩
structure RdX where
 F : Fs
 G : Fs
 sv : Value
 nv : Value
 wv : Value
 fused : Bool
 fuse : Int
structure RdI (M : Mem) (d : Dk) (x : RdX) : Prop where
 ok : d.ok
 sF : PlFs M x.sv x.F
 nG : PlFs M x.nv x.G
 pS : x.F.Perm d.S
 pN : x.G.Perm d.now
 srtF : Srt x.F
 srtG : Srt x.G
 w : PlW M x.wv d.ps
 fu : d.fuse = if x.fused then x.fuse else -1
 fu0 : x.fused = true → 0 ≤ x.fuse
def RdO (M : Mem) (rb : Nat) (d : Dk) (hp : Hp) : Prop := ∃ x : RdX, RdI M d x ∧ hp = [(rb, rdkB d.room x.sv x.nv x.wv x.fused x.fuse d.down)]
theorem RdI.mono {d : Dk} {x : RdX} (hM : M.le M') (h : RdI M d x) : RdI M' d x := ⟨h.ok, h.sF.mono hM, h.nG.mono hM, h.pS, h.pN, h.srtF, h.srtG, h.w.mono hM, h.fu, h.fu0⟩
theorem RdO.mono {rb : Nat} {d : Dk} {hp : Hp} (hM : M.le M') (h : RdO M rb d hp) : RdO M' rb d hp := by
 obtain ⟨x, h1, h2⟩ := h
 exact ⟨x, h1.mono hM, h2⟩
theorem RdI.len {d : Dk} {x : RdX} (h : RdI M d x) : x.G.length = d.now.length := h.pN.length_eq
theorem RdI.get {d : Dk} {x : RdX} (h : RdI M d x) (n : Txt) : getS x.G n = getS d.now n := getS_perm h.pN h.srtG.nodup n
theorem RdI.sum {d : Dk} {x : RdX} (h : RdI M d x) : sumF x.G = sumF d.now := sumF_perm h.pN
theorem rcounts_K {rb : Nat} {space fuse : Int} {sv nv wv : Value} {fused down : Bool} (hf : fused = true → 0 ≤ fuse ∧ fuse ≤ 9223372036854775807) : K Tryz.prog 69 [.pointer (some ⟨rb, 0, none⟩)] M ((rb, rdkB space sv nv wv fused fuse down) :: H) fun v' M' H' => M' = M ∧
  ((v' = .int .i64 3 ∧ (down = true ∨ (fused = true ∧ fuse = 0)) ∧ H' = (rb, rdkB space sv nv wv fused fuse true) :: H) ∨ (v' = .int .i64 0 ∧ down = false ∧ ¬ (fused = true ∧ fuse = 0) ∧ H' = (rb, rdkB space sv nv wv fused (if fused then fuse - 1 else fuse) false) :: H)) := by
 refine K.enterK Tryz.func69 rfl rfl rfl ?_
 intro Q hNP hQ
 unfold rdkB at hQ ⊢
 cases down with
 | true =>
  (repeat' (first | (refine a_go ?_; intros) | refine a_sp (fun h => ?_) fun h => ?_ | fail))
  (refine Fin.rA ((rb, .cells [.int .i64 space, sv, nv, wv, .bool fused, .int .i64 fuse, .bool true].toArray 68 (0, 0)) :: H) ?_)
  exact ⟨rfl, .inl ⟨rfl, .inl rfl, rfl⟩⟩
 | false =>
  cases fused with
  | false =>
   (repeat' (first | (refine a_go ?_; intros) | refine a_sp (fun h => ?_) fun h => ?_ | fail))
   (refine Fin.rA ((rb, .cells [.int .i64 space, sv, nv, wv, .bool false, .int .i64 fuse, .bool false].toArray 68 (0, 0)) :: H) ?_)
   exact ⟨rfl, .inr ⟨rfl, rfl, fun h => (by cases h.1), rfl⟩⟩
  | true =>
   have hf' := hf rfl
   by_cases h0 : fuse = 0
   ·subst h0
    (repeat' (first | (refine a_go ?_; intros) | refine a_sp (fun h => ?_) fun h => ?_ | fail))
    (refine Fin.rA ((rb, .cells [.int .i64 space, sv, nv, wv, .bool true, .int .i64 0, .bool true].toArray 68 (0, 0)) :: H) ?_)
    exact ⟨rfl, .inl ⟨rfl, .inr ⟨rfl, rfl⟩, rfl⟩⟩
   ·(repeat' (first | (refine a_go ?_; intros) | refine a_sp (fun h => ?_) fun h => ?_ | fail))
    ·exfalso
     exact h0 ‹_›
    (refine Fin.rA ((rb, .cells [.int .i64 space, sv, nv, wv, .bool true, .int .i64 (fuse - 1), .bool false].toArray 68 (0, 0)) :: H) ?_)
    exact ⟨rfl, .inr ⟨rfl, rfl, fun h => h0 h.2, rfl⟩⟩
theorem RdI.stop {d : Dk} {x : RdX} (h : RdI M d x) : stopD d ↔ (d.down = true ∨ (x.fused = true ∧ x.fuse = 0)) := by
 have h1 := h.fu
 have h2 := h.fu0
 unfold stopD
 cases hx : x.fused with
 | false =>
  rw [hx] at h1
  change d.fuse = -1 at h1
  rw [h1]
  constructor
  ·rintro (h | h)
   ·exact .inl h
   ·exact absurd h (by decide)
  ·rintro (h | h)
   ·exact .inl h
   ·exact absurd h.1 (by decide)
 | true =>
  rw [hx] at h1
  change d.fuse = x.fuse at h1
  rw [h1]
  constructor
  ·rintro (h | h)
   ·exact .inl h
   ·exact .inr ⟨rfl, h⟩
  ·rintro (h | h)
   ·exact .inl h
   ·exact .inr h.2
theorem rcounts_KD {rb : Nat} {d : Dk} {hp : Hp} (ho : RdO M rb d hp) : K Tryz.prog 69 [.pointer (some ⟨rb, 0, none⟩)] M (hp ++ H) fun v' M' H' => v' = .int .i64 (if stopD d then 3 else 0) ∧ M' = M ∧ ∃ hp', RdO M rb (cntD d) hp' ∧ H' = hp' ++ H ∧ (¬ stopD d → (cntD d).down = false) := by
 obtain ⟨x, hx, rfl⟩ := ho
 have hst := hx.stop
 have hok := cntD_ok hx.ok
 have hfu := hx.fu
 have hfu2 := hx.ok.2.1
 refine (rcounts_K (fun h => ⟨hx.fu0 h, ?_⟩)).mono ?_
 ·rw [h] at hfu
  change d.fuse = x.fuse at hfu
  omega
 rintro _ _ _ ⟨rfl, ⟨rfl, h1, rfl⟩ | ⟨rfl, h1, h2, rfl⟩⟩
 ·have hs : stopD d := hst.2 h1
  have e : cntD d = { d with down := true } := if_pos hs
  rw [e] at hok ⊢
  exact ⟨by rw [if_pos hs], rfl, _, ⟨x, ⟨hok, hx.sF, hx.nG, hx.pS, hx.pN, hx.srtF, hx.srtG, hx.w, hx.fu, hx.fu0⟩, rfl⟩, rfl, fun h => absurd hs h⟩
 ·have hs : ¬ stopD d := fun h => by
   rcases hst.1 h with h | h
   ·rw [h] at h1; cases h1
   ·exact h2 h
  have e : cntD d = { d with fuse := if 0 < d.fuse then d.fuse - 1 else d.fuse } := if_neg hs
  rw [e] at hok ⊢
  refine ⟨by rw [if_neg hs], rfl, [(rb, rdkB d.room x.sv x.nv x.wv x.fused (if x.fused then x.fuse - 1 else x.fuse) false)], ⟨{ x with fuse := if x.fused then x.fuse - 1 else x.fuse }, ⟨hok, hx.sF, hx.nG, hx.pS, hx.pN, hx.srtF, hx.srtG, hx.w, ?_, ?_⟩, ?_⟩, rfl, fun h => h1⟩
  ·dsimp only
   cases hxf : x.fused with
   | false =>
    rw [hxf] at hfu
    change d.fuse = -1 at hfu
    rw [hfu]
    rfl
   | true =>
    rw [hxf] at hfu
    change d.fuse = x.fuse at hfu
    have h0 := hx.fu0 hxf
    have hne : x.fuse ≠ 0 := fun e => h2 ⟨hxf, e⟩
    rw [if_pos (by omega), hfu]
    rfl
  ·dsimp only
   intro hxf
   have h0 := hx.fu0 hxf
   have hne : x.fuse ≠ 0 := fun e => h2 ⟨hxf, e⟩
   rw [hxf]
   show 0 ≤ x.fuse - 1
   omega
  ·dsimp only
   rw [h1]
theorem rname_K {n : Txt} (hn : n.length ≤ 9223372036854775807) : K Tryz.prog 70 [str n] M H fun v' M' H' => v' = .bool (namedB n) ∧ M' = M ∧ H' = H := by
 refine K.enterK Tryz.func70 rfl rfl rfl ?_
 intro Q hNP hQ
 (repeat' (first | refine a_mv ?_ | (apply R.step; (apply Ok.lenT; exact rfl); exact rfl) | (refine a_go ?_; intros) | refine a_sp (fun h => ?_) fun h => ?_ | fail))
 ·have h : (1 : Int) ≤ (n.length : Int) := by assumption
  (refine Fin.rt ?_)
  refine ⟨?_, rfl, rfl⟩
  unfold namedB
  congr 1
  rw [decide_eq_decide]
  constructor <;> intro <;> omega
 ·have h : ¬ (1 : Int) ≤ (n.length : Int) := by assumption
  (refine Fin.rt ?_)
  refine ⟨?_, rfl, rfl⟩
  unfold namedB
  rw [decide_eq_false (fun h1 => h (by omega))]
theorem PlFs.form {v : Value} {F : Fs} (h : PlFs M v F) : ∃ A cap es, v = .slice A es.length cap ∧ es.length ≤ cap ∧ cap ≤ 9223372036854775807 ∧ Pl M A (es.map feC).flatten ∧ EsOk M es ∧ es.map feP = F := by
 unfold PlFs at h
 exact h
theorem sumF_take {F : Fs} {i : Nat} (h : i < F.length) : sumF (F.take (i + 1)) = sumF (F.take i) + F[i].2.length := by
 rw [take_snocE h]
 unfold sumF
 rw [List.map_append, List.sum_append]
 simp
theorem sumF_le {F : Fs} (i : Nat) : sumF (F.take i) ≤ sumF F := by
 have h : sumF F = sumF (F.take i) + sumF (F.drop i) := by
  unfold sumF
  rw [← List.sum_append, ← List.map_append, List.take_append_drop]
 omega
theorem rused_KD {rb : Nat} {d : Dk} {hp : Hp} (ho : RdO M rb d hp) : K Tryz.prog 71 [.pointer (some ⟨rb, 0, none⟩)] M (hp ++ H) fun v' M' H' => v' = .int .i64 (usedD d.down d.now : Int) ∧ M' = M ∧ H' = hp ++ H := by
 obtain ⟨⟨F, G, sv, nv, wv, fused, fuse⟩, hx, rfl⟩ := ho
 have hsum := hx.sum
 have hle := hx.ok.sum
 have hnG := hx.nG
 dsimp only at hsum hnG ⊢
 obtain ⟨A, cap, es, rfl, h1, h2, h3, h4, rfl⟩ := hnG.form
 refine K.enterK Tryz.func71 rfl rfl rfl ?_
 intro Q hNP hQ
 unfold rdkB at hQ ⊢
 unfold usedD at hQ
 cases hdn : d.down with
 | true =>
  rw [hdn] at hQ
  (repeat' (first | (refine a_go ?_; intros) | refine a_sp (fun h => ?_) fun h => ?_ | fail))
  apply C.loop (fun y : FiX => y.ii = 0) (fun y => [(0, .pointer (some ⟨rb, 0, none⟩)), (3, .int .i64 0), (4, .int .i64 y.ii)]) (fun _ => M) (fun _ => (rb, .cells [.int .i64 d.room, sv, .slice A es.length cap, wv, .bool fused, .int .i64 fuse, .bool true].toArray 68 (0, 0)) :: H) (fun _ => 0) ⟨0, 0⟩
  ·exact rfl
  ·(exact a_subs)
  ·exact rfl
  ·exact rfl
  rintro ⟨i, ii⟩ hii
  dsimp only at hii ⊢
  subst hii
  (repeat' (first | (refine a_go ?_; intros) | refine a_sp (fun h => ?_) fun h => ?_ | fail))
  all_goals (
   (refine Fin.rA ((rb, .cells [.int .i64 d.room, sv, .slice A es.length cap, wv, .bool fused, .int .i64 fuse, .bool true].toArray 68 (0, 0)) :: H) ?_)
   exact ⟨rfl, rfl, rfl⟩)
 | false =>
  rw [hdn] at hQ
  (repeat' (first | (refine a_go ?_; intros) | refine a_sp (fun h => ?_) fun h => ?_ | fail))
  apply C.loop (fun y : FiX => (y.i : Int) = y.ii ∧ y.i ≤ es.length) (fun y => [(0, .pointer (some ⟨rb, 0, none⟩)), (3, .int .i64 (sumF ((es.map feP).take y.i) : Int)), (4, .int .i64 y.ii)]) (fun _ => M) (fun _ => (rb, .cells [.int .i64 d.room, sv, .slice A es.length cap, wv, .bool fused, .int .i64 fuse, .bool false].toArray 68 (0, 0)) :: H) (fun y => es.length - y.i) ⟨0, 0⟩
  ·exact ⟨rfl, Nat.zero_le _⟩
  ·(exact a_subs)
  ·exact rfl
  ·exact rfl
  rintro ⟨i, ii⟩ ⟨hii, hi⟩
  dsimp only at hii hi ⊢
  by_cases hix : i < es.length
  ·obtain ⟨b, o, c, e, fr, hA, hM, hc0, hc1⟩ := fe_at h3 hix
   subst hA
   obtain ⟨Ai, ci, hvi, _⟩ := h4 _ (List.getElem_mem hix)
   rw [show o + i * 2 = o + ii.toNat * 2 by omega, hvi] at hc1
   have hst := sumF_take (F := es.map feP) (i := i) (by rw [List.length_map]; exact hix)
   rw [List.getElem_map] at hst
   change _ = _ + es[i].b.length at hst
   have hsl := sumF_le (F := es.map feP) (i + 1)
   (repeat' (first | refine a_mv ?_ | (apply R.step; (first | (apply Ok.ltTr; exact rfl; exact rfl; omega) | (apply Ok.loadP; exact rfl; exact rfl; exact hM; exact hc1) | (apply Ok.addB; exact rfl; exact rfl; apply w64; omega; omega)); exact rfl) | (refine a_go ?_; intros) | refine a_sp (fun h => ?_) fun h => ?_ | fail))
   refine Fin.again (⟨i + 1, ii + 1⟩ : FiX) ⟨by dsimp only; omega, by dsimp only; omega⟩ (by dsimp only; omega) ?_ rfl rfl
   dsimp only
   rw [hst]
   (exact a_subs)
  have hie : i = es.length := by omega
  subst hie
  have hall : sumF ((es.map feP).take es.length) = sumF d.now := by rw [List.take_of_length_le (by rw [List.length_map]; exact Nat.le_refl _), hsum]
  rw [hall]
  (repeat' (first | refine a_mv ?_ | (apply R.step; (apply Ok.ltF; exact rfl; exact rfl; omega); exact rfl) | (refine a_go ?_; intros) | refine a_sp (fun h => ?_) fun h => ?_ | fail))
  (refine Fin.rA ((rb, .cells [.int .i64 d.room, sv, .slice A es.length cap, wv, .bool fused, .int .i64 fuse, .bool false].toArray 68 (0, 0)) :: H) ?_)
  exact ⟨rfl, rfl, rfl⟩
theorem rread_KD {rb : Nat} {d : Dk} {hp : Hp} {n : Txt} (ho : RdO M rb d hp) (hl : d.now.length ≤ 1000000) : K Tryz.prog 87 [.pointer (some ⟨rb, 0, none⟩), str n] M (hp ++ H) fun v' M' H' => ∃ v, v' = .tuple #[v, .bool (readD d n).isSome] ∧ PlB M v ((readD d n).getD []) ∧ M' = M ∧ H' = hp ++ H := by
 obtain ⟨⟨F, G, sv, nv, wv, fused, fuse⟩, hx, rfl⟩ := ho
 have hget := hx.get n
 have hnG := hx.nG
 have hlen := hx.len
 dsimp only at hget hnG hlen ⊢
 refine K.enterK Tryz.func87 rfl rfl rfl ?_
 intro Q hNP hQ
 unfold rdkB at hQ ⊢
 unfold readD at hQ
 (repeat' (first | (refine a_go ?_; intros) | refine a_sp (fun h => ?_) fun h => ?_ | fail))
 (apply R.call; (exact a_evs); exact rfl; exact rfind_K hnG (by omega); rintro _ M _ ⟨rfl, rfl, rfl⟩)
 cases hdn : d.down with
 | true =>
  rw [hdn] at hQ
  (repeat' (first | (refine a_go ?_; intros) | refine a_sp (fun h => ?_) fun h => ?_ | fail))
  (refine Fin.rA ((rb, .cells [.int .i64 d.room, sv, nv, wv, .bool fused, .int .i64 fuse, .bool true].toArray 68 (0, 0)) :: H) ?_)
  exact ⟨_, rfl, PlB.nil, rfl, rfl⟩
 | false =>
  rw [hdn] at hQ
  rcases findI_spec G n 0 with ⟨h1, h2⟩ | ⟨j, b, h1, h2, h3⟩
  ·rw [h1]
   rw [← hget, h2] at hQ
   (repeat' (first | (refine a_go ?_; intros) | refine a_sp (fun h => ?_) fun h => ?_ | fail))
   (refine Fin.rA ((rb, .cells [.int .i64 d.room, sv, nv, wv, .bool fused, .int .i64 fuse, .bool false].toArray 68 (0, 0)) :: H) ?_)
   exact ⟨_, rfl, PlB.nil, rfl, rfl⟩
  ·rw [h1]
   rw [← hget, h3] at hQ
   obtain ⟨A', cap', bb, o, cc, e, fr, Af, cf, rfl, rfl, hM, g1, g2, g3, g4, g5⟩ := hnG.get h2
   rw [show o + j * 2 = o + (0 + (j : Int)).toNat * 2 by omega] at g2
   have hjl : j < G.length := (List.getElem?_eq_some_iff.1 h2).1
   have hge : ¬ (0 : Int) + (j : Int) < 0 := by omega
   (repeat' (first | refine a_mv ?_ | (apply R.step; (first | (apply Ok.ltF; exact rfl; exact rfl; exact hge) | (apply Ok.loadP; exact rfl; exact rfl; exact hM; exact g2)); exact rfl) | (refine a_go ?_; intros) | refine a_sp (fun h => ?_) fun h => ?_ | fail))
   (refine Fin.rA ((rb, .cells [.int .i64 d.room, sv, .slice (some ⟨bb, o, none⟩) G.length cap', wv, .bool fused, .int .i64 fuse, .bool false].toArray 68 (0, 0)) :: H) ?_)
   exact ⟨_, rfl, ⟨Af, cf, rfl, g3, g4, g5⟩, rfl, rfl⟩
structure RnX where
 i : Nat
 ii : Int
 v : Value
 hp : Hp
theorem rnames_KD {rb : Nat} {d : Dk} {hp : Hp} (ho : RdO M rb d hp) (hl : d.now.length ≤ 1000000) : K Tryz.prog 39 [.pointer (some ⟨rb, 0, none⟩)] M (hp ++ H) fun v' M' H' => M' = M ∧ ∃ hn, Own 9 1 v' (namesD d.down d.now).length ((namesD d.down d.now).map str) hn ∧ H' = hn ++ (hp ++ H) := by
 obtain ⟨⟨F, G, sv, nv, wv, fused, fuse⟩, hx, rfl⟩ := ho
 have hnm := srt_names hx.srtG hx.pN
 have hnG := hx.nG
 have hlen := hx.len
 dsimp only at hnm hnG hlen ⊢
 obtain ⟨A, cap, es, rfl, h1, h2, h3, h4, rfl⟩ := hnG.form
 rw [List.length_map] at hlen
 have hkm : keyS (es.map feP) = es.map FE.n := by
  unfold keyS
  rw [List.map_map]
  rfl
 rw [hkm] at hnm
 refine K.enterK Tryz.func39 rfl rfl rfl ?_
 intro Q hNP hQ
 unfold rdkB at hQ ⊢
 unfold namesD at hQ
 cases hdn : d.down with
 | true =>
  rw [hdn] at hQ
  (repeat' (first | (refine a_go ?_; intros) | refine a_sp (fun h => ?_) fun h => ?_ | fail))
  apply C.loop (fun y : FiX => y.ii = 0) (fun y => [(0, .pointer (some ⟨rb, 0, none⟩)), (3, .slice none 0 0), (4, .int .i64 y.ii)]) (fun _ => M) (fun _ => (rb, .cells [.int .i64 d.room, sv, .slice A es.length cap, wv, .bool fused, .int .i64 fuse, .bool true].toArray 68 (0, 0)) :: H) (fun _ => 0) ⟨0, 0⟩
  ·exact rfl
  ·(exact a_subs)
  ·exact rfl
  ·exact rfl
  rintro ⟨i, ii⟩ hii
  dsimp only at hii ⊢
  subst hii
  (repeat' (first | (refine a_go ?_; intros) | refine a_sp (fun h => ?_) fun h => ?_ | fail))
  all_goals (
   (refine Fin.rA ([] ++ ((rb, .cells [.int .i64 d.room, sv, .slice A es.length cap, wv, .bool fused, .int .i64 fuse, .bool true].toArray 68 (0, 0)) :: H)) ?_)
   exact ⟨rfl, [], Own.nil _ _, rfl⟩)
 | false =>
  rw [hdn] at hQ
  (repeat' (first | (refine a_go ?_; intros) | refine a_sp (fun h => ?_) fun h => ?_ | fail))
  apply C.loop (fun y : RnX => (y.i : Int) = y.ii ∧ y.i ≤ es.length ∧ Own 9 1 y.v y.i (((es.take y.i).map FE.n).map str) y.hp) (fun y => [(0, .pointer (some ⟨rb, 0, none⟩)), (3, y.v), (4, .int .i64 y.ii)]) (fun _ => M) (fun y => y.hp ++ ((rb, .cells [.int .i64 d.room, sv, .slice A es.length cap, wv, .bool fused, .int .i64 fuse, .bool false].toArray 68 (0, 0)) :: H)) (fun y => es.length - y.i) ⟨0, 0, .slice none 0 0, []⟩
  ·exact ⟨rfl, Nat.zero_le _, Own.nil _ _⟩
  ·(exact a_subs)
  ·exact rfl
  ·exact rfl
  rintro ⟨i, ii, v, hp⟩ ⟨hii, hi, hown⟩
  dsimp only at hii hi hown ⊢
  by_cases hix : i < es.length
  ·obtain ⟨b, o, c, e, fr, hA, hM, hc0, hc1⟩ := fe_at h3 hix
   subst hA
   rw [show o + i * 2 = o + ii.toNat * 2 by omega] at hc0
   (repeat' (first | refine a_mv ?_ | (apply R.step; (first | (apply Ok.ltTr; exact rfl; exact rfl; omega) | (apply Ok.loadP; exact rfl; exact rfl; exact hM; exact hc0)); exact rfl) | (refine a_go ?_; intros) | refine a_sp (fun h => ?_) fun h => ?_ | fail))
   (apply R.append (news := [str es[i].n]) (k := 1); exact rfl; exact rfl; exact hown; (exact a_tk); exact Rd.at_ (l := [str es[i].n]) (by (exact a_at)) (fun j x h => by rw [Nat.zero_add]; exact h); exact rfl; (intro u hu; rw [List.mem_singleton] at hu; rw [hu]; rfl); omega; exact rfl; decide; decide; exact rfl; rintro v3 hp3 ho3)
   (repeat' (first | (refine a_go ?_; intros) | refine a_sp (fun h => ?_) fun h => ?_ | fail))
   (apply Fin.arr (H2 := hp3 ++ ((rb, .cells [.int .i64 d.room, sv, .slice (some ⟨b, o, none⟩) es.length cap, wv, .bool fused, .int .i64 fuse, .bool false].toArray 68 (0, 0)) :: H)); (exact a_arrs))
   refine Fin.again (⟨i + 1, ii + 1, v3, hp3⟩ : RnX) ⟨by dsimp only; omega, by dsimp only; omega, ?_⟩ (by dsimp only; omega) ?_ rfl rfl
   ·dsimp only
    rw [take_snocE hix, List.map_append, List.map_append]
    exact ho3
   ·(exact a_subs)
  have hie : i = es.length := by omega
  subst hie
  rw [List.take_length] at hown
  rw [hnm] at hQ
  obtain ⟨A1, c1, rfl, _, _⟩ := hown.form
  (repeat' (first | refine a_mv ?_ | (apply R.step; (apply Ok.ltF; exact rfl; exact rfl; omega); exact rfl) | (refine a_go ?_; intros) | refine a_sp (fun h => ?_) fun h => ?_ | fail))
  (refine Fin.rA (hp ++ ((rb, .cells [.int .i64 d.room, sv, .slice A es.length cap, wv, .bool fused, .int .i64 fuse, .bool false].toArray 68 (0, 0)) :: H)) ?_)
  refine ⟨rfl, hp, ?_, rfl⟩
  show Own _ 1 _ (es.map FE.n).length ((es.map FE.n).map str) _
  rw [List.length_map]
  exact hown
end Go.Sx
end
section
namespace Go.Sx
open Go Go.Proofs Go.RowKit
attribute [local irreducible] C R Fin K Own OwnT Rd Pl Ok KOf RetOk OpsOf RP KP Res NoPanic KV KE MapS ItS EntS FsO FsR RowD PlD DkO PlFs RT KT OneT
variable {M M' : Mem} {H H1 H2 : Hp}
theorem PlW.row {wv : Value} {ps : List De} (h : PlW M wv ps) : ∃ (A : Option Addr) (cap : Nat) (cs : List (List Value)), wv = .slice A ps.length cap ∧ ps.length ≤ cap ∧ cap ≤ 9223372036854775807 ∧ Pl M A cs.flatten ∧ cs.length = ps.length ∧ (∀ c ∈ cs, c.length = 5) ∧ (∀ u ∈ cs.flatten, u.oneCell' = true) ∧ ∀ (i : Nat) (x : De) (c : List Value), ps[i]? = some x → cs[i]? = some c → DeC M x c := by
 obtain ⟨A, cap, h1, h2, h3, h4⟩ := h
 unfold PlD at h4
 obtain ⟨cs, g1, g2, g3⟩ := h4
 have hc : ∀ c ∈ cs, c.length = 5 ∧ ∀ u ∈ c, u.oneCell' = true := by
  intro c hc
  obtain ⟨j, hj, rfl⟩ := List.mem_iff_getElem.1 hc
  exact (g3 j _ _ (List.getElem?_eq_getElem (by omega)) (List.getElem?_eq_getElem hj)).cells
 refine ⟨A, cap, cs, h1, h2, h3, g1, g2, fun c h => (hc c h).1, ?_, g3⟩
 intro u hu
 obtain ⟨c, hcm, huc⟩ := List.mem_flatten.1 hu
 exact (hc c hcm).2 u huc
theorem PlW.snoc {A : Option Addr} {cap : Nat} {cs : List (List Value)} {ps : List De} {x : De} {c : List Value} (hl : ps.length + 1 ≤ cap) (hc : cap ≤ 9223372036854775807) (hp : Pl M A (cs.flatten ++ c)) (h2 : cs.length = ps.length) (h3 : ∀ (i : Nat) (x : De) (c : List Value), ps[i]? = some x → cs[i]? = some c → DeC M x c) (hx : DeC M x c) : PlW M (.slice A (ps.length + 1) cap) (ps ++ [x]) := by
 refine ⟨A, cap, by simp, by simpa using hl, hc, ?_⟩
 unfold PlD
 refine ⟨cs ++ [c], ?_, by rw [List.length_append, List.length_append, h2]; rfl, fun i x' c' hx' hc' => ?_⟩
 ·rw [List.flatten_append]
  rw [show [c].flatten = c by simp]
  exact hp
 ·by_cases hi : i < ps.length
  ·rw [List.getElem?_append_left hi] at hx'
   rw [List.getElem?_append_left (by omega)] at hc'
   exact h3 i _ _ hx' hc'
  ·rw [List.getElem?_append_right (by omega)] at hx'
   rw [List.getElem?_append_right (by omega), h2] at hc'
   obtain ⟨j, hj⟩ : ∃ j, j = i - ps.length := ⟨_, rfl⟩
   rw [← hj] at hx' hc'
   cases j with
   | zero =>
    injection hx' with hx'
    injection hc' with hc'
    rw [← hx', ← hc']
    exact hx
   | succ j => cases hx'
theorem rdoes_K {rb : Nat} {d : Dk} {hp : Hp} {x : De} {c : List Value} (ho : RdO M rb d hp) (hl : d.now.length ≤ 1000000) (hps : d.ps.length ≤ 1000000) (hx : DeC M x c) (hfit : Fit d.now x) (hok : Dk.ok { d with ps := d.ps ++ [x] }) : K Tryz.prog 73 [.pointer (some ⟨rb, 0, none⟩), .agg c.toArray] M (hp ++ H) fun v' M' H' => v' = .int .i64 0 ∧ M.le M' ∧ ∃ hp', RdO M' rb { d with ps := d.ps ++ [x] } hp' ∧ H' = hp' ++ H := by
 obtain ⟨⟨F, G, sv, nv, wv, fused, fuse⟩, hi, rfl⟩ := ho
 have hsm := hi.sum
 have hle := hi.ok.sum
 have hlen := hi.len
 have hnn := hi.srtG.nodup
 have hget := hi.get
 have hnG := hi.nG
 have hw := hi.w
 dsimp only at hsm hlen hnG hw hget hnn ⊢
 have hsmall : smallX G x := by
  have h := hfit.small (hi.pN.map Prod.fst |>.nodup_iff.1 hnn)
  cases x with
  | app n b => exact h
  | trc n k =>
   change k ≤ (fileD G n).length
   unfold fileD
   rw [hget]
   exact h
  | ren n t => trivial
  | rem n => trivial
 obtain ⟨c1, c2⟩ := hx.cells
 refine K.enterK Tryz.func73 rfl rfl rfl ?_
 intro Q hNP hQ
 unfold rdkB at hQ ⊢
 match c, c1 with
 | [c0, cn, ct, cb, cz], _ =>
 (repeat' (first | (refine a_bz ?_; intro bz) | (refine a_bx ?_; intro bx) | (refine a_ba ?_; intro ba) | (refine a_bl ?_; intro bl) | (refine a_go ?_; intros) | refine a_sp (fun h => ?_) fun h => ?_ | fail))
 (apply C.regionS (A := [0, 1, 2, 3, 4, 5, 6]) (t := .free 0 (.free 1 (.free 2 (.free 3 (.free 4 (.free 5 (.one 6 .nil))))))) (u := .free 7 (.free 8 (.one 9 .nil))) (Hs := [(bx, .cells #[c0, cn, ct, cb, cz] 113 (0, 0)), (rb, .cells [.int .i64 d.room, sv, nv, wv, .bool fused, .int .i64 fuse, .bool d.down].toArray 68 (0, 0))]); exact Mix.h; (first | exact Arr.all _ | (exact a_arr) | (exact a_arrs)); (exact a_np); kernel_rfl)
 (repeat' (first | refine a_os ?_ | fail))
 (apply RS.one; apply OneS.eff; exact rfl; intro Kc hKc ops0)
 (apply R.call; (exact a_evs); exact rfl; exact rdone_K hnG (by omega) (by omega) hx hsmall; rintro v1 M1 _ ⟨hf1, hM1, rfl⟩)
 obtain ⟨A1, k1, es1, rfl, _⟩ := hf1.form
 (apply R.nil; apply Fin.ks hKc; exact hM1; (exact a_arrs))
 refine RS.later (Hs2 := []) (Hx2 := (bx, .cells #[c0, cn, ct, cb, cz] 113 (0, 0)) :: (rb, .cells [.int .i64 d.room, sv, nv, wv, .bool fused, .int .i64 fuse, .bool d.down].toArray 68 (0, 0)) :: H) (by (exact a_arrs)) ?_
 (repeat' (first | refine a_ot ?_ | fail))
 (apply RT.one; apply OneT.eff; exact rfl; intro Kc hKc ops0)
 (repeat' (first | (refine a_bz ?_; intro bz) | (refine a_bx ?_; intro bx) | (refine a_ba ?_; intro ba) | (refine a_bl ?_; intro bl) | (refine a_go ?_; intros) | refine a_sp (fun h => ?_) fun h => ?_ | fail))
 ((first | apply R.nil | skip); apply Fin.kt hKc; exact Mem.le_refl _; (exact a_arrs))
 apply RT.nil
 generalize hv1 : Value.slice A1 es1.length k1 = v1 at hf1
 (repeat' (first | (refine a_bz ?_; intro bz) | (refine a_bx ?_; intro bx) | (refine a_ba ?_; intro ba) | (refine a_bl ?_; intro bl) | (refine a_go ?_; intros) | refine a_sp (fun h => ?_) fun h => ?_ | fail))
 obtain ⟨A, cap, cs, rfl, w1, w2, w3, w4, w5, w6, w7⟩ := (hw.mono hM1).row
 have wl := rows_len w5
 (apply C.regionS (A := [0, 1, 2, 3, 4, 5, 6, 7, 8, 9]) (t := .free 0 (.free 2 (.free 3 (.free 4 (.free 5 (.free 7 (.alt 1 8 (.alt 6 8 (.one 8 (.one 9 .nil)) (.one 6 (.one 9 .nil))) (.one 1 (.one 6 (.one 9 .nil)))))))))) (u := .free 10 (.free 11 (.one 12 .nil))) (Hs := [(bx, .cells #[c0, cn, ct, cb, cz] 113 (0, 0)), (rb, .cells [.int .i64 d.room, sv, v1, .slice A d.ps.length cap, .bool fused, .int .i64 fuse, .bool d.down].toArray 68 (0, 0))]); exact Mix.h; (first | exact Arr.all _ | (exact a_arr) | (exact a_arrs)); (exact a_np); kernel_rfl)
 (repeat' (first | refine a_os ?_ | fail))
 have hpN : (doneF G x).Perm (Dk.now { d with ps := d.ps ++ [x] }) := by
  have e : Dk.now { d with ps := d.ps ++ [x] } = doF d.now x := by
   show (d.ps ++ [x]).foldl doF d.S = _
   rw [List.foldl_append]
   rfl
  rw [e]
  exact doneF_perm hi.srtG hi.pN
 apply RS.alt
 ·apply OneS.eff; exact rfl; intro Kc hKc ops0
  (first | (apply R.store; exact rfl; exact rfl; exact rfl; (exact a_at); (exact a_blit); exact rfl; (focus (simp [Value.oneCell']; done))) | (apply R.buildSlice0; exact rfl; intro bz) | (apply R.box; exact rfl; (simp only [Value.cells]; rfl); exact rfl; intro bx) | (apply R.alloc; (simp only [Value.cells]; rfl); exact rfl; intro ba) | (apply R.buildSlice; (exact a_prt); exact rfl; exact rfl; (exact a_fills); exact rfl; intro bl))
  ((first | apply R.nil | skip); apply Fin.ks (Hx := (bz, .cells #[] 113 (0, 0)) :: H) hKc; exact Mem.le_refl _; (exact a_arrs))
  apply RS.alt
  ·apply OneS.eff; exact rfl; intro Kc hKc ops0
   (apply R.append (news := cs.flatten) (k := d.ps.length); exact rfl; exact rfl; exact Own.empty; (exact a_tk); exact w3.rd; (rw [wl, w4]); exact w6; omega; exact rfl; decide; decide; exact rfl; rintro v4 hp4 ho4)
   rw [Nat.zero_add, List.nil_append] at ho4
   obtain ⟨A4, k4, rfl, _, _⟩ := ho4.form
   ((first | apply R.nil | skip); apply Fin.ks (Hx := hp4 ++ H) hKc; exact Mem.le_refl _; (exact a_arrs))
   (apply RS.one; apply OneS.eff; exact rfl; intro Kc hKc ops0)
   (apply R.buildSlice; (exact a_prt); exact rfl; exact rfl; (exact a_fills); exact rfl; intro bl)
   ((first | apply R.nil | skip); apply Fin.ks (Hx := hp4 ++ ((bl, .cells #[c0, cn, ct, cb, cz] 113 (0, 0)) :: H)) hKc; exact Mem.le_refl _; (exact a_arrs))
   (apply RS.one; apply OneS.eff; exact rfl; intro Kc hKc ops0)
   (apply R.append (news := [c0, cn, ct, cb, cz]) (k := 1); exact rfl; exact rfl; exact ho4; (exact a_tk); exact Rd.at_ (l := [c0, cn, ct, cb, cz]) (by (exact a_at)) (fun j x h => by rw [Nat.zero_add]; exact h); exact rfl; exact c2; omega; exact rfl; decide; decide; exact rfl; rintro v5 hp5 ho5)
   obtain ⟨A5, k5, rfl, q1, q2⟩ := ho5.form
   ((first | apply R.nil | skip); apply Fin.ks (Hx := hp5 ++ H) hKc; exact Mem.le_refl _; (exact a_arrs))
   refine RS.later (Hs2 := []) (Hx2 := (rb, .cells [.int .i64 d.room, sv, v1, .slice A d.ps.length cap, .bool fused, .int .i64 fuse, .bool d.down].toArray 68 (0, 0)) :: (hp5 ++ H)) (by (exact a_arrs)) ?_
   (repeat' (first | refine a_ot ?_ | fail))
   (apply RT.one; apply OneT.eff; exact rfl; intro Kc hKc ops0)
   (repeat' (first | (refine a_bz ?_; intro bz) | (refine a_bx ?_; intro bx) | (refine a_ba ?_; intro ba) | (refine a_bl ?_; intro bl) | (refine a_go ?_; intros) | refine a_sp (fun h => ?_) fun h => ?_ | fail))
   ((first | apply R.nil | skip); apply Fin.kt hKc; exact Mem.le_refl _; (exact a_arrs))
   apply RT.nil
   (repeat' (first | (refine a_bz ?_; intro bz) | (refine a_bx ?_; intro bx) | (refine a_ba ?_; intro ba) | (refine a_bl ?_; intro bl) | (refine a_go ?_; intros) | refine a_sp (fun h => ?_) fun h => ?_ | fail))
   (apply Fin.ice (hp := hp5) (H1 := (rb, .cells [.int .i64 d.room, sv, v1, .slice A5 (d.ps.length + 1) k5, .bool fused, .int .i64 fuse, .bool d.down].toArray 68 (0, 0)) :: H) (by (exact a_arrs)); intro M2 hM2 hin2)
   (refine Fin.rA ((rb, .cells [.int .i64 d.room, sv, v1, .slice A5 (d.ps.length + 1) k5, .bool fused, .int .i64 fuse, .bool d.down].toArray 68 (0, 0)) :: H) ?_)
   exact ⟨rfl, hM1.trans_ hM2, _, ⟨⟨F, doneF G x, sv, v1, .slice A5 (d.ps.length + 1) k5, fused, fuse⟩, ⟨hok, hi.sF.mono (hM1.trans_ hM2), hf1.mono hM2, hi.pS, hpN, hi.srtF, doneF_srt hi.srtG, PlW.snoc q1 (by unfold maxLen at q2; omega) (ho5.plIn hin2) w4 (fun i x c h1 h2 => (w7 i x c h1 h2).mono hM2) (hx.mono (hM1.trans_ hM2)), hi.fu, hi.fu0⟩, rfl⟩, rfl⟩
  ·apply OneS.eff; exact rfl; intro Kc hKc ops0
   (apply R.buildSlice; (exact a_prt); exact rfl; exact rfl; (exact a_fills); exact rfl; intro bl)
   ((first | apply R.nil | skip); apply Fin.ks (Hx := (bl, .cells #[c0, cn, ct, cb, cz] 113 (0, 0)) :: (bz, .cells #[] 113 (0, 0)) :: H) hKc; exact Mem.le_refl _; (exact a_arrs))
   (apply RS.one; apply OneS.eff; exact rfl; intro Kc hKc ops0)
   (apply R.append (news := cs.flatten) (k := d.ps.length); exact rfl; exact rfl; exact Own.empty; (exact a_tk); exact w3.rd; (rw [wl, w4]); exact w6; omega; exact rfl; decide; decide; exact rfl; rintro v4 hp4 ho4)
   rw [Nat.zero_add, List.nil_append] at ho4
   obtain ⟨A4, k4, rfl, _, _⟩ := ho4.form
   ((first | apply R.nil | skip); apply Fin.ks (Hx := hp4 ++ ((bl, .cells #[c0, cn, ct, cb, cz] 113 (0, 0)) :: H)) hKc; exact Mem.le_refl _; (exact a_arrs))
   (apply RS.one; apply OneS.eff; exact rfl; intro Kc hKc ops0)
   (apply R.append (news := [c0, cn, ct, cb, cz]) (k := 1); exact rfl; exact rfl; exact ho4; (exact a_tk); exact Rd.at_ (l := [c0, cn, ct, cb, cz]) (by (exact a_at)) (fun j x h => by rw [Nat.zero_add]; exact h); exact rfl; exact c2; omega; exact rfl; decide; decide; exact rfl; rintro v5 hp5 ho5)
   obtain ⟨A5, k5, rfl, q1, q2⟩ := ho5.form
   ((first | apply R.nil | skip); apply Fin.ks (Hx := hp5 ++ H) hKc; exact Mem.le_refl _; (exact a_arrs))
   refine RS.later (Hs2 := []) (Hx2 := (rb, .cells [.int .i64 d.room, sv, v1, .slice A d.ps.length cap, .bool fused, .int .i64 fuse, .bool d.down].toArray 68 (0, 0)) :: (hp5 ++ H)) (by (exact a_arrs)) ?_
   (repeat' (first | refine a_ot ?_ | fail))
   (apply RT.one; apply OneT.eff; exact rfl; intro Kc hKc ops0)
   (repeat' (first | (refine a_bz ?_; intro bz) | (refine a_bx ?_; intro bx) | (refine a_ba ?_; intro ba) | (refine a_bl ?_; intro bl) | (refine a_go ?_; intros) | refine a_sp (fun h => ?_) fun h => ?_ | fail))
   ((first | apply R.nil | skip); apply Fin.kt hKc; exact Mem.le_refl _; (exact a_arrs))
   apply RT.nil
   (repeat' (first | (refine a_bz ?_; intro bz) | (refine a_bx ?_; intro bx) | (refine a_ba ?_; intro ba) | (refine a_bl ?_; intro bl) | (refine a_go ?_; intros) | refine a_sp (fun h => ?_) fun h => ?_ | fail))
   (apply Fin.ice (hp := hp5) (H1 := (rb, .cells [.int .i64 d.room, sv, v1, .slice A5 (d.ps.length + 1) k5, .bool fused, .int .i64 fuse, .bool d.down].toArray 68 (0, 0)) :: H) (by (exact a_arrs)); intro M2 hM2 hin2)
   (refine Fin.rA ((rb, .cells [.int .i64 d.room, sv, v1, .slice A5 (d.ps.length + 1) k5, .bool fused, .int .i64 fuse, .bool d.down].toArray 68 (0, 0)) :: H) ?_)
   exact ⟨rfl, hM1.trans_ hM2, _, ⟨⟨F, doneF G x, sv, v1, .slice A5 (d.ps.length + 1) k5, fused, fuse⟩, ⟨hok, hi.sF.mono (hM1.trans_ hM2), hf1.mono hM2, hi.pS, hpN, hi.srtF, doneF_srt hi.srtG, PlW.snoc q1 (by unfold maxLen at q2; omega) (ho5.plIn hin2) w4 (fun i x c h1 h2 => (w7 i x c h1 h2).mono hM2) (hx.mono (hM1.trans_ hM2)), hi.fu, hi.fu0⟩, rfl⟩, rfl⟩
 ·apply OneS.eff; exact rfl; intro Kc hKc ops0
  (apply R.buildSlice; (exact a_prt); exact rfl; exact rfl; (exact a_fills); exact rfl; intro bl)
  ((first | apply R.nil | skip); apply Fin.ks (Hx := (bl, .cells #[c0, cn, ct, cb, cz] 113 (0, 0)) :: H) hKc; exact Mem.le_refl _; (exact a_arrs))
  (apply RS.one; apply OneS.eff; exact rfl; intro Kc hKc ops0)
  (first | (apply R.store; exact rfl; exact rfl; exact rfl; (exact a_at); (exact a_blit); exact rfl; (focus (simp [Value.oneCell']; done))) | (apply R.buildSlice0; exact rfl; intro bz) | (apply R.box; exact rfl; (simp only [Value.cells]; rfl); exact rfl; intro bx) | (apply R.alloc; (simp only [Value.cells]; rfl); exact rfl; intro ba) | (apply R.buildSlice; (exact a_prt); exact rfl; exact rfl; (exact a_fills); exact rfl; intro bl))
  ((first | apply R.nil | skip); apply Fin.ks (Hx := (bl, .cells #[c0, cn, ct, cb, cz] 113 (0, 0)) :: (bz, .cells #[] 113 (0, 0)) :: H) hKc; exact Mem.le_refl _; (exact a_arrs))
  (apply RS.one; apply OneS.eff; exact rfl; intro Kc hKc ops0)
  (apply R.append (news := cs.flatten) (k := d.ps.length); exact rfl; exact rfl; exact Own.empty; (exact a_tk); exact w3.rd; (rw [wl, w4]); exact w6; omega; exact rfl; decide; decide; exact rfl; rintro v4 hp4 ho4)
  rw [Nat.zero_add, List.nil_append] at ho4
  obtain ⟨A4, k4, rfl, _, _⟩ := ho4.form
  ((first | apply R.nil | skip); apply Fin.ks (Hx := hp4 ++ ((bl, .cells #[c0, cn, ct, cb, cz] 113 (0, 0)) :: H)) hKc; exact Mem.le_refl _; (exact a_arrs))
  (apply RS.one; apply OneS.eff; exact rfl; intro Kc hKc ops0)
  (apply R.append (news := [c0, cn, ct, cb, cz]) (k := 1); exact rfl; exact rfl; exact ho4; (exact a_tk); exact Rd.at_ (l := [c0, cn, ct, cb, cz]) (by (exact a_at)) (fun j x h => by rw [Nat.zero_add]; exact h); exact rfl; exact c2; omega; exact rfl; decide; decide; exact rfl; rintro v5 hp5 ho5)
  obtain ⟨A5, k5, rfl, q1, q2⟩ := ho5.form
  ((first | apply R.nil | skip); apply Fin.ks (Hx := hp5 ++ H) hKc; exact Mem.le_refl _; (exact a_arrs))
  refine RS.later (Hs2 := []) (Hx2 := (rb, .cells [.int .i64 d.room, sv, v1, .slice A d.ps.length cap, .bool fused, .int .i64 fuse, .bool d.down].toArray 68 (0, 0)) :: (hp5 ++ H)) (by (exact a_arrs)) ?_
  (repeat' (first | refine a_ot ?_ | fail))
  (apply RT.one; apply OneT.eff; exact rfl; intro Kc hKc ops0)
  (repeat' (first | (refine a_bz ?_; intro bz) | (refine a_bx ?_; intro bx) | (refine a_ba ?_; intro ba) | (refine a_bl ?_; intro bl) | (refine a_go ?_; intros) | refine a_sp (fun h => ?_) fun h => ?_ | fail))
  ((first | apply R.nil | skip); apply Fin.kt hKc; exact Mem.le_refl _; (exact a_arrs))
  apply RT.nil
  (repeat' (first | (refine a_bz ?_; intro bz) | (refine a_bx ?_; intro bx) | (refine a_ba ?_; intro ba) | (refine a_bl ?_; intro bl) | (refine a_go ?_; intros) | refine a_sp (fun h => ?_) fun h => ?_ | fail))
  (apply Fin.ice (hp := hp5) (H1 := (rb, .cells [.int .i64 d.room, sv, v1, .slice A5 (d.ps.length + 1) k5, .bool fused, .int .i64 fuse, .bool d.down].toArray 68 (0, 0)) :: H) (by (exact a_arrs)); intro M2 hM2 hin2)
  (refine Fin.rA ((rb, .cells [.int .i64 d.room, sv, v1, .slice A5 (d.ps.length + 1) k5, .bool fused, .int .i64 fuse, .bool d.down].toArray 68 (0, 0)) :: H) ?_)
  exact ⟨rfl, hM1.trans_ hM2, _, ⟨⟨F, doneF G x, sv, v1, .slice A5 (d.ps.length + 1) k5, fused, fuse⟩, ⟨hok, hi.sF.mono (hM1.trans_ hM2), hf1.mono hM2, hi.pS, hpN, hi.srtF, doneF_srt hi.srtG, PlW.snoc q1 (by unfold maxLen at q2; omega) (ho5.plIn hin2) w4 (fun i x c h1 h2 => (w7 i x c h1 h2).mono hM2) (hx.mono (hM1.trans_ hM2)), hi.fu, hi.fu0⟩, rfl⟩, rfl⟩
end Go.Sx
end
section
namespace Go.Sx
open Go Go.Proofs Go.RowKit
attribute [local irreducible] C R Fin K Own OwnT Rd Pl Ok KOf RetOk OpsOf RP KP Res NoPanic KV KE MapS ItS EntS FsO FsR RowD PlD DkO PlFs RT KT OneT RdO
variable {M M' : Mem} {H H1 H2 : Hp}
theorem RdO.isok {rb : Nat} {d : Dk} {hp : Hp} (h : RdO M rb d hp) : d.ok := by
 unfold RdO at h
 obtain ⟨x, hx, _⟩ := h
 exact hx.ok
theorem RdO.nodup {rb : Nat} {d : Dk} {hp : Hp} (h : RdO M rb d hp) : (keyS d.now).Nodup := by
 unfold RdO at h
 obtain ⟨x, hx, _⟩ := h
 exact (hx.pN.map Prod.fst).nodup_iff.1 hx.srtG.nodup
theorem opD_go {d : Dk} {x : De} {e : Int} (he : e = 0) : opD e d x = { cntD d with ps := (cntD d).ps ++ [x] } := by
 unfold opD
 rw [if_pos he, cntD_ps]
theorem cnt_fit {d : Dk} {x : De} (h : d.ok) (hf : Fit d.now x) : Dk.ok { cntD d with ps := (cntD d).ps ++ [x] } := by
 rw [cntD_ps]
 exact opD_ok h hf
theorem getS_find {M : Mem} {d : Dk} {x : RdX} (h : RdI M d x) (n : Txt) : (findI x.G n 0 < 0 ∧ getS d.now n = none) ∨ (0 ≤ findI x.G n 0 ∧ ∃ j b, findI x.G n 0 = (j : Nat) ∧ x.G[j]? = some (n, b) ∧ getS d.now n = some b) := by
 rw [← h.get n]
 rcases findI_spec x.G n 0 with ⟨h1, h2⟩ | ⟨j, b, h1, h2, h3⟩
 ·exact .inl ⟨by omega, h2⟩
 ·exact .inr ⟨by omega, j, b, by omega, h2, h3⟩
theorem rdoes_KC {rb : Nat} {d : Dk} {hp : Hp} {x : De} {c : List Value} (ho : RdO M rb (cntD d) hp) (hok : d.ok) (hl : d.now.length ≤ 1000000) (hps : d.ps.length ≤ 1000000) (hx : DeC M x c) (hfit : Fit d.now x) : K Tryz.prog 73 [.pointer (some ⟨rb, 0, none⟩), .agg c.toArray] M (hp ++ H) fun v' M' H' => v' = .int .i64 0 ∧ M.le M' ∧ ∃ hp', RdO M' rb (opD 0 d x) hp' ∧ H' = hp' ++ H := by
 rw [opD_go rfl]
 exact rdoes_K ho (by rw [cntD_now]; exact hl) (by rw [cntD_ps]; exact hps) hx (by rw [cntD_now]; exact hfit) (cnt_fit hok hfit)
theorem rremove_K {rb : Nat} {d : Dk} {hp : Hp} {n : Txt} (ho : RdO M rb d hp) (hl : d.now.length ≤ 1000000) (hlen : d.ps.length ≤ 1000000) : K Tryz.prog 42 [.pointer (some ⟨rb, 0, none⟩), str n] M (hp ++ H) fun v' M' H' => v' = .int .i64 (remE d n) ∧ M.le M' ∧ ∃ hp', RdO M' rb (opD (remE d n) d (.rem n)) hp' ∧ H' = hp' ++ H := by
 refine K.enterK Tryz.func42 rfl rfl rfl ?_
 intro Q hNP hQ
 have hnn := ho.nodup
 have hok := ho.isok
 (repeat' (first | (refine a_go ?_; intros) | refine a_sp (fun h => ?_) fun h => ?_ | fail))
 (apply R.call; (exact a_evs); exact rfl; exact rcounts_KD ho; rintro _ M _ ⟨rfl, rfl, hp1, ho1, rfl, hdn⟩)
 by_cases hs : stopD d
 ·have hE : remE d n = 3 := if_pos hs
  rw [hE, opD_no (by decide)] at hQ
  rw [if_pos hs]
  (repeat' (first | (refine a_go ?_; intros) | refine a_sp (fun h => ?_) fun h => ?_ | fail))
  (refine Fin.rA (hp1 ++ H) ?_)
  exact ⟨rfl, Mem.le_refl _, hp1, ho1, rfl⟩
 rw [if_neg hs]
 have hc := ho1
 unfold RdO at hc
 obtain ⟨⟨F, G, sv, nv, wv, fused, fuse⟩, hi, rfl⟩ := hc
 have hnG := hi.nG
 have hln := hi.len
 have hnow := cntD_now d
 rw [hnow] at hln
 dsimp only at hnG hln ⊢
 unfold rdkB
 (repeat' (first | (refine a_go ?_; intros) | refine a_sp (fun h => ?_) fun h => ?_ | fail))
 (apply R.call; (exact a_evs); exact rfl; exact rfind_K hnG (by omega); rintro _ M _ ⟨rfl, rfl, rfl⟩)
 have hfd := getS_find hi n
 rw [hnow] at hfd
 dsimp only at hfd
 rcases hfd with ⟨h1, h2⟩ | ⟨h1, j, b, h2, h3, h4⟩
 ·have hE : remE d n = 4 := (if_neg hs).trans (if_pos h2)
  rw [hE, opD_no (by decide)] at hQ
  (repeat' (first | refine a_mv ?_ | (apply R.step; (exact a_cmp); exact rfl) | (refine a_go ?_; intros) | refine a_sp (fun h => ?_) fun h => ?_ | fail))
  (refine Fin.rA ([(rb, rdkB (cntD d).room sv nv wv fused fuse (cntD d).down)] ++ H) ?_)
  exact ⟨rfl, Mem.le_refl _, _, ho1, rfl⟩
 ·have hE : remE d n = 0 := (if_neg hs).trans (if_neg (by rw [h4]; simp))
  rw [hE] at hQ
  have hfit := rem_fit (n := n) hnn hok.sum
  (repeat' (first | refine a_mv ?_ | (apply R.step; (exact a_cmp); exact rfl) | (refine a_go ?_; intros) | refine a_sp (fun h => ?_) fun h => ?_ | fail))
  (apply R.call; (exact a_evs); exact rfl; exact rdoes_KC ho1 hok hl hlen (show DeC M (.rem n) _ from rfl) hfit; rintro _ M3 _ ⟨rfl, hM3, hp3, ho3, rfl⟩)
  (repeat' (first | (refine a_go ?_; intros) | refine a_sp (fun h => ?_) fun h => ?_ | fail))
  (refine Fin.rA (hp3 ++ H) ?_)
  exact ⟨rfl, hM3, hp3, ho3, rfl⟩
end Go.Sx
end
section
namespace Go.Sx
open Go Go.Proofs Go.RowKit
attribute [local irreducible] C R Fin K Own OwnT Rd Pl Ok KOf RetOk OpsOf RP KP Res NoPanic KV KE MapS ItS EntS FsO FsR RowD PlD
variable {M M' : Mem} {H H1 H2 : Hp}
theorem down_K {db sb nb : Nat} {room fuse : Int} {pv : Value} {down : Bool} : K Tryz.prog 16 [.pointer (some ⟨db, 0, none⟩)] M ((db, dkB room sb nb pv fuse down) :: H) fun v' M' H' => v' = .bool down ∧ M' = M ∧ H' = (db, dkB room sb nb pv fuse down) :: H := by
 refine K.enterK Tryz.func16 rfl rfl rfl ?_
 intro Q hNP hQ
 unfold dkB at hQ ⊢
 (repeat' (first | (refine a_go ?_; intros) | refine a_sp (fun h => ?_) fun h => ?_ | fail))
 (refine Fin.rt ?_)
 exact ⟨rfl, rfl, rfl⟩
theorem down_KD {db : Nat} {d : Dk} {hp : Hp} (ho : DkO M db d hp) : K Tryz.prog 16 [.pointer (some ⟨db, 0, none⟩)] M (hp ++ H) fun v' M' H' => v' = .bool d.down ∧ M' = M ∧ H' = hp ++ H := by
 obtain ⟨h0, sb, nb, so, no, pv, hr, h1, h2, h3, rfl⟩ := ho
 exact down_K
theorem dused_KD {db : Nat} {d : Dk} {hp : Hp} (ho : DkO M db d hp) : K Tryz.prog 67 [.pointer (some ⟨db, 0, none⟩)] M (hp ++ H) fun v' M' H' => v' = .int .i64 (usedD d.down d.now : Int) ∧ M' = M ∧ H' = hp ++ H := by
 have hs := ho.1.sum
 obtain ⟨h0, sb, nb, so, no, pv, hr, h1, h2, h3, rfl⟩ := ho
 exact used_K h2 (by omega)
end Go.Sx
end
