import Derived.Test.YtpjmlcnboedpeaaGreatZSegPlays4
set_option linter.unusedVariables false
set_option linter.unusedSimpArgs false
section
namespace Go.Sx
open Go Go.Proofs Go.RowKit
attribute [local irreducible] C R Fin K Own OwnT Rd Pl Ok KOf RetOk OpsOf RP KP Res NoPanic KV KE MapS ItS EntS FsO FsR RowD PlD DkO PlFs RT KT OneT RdO
variable {M M' : Mem} {H H1 H2 : Hp}
theorem rappend_K {rb : Nat} {d : Dk} {hp : Hp} {n b : Txt} {va : Value} (ho : RdO M rb d hp) (hb : PlB M va b) (hbl : b.length ≤ 4611686018427387904) (hnl : n.length ≤ 4611686018427387904) (hl : d.now.length ≤ 1000000) (hlen : d.ps.length ≤ 1000000) : K Tryz.prog 25 [.pointer (some ⟨rb, 0, none⟩), str n, va] M (hp ++ H) fun v' M' H' => v' = .int .i64 (appE d n b) ∧ M.le M' ∧ ∃ hp', RdO M' rb (opD (appE d n b) d (.app n b)) hp' ∧ H' = hp' ++ H := by
 refine K.enterK Tryz.func25 rfl rfl rfl ?_
 intro Q hNP hQ
 have hnn := ho.nodup
 have hok := ho.isok
 obtain ⟨Ab, cb, rfl, hb1, hb2, hb3⟩ := hb
 (repeat' (first | (refine a_go ?_; intros) | refine a_sp (fun h => ?_) fun h => ?_ | fail))
 (apply R.call; (exact a_evs); exact rfl; exact rcounts_KD ho; rintro _ M _ ⟨rfl, rfl, hp1, ho1, rfl, hdn⟩)
 by_cases hs : stopD d
 ·have hE : appE d n b = 3 := if_pos hs
  rw [hE, opD_no (by decide)] at hQ
  rw [if_pos hs]
  (repeat' (first | (refine a_go ?_; intros) | refine a_sp (fun h => ?_) fun h => ?_ | fail))
  (refine Fin.rA (hp1 ++ H) ?_)
  exact ⟨rfl, Mem.le_refl _, hp1, ho1, rfl⟩
 rw [if_neg hs]
 replace hdn := hdn hs
 (repeat' (first | (refine a_go ?_; intros) | refine a_sp (fun h => ?_) fun h => ?_ | fail))
 (apply R.call; (exact a_evs); exact rfl; exact rname_K (n := n) (by omega); rintro _ M _ ⟨rfl, rfl, rfl⟩)
 cases hnm : namedB n with
 | false =>
  have hE : appE d n b = 1 := (if_neg hs).trans (if_pos hnm)
  rw [hE, opD_no (by decide)] at hQ
  (repeat' (first | (refine a_go ?_; intros) | refine a_sp (fun h => ?_) fun h => ?_ | fail))
  (refine Fin.rA (hp1 ++ H) ?_)
  exact ⟨rfl, Mem.le_refl _, hp1, ho1, rfl⟩
 | true =>
 have hnm' : ¬ namedB n = false := by rw [hnm]; decide
 have hc := ho1
 unfold RdO at hc
 obtain ⟨⟨F, G, sv, nv, wv, fused, fuse⟩, hi, rfl⟩ := hc
 have hnG := hi.nG
 have hln := hi.len
 have hnow := cntD_now d
 rw [hnow] at hln
 dsimp only at hnG hln ⊢
 have hroom := hok.1
 have hsum := hok.sum
 have hfd := getS_find hi n
 rw [hnow] at hfd
 dsimp only at hfd
 obtain ⟨A1, k1, es1, hnv, hnv2⟩ := hnG.form
 have hes : es1.length = G.length := by
  obtain ⟨_, _, _, _, he⟩ := hnv2
  rw [← he, List.length_map]
 rw [hes] at hnv
 subst hnv
 have ho2 : RdO M rb (cntD d) [(rb, .cells [.int .i64 d.room, sv, .slice A1 G.length k1, wv, .bool fused, .int .i64 fuse, .bool false].toArray 68 (0, 0))] := by
  have h := ho1
  rw [hdn, cntD_room] at h
  exact h
 have husedQ : ∀ M' Hx', M.le M' → K Tryz.prog 71 [.pointer (some ⟨rb, 0, none⟩)] M' ([(rb, .cells [.int .i64 d.room, sv, .slice A1 G.length k1, wv, .bool fused, .int .i64 fuse, .bool false].toArray 68 (0, 0))] ++ Hx') (fun u M2 H2 => u = .int .i64 (sumF d.now : Nat) ∧ M2 = M' ∧ H2 = [(rb, .cells [.int .i64 d.room, sv, .slice A1 G.length k1, wv, .bool fused, .int .i64 fuse, .bool false].toArray 68 (0, 0))] ++ Hx') := by
  intro M' Hx' hM
  have h := rused_KD (H := Hx') (ho2.mono hM)
  rw [hdn, hnow] at h
  exact h
 have hfindQ : ∀ M' Hx', M.le M' → K Tryz.prog 72 [.slice A1 G.length k1, str n] M' ([(rb, .cells [.int .i64 d.room, sv, .slice A1 G.length k1, wv, .bool fused, .int .i64 fuse, .bool false].toArray 68 (0, 0))] ++ Hx') (fun u M2 H2 => u = .int .i64 (findI G n 0) ∧ M2 = M' ∧ H2 = [(rb, .cells [.int .i64 d.room, sv, .slice A1 G.length k1, wv, .bool fused, .int .i64 fuse, .bool false].toArray 68 (0, 0))] ++ Hx') := by
  intro M' Hx' hM
  exact rfind_K (hnG.mono hM) (by omega)
 unfold rdkB
 rw [hdn, cntD_room]
 by_cases hA : d.room < (b.length : Int)
 ·have hE : appE d n b = 2 := (if_neg hs).trans ((if_neg hnm').trans (if_pos (.inl (by omega))))
  rw [hE, opD_no (by decide)] at hQ
  (repeat' (first | (refine a_go ?_; intros) | refine a_sp (fun h => ?_) fun h => ?_ | fail))
  (apply C.regionT (t := .free 0 (.free 1 (.free 2 (.free 3 (.free 4 (.free 5 (.free 6 (.free 7 (.free 8 (.free 9 (.free 10 (.free 11 (.free 12 (.free 13 (.free 14 (.free 15 (.free 16 (.free 17 (.free 18 (.free 19 (.free 20 (.free 21 (.free 22 (.free 23 (.free 24 (.free 25 (.free 26 (.free 27 (.free 28 (.free 29 (.free 30 (.free 31 (.free 32 (.free 33 (.free 34 (.free 35 .nil)))))))))))))))))))))))))))))))))))) (Hs := [(rb, .cells [.int .i64 d.room, sv, .slice A1 G.length k1, wv, .bool fused, .int .i64 fuse, .bool false].toArray 68 (0, 0))]); exact Mix.h; (first | exact Arr.all _ | (exact a_arr) | (exact a_arrs)); (exact a_np); kernel_rfl)
  (repeat' (first | (apply RT.step; exact rfl; intro _ _ _; (apply Ok.move; exact rfl); exact rfl) | (apply RT.callQT; exact rfl; exact inferInstance; exact rfl; exact rfl; exact rfl; (exact a_evs); exact rfl; (first | exact husedQ | exact hfindQ)) | ((first | (apply RT.step; exact rfl; intro _ _ _) | (apply RT.stepT; exact rfl; exact rfl; exact rfl; exact rfl; intro _ _ _)); (exact a_cmp); exact rfl) | refine a_ot ?_ | fail))
  apply RT.nil
  (repeat' (first | (refine a_go ?_; intros) | refine a_sp (fun h => ?_) fun h => ?_ | fail))
  (refine Fin.rA ([(rb, .cells [.int .i64 d.room, sv, .slice A1 G.length k1, wv, .bool fused, .int .i64 fuse, .bool false].toArray 68 (0, 0))] ++ H) ?_)
  exact ⟨rfl, Mem.le_refl _, _, ho2, rfl⟩
 by_cases hB : d.room < (sumF d.now + b.length : Nat)
 ·have hB' : d.room - (b.length : Int) < (sumF d.now : Int) := by omega
  have hE : appE d n b = 2 := (if_neg hs).trans ((if_neg hnm').trans (if_pos (.inl hB)))
  rw [hE, opD_no (by decide)] at hQ
  (repeat' (first | (refine a_go ?_; intros) | refine a_sp (fun h => ?_) fun h => ?_ | fail))
  (apply C.regionT (t := .free 0 (.free 1 (.free 2 (.free 3 (.free 4 (.free 5 (.free 6 (.free 7 (.free 8 (.free 9 (.free 10 (.free 11 (.free 12 (.free 13 (.free 14 (.free 15 (.free 16 (.free 17 (.free 18 (.free 19 (.free 20 (.free 21 (.free 22 (.free 23 (.free 24 (.free 25 (.free 26 (.free 27 (.free 28 (.free 29 (.free 30 (.free 31 (.free 32 (.free 33 (.free 34 (.free 35 .nil)))))))))))))))))))))))))))))))))))) (Hs := [(rb, .cells [.int .i64 d.room, sv, .slice A1 G.length k1, wv, .bool fused, .int .i64 fuse, .bool false].toArray 68 (0, 0))]); exact Mix.h; (first | exact Arr.all _ | (exact a_arr) | (exact a_arrs)); (exact a_np); kernel_rfl)
  (repeat' (first | (apply RT.step; exact rfl; intro _ _ _; (apply Ok.move; exact rfl); exact rfl) | (apply RT.callQT; exact rfl; exact inferInstance; exact rfl; exact rfl; exact rfl; (exact a_evs); exact rfl; (first | exact husedQ | exact hfindQ)) | ((first | (apply RT.step; exact rfl; intro _ _ _) | (apply RT.stepT; exact rfl; exact rfl; exact rfl; exact rfl; intro _ _ _)); (exact a_cmp); exact rfl) | refine a_ot ?_ | fail))
  apply RT.nil
  (repeat' (first | (refine a_go ?_; intros) | refine a_sp (fun h => ?_) fun h => ?_ | fail))
  (refine Fin.rA ([(rb, .cells [.int .i64 d.room, sv, .slice A1 G.length k1, wv, .bool fused, .int .i64 fuse, .bool false].toArray 68 (0, 0))] ++ H) ?_)
  exact ⟨rfl, Mem.le_refl _, _, ho2, rfl⟩
 have hB' : ¬ d.room - (b.length : Int) < (sumF d.now : Int) := by omega
 have hsb : sumF d.now + b.length ≤ 1048576 := by omega
 rcases hfd with ⟨f1, f2⟩ | ⟨f1, _, _, _, _, f2⟩
 ·by_cases hC : 64 ≤ d.now.length
  ·have hE : appE d n b = 2 := (if_neg hs).trans ((if_neg hnm').trans (if_pos (.inr ⟨f2, hC⟩)))
   rw [hE, opD_no (by decide)] at hQ
   (repeat' (first | (refine a_go ?_; intros) | refine a_sp (fun h => ?_) fun h => ?_ | fail))
   (apply C.regionT (t := .free 0 (.free 1 (.free 2 (.free 3 (.free 4 (.free 5 (.free 6 (.free 7 (.free 8 (.free 9 (.free 10 (.free 11 (.free 12 (.free 13 (.free 14 (.free 15 (.free 16 (.free 17 (.free 18 (.free 19 (.free 20 (.free 21 (.free 22 (.free 23 (.free 24 (.free 25 (.free 26 (.free 27 (.free 28 (.free 29 (.free 30 (.free 31 (.free 32 (.free 33 (.free 34 (.free 35 .nil)))))))))))))))))))))))))))))))))))) (Hs := [(rb, .cells [.int .i64 d.room, sv, .slice A1 G.length k1, wv, .bool fused, .int .i64 fuse, .bool false].toArray 68 (0, 0))]); exact Mix.h; (first | exact Arr.all _ | (exact a_arr) | (exact a_arrs)); (exact a_np); kernel_rfl)
   (repeat' (first | (apply RT.step; exact rfl; intro _ _ _; (apply Ok.move; exact rfl); exact rfl) | (apply RT.callQT; exact rfl; exact inferInstance; exact rfl; exact rfl; exact rfl; (exact a_evs); exact rfl; (first | exact husedQ | exact hfindQ)) | ((first | (apply RT.step; exact rfl; intro _ _ _) | (apply RT.stepT; exact rfl; exact rfl; exact rfl; exact rfl; intro _ _ _)); (exact a_cmp); exact rfl) | refine a_ot ?_ | fail))
   apply RT.nil
   (repeat' (first | (refine a_go ?_; intros) | refine a_sp (fun h => ?_) fun h => ?_ | fail))
   (refine Fin.rA ([(rb, .cells [.int .i64 d.room, sv, .slice A1 G.length k1, wv, .bool fused, .int .i64 fuse, .bool false].toArray 68 (0, 0))] ++ H) ?_)
   exact ⟨rfl, Mem.le_refl _, _, ho2, rfl⟩
  have hE : appE d n b = 0 := (if_neg hs).trans ((if_neg hnm').trans (if_neg (fun h => by
   rcases h with h | h
   ·exact hB h
   ·exact hC h.2)))
  rw [hE] at hQ
  (repeat' (first | (refine a_go ?_; intros) | refine a_sp (fun h => ?_) fun h => ?_ | fail))
  (apply C.regionT (t := .free 0 (.free 1 (.free 2 (.free 3 (.free 4 (.free 5 (.free 6 (.free 7 (.free 8 (.free 9 (.free 10 (.free 11 (.free 12 (.free 13 (.free 14 (.free 15 (.free 16 (.free 17 (.free 18 (.free 19 (.free 20 (.free 21 (.free 22 (.free 23 (.free 24 (.free 25 (.free 26 (.free 27 (.free 28 (.free 29 (.free 30 (.free 31 (.free 32 (.free 33 (.free 34 (.free 35 .nil)))))))))))))))))))))))))))))))))))) (Hs := [(rb, .cells [.int .i64 d.room, sv, .slice A1 G.length k1, wv, .bool fused, .int .i64 fuse, .bool false].toArray 68 (0, 0))]); exact Mix.h; (first | exact Arr.all _ | (exact a_arr) | (exact a_arrs)); (exact a_np); kernel_rfl)
  (repeat' (first | (apply RT.step; exact rfl; intro _ _ _; (apply Ok.move; exact rfl); exact rfl) | (apply RT.callQT; exact rfl; exact inferInstance; exact rfl; exact rfl; exact rfl; (exact a_evs); exact rfl; (first | exact husedQ | exact hfindQ)) | ((first | (apply RT.step; exact rfl; intro _ _ _) | (apply RT.stepT; exact rfl; exact rfl; exact rfl; exact rfl; intro _ _ _)); (exact a_cmp); exact rfl) | refine a_ot ?_ | fail))
  apply RT.nil
  (repeat' (first | (refine a_go ?_; intros) | refine a_sp (fun h => ?_) fun h => ?_ | fail))
  (apply R.append (news := b.map bv) (k := b.length); exact rfl; exact rfl; exact Own.empty; (exact a_tk); exact Pl.rd hb3; (rw [List.length_map, Nat.mul_one]); exact bv_one _; omega; exact rfl; decide; decide; exact rfl; rintro v4 hp4 hown4)
  rw [List.nil_append, Nat.zero_add] at hown4
  (apply R.ice (hp := hp4) (H1 := [(rb, .cells [.int .i64 d.room, sv, .slice A1 G.length k1, wv, .bool fused, .int .i64 fuse, .bool false].toArray 68 (0, 0))] ++ H) (by (exact a_arrs)); intro M2 hM2 hin)
  have hb4 := hown4.plB hin
  obtain ⟨A4, c4, rfl, _, _⟩ := hown4.form
  (repeat' (first | (refine a_go ?_; intros) | refine a_sp (fun h => ?_) fun h => ?_ | fail))
  have hfit := app_fit (b := b) (n := n) hnn (by omega)
  (apply R.call; (exact a_evs); exact rfl; exact rdoes_KC (ho2.mono hM2) hok hl hlen (show DeC M2 (.app n b) _ from ⟨_, rfl, hb4⟩) hfit; rintro _ M3 _ ⟨rfl, hM3, hp3, ho3, rfl⟩)
  (repeat' (first | (refine a_go ?_; intros) | refine a_sp (fun h => ?_) fun h => ?_ | fail))
  (refine Fin.rA (hp3 ++ H) ?_)
  exact ⟨rfl, hM2.trans_ hM3, hp3, ho3, rfl⟩
 ·have hE : appE d n b = 0 := (if_neg hs).trans ((if_neg hnm').trans (if_neg (fun h => by
   rcases h with h | h
   ·exact hB h
   ·rw [f2] at h; cases h.1)))
  rw [hE] at hQ
  (repeat' (first | (refine a_go ?_; intros) | refine a_sp (fun h => ?_) fun h => ?_ | fail))
  (apply C.regionT (t := .free 0 (.free 1 (.free 2 (.free 3 (.free 4 (.free 5 (.free 6 (.free 7 (.free 8 (.free 9 (.free 10 (.free 11 (.free 12 (.free 13 (.free 14 (.free 15 (.free 16 (.free 17 (.free 18 (.free 19 (.free 20 (.free 21 (.free 22 (.free 23 (.free 24 (.free 25 (.free 26 (.free 27 (.free 28 (.free 29 (.free 30 (.free 31 (.free 32 (.free 33 (.free 34 (.free 35 .nil)))))))))))))))))))))))))))))))))))) (Hs := [(rb, .cells [.int .i64 d.room, sv, .slice A1 G.length k1, wv, .bool fused, .int .i64 fuse, .bool false].toArray 68 (0, 0))]); exact Mix.h; (first | exact Arr.all _ | (exact a_arr) | (exact a_arrs)); (exact a_np); kernel_rfl)
  (repeat' (first | (apply RT.step; exact rfl; intro _ _ _; (apply Ok.move; exact rfl); exact rfl) | (apply RT.callQT; exact rfl; exact inferInstance; exact rfl; exact rfl; exact rfl; (exact a_evs); exact rfl; (first | exact husedQ | exact hfindQ)) | ((first | (apply RT.step; exact rfl; intro _ _ _) | (apply RT.stepT; exact rfl; exact rfl; exact rfl; exact rfl; intro _ _ _)); (exact a_cmp); exact rfl) | refine a_ot ?_ | fail))
  apply RT.nil
  (repeat' (first | (refine a_go ?_; intros) | refine a_sp (fun h => ?_) fun h => ?_ | fail))
  (apply R.append (news := b.map bv) (k := b.length); exact rfl; exact rfl; exact Own.empty; (exact a_tk); exact Pl.rd hb3; (rw [List.length_map, Nat.mul_one]); exact bv_one _; omega; exact rfl; decide; decide; exact rfl; rintro v4 hp4 hown4)
  rw [List.nil_append, Nat.zero_add] at hown4
  (apply R.ice (hp := hp4) (H1 := [(rb, .cells [.int .i64 d.room, sv, .slice A1 G.length k1, wv, .bool fused, .int .i64 fuse, .bool false].toArray 68 (0, 0))] ++ H) (by (exact a_arrs)); intro M2 hM2 hin)
  have hb4 := hown4.plB hin
  obtain ⟨A4, c4, rfl, _, _⟩ := hown4.form
  (repeat' (first | (refine a_go ?_; intros) | refine a_sp (fun h => ?_) fun h => ?_ | fail))
  have hfit := app_fit (b := b) (n := n) hnn (by omega)
  (apply R.call; (exact a_evs); exact rfl; exact rdoes_KC (ho2.mono hM2) hok hl hlen (show DeC M2 (.app n b) _ from ⟨_, rfl, hb4⟩) hfit; rintro _ M3 _ ⟨rfl, hM3, hp3, ho3, rfl⟩)
  (repeat' (first | (refine a_go ?_; intros) | refine a_sp (fun h => ?_) fun h => ?_ | fail))
  (refine Fin.rA (hp3 ++ H) ?_)
  exact ⟨rfl, hM2.trans_ hM3, hp3, ho3, rfl⟩
theorem RdO.of {rb : Nat} {d : Dk} {x : RdX} (h : RdI M d x) : RdO M rb d [(rb, rdkB d.room x.sv x.nv x.wv x.fused x.fuse d.down)] := by
 unfold RdO
 exact ⟨x, h, rfl⟩
theorem rnew_ok {room : Int} (h0 : 0 ≤ room) (h1 : room ≤ 1048576) : RdI M (newD room) ⟨[], [], .slice none 0 0, .slice none 0 0, .slice none 0 0, false, 0⟩ :=
 ⟨⟨⟨h0, h1⟩, ⟨Int.le_refl _, show (-1 : Int) ≤ 4611686018427387904 by decide⟩, Nat.zero_le _, trivial⟩, PlFs.nil, PlFs.nil, List.Perm.refl _, List.Perm.refl _, List.Pairwise.nil, List.Pairwise.nil, PlW.nil, rfl, fun h => by cases h⟩
theorem rsync_K {rb : Nat} {d : Dk} {hp : Hp} (ho : RdO M rb d hp) : K Tryz.prog 27 [.pointer (some ⟨rb, 0, none⟩)] M (hp ++ H) fun v' M' H' => v' = .int .i64 (synE d) ∧ M' = M ∧ ∃ hp', RdO M rb (synD d) hp' ∧ H' = hp' ++ H := by
 refine K.enterK Tryz.func27 rfl rfl rfl ?_
 intro Q hNP hQ
 have hok := ho.isok
 (repeat' (first | (refine a_go ?_; intros) | refine a_sp (fun h => ?_) fun h => ?_ | fail))
 (apply R.call; (exact a_evs); exact rfl; exact rcounts_KD ho; rintro _ M _ ⟨rfl, rfl, hp1, ho1, rfl, hdn⟩)
 by_cases hs : stopD d
 ·have hE : synE d = 3 := if_pos hs
  have hD : synD d = cntD d := if_pos hs
  rw [hE, hD] at hQ
  rw [if_pos hs]
  (repeat' (first | (refine a_go ?_; intros) | refine a_sp (fun h => ?_) fun h => ?_ | fail))
  (refine Fin.rA (hp1 ++ H) ?_)
  exact ⟨rfl, rfl, hp1, ho1, rfl⟩
 rw [if_neg hs]
 have hE : synE d = 0 := if_neg hs
 have hD : synD d = { cntD d with S := d.now, ps := [] } := if_neg hs
 rw [hE, hD] at hQ
 unfold RdO at ho1
 obtain ⟨⟨F, G, sv, nv, wv, fused, fuse⟩, hi, rfl⟩ := ho1
 have hnG := hi.nG
 have hpN := hi.pN
 rw [cntD_now] at hpN
 dsimp only at hnG hpN ⊢
 obtain ⟨A1, k1, es1, hnv, hnv2⟩ := hnG.form
 subst hnv
 unfold rdkB
 (repeat' (first | (refine a_go ?_; intros) | refine a_sp (fun h => ?_) fun h => ?_ | fail))
 (refine Fin.rA ([(rb, rdkB (cntD d).room (.slice A1 es1.length k1) (.slice A1 es1.length k1) (.slice none 0 0) fused fuse (cntD d).down)] ++ H) ?_)
 refine ⟨rfl, rfl, _, RdO.of (x := ⟨G, G, .slice A1 es1.length k1, .slice A1 es1.length k1, .slice none 0 0, fused, fuse⟩) ⟨⟨hi.ok.1, hi.ok.2.1, hok.sum, trivial⟩, hnG, hnG, hpN, hpN, hi.srtG, hi.srtG, PlW.nil, hi.fu, hi.fu0⟩, rfl⟩
theorem PlW.at {A : Option Addr} {cap : Nat} {ps : List De} (h : PlW M (.slice A ps.length cap) ps) {i : Nat} (hi : i < ps.length) : ∃ b o c e fr d, A = some ⟨b, o, none⟩ ∧ M.at_ b = some (.cells c e fr) ∧ DeC M ps[i] d ∧ ∀ (q : Nat) u, d[q]? = some u → c[o + i * 5 + q]? = some u := by
 obtain ⟨A', cap', h1, h2, h3, h4⟩ := h
 cases h1
 exact h4.at hi
structure RcX where
 i : Nat
 ii : Int
 F : Fs
 v : Value
 M : Mem
structure RcY where
 F : Fs
 v : Value
 M : Mem
theorem foldl_done_srt : ∀ {ps : List De} {F : Fs}, Srt F → Srt (ps.foldl doneF F)
 | [], _, h => h
 | x :: ps, F, h => foldl_done_srt (ps := ps) (F := doneF F x) (doneF_srt h)
theorem foldl_done_perm : ∀ {ps : List De} {F G : Fs}, Srt F → F.Perm G → (ps.foldl doneF F).Perm (ps.foldl doF G)
 | [], _, _, _, h => h
 | x :: ps, F, G, hs, h => foldl_done_perm (ps := ps) (F := doneF F x) (G := doF G x) (doneF_srt hs) (doneF_perm hs h)
theorem smallX_perm {F G : Fs} {x : De} (hs : Srt F) (h : F.Perm G) (hx : smallX G x) : smallX F x := by
 cases x with
 | app n b => exact hx
 | trc n k =>
  show k ≤ (fileD F n).length
  rw [fileD_perm h hs.nodup]
  exact hx
 | ren n t => trivial
 | rem n => trivial
end Go.Sx
end
section
namespace Go.Sx
open Go Go.Proofs Go.RowKit
attribute [local irreducible] C R Fin K Own OwnT Rd Pl Ok KOf RetOk OpsOf RP KP Res NoPanic KV KE MapS ItS EntS FsO FsR RowD PlD DkO PlFs RT KT OneT RS KS OneS RdO
variable {M M' : Mem} {H H1 H2 : Hp}
def appsD (d : Dk) (F : Fs) : Dk := F.foldl (fun d p => opD (appE d p.1 p.2) d (.app p.1 p.2)) d
structure PaX where
 i : Nat
 ii : Int
 d : Dk
 hp : Hp
 hq : Hp
 M : Mem
def pairD (room : Int) (F : Fs) : Dk := synD (appsD (newD room) (F.take 20))
theorem appsD_snoc (d : Dk) (F : Fs) (p : Txt × Txt) : appsD d (F ++ [p]) = opD (appE (appsD d F) p.1 p.2) (appsD d F) (.app p.1 p.2) := by
 unfold appsD
 rw [List.foldl_append]
 rfl
theorem pair_K {room : Int} {fv : Value} {F : Fs} (h0 : 0 ≤ room) (h1 : room ≤ 1048576) (hf : PlFs M fv F) (hF : ∀ p ∈ F, p.1.length ≤ 4611686018427387904 ∧ p.2.length ≤ 4611686018427387904) : K Tryz.prog 10 [.int .i64 room, fv] M H fun v' M' H' => ∃ db rb hp hq, v' = .tuple #[.pointer (some ⟨db, 0, none⟩), .pointer (some ⟨rb, 0, none⟩), .bool true] ∧ M.le M' ∧ DkO M' db (pairD room F) hp ∧ RdO M' rb (pairD room F) hq ∧ H' = hp ++ (hq ++ H) := by
 refine K.enterK Tryz.func10 rfl rfl rfl ?_
 intro Q hNP hQ
 obtain ⟨A, cap, es, rfl, f1, f2, f3, f4, rfl⟩ := hf.form
 (repeat' (first | (refine a_bx ?_; intro bx) | (refine a_go ?_; intros) | refine a_sp (fun h => ?_) fun h => ?_ | fail))
 (apply R.call; (exact a_evs); exact rfl; exact new_K h0 h1; rintro _ M _ ⟨db, hp, rfl, rfl, ho, rfl⟩)
 (repeat' (first | (refine a_bx ?_; intro bx) | (refine a_go ?_; intros) | refine a_sp (fun h => ?_) fun h => ?_ | fail))
 have hr : RdO M bx (newD room) [(bx, .cells #[.int .i64 room, .slice none 0 0, .slice none 0 0, .slice none 0 0, .bool false, .int .i64 0, .bool false] 68 (0, 0))] := RdO.of (rnew_ok h0 h1)
 generalize hX : [(bx, Obj.cells #[Value.int .i64 room, .slice none 0 0, .slice none 0 0, .slice none 0 0, .bool false, .int .i64 0, .bool false] 68 (0, 0))] = hq at hr
 apply C.arr (H2 := hp ++ (hq ++ H)) (by rw [← hX]; (exact a_arrs))
 have hsz0 : szD (newD room) = 0 := rfl
 apply C.loop (fun y : PaX => (y.i : Int) = y.ii ∧ y.i ≤ min 20 es.length ∧ M.le y.M ∧ y.d = appsD (newD room) ((es.map feP).take y.i) ∧ szD y.d ≤ y.i ∧ DkO y.M db y.d y.hp ∧ RdO y.M bx y.d y.hq)
  (fun y => [(1, .slice A es.length cap), (7, .pointer (some ⟨db, 0, none⟩)), (9, .pointer (some ⟨bx, 0, none⟩)), (10, .int .i64 y.ii)]) (fun y => y.M) (fun y => y.hp ++ (y.hq ++ H)) (fun y => 20 - y.i) ⟨0, 0, newD room, hp, hq, M⟩
 ·exact ⟨rfl, Nat.zero_le _, Mem.le_refl _, rfl, Nat.le_refl _, ho, hr⟩
 ·(exact a_subs)
 ·exact rfl
 ·exact rfl
 rintro ⟨i, ii, d, hp1, hq1, M1⟩ ⟨hii, hi, hM1, hd, hsz, ho1, hr1⟩
 dsimp only at hii hi hM1 hd hsz ho1 hr1 ⊢
 by_cases hix : i < min 20 es.length
 ·have hie : i < es.length := by omega
  obtain ⟨b, o, c, e, fr, hA, hM, hc0, hc1⟩ := fe_at (f3.mono hM1) hie
  subst hA
  obtain ⟨Ai, ci, hvi, q1, q2, q3⟩ := f4 _ (List.getElem_mem hie)
  rw [hvi] at hc1
  rw [show o + i * 2 = o + ii.toNat * 2 by omega] at hc0 hc1
  obtain ⟨z1, z2⟩ := hF (feP es[i]) (List.mem_map.2 ⟨_, List.getElem_mem hie, rfl⟩)
  change es[i].n.length ≤ _ at z1
  change es[i].b.length ≤ _ at z2
  have hpb : PlB M1 (.slice Ai es[i].b.length ci) es[i].b := ⟨Ai, ci, rfl, q1, q2, q3.mono hM1⟩
  have hps := ps_sz d
  have hnl := now_sz d
  (repeat' (first | refine a_mv ?_ | (apply R.step; (exact a_cmp); exact rfl) | (refine a_bx ?_; intro bx) | (refine a_go ?_; intros) | refine a_sp (fun h => ?_) fun h => ?_ | fail))
  (apply C.regionT (t := .free 0 (.free 1 (.free 2 (.free 3 (.free 4 (.free 5 (.free 6 (.free 7 (.free 8 (.free 9 (.free 10 (.free 12 (.free 13 (.free 14 (.free 15 (.free 16 (.free 17 (.free 18 (.free 19 (.free 20 (.free 21 (.free 22 (.one 11 (.one 23 (.free 24 .nil))))))))))))))))))))))))) (Hs := []); exact Mix.h; (first | exact Arr.all _ | (exact a_arr) | (exact a_arrs)); (exact a_np); kernel_rfl)
  (repeat' (first | (apply RT.step; exact rfl; intro _ _ _; (apply Ok.move; exact rfl); exact rfl) | (apply RT.step; exact rfl; intro _ _ hMx; (first | (apply Ok.loadP; exact rfl; exact rfl; exact hMx.2.2 _ _ hM; exact hc0) | (apply Ok.loadP; exact rfl; exact rfl; exact hMx.2.2 _ _ hM; exact hc1)); exact rfl) | refine a_ot ?_ | fail))
  (apply RT.one; apply OneT.eff; exact rfl; intro Kc hKc ops0)
  apply R.arr (H2 := hp1 ++ (hq1 ++ H)) (by (exact a_arrs))
  (apply R.call; (exact a_evs); exact rfl; exact append_K (d := d) (n := es[i].n) ho1 hpb (by omega) (by omega) (by omega); rintro _ M2 _ ⟨rfl, hM2, hp2, ho2, rfl⟩)
  (apply R.nil; apply Fin.kt (Hx := hq1 ++ (hp2 ++ H)) hKc; exact hM2; (exact a_arrs))
  (repeat' (first | (apply RT.step; exact rfl; intro _ _ _; (apply Ok.move; exact rfl); exact rfl) | fail | refine a_ot ?_ | fail))
  (apply RT.one; apply OneT.eff; exact rfl; intro Kc hKc ops0)
  apply R.arr (H2 := hq1 ++ (hp2 ++ H)) (by (exact a_arrs))
  (apply R.call; (exact a_evs); exact rfl; exact rappend_K (d := d) (n := es[i].n) (hr1.mono hM2) (hpb.mono hM2) (by omega) (by omega) (by omega) (by omega); rintro _ M3 _ ⟨rfl, hM3, hq2, hr2, rfl⟩)
  (apply R.nil; apply Fin.kt (Hx := hp2 ++ (hq2 ++ H)) hKc; exact hM2.trans_ hM3; (exact a_arrs))
  (repeat' (first | (apply RT.step; exact rfl; intro _ _ _; (apply Ok.move; exact rfl); exact rfl) | fail | refine a_ot ?_ | fail))
  apply RT.nil
  have hd' : opD (appE d es[i].n es[i].b) d (.app es[i].n es[i].b) = appsD (newD room) ((es.map feP).take (i + 1)) := by
   rw [take_snocE (l := es.map feP) (by rw [List.length_map]; exact hie), appsD_snoc, ← hd, List.getElem_map]
   rfl
  have hsz' := opD_sz d (appE d es[i].n es[i].b) (.app es[i].n es[i].b)
  (repeat' (first | refine a_mv ?_ | (apply R.step; (apply Ok.neIS; exact rfl; exact rfl); exact rfl) | (refine a_bx ?_; intro bx) | (refine a_go ?_; intros) | refine a_sp (fun h => ?_) fun h => ?_ | fail))
  (apply Fin.arr (H2 := hp2 ++ (hq2 ++ H)); (exact a_arrs))
  refine Fin.again (⟨i + 1, ii + 1, opD (appE d es[i].n es[i].b) d (.app es[i].n es[i].b), hp2, hq2, M3⟩ : PaX) ⟨by dsimp only; omega, by dsimp only; omega, hM1.trans_ (hM2.trans_ hM3), hd', by dsimp only; omega, ho2.mono hM3, hr2⟩ (by dsimp only; omega) ?_ rfl rfl
  (exact a_subs)
 have hie : i = min 20 es.length := by omega
 have hpr : d = appsD (newD room) ((es.map feP).take 20) := by
  rw [hd, hie]
  congr 1
  by_cases h : 20 ≤ es.length
  ·rw [Nat.min_eq_left h]
  ·rw [Nat.min_eq_right (by omega), List.take_of_length_le (by rw [List.length_map]; exact Nat.le_refl _), List.take_of_length_le (by rw [List.length_map]; omega)]
 have hPD : pairD room (es.map feP) = synD d := by rw [hpr]; rfl
 rw [hPD] at hQ
 by_cases h20 : ii < (es.length : Int)
 ·(repeat' (first | refine a_mv ?_ | (apply R.step; (exact a_cmp); exact rfl) | (refine a_bx ?_; intro bx) | (refine a_go ?_; intros) | refine a_sp (fun h => ?_) fun h => ?_ | fail))
  (apply R.call; (exact a_evs); exact rfl; exact sync_K ho1; rintro _ M2 _ ⟨rfl, rfl, hp2, ho2, rfl⟩)
  (repeat' (first | (refine a_bx ?_; intro bx) | (refine a_go ?_; intros) | refine a_sp (fun h => ?_) fun h => ?_ | fail))
  apply R.arr (H2 := hq1 ++ (hp2 ++ H)) (by (exact a_arrs))
  (apply R.call; (exact a_evs); exact rfl; exact rsync_K hr1; rintro _ M2 _ ⟨rfl, rfl, hq2, hr2, rfl⟩)
  (repeat' (first | refine a_mv ?_ | (apply R.step; (apply Ok.eqIR; exact rfl; exact rfl; exact rfl); exact rfl) | (refine a_bx ?_; intro bx) | (refine a_go ?_; intros) | refine a_sp (fun h => ?_) fun h => ?_ | fail))
  (refine Fin.rA (hp2 ++ (hq2 ++ H)) ?_)
  exact ⟨db, bx, hp2, hq2, rfl, hM1, ho2, hr2, rfl⟩
 ·(repeat' (first | refine a_mv ?_ | (apply R.step; (exact a_cmp); exact rfl) | (refine a_bx ?_; intro bx) | (refine a_go ?_; intros) | refine a_sp (fun h => ?_) fun h => ?_ | fail))
  (apply R.call; (exact a_evs); exact rfl; exact sync_K ho1; rintro _ M2 _ ⟨rfl, rfl, hp2, ho2, rfl⟩)
  (repeat' (first | (refine a_bx ?_; intro bx) | (refine a_go ?_; intros) | refine a_sp (fun h => ?_) fun h => ?_ | fail))
  apply R.arr (H2 := hq1 ++ (hp2 ++ H)) (by (exact a_arrs))
  (apply R.call; (exact a_evs); exact rfl; exact rsync_K hr1; rintro _ M2 _ ⟨rfl, rfl, hq2, hr2, rfl⟩)
  (repeat' (first | refine a_mv ?_ | (apply R.step; (apply Ok.eqIR; exact rfl; exact rfl; exact rfl); exact rfl) | (refine a_bx ?_; intro bx) | (refine a_go ?_; intros) | refine a_sp (fun h => ?_) fun h => ?_ | fail))
  (refine Fin.rA (hp2 ++ (hq2 ++ H)) ?_)
  exact ⟨db, bx, hp2, hq2, rfl, hM1, ho2, hr2, rfl⟩
structure SdX where
 i : Nat
 ii : Int
 M : Mem
theorem sameDisk_K {db rb : Nat} {d : Dk} {hp hq : Hp} (ho : DkO M db d hp) (hr : RdO M rb d hq) (hsz : szD d ≤ 1000000) : K Tryz.prog 49 [.pointer (some ⟨db, 0, none⟩), .pointer (some ⟨rb, 0, none⟩)] M (hp ++ (hq ++ H)) fun v' M' H' => v' = .bool true ∧ M.le M' ∧ H' = hp ++ (hq ++ H) := by
 refine K.enterK Tryz.func49 rfl rfl rfl ?_
 intro Q hNP hQ
 have hps := ps_sz d
 have hnl := now_sz d
 (repeat' (first | (refine a_go ?_; intros) | refine a_sp (fun h => ?_) fun h => ?_ | fail))
 (apply R.call; (exact a_evs); exact rfl; exact names_KD ho (by omega); rintro v1 M _ ⟨rfl, hn1, hown1, rfl⟩)
 (repeat' (first | (refine a_go ?_; intros) | refine a_sp (fun h => ?_) fun h => ?_ | fail))
 apply R.arr (H2 := hq ++ (hn1 ++ (hp ++ H))) (by (exact a_arrs))
 (apply R.call; (exact a_evs); exact rfl; exact rnames_KD hr (by omega); rintro v2 M _ ⟨rfl, hn2, hown2, rfl⟩)
 obtain ⟨N, hN⟩ : ∃ N, N = namesD d.down d.now := ⟨_, rfl⟩
 rw [← hN] at hown1 hown2
 obtain ⟨A1, c1, rfl, a1, a2⟩ := hown1.form
 obtain ⟨A2, c2, rfl, b1, b2⟩ := hown2.form
 unfold maxLen at a2
 apply R.arr (H2 := (hn1 ++ hn2) ++ (hp ++ (hq ++ H))) (by (exact a_arrs))
 apply R.ice (Arr.all _)
 intro M1 hM1 hin
 have hp1 := hown1.plIn hin.left
 have hp2 := hown2.plIn hin.right
 replace ho := ho.mono hM1
 replace hr := hr.mono hM1
 (repeat' (first | (refine a_go ?_; intros) | refine a_sp (fun h => ?_) fun h => ?_ | fail))
 have hc := id hr
 unfold RdO at hc
 obtain ⟨⟨F, G, sv, nv, wv, fused, fuse⟩, hi, rfl⟩ := hc
 dsimp only at ho hr ⊢
 obtain ⟨Aw, cw, rfl, _⟩ : ∃ A cap, wv = .slice A d.ps.length cap ∧ True := by
  obtain ⟨A, cap, h, _⟩ := hi.w
  exact ⟨A, cap, h, trivial⟩
 unfold rdkB at hr ⊢
 have hu1 : ∀ M' Hx', M1.le M' → K Tryz.prog 67 [.pointer (some ⟨db, 0, none⟩)] M' ((hp ++ [(rb, .cells [.int .i64 d.room, sv, nv, .slice Aw d.ps.length cw, .bool fused, .int .i64 fuse, .bool d.down].toArray 68 (0, 0))]) ++ Hx') (fun u M2 H2 => u = .int .i64 (usedD d.down d.now : Nat) ∧ M2 = M' ∧ H2 = (hp ++ [(rb, .cells [.int .i64 d.room, sv, nv, .slice Aw d.ps.length cw, .bool fused, .int .i64 fuse, .bool d.down].toArray 68 (0, 0))]) ++ Hx') := fun M' Hx' h => by
  rw [List.append_assoc]
  exact dused_KD (ho.mono h)
 have hu2 : ∀ M' Hx', M1.le M' → K Tryz.prog 71 [.pointer (some ⟨rb, 0, none⟩)] M' ((hp ++ [(rb, .cells [.int .i64 d.room, sv, nv, .slice Aw d.ps.length cw, .bool fused, .int .i64 fuse, .bool d.down].toArray 68 (0, 0))]) ++ Hx') (fun u M2 H2 => u = .int .i64 (usedD d.down d.now : Nat) ∧ M2 = M' ∧ H2 = (hp ++ [(rb, .cells [.int .i64 d.room, sv, nv, .slice Aw d.ps.length cw, .bool fused, .int .i64 fuse, .bool d.down].toArray 68 (0, 0))]) ++ Hx') := fun M' Hx' h => K.permQ (perm_mid _ _ _) (rused_KD (hr.mono h))
 have hpd : ∀ M' Hx', M1.le M' → K Tryz.prog 92 [.pointer (some ⟨db, 0, none⟩)] M' ((hp ++ [(rb, .cells [.int .i64 d.room, sv, nv, .slice Aw d.ps.length cw, .bool fused, .int .i64 fuse, .bool d.down].toArray 68 (0, 0))]) ++ Hx') (fun u M2 H2 => u = .int .i64 (d.ps.length : Nat) ∧ M2 = M' ∧ H2 = (hp ++ [(rb, .cells [.int .i64 d.room, sv, nv, .slice Aw d.ps.length cw, .bool fused, .int .i64 fuse, .bool d.down].toArray 68 (0, 0))]) ++ Hx') := fun M' Hx' h => by
  rw [List.append_assoc]
  exact pending_KD (ho.mono h)
 have hdn : ∀ M' Hx', M1.le M' → K Tryz.prog 16 [.pointer (some ⟨db, 0, none⟩)] M' ((hp ++ [(rb, .cells [.int .i64 d.room, sv, nv, .slice Aw d.ps.length cw, .bool fused, .int .i64 fuse, .bool d.down].toArray 68 (0, 0))]) ++ Hx') (fun u M2 H2 => u = .bool d.down ∧ M2 = M' ∧ H2 = (hp ++ [(rb, .cells [.int .i64 d.room, sv, nv, .slice Aw d.ps.length cw, .bool fused, .int .i64 fuse, .bool d.down].toArray 68 (0, 0))]) ++ Hx') := fun M' Hx' h => by
  rw [List.append_assoc]
  exact down_KD (ho.mono h)
 (apply C.regionT (t := .free 0 (.free 1 (.free 2 (.free 3 (.free 4 (.free 5 (.free 6 (.free 7 (.free 8 (.free 9 (.free 10 (.free 11 (.free 12 (.free 13 (.free 14 (.free 15 (.free 16 (.free 17 (.free 18 (.free 19 (.free 20 (.free 21 (.free 22 (.free 23 (.free 24 (.free 25 (.free 26 (.free 27 (.free 28 (.free 29 (.free 30 .nil))))))))))))))))))))))))))))))) (Hs := hp ++ [(rb, .cells [.int .i64 d.room, sv, nv, .slice Aw d.ps.length cw, .bool fused, .int .i64 fuse, .bool d.down].toArray 68 (0, 0))]); exact Mix.h; (first | exact Arr.all _ | (exact a_arr) | (exact a_arrs)); (exact a_np); kernel_rfl)
 (repeat' (first | (apply RT.step; exact rfl; intro _ _ _; (apply Ok.move; exact rfl); exact rfl) | (apply RT.callQT; exact rfl; exact inferInstance; exact rfl; exact rfl; exact rfl; (exact a_evs); exact rfl; (first | exact hu1 | exact hu2 | exact hpd | exact hdn)) | (apply RT.stepT; exact rfl; exact rfl; exact rfl; exact rfl; intro _ _ hMx; (first | (apply Ok.loadM; exact rfl; exact rfl; exact (List.mem_append_left _ (List.mem_append_right _ (List.mem_singleton.2 rfl))); exact rfl) | (apply Ok.neIS; exact rfl; exact rfl) | (apply Ok.neBoS; exact rfl; exact rfl)); exact rfl) | (apply RT.step; exact rfl; intro _ _ hMx; (apply Ok.neIS; exact rfl; exact rfl); exact rfl) | refine a_ot ?_ | fail))
 apply RT.nil
 (repeat' (first | (refine a_go ?_; intros) | refine a_sp (fun h => ?_) fun h => ?_ | fail))
 generalize hX : [(rb, Obj.cells [Value.int .i64 d.room, sv, nv, .slice Aw d.ps.length cw, .bool fused, .int .i64 fuse, .bool d.down].toArray 68 (0, 0))] = hq at hr hQ
 clear hu1 hu2 hpd hdn hi
 apply C.arr (H2 := hp ++ (hq ++ H)) (by rw [← hX]; (exact a_arrs))
 apply C.loop (fun y : SdX => (y.i : Int) = y.ii ∧ y.i ≤ N.length ∧ M1.le y.M)
  (fun y => [(0, .pointer (some ⟨db, 0, none⟩)), (1, .pointer (some ⟨rb, 0, none⟩)), (5, .slice A1 N.length c1), (6, .slice A2 N.length c2), (7, .int .i64 y.ii)]) (fun y => y.M) (fun _ => hp ++ (hq ++ H)) (fun y => N.length - y.i) ⟨0, 0, M1⟩
 ·exact ⟨rfl, Nat.zero_le _, Mem.le_refl _⟩
 ·(exact a_subs)
 ·exact rfl
 ·exact rfl
 rintro ⟨i, ii, M2⟩ ⟨hii, hi, hM2⟩
 dsimp only at hii hi hM2 ⊢
 by_cases hin : i < N.length
 ·obtain ⟨e1, o1, q1, t1, r1, rfl, m1, g1⟩ := (hp1.mono hM2).get (i := i) (v := str N[i]) (by rw [List.getElem?_map, List.getElem?_eq_getElem hin]; rfl)
  obtain ⟨e2, o2, q2, t2, r2, rfl, m2, g2⟩ := (hp2.mono hM2).get (i := i) (v := str N[i]) (by rw [List.getElem?_map, List.getElem?_eq_getElem hin]; rfl)
  rw [show o1 + i = o1 + ii.toNat * 1 by omega] at g1
  rw [show o2 + i = o2 + ii.toNat * 1 by omega] at g2
  generalize N[i] = n at g1 g2
  (repeat' (first | refine a_mv ?_ | (apply R.step; (first | (apply Ok.ltTr; exact rfl; exact rfl; omega) | (apply Ok.loadP; exact rfl; exact rfl; exact m2; exact g2)); exact rfl) | (refine a_go ?_; intros) | refine a_sp (fun h => ?_) fun h => ?_ | fail))
  (apply R.call; (exact a_evs); exact rfl; exact dread_K (n := n) (ho.mono hM2); rintro _ M2 _ ⟨v5, hv5, rfl, hown5, rfl, rfl⟩)
  obtain ⟨A5, k5, rfl, _, _⟩ := hown5.form
  (repeat' (first | refine a_mv ?_ | (apply R.step; (apply Ok.loadP; exact rfl; exact rfl; exact m2; exact g2); exact rfl) | (refine a_go ?_; intros) | refine a_sp (fun h => ?_) fun h => ?_ | fail))
  apply R.arr (H2 := hv5 ++ (hq ++ (hp ++ H))) (by (exact a_arrs))
  apply R.ice (Arr.all _)
  intro M3 hM3 hin5
  have hpl5 := hown5.plIn hin5
  (apply R.call; (exact a_evs); exact rfl; exact rread_KD (n := n) ((hr.mono hM2).mono hM3) (by omega); rintro _ M3 _ ⟨v6, rfl, hpb6, rfl, rfl⟩)
  generalize (readD d n).getD [] = bs at hpb6 hpl5
  generalize (readD d n).isSome = bo
  obtain ⟨A6, k6, rfl, _, _, hpl6⟩ := hpb6
  (repeat' (first | (refine a_go ?_; intros) | refine a_sp (fun h => ?_) fun h => ?_ | fail))
  (apply C.regionT (t := .free 0 (.free 1 (.free 2 (.free 3 (.free 4 (.free 5 (.free 6 (.free 7 (.free 8 (.free 9 (.free 10 (.free 11 (.free 12 (.free 13 (.free 14 (.free 15 .nil)))))))))))))))) (Hs := []); exact Mix.h; (first | exact Arr.all _ | (exact a_arr) | (exact a_arrs)); (exact a_np); kernel_rfl)
  (repeat' (first | (apply RT.step; exact rfl; intro _ _ _; (apply Ok.move; exact rfl); exact rfl) | (apply RT.step; exact rfl; intro _ _ hMx; (first | (apply Ok.loadP; exact rfl; exact rfl; exact hMx.2.2 _ _ (hM3.2.2 _ _ m2); exact g2) | (apply Ok.loadP; exact rfl; exact rfl; exact hMx.2.2 _ _ (hM3.2.2 _ _ m1); exact g1) | (apply Ok.neStrS (bs := n); exact rfl; exact rfl)); exact rfl) | (apply RT.stepT; exact rfl; exact rfl; exact rfl; exact rfl; intro _ _ hMx; (first | (apply Ok.toT (bs := bs); exact rfl; exact (hpl5.mono hMx).rd) | (apply Ok.toT (bs := bs); exact rfl; exact (hpl6.mono hMx).rd) | (apply Ok.neStrS (bs := bs); exact rfl; exact rfl)); exact rfl) | refine a_ot ?_ | fail))
  apply RT.nil
  (repeat' (first | (refine a_go ?_; intros) | refine a_sp (fun h => ?_) fun h => ?_ | fail))
  (apply Fin.arr (H2 := hp ++ (hq ++ H)); (exact a_arrs))
  refine Fin.again (⟨i + 1, ii + 1, M3⟩ : SdX) ⟨by dsimp only; omega, by dsimp only; omega, hM2.trans_ hM3⟩ (by dsimp only; omega) ?_ rfl rfl
  (exact a_subs)
 have hie : i = N.length := by omega
 (repeat' (first | refine a_mv ?_ | (apply R.step; (exact a_cmp); exact rfl) | (refine a_go ?_; intros) | refine a_sp (fun h => ?_) fun h => ?_ | fail))
 (refine Fin.rA (hp ++ (hq ++ H)) ?_)
 exact ⟨rfl, hM1.trans_ hM2, by rw [← hX]; rfl⟩
end Go.Sx
end
section
namespace Go.Sx
open Go Go.Proofs Go.RowKit
attribute [local irreducible] C R Fin K Own OwnT Rd Pl Ok KOf RetOk OpsOf RP KP Res NoPanic KV KE MapS ItS EntS FsO FsR RowD PlD DkO PlFs RT KT OneT RS KS OneS RdO SgO RgO
variable {M M' : Mem} {H H1 H2 : Hp}
theorem lawSame9_K {db rb lb lq : Nat} {d : Dk} {lim : Int} {ss : List Sg} {hp hq hL hR : Hp} (ho : DkO M db d hp) (hr : RdO M rb d hq) (hg : SgO M lb db lim ss hL) (hgr : RgO M lq rb lim ss hR) (hok : sgsOk ss) (hn : (listG ss).length ≤ 1000000000) (hf : firstR ss = firstG ss) (hsz : szD d ≤ 1000000) : K Tryz.prog 14 [.pointer (some ⟨db, 0, none⟩), .pointer (some ⟨rb, 0, none⟩), .pointer (some ⟨lb, 0, none⟩), .pointer (some ⟨lq, 0, none⟩)] M (hp ++ (hq ++ (hL ++ (hR ++ H)))) fun v' M' H' => v' = .bool true ∧ M.le M' ∧ H' = hp ++ (hq ++ (hL ++ (hR ++ H))) := by
 refine K.enterK Tryz.func14 rfl rfl rfl ?_
 intro Q hNP hQ
 (repeat' (first | (refine a_go ?_; intros) | refine a_sp (fun h => ?_) fun h => ?_ | fail))
 (apply R.call; (exact a_evs); exact rfl; exact slist_KL (H1 := hp ++ (hq ++ (hR ++ H))) hg hok (by omega) (by (exact a_arrs)); rintro v1 M1 _ ⟨hE1, hM1, rfl⟩)
 (repeat' (first | (refine a_go ?_; intros) | refine a_sp (fun h => ?_) fun h => ?_ | fail))
 apply R.arr (H2 := hR ++ (hp ++ (hq ++ (hL ++ H)))) (by (exact a_arrs))
 (apply R.call; (exact a_evs); exact rfl; exact rList_K (hgr.mono hM1) (by omega); rintro v2 M2 _ ⟨hE2, hM2, rfl⟩)
 (repeat' (first | (refine a_go ?_; intros) | refine a_sp (fun h => ?_) fun h => ?_ | fail))
 (apply R.call; (exact a_evs); exact rfl; exact sents_K (hE1.mono hM2) hE2; rintro _ M2 _ ⟨rfl, rfl, rfl⟩)
 rw [decide_eq_true rfl]
 have hM12 := hM1.trans_ hM2
 (repeat' (first | (refine a_go ?_; intros) | refine a_sp (fun h => ?_) fun h => ?_ | fail))
 (apply R.call; (exact a_evs); exact rfl; exact sfirst_KL (H1 := hp ++ (hq ++ (hR ++ H))) (hg.mono hM12) hok (by (exact a_arrs)); rintro _ _ _ ⟨rfl, e1_, rfl⟩; subst e1_)
 (repeat' (first | (refine a_go ?_; intros) | refine a_sp (fun h => ?_) fun h => ?_ | fail))
 apply R.arr (H2 := hR ++ (hp ++ (hq ++ (hL ++ H)))) (by (exact a_arrs))
 (apply R.call; (exact a_evs); exact rfl; exact rFirst_K (hgr.mono hM12); rintro _ _ _ ⟨rfl, e1_, rfl⟩; subst e1_)
 rw [hf]
 (repeat' (first | refine a_mv ?_ | (apply R.step; (apply Ok.eqIR; exact rfl; exact rfl; exact rfl); exact rfl) | (refine a_go ?_; intros) | refine a_sp (fun h => ?_) fun h => ?_ | fail))
 (apply R.call; (exact a_evs); exact rfl; exact slast_KL (H1 := hp ++ (hq ++ (hR ++ H))) (hg.mono hM12) hok (by (exact a_arrs)); rintro _ _ _ ⟨rfl, e1_, rfl⟩; subst e1_)
 (repeat' (first | (refine a_go ?_; intros) | refine a_sp (fun h => ?_) fun h => ?_ | fail))
 apply R.arr (H2 := hR ++ (hp ++ (hq ++ (hL ++ H)))) (by (exact a_arrs))
 (apply R.call; (exact a_evs); exact rfl; exact rLast_K (hgr.mono hM12) hok; rintro _ _ _ ⟨rfl, e1_, rfl⟩; subst e1_)
 (repeat' (first | refine a_mv ?_ | (apply R.step; (apply Ok.eqIR; exact rfl; exact rfl; exact rfl); exact rfl) | (refine a_go ?_; intros) | refine a_sp (fun h => ?_) fun h => ?_ | fail))
 apply R.arr (H2 := hp ++ (hq ++ (hL ++ (hR ++ H)))) (by (exact a_arrs))
 (apply R.call; (exact a_evs); exact rfl; exact sameDisk_K (ho.mono hM12) (hr.mono hM12) hsz; rintro _ M3 _ ⟨rfl, hM3, rfl⟩)
 (repeat' (first | (refine a_go ?_; intros) | refine a_sp (fun h => ?_) fun h => ?_ | fail))
 (refine Fin.rA (hp ++ (hq ++ (hL ++ (hR ++ H)))) ?_)
 exact ⟨rfl, hM12.trans_ hM3, rfl⟩
end Go.Sx
end
section
namespace Go.Sx
open Go Go.Proofs Go.RowKit
attribute [local irreducible] C R Fin K Own OwnT Rd Pl Ok KOf RetOk OpsOf RP KP Res NoPanic KV
variable {M M' : Mem} {H H1 hrow : Hp}
theorem q5number_K {n : Int} : K Tryz.prog 63 [.bool true, .int .u64 n] M H fun v M' H' => v = .bool (decide (nmS n)) ∧ M' = M ∧ H' = H := by
 refine K.enterK Tryz.func63 rfl rfl rfl ?_
 intro Q hNP hQ
 (repeat' (first | (refine a_go ?_; intros) | refine a_sp (fun h => ?_) fun h => ?_ | fail))
 all_goals (refine Fin.rt ?_)
 all_goals (refine ⟨?_, rfl, rfl⟩; (first | apply bo_t | apply bo_f | apply bo_))
 all_goals unfold nmS
 all_goals omega
theorem q4set_K {n : Int} : K Tryz.prog 64 [.int .i64 n] M H fun v M' H' => v = .bool (decide (0 ≤ n ∧ n ≤ 254 ∧ n % 2 = 0)) ∧ M' = M ∧ H' = H := by
 refine K.enterK Tryz.func64 rfl rfl rfl ?_
 intro Q hNP hQ
 (repeat' (first | refine a_mv ?_ | (apply R.step; (apply Ok.and1; exact rfl; exact rfl); exact rfl) | (refine a_go ?_; intros) | refine a_sp (fun h => ?_) fun h => ?_ | fail))
 all_goals (refine Fin.rt ?_)
 all_goals (refine ⟨?_, rfl, rfl⟩; (first | apply bo_t | apply bo_f | apply bo_))
 all_goals omega
theorem r5entry_K {e : En} {A : Option Addr} {cap : Nat} : K Tryz.prog 19 [eV e (.slice A e.data.length cap)] M H fun v M' H' => v = .bool (decide (entS e)) ∧ M' = M ∧ H' = H := by
 refine K.enterK Tryz.func19 rfl rfl rfl ?_
 intro Q hNP hQ
 (repeat' (first | (refine a_go ?_; intros) | refine a_sp (fun h => ?_) fun h => ?_ | fail | (apply R.call; (exact a_evs); exact rfl; (first | exact q5number_K | exact q4set_K); rintro _ _ _ ⟨rfl, e1_, e2_⟩; replace e1_ := e1_.symm; subst e1_; replace e2_ := e2_.symm; subst e2_)))
 all_goals (refine Fin.rA (H) ?_)
 all_goals (refine ⟨?_, rfl, rfl⟩; (first | apply bo_t | apply bo_f | apply bo_))
 all_goals (unfold entS; (try unfold nmS at *); (try unfold setS at *); omega)
end Go.Sx
end
section
namespace Go.Sx
open Go Go.Proofs Go.RowKit
attribute [local irreducible] C R Fin K Own OwnT Rd Pl Ok KOf RetOk OpsOf RP KP Res NoPanic KV KE RT KT OneT RS KS OneS
variable {M M' : Mem} {H H1 H2 : Hp}
structure RnuX where
 n : Nat
 v : Value
 bs : Txt
 hr : Hp
theorem hi_byte (n : Nat) : UInt8.ofNat (n % 128 + 128) = (UInt8.ofNat n ||| 128) := by
 apply UInt8.toNat_inj.1
 rw [or128_toNat, UInt8.toNat_ofNat', UInt8.toNat_ofNat']
 omega
def rrdB (v : Value) (at_ : Nat) (bad : Int) : Obj := .cells [v, .int .i64 (at_ : Int), .int .i64 bad].toArray 162 (0, 0)
theorem wrong_K {rb : Nat} {v : Value} {at_ at2 : Nat} {bad e : Int} : K Tryz.prog 136 [.pointer (some ⟨rb, 0, none⟩), .int .i64 (at2 : Int), .int .i64 e] M ((rb, rrdB v at_ bad) :: H) fun v' M' H' => v' = .int .u64 0 ∧ M' = M ∧ H' = (rb, rrdB v at2 e) :: H := by
 refine K.enterK Tryz.func136 rfl rfl rfl ?_
 intro Q hNP hQ
 unfold rrdB at hQ ⊢
 (repeat' (first | (refine a_go ?_; intros) | refine a_sp (fun h => ?_) fun h => ?_ | fail))
 (refine Fin.rA ((rb, .cells [v, .int .i64 (at2 : Int), .int .i64 e].toArray 162 (0, 0)) :: H) ?_)
 exact ⟨rfl, rfl, rfl⟩
theorem rrbyte_K {rb : Nat} {v : Value} {bs : Txt} {at_ : Nat} {bad : Int} {most : UInt8} (hb : PlB M v bs) (ha : at_ ≤ bs.length) : K Tryz.prog 116 [.pointer (some ⟨rb, 0, none⟩), bv most] M ((rb, rrdB v at_ bad) :: H) fun v' M' H' => v' = bv (byteR bs most at_ bad).1 ∧ M' = M ∧ H' = (rb, rrdB v (byteR bs most at_ bad).2.1 (byteR bs most at_ bad).2.2) :: H := by
 refine K.enterK Tryz.func116 rfl rfl rfl ?_
 intro Q hNP hQ
 obtain ⟨A, c, rfl, h1, h2, h3⟩ := hb
 by_cases hbad : bad = 0
 ·subst hbad
  by_cases hix : at_ < bs.length
  ·obtain ⟨b0, o0, cc, e0, f0, rfl, hM, hcell⟩ := h3.get (i := at_) (v := bv bs[at_]) (by rw [List.getElem?_map, List.getElem?_eq_getElem hix]; rfl)
   have hbr : byteR bs most at_ 0 = if most.toNat < bs[at_].toNat then (0, at_, 12) else (bs[at_], at_ + 1, 0) := by
    unfold byteR
    rw [if_neg (by simp), List.getElem?_eq_getElem hix]
   generalize bs[at_] = x at hcell hbr
   have e1 : o0 + ((at_ : Nat) : Int).toNat * 1 = o0 + at_ := by omega
   have e2 : o0 + ((at_ : Int) + 1 - 1).toNat * 1 = o0 + at_ := by omega
   unfold rrdB at hQ ⊢
   (repeat' (first | (refine a_go ?_; intros) | refine a_sp (fun h => ?_) fun h => ?_ | fail))
   (apply C.regionT (t := .free 0 (.free 1 (.free 2 (.free 3 (.free 4 (.free 5 (.free 6 (.free 7 (.free 8 (.free 9 (.free 10 .nil))))))))))) (Hs := [(rb, .cells [.slice (some ⟨b0, o0, none⟩) bs.length c, .int .i64 ↑at_, .int .i64 0].toArray 162 (0, 0))]); exact Mix.h; (first | exact Arr.all _ | (exact a_arr) | (exact a_arrs)); (exact a_np); kernel_rfl)
   (repeat' (first | (apply RT.step; exact rfl; intro _ _ _; (apply Ok.move; exact rfl); exact rfl) | ((first | (apply RT.step; exact rfl; intro _ _ _) | (apply RT.stepT; exact rfl; exact rfl; exact rfl; exact rfl; intro _ _ _)); (exact a_cmp); exact rfl) | refine a_ot ?_ | fail))
   apply RT.nil
   (repeat' (first | (refine a_go ?_; intros) | refine a_sp (fun h => ?_) fun h => ?_ | fail))
   (apply C.regionT (t := .free 0 (.free 1 (.free 2 (.free 3 (.free 4 (.free 5 (.free 6 (.free 7 (.free 8 (.free 9 (.free 10 (.free 11 (.free 12 .nil))))))))))))) (Hs := [(rb, .cells [.slice (some ⟨b0, o0, none⟩) bs.length c, .int .i64 ↑at_, .int .i64 0].toArray 162 (0, 0))]); exact Mix.h; (first | exact Arr.all _ | (exact a_arr) | (exact a_arrs)); (exact a_np); kernel_rfl)
   (repeat' (first | (apply RT.step; exact rfl; intro _ _ _; (apply Ok.move; exact rfl); exact rfl) | (apply RT.step; exact rfl; intro _ _ hMx; (first | (apply Ok.indexAddr; exact rfl; exact rfl; omega; omega) | (apply Ok.loadP; exact rfl; exact rfl; exact le_at hMx hM; rw [e1]; exact hcell)); exact rfl) | refine a_ot ?_ | fail))
   apply RT.nil
   by_cases hm : most.toNat < x.toNat
   ·rw [if_pos hm] at hbr
    rw [hbr] at hQ
    (repeat' (first | (refine a_go ?_; intros) | refine a_sp (fun h => ?_) fun h => ?_ | fail))
    any_goals (exfalso; omega)
    (apply R.call; (exact a_evs); exact rfl; exact wrong_K (at_ := at_) (at2 := at_) (bad := 0) (e := 12); rintro _ M _ ⟨rfl, rfl, rfl⟩)
    (repeat' (first | (refine a_go ?_; intros) | refine a_sp (fun h => ?_) fun h => ?_ | fail))
    (refine Fin.rA ((rb, rrdB (.slice (some ⟨b0, o0, none⟩) bs.length c) at_ 12) :: H) ?_)
    exact ⟨rfl, rfl, rfl⟩
   ·rw [if_neg hm] at hbr
    rw [hbr] at hQ
    (repeat' (first | (refine a_go ?_; intros) | refine a_sp (fun h => ?_) fun h => ?_ | fail))
    any_goals (exfalso; omega)
    (apply C.regionT (t := .free 0 (.free 1 (.free 2 (.free 3 (.free 4 (.free 5 (.free 6 (.free 7 (.free 8 (.free 9 (.free 10 (.free 11 .nil)))))))))))) (Hs := [(rb, .cells [.slice (some ⟨b0, o0, none⟩) bs.length c, .int .i64 (↑at_ + 1), .int .i64 0].toArray 162 (0, 0))]); exact Mix.h; (first | exact Arr.all _ | (exact a_arr) | (exact a_arrs)); (exact a_np); kernel_rfl)
    (repeat' (first | (apply RT.step; exact rfl; intro _ _ _; (apply Ok.move; exact rfl); exact rfl) | (apply RT.step; exact rfl; intro _ _ hMx; (first | (apply Ok.indexAddr; exact rfl; exact rfl; omega; omega) | (apply Ok.loadP; exact rfl; exact rfl; exact le_at hMx hM; rw [e2]; exact hcell)); exact rfl) | refine a_ot ?_ | fail))
    apply RT.nil
    (repeat' (first | (refine a_go ?_; intros) | refine a_sp (fun h => ?_) fun h => ?_ | fail))
    (refine Fin.rA ((rb, .cells [.slice (some ⟨b0, o0, none⟩) bs.length c, .int .i64 (↑at_ + 1), .int .i64 0].toArray 162 (0, 0)) :: H) ?_)
    exact ⟨rfl, rfl, rfl⟩
  ·have hbr : byteR bs most at_ 0 = (0, at_, 10) := by
    unfold byteR
    rw [if_neg (by simp), List.getElem?_eq_none (by omega)]
   rw [hbr] at hQ
   unfold rrdB at hQ ⊢
   (repeat' (first | (refine a_go ?_; intros) | refine a_sp (fun h => ?_) fun h => ?_ | fail))
   (apply C.regionT (t := .free 0 (.free 1 (.free 2 (.free 3 (.free 4 (.free 5 (.free 6 (.free 7 (.free 8 (.free 9 (.free 10 .nil))))))))))) (Hs := [(rb, .cells [.slice A bs.length c, .int .i64 ↑at_, .int .i64 0].toArray 162 (0, 0))]); exact Mix.h; (first | exact Arr.all _ | (exact a_arr) | (exact a_arrs)); (exact a_np); kernel_rfl)
   (repeat' (first | (apply RT.step; exact rfl; intro _ _ _; (apply Ok.move; exact rfl); exact rfl) | ((first | (apply RT.step; exact rfl; intro _ _ _) | (apply RT.stepT; exact rfl; exact rfl; exact rfl; exact rfl; intro _ _ _)); (exact a_cmp); exact rfl) | refine a_ot ?_ | fail))
   apply RT.nil
   (repeat' (first | (refine a_go ?_; intros) | refine a_sp (fun h => ?_) fun h => ?_ | fail))
   (apply R.call; (exact a_evs); exact rfl; exact wrong_K (at_ := at_) (at2 := at_) (bad := 0) (e := 10); rintro _ M _ ⟨rfl, rfl, rfl⟩)
   (repeat' (first | (refine a_go ?_; intros) | refine a_sp (fun h => ?_) fun h => ?_ | fail))
   (refine Fin.rA ((rb, rrdB (.slice A bs.length c) at_ 10) :: H) ?_)
   exact ⟨rfl, rfl, rfl⟩
 ·have hbr : byteR bs most at_ bad = (0, at_, bad) := if_pos hbad
  rw [hbr] at hQ
  unfold rrdB at hQ ⊢
  (repeat' (first | refine a_mv ?_ | (apply R.step; (exact a_cmp); exact rfl) | (refine a_go ?_; intros) | refine a_sp (fun h => ?_) fun h => ?_ | fail))
  (refine Fin.rA ((rb, .cells [.slice A bs.length c, .int .i64 ↑at_, .int .i64 bad].toArray 162 (0, 0)) :: H) ?_)
  exact ⟨rfl, rfl, rfl⟩
theorem rrend_K {rb : Nat} {v : Value} {bs : Txt} {at_ : Nat} {bad : Int} (hb : PlB M v bs) (hl : bs.length ≤ 1099511627776) : K Tryz.prog 119 [.pointer (some ⟨rb, 0, none⟩)] M ((rb, rrdB v at_ bad) :: H) fun v' M' H' => v' = .int .i64 (endR bs at_ bad) ∧ M' = M ∧ H' = (rb, rrdB v at_ bad) :: H := by
 refine K.enterK Tryz.func119 rfl rfl rfl ?_
 intro Q hNP hQ
 obtain ⟨A, c, rfl, h1, h2, h3⟩ := hb
 unfold rrdB at hQ ⊢
 (repeat' (first | (refine a_go ?_; intros) | refine a_sp (fun h => ?_) fun h => ?_ | fail))
 (apply C.regionT (t := .free 0 (.free 1 (.free 2 (.free 3 (.free 4 (.free 5 (.free 6 (.free 7 (.free 8 (.free 9 (.free 10 (.free 11 (.free 12 (.free 13 (.free 14 (.free 15 (.free 16 .nil))))))))))))))))) (Hs := [(rb, .cells [.slice A bs.length c, .int .i64 ↑at_, .int .i64 bad].toArray 162 (0, 0))]); exact Mix.h; (first | exact Arr.all _ | (exact a_arr) | (exact a_arrs)); (exact a_np); kernel_rfl)
 by_cases hbad : bad = 0
 ·subst hbad
  by_cases hlt : at_ < bs.length
  ·have hE : endR bs at_ 0 = 11 := if_pos ⟨rfl, hlt⟩
   rw [hE] at hQ
   (repeat' (first | (apply RT.step; exact rfl; intro _ _ _; (apply Ok.move; exact rfl); exact rfl) | ((first | (apply RT.step; exact rfl; intro _ _ _) | (apply RT.stepT; exact rfl; exact rfl; exact rfl; exact rfl; intro _ _ _)); (exact a_cmp); exact rfl) | refine a_ot ?_ | fail))
   apply RT.nil
   (repeat' (first | (refine a_go ?_; intros) | refine a_sp (fun h => ?_) fun h => ?_ | fail))
   (refine Fin.rA ((rb, .cells [.slice A bs.length c, .int .i64 ↑at_, .int .i64 0].toArray 162 (0, 0)) :: H) ?_)
   exact ⟨rfl, rfl, rfl⟩
  ·have hE : endR bs at_ 0 = 0 := if_neg (fun h => hlt h.2)
   rw [hE] at hQ
   (repeat' (first | (apply RT.step; exact rfl; intro _ _ _; (apply Ok.move; exact rfl); exact rfl) | ((first | (apply RT.step; exact rfl; intro _ _ _) | (apply RT.stepT; exact rfl; exact rfl; exact rfl; exact rfl; intro _ _ _)); (exact a_cmp); exact rfl) | refine a_ot ?_ | fail))
   apply RT.nil
   (repeat' (first | (refine a_go ?_; intros) | refine a_sp (fun h => ?_) fun h => ?_ | fail))
   (refine Fin.rA ((rb, .cells [.slice A bs.length c, .int .i64 ↑at_, .int .i64 0].toArray 162 (0, 0)) :: H) ?_)
   exact ⟨rfl, rfl, rfl⟩
 ·have hE : endR bs at_ bad = bad := if_neg (fun h => hbad h.1)
  rw [hE] at hQ
  (repeat' (first | (apply RT.step; exact rfl; intro _ _ _; (apply Ok.move; exact rfl); exact rfl) | ((first | (apply RT.step; exact rfl; intro _ _ _) | (apply RT.stepT; exact rfl; exact rfl; exact rfl; exact rfl; intro _ _ _)); (exact a_cmp); exact rfl) | refine a_ot ?_ | fail))
  apply RT.nil
  (repeat' (first | (refine a_go ?_; intros) | refine a_sp (fun h => ?_) fun h => ?_ | fail))
  (refine Fin.rA ((rb, .cells [.slice A bs.length c, .int .i64 ↑at_, .int .i64 bad].toArray 162 (0, 0)) :: H) ?_)
  exact ⟨rfl, rfl, rfl⟩
theorem rrnum_K {rb : Nat} {v : Value} {bs : Txt} {at_ : Nat} {bad : Int} {most : Nat} (hb : PlB M v bs) (hl : bs.length ≤ 1099511627776) (ha : at_ ≤ bs.length) : K Tryz.prog 117 [.pointer (some ⟨rb, 0, none⟩), .int .u64 (most : Int)] M ((rb, rrdB v at_ bad) :: H) fun v' M' H' => v' = .int .u64 ((numRd bs most at_ bad).1 : Int) ∧ M' = M ∧ H' = (rb, rrdB v (numRd bs most at_ bad).2.1 (numRd bs most at_ bad).2.2) :: H := by
 refine K.enterK Tryz.func117 rfl rfl rfl ?_
 intro Q hNP hQ
 obtain ⟨A, c, rfl, h1, h2, h3⟩ := hb
 by_cases hbad : bad = 0
 rotate_left
 ·have hbr : numRd bs most at_ bad = (0, at_, bad) := if_pos hbad
  rw [hbr] at hQ
  unfold rrdB at hQ ⊢
  (repeat' (first | refine a_mv ?_ | (apply R.step; (exact a_cmp); exact rfl) | (refine a_go ?_; intros) | refine a_sp (fun h => ?_) fun h => ?_ | fail))
  (refine Fin.rA ((rb, .cells [.slice A bs.length c, .int .i64 ↑at_, .int .i64 bad].toArray 162 (0, 0)) :: H) ?_)
  exact ⟨rfl, rfl, rfl⟩
 subst hbad
 have hnr : numRd bs most at_ 0 = if (numR bs at_).2.1 = 0 ∧ most < (numR bs at_).1 then (0, at_, 12) else if (numR bs at_).2.1 ≠ 0 then (0, at_, (numR bs at_).2.1) else ((numR bs at_).1, (numR bs at_).2.2, 0) := if_neg (by simp)
 unfold rrdB at hQ ⊢
 (repeat' (first | (refine a_go ?_; intros) | refine a_sp (fun h => ?_) fun h => ?_ | fail))
 apply C.loop (fun y : NmL => (y.i : Int) = y.ii ∧ y.i < 10 ∧ y.n < 128 ^ y.i ∧ numR bs at_ = numGo bs at_ (10 - y.i) y.i y.n)
  (fun y => [(0, .pointer (some ⟨rb, 0, none⟩)), (1, .int .u64 (most : Int)), (5, .int .i64 (at_ : Int)), (6, .int .u64 (y.n : Int)), (7, .int .i64 y.ii)]) (fun _ => M) (fun _ => (rb, .cells [.slice A bs.length c, .int .i64 ↑at_, .int .i64 0].toArray 162 (0, 0)) :: H) (fun y => 10 - y.i) ⟨0, 0, 0⟩
 ·exact ⟨rfl, by decide, by decide, rfl⟩
 ·(exact a_subs)
 ·exact rfl
 ·exact rfl
 rintro ⟨i, ii, n⟩ ⟨hii, hi, hn, hr⟩
 dsimp only at hii hi hn hr ⊢
 by_cases hix : at_ + i < bs.length
 ·obtain ⟨b0, o0, cc, e0, f0, hA, hM, hcell⟩ := h3.get (i := at_ + i) (v := bv bs[at_ + i]) (by rw [List.getElem?_map, List.getElem?_eq_getElem hix]; rfl)
  subst hA
  rw [show 10 - i = (9 - i) + 1 by omega] at hr
  unfold numGo at hr
  rw [List.getElem?_eq_getElem hix] at hr
  dsimp only at hr
  generalize bs[at_ + i] = x at hcell hr
  have hx := x.toNat_lt
  have hpw : 2 ^ (7 * i) = 128 ^ i := by rw [Nat.pow_mul]
  obtain ⟨p, hp128⟩ : ∃ p, p = 128 ^ i := ⟨_, rfl⟩
  have hx7 : x.toNat % 128 * p ≤ 127 * p := Nat.mul_le_mul_right _ (by omega)
  have hsucc : 128 ^ (i + 1) = p * 128 := by rw [Nat.pow_succ, hp128]
  have hp9 : i ≤ 8 → p * 128 ≤ 9223372036854775808 := fun h => by
   rw [← hsucc]
   exact Nat.le_trans (Nat.pow_le_pow_right (by decide) (show i + 1 ≤ 9 by omega)) (by decide)
  have hp10 : i = 9 → p = 9223372036854775808 := fun h => by rw [hp128, h]
  rw [← hp128] at hn hr
  have hbig : ¬ (i = 9 ∧ 1 < x.toNat) → n + x.toNat % 128 * p ≤ 18446744073709551615 := fun h => by
   by_cases h9 : i = 9
   ·have h1 := hp10 h9
    have h2 : x.toNat % 128 ≤ 1 := by omega
    have h3 : x.toNat % 128 * p ≤ 1 * p := Nat.mul_le_mul_right _ h2
    omega
   ·have := hp9 (by omega)
    omega
  have e1 : o0 + ((at_ : Int) + ii).toNat * 1 = o0 + (at_ + i) := by omega
  have e128 : (x.toNat : Int) % 128 = ((x.toNat % 128 : Nat) : Int) := by omega
  by_cases hf9 : i = 9 ∧ 1 < x.toNat
  ·rw [if_pos hf9] at hr
   have hnz : numRd bs most at_ 0 = (0, at_, 11) := by
    rw [hnr, hr]
    rfl
   rw [hnz] at hQ
   have hi9 : ii = 9 := by omega
   (repeat' (first | refine a_mv ?_ | (apply R.step; (first | (apply Ok.loadP; exact rfl; exact rfl; exact hM; rw [e1]; exact hcell) | (apply Ok.eqIR; exact rfl; exact rfl; exact hi9) | (apply Ok.geF; exact rfl; exact rfl; omega) | (apply Ok.gtTr; exact rfl; exact rfl; omega)); exact rfl) | (refine a_go ?_; intros) | refine a_sp (fun h => ?_) fun h => ?_ | fail))
   (apply R.call; (exact a_evs); exact rfl; exact wrong_K (at_ := at_) (at2 := at_) (bad := 0) (e := 11); rintro _ M _ ⟨rfl, rfl, rfl⟩)
   (repeat' (first | (refine a_go ?_; intros) | refine a_sp (fun h => ?_) fun h => ?_ | fail))
   (refine Fin.rA ((rb, rrdB (.slice (some ⟨b0, o0, none⟩) bs.length c) at_ 11) :: H) ?_)
   exact ⟨rfl, rfl, rfl⟩
  ·rw [if_neg hf9] at hr
   have hbb := hbig hf9
   (repeat' (first | (refine a_g0 ?_; intros) | refine a_s3 (fun h => ?_) fun h => ?_ | fail))
   (apply C.seqK; intro _ _)
   (repeat' (first | (refine a_g0 ?_; intros) | refine a_s3 (fun h => ?_) fun h => ?_ | fail))
   (apply C.seqK; intro _ _)
   (repeat' (first | (refine a_g0 ?_; intros) | refine a_s3 (fun h => ?_) fun h => ?_ | fail))
   (apply C.condDec; exact rfl; (intro h; exfalso; omega); intro _)
   (repeat' (first | (refine a_g0 ?_; intros) | refine a_s3 (fun h => ?_) fun h => ?_ | fail))
   (apply R.step; (apply Ok.loadP; exact rfl; exact rfl; exact hM; rw [e1]; exact hcell); exact rfl)
   (repeat' (first | (refine a_g0 ?_; intros) | refine a_s3 (fun h => ?_) fun h => ?_ | fail))
   apply C.seqCut (X := Unit) (fun _ => True) (fun _ => [(0, .pointer (some ⟨rb, 0, none⟩)), (1, .int .u64 (most : Int)), (5, .int .i64 (at_ : Int)), (6, .int .u64 (n : Int)), (7, .int .i64 ii), (8, bv x)]) (fun _ => M) (fun _ => (rb, .cells [.slice (some ⟨b0, o0, none⟩) bs.length c, .int .i64 ↑at_, .int .i64 0].toArray 162 (0, 0)) :: H)
   ·(repeat' (first | (refine a_go ?_; intros) | refine a_sp (fun h => ?_) fun h => ?_ | fail))
    any_goals (exfalso; omega)
    all_goals (refine Fin.join () trivial ?_ rfl rfl; (exact a_subs))
   ·intro _ _
    generalize hq : n + x.toNat % 128 * p = q at hr hbb
    have eqq : (n : Int) + ((x.toNat % 128 * p : Nat) : Int) = (q : Int) := by omega
    have eat : (at_ : Int) + ii + 1 = ((at_ + i + 1 : Nat) : Int) := by omega
    have hok : ¬ 128 ≤ x.toNat → ¬ (x.toNat = 0 ∧ 0 < i) → numR bs at_ = (q, 0, at_ + i + 1) := fun h1 h2 => by
     rw [hr, if_neg h1, if_neg h2]
    have hlong : numR bs at_ = (q, 0, at_ + i + 1) → most < q → numRd bs most at_ 0 = (0, at_, 12) := fun h1 h2 => by
     rw [hnr, h1]
     exact if_pos ⟨rfl, h2⟩
    have hfine : numR bs at_ = (q, 0, at_ + i + 1) → ¬ most < q → numRd bs most at_ 0 = (q, at_ + i + 1, 0) := fun h1 h2 => by
     rw [hnr, h1]
     exact (if_neg (fun h => h2 h.2)).trans (if_neg (fun h => h rfl))
    (repeat' (first | refine a_mv ?_ | (apply R.step; (first | (rw [e128]; apply Ok.convB; exact rfl; apply wu64; omega; omega) | (apply Ok.shlUN (7 * i) p; exact rfl; exact rfl; omega; omega; (rw [hp128]; exact hpw); omega) | (apply Ok.addQ (q : Int); exact rfl; exact rfl; exact eqq; apply wu64; omega; omega) | (apply Ok.addQ ((at_ + i + 1 : Nat) : Int); exact rfl; exact rfl; exact eat; apply w64; omega; omega)); exact rfl) | (refine a_go ?_; intros) | refine a_sp (fun h => ?_) fun h => ?_ | fail))
    ·have h : (128 : Int) ≤ (x.toNat : Int) := by assumption
     have hi9 : i ≠ 9 := fun h9 => hf9 ⟨h9, by omega⟩
     refine Fin.again (⟨i + 1, ii + 1, q⟩ : NmL) ⟨by dsimp only; omega, by dsimp only; omega, by dsimp only; rw [hsucc]; omega, by dsimp only; rw [hr, if_pos (by omega), show 10 - (i + 1) = 9 - i by omega]⟩ (by dsimp only; omega) ?_ rfl rfl
     (exact a_subs)
    ·have h1 : ¬ (128 : Int) ≤ (x.toNat : Int) := by assumption
     have h2 : (x.toNat : Int) = 0 := by assumption
     have h3 : 0 < ii := by assumption
     have hz : numR bs at_ = (0, 11, 0) := by rw [hr, if_neg (by omega), if_pos ⟨by omega, by omega⟩]
     have hnz : numRd bs most at_ 0 = (0, at_, 11) := by
      rw [hnr, hz]
      rfl
     rw [hnz] at hQ
     (apply R.call; (exact a_evs); exact rfl; exact wrong_K (at_ := at_) (at2 := at_) (bad := 0) (e := 11); rintro _ M _ ⟨rfl, rfl, rfl⟩)
     (repeat' (first | (refine a_go ?_; intros) | refine a_sp (fun h => ?_) fun h => ?_ | fail))
     (refine Fin.rA ((rb, rrdB (.slice (some ⟨b0, o0, none⟩) bs.length c) at_ 11) :: H) ?_)
     exact ⟨rfl, rfl, rfl⟩
    ·have h1 : ¬ (128 : Int) ≤ (x.toNat : Int) := by assumption
     have h2 : ¬ 0 < ii := by assumption
     have h3 : (most : Int) < (q : Int) := by assumption
     have hnz := hlong (hok (by omega) (by omega)) (by omega)
     rw [hnz] at hQ
     (apply R.call; (exact a_evs); exact rfl; exact wrong_K (at_ := at_) (at2 := at_) (bad := 0) (e := 12); rintro _ M _ ⟨rfl, rfl, rfl⟩)
     (repeat' (first | (refine a_go ?_; intros) | refine a_sp (fun h => ?_) fun h => ?_ | fail))
     (refine Fin.rA ((rb, rrdB (.slice (some ⟨b0, o0, none⟩) bs.length c) at_ 12) :: H) ?_)
     exact ⟨rfl, rfl, rfl⟩
    ·have h1 : ¬ (128 : Int) ≤ (x.toNat : Int) := by assumption
     have h2 : ¬ 0 < ii := by assumption
     have h3 : ¬ (most : Int) < (q : Int) := by assumption
     have hnz := hfine (hok (by omega) (by omega)) (by omega)
     rw [hnz] at hQ
     (refine Fin.rA ((rb, rrdB (.slice (some ⟨b0, o0, none⟩) bs.length c) (at_ + i + 1) 0) :: H) ?_)
     exact ⟨rfl, rfl, rfl⟩
    ·have h1 : ¬ (128 : Int) ≤ (x.toNat : Int) := by assumption
     have h2 : ¬ (x.toNat : Int) = 0 := by assumption
     have h3 : (most : Int) < (q : Int) := by assumption
     have hnz := hlong (hok (by omega) (by omega)) (by omega)
     rw [hnz] at hQ
     (apply R.call; (exact a_evs); exact rfl; exact wrong_K (at_ := at_) (at2 := at_) (bad := 0) (e := 12); rintro _ M _ ⟨rfl, rfl, rfl⟩)
     (repeat' (first | (refine a_go ?_; intros) | refine a_sp (fun h => ?_) fun h => ?_ | fail))
     (refine Fin.rA ((rb, rrdB (.slice (some ⟨b0, o0, none⟩) bs.length c) at_ 12) :: H) ?_)
     exact ⟨rfl, rfl, rfl⟩
    ·have h1 : ¬ (128 : Int) ≤ (x.toNat : Int) := by assumption
     have h2 : ¬ (x.toNat : Int) = 0 := by assumption
     have h3 : ¬ (most : Int) < (q : Int) := by assumption
     have hnz := hfine (hok (by omega) (by omega)) (by omega)
     rw [hnz] at hQ
     (refine Fin.rA ((rb, rrdB (.slice (some ⟨b0, o0, none⟩) bs.length c) (at_ + i + 1) 0) :: H) ?_)
     exact ⟨rfl, rfl, rfl⟩
 ·have hz : numR bs at_ = (0, 10, 0) := by
   rw [hr, show 10 - i = (9 - i) + 1 by omega]
   unfold numGo
   rw [List.getElem?_eq_none (by omega)]
  have hnz : numRd bs most at_ 0 = (0, at_, 10) := by
   rw [hnr, hz]
   rfl
  rw [hnz] at hQ
  (repeat' (first | refine a_mv ?_ | (apply R.step; (exact a_cmp); exact rfl) | (refine a_go ?_; intros) | refine a_sp (fun h => ?_) fun h => ?_ | fail))
  (apply R.call; (exact a_evs); exact rfl; exact wrong_K (at_ := at_) (at2 := at_) (bad := 0) (e := 10); rintro _ M _ ⟨rfl, rfl, rfl⟩)
  (repeat' (first | (refine a_go ?_; intros) | refine a_sp (fun h => ?_) fun h => ?_ | fail))
  (refine Fin.rA ((rb, rrdB (.slice A bs.length c) at_ 10) :: H) ?_)
  exact ⟨rfl, rfl, rfl⟩
end Go.Sx
end
section
namespace Go.Sx
open Go Go.Proofs Go.RowKit
attribute [local irreducible] C R Fin K Own OwnT Rd Pl Ok KOf RetOk OpsOf RP KP Res NoPanic KV KE MapS ItS EntS RT KT OneT RS KS OneS
variable {M M' : Mem} {H H1 H2 : Hp}
theorem rrtext_K {rb : Nat} {v : Value} {bs : Txt} {at_ : Nat} {bad : Int} {most : Nat} (hb : PlB M v bs) (hl : bs.length ≤ 1099511627776) (ha : at_ ≤ bs.length) (hm : most ≤ 1099511627776) : K Tryz.prog 118 [.pointer (some ⟨rb, 0, none⟩), .int .i64 (most : Int)] M ((rb, rrdB v at_ bad) :: H) fun v' M' H' => M.le M' ∧ PlB M' v' (textR bs most at_ bad).1 ∧ H' = (rb, rrdB v (textR bs most at_ bad).2.1 (textR bs most at_ bad).2.2) :: H := by
 refine K.enterK Tryz.func118 rfl rfl rfl ?_
 intro Q hNP hQ
 by_cases hbad : bad ≠ 0
 ·have hr : numRd bs most at_ bad = (0, at_, bad) := if_pos hbad
  have hT : textR bs most at_ bad = ([], at_, bad) := by
   unfold textR
   rw [hr]
   exact if_pos hbad
  rw [hT] at hQ
  unfold rrdB at hQ ⊢
  (repeat' (first | refine a_mv ?_ | (apply R.step; (apply Ok.neIT; exact rfl; exact rfl; exact hbad); exact rfl) | (refine a_bz ?_; intro bz) | (refine a_go ?_; intros) | refine a_sp (fun h => ?_) fun h => ?_ | fail))
  (refine Fin.rA ((rb, .cells [v, .int .i64 ↑at_, .int .i64 bad].toArray 162 (0, 0)) :: H) ?_)
  exact ⟨Mem.le_refl _, PlB.nil1, rfl⟩
 have hz0 : bad = 0 := by omega
 subst hz0
 have hna := numRd_at (bs := bs) (most := most) (bad := 0) ha
 have hnl := numRd_le (bs := bs) (most := most) (at_ := at_) (bad := 0)
 have hmx : max 0 (most : Int) = (most : Int) := by omega
 unfold rrdB
 (repeat' (first | refine a_mv ?_ | (apply R.step; (first | (apply Ok.convB; exact rfl; rw [hmx]; apply wu64; omega; omega)); exact rfl) | (refine a_bz ?_; intro bz) | (refine a_go ?_; intros) | refine a_sp (fun h => ?_) fun h => ?_ | fail))
 rw [hmx]
 (apply R.call; (exact a_evs); exact rfl; exact rrnum_K (most := most) hb hl ha; rintro _ M _ ⟨rfl, rfl, rfl⟩)
 have hT : textR bs most at_ 0 = if (numRd bs most at_ 0).2.2 ≠ 0 then ([], (numRd bs most at_ 0).2) else
  if bs.length - (numRd bs most at_ 0).2.1 < (numRd bs most at_ 0).1 then ([], at_, 10) else
  ((bs.drop (numRd bs most at_ 0).2.1).take (numRd bs most at_ 0).1, (numRd bs most at_ 0).2.1 + (numRd bs most at_ 0).1, 0) := rfl
 generalize numRd bs most at_ 0 = z at hna hnl hT
 obtain ⟨n, a1, b1⟩ := z
 dsimp only at hna hnl hT ⊢
 obtain ⟨A, c, rfl, h1, h2, h3⟩ := hb
 unfold rrdB at hQ ⊢
 by_cases hb1 : b1 ≠ 0
 ·rw [hT, if_pos hb1] at hQ
  (repeat' (first | refine a_mv ?_ | (apply R.step; (apply Ok.neIT; exact rfl; exact rfl; exact hb1); exact rfl) | (refine a_bz ?_; intro bz) | (refine a_go ?_; intros) | refine a_sp (fun h => ?_) fun h => ?_ | fail))
  (refine Fin.rA ((rb, .cells [.slice A bs.length c, .int .i64 ↑a1, .int .i64 b1].toArray 162 (0, 0)) :: H) ?_)
  exact ⟨Mem.le_refl _, PlB.nil1, rfl⟩
 rw [if_neg hb1] at hT
 have hb0 : b1 = 0 := by omega
 subst hb0
 (repeat' (first | (refine a_bz ?_; intro bz) | (refine a_go ?_; intros) | refine a_sp (fun h => ?_) fun h => ?_ | fail))
 (apply C.regionT (t := .free 0 (.free 1 (.free 2 (.free 3 (.free 4 (.free 5 (.free 6 (.free 7 (.free 8 (.free 9 (.free 10 (.free 11 (.free 12 .nil))))))))))))) (Hs := [(rb, .cells [.slice A bs.length c, .int .i64 ↑a1, .int .i64 0].toArray 162 (0, 0))]); exact Mix.h; (first | exact Arr.all _ | (exact a_arr) | (exact a_arrs)); (exact a_np); kernel_rfl)
 have e1 : (bs.length : Int) - (a1 : Int) = ((bs.length - a1 : Nat) : Int) := by omega
 by_cases hlt : bs.length - a1 < n
 ·rw [hT, if_pos hlt] at hQ
  (repeat' (first | (apply RT.step; exact rfl; intro _ _ _; (apply Ok.move; exact rfl); exact rfl) | (apply RT.step; exact rfl; intro _ _ _; (first | (apply Ok.subQ ((bs.length - a1 : Nat) : Int); exact rfl; exact rfl; exact e1; apply wi64; omega; omega) | (apply Ok.convB; exact rfl; apply wu64; omega; omega)); exact rfl) | ((first | (apply RT.step; exact rfl; intro _ _ _) | (apply RT.stepT; exact rfl; exact rfl; exact rfl; exact rfl; intro _ _ _)); (exact a_cmp); exact rfl) | refine a_ot ?_ | fail))
  apply RT.nil
  (repeat' (first | (refine a_bz ?_; intro bz) | (refine a_go ?_; intros) | refine a_sp (fun h => ?_) fun h => ?_ | fail))
  (apply R.call; (exact a_evs); exact rfl; exact wrong_K (at_ := a1) (at2 := at_) (bad := 0) (e := 10); rintro _ M _ ⟨rfl, rfl, rfl⟩)
  (repeat' (first | (refine a_bz ?_; intro bz) | (refine a_go ?_; intros) | refine a_sp (fun h => ?_) fun h => ?_ | fail))
  (refine Fin.rA ((rb, rrdB (.slice A bs.length c) at_ 10) :: H) ?_)
  exact ⟨Mem.le_refl _, PlB.nil1, rfl⟩
 ·rw [hT, if_neg hlt] at hQ
  (repeat' (first | (apply RT.step; exact rfl; intro _ _ _; (apply Ok.move; exact rfl); exact rfl) | (apply RT.step; exact rfl; intro _ _ _; (first | (apply Ok.subQ ((bs.length - a1 : Nat) : Int); exact rfl; exact rfl; exact e1; apply wi64; omega; omega) | (apply Ok.convB; exact rfl; apply wu64; omega; omega)); exact rfl) | ((first | (apply RT.step; exact rfl; intro _ _ _) | (apply RT.stepT; exact rfl; exact rfl; exact rfl; exact rfl; intro _ _ _)); (exact a_cmp); exact rfl) | refine a_ot ?_ | fail))
  apply RT.nil
  (repeat' (first | (refine a_bz ?_; intro bz) | (refine a_go ?_; intros) | refine a_sp (fun h => ?_) fun h => ?_ | fail))
  (apply C.regionT (t := .free 1 (.free 2 (.free 3 (.free 4 (.free 5 (.free 6 (.free 7 (.free 8 (.free 9 (.free 10 (.free 11 (.free 12 (.free 13 (.free 14 (.free 15 (.free 16 (.one 0 (.one 17 (.free 18 .nil))))))))))))))))))) (Hs := [(rb, .cells [.slice A bs.length c, .int .i64 ↑a1, .int .i64 0].toArray 162 (0, 0))]); exact Mix.h; (first | exact Arr.all _ | (exact a_arr) | (exact a_arrs)); (exact a_np); kernel_rfl)
  (repeat' (first | (apply RT.step; exact rfl; intro _ _ _; (apply Ok.move; exact rfl); exact rfl) | (apply RT.step; exact rfl; intro _ _ _; (first | (apply Ok.convB; exact rfl; apply wi64; omega; omega) | (apply Ok.addQ ((a1 + n : Nat) : Int); exact rfl; exact rfl; omega; apply wi64; omega; omega) | (apply Ok.sliceLoHi; exact rfl; exact rfl; exact rfl; omega; omega; omega)); exact rfl) | refine a_ot ?_ | fail))
  (apply RT.one; apply OneT.eff; exact rfl; intro Kc hKc ops0)
  (apply R.buildSlice0; exact rfl; intro bz)
  (apply R.nil; apply Fin.kt (Hx := (bz, .cells #[] 5 (0, 0)) :: H) hKc; exact Mem.le_refl _; (exact a_arrs))
  (apply RT.one; apply OneT.eff; exact rfl; intro Kc hKc ops0)
  have hdl : ((bs.drop a1).take n).length = n := by rw [List.length_take, List.length_drop]; omega
  have hka : (a1 : Int).toNat = a1 := by omega
  have hpt := h3.cutTake (l := a1) n h1
  rw [hka]
  have e9 : ((a1 : Int) + (n : Int)).toNat - a1 = n := by omega
  rw [e9]
  (apply R.append (news := ((bs.drop a1).take n).map bv) (k := n); exact rfl; exact rfl; exact Own.empty; (exact a_tk); exact Pl.rd hpt; (rw [List.length_map, hdl, Nat.mul_one]); exact bv_one _; omega; exact rfl; decide; decide; exact rfl; rintro v4 hp4 hown4)
  rw [List.nil_append, Nat.zero_add] at hown4
  obtain ⟨A4, c4, rfl, _, _⟩ := hown4.form
  have hown5 : Own 5 1 (.slice A4 n c4) ((bs.drop a1).take n).length (((bs.drop a1).take n).map bv) hp4 := by rw [hdl]; exact hown4
  apply R.arr (H2 := hp4 ++ ((rb, .cells [.slice A bs.length c, .int .i64 ↑a1, .int .i64 0].toArray 162 (0, 0)) :: H)) (by (exact a_arrs))
  apply R.ice (Arr.all _)
  intro M2 hM2 hin2
  have hpl2 := hown5.plB hin2
  (apply R.nil; apply Fin.ktB (E := []) (Hx := H) hKc; exact hM2; (exact a_arrs))
  (repeat' (first | refine a_ot ?_ | fail))
  apply RT.nil
  (repeat' (first | refine a_mv ?_ | (apply R.step; (first | (apply Ok.convB; exact rfl; apply wi64; omega; omega) | (apply Ok.addQ ((a1 + n : Nat) : Int); exact rfl; exact rfl; omega; apply wi64; omega; omega)); exact rfl) | (refine a_bz ?_; intro bz) | (refine a_go ?_; intros) | refine a_sp (fun h => ?_) fun h => ?_ | fail))
  (refine Fin.rA ((rb, .cells [.slice A bs.length c, .int .i64 ↑(a1 + n), .int .i64 0].toArray 162 (0, 0)) :: H) ?_)
  exact ⟨hM2, hpl2, rfl⟩
end Go.Sx
end
section
namespace Go.Sx
open Go Go.Proofs Go.RowKit
attribute [local irreducible] C R Fin K Own OwnT Rd Pl Ok KOf RetOk OpsOf RP KP Res NoPanic KV KE RT KT OneT RS KS OneS
variable {M M' : Mem} {H H1 H2 : Hp}
theorem rnum1_K {n : Nat} (hn : n ≤ 18446744073709551615) : K Tryz.prog 20 [.int .u64 (n : Int)] M H fun v' M' H' => ∃ hr, Own 5 1 v' (numS n).length ((numS n).map bv) hr ∧ M' = M ∧ H' = hr ++ H := by
 refine K.enterK Tryz.func20 rfl rfl rfl ?_
 intro Q hNP hQ
 (repeat' (first | (refine a_go ?_; intros) | refine a_sp (fun h => ?_) fun h => ?_ | fail))
 apply C.loop (fun y : RnuX => y.n ≤ 18446744073709551615 ∧ numS n = y.bs ++ numS y.n ∧ y.bs.length ≤ 20 ∧ Own 5 1 y.v y.bs.length (y.bs.map bv) y.hr)
  (fun y => [(0, .int .u64 (y.n : Int)), (3, y.v)]) (fun _ => M) (fun y => y.hr ++ H) (fun y => y.n) ⟨n, .slice none 0 0, [], []⟩
 ·exact ⟨hn, rfl, Nat.zero_le _, Own.nil _ _⟩
 ·(exact a_subs)
 ·exact rfl
 ·exact rfl
 rintro ⟨m, v, bs, hr⟩ ⟨hm, hE, hl, hown⟩
 dsimp only at hm hE hl hown ⊢
 obtain ⟨A1, c1, rfl, _, _⟩ := hown.form
 have hL := (numS_len10 hn).2
 by_cases h128 : m < 128
 ·(repeat' (first | refine a_mv ?_ | (apply R.step; (first | (apply Ok.geF; exact rfl; exact rfl; omega) | (apply Ok.convLI; exact rfl)); exact rfl) | (refine a_go ?_; intros) | refine a_sp (fun h => ?_) fun h => ?_ | fail))
  (apply R.append (news := [bv (UInt8.ofNat m)]) (k := 1); exact rfl; exact rfl; exact hown; (exact a_tk); exact Rd.at_ (l := [bv (UInt8.ofNat m)]) (by (exact a_at)) (fun j u h => by rw [Nat.zero_add]; exact h); exact rfl; (intro u hu; rw [List.mem_singleton] at hu; rw [hu]; rfl); omega; exact rfl; decide; decide; exact rfl; rintro v4 hp4 ho4)
  obtain ⟨A4, c4, rfl, _, _⟩ := ho4.form
  (repeat' (first | (refine a_go ?_; intros) | refine a_sp (fun h => ?_) fun h => ?_ | fail))
  (refine Fin.rA (hp4 ++ H) ?_)
  rw [hE, numS_lo h128]
  refine ⟨hp4, ?_, rfl, rfl⟩
  rw [List.length_append, List.map_append]
  exact ho4
 ·have hdv : 0 < m := by omega
  have e1 : (m : Int) % 128 = ((m % 128 : Nat) : Int) := by omega
  have e2 : ((m % 128 : Nat) : Int) + 128 = ((m % 128 + 128 : Nat) : Int) := by omega
  have e3 : (m : Int) / 128 = ((m / 128 : Nat) : Int) := by omega
  have hbl : bs.length + 1 ≤ (numS n).length := by
   rw [hE, List.length_append]
   have := (numS_len10 hm).1
   omega
  (repeat' (first | refine a_mv ?_ | (apply R.step; (first | (apply Ok.geTr; exact rfl; exact rfl; omega) | (rw [e1]; apply Ok.addB; exact rfl; exact rfl; apply wu64; omega; omega) | (rw [e1, e2]; apply Ok.convLI; exact rfl)); exact rfl) | (refine a_go ?_; intros) | refine a_sp (fun h => ?_) fun h => ?_ | fail))
  (apply R.append (news := [bv (UInt8.ofNat (m % 128 + 128))]) (k := 1); exact rfl; exact rfl; exact hown; (exact a_tk); exact Rd.at_ (l := [bv (UInt8.ofNat (m % 128 + 128))]) (by (exact a_at)) (fun j u h => by rw [Nat.zero_add]; exact h); exact rfl; (intro u hu; rw [List.mem_singleton] at hu; rw [hu]; rfl); omega; exact rfl; decide; decide; exact rfl; rintro v4 hp4 ho4)
  (repeat' (first | refine a_mv ?_ | (apply R.step; (apply Ok.quoU; exact rfl; exact rfl; omega; omega; omega); exact rfl) | (refine a_go ?_; intros) | refine a_sp (fun h => ?_) fun h => ?_ | fail))
  rw [e3]
  (apply Fin.arr (H2 := hp4 ++ H); (exact a_arrs))
  refine Fin.again (⟨m / 128, v4, bs ++ [UInt8.ofNat (m % 128 + 128)], hp4⟩ : RnuX) ⟨by dsimp only; omega, ?_, ?_, ?_⟩ (by dsimp only; omega) ?_ rfl rfl
  ·dsimp only
   rw [hE, numS_hi h128, hi_byte, List.append_assoc]
   rfl
  ·dsimp only
   rw [List.length_append, List.length_singleton]
   omega
  ·dsimp only
   rw [List.length_append, List.map_append]
   exact ho4
  ·(exact a_subs)
theorem rtext1_K {b : Txt} {A : Option Addr} {c : Nat} (hb : Pl M A (b.map bv)) (hbl : b.length ≤ 140737488351232) : K Tryz.prog 21 [.slice A b.length c] M H fun v' M' H' => ∃ hr, Own 5 1 v' (textS b).length ((textS b).map bv) hr ∧ M' = M ∧ H' = hr ++ H := by
 refine K.enterK Tryz.func21 rfl rfl rfl ?_
 intro Q hNP hQ
 have hl10 := (numS_len10 (n := b.length) (by omega)).2
 (repeat' (first | refine a_mv ?_ | (apply R.step; (apply Ok.convB; exact rfl; apply wu64; omega; omega); exact rfl) | (refine a_go ?_; intros) | refine a_sp (fun h => ?_) fun h => ?_ | fail))
 (apply R.call; (exact a_evs); exact rfl; exact rnum1_K (n := b.length) (by omega); rintro v2 M _ ⟨hr2, ho2, rfl, rfl⟩)
 obtain ⟨A2, c2, rfl, _, _⟩ := ho2.form
 (repeat' (first | (refine a_go ?_; intros) | refine a_sp (fun h => ?_) fun h => ?_ | fail))
 (apply R.append (news := b.map bv); exact rfl; exact rfl; exact ho2; (exact a_tk); exact Pl.rd hb; (rw [List.length_map, Nat.mul_one]); exact bv_one _; omega; exact rfl; decide; decide; exact rfl; rintro v4 hp4 hown4)
 (repeat' (first | (refine a_go ?_; intros) | refine a_sp (fun h => ?_) fun h => ?_ | fail))
 (refine Fin.rA (hp4 ++ H) ?_)
 refine ⟨hp4, ?_, rfl, rfl⟩
 unfold textS
 rw [List.length_append, List.map_append]
 exact hown4
theorem r5readEntry_K {v : Value} {x : Txt} (hb : PlB M v x) : K Tryz.prog 90 [v] M H fun v' M' H' => M.le M' ∧ H' = H ∧ ((∃ e vd, readE x = some e ∧ v' = .tuple #[eV e vd, .int .i64 0] ∧ PlB M' vd e.data) ∨ (readE x = none ∧ ∃ bad, v' = .tuple #[e0V, .int .i64 bad] ∧ bad ≠ 0)) := by
 refine K.enterM Tryz.func90 rfl rfl rfl ?_
 intro Q hNP hQ
 obtain ⟨A, cp, rfl, k1, k2, k3⟩ := id hb
 (repeat' (first | (refine a_gn ?_; intros) | refine a_sp (fun h => ?_) fun h => ?_ | fail))
 ((apply R.alloc; (simp only [Value.cells]; rfl); exact rfl); intro b2)
 by_cases hlen : 160 < x.length
 ·have hN : readE x = none := if_pos hlen
  (repeat' (first | refine a_mv ?_ | (apply R.step; (apply Ok.gtTr; exact rfl; exact rfl; omega); exact rfl) | (refine a_bx ?_; intro bx) | (refine a_go ?_; intros) | refine a_sp (fun h => ?_) fun h => ?_ | fail))
  (apply Fin.returnM (H2 := H); assumption; exact .inl rfl; exact rfl; exact Marks.nil _; (exact a_res); (simp only [retv]; rfl); (exact a_arr))
  exact ⟨Mem.le_refl _, rfl, .inr ⟨hN, 12, rfl, by decide⟩⟩
 (repeat' (first | refine a_mv ?_ | (apply R.step; (apply Ok.gtF; exact rfl; exact rfl; omega); exact rfl) | (refine a_bx ?_; intro bx) | (refine a_go ?_; intros) | refine a_sp (fun h => ?_) fun h => ?_ | fail))
 obtain ⟨rb, hrb⟩ : ∃ q, q = bx := ⟨_, rfl⟩
 subst hrb
 obtain ⟨M4, hM4e⟩ : ∃ q, q = M := ⟨_, rfl⟩
 subst hM4e
 have hM4 : M4.le M4 := Mem.le_refl _
 have hb4 := hb
 obtain ⟨v4, hv4⟩ : ∃ q, q = Value.slice A x.length cp := ⟨_, rfl⟩
 rw [← hv4] at hb4 ⊢
 (repeat' (first | (refine a_bx ?_; intro bx) | (refine a_go ?_; intros) | refine a_sp (fun h => ?_) fun h => ?_ | fail))
 (apply R.call; (exact a_evs); exact rfl; exact rrbyte_K (most := 2) (at_ := 0) (bad := 0) hb4 (Nat.zero_le _); rintro _ M4 _ ⟨rfl, rfl, rfl⟩)
 obtain ⟨z0, hz0⟩ : ∃ z0, z0 = byteR x 2 0 0 := ⟨_, rfl⟩
 have g0 := byteR_at (bs := x) (most := 2) (at_ := 0) (bad := 0) (Nat.zero_le _)
 rw [← hz0] at g0 ⊢
 obtain ⟨k0, a0, b0⟩ := z0
 dsimp only at g0 ⊢
 (apply R.step; (apply Ok.convBI; exact rfl); exact rfl)
 (repeat' (first | (refine a_gn ?_; intros) | refine a_sp (fun h => ?_) fun h => ?_ | fail))
 ((apply R.alloc; (simp only [Value.cells]; rfl); exact rfl); intro b5)
 (repeat' (first | (refine a_bx ?_; intro bx) | (refine a_go ?_; intros) | refine a_sp (fun h => ?_) fun h => ?_ | fail))
 apply R.arr (H2 := (rb, rrdB v4 a0 b0) :: (b5, .cells [.int .i64 (k0.toNat : Int), .int .u64 0, .int .u64 0, .slice none 0 0, .int .i64 0].toArray 33 (0, 0)) :: (b2, .cells [.int .i64 0, .int .u64 0, .int .u64 0, .slice none 0 0, .int .i64 0].toArray 33 (0, 0)) :: H) (by (exact a_arrs))
 (apply R.call; (exact a_evs); exact rfl; exact rrnum_K (most := 72057594037927935) (at_ := a0) (bad := b0) hb4 (by omega) g0; rintro _ M4 _ ⟨rfl, rfl, rfl⟩)
 obtain ⟨z1, hz1⟩ : ∃ z1, z1 = numRd x 72057594037927935 a0 b0 := ⟨_, rfl⟩
 have g1 := numRd_at (bs := x) (most := 72057594037927935) (at_ := a0) (bad := b0) g0
 rw [← hz1] at g1 ⊢
 obtain ⟨n1, a1, b1⟩ := z1
 dsimp only at g1 ⊢
 (repeat' (first | (refine a_bx ?_; intro bx) | (refine a_go ?_; intros) | refine a_sp (fun h => ?_) fun h => ?_ | fail))
 (apply R.call; (exact a_evs); exact rfl; exact rrnum_K (most := 72057594037927935) (at_ := a1) (bad := b1) hb4 (by omega) g1; rintro _ M4 _ ⟨rfl, rfl, rfl⟩)
 obtain ⟨z2, hz2⟩ : ∃ z2, z2 = numRd x 72057594037927935 a1 b1 := ⟨_, rfl⟩
 have g2 := numRd_at (bs := x) (most := 72057594037927935) (at_ := a1) (bad := b1) g1
 rw [← hz2] at g2 ⊢
 obtain ⟨n2, a2, b2'⟩ := z2
 dsimp only at g2 ⊢
 obtain ⟨kn, hkn⟩ : ∃ kn : Nat, kn = k0.toNat := ⟨_, rfl⟩
 rw [← hkn]
 (repeat' (first | (refine a_bx ?_; intro bx) | (refine a_g0 ?_; intros) | refine a_s3 (fun h => ?_) fun h => ?_ | fail))
 apply C.seqCut (X := RyX) (fun y => M4.le y.M ∧ PlB y.M y.v y.d ∧ tailR x kn a2 b2' = (y.d, y.c, y.at_, y.bad)) (fun _ => [(2, .pointer (some ⟨b2, 0, none⟩)), (4, .pointer (some ⟨rb, 0, none⟩)), (5, .pointer (some ⟨b5, 0, none⟩))]) (fun y => y.M) (fun y => (rb, rrdB v4 y.at_ y.bad) :: (b5, .cells [.int .i64 (kn : Int), .int .u64 (n1 : Int), .int .u64 (n2 : Int), y.v, .int .i64 y.c].toArray 33 (0, 0)) :: (b2, .cells [.int .i64 0, .int .u64 0, .int .u64 0, .slice none 0 0, .int .i64 0].toArray 33 (0, 0)) :: H)
 ·by_cases hk1 : (kn : Int) = 1
  ·have hT : tailR x kn a2 b2' = ((textR x 128 a2 b2').1, 0, (textR x 128 a2 b2').2) := if_pos (by omega)
   (repeat' (first | refine a_mv ?_ | (apply R.step; (apply Ok.eqIR; exact rfl; exact rfl; exact hk1); exact rfl) | (refine a_bx ?_; intro bx) | (refine a_go ?_; intros) | refine a_sp (fun h => ?_) fun h => ?_ | fail))
   (apply R.call; (exact a_evs); exact rfl; exact rrtext_K (most := 128) (at_ := a2) (bad := b2') hb4 (by omega) g2 (by decide); rintro vt M5 _ ⟨hM5, hbt, rfl⟩)
   obtain ⟨Aq, ct, rfl, t1, t2, t3⟩ := id hbt
   (repeat' (first | (refine a_bx ?_; intro bx) | (refine a_go ?_; intros) | refine a_sp (fun h => ?_) fun h => ?_ | fail))
   refine Fin.join (⟨_, (textR x 128 a2 b2').1, 0, (textR x 128 a2 b2').2.1, (textR x 128 a2 b2').2.2, M5⟩ : RyX) ⟨hM5, hbt, hT⟩ ?_ rfl rfl
   (exact a_subs)
  ·by_cases hk2 : (kn : Int) = 2
   ·have hT : tailR x kn a2 b2' = ([], ((byteR x 254 a2 b2').1.toNat : Int), (byteR x 254 a2 b2').2) := (if_neg (by omega)).trans (if_pos (by omega))
    (repeat' (first | refine a_mv ?_ | (apply R.step; (first | (apply Ok.eqIF; exact rfl; exact rfl; exact hk1) | (apply Ok.eqIR; exact rfl; exact rfl; exact hk2)); exact rfl) | (refine a_bx ?_; intro bx) | (refine a_go ?_; intros) | refine a_sp (fun h => ?_) fun h => ?_ | fail))
    (apply R.call; (exact a_evs); exact rfl; exact rrbyte_K (most := 254) (at_ := a2) (bad := b2') hb4 g2; rintro _ M4 _ ⟨rfl, rfl, rfl⟩)
    (repeat' (first | refine a_mv ?_ | (apply R.step; (apply Ok.convBI; exact rfl); exact rfl) | (refine a_bx ?_; intro bx) | (refine a_go ?_; intros) | refine a_sp (fun h => ?_) fun h => ?_ | fail))
    refine Fin.join (⟨.slice none 0 0, [], ((byteR x 254 a2 b2').1.toNat : Int), (byteR x 254 a2 b2').2.1, (byteR x 254 a2 b2').2.2, M4⟩ : RyX) ⟨Mem.le_refl _, PlB.nil1, hT⟩ ?_ rfl rfl
    (exact a_subs)
   ·have hT : tailR x kn a2 b2' = ([], 0, a2, b2') := (if_neg (by omega)).trans (if_neg (by omega))
    (repeat' (first | refine a_mv ?_ | (apply R.step; (first | (apply Ok.eqIF; exact rfl; exact rfl; exact hk1) | (apply Ok.eqIF; exact rfl; exact rfl; exact hk2)); exact rfl) | (refine a_bx ?_; intro bx) | (refine a_go ?_; intros) | refine a_sp (fun h => ?_) fun h => ?_ | fail))
    refine Fin.join (⟨.slice none 0 0, [], 0, a2, b2', M4⟩ : RyX) ⟨Mem.le_refl _, PlB.nil1, hT⟩ ?_ rfl rfl
    (exact a_subs)
 rintro ⟨vd, d, c, a3, b3, M5⟩ ⟨hM5, hvd, hT⟩
 dsimp only at hM5 hvd hT ⊢
 have hR : readE x = readG x (k0, a0, b0) (n1, a1, b1) (n2, a2, b2') (d, c, a3, b3) := readE_of hlen hz0.symm hz1.symm hz2.symm (by rw [← hkn]; exact hT)
 unfold readG at hR
 dsimp only at hR
 rw [← hkn] at hR
 obtain ⟨Ad, cd, rfl, d1, d2, d3⟩ := id hvd
 replace hb4 := hb4.mono hM5
 (repeat' (first | (refine a_bx ?_; intro bx) | (refine a_go ?_; intros) | refine a_sp (fun h => ?_) fun h => ?_ | fail))
 (apply R.call; (exact a_evs); exact rfl; exact rrend_K (at_ := a3) (bad := b3) hb4 (by omega); rintro _ M5 _ ⟨rfl, rfl, rfl⟩)
 have hMM := hM4.trans_ hM5
 by_cases hend : endR x a3 b3 = 0
 rotate_left
 ·rw [if_neg (fun h => hend h.1)] at hR
  (repeat' (first | refine a_mv ?_ | (apply R.step; (first | (apply Ok.neIT; exact rfl; exact rfl; exact hend)); exact rfl) | (refine a_bx ?_; intro bx) | (refine a_go ?_; intros) | refine a_sp (fun h => ?_) fun h => ?_ | fail))
  (apply Fin.returnM (H2 := H); assumption; exact .inl rfl; exact rfl; exact Marks.nil _; (exact a_res); (simp only [retv]; rfl); (exact a_arr))
  exact ⟨hMM, rfl, .inr ⟨hR, _, rfl, hend⟩⟩
 (repeat' (first | refine a_mv ?_ | (apply R.step; (first | (apply Ok.neIR; exact rfl; exact rfl; exact hend)); exact rfl) | (refine a_bx ?_; intro bx) | (refine a_go ?_; intros) | refine a_sp (fun h => ?_) fun h => ?_ | fail))
 (apply R.call; (exact a_evs); exact rfl; exact r5entry_K (e := ⟨(kn : Int), (n1 : Int), (n2 : Int), d, c⟩) (A := Ad) (cap := cd); rintro _ M5 _ ⟨rfl, rfl, rfl⟩)
 by_cases hE : entS ⟨(kn : Int), (n1 : Int), (n2 : Int), d, c⟩
 ·rw [if_pos ⟨hend, hE⟩] at hR
  rw [decide_eq_true hE]
  (repeat' (first | (refine a_bx ?_; intro bx) | (refine a_go ?_; intros) | refine a_sp (fun h => ?_) fun h => ?_ | fail))
  (apply Fin.returnM (H2 := H); assumption; exact .inl rfl; exact rfl; exact Marks.nil _; (exact a_res); (simp only [retv]; rfl); (exact a_arr))
  exact ⟨hMM, rfl, .inl ⟨_, _, hR, rfl, hvd⟩⟩
 ·rw [if_neg (fun h => hE h.2)] at hR
  rw [decide_eq_false hE]
  (repeat' (first | (refine a_bx ?_; intro bx) | (refine a_go ?_; intros) | refine a_sp (fun h => ?_) fun h => ?_ | fail))
  (apply Fin.returnM (H2 := H); assumption; exact .inl rfl; exact rfl; exact Marks.nil _; (exact a_res); (simp only [retv]; rfl); (exact a_arr))
  exact ⟨hMM, rfl, .inr ⟨hR, 11, rfl, by decide⟩⟩
theorem r5layEntry_K {e : En} {A : Option Addr} {cap : Nat} (hp : Pl M A (e.data.map bv)) : K Tryz.prog 7 [eV e (.slice A e.data.length cap)] M H fun v' M' H' => M.le M' ∧ H' = H ∧ ((entS e ∧ ∃ v, v' = .tuple #[v, .int .i64 0] ∧ PlB M' v (layE e)) ∨ (¬ entS e ∧ v' = .tuple #[.slice none 0 0, .int .i64 1])) := by
 refine K.enterK Tryz.func7 rfl rfl rfl ?_
 intro Q hNP hQ
 unfold eV ecells
 (repeat' (first | (refine a_bx ?_; intro bx) | (refine a_bl ?_; intro bl) | (refine a_go ?_; intros) | refine a_sp (fun h => ?_) fun h => ?_ | fail))
 (apply R.call; (exact a_evs); exact rfl; exact r5entry_K (e := e) (A := A) (cap := cap); rintro _ M _ ⟨rfl, rfl, rfl⟩)
 by_cases hE : entS e
 rotate_left
 ·rw [decide_eq_false hE]
  (repeat' (first | (refine a_bx ?_; intro bx) | (refine a_bl ?_; intro bl) | (refine a_go ?_; intros) | refine a_sp (fun h => ?_) fun h => ?_ | fail))
  (refine Fin.rA (H) ?_)
  exact ⟨Mem.le_refl _, rfl, .inr ⟨hE, rfl⟩⟩
 rw [decide_eq_true hE]
 obtain ⟨h1, h2, h3, h4, h5, h6, h7⟩ := entS_kind hE
 obtain ⟨ek, et, ei, ed, ec⟩ := e
 dsimp only at h1 h2 h3 h4 h5 h6 h7 hp ⊢
 obtain ⟨kn, rfl⟩ : ∃ kn : Nat, ek = (kn : Int) := ⟨_, (Int.toNat_of_nonneg h1).symm⟩
 obtain ⟨tn, rfl⟩ : ∃ tn : Nat, et = (tn : Int) := ⟨_, (Int.toNat_of_nonneg (by omega)).symm⟩
 obtain ⟨idn, rfl⟩ : ∃ idn : Nat, ei = (idn : Int) := ⟨_, (Int.toNat_of_nonneg (by omega)).symm⟩
 obtain ⟨cn, rfl⟩ : ∃ cn : Nat, ec = (cn : Int) := ⟨_, (Int.toNat_of_nonneg h3).symm⟩
 have hHl := layH_len hE
 have hEl := layE_len hE
 obtain ⟨eh, heh⟩ : ∃ eh : Txt, eh = layH ⟨(kn : Int), (tn : Int), (idn : Int), ed, (cn : Int)⟩ := ⟨_, rfl⟩
 obtain ⟨ee, hee⟩ : ∃ ee : Txt, ee = layE ⟨(kn : Int), (tn : Int), (idn : Int), ed, (cn : Int)⟩ := ⟨_, rfl⟩
 have hH : eh = ([UInt8.ofNat kn] ++ numS tn) ++ numS idn := heh
 have hL : ee = eh ++ (if (kn : Int) = 1 then textS ed else if (kn : Int) = 2 then [UInt8.ofNat cn] else []) := by rw [hee, heh]; rfl
 rw [← heh] at hHl
 rw [← hee] at hEl hQ
 (repeat' (first | (refine a_bx ?_; intro bx) | (refine a_bl ?_; intro bl) | (refine a_g0 ?_; intros) | refine a_s3 (fun h => ?_) fun h => ?_ | fail))
 have hl1 := (numS_len10 (n := tn) (by omega)).2
 have hl2 := (numS_len10 (n := idn) (by omega)).2
 ((apply C.condF; exact rfl); apply C.skip; (apply Fin.thenK; assumption))
 apply C.seqCut (X := LyX) (fun y => Own 5 1 y.v eh.length (eh.map bv) y.hr) (fun y => [(1, .pointer (some ⟨bx, 0, none⟩)), (4, y.v)]) (fun _ => M) (fun y => y.hr ++ ((bx, .cells [.int .i64 (kn : Int), .int .u64 (tn : Int), .int .u64 (idn : Int), .slice A ed.length cap, .int .i64 (cn : Int)].toArray 33 (0, 0)) :: H))
 ·(apply C.regionT (t := .free 0 (.free 1 (.free 2 (.free 4 (.free 5 (.free 8 (.free 9 (.alt 3 6 (.one 6 (.one 7 (.one 10 (.one 11 (.free 12 .nil))))) (.one 3 (.one 7 (.one 10 (.one 11 (.free 12 .nil))))))))))))) (Hs := [(bx, .cells [.int .i64 ↑kn, .int .u64 ↑tn, .int .u64 ↑idn, .slice A ed.length cap, .int .i64 ↑cn].toArray 33 (0, 0))]); exact Mix.h; (first | exact Arr.all _ | (exact a_arr) | (exact a_arrs)); (exact a_np); kernel_rfl)
  (repeat' (first | (apply RT.step; exact rfl; intro _ _ _; (apply Ok.move; exact rfl); exact rfl) | (apply RT.step; exact rfl; intro _ _ _; (apply Ok.convLI; exact rfl); exact rfl) | refine a_ot ?_ | fail))
  apply RT.alt
  ·(apply OneT.eff; exact rfl; intro Kc hKc ops0)
   (apply R.buildSlice; (exact a_prt); exact rfl; exact rfl; (exact a_fills); exact rfl; intro bl)
   ((first | apply R.nil | skip); apply Fin.kt (Hx := (bl, .cells [bv (UInt8.ofNat kn)].toArray 5 (0, 0)) :: H) hKc; exact Mem.le_refl _; (exact a_arrs))
   (apply RT.one; apply OneT.eff; exact rfl; intro Kc hKc ops0)
   (apply R.call; (exact a_evs); exact rfl; exact rnum1_K (n := tn) (by omega); rintro vA M _ ⟨hpA, hoA, rfl, rfl⟩)
   obtain ⟨AA, cA, rfl, _, _⟩ := hoA.form
   ((first | apply R.nil | skip); apply Fin.kt (Hx := (bl, .cells [bv (UInt8.ofNat kn)].toArray 5 (0, 0)) :: (hpA ++ H)) hKc; exact Mem.le_refl _; (exact a_arrs))
   (apply RT.one; apply OneT.eff; exact rfl; intro Kc hKc ops0)
   have hoL : Own 5 1 (.slice (some ⟨bl, 0, none⟩) [UInt8.ofNat kn].length 1) [UInt8.ofNat kn].length ([UInt8.ofNat kn].map bv) [(bl, .cells [bv (UInt8.ofNat kn)].toArray 5 (0, 0))] := Own.of_cells (xs := [bv (UInt8.ofNat kn)]) (show 1 ≤ maxLen by decide)
   (apply R.append (news := (numS tn).map bv) (k := (numS tn).length); exact rfl; exact rfl; exact hoL; (exact a_tk); (exact Own.rd hoA (by (exact a_tk))); (rw [List.length_map, Nat.mul_one]); exact bv_one _; (rw [List.length_singleton]; omega); exact rfl; decide; decide; exact rfl; rintro vC hpC hoC)
   rw [← List.map_append, ← List.length_append] at hoC
   obtain ⟨AC, cC, rfl, _, _⟩ := hoC.form
   ((first | apply R.nil | skip); apply Fin.kt (Hx := hpC ++ (hpA ++ H)) hKc; exact Mem.le_refl _; (exact a_arrs))
   (apply RT.one; apply OneT.eff; exact rfl; intro Kc hKc ops0)
   (apply R.call; (exact a_evs); exact rfl; exact rnum1_K (n := idn) (by omega); rintro vB M _ ⟨hpB, hoB, rfl, rfl⟩)
   obtain ⟨AB, cB, rfl, _, _⟩ := hoB.form
   ((first | apply R.nil | skip); apply Fin.kt (Hx := hpC ++ (hpB ++ H)) hKc; exact Mem.le_refl _; (exact a_arrs))
   (apply RT.one; apply OneT.eff; exact rfl; intro Kc hKc ops0)
   have hlC : ([UInt8.ofNat kn] ++ numS tn).length ≤ 11 := by rw [List.length_append, List.length_singleton]; omega
   (apply R.append (news := (numS idn).map bv) (k := (numS idn).length); exact rfl; exact rfl; exact hoC; (exact a_tk); (exact Own.rd hoB (by (exact a_tk))); (rw [List.length_map, Nat.mul_one]); exact bv_one _; omega; exact rfl; decide; decide; exact rfl; rintro vD hpD hoD)
   rw [← List.map_append, ← List.length_append, ← hH] at hoD
   (apply R.nil; apply Fin.kt (Hx := hpD ++ H) hKc; exact Mem.le_refl _; (exact a_arrs))
   (repeat' (first | refine a_ot ?_ | fail))
   apply RT.nil
   (apply Fin.arr (H2 := hpD ++ ((bx, .cells [.int .i64 (kn : Int), .int .u64 (tn : Int), .int .u64 (idn : Int), .slice A ed.length cap, .int .i64 (cn : Int)].toArray 33 (0, 0)) :: H)); (exact a_arrs))
   refine Fin.join (⟨vD, hpD⟩ : LyX) hoD ?_ rfl rfl
   (exact a_subs)
  ·(apply OneT.eff; exact rfl; intro Kc hKc ops0)
   (apply R.call; (exact a_evs); exact rfl; exact rnum1_K (n := tn) (by omega); rintro vA M _ ⟨hpA, hoA, rfl, rfl⟩)
   obtain ⟨AA, cA, rfl, _, _⟩ := hoA.form
   ((first | apply R.nil | skip); apply Fin.kt (Hx := hpA ++ H) hKc; exact Mem.le_refl _; (exact a_arrs))
   (apply RT.one; apply OneT.eff; exact rfl; intro Kc hKc ops0)
   (apply R.buildSlice; (exact a_prt); exact rfl; exact rfl; (exact a_fills); exact rfl; intro bl)
   ((first | apply R.nil | skip); apply Fin.kt (Hx := hpA ++ ((bl, .cells [bv (UInt8.ofNat kn)].toArray 5 (0, 0)) :: H)) hKc; exact Mem.le_refl _; (exact a_arrs))
   (apply RT.one; apply OneT.eff; exact rfl; intro Kc hKc ops0)
   have hoL : Own 5 1 (.slice (some ⟨bl, 0, none⟩) [UInt8.ofNat kn].length 1) [UInt8.ofNat kn].length ([UInt8.ofNat kn].map bv) [(bl, .cells [bv (UInt8.ofNat kn)].toArray 5 (0, 0))] := Own.of_cells (xs := [bv (UInt8.ofNat kn)]) (show 1 ≤ maxLen by decide)
   (apply R.append (news := (numS tn).map bv) (k := (numS tn).length); exact rfl; exact rfl; exact hoL; (exact a_tk); (exact Own.rd hoA (by (exact a_tk))); (rw [List.length_map, Nat.mul_one]); exact bv_one _; (rw [List.length_singleton]; omega); exact rfl; decide; decide; exact rfl; rintro vC hpC hoC)
   rw [← List.map_append, ← List.length_append] at hoC
   obtain ⟨AC, cC, rfl, _, _⟩ := hoC.form
   ((first | apply R.nil | skip); apply Fin.kt (Hx := hpC ++ (hpA ++ H)) hKc; exact Mem.le_refl _; (exact a_arrs))
   (apply RT.one; apply OneT.eff; exact rfl; intro Kc hKc ops0)
   (apply R.call; (exact a_evs); exact rfl; exact rnum1_K (n := idn) (by omega); rintro vB M _ ⟨hpB, hoB, rfl, rfl⟩)
   obtain ⟨AB, cB, rfl, _, _⟩ := hoB.form
   ((first | apply R.nil | skip); apply Fin.kt (Hx := hpC ++ (hpB ++ H)) hKc; exact Mem.le_refl _; (exact a_arrs))
   (apply RT.one; apply OneT.eff; exact rfl; intro Kc hKc ops0)
   have hlC : ([UInt8.ofNat kn] ++ numS tn).length ≤ 11 := by rw [List.length_append, List.length_singleton]; omega
   (apply R.append (news := (numS idn).map bv) (k := (numS idn).length); exact rfl; exact rfl; exact hoC; (exact a_tk); (exact Own.rd hoB (by (exact a_tk))); (rw [List.length_map, Nat.mul_one]); exact bv_one _; omega; exact rfl; decide; decide; exact rfl; rintro vD hpD hoD)
   rw [← List.map_append, ← List.length_append, ← hH] at hoD
   (apply R.nil; apply Fin.kt (Hx := hpD ++ H) hKc; exact Mem.le_refl _; (exact a_arrs))
   (repeat' (first | refine a_ot ?_ | fail))
   apply RT.nil
   (apply Fin.arr (H2 := hpD ++ ((bx, .cells [.int .i64 (kn : Int), .int .u64 (tn : Int), .int .u64 (idn : Int), .slice A ed.length cap, .int .i64 (cn : Int)].toArray 33 (0, 0)) :: H)); (exact a_arrs))
   refine Fin.join (⟨vD, hpD⟩ : LyX) hoD ?_ rfl rfl
   (exact a_subs)
 rintro ⟨v4, hr4⟩ how4
 dsimp only at how4 ⊢
 obtain ⟨A4, c4, rfl, _, _⟩ := how4.form
 (repeat' (first | (refine a_bx ?_; intro bx) | (refine a_bl ?_; intro bl) | (refine a_g0 ?_; intros) | refine a_s3 (fun h => ?_) fun h => ?_ | fail))
 apply C.seqCut (X := LyX) (fun y => Own 5 1 y.v ee.length (ee.map bv) y.hr) (fun y => [(4, y.v)]) (fun _ => M) (fun y => y.hr ++ H)
 ·by_cases hk1 : (kn : Int) = 1
  ·rw [if_pos hk1] at hL
   (repeat' (first | refine a_mv ?_ | (apply R.step; (apply Ok.eqIR; exact rfl; exact rfl; exact hk1); exact rfl) | (refine a_bx ?_; intro bx) | (refine a_bl ?_; intro bl) | (refine a_go ?_; intros) | refine a_sp (fun h => ?_) fun h => ?_ | fail))
   (apply R.call; (exact a_evs); exact rfl; exact rtext1_K (b := ed) hp (by omega); rintro vE M _ ⟨hpE, hoE, rfl, rfl⟩)
   obtain ⟨AE, cE, rfl, _, _⟩ := hoE.form
   have htl : (textS ed).length ≤ 300 := by
    have := hEl
    rw [hL, List.length_append] at this
    omega
   (apply R.append (news := (textS ed).map bv) (k := (textS ed).length); exact rfl; exact rfl; exact how4; (exact a_tk); (exact Own.rd hoE (by (exact a_tk))); (rw [List.length_map, Nat.mul_one]); exact bv_one _; omega; exact rfl; decide; decide; exact rfl; rintro vF hpF hoF)
   rw [← List.map_append, ← List.length_append, ← hL] at hoF
   (repeat' (first | (refine a_bx ?_; intro bx) | (refine a_bl ?_; intro bl) | (refine a_go ?_; intros) | refine a_sp (fun h => ?_) fun h => ?_ | fail))
   (apply Fin.arr (H2 := hpF ++ H); (exact a_arrs))
   refine Fin.join (⟨vF, hpF⟩ : LyX) hoF ?_ rfl rfl
   (exact a_subs)
  ·rw [if_neg hk1] at hL
   by_cases hk2 : (kn : Int) = 2
   ·rw [if_pos hk2] at hL
    (repeat' (first | refine a_mv ?_ | (apply R.step; (first | (apply Ok.eqIF; exact rfl; exact rfl; exact hk1) | (apply Ok.eqIR; exact rfl; exact rfl; exact hk2) | (apply Ok.convLI; exact rfl)); exact rfl) | (refine a_bx ?_; intro bx) | (refine a_bl ?_; intro bl) | (refine a_go ?_; intros) | refine a_sp (fun h => ?_) fun h => ?_ | fail))
    (apply R.append (news := [bv (UInt8.ofNat cn)]) (k := 1); exact rfl; exact rfl; exact how4; (exact a_tk); exact Rd.at_ (l := [bv (UInt8.ofNat cn)]) (by (exact a_at)) (fun j u h => by rw [Nat.zero_add]; exact h); exact rfl; (intro u hu; rw [List.mem_singleton] at hu; rw [hu]; rfl); omega; exact rfl; decide; decide; exact rfl; rintro vF hpF hoF)
    have hoF' : Own 5 1 vF ee.length (ee.map bv) hpF := by
     rw [hL, List.length_append, List.map_append]
     exact hoF
    (repeat' (first | (refine a_bx ?_; intro bx) | (refine a_bl ?_; intro bl) | (refine a_go ?_; intros) | refine a_sp (fun h => ?_) fun h => ?_ | fail))
    (apply Fin.arr (H2 := hpF ++ H); (exact a_arrs))
    refine Fin.join (⟨vF, hpF⟩ : LyX) hoF' ?_ rfl rfl
    (exact a_subs)
   ·rw [if_neg hk2, List.append_nil] at hL
    (repeat' (first | refine a_mv ?_ | (apply R.step; (first | (apply Ok.eqIF; exact rfl; exact rfl; exact hk1) | (apply Ok.eqIF; exact rfl; exact rfl; exact hk2)); exact rfl) | (refine a_bx ?_; intro bx) | (refine a_bl ?_; intro bl) | (refine a_go ?_; intros) | refine a_sp (fun h => ?_) fun h => ?_ | fail))
    (apply Fin.arr (H2 := hr4 ++ H); (exact a_arrs))
    refine Fin.join (⟨.slice A4 eh.length c4, hr4⟩ : LyX) (by dsimp only; rw [hL]; exact how4) ?_ rfl rfl
    (exact a_subs)
 rintro ⟨v5, hr5⟩ how5
 dsimp only at how5 ⊢
 apply C.ice (hp := hr5) (H1 := H) (by (exact a_arrs))
 intro M3 hM3 hin3
 have hpl5 := how5.plB hin3
 obtain ⟨A5, c5, rfl, _, _⟩ := how5.form
 (repeat' (first | (refine a_bx ?_; intro bx) | (refine a_bl ?_; intro bl) | (refine a_go ?_; intros) | refine a_sp (fun h => ?_) fun h => ?_ | fail))
 (refine Fin.rA (H) ?_)
 exact ⟨hM3, rfl, .inl ⟨hE, _, rfl, hpl5⟩⟩
end Go.Sx
end
section
namespace Go.Sx
open Go Go.Proofs Go.RowKit
attribute [local irreducible] C R Fin K Own OwnT Rd Pl Ok KOf RetOk OpsOf RP KP Res NoPanic KV KE RT KT OneT RS KS OneS PlB
variable {M M' : Mem} {H H1 H2 : Hp}
theorem digT_cut {k : Nat} (h : k < 16) : (digT.take (k + 1)).drop k = [dig k] := by
 have : ∀ i : _root_.Fin 16, (digT.take (i.val + 1)).drop i.val = [dig i.val] := by decide
 exact this ⟨k, h⟩
theorem rName_K {n : Nat} (hn : n ≤ 18446744073709551615) : K Tryz.prog 9 [.int .u64 (n : Int)] M H fun v' M' H' => v' = str (nameS n) ∧ M' = M ∧ H' = H := by
 refine K.enterK Tryz.func9 rfl rfl rfl ?_
 intro Q hNP hQ
 by_cases hb : 72057594037927935 < n
 ·have e : nameS n = [] := if_pos hb
  rw [e] at hQ
  (repeat' (first | refine a_mv ?_ | (apply R.step; (apply Ok.gtTr; exact rfl; exact rfl; omega); exact rfl) | (refine a_go ?_; intros) | refine a_sp (fun h => ?_) fun h => ?_ | fail))
  (refine Fin.rA (H) ?_)
  exact ⟨rfl, rfl, rfl⟩
 rw [nameS_ok (by omega)] at hQ
 (repeat' (first | refine a_mv ?_ | (apply R.step; (apply Ok.gtF; exact rfl; exact rfl; omega); exact rfl) | (refine a_go ?_; intros) | refine a_sp (fun h => ?_) fun h => ?_ | fail))
 apply C.loop (fun y : SnmX => y.i ≤ 15 ∧ y.f = n / 16 ^ y.i)
  (fun y => [(0, .int .u64 (y.f : Int)), (3, str (hexS y.i n)), (4, .int .i64 (y.i : Int))]) (fun _ => M) (fun _ => H) (fun y => 15 - y.i) ⟨0, n⟩
 ·exact ⟨Nat.zero_le _, by simp⟩
 ·(exact a_subs)
 ·exact rfl
 ·exact rfl
 rintro ⟨i, f⟩ ⟨hi, hf⟩
 dsimp only at hi hf ⊢
 have hfn : f ≤ n := by rw [hf]; exact Nat.div_le_self _ _
 by_cases hlt : i < 15
 ·have hk : f % 16 < 16 := Nat.mod_lt _ (by decide)
  have hrem : (f : Int) % 16 = ((f % 16 : Nat) : Int) := rfl
  (repeat' (first | refine a_mv ?_ | (apply R.step; (first | (apply Ok.ltTr; exact rfl; exact rfl; omega)); exact rfl) | (refine a_go ?_; intros) | refine a_sp (fun h => ?_) fun h => ?_ | fail))
  have e1 : ((f : Int) % 16).toNat = f % 16 := by omega
  have e2 : ((f : Int) % 16 + 1).toNat = f % 16 + 1 := by omega
  have hlen : digT.length = 16 := rfl
  (apply R.step; (apply Ok.sliceTT (a := digT); exact rfl; exact rfl; exact rfl; omega; omega; omega); exact rfl)
  rw [e1, e2, digT_cut hk]
  have hl1 : [dig (f % 16)].length + (hexS i n).length ≤ 9223372036854775807 := by
   rw [hexS_len, List.length_singleton]
   omega
  (repeat' (first | refine a_mv ?_ | (apply R.step; (first | (apply Ok.addStr (a := [dig (f % 16)]) (b := hexS i n); exact rfl; exact rfl; exact hl1) | (apply Ok.quoU; exact rfl; exact rfl; omega; decide; omega)); exact rfl) | (refine a_go ?_; intros) | refine a_sp (fun h => ?_) fun h => ?_ | fail))
  have he : [dig (f % 16)] ++ hexS i n = hexS (i + 1) n := by
   rw [hexS_cons, hf]
   rfl
  rw [he]
  refine Fin.again (⟨i + 1, f / 16⟩ : SnmX) ⟨by dsimp only; omega, by dsimp only; rw [hf, Nat.div_div_eq_div_mul, Nat.pow_succ]⟩ (by dsimp only; omega) ?_ rfl rfl
  (exact a_subs)
 ·have hie : i = 15 := by omega
  subst hie
  (repeat' (first | refine a_mv ?_ | (apply R.step; (first | (apply Ok.ltF; exact rfl; exact rfl; omega)); exact rfl) | (refine a_go ?_; intros) | refine a_sp (fun h => ?_) fun h => ?_ | fail))
  have hl2 : [115].length + (hexS 15 n).length ≤ 9223372036854775807 := by
   rw [hexS_len]
   decide
  (repeat' (first | refine a_mv ?_ | (apply R.step; (apply Ok.addStr (a := [115]) (b := hexS 15 n); exact rfl; exact rfl; exact hl2); exact rfl) | (refine a_go ?_; intros) | refine a_sp (fun h => ?_) fun h => ?_ | fail))
  (refine Fin.rA (H) ?_)
  exact ⟨rfl, rfl, rfl⟩
end Go.Sx
end
section
namespace Go.Sx
open Go Go.Proofs Go.RowKit
attribute [local irreducible] C R Fin K Own Rd Pl Ok KOf RetOk OpsOf RP KP Res NoPanic
variable {M M' : Mem} {H H1 H2 : Hp}
theorem rsum_K {A : Option Addr} {cap : Nat} {bs : List UInt8} (hpl : Pl M A (bs.map bv)) (hb : bs.length ≤ 140737488351232) : K Tryz.prog 22 [.slice A bs.length cap] M H fun v M' H' => v = wv (sumS bs) ∧ M' = M ∧ H' = H := by
 refine K.enterK Tryz.func22 rfl rfl rfl ?_
 intro Q hNP hQ
 (repeat' (first | (refine a_go ?_; intros) | refine a_sp (fun h => ?_) fun h => ?_ | fail))
 apply C.loop (fun x : SumL => 0 ≤ x.i ∧ x.i ≤ bs.length ∧ x.h < 4294967296 ∧ (bs.drop x.i.toNat).foldl byteS x.h = bs.foldl byteS 4294967295)
  (fun x => [(0, .slice A bs.length cap), (3, wv x.h), (4, .int .i64 x.i)]) (fun _ => M) (fun _ => H) (fun x => (bs.length - x.i).toNat) ⟨0, 4294967295⟩
 ·exact ⟨Int.le_refl 0, Int.natCast_nonneg _, by decide, rfl⟩
 ·(exact a_subs)
 ·exact rfl
 ·exact rfl
 rintro ⟨i, z⟩ ⟨hi, hi2, hh, hs⟩
 dsimp only at hi hi2 hh hs ⊢
 (repeat' (first | (refine a_go ?_; intros) | refine a_sp (fun h => ?_) fun h => ?_ | fail))
 ·have hlt : i < bs.length := by assumption
  obtain ⟨b0, o0, c0, e0, f0, rfl, hat, hcell⟩ := hpl.cell (by simp; omega)
  (apply R.step; (apply Ok.indexAddr; exact rfl; exact rfl; omega; omega); exact rfl)
  (apply R.step; (apply Ok.loadP; exact rfl; exact rfl; exact hat; rw [Nat.mul_one]; exact hcell _ _ (bv_at (o := i.toNat) (by omega))); exact rfl)
  have hbl : bs[i.toNat].toNat < 256 := bs[i.toNat].toNat_lt
  have hdrop : bs.drop i.toNat = bs[i.toNat] :: bs.drop (i.toNat + 1) := List.drop_eq_getElem_cons (by omega)
  rw [hdrop, List.foldl_cons] at hs
  generalize bs[i.toNat] = b at hbl hs
  (repeat' (first | (refine a_go ?_; intros) | refine a_sp (fun h => ?_) fun h => ?_ | fail))
  apply C.loop (fun y : SumL => 0 ≤ y.i ∧ y.i ≤ 8 ∧ y.h < 4294967296 ∧ bitsS (8 - y.i.toNat) y.h = byteS z b)
   (fun y => [(0, .slice (some ⟨b0, o0, none⟩) bs.length cap), (3, wv y.h), (4, .int .i64 i), (5, .int .i64 y.i)]) (fun _ => M) (fun _ => H) (fun y => (8 - y.i).toNat) ⟨0, z ^^^ b.toNat⟩
  ·exact ⟨Int.le_refl 0, by dsimp only; omega, xor_lt hh (by omega), rfl⟩
  ·(exact a_subs)
  ·exact rfl
  ·exact rfl
  rintro ⟨j, g⟩ ⟨hj, hj2, hg, hb3⟩
  dsimp only at hj hj2 hg hb3 ⊢
  (repeat' (first | (refine a_go ?_; intros) | refine a_sp (fun h => ?_) fun h => ?_ | fail))
  ·refine Fin.again (⟨j + 1, g / 2 ^^^ 2197175160⟩ : SumL) ⟨by dsimp only; omega, by dsimp only; omega, xor_lt (by omega) (by decide), ?_⟩ (by dsimp only; omega) ?_ rfl rfl
   ·dsimp only
    have h1 : ((g &&& 1 : Nat) : Int) = 1 := by assumption
    rw [← hb3, show 8 - j.toNat = (8 - (j + 1).toNat) + 1 by omega, bitsS]
    unfold bitS
    rw [if_pos (by rw [Nat.and_one_is_mod] at h1; omega)]
   ·dsimp only
    (exact a_subs)
  ·refine Fin.again (⟨j + 1, g / 2⟩ : SumL) ⟨by dsimp only; omega, by dsimp only; omega, by dsimp only; omega, ?_⟩ (by dsimp only; omega) ?_ rfl rfl
   ·dsimp only
    have h1 : ((g &&& 1 : Nat) : Int) ≠ 1 := by assumption
    rw [← hb3, show 8 - j.toNat = (8 - (j + 1).toNat) + 1 by omega, bitsS]
    unfold bitS
    rw [if_neg (by rw [Nat.and_one_is_mod] at h1; omega)]
   ·dsimp only
    (exact a_subs)
  ·refine Fin.again (⟨i + 1, g⟩ : SumL) ⟨by dsimp only; omega, by dsimp only; omega, hg, ?_⟩ (by dsimp only; omega) ?_ rfl rfl
   ·dsimp only
    have h1 : ¬ j < 8 := by assumption
    have h8 : j = 8 := by omega
    subst h8
    have h9 : g = byteS z b := hb3
    rw [h9, show (i + 1).toNat = i.toNat + 1 by omega]
    exact hs
   ·dsimp only
    (exact a_subs)
 ·(refine Fin.rt ?_)
  refine ⟨?_, rfl, rfl⟩
  have h1 : ¬ i < bs.length := by assumption
  rw [List.drop_of_length_le (by omega)] at hs
  unfold sumS
  rw [← hs, Nat.xor_comm]
  rfl
end Go.Sx
end
section
namespace Go.Sx
open Go.Proofs Go.RowKit
attribute [local irreducible] C R Fin K Own Rd Pl Ok KOf RetOk OpsOf RP KP Res NoPanic KV
variable {M : Mem} {H : Hp}
theorem rframe_K {A : Option Addr} {cap : Nat} {bs : List UInt8} (hpl : Pl M A (bs.map bv)) (hb : bs.length ≤ 140737488351232) : K Tryz.prog 8 [.slice A bs.length cap] M H fun v M' H' =>
  ∃ hp, Own 5 1 v (frameS bs).length ((frameS bs).map bv) hp ∧ M' = M ∧ H' = hp ++ H := by
 refine K.enterK Tryz.func8 rfl rfl rfl ?_
 intro Q hNP hQ
 (repeat' (first | (refine a_bl ?_; intro bl) | (refine a_go ?_; intros) | refine a_sp (fun h => ?_) fun h => ?_ | fail))
 ·have h1 : 65536 < (bs.length : Int) := by assumption
  (refine Fin.rA ([] ++ H) ?_)
  have e : frameS bs = [] := if_pos (by omega)
  rw [e]
  exact ⟨[], Own.nil _ 1, rfl, rfl⟩
 have hle : ¬ 65536 < (bs.length : Int) := by assumption
 (apply R.call; (exact a_evs); exact rfl); exact rsum_K hpl hb; rintro _ M H ⟨rfl, rfl, rfl⟩
 (repeat' (first | refine a_mv ?_ | (apply R.step; (first | (apply Ok.shrIN 8 256; exact rfl; exact rfl; decide; decide) | (apply Ok.shrIN 16 65536; exact rfl; exact rfl; decide; decide) | (apply Ok.shrIN 24 16777216; exact rfl; exact rfl; decide; decide) | (apply Ok.convLI; exact rfl) | (apply Ok.convL; exact rfl)); exact rfl) | (refine a_bl ?_; intro bl) | (refine a_go ?_; intros) | refine a_sp (fun h => ?_) fun h => ?_ | fail))
 have ho8 : Own 5 1 (.slice (some ⟨bl, 0, none⟩) 8 8) 8 ((layS bs.length ++ layS (sumS bs)).map bv) [(bl, .cells ((layS bs.length ++ layS (sumS bs)).map bv).toArray 5 (0, 0))] := Own.of_cells (xs := (layS bs.length ++ layS (sumS bs)).map bv) (by show 8 ≤ maxLen; unfold maxLen; omega)
 (apply R.append; exact rfl; exact rfl; exact ho8; exact Tk.one _ _ _; exact hpl.rd; (focus (simp; done)); exact bv_one _; (show (8 + bs.length) * 1 ≤ _; omega); exact rfl; decide; decide; exact rfl; rintro v4 hp4 hown4)
 (repeat' (first | (refine a_bl ?_; intro bl) | (refine a_go ?_; intros) | refine a_sp (fun h => ?_) fun h => ?_ | fail))
 (refine Fin.rA (hp4 ++ H) ?_)
 have e : frameS bs = layS bs.length ++ layS (sumS bs) ++ bs := if_neg (by omega)
 rw [e]
 refine ⟨hp4, ?_, rfl, rfl⟩
 rw [List.length_append, List.map_append]
 exact hown4
structure RlX where
 at_ : Nat
 ai : Int
 M : Mem
 ov : Value
 vs : List Value
 pre : List (List UInt8)
 hrow : Hp
set_option maxHeartbeats 4000000 in
theorem rlist_K {A : Option Addr} {cap : Nat} {bs : List UInt8} (hpl : Pl M A (bs.map bv)) (hc : bs.length ≤ cap) (hb : cap ≤ 9223372036854775807) (hsm : bs.length ≤ 2147483648) : K Tryz.prog 88 [.slice A bs.length cap] M H fun v M' H' =>
  ∃ ov, v = .tuple #[ov, .int .i64 (endS (framesF bs.length bs))] ∧ PlL M' ov (framesF bs.length bs) ∧ M.le M' ∧ H' = H := by
 refine K.enterK Tryz.func88 rfl rfl rfl ?_
 intro Q hNP hQ
 (repeat' (first | (refine a_go ?_; intros) | refine a_sp (fun h => ?_) fun h => ?_ | fail))
 apply C.loop (fun x : RlX => (x.at_ : Int) = x.ai ∧ x.at_ ≤ bs.length ∧ M.le x.M ∧ PlV x.M x.vs x.pre ∧ Own 28 1 x.ov x.pre.length x.vs x.hrow ∧ framesF bs.length bs = x.pre ++ framesF (bs.drop x.at_).length (bs.drop x.at_) ∧ endS x.pre = x.at_)
  (fun x => [(0, .slice A bs.length cap), (4, x.ov), (5, .int .i64 x.ai)]) (fun x => x.M) (fun x => x.hrow ++ H) (fun x => bs.length - x.at_) ⟨0, 0, M, .slice none 0 0, [], [], []⟩
 ·exact ⟨rfl, Nat.zero_le _, Mem.le_refl _, PlV.nil, Own.nil _ 1, rfl, rfl⟩
 ·(exact a_subs)
 ·exact rfl
 ·exact rfl
 rintro ⟨at_, ai, M1, ov, vs, pre, hrow⟩ ⟨hai, hat, hM1, hvs, how, hfr, hend⟩
 dsimp only at hai hat hM1 hvs how hfr hend ⊢
 obtain ⟨AO, capO, rfl, hoc, _⟩ := how.form
 have fin : wholeS (bs.drop at_) = none → ∀ M2, M1.le M2 → In M2 hrow → ∃ ov, Value.tuple #[.slice AO pre.length capO, .int .i64 ai] = .tuple #[ov, .int .i64 (endS (framesF bs.length bs))] ∧ PlL M2 ov (framesF bs.length bs) ∧ M.le M2 ∧ H = H := by
  intro hw M2 hM2 hin
  rw [hfr, framesF_none hw, List.append_nil, hend, hai]
  exact ⟨_, rfl, Own.plL how hin (hvs.mono hM2), hM1.trans_ hM2, rfl⟩
 (repeat' (first | (refine a_go ?_; intros) | refine a_sp (fun h => ?_) fun h => ?_ | fail))
 ·have h8 : 8 ≤ (bs.length : Int) - ai := by assumption
  obtain ⟨x0, x1, x2, x3, x4, x5, x6, x7, rest, hdr⟩ : ∃ x0 x1 x2 x3 x4 x5 x6 x7 rest, bs.drop at_ = x0 :: x1 :: x2 :: x3 :: x4 :: x5 :: x6 :: x7 :: rest := by
   have : 8 ≤ (bs.drop at_).length := by simp; omega
   match hd : bs.drop at_, this with
   | x0 :: x1 :: x2 :: x3 :: x4 :: x5 :: x6 :: x7 :: rest, _ => exact ⟨x0, x1, x2, x3, x4, x5, x6, x7, rest, rfl⟩
  obtain ⟨b0, o0, c0, e0, f0, rfl, hat0, hcell⟩ := (hpl.mono hM1).cell (by simp; omega)
  have hget : ∀ k x, (bs.drop at_)[k]? = some x → c0[o0 + (at_ + k)]? = some (bv x) := by
   intro k x hx
   rw [List.getElem?_drop] at hx
   exact hcell _ _ (by rw [List.getElem?_map, hx]; rfl)
  rw [hdr] at hget
  have g0 := hget 0 x0 rfl
  have g1 := hget 1 x1 rfl
  have g2 := hget 2 x2 rfl
  have g3 := hget 3 x3 rfl
  have g4 := hget 4 x4 rfl
  have g5 := hget 5 x5 rfl
  have g6 := hget 6 x6 rfl
  have g7 := hget 7 x7 rfl
  have l0 : x0.toNat < 256 := x0.toNat_lt
  have l1 : x1.toNat < 256 := x1.toNat_lt
  have l2 : x2.toNat < 256 := x2.toNat_lt
  have l3 : x3.toNat < 256 := x3.toNat_lt
  have n0 : Unit → o0 + ai.toNat * 1 = o0 + (at_ + 0) := fun _ => by omega
  have n1 : Unit → o0 + (ai + 1).toNat * 1 = o0 + (at_ + 1) := fun _ => by omega
  have n2 : Unit → o0 + (ai + 2).toNat * 1 = o0 + (at_ + 2) := fun _ => by omega
  have n3 : Unit → o0 + (ai + 3).toNat * 1 = o0 + (at_ + 3) := fun _ => by omega
  have n4 : Unit → o0 + (ai + 4).toNat * 1 = o0 + (at_ + 4) := fun _ => by omega
  have n5 : Unit → o0 + (ai + 5).toNat * 1 = o0 + (at_ + 5) := fun _ => by omega
  have n6 : Unit → o0 + (ai + 6).toNat * 1 = o0 + (at_ + 6) := fun _ => by omega
  have n7 : Unit → o0 + (ai + 7).toNat * 1 = o0 + (at_ + 7) := fun _ => by omega
  (apply C.regionO (ks := [1, 1, 1, 1, 1, 1, 1, 1, 1, 1, 1, 1, 1, 1, 1, 1, 1, 1, 1, 1, 1, 1, 1, 1, 1, 1, 1, 1, 1, 1]) (is := [0, 1, 2, 3, 4, 5, 6, 7, 8, 9, 10, 11, 12, 13, 14, 15, 16, 17, 18, 19, 20, 21, 22, 23, 24, 25, 26, 27, 28, 29]) (Hs := []); exact Mix.h; (first | exact Arr.all _ | (exact a_arr)); (exact a_np); (exact a_picked); kernel_rfl; intro _ e; subst e)
  (repeat' (first | (apply RP.step; intro _ _ _; (apply Ok.move; exact rfl); exact rfl) | (apply RP.step; intro _ _ hM; (first | (apply Ok.indexAddr; exact rfl; exact rfl; omega; omega) | (apply Ok.loadP; exact rfl; exact rfl; exact hM.2.2 _ _ hat0; (first | (rw [n0 ()]; exact g0) | (rw [n1 ()]; exact g1) | (rw [n2 ()]; exact g2) | (rw [n3 ()]; exact g3))) | (apply Ok.shlIN 8 256; exact rfl; exact rfl; decide; decide; omega) | (apply Ok.shlIN 16 65536; exact rfl; exact rfl; decide; decide; omega) | (apply Ok.shlIN 24 16777216; exact rfl; exact rfl; decide; decide; omega)); exact rfl) | refine a_op ?_ | (apply RP.callQ; (exact a_evs); exact rfl)))
  apply RP.nil
  generalize hn : (x0.toNat : Int) + ((x1.toNat * 256 : Nat) : Int) + ((x2.toNat * 65536 : Nat) : Int) + ((x3.toNat * 16777216 : Nat) : Int) = n
  have hrs : (readS (bs.drop at_) : Int) = n := by
   rw [hdr, ← hn]
   show ((x0.toNat + x1.toNat * 256 + x2.toNat * 65536 + x3.toNat * 16777216 : Nat) : Int) = _
   omega
  have hn0 : 0 ≤ n := by omega
  have hdl : (bs.drop at_).length = bs.length - at_ := List.length_drop ..
  (repeat' (first | (refine a_go ?_; intros) | refine a_sp (fun h => ?_) fun h => ?_ | fail))
  ·have h1 : 65536 < n := by assumption
   apply Fin.ice (hp := hrow) (Arr.all _)
   intro M2 hM2 hin
   have hw : wholeS (bs.drop at_) = none := by unfold wholeS; rw [if_neg (by omega), if_pos (by omega)]
   (refine Fin.rt ?_)
   exact fin hw M2 hM2 hin
  ·have h1 : (bs.length : Int) - ai - 8 < n := by assumption
   apply Fin.ice (hp := hrow) (Arr.all _)
   intro M2 hM2 hin
   have hw : wholeS (bs.drop at_) = none := by
    unfold wholeS
    rw [if_neg (by omega), if_pos (by have : (bs.drop at_).length - 8 < 4294967296 := by omega
                                      rw [Nat.mod_eq_of_lt this]; omega)]
   (refine Fin.rt ?_)
   exact fin hw M2 hM2 hin
  have h1 : ¬ 65536 < n := by assumption
  have h2 : ¬ (bs.length : Int) - ai - 8 < n := by assumption
  (apply R.step; (apply Ok.sliceLoHi; exact rfl; exact rfl; exact rfl; omega; omega; omega); exact rfl)
  obtain ⟨nn, rfl⟩ := Int.eq_ofNat_of_zero_le hn0
  have hrn : readS (bs.drop at_) = nn := by omega
  have hxl : ((bs.drop (at_ + 8)).take nn).length = nn := by simp; omega
  have ea : (ai + 8).toNat = at_ + 8 := by omega
  have eb : (ai + 8 + (nn : Int)).toNat - (at_ + 8) = nn := by omega
  rw [ea, eb]
  have hpx : Pl M1 (adv (some ⟨b0, o0, none⟩) (at_ + 8) 1 cap) (((bs.drop (at_ + 8)).take nn).map bv) := Pl.cutTake nn (hpl.mono hM1) hc
  have hwS : wholeS (bs.drop at_) = if sumS ((bs.drop (at_ + 8)).take nn) = readS (x4 :: x5 :: x6 :: x7 :: rest) then some ((bs.drop (at_ + 8)).take nn) else none := by
   have e8 : (bs.drop at_).drop 8 = bs.drop (at_ + 8) := List.drop_drop ..
   have e4 : (bs.drop at_).drop 4 = x4 :: x5 :: x6 :: x7 :: rest := by rw [hdr]; rfl
   unfold wholeS
   rw [if_neg (by omega), if_neg (by have : (bs.drop at_).length - 8 < 4294967296 := by omega
                                     rw [Nat.mod_eq_of_lt this]; omega), hrn, e8, e4]
  generalize hX : (bs.drop (at_ + 8)).take nn = X at hxl hpx hwS
  generalize adv (some ⟨b0, o0, none⟩) (at_ + 8) 1 cap = AX at hpx ⊢
  have hsl := sumS_lt X
  (repeat' (first | (refine a_go ?_; intros) | refine a_sp (fun h => ?_) fun h => ?_ | fail))
  ((apply R.call; (exact a_evs); exact rfl); rw [show (Value.slice AX nn (cap - (at_ + 8))) = .slice AX X.length (cap - (at_ + 8)) by rw [hxl]]; exact rsum_K hpx (by omega); rintro _ M1 H ⟨rfl, rfl, rfl⟩)
  generalize hS : sumS X = sX at hsl hwS
  have hfour := readS_four (x0 := x4) (x1 := x5) (x2 := x6) (x3 := x7) (rest := rest) hsl
  have hmis : ¬ (x4 = UInt8.ofNat sX ∧ x5 = UInt8.ofNat (sX / 256) ∧ x6 = UInt8.ofNat (sX / 65536) ∧ x7 = UInt8.ofNat (sX / 16777216)) → wholeS (bs.drop at_) = none := fun h => by
   rw [hwS, if_neg]; intro e; exact h (hfour.1 e.symm)
  (repeat' (first | refine a_mv ?_ | (apply R.step; (first | (apply Ok.indexAddr; exact rfl; exact rfl; omega; omega) | (apply Ok.loadP; exact rfl; exact rfl; exact hat0; (first | (rw [n4 ()]; exact g4) | (rw [n5 ()]; exact g5) | (rw [n6 ()]; exact g6) | (rw [n7 ()]; exact g7)))); exact rfl) | (refine a_go ?_; intros) | refine a_sp (fun h => ?_) fun h => ?_ | fail))
  rotate_left 4
  ·have e4 : (x4.toNat : Int) = (UInt8.ofNat sX).toNat := by assumption
   have e5 : (x5.toNat : Int) = (UInt8.ofNat (sX / 256)).toNat := by assumption
   have e6 : (x6.toNat : Int) = (UInt8.ofNat (sX / 65536)).toNat := by assumption
   have e7 : (x7.toNat : Int) = (UInt8.ofNat (sX / 16777216)).toNat := by assumption
   have hw : wholeS (bs.drop at_) = some X := by
    rw [hwS, if_pos (hfour.2 ⟨UInt8.toNat_inj.1 (by omega), UInt8.toNat_inj.1 (by omega), UInt8.toNat_inj.1 (by omega), UInt8.toNat_inj.1 (by omega)⟩).symm]
   have hfr2 := framesF_some hw
   rw [List.drop_drop] at hfr2
   (apply R.append (news := X.map bv); exact rfl; exact rfl; exact Own.empty; (exact a_tk); exact hpx.rd; (focus (simp; omega)); exact bv_one _; omega; exact rfl; decide; decide; exact rfl; rintro v1 hp1 hown1)
   have hown : Own 5 1 v1 X.length (X.map bv) hp1 := by
    have := hown1
    rw [hxl]
    simpa using this
   clear hown1
   obtain ⟨Av, cv, rfl, _, _⟩ := hown.form
   (repeat' (first | (refine a_go ?_; intros) | refine a_sp (fun h => ?_) fun h => ?_ | fail))
   have hpl8 : endS pre ≤ bs.length := by omega
   have hpl9 := endS_len pre
   (apply R.append (news := [.slice Av X.length cv]); exact rfl; exact rfl; exact how; (exact a_tk); exact Rd.at_ (l := [.slice Av X.length cv]) (by (exact a_at)) (fun j u h => by rw [Nat.zero_add]; exact h); exact rfl; (intro u hu; simp only [List.mem_singleton] at hu; subst hu; rfl); omega; exact rfl; decide; decide; exact rfl; rintro ov2 hrow2 how2)
   (repeat' (first | (refine a_go ?_; intros) | refine a_sp (fun h => ?_) fun h => ?_ | fail))
   apply Fin.ice (hp := hp1) (H1 := hrow2 ++ H) (by (exact a_arr))
   intro M2 hM2 hin
   refine Fin.again (⟨at_ + (8 + X.length), ai + 8 + nn, M2, ov2, vs ++ [.slice Av X.length cv], pre ++ [X], hrow2⟩ : RlX) ⟨by dsimp only; omega, by dsimp only; omega, hM1.trans_ hM2, (hvs.mono hM2).snoc (hown.plB hin), ?_, ?_, ?_⟩ (by dsimp only; omega) ?_ rfl rfl
   ·dsimp only
    rw [List.length_append]
    exact how2
   ·dsimp only
    rw [hfr, hfr2, List.append_assoc]
    rfl
   ·dsimp only
    rw [endS_append, hend]
    simp [endS]
   ·dsimp only
    (exact a_subs)
  all_goals
   apply Fin.ice (hp := hrow) (Arr.all _)
   intro M2 hM2 hin
   have hw : wholeS (bs.drop at_) = none := hmis (by
    rintro ⟨e4, e5, e6, e7⟩
    first
     | exact (by assumption : (x4.toNat : Int) ≠ (UInt8.ofNat sX).toNat) (by rw [e4])
     | exact (by assumption : (x5.toNat : Int) ≠ (UInt8.ofNat (sX / 256)).toNat) (by rw [e5])
     | exact (by assumption : (x6.toNat : Int) ≠ (UInt8.ofNat (sX / 65536)).toNat) (by rw [e6])
     | exact (by assumption : (x7.toNat : Int) ≠ (UInt8.ofNat (sX / 16777216)).toNat) (by rw [e7]))
   (refine Fin.rt ?_)
   exact fin hw M2 hM2 hin
 ·apply Fin.ice (hp := hrow) (Arr.all _)
  intro M2 hM2 hin
  have hw : wholeS (bs.drop at_) = none := if_pos (by simp; omega)
  (refine Fin.rt ?_)
  exact fin hw M2 hM2 hin
end Go.Sx
end
section
namespace Go.Sx
open Go Go.Proofs Go.RowKit
attribute [local irreducible] C R Fin K Own OwnT Rd Pl Ok KOf RetOk OpsOf RP KP Res NoPanic KV KE MapS ItS EntS FsO FsR RowD PlD DkO PlFs RT KT OneT RS KS OneS RdO
variable {M M' : Mem} {H H1 H2 : Hp}
theorem rframe_KF {A : Option Addr} {cap m : Nat} {bs : List UInt8} (hpl : Pl M A (bs.map bv)) (hm : bs.length = m) (hb : m ≤ 140737488351232) : K Tryz.prog 8 [.slice A m cap] M H fun v M' H' =>
  PlB M' v (frameS bs) ∧ M.le M' ∧ H' = H := by
 subst hm
 refine (rframe_K hpl hb).freezeT ?_
 rintro v M' H' ⟨hp, h1, rfl, rfl⟩
 exact ⟨hp, _, Arr.all _, fun M2 hM2 hin => ⟨h1.plB hin, hM2, rfl⟩⟩
theorem rlist_Km {A : Option Addr} {cap m : Nat} {bs : List UInt8} (hpl : Pl M A (bs.map bv)) (hm : bs.length = m) (hc : m ≤ cap) (hb : cap ≤ 9223372036854775807) (hsm : m ≤ 2147483648) : K Tryz.prog 88 [.slice A m cap] M H fun v M' H' =>
  ∃ ov, v = .tuple #[ov, .int .i64 (endS (framesF bs.length bs))] ∧ PlL M' ov (framesF bs.length bs) ∧ M.le M' ∧ H' = H := by
 subst hm
 exact rlist_K hpl hc hb hsm
theorem framesF_small : ∀ (k : Nat) (bs : List UInt8), ∀ r ∈ framesF k bs, r.length ≤ 65536
 | 0, bs => by
  intro r hr
  unfold framesF at hr
  cases hr
 | k + 1, bs => by
  intro r hr
  unfold framesF at hr
  split at hr
  ·cases hr
  ·rename_i x hx
   rcases List.mem_cons.1 hr with rfl | hr
   ·exact (wholeS_len hx).2
   ·exact framesF_small k _ r hr
def curE (prev : Option En) (es : List En) : Option En := match es.getLast? with
 | some a => some a
 | none => prev
theorem curE_snoc (prev : Option En) (es : List En) (e : En) : curE prev (es ++ [e]) = some e := by unfold curE; rw [List.getLast?_concat]
theorem fitS_iff {prev : Option En} {f : Nat} {es : List En} {e : En} : fitS prev f es e ↔ (es.length = 0 → e.idx = (f : Int)) ∧ ∀ a, curE prev es = some a → fitE a e := by
 unfold fitS curE
 cases h : es.getLast? with
 | some a =>
  dsimp only
  constructor
  ·intro g
   refine ⟨fun h0 => ?_, fun b hb => by cases hb; exact g⟩
   rw [List.eq_nil_of_length_eq_zero h0] at h
   cases h
  ·intro g
   exact g.2 a rfl
 | none =>
  have hn : es = [] := List.getLast?_eq_none_iff.1 h
  subst hn
  dsimp only
  constructor
  ·intro g
   refine ⟨fun _ => g.1, fun b hb => ?_⟩
   have := g.2
   rw [hb] at this
   exact this
  ·intro g
   refine ⟨g.1 rfl, ?_⟩
   cases prev with
   | none => trivial
   | some a => exact g.2 a rfl
theorem lastO_ent {ss : List Sg} {a : En} (hok : sgsOk ss) (h : lastO ss = some a) : entS a := by
 unfold lastO at h
 cases hg : ss.getLast? with
 | none => rw [hg] at h; cases h
 | some s =>
  rw [hg] at h
  exact (hok s (List.mem_of_getLast? hg)).2 a (List.mem_of_getLast? h)
structure RrX where
 i : Nat
 ii : Int
 it : List (En × Nat)
 lv : Value
 av : Value
 lh : Hp
 ah : Hp
 has : Bool
 pe : En
 pv : Value
 M : Mem
set_option maxHeartbeats 4000000 in
theorem rread9_K {lb rb : Nat} {d : Dk} {lim : Int} {ss : List Sg} {f : Nat} {hL hp : Hp} (hg : RgO M lb rb lim ss hL) (hok : sgsOk ss) (ho : RdO M rb d hp) (hl : d.now.length ≤ 1000000) (hf : f ≤ 72057594037927935) : K Tryz.prog 41 [.pointer (some ⟨lb, 0, none⟩), .int .u64 (f : Int)] M (hL ++ (hp ++ H)) fun v' M' H' => ∃ p : PtV, v' = .tuple #[.agg (prC p).toArray, .bool (readF (lastO ss) f ((readD d (nameS f)).getD [])).2] ∧ PrO M' p ∧ p.s.first = f ∧ p.s.it = (readF (lastO ss) f ((readD d (nameS f)).getD [])).1 ∧ (∀ e ∈ p.s.es, entS e) ∧ M.le M' ∧ H' = (p.lh ++ p.eh) ++ (hL ++ (hp ++ H)) := by
 refine K.enterM Tryz.func41 rfl rfl rfl ?_
 intro Q hNP hQ
 obtain ⟨hL', Ap, np, cpp, hLe⟩ : ∃ (hL' : Hp) (Ap : Option Addr) (np cpp : Nat), hL = (lb, .cells [.pointer (some ⟨rb, 0, none⟩), .int .i64 lim, .slice Ap np cpp].toArray 91 (0, 0)) :: hL' := by
  obtain ⟨ps, pv, hrow, _, hrw, _, h⟩ := id hg
  obtain ⟨A, c, rfl, _, _⟩ := hrw.form
  exact ⟨hrow ++ ptH ps, A, _, c, h.trans rfl⟩
 subst hLe
 (repeat' (first | (refine a_gn ?_; intros) | refine a_sp (fun h => ?_) fun h => ?_ | fail))
 ((apply R.alloc; (simp only [Value.cells]; rfl); exact rfl); intro b4)
 (repeat' (first | (refine a_gn ?_; intros) | refine a_sp (fun h => ?_) fun h => ?_ | fail))
 ((apply R.alloc; (simp only [Value.cells]; rfl); exact rfl); intro b6)
 (repeat' (first | (refine a_bl ?_; intro bl) | (refine a_go ?_; intros) | refine a_sp (fun h => ?_) fun h => ?_ | fail))
 (apply C.regionT (t := .free 0 (.free 1 (.free 2 (.free 3 (.free 4 (.free 5 (.one 6 (.free 7 (.free 8 (.free 9 (.free 10 (.free 11 .nil)))))))))))) (Hs := [(lb, .cells [.pointer (some ⟨rb, 0, none⟩), .int .i64 lim, .slice Ap np cpp].toArray 91 (0, 0))]); exact Mix.h; (first | exact Arr.all _ | (exact a_arr) | (exact a_arrs)); (exact a_np); kernel_rfl)
 (repeat' (first | (apply RT.step; exact rfl; intro _ _ _; (apply Ok.move; exact rfl); exact rfl) | (apply RT.callQ; exact rfl; exact inferInstance; (exact a_evs); exact rfl; (intro M' Hx' hM'; exact rName_K (n := f) (by omega))) | refine a_ot ?_ | fail))
 (apply RT.one; apply OneT.eff; exact rfl; intro Kc hKc ops0)
 apply R.arr (H2 := hp ++ ((lb, .cells [.pointer (some ⟨rb, 0, none⟩), .int .i64 lim, .slice Ap np cpp].toArray 91 (0, 0)) :: (b6, .cells [.int .u64 (f : Int), .slice none 0 0, .slice none 0 0, .int .i64 0].toArray 93 (0, 0)) :: (b4, .cells [.int .u64 0, .slice none 0 0, .slice none 0 0, .int .i64 0].toArray 93 (0, 0)) :: (hL' ++ H))) (by (exact a_art))
 (apply R.call; (exact a_evs); exact rfl; exact rread_KD (n := nameS f) ho hl; rintro _ M1 _ ⟨v5, rfl, hb5, rfl, rfl⟩)
 have hbl := readD_len ho.isok (nameS f)
 generalize (readD d (nameS f)).getD [] = b at hb5 hbl hQ
 obtain ⟨A5, c5, rfl, k1, k2, hpl5⟩ := hb5
 (apply R.nil; apply Fin.kt (Hx := (b6, .cells [.int .u64 (f : Int), .slice none 0 0, .slice none 0 0, .int .i64 0].toArray 93 (0, 0)) :: (b4, .cells [.int .u64 0, .slice none 0 0, .slice none 0 0, .int .i64 0].toArray 93 (0, 0)) :: (hL' ++ (hp ++ H))) hKc; exact Mem.le_refl _; (exact a_art))
 (repeat' (first | refine a_ot ?_ | fail))
 apply RT.nil
 (repeat' (first | (refine a_bl ?_; intro bl) | (refine a_go ?_; intros) | refine a_sp (fun h => ?_) fun h => ?_ | fail))
 (apply R.call; (exact a_evs); exact rfl; exact rlist_Km hpl5 rfl k1 k2 (by omega); rintro _ M3 _ ⟨ov, rfl, hls, hM3, rfl⟩)
 obtain ⟨AL, cL, vs, rfl, q1, q2, q3, q4⟩ := hls
 have hfe := framesF_end b.length b
 have hfs := framesF_small b.length b
 have hRe : readF (lastO ss) f b = ((goF (lastO ss) f (framesF b.length b) []).1, (goF (lastO ss) f (framesF b.length b) []).2 && decide (((goF (lastO ss) f (framesF b.length b) []).1.map Prod.snd).sum = b.length ∧ 0 < (goF (lastO ss) f (framesF b.length b) []).1.length)) := rfl
 rw [hRe] at hQ
 clear hRe
 generalize framesF b.length b = fs at q1 q4 hQ hfe hfs
 have hfl := endS_len fs
 replace ho := ho.mono hM3
 replace hg := hg.mono hM3
 (repeat' (first | (refine a_gn ?_; intros) | refine a_sp (fun h => ?_) fun h => ?_ | fail))
 apply R.arr (H2 := ((lb, .cells [.pointer (some ⟨rb, 0, none⟩), .int .i64 lim, .slice Ap np cpp].toArray 91 (0, 0)) :: hL') ++ ((b6, .cells [.int .u64 (f : Int), .slice none 0 0, .slice none 0 0, .int .i64 0].toArray 93 (0, 0)) :: (b4, .cells [.int .u64 0, .slice none 0 0, .slice none 0 0, .int .i64 0].toArray 93 (0, 0)) :: (hp ++ H))) (by (exact a_art))
 have hk := rlast_K (H := (b6, .cells [.int .u64 (f : Int), .slice none 0 0, .slice none 0 0, .int .i64 0].toArray 93 (0, 0)) :: (b4, .cells [.int .u64 0, .slice none 0 0, .slice none 0 0, .int .i64 0].toArray 93 (0, 0)) :: (hp ++ H)) hg hok
 obtain ⟨lo, hlo⟩ : ∃ lo, lo = lastO ss := ⟨_, rfl⟩
 rw [← hlo] at hk hQ
 have hk2 : K Tryz.prog 89 [.pointer (some ⟨lb, 0, none⟩)] M3 (((lb, .cells [.pointer (some ⟨rb, 0, none⟩), .int .i64 lim, .slice Ap np cpp].toArray 91 (0, 0)) :: hL') ++ ((b6, .cells [.int .u64 (f : Int), .slice none 0 0, .slice none 0 0, .int .i64 0].toArray 93 (0, 0)) :: (b4, .cells [.int .u64 0, .slice none 0 0, .slice none 0 0, .int .i64 0].toArray 93 (0, 0)) :: (hp ++ H))) fun v' M' H' => (∃ pe Ad cd, v' = .tuple #[eV pe (.slice Ad pe.data.length cd), .bool lo.isSome] ∧ PlB M3 (.slice Ad pe.data.length cd) pe.data ∧ (∀ a, lo = some a → pe = a)) ∧ M' = M3 ∧ H' = ((lb, .cells [.pointer (some ⟨rb, 0, none⟩), .int .i64 lim, .slice Ap np cpp].toArray 91 (0, 0)) :: hL') ++ ((b6, .cells [.int .u64 (f : Int), .slice none 0 0, .slice none 0 0, .int .i64 0].toArray 93 (0, 0)) :: (b4, .cells [.int .u64 0, .slice none 0 0, .slice none 0 0, .int .i64 0].toArray 93 (0, 0)) :: (hp ++ H)) := by
  refine hk.mono ?_
  rintro v' M' H' ⟨h1, h2, h3⟩
  refine ⟨?_, h2, h3⟩
  cases lo with
  | none => exact ⟨⟨0, 0, 0, [], 0⟩, none, 0, h1, PlB.nil1, fun a h => by cases h⟩
  | some a =>
   obtain ⟨v, h4, h5⟩ := h1
   obtain ⟨Ad, cd, rfl, _⟩ := id h5
   exact ⟨a, Ad, cd, h4, h5, fun x h => by cases h; rfl⟩
 have hlob : ∀ a, lo = some a → 1 ≤ a.idx ∧ a.idx ≤ 72057594037927935 := by
  intro a h
  rw [hlo] at h
  exact (entS_kind (lastO_ent hok h)).2.2.2.2.2.1
 clear hk
 (apply R.call; (exact a_evs); exact rfl; exact hk2; rintro _ M3 _ ⟨⟨pe, Ad, cd, rfl, hpd, hpe⟩, rfl, rfl⟩)
 unfold eV ecells
 (repeat' (first | (refine a_gn ?_; intros) | refine a_sp (fun h => ?_) fun h => ?_ | fail))
 ((apply R.alloc; (simp only [Value.cells]; rfl); exact rfl); intro b11)
 (repeat' (first | (refine a_bl ?_; intro bl) | (refine a_go ?_; intros) | refine a_sp (fun h => ?_) fun h => ?_ | fail))
 apply C.arr (H2 := (b11, .cells (ecells pe (.slice Ad pe.data.length cd)).toArray 33 (0, 0)) :: (b6, .cells [.int .u64 (f : Int), .slice none 0 0, .slice none 0 0, .int .i64 0].toArray 93 (0, 0)) :: (b4, .cells [.int .u64 0, .slice none 0 0, .slice none 0 0, .int .i64 0].toArray 93 (0, 0)) :: (((lb, .cells [.pointer (some ⟨rb, 0, none⟩), .int .i64 lim, .slice Ap np cpp].toArray 91 (0, 0)) :: hL') ++ (hp ++ H))) (by unfold ecells; (exact a_art))
 apply C.loop (fun y : RrX => (y.i : Int) = y.ii ∧ y.i = y.it.length ∧ y.i ≤ fs.length ∧ M3.le y.M ∧ PrO y.M (⟨⟨f, y.it⟩, y.lv, y.av, y.lh, y.ah⟩ : PtV) ∧ (∀ e ∈ (⟨f, y.it⟩ : Sg).es, entS e) ∧ PlB y.M y.pv y.pe.data ∧ y.has = (curE lo (y.it.map Prod.fst)).isSome ∧ (∀ a, curE lo (y.it.map Prod.fst) = some a → y.pe = a) ∧ goF lo f fs [] = goF lo f (fs.drop y.i) y.it ∧ (y.it.map Prod.snd).sum + endS (fs.drop y.i) = endS fs)
  (fun y => [(0, .pointer (some ⟨lb, 0, none⟩)), (1, .int .u64 (f : Int)), (4, .pointer (some ⟨b4, 0, none⟩)), (5, .bool false), (6, .pointer (some ⟨b6, 0, none⟩)), (7, .slice A5 b.length c5), (9, .slice AL fs.length cL), (11, .pointer (some ⟨b11, 0, none⟩)), (12, .bool y.has), (13, .int .i64 y.ii)]) (fun y => y.M) (fun y => (b11, .cells (ecells y.pe y.pv).toArray 33 (0, 0)) :: (b6, .cells (prC (⟨⟨f, y.it⟩, y.lv, y.av, y.lh, y.ah⟩ : PtV)).toArray 93 (0, 0)) :: (b4, .cells [.int .u64 0, .slice none 0 0, .slice none 0 0, .int .i64 0].toArray 93 (0, 0)) :: ((y.lh ++ y.ah) ++ (((lb, .cells [.pointer (some ⟨rb, 0, none⟩), .int .i64 lim, .slice Ap np cpp].toArray 91 (0, 0)) :: hL') ++ (hp ++ H)))) (fun y => fs.length - y.i) ⟨0, 0, [], .slice none 0 0, .slice none 0 0, [], [], lo.isSome, pe, .slice Ad pe.data.length cd, M3⟩
 ·exact ⟨rfl, rfl, Nat.zero_le _, Mem.le_refl _, ⟨OwnP.nil, OwnT.nil _ _⟩, fun e h => absurd h List.not_mem_nil, hpd, rfl, hpe, rfl, Nat.zero_add _⟩
 ·(exact a_subs)
 ·exact rfl
 ·exact rfl
 rintro ⟨i, ii, it, lv, av, lh, ah, has, pe1, pv1, M4⟩ ⟨hii, hil, hi, hM4, hPO, hent, hpv1, hhas, hpe1, hgo, hsum⟩
 dsimp only at hii hil hi hM4 hPO hent hpv1 hhas hpe1 hgo hsum ⊢
 obtain ⟨hoP, hoT⟩ := id hPO
 obtain ⟨Al, cl, hlv, kl1, kl2⟩ := hoP.form
 obtain ⟨Aa, ca, hav, ke1, ke2⟩ := hoT.form
 have hel : (⟨f, it⟩ : Sg).es.length = it.length := Sg.es_len _
 change lv = .slice Al (⟨f, it⟩ : Sg).es.length cl at hlv
 change av = .slice Aa it.length ca at hav
 rw [hel] at hlv
 subst hlv hav
 obtain ⟨Ap1, cp1, rfl, _⟩ := id hpv1
 have hsz : (⟨f, it⟩ : Sg).size = (it.map Prod.snd).sum := rfl
 have hes : (⟨f, it⟩ : Sg).es = it.map Prod.fst := rfl
 have hml : (it.map Prod.fst).length = it.length := List.length_map ..
 change (∀ a, curE lo (it.map Prod.fst) = some a → pe1 = a) at hpe1
 change (∀ e ∈ it.map Prod.fst, entS e) at hent
 have hcb : ∀ a, curE lo (it.map Prod.fst) = some a → pe1.idx ≤ 72057594037927935 ∧ 1 ≤ pe1.idx := by
  intro a h
  rw [hpe1 a h]
  unfold curE at h
  split at h
  ·rename_i x hx
   cases h
   have := (entS_kind (hent _ (List.mem_of_getLast? hx))).2.2.2.2.2.1
   omega
  ·have := hlob a h
   omega
 unfold prC ecells
 dsimp only
 rw [hsz]
 by_cases hlt : i < fs.length
 ·obtain ⟨b2, o2, c2, e2, fr2, Ai, ci, hA2, hMb2, hcell2, _, r1, r2, r3⟩ := PlV.at_ q3 q4 hlt
  subst hA2
  have hdr : fs.drop i = fs[i] :: fs.drop (i + 1) := List.drop_eq_getElem_cons hlt
  have hr6 := hfs _ (List.getElem_mem hlt)
  generalize fs[i] = r at hcell2 r1 r2 r3 hdr hr6
  rw [hdr] at hgo hsum
  have hends : endS (r :: fs.drop (i + 1)) = 8 + r.length + endS (fs.drop (i + 1)) := by simp [endS]
  rw [hends] at hsum
  have hMb2' := hM4.2.2 _ _ hMb2
  have hcell2' : c2[o2 + ii.toNat * 1]? = some (.slice Ai r.length ci) := by rw [show ii.toNat * 1 = i by omega]; exact hcell2
  have hbr : PlB M4 (.slice Ai r.length ci) r := ⟨Ai, ci, rfl, r1, r2, r3.mono hM4⟩
  (repeat' (first | refine a_mv ?_ | (apply R.step; (first | (apply Ok.ltTr; exact rfl; exact rfl; omega) | (apply Ok.indexAddr; exact rfl; exact rfl; omega; omega) | (apply Ok.loadP; exact rfl; exact rfl; exact hMb2'; exact hcell2')); exact rfl) | (refine a_bl ?_; intro bl) | (refine a_go ?_; intros) | refine a_sp (fun h => ?_) fun h => ?_ | fail))
  (apply R.call; (exact a_evs); exact rfl; exact r5readEntry_K hbr; rintro _ M5 _ ⟨hM5, e1_, hcase⟩; replace e1_ := e1_.symm; subst e1_)
  rcases hcase with ⟨e, vd, hre, rfl, hvd⟩ | ⟨hre, bad, rfl, hbad⟩
  rotate_left
  ·rw [goF_none hre] at hgo
   rw [hgo] at hQ
   unfold e0V
   (repeat' (first | (refine a_gn ?_; intros) | refine a_sp (fun h => ?_) fun h => ?_ | fail))
   ((apply R.alloc; (simp only [Value.cells]; rfl); exact rfl); intro b14)
   (repeat' (first | refine a_mv ?_ | (apply R.step; (apply Ok.neIT; exact rfl; exact rfl; exact hbad); exact rfl) | (refine a_bl ?_; intro bl) | (refine a_go ?_; intros) | refine a_sp (fun h => ?_) fun h => ?_ | fail))
   (apply Fin.returnM (H2 := (lh ++ ah) ++ (((lb, .cells [.pointer (some ⟨rb, 0, none⟩), .int .i64 lim, .slice Ap np cpp].toArray 91 (0, 0)) :: hL') ++ (hp ++ H))); assumption; exact .inl rfl; exact rfl; exact Marks.nil _; (exact a_res); (simp only [retv]; rfl); (exact a_art))
   exact ⟨⟨⟨f, it⟩, .slice Al it.length cl, .slice Aa it.length ca, lh, ah⟩, by unfold prC; dsimp only; rw [hsz]; rfl, ⟨hoP.mono hM5, hoT⟩, rfl, rfl, hent, hM3.trans_ (hM4.trans_ hM5), by simp only [List.append_assoc]⟩
  obtain ⟨Ade, cde, rfl, d1, d2, d3⟩ := id hvd
  have hE := readE_ok hre
  have hEk := entS_kind hE
  unfold eV ecells
  (repeat' (first | (refine a_gn ?_; intros) | refine a_sp (fun h => ?_) fun h => ?_ | fail))
  ((apply R.alloc; (simp only [Value.cells]; rfl); exact rfl); intro b14)
  (repeat' (first | (refine a_bl ?_; intro bl) | (refine a_g0 ?_; intros) | refine a_s3 (fun h => ?_) fun h => ?_ | fail))
  apply C.arr (H2 := (b14, .cells [.int .i64 e.kind, .int .u64 e.term, .int .u64 e.idx, .slice Ade e.data.length cde, .int .i64 e.conf].toArray 33 (0, 0)) :: (b11, .cells [.int .i64 pe1.kind, .int .u64 pe1.term, .int .u64 pe1.idx, .slice Ap1 pe1.data.length cp1, .int .i64 pe1.conf].toArray 33 (0, 0)) :: (b6, .cells [.int .u64 (f : Int), .slice Al it.length cl, .slice Aa it.length ca, .int .i64 (((it.map Prod.snd).sum : Nat) : Int)].toArray 93 (0, 0)) :: (b4, .cells [.int .u64 0, .slice none 0 0, .slice none 0 0, .int .i64 0].toArray 93 (0, 0)) :: ((lh ++ ah) ++ (((lb, .cells [.pointer (some ⟨rb, 0, none⟩), .int .i64 lim, .slice Ap np cpp].toArray 91 (0, 0)) :: hL') ++ (hp ++ H)))) (by (exact a_art))
  apply C.seqCut (X := Unit) (fun _ => fitS lo f (it.map Prod.fst) e) (fun _ => [(0, .pointer (some ⟨lb, 0, none⟩)), (1, .int .u64 (f : Int)), (4, .pointer (some ⟨b4, 0, none⟩)), (5, .bool false), (6, .pointer (some ⟨b6, 0, none⟩)), (7, .slice A5 b.length c5), (9, .slice (some ⟨b2, o2, none⟩) fs.length cL), (11, .pointer (some ⟨b11, 0, none⟩)), (12, .bool has), (13, .int .i64 ii), (14, .pointer (some ⟨b14, 0, none⟩))]) (fun _ => M5) (fun _ => (b14, .cells [.int .i64 e.kind, .int .u64 e.term, .int .u64 e.idx, .slice Ade e.data.length cde, .int .i64 e.conf].toArray 33 (0, 0)) :: (b11, .cells [.int .i64 pe1.kind, .int .u64 pe1.term, .int .u64 pe1.idx, .slice Ap1 pe1.data.length cp1, .int .i64 pe1.conf].toArray 33 (0, 0)) :: (b6, .cells [.int .u64 (f : Int), .slice Al it.length cl, .slice Aa it.length ca, .int .i64 (((it.map Prod.snd).sum : Nat) : Int)].toArray 93 (0, 0)) :: (b4, .cells [.int .u64 0, .slice none 0 0, .slice none 0 0, .int .i64 0].toArray 93 (0, 0)) :: ((lh ++ ah) ++ (((lb, .cells [.pointer (some ⟨rb, 0, none⟩), .int .i64 lim, .slice Ap np cpp].toArray 91 (0, 0)) :: hL') ++ (hp ++ H))))
  ·by_cases hfit : fitS lo f (it.map Prod.fst) e
   ·obtain ⟨g1, g2⟩ := fitS_iff.1 hfit
    cases hc : curE lo (it.map Prod.fst) with
    | none =>
     rw [hc] at hhas
     subst hhas
     have h0 : i = 0 := by
      apply Classical.byContradiction
      intro h
      obtain ⟨a, ha⟩ : ∃ a, (it.map Prod.fst).getLast? = some a := ⟨_, getLast_len (by omega)⟩
      unfold curE at hc
      rw [ha] at hc
      cases hc
     have h1 := g1 (by omega)
     (repeat' (first | refine a_mv ?_ | (apply R.step; (exact a_cmp); exact rfl) | (apply R.step; (apply Ok.addB; exact rfl; exact rfl; apply wu64; omega; omega); exact rfl) | (refine a_bl ?_; intro bl) | (refine a_go ?_; intros) | refine a_sp (fun h => ?_) fun h => ?_ | fail))
     all_goals (first | (exfalso; omega) | skip)
     apply Fin.arr (H2 := (b14, .cells [.int .i64 e.kind, .int .u64 e.term, .int .u64 e.idx, .slice Ade e.data.length cde, .int .i64 e.conf].toArray 33 (0, 0)) :: (b11, .cells [.int .i64 pe1.kind, .int .u64 pe1.term, .int .u64 pe1.idx, .slice Ap1 pe1.data.length cp1, .int .i64 pe1.conf].toArray 33 (0, 0)) :: (b6, .cells [.int .u64 (f : Int), .slice Al it.length cl, .slice Aa it.length ca, .int .i64 (((it.map Prod.snd).sum : Nat) : Int)].toArray 93 (0, 0)) :: (b4, .cells [.int .u64 0, .slice none 0 0, .slice none 0 0, .int .i64 0].toArray 93 (0, 0)) :: ((lh ++ ah) ++ (((lb, .cells [.pointer (some ⟨rb, 0, none⟩), .int .i64 lim, .slice Ap np cpp].toArray 91 (0, 0)) :: hL') ++ (hp ++ H)))) (by (exact a_art))
     refine Fin.join () hfit ?_ rfl rfl
     (exact a_subs)
    | some a =>
     rw [hc] at hhas
     subst hhas
     have hpa := hpe1 a hc
     subst hpa
     obtain ⟨h2, h3⟩ := g2 _ hc
     have hb1 := hcb _ hc
     by_cases h0 : i = 0
     ·have h1 := g1 (by omega)
      (repeat' (first | refine a_mv ?_ | (apply R.step; (exact a_cmp); exact rfl) | (apply R.step; (apply Ok.addB; exact rfl; exact rfl; apply wu64; omega; omega); exact rfl) | (refine a_bl ?_; intro bl) | (refine a_go ?_; intros) | refine a_sp (fun h => ?_) fun h => ?_ | fail))
      all_goals (first | (exfalso; omega) | skip)
      apply Fin.arr (H2 := (b14, .cells [.int .i64 e.kind, .int .u64 e.term, .int .u64 e.idx, .slice Ade e.data.length cde, .int .i64 e.conf].toArray 33 (0, 0)) :: (b11, .cells [.int .i64 pe1.kind, .int .u64 pe1.term, .int .u64 pe1.idx, .slice Ap1 pe1.data.length cp1, .int .i64 pe1.conf].toArray 33 (0, 0)) :: (b6, .cells [.int .u64 (f : Int), .slice Al it.length cl, .slice Aa it.length ca, .int .i64 (((it.map Prod.snd).sum : Nat) : Int)].toArray 93 (0, 0)) :: (b4, .cells [.int .u64 0, .slice none 0 0, .slice none 0 0, .int .i64 0].toArray 93 (0, 0)) :: ((lh ++ ah) ++ (((lb, .cells [.pointer (some ⟨rb, 0, none⟩), .int .i64 lim, .slice Ap np cpp].toArray 91 (0, 0)) :: hL') ++ (hp ++ H)))) (by (exact a_art))
      refine Fin.join () hfit ?_ rfl rfl
      (exact a_subs)
     ·skip
      (repeat' (first | refine a_mv ?_ | (apply R.step; (exact a_cmp); exact rfl) | (apply R.step; (apply Ok.addB; exact rfl; exact rfl; apply wu64; omega; omega); exact rfl) | (refine a_bl ?_; intro bl) | (refine a_go ?_; intros) | refine a_sp (fun h => ?_) fun h => ?_ | fail))
      all_goals (first | (exfalso; omega) | skip)
      apply Fin.arr (H2 := (b14, .cells [.int .i64 e.kind, .int .u64 e.term, .int .u64 e.idx, .slice Ade e.data.length cde, .int .i64 e.conf].toArray 33 (0, 0)) :: (b11, .cells [.int .i64 pe1.kind, .int .u64 pe1.term, .int .u64 pe1.idx, .slice Ap1 pe1.data.length cp1, .int .i64 pe1.conf].toArray 33 (0, 0)) :: (b6, .cells [.int .u64 (f : Int), .slice Al it.length cl, .slice Aa it.length ca, .int .i64 (((it.map Prod.snd).sum : Nat) : Int)].toArray 93 (0, 0)) :: (b4, .cells [.int .u64 0, .slice none 0 0, .slice none 0 0, .int .i64 0].toArray 93 (0, 0)) :: ((lh ++ ah) ++ (((lb, .cells [.pointer (some ⟨rb, 0, none⟩), .int .i64 lim, .slice Ap np cpp].toArray 91 (0, 0)) :: hL') ++ (hp ++ H)))) (by (exact a_art))
      refine Fin.join () hfit ?_ rfl rfl
      (exact a_subs)
   ·have hnf := fun h => hfit (fitS_iff.2 h)
    cases hc : curE lo (it.map Prod.fst) with
    | none =>
     rw [hc] at hhas
     subst hhas
     have h0 : i = 0 := by
      apply Classical.byContradiction
      intro h
      obtain ⟨a, ha⟩ : ∃ a, (it.map Prod.fst).getLast? = some a := ⟨_, getLast_len (by omega)⟩
      unfold curE at hc
      rw [ha] at hc
      cases hc
     have h1 : e.idx ≠ (f : Int) := fun h => hnf ⟨fun _ => h, fun a ha => by rw [hc] at ha; cases ha⟩
     rw [goF_no hre hfit] at hgo
     rw [hgo] at hQ
     (repeat' (first | refine a_mv ?_ | (apply R.step; (exact a_cmp); exact rfl) | (apply R.step; (apply Ok.addB; exact rfl; exact rfl; apply wu64; omega; omega); exact rfl) | (refine a_bl ?_; intro bl) | (refine a_go ?_; intros) | refine a_sp (fun h => ?_) fun h => ?_ | fail))
     all_goals (first | (exfalso; omega) | skip)
     (apply Fin.returnM (H2 := (lh ++ ah) ++ (((lb, .cells [.pointer (some ⟨rb, 0, none⟩), .int .i64 lim, .slice Ap np cpp].toArray 91 (0, 0)) :: hL') ++ (hp ++ H))); assumption; exact .inl rfl; exact rfl; exact Marks.nil _; (exact a_res); (simp only [retv]; rfl); (exact a_art))
     exact ⟨⟨⟨f, it⟩, .slice Al it.length cl, .slice Aa it.length ca, lh, ah⟩, by unfold prC; dsimp only; rw [hsz]; rfl, ⟨hoP.mono hM5, hoT⟩, rfl, rfl, hent, hM3.trans_ (hM4.trans_ hM5), by simp only [List.append_assoc]⟩
    | some a =>
     rw [hc] at hhas
     subst hhas
     have hpa := hpe1 a hc
     subst hpa
     have hb1 := hcb _ hc
     rw [goF_no hre hfit] at hgo
     rw [hgo] at hQ
     by_cases h0 : i = 0
     ·by_cases h1 : e.idx = (f : Int)
      ·have hn2 : ¬ (e.idx = pe1.idx + 1 ∧ pe1.term ≤ e.term) := fun h => hnf ⟨fun _ => h1, fun a ha => by rw [hc] at ha; cases ha; exact h⟩
       by_cases h2 : e.idx = pe1.idx + 1
       ·have h3 : ¬ pe1.term ≤ e.term := fun h => hn2 ⟨h2, h⟩
        (repeat' (first | refine a_mv ?_ | (apply R.step; (exact a_cmp); exact rfl) | (apply R.step; (apply Ok.addB; exact rfl; exact rfl; apply wu64; omega; omega); exact rfl) | (refine a_bl ?_; intro bl) | (refine a_go ?_; intros) | refine a_sp (fun h => ?_) fun h => ?_ | fail))
        all_goals (first | (exfalso; omega) | skip)
        (apply Fin.returnM (H2 := (lh ++ ah) ++ (((lb, .cells [.pointer (some ⟨rb, 0, none⟩), .int .i64 lim, .slice Ap np cpp].toArray 91 (0, 0)) :: hL') ++ (hp ++ H))); assumption; exact .inl rfl; exact rfl; exact Marks.nil _; (exact a_res); (simp only [retv]; rfl); (exact a_art))
        exact ⟨⟨⟨f, it⟩, .slice Al it.length cl, .slice Aa it.length ca, lh, ah⟩, by unfold prC; dsimp only; rw [hsz]; rfl, ⟨hoP.mono hM5, hoT⟩, rfl, rfl, hent, hM3.trans_ (hM4.trans_ hM5), by simp only [List.append_assoc]⟩
       ·skip
        (repeat' (first | refine a_mv ?_ | (apply R.step; (exact a_cmp); exact rfl) | (apply R.step; (apply Ok.addB; exact rfl; exact rfl; apply wu64; omega; omega); exact rfl) | (refine a_bl ?_; intro bl) | (refine a_go ?_; intros) | refine a_sp (fun h => ?_) fun h => ?_ | fail))
        all_goals (first | (exfalso; omega) | skip)
        (apply Fin.returnM (H2 := (lh ++ ah) ++ (((lb, .cells [.pointer (some ⟨rb, 0, none⟩), .int .i64 lim, .slice Ap np cpp].toArray 91 (0, 0)) :: hL') ++ (hp ++ H))); assumption; exact .inl rfl; exact rfl; exact Marks.nil _; (exact a_res); (simp only [retv]; rfl); (exact a_art))
        exact ⟨⟨⟨f, it⟩, .slice Al it.length cl, .slice Aa it.length ca, lh, ah⟩, by unfold prC; dsimp only; rw [hsz]; rfl, ⟨hoP.mono hM5, hoT⟩, rfl, rfl, hent, hM3.trans_ (hM4.trans_ hM5), by simp only [List.append_assoc]⟩
      ·skip
       (repeat' (first | refine a_mv ?_ | (apply R.step; (exact a_cmp); exact rfl) | (apply R.step; (apply Ok.addB; exact rfl; exact rfl; apply wu64; omega; omega); exact rfl) | (refine a_bl ?_; intro bl) | (refine a_go ?_; intros) | refine a_sp (fun h => ?_) fun h => ?_ | fail))
       all_goals (first | (exfalso; omega) | skip)
       (apply Fin.returnM (H2 := (lh ++ ah) ++ (((lb, .cells [.pointer (some ⟨rb, 0, none⟩), .int .i64 lim, .slice Ap np cpp].toArray 91 (0, 0)) :: hL') ++ (hp ++ H))); assumption; exact .inl rfl; exact rfl; exact Marks.nil _; (exact a_res); (simp only [retv]; rfl); (exact a_art))
       exact ⟨⟨⟨f, it⟩, .slice Al it.length cl, .slice Aa it.length ca, lh, ah⟩, by unfold prC; dsimp only; rw [hsz]; rfl, ⟨hoP.mono hM5, hoT⟩, rfl, rfl, hent, hM3.trans_ (hM4.trans_ hM5), by simp only [List.append_assoc]⟩
     ·have hn2 : ¬ (e.idx = pe1.idx + 1 ∧ pe1.term ≤ e.term) := fun h => hnf ⟨fun h' => absurd h' (by omega), fun a ha => by rw [hc] at ha; cases ha; exact h⟩
      by_cases h2 : e.idx = pe1.idx + 1
      ·have h3 : ¬ pe1.term ≤ e.term := fun h => hn2 ⟨h2, h⟩
       (repeat' (first | refine a_mv ?_ | (apply R.step; (exact a_cmp); exact rfl) | (apply R.step; (apply Ok.addB; exact rfl; exact rfl; apply wu64; omega; omega); exact rfl) | (refine a_bl ?_; intro bl) | (refine a_go ?_; intros) | refine a_sp (fun h => ?_) fun h => ?_ | fail))
       all_goals (first | (exfalso; omega) | skip)
       (apply Fin.returnM (H2 := (lh ++ ah) ++ (((lb, .cells [.pointer (some ⟨rb, 0, none⟩), .int .i64 lim, .slice Ap np cpp].toArray 91 (0, 0)) :: hL') ++ (hp ++ H))); assumption; exact .inl rfl; exact rfl; exact Marks.nil _; (exact a_res); (simp only [retv]; rfl); (exact a_art))
       exact ⟨⟨⟨f, it⟩, .slice Al it.length cl, .slice Aa it.length ca, lh, ah⟩, by unfold prC; dsimp only; rw [hsz]; rfl, ⟨hoP.mono hM5, hoT⟩, rfl, rfl, hent, hM3.trans_ (hM4.trans_ hM5), by simp only [List.append_assoc]⟩
      ·skip
       (repeat' (first | refine a_mv ?_ | (apply R.step; (exact a_cmp); exact rfl) | (apply R.step; (apply Ok.addB; exact rfl; exact rfl; apply wu64; omega; omega); exact rfl) | (refine a_bl ?_; intro bl) | (refine a_go ?_; intros) | refine a_sp (fun h => ?_) fun h => ?_ | fail))
       all_goals (first | (exfalso; omega) | skip)
       (apply Fin.returnM (H2 := (lh ++ ah) ++ (((lb, .cells [.pointer (some ⟨rb, 0, none⟩), .int .i64 lim, .slice Ap np cpp].toArray 91 (0, 0)) :: hL') ++ (hp ++ H))); assumption; exact .inl rfl; exact rfl; exact Marks.nil _; (exact a_res); (simp only [retv]; rfl); (exact a_art))
       exact ⟨⟨⟨f, it⟩, .slice Al it.length cl, .slice Aa it.length ca, lh, ah⟩, by unfold prC; dsimp only; rw [hsz]; rfl, ⟨hoP.mono hM5, hoT⟩, rfl, rfl, hent, hM3.trans_ (hM4.trans_ hM5), by simp only [List.append_assoc]⟩
  rintro _ hfit
  rw [goF_some hre hfit] at hgo
  have hfr := frameS_len hr6
  have hoP' : OwnP M4 (.slice Al it.length cl) (it.map Prod.fst) lh := hoP
  have hoT' : OwnT 3 1 (.slice Aa it.length ca) it.length (endC (begA 0 (it.map Prod.snd))) ah := hoT
  obtain ⟨vsq, hot, hpv⟩ := id hoP'
  (repeat' (first | (refine a_bl ?_; intro bl) | (refine a_go ?_; intros) | refine a_sp (fun h => ?_) fun h => ?_ | fail))
  apply R.arr (H2 := (bl, .cells [.int .i64 e.kind, .int .u64 e.term, .int .u64 e.idx, .slice Ade e.data.length cde, .int .i64 e.conf].toArray 33 (0, 0)) :: (b14, .cells [.int .i64 e.kind, .int .u64 e.term, .int .u64 e.idx, .slice Ade e.data.length cde, .int .i64 e.conf].toArray 33 (0, 0)) :: (b11, .cells [.int .i64 pe1.kind, .int .u64 pe1.term, .int .u64 pe1.idx, .slice Ap1 pe1.data.length cp1, .int .i64 pe1.conf].toArray 33 (0, 0)) :: (b6, .cells [.int .u64 (f : Int), .slice Al it.length cl, .slice Aa it.length ca, .int .i64 (((it.map Prod.snd).sum : Nat) : Int)].toArray 93 (0, 0)) :: (b4, .cells [.int .u64 0, .slice none 0 0, .slice none 0 0, .int .i64 0].toArray 93 (0, 0)) :: (lh ++ (ah ++ (((lb, .cells [.pointer (some ⟨rb, 0, none⟩), .int .i64 lim, .slice Ap np cpp].toArray 91 (0, 0)) :: hL') ++ (hp ++ H))))) (by (exact a_art))
  (apply R.appendT (news := [.int .i64 e.kind, .int .u64 e.term, .int .u64 e.idx, .slice Ade e.data.length cde, .int .i64 e.conf]); exact rfl; exact rfl; exact hot; (exact a_tk); exact Rd.at_ (l := [.int .i64 e.kind, .int .u64 e.term, .int .u64 e.idx, .slice Ade e.data.length cde, .int .i64 e.conf]) (by (exact a_at)) (fun j u h => by rw [Nat.zero_add]; exact h); exact rfl; (intro u hu; simp only [List.mem_cons, List.not_mem_nil, or_false] at hu; rcases hu with rfl | rfl | rfl | rfl | rfl <;> rfl); (rw [hml]; omega); exact rfl; decide; decide; exact rfl; rintro lv2 lh2 how2)
  have hoP2 : OwnP M5 lv2 ((it ++ [(e, 8 + r.length)]).map Prod.fst) lh2 := by
   rw [List.map_append]
   exact OwnP.snocE how2 (hpv.mono hM5) hvd
  obtain ⟨Al2, cl2, rfl, _, _⟩ := how2.form
  (repeat' (first | (refine a_bl ?_; intro bl) | (refine a_go ?_; intros) | refine a_sp (fun h => ?_) fun h => ?_ | fail))
  (apply R.appendT (news := [.int .i64 (((it.map Prod.snd).sum : Nat) : Int)]) (k := 1); exact rfl; exact rfl; exact hoT'; (exact a_tk); exact Rd.at_ (l := [.int .i64 (((it.map Prod.snd).sum : Nat) : Int)]) (by (exact a_at)) (fun j u h => by rw [Nat.zero_add]; exact h); exact rfl; (intro u hu; rw [List.mem_singleton] at hu; subst hu; rfl); omega; exact rfl; decide; decide; exact rfl; rintro av2 ah2 hot2)
  have hoT2 : OwnT 3 1 av2 (it ++ [(e, 8 + r.length)]).length (endC (begA 0 ((it ++ [(e, 8 + r.length)]).map Prod.snd))) ah2 := by
   have e1 : endC (begA 0 ((it ++ [(e, 8 + r.length)]).map Prod.snd)) = endC (begA 0 (it.map Prod.snd)) ++ [.int .i64 (((it.map Prod.snd).sum : Nat) : Int)] := by
    rw [List.map_append]
    show endC (begA 0 (it.map Prod.snd ++ [8 + r.length])) = _
    rw [begA_snoc, Nat.zero_add]
    unfold endC
    rw [List.map_append]
    rfl
   rw [e1, List.length_append]
   exact hot2
  obtain ⟨Aa2, ca2, rfl, _, _⟩ := hot2.form
  have hs1 : (((it.map Prod.snd).sum : Nat) : Int) + 8 = (((it.map Prod.snd).sum + 8 : Nat) : Int) := rfl
  have hs2 : (((it.map Prod.snd).sum + 8 : Nat) : Int) + (r.length : Int) = ((((it ++ [(e, 8 + r.length)]).map Prod.snd).sum : Nat) : Int) := by
   rw [List.map_append, List.sum_append]
   simp
   omega
  have hS2 : ((it ++ [(e, 8 + r.length)]).map Prod.snd).sum = (it.map Prod.snd).sum + (8 + r.length) := by
   rw [List.map_append, List.sum_append]
   simp
  (repeat' (first | (refine a_bl ?_; intro bl) | (refine a_go ?_; intros) | refine a_sp (fun h => ?_) fun h => ?_ | fail))
  (apply C.regionS (A := [0, 1, 2, 3, 4, 5, 6, 7, 8]) (t := .free 0 (.free 1 (.free 2 (.free 3 (.free 4 (.free 5 (.free 6 (.free 7 (.free 8 .nil))))))))) (u := .free 9 (.one 10 .nil)) (Hs := [(b6, .cells [.int .u64 ↑f, .slice Al2 ((it.map Prod.fst).length + 1) cl2, .slice Aa2 (it.length + 1) ca2, .int .i64 ↑((it.map Prod.snd).sum)].toArray 93 (0, 0))]); exact Mix.h; (first | exact Arr.all _ | (exact a_arr) | (exact a_arrs)); (exact a_np); kernel_rfl)
  (repeat' (first | (apply RS.step; exact rfl; intro _ _ _; (apply Ok.move; exact rfl); exact rfl) | (apply RS.step; exact rfl; intro _ _ hMx; (first | (apply Ok.addQ (((it.map Prod.snd).sum + 8 : Nat) : Int); exact rfl; exact rfl; exact hs1; apply w64; omega; omega) | (apply Ok.addQ ((((it ++ [(e, 8 + r.length)]).map Prod.snd).sum : Nat) : Int); exact rfl; exact rfl; exact hs2; apply w64; omega; omega) | (apply Ok.indexAddr; exact rfl; exact rfl; omega; omega) | (apply Ok.loadP; exact rfl; exact rfl; exact hMx.2.2 _ _ (hM5.2.2 _ _ hMb2'); exact hcell2')); exact rfl) | refine a_os ?_ | fail))
  refine RS.later (Hs2 := []) (Hx2 := (b6, .cells [.int .u64 (f : Int), .slice Al2 ((it.map Prod.fst).length + 1) cl2, .slice Aa2 (it.length + 1) ca2, .int .i64 (((it.map Prod.snd).sum : Nat) : Int)].toArray 93 (0, 0)) :: (b14, .cells [.int .i64 e.kind, .int .u64 e.term, .int .u64 e.idx, .slice Ade e.data.length cde, .int .i64 e.conf].toArray 33 (0, 0)) :: (b11, .cells [.int .i64 pe1.kind, .int .u64 pe1.term, .int .u64 pe1.idx, .slice Ap1 pe1.data.length cp1, .int .i64 pe1.conf].toArray 33 (0, 0)) :: (b4, .cells [.int .u64 0, .slice none 0 0, .slice none 0 0, .int .i64 0].toArray 93 (0, 0)) :: (lh2 ++ (ah2 ++ (((lb, .cells [.pointer (some ⟨rb, 0, none⟩), .int .i64 lim, .slice Ap np cpp].toArray 91 (0, 0)) :: hL') ++ (hp ++ H))))) (by (exact a_art)) ?_
  (repeat' (first | refine a_ot ?_ | fail))
  (apply RT.one; apply OneT.eff; exact rfl; intro Kc hKc ops0)
  (repeat' (first | (refine a_bl ?_; intro bl) | (refine a_go ?_; intros) | refine a_sp (fun h => ?_) fun h => ?_ | fail))
  ((first | apply R.nil | skip); apply Fin.kt hKc; exact Mem.le_refl _; (exact a_arrs))
  apply RT.nil
  (repeat' (first | (refine a_bl ?_; intro bl) | (refine a_go ?_; intros) | refine a_sp (fun h => ?_) fun h => ?_ | fail))
  (apply Fin.arr (H2 := (b11, .cells [.int .i64 e.kind, .int .u64 e.term, .int .u64 e.idx, .slice Ade e.data.length cde, .int .i64 e.conf].toArray 33 (0, 0)) :: (b6, .cells [.int .u64 (f : Int), .slice Al2 ((it.map Prod.fst).length + 1) cl2, .slice Aa2 (it.length + 1) ca2, .int .i64 ((((it ++ [(e, 8 + r.length)]).map Prod.snd).sum : Nat) : Int)].toArray 93 (0, 0)) :: (b4, .cells [.int .u64 0, .slice none 0 0, .slice none 0 0, .int .i64 0].toArray 93 (0, 0)) :: ((lh2 ++ ah2) ++ (((lb, .cells [.pointer (some ⟨rb, 0, none⟩), .int .i64 lim, .slice Ap np cpp].toArray 91 (0, 0)) :: hL') ++ (hp ++ H)))); (exact a_art))
  have hM45 := hM4.trans_ hM5
  refine Fin.again (⟨i + 1, ii + 1, it ++ [(e, 8 + r.length)], .slice Al2 ((it.map Prod.fst).length + 1) cl2, .slice Aa2 (it.length + 1) ca2, lh2, ah2, true, e, .slice Ade e.data.length cde, M5⟩ : RrX) ⟨by dsimp only; omega, by dsimp only; rw [List.length_append, hil]; rfl, by dsimp only; omega, hM45, ⟨hoP2, hoT2⟩, ?_, hvd, ?_, ?_, hgo, ?_⟩ (by dsimp only; omega) ?_ rfl rfl
  ·intro x hx
   change x ∈ (it ++ [(e, 8 + r.length)]).map Prod.fst at hx
   rw [List.map_append, List.mem_append] at hx
   rcases hx with hx | hx
   ·exact hent x hx
   ·rw [List.map_singleton, List.mem_singleton] at hx
    rw [hx]
    exact hE
  ·dsimp only
   rw [List.map_append, List.map_singleton, curE_snoc]
   rfl
  ·intro a ha
   dsimp only at ha ⊢
   rw [List.map_append, List.map_singleton, curE_snoc] at ha
   exact Option.some.inj ha
  ·dsimp only
   omega
  ·(exact a_subs)
 ·have hie : fs.drop i = [] := List.drop_eq_nil_of_le (by omega)
  rw [hie] at hgo
  have hgo' : goF lo f fs [] = (it, true) := hgo
  rw [hgo'] at hQ
  dsimp only at hQ
  (repeat' (first | refine a_mv ?_ | (apply R.step; (first | (apply Ok.ltF; exact rfl; exact rfl; omega)); exact rfl) | (refine a_bl ?_; intro bl) | (refine a_go ?_; intros) | refine a_sp (fun h => ?_) fun h => ?_ | fail))
  apply C.arr (H2 := (b6, .cells [.int .u64 (f : Int), .slice Al it.length cl, .slice Aa it.length ca, .int .i64 (((it.map Prod.snd).sum : Nat) : Int)].toArray 93 (0, 0)) :: (b4, .cells [.int .u64 0, .slice none 0 0, .slice none 0 0, .int .i64 0].toArray 93 (0, 0)) :: ((lh ++ ah) ++ (((lb, .cells [.pointer (some ⟨rb, 0, none⟩), .int .i64 lim, .slice Ap np cpp].toArray 91 (0, 0)) :: hL') ++ (hp ++ H)))) (by (exact a_art))
  by_cases h2 : 0 < it.length
  ·by_cases h1 : (it.map Prod.snd).sum = b.length
   ·(apply C.regionT (t := .free 0 (.free 1 (.free 2 (.free 3 (.free 4 (.free 5 (.free 6 (.free 7 (.free 8 (.free 9 (.free 10 (.free 11 (.one 12 (.free 13 .nil)))))))))))))) (Hs := [(b6, .cells [.int .u64 ↑f, .slice Al it.length cl, .slice Aa it.length ca, .int .i64 ↑((it.map Prod.snd).sum)].toArray 93 (0, 0))]); exact Mix.h; (first | exact Arr.all _ | (exact a_arr) | (exact a_arrs)); (exact a_np); kernel_rfl)
    (repeat' (first | (apply RT.step; exact rfl; intro _ _ _; (apply Ok.move; exact rfl); exact rfl) | (apply RT.step; exact rfl; intro _ _ _; (apply Ok.gtTr; exact rfl; exact rfl; omega); exact rfl) | (apply RT.stepT; exact rfl; exact rfl; exact rfl; exact rfl; intro _ _ _; (apply Ok.eqIR; exact rfl; exact rfl; omega); exact rfl) | refine a_ot ?_ | fail))
    (apply RT.one; apply OneT.eff; exact rfl; intro Kc hKc ops0)
    (repeat' (first | (refine a_bl ?_; intro bl) | (refine a_go ?_; intros) | refine a_sp (fun h => ?_) fun h => ?_ | fail))
    (apply Fin.kt (Hx := (b4, .cells [.int .u64 (f : Int), .slice Al it.length cl, .slice Aa it.length ca, .int .i64 (((it.map Prod.snd).sum : Nat) : Int)].toArray 93 (0, 0)) :: ((lh ++ ah) ++ (((lb, .cells [.pointer (some ⟨rb, 0, none⟩), .int .i64 lim, .slice Ap np cpp].toArray 91 (0, 0)) :: hL') ++ (hp ++ H)))) hKc; exact Mem.le_refl _; (exact a_art))
    (repeat' (first | refine a_ot ?_ | fail))
    apply RT.nil
    (repeat' (first | (refine a_bl ?_; intro bl) | (refine a_go ?_; intros) | refine a_sp (fun h => ?_) fun h => ?_ | fail))
    (apply Fin.returnM (H2 := (lh ++ ah) ++ (((lb, .cells [.pointer (some ⟨rb, 0, none⟩), .int .i64 lim, .slice Ap np cpp].toArray 91 (0, 0)) :: hL') ++ (hp ++ H))); assumption; exact .inl rfl; exact rfl; exact Marks.nil _; (exact a_res); (simp only [retv]; rfl); (exact a_art))
    exact ⟨⟨⟨f, it⟩, .slice Al it.length cl, .slice Aa it.length ca, lh, ah⟩, by unfold prC; dsimp only; rw [hsz, show (true && decide ((it.map Prod.snd).sum = b.length ∧ 0 < it.length)) = true from by rw [decide_eq_true ⟨h1, h2⟩]; rfl], ⟨hoP, hoT⟩, rfl, rfl, hent, hM3.trans_ hM4, by simp only [List.append_assoc]⟩
   ·(apply C.regionT (t := .free 0 (.free 1 (.free 2 (.free 3 (.free 4 (.free 5 (.free 6 (.free 7 (.free 8 (.free 9 (.free 10 (.free 11 (.one 12 (.free 13 .nil)))))))))))))) (Hs := [(b6, .cells [.int .u64 ↑f, .slice Al it.length cl, .slice Aa it.length ca, .int .i64 ↑((it.map Prod.snd).sum)].toArray 93 (0, 0))]); exact Mix.h; (first | exact Arr.all _ | (exact a_arr) | (exact a_arrs)); (exact a_np); kernel_rfl)
    (repeat' (first | (apply RT.step; exact rfl; intro _ _ _; (apply Ok.move; exact rfl); exact rfl) | (apply RT.step; exact rfl; intro _ _ _; (apply Ok.gtTr; exact rfl; exact rfl; omega); exact rfl) | (apply RT.stepT; exact rfl; exact rfl; exact rfl; exact rfl; intro _ _ _; (apply Ok.eqIF; exact rfl; exact rfl; omega); exact rfl) | refine a_ot ?_ | fail))
    (apply RT.one; apply OneT.eff; exact rfl; intro Kc hKc ops0)
    (repeat' (first | (refine a_bl ?_; intro bl) | (refine a_go ?_; intros) | refine a_sp (fun h => ?_) fun h => ?_ | fail))
    (apply Fin.kt (Hx := (b4, .cells [.int .u64 (f : Int), .slice Al it.length cl, .slice Aa it.length ca, .int .i64 (((it.map Prod.snd).sum : Nat) : Int)].toArray 93 (0, 0)) :: ((lh ++ ah) ++ (((lb, .cells [.pointer (some ⟨rb, 0, none⟩), .int .i64 lim, .slice Ap np cpp].toArray 91 (0, 0)) :: hL') ++ (hp ++ H)))) hKc; exact Mem.le_refl _; (exact a_art))
    (repeat' (first | refine a_ot ?_ | fail))
    apply RT.nil
    (repeat' (first | (refine a_bl ?_; intro bl) | (refine a_go ?_; intros) | refine a_sp (fun h => ?_) fun h => ?_ | fail))
    (apply Fin.returnM (H2 := (lh ++ ah) ++ (((lb, .cells [.pointer (some ⟨rb, 0, none⟩), .int .i64 lim, .slice Ap np cpp].toArray 91 (0, 0)) :: hL') ++ (hp ++ H))); assumption; exact .inl rfl; exact rfl; exact Marks.nil _; (exact a_res); (simp only [retv]; rfl); (exact a_art))
    exact ⟨⟨⟨f, it⟩, .slice Al it.length cl, .slice Aa it.length ca, lh, ah⟩, by unfold prC; dsimp only; rw [hsz, show (true && decide ((it.map Prod.snd).sum = b.length ∧ 0 < it.length)) = false from by rw [decide_eq_false (fun h => h1 h.1)]; rfl], ⟨hoP, hoT⟩, rfl, rfl, hent, hM3.trans_ hM4, by simp only [List.append_assoc]⟩
  ·(apply C.regionT (t := .free 0 (.free 1 (.free 2 (.free 3 (.free 4 (.free 5 (.free 6 (.free 7 (.free 8 (.free 9 (.free 10 (.free 11 (.one 12 (.free 13 .nil)))))))))))))) (Hs := [(b6, .cells [.int .u64 ↑f, .slice Al it.length cl, .slice Aa it.length ca, .int .i64 ↑((it.map Prod.snd).sum)].toArray 93 (0, 0))]); exact Mix.h; (first | exact Arr.all _ | (exact a_arr) | (exact a_arrs)); (exact a_np); kernel_rfl)
   (repeat' (first | (apply RT.step; exact rfl; intro _ _ _; (apply Ok.move; exact rfl); exact rfl) | (apply RT.step; exact rfl; intro _ _ _; (apply Ok.gtF; exact rfl; exact rfl; omega); exact rfl) | refine a_ot ?_ | fail))
   (apply RT.one; apply OneT.eff; exact rfl; intro Kc hKc ops0)
   (repeat' (first | (refine a_bl ?_; intro bl) | (refine a_go ?_; intros) | refine a_sp (fun h => ?_) fun h => ?_ | fail))
   (apply Fin.kt (Hx := (b4, .cells [.int .u64 (f : Int), .slice Al it.length cl, .slice Aa it.length ca, .int .i64 (((it.map Prod.snd).sum : Nat) : Int)].toArray 93 (0, 0)) :: ((lh ++ ah) ++ (((lb, .cells [.pointer (some ⟨rb, 0, none⟩), .int .i64 lim, .slice Ap np cpp].toArray 91 (0, 0)) :: hL') ++ (hp ++ H)))) hKc; exact Mem.le_refl _; (exact a_art))
   (repeat' (first | refine a_ot ?_ | fail))
   apply RT.nil
   (repeat' (first | (refine a_bl ?_; intro bl) | (refine a_go ?_; intros) | refine a_sp (fun h => ?_) fun h => ?_ | fail))
   (apply Fin.returnM (H2 := (lh ++ ah) ++ (((lb, .cells [.pointer (some ⟨rb, 0, none⟩), .int .i64 lim, .slice Ap np cpp].toArray 91 (0, 0)) :: hL') ++ (hp ++ H))); assumption; exact .inl rfl; exact rfl; exact Marks.nil _; (exact a_res); (simp only [retv]; rfl); (exact a_art))
   exact ⟨⟨⟨f, it⟩, .slice Al it.length cl, .slice Aa it.length ca, lh, ah⟩, by unfold prC; dsimp only; rw [hsz, show (true && decide ((it.map Prod.snd).sum = b.length ∧ 0 < it.length)) = false from by rw [decide_eq_false (fun h => h2 h.2)]; rfl], ⟨hoP, hoT⟩, rfl, rfl, hent, hM3.trans_ hM4, by simp only [List.append_assoc]⟩
end Go.Sx
end
section
namespace Go.Sx
open Go Go.Proofs Go.RowKit
attribute [local irreducible] C R Fin K Own OwnT Rd Pl Ok KOf RetOk OpsOf RP KP Res NoPanic KV KE RT KT OneT RS KS OneS PlB
variable {M M' : Mem} {H H1 H2 : Hp}
theorem wu8_ {x : Int} (h0 : 0 ≤ x) (h1 : x ≤ 255) : IntKind.u8.wrap x = x := by
 have := wu8 (UInt8.ofNat x.toNat)
 rw [UInt8.toNat_ofNat', show ((x.toNat % 2 ^ 8 : Nat) : Int) = x by omega] at this
 exact this
theorem rnumber9_K {t : Txt} : K Tryz.prog 40 [str t] M H fun v' M' H' => ∃ n : Nat, v' = .tuple #[.int .u64 (n : Int), .bool (numO t).isSome] ∧ (∀ m, numO t = some m → n = m) ∧ M' = M ∧ H' = H := by
 refine K.enterK Tryz.func40 rfl rfl rfl ?_
 intro Q hNP hQ
 by_cases h16 : t.length = 16
 rotate_left
 ·have e : numO t = none := if_neg h16
  rw [e] at hQ
  (repeat' (first | refine a_mv ?_ | (apply R.step; (first | (apply Ok.lenT; exact rfl) | (apply Ok.neIT; exact rfl; exact rfl; omega)); exact rfl) | (refine a_go ?_; intros) | refine a_sp (fun h => ?_) fun h => ?_ | fail))
  (refine Fin.rA (H) ?_)
  exact ⟨0, rfl, (fun m h => by cases h), rfl, rfl⟩
 have hE : numO t = match valS (t.drop 1) 0 with
  | some n => if nameS n = t then some n else none
  | none => none := if_pos h16
 have h0t : (0 : Int).toNat < t.length := by rw [h16]; decide
 obtain ⟨c0, hc0⟩ : ∃ c, c = t[0] := ⟨_, rfl⟩
 have hc0' : ∀ h, t[(0 : Int).toNat]'h = c0 := fun h => hc0.symm
 have hcons0 : t = c0 :: t.drop 1 := by
  have := List.drop_eq_getElem_cons (show 0 < t.length by omega)
  rw [List.drop_zero] at this
  rw [hc0]
  exact this
 by_cases hs : c0 = 115
 rotate_left
 have hs' : (c0.toNat : Int) ≠ 115 := by
  intro h
  apply hs
  apply UInt8.toNat_inj.1
  show c0.toNat = 115
  omega
 ·have e : numO t = none := by
   cases hn : numO t with
   | none => rfl
   | some n =>
    obtain ⟨h1, h2⟩ := numO_some hn
    rw [nameS_ok h2, hcons0] at h1
    injection h1 with h1 _
    exact absurd h1.symm hs
  rw [e] at hQ
  (repeat' (first | refine a_mv ?_ | (apply R.step; (first | (apply Ok.lenT; exact rfl) | (apply Ok.neIR; exact rfl; exact rfl; omega) | exact Ok.indexT (a := t) rfl rfl (by decide) h0t | (apply Ok.neIT; exact rfl; exact rfl; rw [hc0']; exact hs')); exact rfl) | (refine a_go ?_; intros) | refine a_sp (fun h => ?_) fun h => ?_ | fail))
  (refine Fin.rA (H) ?_)
  exact ⟨0, rfl, (fun m h => by cases h), rfl, rfl⟩
 (repeat' (first | refine a_mv ?_ | (apply R.step; (first | (apply Ok.lenT; exact rfl) | (apply Ok.neIR; exact rfl; exact rfl; omega) | exact Ok.indexT (a := t) rfl rfl (by decide) h0t | (apply Ok.neIR; exact rfl; exact rfl; rw [hc0', hs]; rfl)); exact rfl) | (refine a_go ?_; intros) | refine a_sp (fun h => ?_) fun h => ?_ | fail))
 apply C.loop (fun y : NuX => 1 ≤ y.i ∧ y.i ≤ 16 ∧ y.n < 16 ^ (y.i - 1) ∧ valS (t.drop 1) 0 = valS (t.drop y.i) y.n)
  (fun y => [(0, str t), (4, .int .u64 (y.n : Int)), (5, .int .i64 (y.i : Int))]) (fun _ => M) (fun _ => H) (fun y => 16 - y.i) ⟨1, 0⟩
 ·exact ⟨Nat.le_refl _, by decide, by decide, rfl⟩
 ·(exact a_subs)
 ·exact rfl
 ·exact rfl
 rintro ⟨i, n⟩ ⟨hi1, hi2, hn, hv⟩
 dsimp only at hi1 hi2 hn hv ⊢
 by_cases hlt : i < 16
 ·(repeat' (first | refine a_mv ?_ | (apply R.step; (apply Ok.ltTr; exact rfl; exact rfl; omega); exact rfl) | (refine a_go ?_; intros) | refine a_sp (fun h => ?_) fun h => ?_ | fail))
  have hit : i < t.length := by omega
  have hit' : (i : Int).toNat < t.length := hit
  obtain ⟨c, hc⟩ : ∃ c, c = t[i] := ⟨_, rfl⟩
  have hci : ∀ h, t[(i : Int).toNat]'h = c := fun h => hc.symm
  have hn2 : n < 16 ^ 14 := Nat.lt_of_lt_of_le hn (Nat.pow_le_pow_right (by decide) (by omega))
  have hn3 : (16 : Nat) ^ 14 = 72057594037927936 := by decide
  rw [hn3] at hn2
  have hpw : (16 : Nat) ^ (i + 1 - 1) = 16 ^ (i - 1) * 16 := by rw [← Nat.pow_succ]; congr 1; omega
  have hcons : t.drop i = c :: t.drop (i + 1) := by rw [List.drop_eq_getElem_cons hit, hc]
  rw [hcons] at hv
  have hcl := c.toNat_lt
  by_cases h1 : 48 ≤ c.toNat ∧ c.toNat ≤ 57
  ·have hd : dv c = some (c.toNat - 48) := if_pos h1
   rw [valS_some hd] at hv
   have e1 : (c.toNat : Int) - 48 = ((c.toNat - 48 : Nat) : Int) := by omega
   have e2 : 16 * (n : Int) = ((16 * n : Nat) : Int) := by omega
   have e3 : ((16 * n : Nat) : Int) + ((c.toNat - 48 : Nat) : Int) = ((16 * n + (c.toNat - 48) : Nat) : Int) := by omega
   have e4 : IntKind.u64.wrap (16 * (n : Int)) = 16 * (n : Int) := by apply wu64; omega; omega
   (repeat' (first | refine a_mv ?_ | (apply R.step; (first | exact Ok.indexT (a := t) rfl rfl (Int.natCast_nonneg _) hit' | (apply Ok.geTr; exact rfl; exact rfl; rw [hci]; omega) | (apply Ok.leTr; exact rfl; exact rfl; rw [hci]; omega) | (apply Ok.mulB; exact rfl; exact rfl; exact e4) | (apply Ok.subQ ((c.toNat - 48 : Nat) : Int); exact rfl; exact rfl; rw [hci]; exact e1; apply wu8_; omega; omega) | (apply Ok.convB; exact rfl; apply wu64; omega; omega) | (apply Ok.addQ ((16 * n + (c.toNat - 48) : Nat) : Int); exact rfl; exact rfl; rw [e2]; exact e3; apply wu64; omega; omega)); exact rfl) | (refine a_go ?_; intros) | refine a_sp (fun h => ?_) fun h => ?_ | fail))
   refine Fin.again (⟨i + 1, 16 * n + (c.toNat - 48)⟩ : NuX) ⟨by dsimp only; omega, by dsimp only; omega, ?_, hv⟩ (by dsimp only; omega) ?_ rfl rfl
   ·dsimp only
    rw [hpw]
    omega
   ·(exact a_subs)
  ·have hge : 48 ≤ c.toNat → ¬ c.toNat ≤ 57 := fun h h' => h1 ⟨h, h'⟩
   by_cases h2 : 97 ≤ c.toNat ∧ c.toNat ≤ 102
   ·have hd : dv c = some (c.toNat - 87) := by
     unfold dv
     rw [if_neg h1, if_pos h2]
    rw [valS_some hd] at hv
    have e1 : (c.toNat : Int) - 97 = ((c.toNat - 97 : Nat) : Int) := by omega
    have e2 : 16 * (n : Int) = ((16 * n : Nat) : Int) := by omega
    have e3 : ((16 * n : Nat) : Int) + ((c.toNat - 97 : Nat) : Int) = ((16 * n + (c.toNat - 97) : Nat) : Int) := by omega
    have e5 : ((16 * n + (c.toNat - 97) : Nat) : Int) + 10 = ((16 * n + (c.toNat - 87) : Nat) : Int) := by omega
    have e4 : IntKind.u64.wrap (16 * (n : Int)) = 16 * (n : Int) := by apply wu64; omega; omega
    (repeat' (first | refine a_mv ?_ | (apply R.step; (first | exact Ok.indexT (a := t) rfl rfl (Int.natCast_nonneg _) hit' | (apply Ok.geTr; exact rfl; exact rfl; rw [hci]; omega) | (apply Ok.leTr; exact rfl; exact rfl; rw [hci]; omega) | (apply Ok.leF; exact rfl; exact rfl; rw [hci]; omega) | (apply Ok.mulB; exact rfl; exact rfl; exact e4) | (apply Ok.subQ ((c.toNat - 97 : Nat) : Int); exact rfl; exact rfl; rw [hci]; exact e1; apply wu8_; omega; omega) | (apply Ok.convB; exact rfl; apply wu64; omega; omega) | (apply Ok.addQ ((16 * n + (c.toNat - 97) : Nat) : Int); exact rfl; exact rfl; rw [e2]; exact e3; apply wu64; omega; omega) | (apply Ok.addQ ((16 * n + (c.toNat - 87) : Nat) : Int); exact rfl; exact rfl; exact e5; apply wu64; omega; omega)); exact rfl) | (refine a_go ?_; intros) | refine a_sp (fun h => ?_) fun h => ?_ | fail))
    refine Fin.again (⟨i + 1, 16 * n + (c.toNat - 87)⟩ : NuX) ⟨by dsimp only; omega, by dsimp only; omega, ?_, hv⟩ (by dsimp only; omega) ?_ rfl rfl
    ·dsimp only
     rw [hpw]
     omega
    ·(exact a_subs)
   ·have hd : dv c = none := by
     unfold dv
     rw [if_neg h1, if_neg h2]
    rw [valS_none hd] at hv
    have e : numO t = none := by rw [hE, hv]
    rw [e] at hQ
    have h97 : 97 ≤ c.toNat → ¬ c.toNat ≤ 102 := fun h h' => h2 ⟨h, h'⟩
    by_cases g1 : 48 ≤ c.toNat
    ·have g2 := hge g1
     by_cases g3 : 97 ≤ c.toNat
     ·have g4 := h97 g3
      (repeat' (first | refine a_mv ?_ | (apply R.step; (first | exact Ok.indexT (a := t) rfl rfl (Int.natCast_nonneg _) hit' | (apply Ok.geTr; exact rfl; exact rfl; rw [hci]; omega) | (apply Ok.leF; exact rfl; exact rfl; rw [hci]; omega)); exact rfl) | (refine a_go ?_; intros) | refine a_sp (fun h => ?_) fun h => ?_ | fail))
      (refine Fin.rA (H) ?_)
      exact ⟨0, rfl, (fun m h => by cases h), rfl, rfl⟩
     ·(repeat' (first | refine a_mv ?_ | (apply R.step; (first | exact Ok.indexT (a := t) rfl rfl (Int.natCast_nonneg _) hit' | (apply Ok.geTr; exact rfl; exact rfl; rw [hci]; omega) | (apply Ok.geF; exact rfl; exact rfl; rw [hci]; omega) | (apply Ok.leF; exact rfl; exact rfl; rw [hci]; omega)); exact rfl) | (refine a_go ?_; intros) | refine a_sp (fun h => ?_) fun h => ?_ | fail))
      (refine Fin.rA (H) ?_)
      exact ⟨0, rfl, (fun m h => by cases h), rfl, rfl⟩
    ·(repeat' (first | refine a_mv ?_ | (apply R.step; (first | exact Ok.indexT (a := t) rfl rfl (Int.natCast_nonneg _) hit' | (apply Ok.geF; exact rfl; exact rfl; rw [hci]; omega)); exact rfl) | (refine a_go ?_; intros) | refine a_sp (fun h => ?_) fun h => ?_ | fail))
     (refine Fin.rA (H) ?_)
     exact ⟨0, rfl, (fun m h => by cases h), rfl, rfl⟩
 ·have h16' : i = 16 := by omega
  subst h16'
  have hdr : t.drop 16 = [] := List.drop_eq_nil_of_le (by omega)
  rw [hdr] at hv
  have hE2 : numO t = if nameS n = t then some n else none := by rw [hE, hv]; rfl
  have hn3 : (16 : Nat) ^ 15 = 1152921504606846976 := by decide
  have hn4 : n < 16 ^ 15 := hn
  rw [hn3] at hn4
  have hvx := valS_hex _ _ _ hv
  have hdl : (t.drop 1).length = 15 := by rw [List.length_drop]; omega
  rw [hdl] at hvx
  by_cases hle : n ≤ 72057594037927935
  ·have hnt : nameS n = t := by rw [nameS_ok hle, hvx.2, ← hs]; exact hcons0.symm
   rw [if_pos hnt] at hE2
   rw [hE2] at hQ
   (repeat' (first | refine a_mv ?_ | (apply R.step; (first | (apply Ok.ltF; exact rfl; exact rfl; omega) | (apply Ok.leTr; exact rfl; exact rfl; omega)); exact rfl) | (refine a_go ?_; intros) | refine a_sp (fun h => ?_) fun h => ?_ | fail))
   (refine Fin.rA (H) ?_)
   exact ⟨n, rfl, (fun m h => Option.some.inj h), rfl, rfl⟩
  ·have hnt : nameS n ≠ t := by
    have : nameS n = [] := if_pos (by omega)
    rw [this]
    intro h
    rw [← h] at h16
    cases h16
   rw [if_neg hnt] at hE2
   rw [hE2] at hQ
   (repeat' (first | refine a_mv ?_ | (apply R.step; (first | (apply Ok.ltF; exact rfl; exact rfl; omega) | (apply Ok.leF; exact rfl; exact rfl; omega)); exact rfl) | (refine a_go ?_; intros) | refine a_sp (fun h => ?_) fun h => ?_ | fail))
   (refine Fin.rA (H) ?_)
   exact ⟨n, rfl, (fun m h => by cases h), rfl, rfl⟩
end Go.Sx
end
section
namespace Go.Sx
open Go Go.Proofs Go.RowKit
attribute [local irreducible] C R Fin K Own OwnT Rd Pl Ok KOf RetOk OpsOf RP KP Res NoPanic KV KE MapS ItS EntS FsO FsR RowD PlD DkO PlFs RT KT OneT RdO
variable {M M' : Mem} {H H1 H2 : Hp}
theorem rtruncate_K {rb : Nat} {d : Dk} {hp : Hp} {n : Txt} {k : Int} (ho : RdO M rb d hp) (hl : d.now.length ≤ 1000000) (hlen : d.ps.length ≤ 1000000) : K Tryz.prog 44 [.pointer (some ⟨rb, 0, none⟩), str n, .int .i64 k] M (hp ++ H) fun v' M' H' => v' = .int .i64 (trcE d n k) ∧ M.le M' ∧ ∃ hp', RdO M' rb (opD (trcE d n k) d (.trc n k.toNat)) hp' ∧ H' = hp' ++ H := by
 refine K.enterK Tryz.func44 rfl rfl rfl ?_
 intro Q hNP hQ
 have hnn := ho.nodup
 have hok := ho.isok
 (repeat' (first | (refine a_go ?_; intros) | refine a_sp (fun h => ?_) fun h => ?_ | fail))
 (apply R.call; (exact a_evs); exact rfl; exact rcounts_KD ho; rintro _ M _ ⟨rfl, rfl, hp1, ho1, rfl, hdn⟩)
 by_cases hs : stopD d
 ·have hE : trcE d n k = 3 := if_pos hs
  rw [hE, opD_no (by decide)] at hQ
  rw [if_pos hs]
  (repeat' (first | (refine a_go ?_; intros) | refine a_sp (fun h => ?_) fun h => ?_ | fail))
  (refine Fin.rA (hp1 ++ H) ?_)
  exact ⟨rfl, Mem.le_refl _, hp1, ho1, rfl⟩
 rw [if_neg hs]
 have hc := ho1
 unfold RdO at hc
 obtain ⟨⟨F, G, sv, nv, wv, fused, fuse⟩, hi, rfl⟩ := hc
 have hnG := hi.nG
 have hln := hi.len
 have hnow := cntD_now d
 rw [hnow] at hln
 dsimp only at hnG hln ⊢
 unfold rdkB
 (repeat' (first | (refine a_go ?_; intros) | refine a_sp (fun h => ?_) fun h => ?_ | fail))
 (apply R.call; (exact a_evs); exact rfl; exact rfind_K hnG (by omega); rintro _ M _ ⟨rfl, rfl, rfl⟩)
 have hfd := getS_find hi n
 rw [hnow] at hfd
 dsimp only at hfd
 rcases hfd with ⟨h1, h2⟩ | ⟨h1, j, b, h2, h3, h4⟩
 ·have hE : trcE d n k = 4 := (if_neg hs).trans (if_pos h2)
  rw [hE, opD_no (by decide)] at hQ
  (repeat' (first | refine a_mv ?_ | (apply R.step; (exact a_cmp); exact rfl) | (refine a_go ?_; intros) | refine a_sp (fun h => ?_) fun h => ?_ | fail))
  (refine Fin.rA ([(rb, rdkB (cntD d).room sv nv wv fused fuse (cntD d).down)] ++ H) ?_)
  exact ⟨rfl, Mem.le_refl _, _, ho1, rfl⟩
 ·obtain ⟨A', cap', bb, o, cc, e, fr, Af, cf, rfl, rfl, hMb, g1, g2, g3, g4, g5⟩ := hnG.get h3
  rw [show o + j * 2 = o + (j : Int).toNat * 2 by omega] at g2
  have hjl : j < G.length := (List.getElem?_eq_some_iff.1 h3).1
  rw [h2]
  have hfb := fileD_some h4
  have h0 : ¬ getS d.now n = none := by rw [h4]; simp
  by_cases hk : k < 0 ∨ (b.length : Int) < k
  ·have hE : trcE d n k = 1 := (if_neg hs).trans ((if_neg h0).trans (if_pos (by rw [hfb]; exact hk)))
   rw [hE, opD_no (by decide)] at hQ
   by_cases hk0 : k < 0
   ·(repeat' (first | refine a_mv ?_ | (apply R.step; (exact a_cmp); exact rfl) | (refine a_go ?_; intros) | refine a_sp (fun h => ?_) fun h => ?_ | fail))
    (refine Fin.rA ([(rb, rdkB (cntD d).room sv _ wv fused fuse (cntD d).down)] ++ H) ?_)
    exact ⟨rfl, Mem.le_refl _, _, ho1, rfl⟩
   ·have hk1 : (b.length : Int) < k := by omega
    (repeat' (first | refine a_mv ?_ | (apply R.step; (first | (apply Ok.loadP; exact rfl; exact rfl; exact hMb; exact g2) | (exact a_cmp)); exact rfl) | (refine a_go ?_; intros) | refine a_sp (fun h => ?_) fun h => ?_ | fail))
    (refine Fin.rA ([(rb, rdkB (cntD d).room sv _ wv fused fuse (cntD d).down)] ++ H) ?_)
    exact ⟨rfl, Mem.le_refl _, _, ho1, rfl⟩
  ·have hE : trcE d n k = 0 := (if_neg hs).trans ((if_neg h0).trans (if_neg (by rw [hfb]; exact hk)))
   rw [hE] at hQ
   have hk0 : ¬ k < 0 := fun h => hk (.inl h)
   have hk1 : ¬ (b.length : Int) < k := fun h => hk (.inr h)
   have hfit := trc_fit (n := n) (k := k.toNat) hnn hok.sum (by rw [hfb]; omega)
   (repeat' (first | refine a_mv ?_ | (apply R.step; (first | (apply Ok.loadP; exact rfl; exact rfl; exact hMb; exact g2) | (exact a_cmp)); exact rfl) | (refine a_go ?_; intros) | refine a_sp (fun h => ?_) fun h => ?_ | fail))
   (apply R.call; (exact a_evs); exact rfl; exact rdoes_KC ho1 hok hl hlen (show DeC M (.trc n k.toNat) [.int .i64 1, str n, str [], .slice none 0 0, .int .i64 k] from by show _ = _; rw [Int.toNat_of_nonneg (by omega)]) hfit; rintro _ M3 _ ⟨rfl, hM3, hp3, ho3, rfl⟩)
   (repeat' (first | (refine a_go ?_; intros) | refine a_sp (fun h => ?_) fun h => ?_ | fail))
   (refine Fin.rA (hp3 ++ H) ?_)
   exact ⟨rfl, hM3, hp3, ho3, rfl⟩
end Go.Sx
end
section
namespace Go.Sx
open Go Go.Proofs Go.RowKit
attribute [local irreducible] C R Fin K Own OwnT Rd Pl Ok KOf RetOk OpsOf RP KP Res NoPanic KV KE MapS ItS EntS FsO FsR RowD PlD DkO PlFs RT KT OneT RS KS OneS RdO
variable {M M' : Mem} {H H1 H2 : Hp}
theorem ror_K {lb : Nat} {e : Int} : K Tryz.prog 43 [.pointer (some ⟨lb, 0, none⟩), .int .i64 e] M H fun v' M' H' => v' = .tuple #[if e = 0 then .pointer (some ⟨lb, 0, none⟩) else .pointer none, .int .i64 e] ∧ M' = M ∧ H' = H := by
 refine K.enterK Tryz.func43 rfl rfl rfl ?_
 intro Q hNP hQ
 by_cases h : e = 0
 ·subst h
  rw [if_pos rfl] at hQ
  (repeat' (first | (refine a_go ?_; intros) | refine a_sp (fun h => ?_) fun h => ?_ | fail))
  (refine Fin.rA (H) ?_)
  exact ⟨rfl, rfl, rfl⟩
 ·rw [if_neg h] at hQ
  (repeat' (first | refine a_mv ?_ | (apply R.step; (apply Ok.neIT; exact rfl; exact rfl; exact h); exact rfl) | (refine a_go ?_; intros) | refine a_sp (fun h => ?_) fun h => ?_ | fail))
  (refine Fin.rA (H) ?_)
  exact ⟨rfl, rfl, rfl⟩
theorem namesD_down {d : Dk} (h : d.down = true) : namesD d.down d.now = [] := by
 unfold namesD
 rw [h]
 rfl
theorem RgO.nil {lb rb : Nat} {lim : Int} : RgO M lb rb lim [] [(lb, .cells [.pointer (some ⟨rb, 0, none⟩), .int .i64 lim, .slice none 0 0].toArray 91 (0, 0))] :=
 ⟨[], .slice none 0 0, [], rfl, OwnT.nil _ _, fun p h => absurd h List.not_mem_nil, rfl⟩
theorem RdO.form {rb : Nat} {d : Dk} {hp : Hp} (h : RdO M rb d hp) : ∃ sv nv wv fused fuse, hp = [(rb, .cells [.int .i64 d.room, sv, nv, wv, .bool fused, .int .i64 fuse, .bool d.down].toArray 68 (0, 0))] := by
 unfold RdO at h
 obtain ⟨x, _, h⟩ := h
 exact ⟨_, _, _, _, _, h.trans rfl⟩
structure RmX where
 m : Nat
 kk : Int
 d : Dk
 hp : Hp
 M : Mem
set_option maxHeartbeats 8000000 in
theorem rOpenLog_K {rb : Nat} {d : Dk} {lim : Int} {hp : Hp} (hl : 64 ≤ lim ∧ lim ≤ 16384) (ho : RdO M rb d hp) (hsz : szD d ≤ 90000) : K Tryz.prog 13 [.pointer (some ⟨rb, 0, none⟩), .int .i64 lim] M (hp ++ H) fun v' M' H' => M.le M' ∧ ∃ hp', RdO M' rb (openS d).2.1 hp' ∧ (((openS d).1 ≠ 0 ∧ v' = .tuple #[.pointer none, .int .i64 (openS d).1] ∧ H' = hp' ++ H) ∨ ((openS d).1 = 0 ∧ ∃ lb hL, v' = .tuple #[.pointer (some ⟨lb, 0, none⟩), .int .i64 0] ∧ RgO M' lb rb lim (openS d).2.2 hL ∧ H' = hL ++ (hp' ++ H))) := by
 have hnow := now_sz d
 have hpsz := ps_sz d
 refine K.enterK Tryz.func13 rfl rfl rfl ?_
 intro Q hNP hQ
 have hOS : openS d = openG d (numsF (namesD d.down d.now)) [] := rfl
 obtain ⟨sv, nv, wv, fused, fuse, hpe⟩ := ho.form
 subst hpe
 by_cases hdn : d.down = true
 ·rw [namesD_down hdn] at hOS
  have hOS2 : openS d = (0, d, []) := hOS
  rw [hOS2] at hQ
  rw [hdn] at ho ⊢
  (repeat' (first | refine a_mv ?_ | (apply R.step; (exact a_cmp); exact rfl) | (apply R.step; (apply Ok.eqPN; exact rfl; exact rfl); exact rfl) | (refine a_bx ?_; intro bx) | (refine a_go ?_; intros) | refine a_sp (fun h => ?_) fun h => ?_ | fail))
  (refine Fin.rA ([(bx, .cells [.pointer (some ⟨rb, 0, none⟩), .int .i64 lim, .slice none 0 0].toArray 91 (0, 0))] ++ ([(rb, .cells [.int .i64 d.room, sv, nv, wv, .bool fused, .int .i64 fuse, .bool true].toArray 68 (0, 0))] ++ H)) ?_)
  exact ⟨Mem.le_refl _, _, ho, .inr ⟨rfl, bx, _, rfl, RgO.nil, rfl⟩⟩
 have hdf : d.down = false := by simpa using hdn
 have ho2 := ho
 rw [hdf] at ho2 ⊢
 (repeat' (first | refine a_mv ?_ | (apply R.step; (exact a_cmp); exact rfl) | (apply R.step; (apply Ok.eqPN; exact rfl; exact rfl); exact rfl) | (refine a_bx ?_; intro bx) | (refine a_go ?_; intros) | refine a_sp (fun h => ?_) fun h => ?_ | fail))
 obtain ⟨hp, hhp⟩ : ∃ q : Hp, q = [(rb, .cells [.int .i64 d.room, sv, nv, wv, .bool fused, .int .i64 fuse, .bool false].toArray 68 (0, 0))] := ⟨_, rfl⟩
 rw [← hhp] at ho2
 apply R.arr (H2 := hp ++ ((bx, .cells [.pointer (some ⟨rb, 0, none⟩), .int .i64 lim, .slice none 0 0].toArray 91 (0, 0)) :: H)) (by rw [hhp]; (exact a_arrs))
 clear ho hhp
 have ho := ho2
 clear ho2
 (apply R.call; (exact a_evs); exact rfl; exact rnames_KD ho (by omega); rintro vn M _ ⟨rfl, hn, hown, rfl⟩)
 have hNl := namesD_len (d := d)
 rw [hOS] at hQ
 clear hOS
 generalize namesD d.down d.now = N at hown hNl hQ
 obtain ⟨An, cn, rfl, n1, n2⟩ := hown.form
 apply R.ice (hp := hn) (H1 := hp ++ ((bx, .cells [.pointer (some ⟨rb, 0, none⟩), .int .i64 lim, .slice none 0 0].toArray 91 (0, 0)) :: H)) (by (exact a_arrs))
 intro M1 hM1 hin1
 have hpn := hown.plIn hin1
 replace ho := ho.mono hM1
 (repeat' (first | (refine a_bx ?_; intro bx) | (refine a_go ?_; intros) | refine a_sp (fun h => ?_) fun h => ?_ | fail))
 apply C.loop (fun y : OpX => (y.k : Int) = y.kk ∧ y.k ≤ N.length ∧ Own 27 1 y.v y.ns.length (nmC y.ns) y.hv ∧ y.ns = numsF (N.take y.k))
  (fun y => [(0, .pointer (some ⟨rb, 0, none⟩)), (6, .pointer (some ⟨bx, 0, none⟩)), (7, y.v), (8, .slice An N.length cn), (9, .int .i64 y.kk)]) (fun _ => M1) (fun y => y.hv ++ (hp ++ ((bx, .cells [.pointer (some ⟨rb, 0, none⟩), .int .i64 lim, .slice none 0 0].toArray 91 (0, 0)) :: H))) (fun y => N.length - y.k) ⟨0, 0, .slice none 0 0, [], []⟩
 ·exact ⟨rfl, Nat.zero_le _, Own.nil _ _, rfl⟩
 ·(exact a_subs)
 ·exact rfl
 ·exact rfl
 rintro ⟨k, kk, v, ns, hv⟩ ⟨hkk, hk, hon, hns⟩
 dsimp only at hkk hk hon hns ⊢
 obtain ⟨Av, cv, rfl, v1, v2⟩ := hon.form
 have hnsl : ns.length ≤ k := by
  rw [hns]
  exact Nat.le_trans (numsF_len _) (by rw [List.length_take]; omega)
 by_cases hkN : k < N.length
 ·have htk : N.take (k + 1) = N.take k ++ [N[k]] := List.take_succ_eq_append_getElem hkN
  have hce : (N.map str)[k]? = some (str N[k]) := by rw [List.getElem?_map, List.getElem?_eq_getElem hkN]; rfl
  obtain ⟨b, o, cc, e, fr, hAe, hMb, hcell⟩ := hpn.get hce
  subst hAe
  rw [show o + k = o + kk.toNat * 1 by omega] at hcell
  generalize N[k] = t at htk hcell
  (repeat' (first | refine a_mv ?_ | (apply R.step; (exact a_cmp); exact rfl) | (apply R.step; (first | (apply Ok.indexAddr; exact rfl; exact rfl; omega; omega) | (apply Ok.loadP; exact rfl; exact rfl; exact hMb; exact hcell)); exact rfl) | (refine a_bx ?_; intro bx) | (refine a_go ?_; intros) | refine a_sp (fun h => ?_) fun h => ?_ | fail))
  (apply R.call; (exact a_evs); exact rfl; exact rnumber9_K (t := t); rintro _ M1 _ ⟨n, rfl, hnum, rfl, rfl⟩)
  cases ht : numO t with
  | none =>
   (repeat' (first | (refine a_bx ?_; intro bx) | (refine a_go ?_; intros) | refine a_sp (fun h => ?_) fun h => ?_ | fail))
   refine Fin.again (⟨k + 1, kk + 1, .slice Av ns.length cv, ns, hv⟩ : OpX) ⟨by dsimp only; omega, by dsimp only; omega, hon, ?_⟩ (by dsimp only; omega) ?_ rfl rfl
   ·dsimp only
    rw [htk, numsF_snoc, ht, List.append_nil, hns]
   ·(exact a_subs)
  | some m =>
   have hnm : n = m := hnum m ht
   subst hnm
   (repeat' (first | (refine a_bx ?_; intro bx) | (refine a_go ?_; intros) | refine a_sp (fun h => ?_) fun h => ?_ | fail))
   (apply R.append (news := [.int .u64 (n : Int)]) (k := 1); exact rfl; exact rfl; exact hon; (exact a_tk); exact Rd.at_ (l := [.int .u64 (n : Int)]) (by (exact a_at)) (fun j u h => by rw [Nat.zero_add]; exact h); exact rfl; (intro u hu; rw [List.mem_singleton] at hu; subst hu; rfl); omega; exact rfl; decide; decide; exact rfl; rintro v2 hv2 hon2)
   (repeat' (first | (refine a_bx ?_; intro bx) | (refine a_go ?_; intros) | refine a_sp (fun h => ?_) fun h => ?_ | fail))
   (apply Fin.arr (H2 := hv2 ++ (hp ++ ((bx, .cells [.pointer (some ⟨rb, 0, none⟩), .int .i64 lim, .slice none 0 0].toArray 91 (0, 0)) :: H))); (exact a_arrs))
   refine Fin.again (⟨k + 1, kk + 1, v2, ns ++ [n], hv2⟩ : OpX) ⟨by dsimp only; omega, by dsimp only; omega, ?_, ?_⟩ (by dsimp only; omega) ?_ rfl rfl
   ·dsimp only
    rw [List.length_append]
    unfold nmC
    rw [List.map_append]
    exact hon2
   ·dsimp only
    rw [htk, numsF_snoc, ht, hns]
   ·(exact a_subs)
 have hke : k = N.length := by omega
 rw [hke, List.take_of_length_le (Nat.le_refl _)] at hns
 rw [← hns] at hQ
 have hnok : ∀ n ∈ ns, n ≤ 72057594037927935 := by rw [hns]; exact numsF_ok
 clear hns
 (repeat' (first | refine a_mv ?_ | (apply R.step; (exact a_cmp); exact rfl) | (refine a_bx ?_; intro bx) | (refine a_go ?_; intros) | refine a_sp (fun h => ?_) fun h => ?_ | fail))
 apply C.ice (hp := hv) (H1 := (bx, .cells [.pointer (some ⟨rb, 0, none⟩), .int .i64 lim, .slice none 0 0].toArray 91 (0, 0)) :: (hp ++ H)) (by (exact a_arrs))
 intro M2 hM2 hin2
 have hpA := hon.plIn hin2
 replace ho := ho.mono hM2
 apply C.loop (fun y : OqX => (y.k : Int) = y.kk ∧ y.k ≤ ns.length ∧ M2.le y.M ∧ RgO y.M bx rb lim y.ss y.hL ∧ sgsOk y.ss ∧ y.ss.length ≤ y.k ∧ openG d ns [] = openG d (ns.drop y.k) y.ss)
  (fun y => [(0, .pointer (some ⟨rb, 0, none⟩)), (6, .pointer (some ⟨bx, 0, none⟩)), (7, .slice Av ns.length cv), (12, .int .i64 y.kk)]) (fun y => y.M) (fun y => y.hL ++ (hp ++ H)) (fun y => ns.length - y.k) ⟨0, 0, [], [(bx, .cells [.pointer (some ⟨rb, 0, none⟩), .int .i64 lim, .slice none 0 0].toArray 91 (0, 0))], M2⟩
 ·exact ⟨rfl, Nat.zero_le _, Mem.le_refl _, RgO.nil, fun s h => absurd h List.not_mem_nil, Nat.le_refl _, rfl⟩
 ·(exact a_subs)
 ·exact rfl
 ·exact rfl
 rintro ⟨j, jj, ss, hL, M3⟩ ⟨hjj, hj, hM3, hg, hok, hssl, hop⟩
 dsimp only at hjj hj hM3 hg hok hssl hop ⊢
 by_cases hjl : j < ns.length
 rotate_left
 ·have hdr : ns.drop j = [] := List.drop_eq_nil_of_le (by omega)
  rw [hdr] at hop
  have hopS : openG d ns [] = (0, d, ss) := hop
  rw [hopS] at hQ
  (repeat' (first | refine a_mv ?_ | (apply R.step; (exact a_cmp); exact rfl) | (refine a_bx ?_; intro bx) | (refine a_go ?_; intros) | refine a_sp (fun h => ?_) fun h => ?_ | fail))
  (refine Fin.rA (hL ++ (hp ++ H)) ?_)
  exact ⟨hM1.trans_ (hM2.trans_ hM3), hp, ho.mono hM3, .inr ⟨rfl, bx, hL, rfl, hg, rfl⟩⟩
 have hdrop : ns.drop j = ns[j] :: ns.drop (j + 1) := List.drop_eq_getElem_cons hjl
 have hnb := hnok _ (List.getElem_mem hjl)
 have hce : (nmC ns)[j]? = some (.int .u64 (ns[j] : Int)) := by
  unfold nmC
  rw [List.getElem?_map, List.getElem?_eq_getElem hjl]
  rfl
 obtain ⟨b, o, cc, e, fr, hAe, hMb, hcell⟩ := (hpA.mono hM3).get hce
 have hAv : Av = some ⟨b, o, none⟩ := hAe
 rw [show o + j = o + jj.toNat * 1 by omega] at hcell
 generalize ns[j] = n at hdrop hnb hcell
 rw [hdrop] at hop
 rw [hAv]
 (repeat' (first | refine a_mv ?_ | (apply R.step; (exact a_cmp); exact rfl) | (apply R.step; (first | (apply Ok.indexAddr; exact rfl; exact rfl; omega; omega) | (apply Ok.loadP; exact rfl; exact rfl; exact hMb; exact hcell)); exact rfl) | (refine a_bx ?_; intro bx) | (refine a_go ?_; intros) | refine a_sp (fun h => ?_) fun h => ?_ | fail))
 (apply R.call; (exact a_evs); exact rfl; exact rread9_K (f := n) hg hok (ho.mono hM3) (by omega) hnb; rintro _ M4 _ ⟨p, rfl, hpo, hpf, hpi, hpe, hM4, rfl⟩)
 have hop2 : openG d (n :: ns.drop (j + 1)) ss = if (readF (lastO ss) n ((readD d (nameS n)).getD [])).2 then
   openG d (ns.drop (j + 1)) (if 0 < (readF (lastO ss) n ((readD d (nameS n)).getD [])).1.length then ss ++ [⟨n, (readF (lastO ss) n ((readD d (nameS n)).getD [])).1⟩] else ss)
  else if (mendD d (n :: ns.drop (j + 1)) n (readF (lastO ss) n ((readD d (nameS n)).getD [])).1).1 ≠ 0 then ((mendD d (n :: ns.drop (j + 1)) n (readF (lastO ss) n ((readD d (nameS n)).getD [])).1).1, (mendD d (n :: ns.drop (j + 1)) n (readF (lastO ss) n ((readD d (nameS n)).getD [])).1).2, [])
  else (0, (mendD d (n :: ns.drop (j + 1)) n (readF (lastO ss) n ((readD d (nameS n)).getD [])).1).2, if 0 < (readF (lastO ss) n ((readD d (nameS n)).getD [])).1.length then ss ++ [⟨n, (readF (lastO ss) n ((readD d (nameS n)).getD [])).1⟩] else ss) := by rw [openG]
 have hfine : (readF (lastO ss) n ((readD d (nameS n)).getD [])).2 = true → 0 < (readF (lastO ss) n ((readD d (nameS n)).getD [])).1.length := by
  intro h
  unfold readF at h
  dsimp only at h
  rw [Bool.and_eq_true, decide_eq_true_eq] at h
  exact h.2.2
 obtain ⟨⟨f_, it⟩, lv, ev, lh, eh⟩ := p
 dsimp only at hpf hpi hpe ⊢
 subst hpf
 rw [← hpi] at hop2 hfine
 generalize (readF (lastO ss) f_ ((readD d (nameS f_)).getD [])).2 = fine at hop2 hfine
 obtain ⟨hoP, hoT⟩ := id hpo
 obtain ⟨Al, cl, hlv, kl1, kl2⟩ := hoP.form
 obtain ⟨Ae, ce, hev, ke1, ke2⟩ := hoT.form
 have hel : (⟨f_, it⟩ : Sg).es.length = it.length := Sg.es_len _
 have hsz2 : (⟨f_, it⟩ : Sg).size = (it.map Prod.snd).sum := rfl
 change lv = .slice Al (⟨f_, it⟩ : Sg).es.length cl at hlv
 change ev = .slice Ae it.length ce at hev
 rw [hel] at hlv
 subst hlv hev
 unfold prC
 dsimp only
 rw [hsz2]
 (repeat' (first | (refine a_gn ?_; intros) | refine a_sp (fun h => ?_) fun h => ?_ | fail))
 ((apply R.alloc; (simp only [Value.cells]; rfl); exact rfl); intro b13)
 obtain ⟨ps, pv, hrow, hss, hrw, hpt, rfl⟩ := hg.mono hM4
 obtain ⟨Ap, cpp, rfl, pc1, pc2⟩ := hrw.form
 have hpl : ps.length = ss.length := by rw [← hss, List.length_map]
 cases fine with
 | true =>
  have h0 := hfine rfl
  rw [if_pos rfl, if_pos h0] at hop2
  rw [hop2] at hop
  unfold rgB
  (repeat' (first | (refine a_bx ?_; intro bx) | (refine a_go ?_; intros) | refine a_sp (fun h => ?_) fun h => ?_ | fail))
  (apply C.regionS (A := [0, 1, 2, 3, 4, 5, 6, 7]) (t := .free 0 (.free 1 (.free 2 (.free 3 (.free 4 (.free 5 (.one 6 (.one 7 .nil)))))))) (u := .free 8 (.free 9 (.one 10 .nil))) (Hs := [(b13, .cells [.int .u64 ↑f_, .slice Al it.length cl, .slice Ae it.length ce, .int .i64 ↑((it.map Prod.snd).sum)].toArray 93 (0, 0)), (bx, .cells [.pointer (some ⟨rb, 0, none⟩), .int .i64 lim, .slice Ap ps.length cpp].toArray 91 (0, 0))]); exact Mix.h; (first | exact Arr.all _ | (exact a_arr) | (exact a_arrs)); (exact a_np); kernel_rfl)
  (repeat' (first | refine a_os ?_ | fail))
  (apply RS.one; apply OneS.eff; exact rfl; intro Kc hKc ops0)
  (apply R.buildSlice; (exact a_prt); exact rfl; exact rfl; (exact a_fills); exact rfl; intro bq)
  (apply R.nil; apply Fin.ks hKc; exact Mem.le_refl _; (exact a_art))
  (apply RS.one; apply OneS.eff; exact rfl; intro Kc hKc ops0)
  (apply R.arr (H2 := hrow ++ ((b13, .cells [.int .u64 (f_ : Int), .slice Al it.length cl, .slice Ae it.length ce, .int .i64 (((it.map Prod.snd).sum : Nat) : Int)].toArray 93 (0, 0)) :: (bq, .cells [.int .u64 (f_ : Int), .slice Al it.length cl, .slice Ae it.length ce, .int .i64 (((it.map Prod.snd).sum : Nat) : Int)].toArray 93 (0, 0)) :: (bx, .cells [.pointer (some ⟨rb, 0, none⟩), .int .i64 lim, .slice Ap ps.length cpp].toArray 91 (0, 0)) :: (ptH ps ++ (lh ++ (eh ++ (hp ++ H)))))) (by (exact a_art)))
  (apply R.appendT (news := [.int .u64 (f_ : Int), .slice Al it.length cl, .slice Ae it.length ce, .int .i64 (((it.map Prod.snd).sum : Nat) : Int)]) (k := 1); exact rfl; exact rfl; exact hrw; (exact a_tk); exact Rd.at_ (l := [.int .u64 (f_ : Int), .slice Al it.length cl, .slice Ae it.length ce, .int .i64 (((it.map Prod.snd).sum : Nat) : Int)]) (by (exact a_at)) (fun j u h => by rw [Nat.zero_add]; exact h); exact rfl; (intro u hu; simp only [List.mem_cons, List.not_mem_nil, or_false] at hu; rcases hu with rfl | rfl | rfl | rfl <;> rfl); omega; exact rfl; decide; decide; exact rfl; rintro pv2 hrow2 hrw2)
  obtain ⟨Ap2, cp2, rfl, qc1, qc2⟩ := hrw2.form
  have hg2 : RgO M4 bx rb lim (ss ++ [⟨f_, it⟩]) ((bx, rgB rb lim (.slice Ap2 (ps.length + 1) cp2)) :: (hrow2 ++ ptH (ps ++ [⟨⟨f_, it⟩, .slice Al it.length cl, .slice Ae it.length ce, lh, eh⟩]))) := by
   refine ⟨ps ++ [⟨⟨f_, it⟩, .slice Al it.length cl, .slice Ae it.length ce, lh, eh⟩], _, hrow2, by rw [List.map_append, hss]; rfl, ?_, ?_, rfl⟩
   ·rw [List.length_append, List.map_append, List.flatten_append]
    exact hrw2
   ·intro p hp
    rcases List.mem_append.1 hp with hp | hp
    ·exact hpt p hp
    ·rw [List.mem_singleton] at hp
     subst hp
     exact hpo
  have hok2 : sgsOk (ss ++ [⟨f_, it⟩]) := hok.snoc h0 hpe
  (apply R.nil; apply Fin.ks (Hx := hrow2 ++ (ptH ps ++ (lh ++ (eh ++ (hp ++ H))))) hKc; exact Mem.le_refl _; (exact a_art))
  refine RS.later (Hs2 := []) (Hx2 := (b13, .cells [.int .u64 (f_ : Int), .slice Al it.length cl, .slice Ae it.length ce, .int .i64 (((it.map Prod.snd).sum : Nat) : Int)].toArray 93 (0, 0)) :: (bx, .cells [.pointer (some ⟨rb, 0, none⟩), .int .i64 lim, .slice Ap ps.length cpp].toArray 91 (0, 0)) :: (hrow2 ++ (ptH ps ++ (lh ++ (eh ++ (hp ++ H)))))) (by (exact a_art)) ?_
  (repeat' (first | refine a_ot ?_ | fail))
  (apply RT.one; apply OneT.eff; exact rfl; intro Kc hKc ops0)
  (repeat' (first | (refine a_bx ?_; intro bx) | (refine a_go ?_; intros) | refine a_sp (fun h => ?_) fun h => ?_ | fail))
  ((first | apply R.nil | skip); apply Fin.kt hKc; exact Mem.le_refl _; (exact a_arrs))
  apply RT.nil
  (repeat' (first | (refine a_bx ?_; intro bx) | (refine a_go ?_; intros) | refine a_sp (fun h => ?_) fun h => ?_ | fail))
  apply Fin.arr (H2 := ((bx, rgB rb lim (.slice Ap2 (ps.length + 1) cp2)) :: (hrow2 ++ ptH (ps ++ [⟨⟨f_, it⟩, .slice Al it.length cl, .slice Ae it.length ce, lh, eh⟩]))) ++ (hp ++ H)) (by rw [ptH_snoc]; dsimp only; unfold rgB; (exact a_art))
  refine Fin.again (⟨j + 1, jj + 1, ss ++ [⟨f_, it⟩], (bx, rgB rb lim (.slice Ap2 (ps.length + 1) cp2)) :: (hrow2 ++ ptH (ps ++ [⟨⟨f_, it⟩, .slice Al it.length cl, .slice Ae it.length ce, lh, eh⟩])), M4⟩ : OqX) ⟨by dsimp only; omega, by dsimp only; omega, hM3.trans_ hM4, hg2, hok2, ?_, ?_⟩ (by dsimp only; omega) ?_ rfl rfl
  ·dsimp only
   (try rw [List.length_append, List.length_singleton])
   omega
  ·dsimp only
   exact hop
  ·(exact a_subs)
 | false =>
  rw [if_neg (by decide)] at hop2
  rw [hop2] at hop
  clear hop2 hfine
  unfold rgB
  (repeat' (first | (refine a_bx ?_; intro bx) | (refine a_go ?_; intros) | refine a_sp (fun h => ?_) fun h => ?_ | fail))
  have hTl : (ns.drop (j + 1)).length = ns.length - (j + 1) := List.length_drop
  apply C.arr (H2 := (b13, .cells [.int .u64 (f_ : Int), .slice Al it.length cl, .slice Ae it.length ce, .int .i64 (((it.map Prod.snd).sum : Nat) : Int)].toArray 93 (0, 0)) :: (bx, .cells [.pointer (some ⟨rb, 0, none⟩), .int .i64 lim, .slice Ap ps.length cpp].toArray 91 (0, 0)) :: (hrow ++ (ptH ps ++ (lh ++ (eh ++ (hp ++ H)))))) (by (exact a_art))
  apply C.loop (fun y : RmX => jj + (y.m : Int) = y.kk ∧ y.m ≤ (ns.drop (j + 1)).length ∧ M4.le y.M ∧ RdO y.M rb y.d y.hp ∧ szD y.d + y.m ≤ szD d + (ns.drop (j + 1)).length ∧ mendR d (ns.drop (j + 1)).reverse = mendR y.d ((ns.drop (j + 1)).take y.m).reverse)
   (fun y => [(0, .pointer (some ⟨rb, 0, none⟩)), (6, .pointer (some ⟨bx, 0, none⟩)), (7, .slice (some ⟨b, o, none⟩) ns.length cv), (12, .int .i64 jj), (13, .pointer (some ⟨b13, 0, none⟩)), (15, .int .i64 y.kk)]) (fun y => y.M) (fun y => (b13, .cells [.int .u64 (f_ : Int), .slice Al it.length cl, .slice Ae it.length ce, .int .i64 (((it.map Prod.snd).sum : Nat) : Int)].toArray 93 (0, 0)) :: (bx, .cells [.pointer (some ⟨rb, 0, none⟩), .int .i64 lim, .slice Ap ps.length cpp].toArray 91 (0, 0)) :: (hrow ++ (ptH ps ++ (lh ++ (eh ++ (y.hp ++ H)))))) (fun y => y.m) ⟨(ns.drop (j + 1)).length, (ns.length : Int) - 1, d, hp, M4⟩
  ·exact ⟨by dsimp only; omega, Nat.le_refl _, Mem.le_refl _, (ho.mono hM3).mono hM4, Nat.le_refl _, by rw [List.take_of_length_le (Nat.le_refl _)]⟩
  ·(exact a_subs)
  ·exact rfl
  ·exact rfl
  rintro ⟨m, kk, d5, hp5, M5⟩ ⟨hkk, hm, hM5, ho5, hsz5, hmr⟩
  dsimp only at hkk hm hM5 ho5 hsz5 hmr ⊢
  have hnow5 := now_sz d5
  have hps5 := ps_sz d5
  have hMM := hM1.trans_ (hM2.trans_ (hM3.trans_ (hM4.trans_ hM5)))
  by_cases hm0 : 0 < m
  ·have hml : m - 1 < (ns.drop (j + 1)).length := by omega
   have htk : ((ns.drop (j + 1)).take m).reverse = (ns.drop (j + 1))[m - 1] :: ((ns.drop (j + 1)).take (m - 1)).reverse := by
    have h1 := List.take_succ_eq_append_getElem hml
    rw [show m - 1 + 1 = m by omega] at h1
    rw [h1, List.reverse_append]
    rfl
   have hix : (ns.drop (j + 1))[m - 1] = ns[j + m]'(by omega) := by
    rw [List.getElem_drop]
    congr 1
    omega
   have hnb2 := hnok _ (List.getElem_mem (show j + m < ns.length by omega))
   have hce2 : (nmC ns)[j + m]? = some (.int .u64 ((ns[j + m]'(by omega) : Nat) : Int)) := by
    unfold nmC
    rw [List.getElem?_map, List.getElem?_eq_getElem (show j + m < ns.length by omega)]
    rfl
   obtain ⟨b', o', cc', e', fr', hAe', hMb', hcell'⟩ := (((hpA.mono hM3).mono hM4).mono hM5).get hce2
   rw [hAv] at hAe'
   injection hAe' with hAe'
   injection hAe' with hAe1 hAe2
   subst hAe1 hAe2
   rw [show o + (j + m) = o + kk.toNat * 1 by omega] at hcell'
   rw [hix] at htk
   rw [htk] at hmr
   generalize ns[j + m]'(by omega) = n2 at hcell' hmr hnb2
   (repeat' (first | refine a_mv ?_ | (apply R.step; (exact a_cmp); exact rfl) | (apply R.step; (first | (apply Ok.indexAddr; exact rfl; exact rfl; omega; omega) | (apply Ok.loadP; exact rfl; exact rfl; exact hMb'; exact hcell')); exact rfl) | (refine a_bx ?_; intro bx) | (refine a_go ?_; intros) | refine a_sp (fun h => ?_) fun h => ?_ | fail))
   (apply R.call; (exact a_evs); exact rfl; exact rName_K (n := n2) (by omega); rintro _ M5 _ ⟨rfl, rfl, rfl⟩)
   apply R.arr (H2 := hp5 ++ ((b13, .cells [.int .u64 (f_ : Int), .slice Al it.length cl, .slice Ae it.length ce, .int .i64 (((it.map Prod.snd).sum : Nat) : Int)].toArray 93 (0, 0)) :: (bx, .cells [.pointer (some ⟨rb, 0, none⟩), .int .i64 lim, .slice Ap ps.length cpp].toArray 91 (0, 0)) :: (hrow ++ (ptH ps ++ (lh ++ (eh ++ H)))))) (by (exact a_art))
   (apply R.call; (exact a_evs); exact rfl; exact rremove_K (n := nameS n2) ho5 (by omega) (by omega); rintro _ M6 _ ⟨rfl, hM6, hp6, ho6, rfl⟩)
   by_cases he : remE d5 (nameS n2) = 0
   ·rw [mendR_go he] at hmr
    rw [he] at ho6
    have hs6 := opD_sz d5 0 (.rem (nameS n2))
    (repeat' (first | refine a_mv ?_ | (apply R.step; (apply Ok.neIR; exact rfl; exact rfl; exact he); exact rfl) | (refine a_bx ?_; intro bx) | (refine a_go ?_; intros) | refine a_sp (fun h => ?_) fun h => ?_ | fail))
    apply Fin.arr (H2 := (b13, .cells [.int .u64 (f_ : Int), .slice Al it.length cl, .slice Ae it.length ce, .int .i64 (((it.map Prod.snd).sum : Nat) : Int)].toArray 93 (0, 0)) :: (bx, .cells [.pointer (some ⟨rb, 0, none⟩), .int .i64 lim, .slice Ap ps.length cpp].toArray 91 (0, 0)) :: (hrow ++ (ptH ps ++ (lh ++ (eh ++ (hp6 ++ H)))))) (by (exact a_art))
    refine Fin.again (⟨m - 1, kk - 1, opD 0 d5 (.rem (nameS n2)), hp6, M6⟩ : RmX) ⟨by dsimp only; omega, by dsimp only; omega, hM5.trans_ hM6, ho6, by dsimp only; omega, hmr⟩ (by dsimp only; omega) ?_ rfl rfl
    (exact a_subs)
   ·rw [mendR_no he] at hmr
    have hmd : mendD d (f_ :: ns.drop (j + 1)) f_ it = (remE d5 (nameS n2), opD (remE d5 (nameS n2)) d5 (.rem (nameS n2))) := by
     unfold mendD
     rw [List.tail_cons, hmr, if_pos he]
    rw [hmd, if_pos he] at hop
    rw [hop] at hQ
    (repeat' (first | refine a_mv ?_ | (apply R.step; (apply Ok.neIT; exact rfl; exact rfl; exact he); exact rfl) | (refine a_bx ?_; intro bx) | (refine a_go ?_; intros) | refine a_sp (fun h => ?_) fun h => ?_ | fail))
    (refine Fin.rA (hp6 ++ H) ?_)
    exact ⟨hMM.trans_ hM6, hp6, ho6, .inl ⟨he, rfl, rfl⟩⟩
  have hm00 : m = 0 := by omega
  subst hm00
  have hmr' : mendR d (ns.drop (j + 1)).reverse = (0, d5) := hmr
  have hmd : mendD d (f_ :: ns.drop (j + 1)) f_ it = mendE d5 f_ it := by
   unfold mendD
   rw [List.tail_cons, hmr', if_neg (fun h => h rfl)]
  rw [hmd] at hop
  clear hmd hmr hmr'
  have hMb5 := hM5.2.2 _ _ (hM4.2.2 _ _ hMb)
  by_cases h0 : it.length = 0
  ·have hE : mendE d5 f_ it = (remE d5 (nameS f_), opD (remE d5 (nameS f_)) d5 (.rem (nameS f_))) := if_pos h0
   rw [hE] at hop
   dsimp only at hop
   rw [if_neg (show ¬ 0 < it.length by omega)] at hop
   (repeat' (first | refine a_mv ?_ | (apply R.step; (exact a_cmp); exact rfl) | (apply R.step; (first | (apply Ok.indexAddr; exact rfl; exact rfl; omega; omega) | (apply Ok.loadP; exact rfl; exact rfl; exact hMb5; exact hcell)); exact rfl) | (refine a_bx ?_; intro bx) | (refine a_go ?_; intros) | refine a_sp (fun h => ?_) fun h => ?_ | fail))
   all_goals (first | (exfalso; omega) | skip)
   (apply R.call; (exact a_evs); exact rfl; exact rName_K (n := f_) (by omega); rintro _ M5 _ ⟨rfl, rfl, rfl⟩)
   apply R.arr (H2 := hp5 ++ ((b13, .cells [.int .u64 (f_ : Int), .slice Al it.length cl, .slice Ae it.length ce, .int .i64 (((it.map Prod.snd).sum : Nat) : Int)].toArray 93 (0, 0)) :: (bx, .cells [.pointer (some ⟨rb, 0, none⟩), .int .i64 lim, .slice Ap ps.length cpp].toArray 91 (0, 0)) :: (hrow ++ (ptH ps ++ (lh ++ (eh ++ H)))))) (by (exact a_art))
   (apply R.call; (exact a_evs); exact rfl; exact rremove_K (n := nameS f_) ho5 (by omega) (by omega); rintro _ M6 _ ⟨rfl, hM6, hp6, ho6, rfl⟩)
   (repeat' (first | (refine a_bx ?_; intro bx) | (refine a_go ?_; intros) | refine a_sp (fun h => ?_) fun h => ?_ | fail))
   (apply R.call; (exact a_evs); exact rfl; exact ror_K (e := remE d5 (nameS f_)); rintro _ M6 _ ⟨rfl, rfl, rfl⟩)
   by_cases he : remE d5 (nameS f_) = 0
   ·rw [if_neg (fun h => h he)] at hop
    rw [hop] at hQ
    rw [if_pos he, he]
    (repeat' (first | (refine a_bx ?_; intro bx) | (refine a_go ?_; intros) | refine a_sp (fun h => ?_) fun h => ?_ | fail))
    have hgM := hg.mono (hM4.trans_ (hM5.trans_ hM6))
    unfold rgB at hgM
    obtain ⟨hL2, hHL⟩ : ∃ x : Hp, x = (bx, .cells [.pointer (some ⟨rb, 0, none⟩), .int .i64 lim, .slice Ap ps.length cpp].toArray 91 (0, 0)) :: (hrow ++ ptH ps) := ⟨_, rfl⟩
    rw [← hHL] at hgM
    apply Fin.arr (H2 := hL2 ++ (hp6 ++ H)) (by rw [hHL]; (exact a_art))
    (refine Fin.rA (hL2 ++ (hp6 ++ H)) ?_)
    exact ⟨hMM.trans_ hM6, hp6, ho6, .inr ⟨rfl, bx, hL2, rfl, hgM, rfl⟩⟩
   ·rw [if_pos he] at hop
    rw [hop] at hQ
    rw [if_neg he]
    (repeat' (first | (refine a_bx ?_; intro bx) | (refine a_go ?_; intros) | refine a_sp (fun h => ?_) fun h => ?_ | fail))
    (refine Fin.rA (hp6 ++ H) ?_)
    exact ⟨hMM.trans_ hM6, hp6, ho6, .inl ⟨he, rfl, rfl⟩⟩
  have h0' : 0 < it.length := by omega
  have hE : mendE d5 f_ it = (trcE d5 (nameS f_) ((it.map Prod.snd).sum : Int), opD (trcE d5 (nameS f_) ((it.map Prod.snd).sum : Int)) d5 (.trc (nameS f_) (it.map Prod.snd).sum)) := if_neg h0
  rw [hE] at hop
  dsimp only at hop
  rw [if_pos h0'] at hop
  (repeat' (first | refine a_mv ?_ | (apply R.step; (exact a_cmp); exact rfl) | (refine a_bx ?_; intro bx) | (refine a_go ?_; intros) | refine a_sp (fun h => ?_) fun h => ?_ | fail))
  all_goals (first | (exfalso; omega) | skip)
  (apply C.regionS (A := [0, 1, 2, 3, 4, 5, 6, 7]) (t := .free 0 (.free 1 (.free 2 (.free 3 (.free 4 (.free 5 (.one 6 (.one 7 .nil)))))))) (u := .free 8 (.free 9 (.one 10 .nil))) (Hs := [(b13, .cells [.int .u64 ↑f_, .slice Al it.length cl, .slice Ae it.length ce, .int .i64 ↑((it.map Prod.snd).sum)].toArray 93 (0, 0)), (bx, .cells [.pointer (some ⟨rb, 0, none⟩), .int .i64 lim, .slice Ap ps.length cpp].toArray 91 (0, 0))]); exact Mix.h; (first | exact Arr.all _ | (exact a_arr) | (exact a_arrs)); (exact a_np); kernel_rfl)
  (repeat' (first | refine a_os ?_ | fail))
  (apply RS.one; apply OneS.eff; exact rfl; intro Kc hKc ops0)
  (apply R.buildSlice; (exact a_prt); exact rfl; exact rfl; (exact a_fills); exact rfl; intro bq)
  (apply R.nil; apply Fin.ks hKc; exact Mem.le_refl _; (exact a_art))
  (apply RS.one; apply OneS.eff; exact rfl; intro Kc hKc ops0)
  (apply R.arr (H2 := hrow ++ ((b13, .cells [.int .u64 (f_ : Int), .slice Al it.length cl, .slice Ae it.length ce, .int .i64 (((it.map Prod.snd).sum : Nat) : Int)].toArray 93 (0, 0)) :: (bq, .cells [.int .u64 (f_ : Int), .slice Al it.length cl, .slice Ae it.length ce, .int .i64 (((it.map Prod.snd).sum : Nat) : Int)].toArray 93 (0, 0)) :: (bx, .cells [.pointer (some ⟨rb, 0, none⟩), .int .i64 lim, .slice Ap ps.length cpp].toArray 91 (0, 0)) :: (ptH ps ++ (lh ++ (eh ++ (hp5 ++ H)))))) (by (exact a_art)))
  (apply R.appendT (news := [.int .u64 (f_ : Int), .slice Al it.length cl, .slice Ae it.length ce, .int .i64 (((it.map Prod.snd).sum : Nat) : Int)]) (k := 1); exact rfl; exact rfl; exact hrw; (exact a_tk); exact Rd.at_ (l := [.int .u64 (f_ : Int), .slice Al it.length cl, .slice Ae it.length ce, .int .i64 (((it.map Prod.snd).sum : Nat) : Int)]) (by (exact a_at)) (fun j u h => by rw [Nat.zero_add]; exact h); exact rfl; (intro u hu; simp only [List.mem_cons, List.not_mem_nil, or_false] at hu; rcases hu with rfl | rfl | rfl | rfl <;> rfl); omega; exact rfl; decide; decide; exact rfl; rintro pv2 hrow2 hrw2)
  obtain ⟨Ap2, cp2, rfl, qc1, qc2⟩ := hrw2.form
  have hg2 : RgO M5 bx rb lim (ss ++ [⟨f_, it⟩]) ((bx, rgB rb lim (.slice Ap2 (ps.length + 1) cp2)) :: (hrow2 ++ ptH (ps ++ [⟨⟨f_, it⟩, .slice Al it.length cl, .slice Ae it.length ce, lh, eh⟩]))) := by
   refine ⟨ps ++ [⟨⟨f_, it⟩, .slice Al it.length cl, .slice Ae it.length ce, lh, eh⟩], _, hrow2, by rw [List.map_append, hss]; rfl, ?_, ?_, rfl⟩
   ·rw [List.length_append, List.map_append, List.flatten_append]
    exact hrw2
   ·intro p hp
    rcases List.mem_append.1 hp with hp | hp
    ·exact (hpt p hp).mono hM5
    ·rw [List.mem_singleton] at hp
     subst hp
     exact hpo.mono hM5
  have hok2 : sgsOk (ss ++ [⟨f_, it⟩]) := hok.snoc h0' hpe
  (apply R.nil; apply Fin.ks (Hx := hrow2 ++ (ptH ps ++ (lh ++ (eh ++ (hp5 ++ H))))) hKc; exact Mem.le_refl _; (exact a_art))
  refine RS.later (Hs2 := []) (Hx2 := (b13, .cells [.int .u64 (f_ : Int), .slice Al it.length cl, .slice Ae it.length ce, .int .i64 (((it.map Prod.snd).sum : Nat) : Int)].toArray 93 (0, 0)) :: (bx, .cells [.pointer (some ⟨rb, 0, none⟩), .int .i64 lim, .slice Ap ps.length cpp].toArray 91 (0, 0)) :: (hrow2 ++ (ptH ps ++ (lh ++ (eh ++ (hp5 ++ H)))))) (by (exact a_art)) ?_
  (repeat' (first | refine a_ot ?_ | fail))
  (apply RT.one; apply OneT.eff; exact rfl; intro Kc hKc ops0)
  (repeat' (first | (refine a_bx ?_; intro bx) | (refine a_go ?_; intros) | refine a_sp (fun h => ?_) fun h => ?_ | fail))
  ((first | apply R.nil | skip); apply Fin.kt hKc; exact Mem.le_refl _; (exact a_arrs))
  apply RT.nil
  (repeat' (first | (refine a_bx ?_; intro bx) | (refine a_go ?_; intros) | refine a_sp (fun h => ?_) fun h => ?_ | fail))
  apply C.arr (H2 := (b13, .cells [.int .u64 (f_ : Int), .slice Al it.length cl, .slice Ae it.length ce, .int .i64 (((it.map Prod.snd).sum : Nat) : Int)].toArray 93 (0, 0)) :: (hp5 ++ ((bx, .cells [.pointer (some ⟨rb, 0, none⟩), .int .i64 lim, .slice Ap2 (ps.length + 1) cp2].toArray 91 (0, 0)) :: (hrow2 ++ (ptH ps ++ (lh ++ (eh ++ H))))))) (by (exact a_art))
  (apply C.regionT (t := .free 0 (.free 1 (.free 2 (.free 3 (.free 4 (.free 5 (.free 6 (.free 7 (.free 8 (.one 9 (.free 10 (.free 11 (.free 12 (.free 13 (.free 14 .nil))))))))))))))) (Hs := [(b13, .cells [.int .u64 ↑f_, .slice Al it.length cl, .slice Ae it.length ce, .int .i64 ↑((it.map Prod.snd).sum)].toArray 93 (0, 0))]); exact Mix.h; (first | exact Arr.all _ | (exact a_arr) | (exact a_arrs)); (exact a_np); kernel_rfl)
  (repeat' (first | (apply RT.step; exact rfl; intro _ _ _; (apply Ok.move; exact rfl); exact rfl) | (apply RT.callQ; exact rfl; exact inferInstance; (exact a_evs); exact rfl; (intro M' Hx' hM'; exact rName_K (n := f_) (by omega))) | (apply RT.step; exact rfl; intro _ _ hMx; (first | (apply Ok.indexAddr; exact rfl; exact rfl; omega; omega) | (apply Ok.loadP; exact rfl; exact rfl; exact hMx.2.2 _ _ hMb5; exact hcell)); exact rfl) | refine a_ot ?_ | fail))
  (apply RT.one; apply OneT.eff; exact rfl; intro Kc hKc ops0)
  apply R.arr (H2 := hp5 ++ ((b13, .cells [.int .u64 (f_ : Int), .slice Al it.length cl, .slice Ae it.length ce, .int .i64 (((it.map Prod.snd).sum : Nat) : Int)].toArray 93 (0, 0)) :: (bx, .cells [.pointer (some ⟨rb, 0, none⟩), .int .i64 lim, .slice Ap2 (ps.length + 1) cp2].toArray 91 (0, 0)) :: (hrow2 ++ (ptH ps ++ (lh ++ (eh ++ H)))))) (by (exact a_art))
  (apply R.call; (exact a_evs); exact rfl; exact rtruncate_K (n := nameS f_) (k := (((it.map Prod.snd).sum : Nat) : Int)) ho5 (by omega) (by omega); rintro _ M6 _ ⟨rfl, hM6, hp6, ho6, rfl⟩)
  (apply R.nil; apply Fin.kt (Hx := hp6 ++ ((bx, .cells [.pointer (some ⟨rb, 0, none⟩), .int .i64 lim, .slice Ap2 (ps.length + 1) cp2].toArray 91 (0, 0)) :: (hrow2 ++ (ptH ps ++ (lh ++ (eh ++ H)))))) hKc; exact hM6; (exact a_art))
  rw [Int.toNat_natCast] at ho6
  generalize htr : trcE d5 (nameS f_) (((it.map Prod.snd).sum : Nat) : Int) = et at ho6 hop
  (repeat' (first | (apply RT.step; exact rfl; intro _ _ _; (apply Ok.move; exact rfl); exact rfl) | (apply RT.callQ; exact rfl; exact inferInstance; (exact a_evs); exact rfl; (intro M' Hx' hM'; exact ror_K (e := et))) | refine a_ot ?_ | fail))
  apply RT.nil
  by_cases he : et = 0
  ·rw [if_neg (fun h => h he)] at hop
   rw [hop] at hQ
   rw [if_pos he, he]
   have hgM := hg2.mono hM6
   obtain ⟨hL2, hHL⟩ : ∃ x : Hp, x = ((bx, rgB rb lim (.slice Ap2 (ps.length + 1) cp2)) :: (hrow2 ++ ptH (ps ++ [⟨⟨f_, it⟩, .slice Al it.length cl, .slice Ae it.length ce, lh, eh⟩]))) := ⟨_, rfl⟩
   rw [← hHL] at hgM
   (repeat' (first | (refine a_bx ?_; intro bx) | (refine a_go ?_; intros) | refine a_sp (fun h => ?_) fun h => ?_ | fail))
   apply Fin.arr (H2 := hL2 ++ (hp6 ++ H)) (by rw [hHL, ptH_snoc]; dsimp only; unfold rgB; (exact a_art))
   (refine Fin.rA (hL2 ++ (hp6 ++ H)) ?_)
   exact ⟨hMM.trans_ hM6, hp6, ho6, .inr ⟨rfl, bx, hL2, rfl, hgM, rfl⟩⟩
  ·rw [if_pos he] at hop
   rw [hop] at hQ
   rw [if_neg he]
   (repeat' (first | (refine a_bx ?_; intro bx) | (refine a_go ?_; intros) | refine a_sp (fun h => ?_) fun h => ?_ | fail))
   (refine Fin.rA (hp6 ++ H) ?_)
   exact ⟨hMM.trans_ hM6, hp6, ho6, .inl ⟨he, rfl, rfl⟩⟩
end Go.Sx
end
section
namespace Go.Sx
open Go Go.Proofs Go.RowKit
theorem handE_len : ∀ (ls : List En) (i t : Int), (handE i t ls).length = ls.length
 | [], _, _ => rfl
 | l :: ls, i, t => by rw [handE, List.length_cons, List.length_cons, handE_len ls]
end Go.Sx
end
section
namespace Go.Sx
open Go Go.Proofs Go.RowKit
attribute [local irreducible] C R Fin K Own OwnT Rd Pl Ok KOf RetOk OpsOf RP KP Res NoPanic KV KE MapS ItS EntS FsO FsR RowD PlD DkO PlFs RT KT OneT RS KS OneS RdO
variable {M M' : Mem} {H H1 H2 : Hp}
theorem PlFs.mk {A : Option Addr} {cap : Nat} {es : List FE} (h1 : es.length ≤ cap) (h2 : cap ≤ 9223372036854775807) (h3 : Pl M A (es.map feC).flatten) (h4 : EsOk M es) : PlFs M (.slice A es.length cap) (es.map feP) := by
 unfold PlFs
 exact ⟨A, cap, es, rfl, h1, h2, h3, h4, rfl⟩
end Go.Sx
end
section
namespace Go.Sx
open Go Go.Proofs Go.RowKit Go.ChangeShapes Go.WideShapes Go.ChangeAt
attribute [local irreducible] C R Fin K Own OwnT Rd Pl Ok KOf RetOk OpsOf RP KP Res NoPanic KV
variable {M M' : Mem} {H H1 hrow : Hp}
section
variable {Hh : Type} {enc : TypeId × Value → Hh} {W : World} {m : Nat} {cs : List Value} {z : DataW Hh × List MemPlace}
theorem rd_en (h : Trd enc Tryz.prog W m 33 cs z) (hw : Wgt Tryz.prog 33 z.1) : ∃ (e : En) (A : Option Addr) (cap : Nat), cs = ecells e (.slice A e.data.length cap) ∧ Pl (Mem.of W) A (e.data.map bv) ∧ e.data.length ≤ cap ∧ cap ≤ 140737488351232 ∧ rng e := by
 obtain ⟨hl, k, hf⟩ := rd_fields Tryz.underlying33 h hw
 rw [show Tryz.prog.cellsOf 33 = 5 by kernel_rfl] at hl
 obtain ⟨y0, h0, _⟩ := hf 0 3 0 1 rfl (by kernel_rfl)
 obtain ⟨y1, h1, _⟩ := hf 1 27 1 1 rfl (by kernel_rfl)
 obtain ⟨y2, h2, _⟩ := hf 2 27 2 1 rfl (by kernel_rfl)
 obtain ⟨y3, h3, g3⟩ := hf 3 28 3 1 rfl (by kernel_rfl)
 obtain ⟨y4, h4, _⟩ := hf 4 3 4 1 rfl (by kernel_rfl)
 obtain ⟨a0, e0, w0⟩ := rd_int h0
 obtain ⟨a1, e1, w1⟩ := rd_int h1
 obtain ⟨a2, e2, w2⟩ := rd_int h2
 obtain ⟨A, bs, cap, e3, q1, q2, q3⟩ := rd_bytes h3 g3
 obtain ⟨a4, e4, w4⟩ := rd_int h4
 match cs, hl with
 | [x0, x1, x2, x3, x4], _ =>
  cases e0; cases e1; cases e2; cases e3; cases e4
  exact ⟨⟨a0, a1, a2, bs, a4⟩, A, cap, rfl, q2, q1, q3, w0, w1, w2, w4⟩
theorem rd_ens : ∀ (css : List (List Value)), (∀ c ∈ css, c.length = 5 ∧ ∃ m y, Trd enc Tryz.prog W m 33 c y ∧ Wgt Tryz.prog 33 y.1) → ∃ (es : List En) (vs : List Value), css = rowE es vs ∧ es.length = css.length ∧ PlV (Mem.of W) vs (es.map En.data) ∧ ∀ e ∈ es, rng e ∧ e.data.length ≤ 140737488351232
 | [], _ => ⟨[], [], rfl, rfl, PlV.nil, fun _ h => absurd h (List.not_mem_nil)⟩
 | c :: css, h => by
  obtain ⟨es, vs, h1, h2, h3, h4⟩ := rd_ens css (fun c hc => h c (List.mem_cons_of_mem _ hc))
  obtain ⟨_, m, y, h5, h6⟩ := h c (List.mem_cons_self ..)
  obtain ⟨e, A, cap, rfl, q1, q2, q3, q4⟩ := rd_en h5 h6
  refine ⟨e :: es, .slice A e.data.length cap :: vs, by rw [h1]; rfl, by simp [h2], ?_, ?_⟩
  ·refine ⟨by simp [h3.1], fun i v l hv hl => ?_⟩
   cases i with
   | zero =>
    cases hv
    cases hl
    exact ⟨A, cap, rfl, q2, by omega, q1⟩
   | succ i => exact h3.2 i v l hv hl
  ·intro x hx
   rcases List.mem_cons.1 hx with rfl | hx
   ·exact ⟨q4, by omega⟩
   ·exact h4 x hx
theorem arg_ens {A : Option Addr} {css : List (List Value)} {cap : Nat} (hl : css.length ≤ cap) (hp : Pl (Mem.of W) A css.flatten) (hc : cap * 56 ≤ 140737488351232) (hall : ∀ c ∈ css, c.length = 5 ∧ ∃ m y, Trd enc Tryz.prog W m 33 c y ∧ Wgt Tryz.prog 33 y.1) :
  ∃ es : List En, es.length = css.length ∧ EnL (Mem.of W) (.slice A css.length cap) es ∧ (∀ e ∈ es, e.data.length ≤ 140737488351232) ∧ ∀ e ∈ es, rng e := by
 obtain ⟨es, vs, h1, h2, h3, h4⟩ := rd_ens css hall
 refine ⟨es, h2, ⟨A, cap, vs, by rw [h2], by omega, by omega, by rw [← h1]; exact hp, h3⟩, fun e he => (h4 e he).2, fun e he => (h4 e he).1⟩
end
end Go.Sx
end
section
namespace Go.Sx
open Go Go.Proofs Go.RowKit
attribute [local irreducible] C R Fin K Own OwnT Rd Pl Ok KOf RetOk OpsOf RP KP Res NoPanic KV KE MapS ItS EntS FsO FsR RowD PlD DkO PlFs RT KT OneT RS KS OneS RdO SgO RgO
variable {M M' : Mem} {H H1 H2 : Hp}
theorem mendR_sz : ∀ (ns : List Nat) (d : Dk), szD (mendR d ns).2 ≤ szD d + ns.length
 | [], d => Nat.le_refl _
 | n :: ns, d => by
  unfold mendR
  split
  ·have := opD_sz d (remE d (nameS n)) (.rem (nameS n))
   rw [List.length_cons]
   dsimp only
   omega
  ·have h1 := opD_sz d 0 (.rem (nameS n))
   have h2 := mendR_sz ns (opD 0 d (.rem (nameS n)))
   rw [List.length_cons]
   omega
theorem mendD_sz (d : Dk) (ns : List Nat) (f : Nat) (it : List (En × Nat)) : szD (mendD d ns f it).2 ≤ szD d + ns.length + 1 := by
 have h1 := mendR_sz ns.tail.reverse d
 rw [List.length_reverse, List.length_tail] at h1
 unfold mendD
 split
 ·omega
 ·unfold mendE
  split
  ·have := opD_sz (mendR d ns.tail.reverse).2 (remE (mendR d ns.tail.reverse).2 (nameS f)) (.rem (nameS f))
   exact Nat.le_trans this (by omega)
  ·have := opD_sz (mendR d ns.tail.reverse).2 (trcE (mendR d ns.tail.reverse).2 (nameS f) ((it.map Prod.snd).sum : Int)) (.trc (nameS f) (it.map Prod.snd).sum)
   exact Nat.le_trans this (by omega)
theorem openG_sz {d : Dk} : ∀ (ns : List Nat) (acc : List Sg), szD (openG d ns acc).2.1 ≤ szD d + ns.length + 1
 | [], acc => by
  show szD d ≤ _
  omega
 | n :: ns, acc => by
  have hm := mendD_sz d (n :: ns) n (readF (lastO acc) n ((readD d (nameS n)).getD [])).1
  rw [openG]
  split
  ·have := openG_sz (d := d) ns (if 0 < (readF (lastO acc) n ((readD d (nameS n)).getD [])).1.length then acc ++ [⟨n, (readF (lastO acc) n ((readD d (nameS n)).getD [])).1⟩] else acc)
   rw [List.length_cons]
   omega
  ·split
   ·exact hm
   ·exact hm
theorem openS_sz (d : Dk) : szD (openS d).2.1 ≤ szD d + d.now.length + 1 := by
 have h1 := openG_sz (d := d) (numsF (namesD d.down d.now)) []
 have h2 := Nat.le_trans (numsF_len (namesD d.down d.now)) (namesD_len (d := d))
 unfold openS
 omega
theorem EsOk.set {es : List FE} {k : Nat} {x : FE} (h : EsOk M es) (hx : PlB M x.v x.b) : EsOk M (es.set k x) := fun e he => by
 rcases List.mem_or_eq_of_mem_set he with he | he
 ·exact h e he
 ·rw [he]; exact hx
def smF (N : Nat) (es : List FE) : Prop := ∀ e ∈ es, e.n.length ≤ 1048576 ∧ e.b.length ≤ N
theorem smF.set {N : Nat} {es : List FE} {k : Nat} {x : FE} (h : smF N es) (h1 : x.n.length ≤ 1048576) (h2 : x.b.length ≤ N) : smF N (es.set k x) := fun e he => by
 rcases List.mem_or_eq_of_mem_set he with he | he
 ·exact h e he
 ·rw [he]; exact ⟨h1, h2⟩
theorem smF.mono {N N' : Nat} {es : List FE} (h : smF N es) (hN : N ≤ N') : smF N' es := fun e he => ⟨(h e he).1, Nat.le_trans (h e he).2 hN⟩
end Go.Sx
end
section
namespace Go.Sx
open Go Go.Proofs Go.RowKit
attribute [local irreducible] C R Fin K Own OwnT Rd Pl Ok KOf RetOk OpsOf RP KP Res NoPanic KV KE
variable {M M' : Mem} {H H1 H2 : Hp}
theorem into_K (x m : Int) (hm : 0 < m) (hm2 : m ≤ 9223372036854775807) : K Tryz.prog 61 [.int .i64 x, .int .i64 m] M H fun v M' H' => v = .int .i64 (x % m) ∧ M' = M ∧ H' = H := by
 obtain ⟨he, h1, h2⟩ := pick_eq x m hm
 refine K.enterK Tryz.func61 rfl rfl rfl ?_
 intro Q hNP hQ
 (repeat' (first | (apply R.step; (exact a_ok); exact rfl) | (first | (with_reducible first | apply R.nil | apply C.ret | apply C.block | apply C.skip | apply C.exit | apply Fin.thenRet | apply Fin.thenExit | apply Fin.blockNormal | apply Fin.blockRet | apply Fin.blockExit) | (with_reducible apply Fin.thenK; assumption) | (with_reducible apply C.seqK; intro _ _) | (with_reducible apply C.regionK; intro _ _) | (with_reducible apply C.regionQK; exact Mix.h; kernel_rfl; intro _ _) | (with_reducible apply Fin.blockOther; exact rfl)) | (first | (apply R.store; exact rfl; exact rfl; exact rfl; (exact a_at); (exact a_blit); exact rfl; (focus (simp [Value.oneCell']; done))) | (apply R.buildSlice0; exact rfl; intro bz) | (apply R.box; exact rfl; (simp only [Value.cells]; rfl); exact rfl; intro bx) | (apply R.alloc; (simp only [Value.cells]; rfl); exact rfl; intro ba) | (apply R.buildSlice; (exact a_prt); exact rfl; exact rfl; (exact a_fills); exact rfl; intro bl)) | (first | (apply R.guardT; assumption; exact rfl; exact rfl; exact rfl) | (apply R.guardF; assumption; exact rfl; exact rfl; exact rfl; exact rfl; exact rfl) | (apply R.guardU; assumption; exact rfl; exact rfl; exact rfl; exact rfl) | (apply R.guardDec; assumption; exact rfl; exact rfl; (intro h; skip; rotate_left; intro h; skip; rotate_left)) | (apply R.guardBeq; assumption; exact rfl; exact rfl; (intro h; skip; rotate_left; intro h; skip; rotate_left)) | (apply R.guardBne; assumption; exact rfl; exact rfl; (intro h; skip; rotate_left; intro h; skip; rotate_left)) | (apply R.guardNDec; assumption; exact rfl; exact rfl; (intro h; skip; rotate_left; intro h; skip; rotate_left)) | (apply R.guardNot; assumption; exact rfl; exact rfl; (intro h; skip; rotate_left; intro h; skip; rotate_left)) | (apply R.guardC; assumption; exact rfl; exact rfl; (intro h; skip; rotate_left; intro h; skip; rotate_left))) | (first | (apply C.condT; exact rfl) | (apply C.condF; exact rfl) | (apply C.condDec; exact rfl; (intro h; skip; rotate_left; intro h; skip; rotate_left)) | (apply C.condBeq; exact rfl; (intro h; skip; rotate_left; intro h; skip; rotate_left)) | (apply C.condBne; exact rfl; (intro h; skip; rotate_left; intro h; skip; rotate_left)) | (apply C.condNDec; exact rfl; (intro h; skip; rotate_left; intro h; skip; rotate_left)) | (apply C.condNot; exact rfl; (intro h; skip; rotate_left; intro h; skip; rotate_left)) | (apply C.cond; exact rfl; (intro h; skip; rotate_left; intro h; skip; rotate_left)))))
 ·(refine Fin.rt ?_)
  have h : x.tmod m < 0 := by assumption
  exact ⟨by rw [← he, if_pos h], rfl, rfl⟩
 ·(refine Fin.rt ?_)
  have h : ¬ x.tmod m < 0 := by assumption
  exact ⟨by rw [← he, if_neg h], rfl, rfl⟩
end Go.Sx
end
section
namespace Go.Sx
open Go Go.Proofs Go.RowKit
attribute [local irreducible] C R Fin K Own OwnT Rd Pl Ok KOf RetOk OpsOf RP KP Res NoPanic KV KE MapS ItS EntS FsO FsR RowD PlD
variable {M M' : Mem} {H H1 H2 : Hp}
theorem fuse_K {db sb nb : Nat} {room fuse n : Int} {pv : Value} {down : Bool} : K Tryz.prog 93 [.pointer (some ⟨db, 0, none⟩), .int .i64 n] M ((db, dkB room sb nb pv fuse down) :: H) fun v' M' H' => v' = .tuple #[] ∧ M' = M ∧ H' = (db, dkB room sb nb pv (max n (-1)) down) :: H := by
 refine K.enterK Tryz.func93 rfl rfl rfl ?_
 intro Q hNP hQ
 unfold dkB at hQ ⊢
 (repeat' (first | refine a_mv ?_ | (apply R.step; (apply Ok.maxI; exact rfl; exact rfl); exact rfl) | (refine a_go ?_; intros) | refine a_sp (fun h => ?_) fun h => ?_ | fail))
 (refine Fin.rt ?_)
 exact ⟨rfl, rfl, rfl⟩
theorem fuse_KD {db : Nat} {d : Dk} {hp : Hp} {n : Int} (hn : n ≤ 4611686018427387904) (ho : DkO M db d hp) : K Tryz.prog 93 [.pointer (some ⟨db, 0, none⟩), .int .i64 n] M (hp ++ H) fun v' M' H' => v' = .tuple #[] ∧ M' = M ∧ ∃ hp', DkO M db { d with fuse := max n (-1) } hp' ∧ H' = hp' ++ H := by
 obtain ⟨h0, sb, nb, so, no, pv, hr, h1, h2, h3, rfl⟩ := ho
 refine fuse_K.mono ?_
 rintro _ _ _ ⟨rfl, rfl, rfl⟩
 exact ⟨rfl, rfl, _, ⟨⟨h0.1, ⟨by show -1 ≤ max n (-1); omega, by show max n (-1) ≤ _; omega⟩, h0.2.2⟩, sb, nb, so, no, pv, hr, h1, h2, h3, rfl⟩, rfl⟩
end Go.Sx
end
section
namespace Go.Sx
open Go Go.Proofs Go.RowKit
attribute [local irreducible] C R Fin K Own OwnT Rd Pl Ok KOf RetOk OpsOf RP KP Res NoPanic KV KE MapS ItS EntS FsO FsR RowD PlD DkO PlFs RT KT OneT RS KS OneS RdO
variable {M M' : Mem} {H H1 H2 : Hp}
theorem rfuse_K {rb : Nat} {d : Dk} {hp : Hp} {n : Int} (hn0 : 0 ≤ n) (hn : n ≤ 4611686018427387904) (ho : RdO M rb d hp) : K Tryz.prog 94 [.pointer (some ⟨rb, 0, none⟩), .int .i64 n] M (hp ++ H) fun v' M' H' => v' = .tuple #[] ∧ M' = M ∧ ∃ hp', RdO M rb { d with fuse := max n (-1) } hp' ∧ H' = hp' ++ H := by
 refine K.enterK Tryz.func94 rfl rfl rfl ?_
 intro Q hNP hQ
 unfold RdO at ho
 obtain ⟨⟨F, G, sv, nv, wv, fused, fuse⟩, hi, rfl⟩ := ho
 have hm1 : max n (-1) = n := by omega
 have hm0 : max (0 : Int) n = n := by omega
 rw [hm1] at hQ
 dsimp only
 unfold rdkB
 (repeat' (first | refine a_mv ?_ | (apply R.step; (exact a_cmp); exact rfl) | (refine a_go ?_; intros) | refine a_sp (fun h => ?_) fun h => ?_ | fail))
 (refine Fin.rA ([(rb, rdkB d.room sv nv wv true (max 0 n) d.down)] ++ H) ?_)
 rw [hm0]
 exact ⟨rfl, rfl, _, RdO.of (d := { d with fuse := n }) (x := ⟨F, G, sv, nv, wv, true, n⟩) ⟨⟨hi.ok.1, ⟨by dsimp only; omega, hn⟩, hi.ok.2.2.1, hi.ok.2.2.2⟩, hi.sF, hi.nG, hi.pS, hi.pN, hi.srtF, hi.srtG, hi.w, rfl, fun _ => hn0⟩, rfl⟩
theorem room_KD {db : Nat} {d : Dk} {hp : Hp} {n : Int} (hn0 : 0 ≤ n) (hn : n ≤ 1048576) (ho : DkO M db d hp) : K Tryz.prog 95 [.pointer (some ⟨db, 0, none⟩), .int .i64 n] M (hp ++ H) fun v' M' H' => v' = .int .i64 0 ∧ M' = M ∧ ∃ hp', DkO M db { d with room := n } hp' ∧ H' = hp' ++ H := by
 refine K.enterK Tryz.func95 rfl rfl rfl ?_
 intro Q hNP hQ
 unfold DkO at ho
 obtain ⟨h0, sb, nb, so, no, pv, hr, h1, h2, h3, rfl⟩ := ho
 unfold dkB
 (repeat' (first | refine a_mv ?_ | (apply R.step; (exact a_cmp); exact rfl) | (refine a_go ?_; intros) | refine a_sp (fun h => ?_) fun h => ?_ | fail))
 (refine Fin.rA (((db, dkB n sb nb pv d.fuse d.down) :: (nb, no) :: (sb, so) :: hr) ++ H) ?_)
 refine ⟨rfl, rfl, _, ?_, rfl⟩
 unfold DkO
 exact ⟨⟨⟨hn0, hn⟩, h0.2.1, h0.2.2.1, h0.2.2.2⟩, sb, nb, so, no, pv, hr, h1, h2, h3, rfl⟩
theorem rcrash_K {rb : Nat} {d : Dk} {hp : Hp} {keep torn : Int} (ho : RdO M rb d hp) (hln : szD d ≤ 1000000) : K Tryz.prog 18 [.pointer (some ⟨rb, 0, none⟩), .int .i64 keep, .int .i64 torn] M (hp ++ H) fun v' M' H' => v' = .int .i64 (keepD d keep : Int) ∧ M.le M' ∧ ∃ hp', RdO M' rb (crashD d keep torn) hp' ∧ H' = hp' ++ H := by
 refine K.enterK Tryz.func18 rfl rfl rfl ?_
 intro Q hNP hQ
 have hok := ho.isok
 have hln' := hln
 unfold szD at hln'
 unfold RdO at ho
 obtain ⟨⟨F, G, sv, nv, wv, fused, fuse⟩, hi, rfl⟩ := ho
 have hw := hi.w
 have hsF := hi.sF
 have hpS := hi.pS
 have hsrt := hi.srtF
 dsimp only at hw hsF hpS hsrt ⊢
 obtain ⟨A, cap, rfl, w1, w2, _⟩ := id hw
 obtain ⟨A0, k0, es0, hsv, hsv2⟩ := hsF.form
 have hk0 : 0 ≤ keep % ((d.ps.length + 1 : Nat) : Int) := Int.emod_nonneg _ (by omega)
 have hk1 : keep % ((d.ps.length + 1 : Nat) : Int) < ((d.ps.length + 1 : Nat) : Int) := Int.emod_lt_of_pos _ (by omega)
 obtain ⟨k, hk⟩ : ∃ k, k = keepD d keep := ⟨_, rfl⟩
 have hkk : keep % ((d.ps.length + 1 : Nat) : Int) = (k : Int) := by rw [hk]; unfold keepD; omega
 have hkl : k ≤ d.ps.length := by omega
 unfold rdkB
 (repeat' (first | (refine a_go ?_; intros) | refine a_sp (fun h => ?_) fun h => ?_ | fail))
 (apply R.call; (exact a_evs); exact rfl; exact into_K keep ((d.ps.length : Int) + 1) (by omega) (by omega); rintro _ M1 _ ⟨rfl, rfl, rfl⟩)
 rw [show (d.ps.length : Int) + 1 = ((d.ps.length + 1 : Nat) : Int) by omega, hkk]
 have hfl : ∀ i, ((d.ps.take i).foldl doneF F).length ≤ 1000000 := fun i => by
  have h1 := (foldl_done_perm (ps := d.ps.take i) hsrt hpS).length_eq
  have h2 := fold_length (d.ps.take i) d.S
  rw [List.length_take] at h2
  omega
 have hsm : ∀ i, i ≤ d.ps.length → sumF ((d.ps.take i).foldl doneF F) ≤ 1048576 := fun i hi => by
  rw [sumF_perm (foldl_done_perm (ps := d.ps.take i) hsrt hpS)]
  exact Runs.sumAt hok.2.2.1 hok.2.2.2 i
 have hnS : (keyS d.S).Nodup := (hpS.map Prod.fst).nodup_iff.1 hsrt.nodup
 (repeat' (first | (refine a_g0 ?_; intros) | refine a_s3 (fun h => ?_) fun h => ?_ | fail))
 apply C.seqCut (X := RcY) (fun y => M1.le y.M ∧ PlFs y.M y.v ((d.ps.take k).foldl doneF F)) (fun y => [(0, .pointer (some ⟨rb, 0, none⟩)), (2, .int .i64 torn), (7, .int .i64 (k : Int)), (8, y.v)]) (fun y => y.M) (fun _ => [(rb, .cells [.int .i64 d.room, sv, nv, .slice A d.ps.length cap, .bool fused, .int .i64 fuse, .bool d.down].toArray 68 (0, 0))] ++ H)
 ·(repeat' (first | (refine a_go ?_; intros) | refine a_sp (fun h => ?_) fun h => ?_ | fail))
  apply C.loop (fun y : RcX => (y.i : Int) = y.ii ∧ y.i ≤ k ∧ M1.le y.M ∧ PlFs y.M y.v ((d.ps.take y.i).foldl doneF F))
   (fun y => [(0, .pointer (some ⟨rb, 0, none⟩)), (2, .int .i64 torn), (7, .int .i64 (k : Int)), (8, y.v), (9, .int .i64 y.ii)]) (fun y => y.M) (fun y => [(rb, .cells [.int .i64 d.room, sv, nv, .slice A d.ps.length cap, .bool fused, .int .i64 fuse, .bool d.down].toArray 68 (0, 0))] ++ H) (fun y => k - y.i) ⟨0, 0, F, sv, M1⟩
  ·exact ⟨rfl, Nat.zero_le _, Mem.le_refl _, hsF⟩
  ·(exact a_subs)
  ·exact rfl
  ·exact rfl
  rintro ⟨i, ii, _, v, M2⟩ ⟨hii, hik, hM2, hf⟩
  dsimp only at hii hik hM2 hf ⊢
  by_cases hlt : i < k
  ·have hip : i < d.ps.length := by omega
   obtain ⟨b0, o0, cc, e0, f0, dc, rfl, hMb, hdc, hcell⟩ := (hw.mono hM2).at hip
   have hfit := hok.2.2.2.at hip
   have hc5 := hdc.cells
   obtain ⟨c0, d1, d2, d3, d4, rfl⟩ : ∃ c0 c1 c2 c3 c4, dc = [c0, c1, c2, c3, c4] := by
    match dc, hc5.1 with
    | [a, b, c, d, e], _ => exact ⟨a, b, c, d, e, rfl⟩
   have hcell2 : ∀ (q : Nat) u, [c0, d1, d2, d3, d4][q]? = some u → cc[o0 + ii.toNat * 5 + q]? = some u := fun q u hq => by
    rw [show ii.toNat = i by omega]
    exact hcell q u hq
   clear hcell
   (repeat' (first | refine a_mv ?_ | (apply R.step; (first | (apply Ok.ltTr; exact rfl; exact rfl; omega) | (apply Ok.loadAggP (vs := [c0, d1, d2, d3, d4]); exact rfl; exact rfl; exact hMb; exact rfl; exact hcell2)); exact rfl) | (refine a_go ?_; intros) | refine a_sp (fun h => ?_) fun h => ?_ | fail))
   (apply R.call; (exact a_evs); exact rfl; exact rdone_K (c := [c0, d1, d2, d3, d4]) hf (hfl i) (hsm i (by omega)) hdc (smallX_perm (foldl_done_srt hsrt) (foldl_done_perm hsrt hpS) (hfit.small (foldl_nodup hnS))); rintro v3 M3 _ ⟨hf3, hM3, rfl⟩)
   (repeat' (first | (refine a_go ?_; intros) | refine a_sp (fun h => ?_) fun h => ?_ | fail))
   refine Fin.again (⟨i + 1, ii + 1, F, v3, M3⟩ : RcX) ⟨by dsimp only; omega, by dsimp only; omega, hM2.trans_ hM3, ?_⟩ (by dsimp only; omega) ?_ rfl rfl
   ·dsimp only
    rw [List.take_succ_eq_append_getElem hip, List.foldl_append]
    exact hf3
   ·(exact a_subs)
  have hie : i = k := by omega
  subst hie
  (repeat' (first | refine a_mv ?_ | (apply R.step; (exact a_cmp); exact rfl) | (refine a_go ?_; intros) | refine a_sp (fun h => ?_) fun h => ?_ | fail))
  refine Fin.join (⟨F, v, M2⟩ : RcY) ⟨hM2, hf⟩ ?_ rfl rfl
  (exact a_subs)
 rintro ⟨_, v, M2⟩ ⟨hM2, hf⟩
 dsimp only at hM2 hf ⊢
 have hs0 := foldl_done_srt (ps := d.ps.take k) hsrt
 have hp0 := foldl_done_perm (ps := d.ps.take k) hsrt hpS
 have hl0 := hfl k
 have hm0 := hsm k hkl
 have hno : d.ps.length ≤ k → crashF d keep torn = (d.ps.take k).foldl doF d.S := fun h => by
  unfold crashF
  rw [← hk, List.getElem?_eq_none h]
 have hyes : ∀ (h : k < d.ps.length), crashF d keep torn = tornF ((d.ps.take k).foldl doF d.S) d.ps[k] torn := fun h => by
  unfold crashF
  rw [← hk, List.getElem?_eq_getElem h]
 have hnp : (keyS ((d.ps.take k).foldl doF d.S)).Nodup := foldl_nodup hnS
 have hcs : sumF (crashF d keep torn) ≤ 1048576 := by
  by_cases hip : k < d.ps.length
  ·rw [hyes hip]
   exact torn_sum hnp (Runs.sumAt hok.2.2.1 hok.2.2.2 k) (hok.2.2.2.at hip)
  ·rw [hno (by omega)]
   exact Runs.sumAt hok.2.2.1 hok.2.2.2 k
 generalize (d.ps.take k).foldl doneF F = G0 at hf hs0 hp0 hl0 hm0
 (repeat' (first | (refine a_g0 ?_; intros) | refine a_s3 (fun h => ?_) fun h => ?_ | fail))
 apply C.seqCut (X := RcY) (fun y => M1.le y.M ∧ PlFs y.M y.v y.F ∧ Srt y.F ∧ y.F.Perm (crashF d keep torn)) (fun y => [(0, .pointer (some ⟨rb, 0, none⟩)), (7, .int .i64 (k : Int)), (8, y.v)]) (fun y => y.M) (fun _ => [(rb, .cells [.int .i64 d.room, sv, nv, .slice A d.ps.length cap, .bool fused, .int .i64 fuse, .bool d.down].toArray 68 (0, 0))] ++ H)
 ·by_cases hip : k < d.ps.length
  ·rw [hyes hip]
   have hfit := hok.2.2.2.at hip
   obtain ⟨b0, o0, cc, e0, f0, dc, rfl, hMb, hdc, hcell⟩ := (hw.mono hM2).at hip
   have hcell2 : ∀ (q : Nat) u, dc[q]? = some u → cc[o0 + ((k : Nat) : Int).toNat * 5 + q]? = some u := fun q u hq => hcell q u hq
   clear hcell hyes hno hcs
   generalize d.ps[k] = x at hdc hfit ⊢
   cases x with
   | trc n kk =>
    cases hdc
    (repeat' (first | refine a_mv ?_ | (apply R.step; (first | (apply Ok.ltTr; exact rfl; exact rfl; omega) | (apply Ok.loadP; exact rfl; exact rfl; exact hMb; exact hcell2 0 _ rfl)); exact rfl) | (refine a_go ?_; intros) | refine a_sp (fun h => ?_) fun h => ?_ | fail))
    refine Fin.join (⟨G0, v, M2⟩ : RcY) ⟨hM2, hf, hs0, hp0⟩ ?_ rfl rfl
    (exact a_subs)
   | ren n t =>
    cases hdc
    (repeat' (first | refine a_mv ?_ | (apply R.step; (first | (apply Ok.ltTr; exact rfl; exact rfl; omega) | (apply Ok.loadP; exact rfl; exact rfl; exact hMb; exact hcell2 0 _ rfl)); exact rfl) | (refine a_go ?_; intros) | refine a_sp (fun h => ?_) fun h => ?_ | fail))
    refine Fin.join (⟨G0, v, M2⟩ : RcY) ⟨hM2, hf, hs0, hp0⟩ ?_ rfl rfl
    (exact a_subs)
   | rem n =>
    cases hdc
    (repeat' (first | refine a_mv ?_ | (apply R.step; (first | (apply Ok.ltTr; exact rfl; exact rfl; omega) | (apply Ok.loadP; exact rfl; exact rfl; exact hMb; exact hcell2 0 _ rfl)); exact rfl) | (refine a_go ?_; intros) | refine a_sp (fun h => ?_) fun h => ?_ | fail))
    refine Fin.join (⟨G0, v, M2⟩ : RcY) ⟨hM2, hf, hs0, hp0⟩ ?_ rfl rfl
    (exact a_subs)
   | app n b =>
    obtain ⟨fv, hce, hb⟩ := hdc
    subst hce
    obtain ⟨Ab, cb, rfl, q1, q2, q3⟩ := hb
    have hbs := hfit.small hnp
    change b.length ≤ 1048576 at hbs
    by_cases hb0 : b.length = 0
    ·have hT : tornF ((d.ps.take k).foldl doF d.S) (.app n b) torn = (d.ps.take k).foldl doF d.S := if_neg (fun h => by omega)
     (repeat' (first | refine a_mv ?_ | (apply R.step; (first | (apply Ok.ltTr; exact rfl; exact rfl; omega) | (apply Ok.gtF; exact rfl; exact rfl; omega) | (apply Ok.loadP; exact rfl; exact rfl; exact hMb; exact hcell2 0 _ rfl) | (apply Ok.loadP; exact rfl; exact rfl; exact hMb; exact hcell2 3 _ rfl)); exact rfl) | (refine a_go ?_; intros) | refine a_sp (fun h => ?_) fun h => ?_ | fail))
     refine Fin.join (⟨G0, v, M2⟩ : RcY) ⟨hM2, hf, hs0, by dsimp only; rw [hT]; exact hp0⟩ ?_ rfl rfl
     (exact a_subs)
    ·have ht0 : 0 ≤ torn % (b.length : Int) := Int.emod_nonneg _ (by omega)
     have ht1 : torn % (b.length : Int) < (b.length : Int) := Int.emod_lt_of_pos _ (by omega)
     obtain ⟨t, ht⟩ : ∃ t : Nat, torn % (b.length : Int) = (t : Int) := ⟨_, (Int.toNat_of_nonneg ht0).symm⟩
     have hagg : ∀ (q : Nat) u, [Value.int .i64 0, str n, str [], Value.slice Ab b.length cb, Value.int .i64 0][q]? = some u → cc[o0 + ((k : Nat) : Int).toNat * 5 + q]? = some u := fun q u hq => hcell2 q u hq
     (repeat' (first | refine a_mv ?_ | (apply R.step; (first | (apply Ok.ltTr; exact rfl; exact rfl; omega) | (apply Ok.gtTr; exact rfl; exact rfl; omega) | (apply Ok.loadAggP (vs := [Value.int .i64 0, str n, str [], Value.slice Ab b.length cb, Value.int .i64 0]); exact rfl; exact rfl; exact hMb; exact rfl; exact hagg) | (apply Ok.loadP; exact rfl; exact rfl; exact hMb; exact hcell2 0 _ rfl) | (apply Ok.loadP; exact rfl; exact rfl; exact hMb; exact hcell2 3 _ rfl)); exact rfl) | (refine a_go ?_; intros) | refine a_sp (fun h => ?_) fun h => ?_ | fail))
     (apply R.store (vs := [Value.int .i64 0, str n, str [], Value.slice Ab b.length cb, Value.int .i64 0]); exact rfl; exact rfl; exact rfl; (exact a_at); (exact a_blit); exact rfl; (intro u hu; simp only [List.mem_cons, List.not_mem_nil, or_false] at hu; rcases hu with rfl | rfl | rfl | rfl | rfl <;> rfl))
     (repeat' (first | (refine a_go ?_; intros) | refine a_sp (fun h => ?_) fun h => ?_ | fail))
     (apply R.call; (exact a_evs); exact rfl; exact into_K torn (b.length : Int) (by omega) (by omega); rintro _ M3 _ ⟨rfl, rfl, rfl⟩)
     rw [ht]
     have hTn : (torn % (b.length : Int)).toNat = t := by omega
     by_cases htp : 0 < t
     ·have hT : tornF ((d.ps.take k).foldl doF d.S) (.app n b) torn = doF ((d.ps.take k).foldl doF d.S) (.app n (b.take t)) := by
       unfold tornF
       dsimp only
       rw [hTn, if_pos (by omega)]
      (repeat' (first | refine a_mv ?_ | (apply R.step; (first | (apply Ok.gtTr; exact rfl; exact rfl; omega) | (apply Ok.sliceHi; exact rfl; exact rfl; omega; omega)); exact rfl) | (refine a_go ?_; intros) | refine a_sp (fun h => ?_) fun h => ?_ | fail))
      have hbt : PlB M3 (.slice Ab (t : Int).toNat cb) (b.take t) := by
       have e1 : (b.take t).length = t := by rw [List.length_take]; omega
       refine ⟨Ab, cb, by rw [e1]; rfl, by omega, q2, ?_⟩
       have := q3.take t
       rwa [← List.map_take] at this
      (apply R.call; (exact a_evs); exact rfl; exact rdone_K (c := [.int .i64 0, str n, str [], .slice Ab (t : Int).toNat cb, .int .i64 0]) (x := .app n (b.take t)) hf hl0 hm0 ⟨_, rfl, hbt⟩ (by show (b.take t).length ≤ _; rw [List.length_take]; omega); rintro v4 M4 _ ⟨hf4, hM4, rfl⟩)
      (repeat' (first | (refine a_go ?_; intros) | refine a_sp (fun h => ?_) fun h => ?_ | fail))
      (apply Fin.arr (H2 := [(rb, .cells [.int .i64 d.room, sv, nv, .slice (some ⟨b0, o0, none⟩) d.ps.length cap, .bool fused, .int .i64 fuse, .bool d.down].toArray 68 (0, 0))] ++ H); (exact a_arrs))
      refine Fin.join (⟨doneF G0 (.app n (b.take t)), v4, M4⟩ : RcY) ⟨hM2.trans_ hM4, hf4, (by dsimp only; exact doneF_srt hs0), (by dsimp only; rw [hT]; exact doneF_perm hs0 hp0)⟩ ?_ rfl rfl
      (exact a_subs)
     ·have hT : tornF ((d.ps.take k).foldl doF d.S) (.app n b) torn = (d.ps.take k).foldl doF d.S := if_neg (fun h => by omega)
      (repeat' (first | refine a_mv ?_ | (apply R.step; (apply Ok.gtF; exact rfl; exact rfl; omega); exact rfl) | (refine a_go ?_; intros) | refine a_sp (fun h => ?_) fun h => ?_ | fail))
      (apply Fin.arr (H2 := [(rb, .cells [.int .i64 d.room, sv, nv, .slice (some ⟨b0, o0, none⟩) d.ps.length cap, .bool fused, .int .i64 fuse, .bool d.down].toArray 68 (0, 0))] ++ H); (exact a_arrs))
      refine Fin.join (⟨G0, v, M3⟩ : RcY) ⟨hM2, hf, hs0, by dsimp only; rw [hT]; exact hp0⟩ ?_ rfl rfl
      (exact a_subs)
  ·rw [hno (by omega)]
   (repeat' (first | refine a_mv ?_ | (apply R.step; (exact a_cmp); exact rfl) | (refine a_go ?_; intros) | refine a_sp (fun h => ?_) fun h => ?_ | fail))
   refine Fin.join (⟨G0, v, M2⟩ : RcY) ⟨hM2, hf, hs0, hp0⟩ ?_ rfl rfl
   (exact a_subs)
 rintro ⟨F2, v, M2⟩ ⟨hM2, hf, hs2, hp2⟩
 dsimp only at hM2 hf hs2 hp2 ⊢
 obtain ⟨A2, k2, es2, rfl, _⟩ := hf.form
 (repeat' (first | (refine a_go ?_; intros) | refine a_sp (fun h => ?_) fun h => ?_ | fail))
 (refine Fin.rA ([(rb, .cells [.int .i64 d.room, .slice A2 es2.length k2, .slice A2 es2.length k2, .slice none 0 0, .bool false, .int .i64 fuse, .bool false].toArray 68 (0, 0))] ++ H) ?_)
 refine ⟨by rw [hk], hM2, _, RdO.of (d := crashD d keep torn) (x := ⟨F2, F2, .slice A2 es2.length k2, .slice A2 es2.length k2, .slice none 0 0, false, fuse⟩) ⟨⟨hok.1, ⟨Int.le_refl _, show (-1 : Int) ≤ 4611686018427387904 by decide⟩, hcs, trivial⟩, hf, hf, hp2, hp2, hs2, hs2, PlW.nil, rfl, fun h => by cases h⟩, rfl⟩
def harmD (d : Dk) (what a b : Int) : Dk :=
 if what % 9 = 6 then { d with fuse := max (a % 9) (-1) } else if what % 9 = 7 then crashD d a b else if what % 9 = 8 then { d with room := a % 2000 } else d
theorem harmD_sz (d : Dk) (what a b : Int) : szD (harmD d what a b) ≤ szD d := by
 unfold harmD
 split
 ·exact Nat.le_refl _
 ·split
  ·exact crash_sz _ _ _
  ·split <;> exact Nat.le_refl _
theorem harms_K {db rb : Nat} {d : Dk} {hp hq : Hp} {what a b : Int} (ho : DkO M db d hp) (hr : RdO M rb d hq) (hsz : szD d ≤ 1000000) : K Tryz.prog 50 [.pointer (some ⟨db, 0, none⟩), .pointer (some ⟨rb, 0, none⟩), .agg #[.int .i64 what, .int .i64 a, .int .i64 b]] M (hp ++ (hq ++ H)) fun v' M' H' => v' = .tuple #[] ∧ M.le M' ∧ ∃ hp' hq', DkO M' db (harmD d what a b) hp' ∧ RdO M' rb (harmD d what a b) hq' ∧ H' = hp' ++ (hq' ++ H) := by
 refine K.enterK Tryz.func50 rfl rfl rfl ?_
 intro Q hNP hQ
 have hps := ps_sz d
 unfold harmD at hQ
 (repeat' (first | (refine a_bx ?_; intro bx) | (refine a_go ?_; intros) | refine a_sp (fun h => ?_) fun h => ?_ | fail))
 (apply R.call; (exact a_evs); exact rfl; exact pick_K what 9 (by decide) (by decide); rintro _ M _ ⟨rfl, rfl, rfl⟩)
 by_cases h6 : what % 9 = 6
 ·rw [if_pos h6] at hQ
  have ha := Int.emod_nonneg a (show (9 : Int) ≠ 0 by decide)
  have hb := Int.emod_lt_of_pos a (show (0 : Int) < 9 by decide)
  (repeat' (first | refine a_mv ?_ | (apply R.step; (apply Ok.eqIR; exact rfl; exact rfl; exact h6); exact rfl) | (refine a_bx ?_; intro bx) | (refine a_go ?_; intros) | refine a_sp (fun h => ?_) fun h => ?_ | fail))
  (apply R.call; (exact a_evs); exact rfl; exact pick_K a 9 (by decide) (by decide); rintro _ M _ ⟨rfl, rfl, rfl⟩)
  (repeat' (first | (refine a_bx ?_; intro bx) | (refine a_go ?_; intros) | refine a_sp (fun h => ?_) fun h => ?_ | fail))
  apply R.arr (H2 := hp ++ ((bx, .cells #[.int .i64 what, .int .i64 a, .int .i64 b] 55 (0, 0)) :: (hq ++ H))) (by (exact a_arrs))
  (apply R.call; (exact a_evs); exact rfl; exact fuse_KD (n := a % 9) (by omega) ho; rintro _ M _ ⟨rfl, rfl, hp2, ho2, rfl⟩)
  (repeat' (first | (refine a_bx ?_; intro bx) | (refine a_go ?_; intros) | refine a_sp (fun h => ?_) fun h => ?_ | fail))
  (apply R.call; (exact a_evs); exact rfl; exact pick_K a 9 (by decide) (by decide); rintro _ M _ ⟨rfl, rfl, rfl⟩)
  apply R.arr (H2 := hq ++ (hp2 ++ H)) (by (exact a_arrs))
  (apply R.call; (exact a_evs); exact rfl; exact rfuse_K (n := a % 9) ha (by omega) hr; rintro _ M _ ⟨rfl, rfl, hq2, hr2, rfl⟩)
  (repeat' (first | (refine a_bx ?_; intro bx) | (refine a_go ?_; intros) | refine a_sp (fun h => ?_) fun h => ?_ | fail))
  (apply Fin.returnA (H2 := hp2 ++ (hq2 ++ H)); assumption; exact .inr rfl; exact rfl; (exact a_res); (simp only [retv]; rfl); (exact a_arr))
  exact ⟨rfl, Mem.le_refl _, hp2, hq2, ho2, hr2, rfl⟩
 rw [if_neg h6] at hQ
 by_cases h7 : what % 9 = 7
 ·rw [if_pos h7] at hQ
  (repeat' (first | refine a_mv ?_ | (apply R.step; (first | (apply Ok.eqIF; exact rfl; exact rfl; exact h6) | (apply Ok.eqIR; exact rfl; exact rfl; exact h7)); exact rfl) | (refine a_bx ?_; intro bx) | (refine a_go ?_; intros) | refine a_sp (fun h => ?_) fun h => ?_ | fail))
  apply R.arr (H2 := hp ++ ((bx, .cells #[.int .i64 what, .int .i64 a, .int .i64 b] 55 (0, 0)) :: (hq ++ H))) (by (exact a_arrs))
  (apply R.call; (exact a_evs); exact rfl; exact crash_K (keep := a) (torn := b) ho (by omega); rintro _ M2 _ ⟨rfl, hM2, hp2, ho2, rfl⟩)
  (repeat' (first | (refine a_bx ?_; intro bx) | (refine a_go ?_; intros) | refine a_sp (fun h => ?_) fun h => ?_ | fail))
  apply R.arr (H2 := hq ++ (hp2 ++ H)) (by (exact a_arrs))
  (apply R.call; (exact a_evs); exact rfl; exact rcrash_K (keep := a) (torn := b) (hr.mono hM2) hsz; rintro _ M3 _ ⟨rfl, hM3, hq2, hr2, rfl⟩)
  (repeat' (first | (refine a_bx ?_; intro bx) | (refine a_go ?_; intros) | refine a_sp (fun h => ?_) fun h => ?_ | fail))
  (apply Fin.returnA (H2 := hp2 ++ (hq2 ++ H)); assumption; exact .inr rfl; exact rfl; (exact a_res); (simp only [retv]; rfl); (exact a_arr))
  exact ⟨rfl, hM2.trans_ hM3, hp2, hq2, ho2.mono hM3, hr2, rfl⟩
 rw [if_neg h7] at hQ
 by_cases h8 : what % 9 = 8
 ·rw [if_pos h8] at hQ
  have ha := Int.emod_nonneg a (show (2000 : Int) ≠ 0 by decide)
  have hb := Int.emod_lt_of_pos a (show (0 : Int) < 2000 by decide)
  (repeat' (first | refine a_mv ?_ | (apply R.step; (first | (apply Ok.eqIF; exact rfl; exact rfl; exact h6) | (apply Ok.eqIF; exact rfl; exact rfl; exact h7) | (apply Ok.eqIR; exact rfl; exact rfl; exact h8)); exact rfl) | (refine a_bx ?_; intro bx) | (refine a_go ?_; intros) | refine a_sp (fun h => ?_) fun h => ?_ | fail))
  (apply R.call; (exact a_evs); exact rfl; exact pick_K a 2000 (by decide) (by decide); rintro _ M _ ⟨rfl, rfl, rfl⟩)
  (repeat' (first | (refine a_bx ?_; intro bx) | (refine a_go ?_; intros) | refine a_sp (fun h => ?_) fun h => ?_ | fail))
  apply R.arr (H2 := hp ++ (hq ++ H)) (by (exact a_arrs))
  (apply R.call; (exact a_evs); exact rfl; exact room_KD (n := a % 2000) ha (by omega) ho; rintro _ M _ ⟨rfl, rfl, hp2, ho2, rfl⟩)
  (repeat' (first | (refine a_bx ?_; intro bx) | (refine a_go ?_; intros) | refine a_sp (fun h => ?_) fun h => ?_ | fail))
  unfold RdO at hr
  obtain ⟨⟨F, G, sv, nv, wv, fused, fuse⟩, hi, rfl⟩ := hr
  dsimp only
  unfold rdkB
  apply R.arr (H2 := (rb, .cells [.int .i64 d.room, sv, nv, wv, .bool fused, .int .i64 fuse, .bool d.down].toArray 68 (0, 0)) :: (hp2 ++ H)) (by (exact a_arrs))
  (repeat' (first | (refine a_bx ?_; intro bx) | (refine a_go ?_; intros) | refine a_sp (fun h => ?_) fun h => ?_ | fail))
  (apply Fin.returnA (H2 := hp2 ++ ([(rb, rdkB (a % 2000) sv nv wv fused fuse d.down)] ++ H)); assumption; exact .inr rfl; exact rfl; (exact a_res); (simp only [retv]; rfl); (exact a_arr))
  exact ⟨rfl, Mem.le_refl _, hp2, _, ho2, RdO.of (d := { d with room := a % 2000 }) (x := ⟨F, G, sv, nv, wv, fused, fuse⟩) ⟨⟨⟨ha, by dsimp only; omega⟩, hi.ok.2.1, hi.ok.2.2.1, hi.ok.2.2.2⟩, hi.sF, hi.nG, hi.pS, hi.pN, hi.srtF, hi.srtG, hi.w, hi.fu, hi.fu0⟩, rfl⟩
 rw [if_neg h8] at hQ
 (repeat' (first | refine a_mv ?_ | (apply R.step; (first | (apply Ok.eqIF; exact rfl; exact rfl; exact h6) | (apply Ok.eqIF; exact rfl; exact rfl; exact h7) | (apply Ok.eqIF; exact rfl; exact rfl; exact h8)); exact rfl) | (refine a_bx ?_; intro bx) | (refine a_go ?_; intros) | refine a_sp (fun h => ?_) fun h => ?_ | fail))
 (apply Fin.returnA (H2 := hp ++ (hq ++ H)); assumption; exact .inr rfl; exact rfl; (exact a_res); (simp only [retv]; rfl); (exact a_arr))
 exact ⟨rfl, Mem.le_refl _, hp, hq, ho, hr, rfl⟩
end Go.Sx
end
section
namespace Go.Sx
open Go Go.Proofs Go.RowKit
def newX : De → Bool
 | .rem _ => false
 | _ => true
def nX (x : De) : Nat := if newX x = true then 1 else 0
def cX (ps : List De) : Nat := (ps.map nX).sum
def crD (d : Dk) : Nat := d.S.length + cX d.ps
theorem doF_cr (F : Fs) (x : De) : (doF F x).length ≤ F.length + nX x := by
 cases x with
 | rem n => exact List.length_filter_le _ _
 | app n b => exact doF_length _ _
 | trc n k => exact doF_length _ _
 | ren n t => exact doF_length _ _
theorem cX_snoc (ps : List De) (x : De) : cX (ps ++ [x]) = cX ps + nX x := by
 unfold cX
 rw [List.map_append, List.sum_append]
 simp
theorem cX_take (ps : List De) (k : Nat) : cX (ps.take k) ≤ cX ps := by
 unfold cX
 rw [List.map_take]
 exact sum_take _ _
theorem fold_cr : ∀ (ps : List De) (F : Fs), (ps.foldl doF F).length ≤ F.length + cX ps
 | [], _ => Nat.le_refl _
 | x :: ps, F => by
  have h1 := fold_cr ps (doF F x)
  have h2 := doF_cr F x
  have h3 : cX (x :: ps) = nX x + cX ps := by unfold cX; rw [List.map_cons, List.sum_cons]
  rw [List.foldl_cons, h3]
  omega
theorem now_cr (d : Dk) : d.now.length ≤ crD d := fold_cr _ _
theorem cntD_cr (d : Dk) : crD (cntD d) = crD d := by
 unfold crD
 rw [cntD_S, cntD_ps]
theorem opD_cr (d : Dk) (e : Int) (x : De) : crD (opD e d x) ≤ crD d + nX x := by
 unfold opD
 split
 ·show (cntD d).S.length + cX (d.ps ++ [x]) ≤ _
  rw [cntD_S, cX_snoc]
  unfold crD
  omega
 ·rw [cntD_cr]
  omega
theorem nX_le (x : De) : nX x ≤ 1 := by
 unfold nX
 split <;> omega
theorem nX_rem (n : Txt) : nX (.rem n) = 0 := rfl
theorem synD_cr (d : Dk) : crD (synD d) ≤ crD d := by
 unfold synD
 split
 ·rw [cntD_cr]; exact Nat.le_refl _
 ·exact now_cr d
theorem torn_cr (F : Fs) (x : De) (torn : Int) : (tornF F x torn).length ≤ F.length + nX x := by
 cases x with
 | app n b =>
  have : nX (.app n b) = 1 := rfl
  have := torn_length F (.app n b) torn
  omega
 | trc n k => exact Nat.le_add_right _ _
 | ren n t => exact Nat.le_add_right _ _
 | rem n => exact Nat.le_add_right _ _
theorem crash_cr (d : Dk) (keep torn : Int) : crD (crashD d keep torn) ≤ crD d := by
 show (crashF d keep torn).length + 0 ≤ d.S.length + cX d.ps
 have h1 := fold_cr (d.ps.take (keepD d keep)) d.S
 unfold crashF
 split
 ·rename_i x hx
  obtain ⟨hlt, hxe⟩ := List.getElem?_eq_some_iff.1 hx
  have h2 := torn_cr ((d.ps.take (keepD d keep)).foldl doF d.S) x torn
  have h3 := cX_take d.ps (keepD d keep + 1)
  rw [List.take_succ_eq_append_getElem hlt, cX_snoc, hxe] at h3
  omega
 ·have h3 := cX_take d.ps (keepD d keep)
  omega
theorem harmD_cr (d : Dk) (what a b : Int) : crD (harmD d what a b) ≤ crD d := by
 unfold harmD
 split
 ·exact Nat.le_refl _
 ·split
  ·exact crash_cr _ _ _
  ·split <;> exact Nat.le_refl _
theorem harmD_now {d : Dk} {what a b : Int} (h : what % 9 ≠ 7) : (harmD d what a b).now = d.now := by
 unfold harmD
 split
 ·rfl
 ·split <;> rfl
theorem synD_now (d : Dk) : (synD d).now = d.now := by
 unfold synD
 split
 ·exact cntD_now d
 ·rfl
theorem appL_sz {lim : Int} : ∀ (es : List En) (d : Dk) (ss : List Sg), szD (appL d lim ss es).2.1 ≤ szD d + es.length ∧ crD (appL d lim ss es).2.1 ≤ crD d + es.length
 | [], d, ss => ⟨Nat.le_refl _, Nat.le_refl _⟩
 | e :: es, d, ss => by
  rw [appL]
  generalize freshG lim ss (frameS (layE e)).length = fr
  rw [List.length_cons]
  split
  ·have h1 := opD_sz d (appE d (nameS (tailG fr ss e).first) (frameS (layE e))) (.app (nameS (tailG fr ss e).first) (frameS (layE e)))
   have h2 := opD_cr d (appE d (nameS (tailG fr ss e).first) (frameS (layE e))) (.app (nameS (tailG fr ss e).first) (frameS (layE e)))
   have h3 := nX_le (.app (nameS (tailG fr ss e).first) (frameS (layE e)))
   exact ⟨Nat.le_trans h1 (by omega), Nat.le_trans h2 (by omega)⟩
  ·have h1 := opD_sz d 0 (.app (nameS (tailG fr ss e).first) (frameS (layE e)))
   have h2 := opD_cr d 0 (.app (nameS (tailG fr ss e).first) (frameS (layE e)))
   have h3 := nX_le (.app (nameS (tailG fr ss e).first) (frameS (layE e)))
   obtain ⟨g1, g2⟩ := appL_sz (lim := lim) es (opD 0 d (.app (nameS (tailG fr ss e).first) (frameS (layE e)))) (headG fr ss ++ [addS (tailG fr ss e) e])
   exact ⟨by omega, by omega⟩
theorem cutR_sz {i : Int} : ∀ (r : List Sg) (d : Dk), szD (cutR d i r).2.1 ≤ szD d + r.length ∧ crD (cutR d i r).2.1 ≤ crD d
 | [], d => ⟨Nat.le_refl _, Nat.le_refl _⟩
 | s :: r, d => by
  rw [cutR, List.length_cons]
  split
  ·split
   ·have h1 := opD_sz d (remE d (nameS s.first)) (.rem (nameS s.first))
    have h2 := opD_cr d (remE d (nameS s.first)) (.rem (nameS s.first))
    rw [nX_rem] at h2
    exact ⟨Nat.le_trans h1 (by omega), h2⟩
   ·have h1 := opD_sz d 0 (.rem (nameS s.first))
    have h2 := opD_cr d 0 (.rem (nameS s.first))
    rw [nX_rem] at h2
    obtain ⟨g1, g2⟩ := cutR_sz (i := i) r (opD 0 d (.rem (nameS s.first)))
    exact ⟨by omega, by omega⟩
  ·exact ⟨by dsimp only; omega, Nat.le_refl _⟩
theorem cutT_sz {i : Int} (r : List Sg) (d : Dk) : szD (cutT d i r).2.1 ≤ szD d + 1 ∧ crD (cutT d i r).2.1 ≤ crD d + 1 := by
 match r with
 | [] => exact ⟨Nat.le_succ _, Nat.le_succ _⟩
 | s :: r =>
  have e0 : cutT d i (s :: r) = if lastI s < i then (0, d, s :: r) else (trcE d (nameS s.first) ((keepS i s).size : Int), opD (trcE d (nameS s.first) ((keepS i s).size : Int)) d (.trc (nameS s.first) (keepS i s).size), keepS i s :: r) := rfl
  rw [e0]
  split
  ·exact ⟨Nat.le_succ _, Nat.le_succ _⟩
  ·have h2 := opD_cr d (trcE d (nameS s.first) ((keepS i s).size : Int)) (.trc (nameS s.first) (keepS i s).size)
   have h3 := nX_le (.trc (nameS s.first) (keepS i s).size)
   exact ⟨opD_sz _ _ _, Nat.le_trans h2 (by omega)⟩
theorem cutG_sz {i : Int} (d : Dk) (ss : List Sg) : szD (cutG d ss i).2.1 ≤ szD d + ss.length + 1 ∧ crD (cutG d ss i).2.1 ≤ crD d + 1 := by
 obtain ⟨g1, g2⟩ := cutR_sz (i := i) ss.reverse d
 rw [List.length_reverse] at g1
 unfold cutG
 split
 ·exact ⟨Nat.le_trans g1 (by omega), Nat.le_trans g2 (by omega)⟩
 ·obtain ⟨k1, k2⟩ := cutT_sz (i := i) (cutR d i ss.reverse).2.2 (cutR d i ss.reverse).2.1
  exact ⟨by dsimp only; omega, by dsimp only; omega⟩
theorem dropG_sz {i : Int} : ∀ (ss : List Sg) (d : Dk), szD (dropG d i ss).2.1 ≤ szD d + ss.length ∧ crD (dropG d i ss).2.1 ≤ crD d
 | [], d => ⟨Nat.le_refl _, Nat.le_refl _⟩
 | s :: r, d => by
  rw [dropG, List.length_cons]
  split
  ·split
   ·have h1 := opD_sz d (remE d (nameS s.first)) (.rem (nameS s.first))
    have h2 := opD_cr d (remE d (nameS s.first)) (.rem (nameS s.first))
    rw [nX_rem] at h2
    exact ⟨Nat.le_trans h1 (by omega), h2⟩
   ·have h1 := opD_sz d 0 (.rem (nameS s.first))
    have h2 := opD_cr d 0 (.rem (nameS s.first))
    rw [nX_rem] at h2
    obtain ⟨g1, g2⟩ := dropG_sz (i := i) r (opD 0 d (.rem (nameS s.first)))
    exact ⟨by omega, by omega⟩
  ·exact ⟨by dsimp only; omega, Nat.le_refl _⟩
theorem mendR_cr : ∀ (ns : List Nat) (d : Dk), crD (mendR d ns).2 ≤ crD d
 | [], d => Nat.le_refl _
 | n :: ns, d => by
  unfold mendR
  split
  ·have := opD_cr d (remE d (nameS n)) (.rem (nameS n))
   rw [nX_rem] at this
   exact this
  ·have h1 := opD_cr d 0 (.rem (nameS n))
   rw [nX_rem] at h1
   have h2 := mendR_cr ns (opD 0 d (.rem (nameS n)))
   omega
theorem mendD_cr (d : Dk) (ns : List Nat) (f : Nat) (it : List (En × Nat)) : crD (mendD d ns f it).2 ≤ crD d + 1 := by
 have h1 := mendR_cr ns.tail.reverse d
 unfold mendD
 split
 ·omega
 ·unfold mendE
  split
  ·have := opD_cr (mendR d ns.tail.reverse).2 (remE (mendR d ns.tail.reverse).2 (nameS f)) (.rem (nameS f))
   rw [nX_rem] at this
   exact Nat.le_trans this (by omega)
  ·have := opD_cr (mendR d ns.tail.reverse).2 (trcE (mendR d ns.tail.reverse).2 (nameS f) ((it.map Prod.snd).sum : Int)) (.trc (nameS f) (it.map Prod.snd).sum)
   have h3 := nX_le (.trc (nameS f) (it.map Prod.snd).sum)
   exact Nat.le_trans this (by omega)
theorem openG_cr {d : Dk} : ∀ (ns : List Nat) (acc : List Sg), crD (openG d ns acc).2.1 ≤ crD d + 1
 | [], acc => Nat.le_succ _
 | n :: ns, acc => by
  have hm := mendD_cr d (n :: ns) n (readF (lastO acc) n ((readD d (nameS n)).getD [])).1
  rw [openG]
  split
  ·exact openG_cr (d := d) ns (if 0 < (readF (lastO acc) n ((readD d (nameS n)).getD [])).1.length then acc ++ [⟨n, (readF (lastO acc) n ((readD d (nameS n)).getD [])).1⟩] else acc)
  ·split
   ·exact hm
   ·exact hm
theorem openS_cr (d : Dk) : crD (openS d).2.1 ≤ crD d + 1 := openG_cr _ _
end Go.Sx
end
section
namespace Go.Sx
open Go Go.Proofs Go.RowKit
attribute [local irreducible] C R Fin K Own OwnT Rd Pl Ok KOf RetOk OpsOf RP KP Res NoPanic KV KE MapS ItS EntS FsO FsR RowD PlD DkO PlFs RT KT OneT RS KS OneS RdO
variable {M M' : Mem} {H H1 H2 : Hp}
structure RfX where
 i : Nat
 ii : Int
 has : Bool
 cur : Option En
 pe : En
 A : Option Addr
 c : Nat
theorem rfollows_K {lb rb : Nat} {lim : Int} {ss : List Sg} {v : Value} {es : List En} {hL : Hp} (hg : RgO M lb rb lim ss hL) (hok : sgsOk ss) (he : EnL M v es) : K Tryz.prog 96 [.pointer (some ⟨lb, 0, none⟩), v] M (hL ++ H) fun v' M' H' => v' = .bool (decide (folE (lastO ss) es)) ∧ M' = M ∧ H' = hL ++ H := by
 refine K.enterK Tryz.func96 rfl rfl rfl ?_
 intro Q hNP hQ
 obtain ⟨Aq, cq, vq, rfl, k9, k10, p9, q9⟩ := he
 have hk := rlast_K (H := H) hg hok
 have hlob : ∀ a, lastO ss = some a → 1 ≤ a.idx ∧ a.idx ≤ 72057594037927935 := fun a h => (entS_kind (lastO_ent hok h)).2.2.2.2.2.1
 generalize lastO ss = lo at hk hQ hlob
 have hk2 : K Tryz.prog 89 [.pointer (some ⟨lb, 0, none⟩)] M (hL ++ H) fun v' M' H' => (∃ pe Ad cd, v' = .tuple #[eV pe (.slice Ad pe.data.length cd), .bool lo.isSome] ∧ (∀ a, lo = some a → pe = a)) ∧ M' = M ∧ H' = hL ++ H := by
  refine hk.mono ?_
  rintro v' M' H' ⟨h1, h2, h3⟩
  refine ⟨?_, h2, h3⟩
  cases lo with
  | none => exact ⟨⟨0, 0, 0, [], 0⟩, none, 0, h1, fun a h => by cases h⟩
  | some a =>
   obtain ⟨v, h4, h5⟩ := h1
   obtain ⟨Ad, cd, rfl, _⟩ := id h5
   exact ⟨a, Ad, cd, h4, fun x h => by cases h; rfl⟩
 clear hk
 (repeat' (first | (refine a_ba ?_; intro ba) | (refine a_go ?_; intros) | refine a_sp (fun h => ?_) fun h => ?_ | fail))
 (apply R.call; (exact a_evs); exact rfl; exact hk2; rintro _ M _ ⟨⟨pe, Ad, cd, rfl, hpe⟩, rfl, rfl⟩)
 unfold eV ecells
 (repeat' (first | (refine a_ba ?_; intro ba) | (refine a_go ?_; intros) | refine a_sp (fun h => ?_) fun h => ?_ | fail))
 apply C.loop (fun y : RfX => (y.i : Int) = y.ii ∧ y.i ≤ es.length ∧ y.has = y.cur.isSome ∧ (∀ a, y.cur = some a → y.pe = a ∧ 1 ≤ a.idx ∧ a.idx ≤ 72057594037927935) ∧ (folE lo es ↔ folE y.cur (es.drop y.i)))
  (fun y => [(0, .pointer (some ⟨lb, 0, none⟩)), (1, .slice Aq es.length cq), (5, .pointer (some ⟨ba, 0, none⟩)), (6, .bool y.has), (7, .int .i64 y.ii)]) (fun _ => M) (fun y => (ba, .cells (ecells y.pe (.slice y.A y.pe.data.length y.c)).toArray 33 (0, 0)) :: (hL ++ H)) (fun y => es.length - y.i) ⟨0, 0, lo.isSome, lo, pe, Ad, cd⟩
 ·exact ⟨rfl, Nat.zero_le _, rfl, fun a h => ⟨hpe a h, hlob a h⟩, by rw [List.drop_zero]⟩
 ·(exact a_subs)
 ·exact rfl
 ·exact rfl
 rintro ⟨i, ii, has, cur, pe1, A1, c1⟩ ⟨hii, hi, hhas, hcur, hfol⟩
 dsimp only at hii hi hhas hcur hfol ⊢
 obtain ⟨b5, hb5⟩ : ∃ q, q = ba := ⟨_, rfl⟩
 subst hb5
 unfold ecells
 by_cases hlt : i < es.length
 ·obtain ⟨b2, o2, c2, e2, fr2, Ai, ci, rfl, hMb2, hcell2, _, i1, i2, i3⟩ := en_at p9 q9 hlt
  rw [show o2 + i * 5 = o2 + ii.toNat * 5 by omega] at hcell2
  have hdr : es.drop i = es[i] :: es.drop (i + 1) := List.drop_eq_getElem_cons hlt
  generalize es[i] = x at hcell2 hdr i1
  rw [hdr] at hfol
  have hfx : folE cur (x :: es.drop (i + 1)) ↔ entS x ∧ prevE cur x ∧ folE (some x) (es.drop (i + 1)) := Iff.rfl
  rw [hfx] at hfol
  (repeat' (first | refine a_mv ?_ | (apply R.step; (exact a_cmp); exact rfl) | (apply R.step; (first | (apply Ok.indexAddr; exact rfl; exact rfl; omega; omega) | (apply Ok.loadAggP (vs := ecells x (.slice Ai x.data.length ci)); exact rfl; exact rfl; exact hMb2; exact rfl; exact hcell2)); exact rfl) | (refine a_ba ?_; intro ba) | (refine a_go ?_; intros) | refine a_sp (fun h => ?_) fun h => ?_ | fail))
  (apply R.call; (exact a_evs); exact rfl; exact r5entry_K (e := x) (A := Ai) (cap := ci); rintro _ M _ ⟨rfl, rfl, rfl⟩)
  by_cases hE : entS x
  rotate_left
  ·rw [decide_eq_false hE]
   rw [decide_eq_false (fun h => hE (hfol.1 h).1)] at hQ
   (repeat' (first | (refine a_ba ?_; intro ba) | (refine a_go ?_; intros) | refine a_sp (fun h => ?_) fun h => ?_ | fail))
   (refine Fin.rA (hL ++ H) ?_)
   exact ⟨rfl, rfl, rfl⟩
  rw [decide_eq_true hE]
  have hxk := (entS_kind hE).2.2.2.2.2.1
  cases cur with
  | none =>
   subst hhas
   have hfol2 : folE lo es ↔ folE (some x) (es.drop (i + 1)) := ⟨fun h => (hfol.1 h).2.2, fun h => hfol.2 ⟨hE, trivial, h⟩⟩
   (repeat' (first | (refine a_ba ?_; intro ba) | (refine a_go ?_; intros) | refine a_sp (fun h => ?_) fun h => ?_ | fail))
   (apply Fin.arr (H2 := (b5, .cells [.int .i64 x.kind, .int .u64 x.term, .int .u64 x.idx, .slice Ai x.data.length ci, .int .i64 x.conf].toArray 33 (0, 0)) :: (hL ++ H)); (exact a_arrs))
   refine Fin.again (⟨i + 1, ii + 1, true, some x, x, Ai, ci⟩ : RfX) ⟨by dsimp only; omega, by dsimp only; omega, rfl, fun a h => by cases h; exact ⟨rfl, hxk⟩, hfol2⟩ (by dsimp only; omega) ?_ rfl rfl
   (exact a_subs)
  | some a =>
   subst hhas
   obtain ⟨rfl, hb1, hb2⟩ := hcur a rfl
   by_cases h2 : x.idx = pe1.idx + 1
   ·by_cases h3 : pe1.term ≤ x.term
    ·have hfol2 : folE lo es ↔ folE (some x) (es.drop (i + 1)) := ⟨fun h => (hfol.1 h).2.2, fun h => hfol.2 ⟨hE, ⟨h2, h3⟩, h⟩⟩
     (repeat' (first | refine a_mv ?_ | (apply R.step; (exact a_cmp); exact rfl) | (apply R.step; (apply Ok.addB; exact rfl; exact rfl; apply wu64; omega; omega); exact rfl) | (refine a_ba ?_; intro ba) | (refine a_go ?_; intros) | refine a_sp (fun h => ?_) fun h => ?_ | fail))
     all_goals (first | (exfalso; omega) | skip)
     (apply Fin.arr (H2 := (b5, .cells [.int .i64 x.kind, .int .u64 x.term, .int .u64 x.idx, .slice Ai x.data.length ci, .int .i64 x.conf].toArray 33 (0, 0)) :: (hL ++ H)); (exact a_arrs))
     refine Fin.again (⟨i + 1, ii + 1, true, some x, x, Ai, ci⟩ : RfX) ⟨by dsimp only; omega, by dsimp only; omega, rfl, fun a h => by cases h; exact ⟨rfl, hxk⟩, hfol2⟩ (by dsimp only; omega) ?_ rfl rfl
     (exact a_subs)
    ·rw [decide_eq_false (fun h => h3 (hfol.1 h).2.1.2)] at hQ
     (repeat' (first | refine a_mv ?_ | (apply R.step; (exact a_cmp); exact rfl) | (apply R.step; (apply Ok.addB; exact rfl; exact rfl; apply wu64; omega; omega); exact rfl) | (refine a_ba ?_; intro ba) | (refine a_go ?_; intros) | refine a_sp (fun h => ?_) fun h => ?_ | fail))
     all_goals (first | (exfalso; omega) | skip)
     (refine Fin.rA (hL ++ H) ?_)
     exact ⟨rfl, rfl, rfl⟩
   ·rw [decide_eq_false (fun h => h2 (hfol.1 h).2.1.1)] at hQ
    (repeat' (first | refine a_mv ?_ | (apply R.step; (exact a_cmp); exact rfl) | (apply R.step; (apply Ok.addB; exact rfl; exact rfl; apply wu64; omega; omega); exact rfl) | (refine a_ba ?_; intro ba) | (refine a_go ?_; intros) | refine a_sp (fun h => ?_) fun h => ?_ | fail))
    all_goals (first | (exfalso; omega) | skip)
    (refine Fin.rA (hL ++ H) ?_)
    exact ⟨rfl, rfl, rfl⟩
 ·rw [List.drop_eq_nil_of_le (by omega)] at hfol
  rw [decide_eq_true (hfol.2 trivial)] at hQ
  (repeat' (first | refine a_mv ?_ | (apply R.step; (exact a_cmp); exact rfl) | (refine a_ba ?_; intro ba) | (refine a_go ?_; intros) | refine a_sp (fun h => ?_) fun h => ?_ | fail))
  (refine Fin.rA (hL ++ H) ?_)
  exact ⟨rfl, rfl, rfl⟩
theorem OwnT.setLast {e sz m cap b o q : Nat} {c ys zs : List Value} {u : Value} (h : OwnT e sz (.slice (some ⟨b, o, none⟩) (m + 1) cap) (m + 1) (ys ++ zs) [(b, .cells c.toArray e (0, 0))]) (hy : ys.length = m * sz) (hz : zs.length = sz) (hq : q < sz) : OwnT e sz (.slice (some ⟨b, o, none⟩) (m + 1) cap) (m + 1) (ys ++ zs.set q u) [(b, .cells (c.set (o + m * sz + q) u).toArray e (0, 0))] := by
 obtain ⟨b', o', c', hA, hh, hroom, h1, h2, hcell⟩ := h.split (Nat.zero_lt_succ _)
 injection hA with hA
 injection hA with hA1 hA2
 subst hA1 hA2
 injection hh with hh _
 injection hh with _ hh
 injection hh with hh _ _
 have hcc : c = c' := by simpa using congrArg Array.toList hh
 subst hcc
 have hp := h.putLast (vs := zs.set q u) hy (by rw [List.length_set]; exact hz)
 have hmz : (m + 1) * sz = m * sz + sz := Nat.succ_mul ..
 have hcz : (m + 1) * sz ≤ cap * sz := Nat.mul_le_mul_right _ h1
 have hl : o + m * sz + sz ≤ c.length := by omega
 have hmid : (c.drop (o + m * sz)).take sz = zs := by
  refine List.ext_getElem? fun j => ?_
  by_cases hj : j < sz
  ·rw [List.getElem?_take, if_pos hj, List.getElem?_drop]
   have := hcell (m * sz + j) (zs[j]'(by omega)) (by rw [List.getElem?_append_right (by omega), hy, Nat.add_sub_cancel_left, List.getElem?_eq_getElem (by omega)])
   rw [show o + m * sz + j = o + (m * sz + j) by omega, this, List.getElem?_eq_getElem (by omega)]
  ·rw [List.getElem?_take, if_neg hj, List.getElem?_eq_none (by omega)]
 have e1 : c.set (o + m * sz + q) u = c.take (o + m * sz) ++ zs.set q u ++ c.drop (o + m * sz + (zs.set q u).length) := by
  rw [List.length_set, hz]
  have h3 : c = c.take (o + m * sz) ++ (zs ++ c.drop (o + m * sz + sz)) := by
   conv => lhs; rw [← List.take_append_drop (o + m * sz) c]
   congr 1
   conv => lhs; rw [← List.take_append_drop sz (c.drop (o + m * sz))]
   rw [hmid, List.drop_drop]
  have hA : (c.take (o + m * sz)).length = o + m * sz := by rw [List.length_take]; omega
  conv => lhs; rw [h3]
  rw [List.set_append_right _ _ (by omega), hA, Nat.add_sub_cancel_left, List.set_append_left _ _ (by omega), List.append_assoc]
 rw [e1]
 exact hp
structure EndR (M : Mem) (lb rb : Nat) (lim : Int) (ss : List Sg) (hL : Hp) (qs : List PtV) (p : PtV) (b o cap : Nat) (c : List Value) : Prop where
 segs : ss = qs.map PtV.s ++ [p.s]
 len : qs.length + 1 = ss.length
 heap : hL = (lb, rgB rb lim (.slice (some ⟨b, o, none⟩) ss.length cap)) :: (b, .cells c.toArray 93 (0, 0)) :: (ptH qs ++ (p.lh ++ p.eh))
 row : OwnT 93 4 (.slice (some ⟨b, o, none⟩) (qs.length + 1) cap) (qs.length + 1) ((qs.map prC).flatten ++ prC p) [(b, .cells c.toArray 93 (0, 0))]
 room : o + cap * 4 ≤ c.length
 cap1 : ss.length ≤ cap
 cap2 : cap ≤ 9223372036854775807
 cell : ∀ (q : Nat) u, (prC p)[q]? = some u → c[o + (ss.length - 1) * 4 + q]? = some u
 all : ∀ x ∈ qs, PrO M x
 own : PrO M p
theorem RgO.endR {lb rb : Nat} {lim : Int} {ss : List Sg} {hL : Hp} (hg : RgO M lb rb lim ss hL) (h0 : 0 < ss.length) : ∃ qs p b o cap c, EndR M lb rb lim ss hL qs p b o cap c := by
 obtain ⟨ps, pv, hrow, hss, hrw, hpt, rfl⟩ := hg
 have hpl : ps.length = ss.length := by rw [← hss, List.length_map]
 obtain ⟨A, cap, rfl, _, _⟩ := hrw.form
 obtain ⟨b, o, c, rfl, rfl, h1, h2, h3, h4⟩ := hrw.split (by omega)
 obtain ⟨qs, p, rfl⟩ : ∃ qs p, ps = qs ++ [p] := ⟨ps.dropLast, ps.getLast (List.ne_nil_of_length_pos (by omega)), (List.dropLast_concat_getLast _).symm⟩
 rw [List.length_append, List.length_singleton] at hpl
 rw [rowR_snoc] at hrw h4
 refine ⟨qs, p, b, o, cap, c, by rw [← hss, List.map_append]; rfl, hpl, ?_, ?_, h1, by rw [List.length_append] at h2; simp at h2; omega, by unfold maxLen at h3; omega, ?_, fun x hx => hpt x (List.mem_append_left _ hx), hpt p (List.mem_append_right _ (List.mem_singleton_self _))⟩
 ·rw [ptH_snoc, List.length_append, List.length_singleton, hpl]
  rfl
 ·rw [List.length_append, List.length_singleton] at hrw
  exact hrw
 ·intro q u hq
  have := h4 (qs.length * 4 + q) u (by rw [List.getElem?_append_right (by rw [prC_flat]; omega), prC_flat, Nat.add_sub_cancel_left]; exact hq)
  rw [show o + (ss.length - 1) * 4 + q = o + (qs.length * 4 + q) by rw [← hpl]; omega]
  exact this
theorem EndR.mono {lb rb : Nat} {lim : Int} {ss : List Sg} {hL : Hp} {qs : List PtV} {p : PtV} {b o cap : Nat} {c : List Value} (h : EndR M lb rb lim ss hL qs p b o cap c) (hM : M.le M') : EndR M' lb rb lim ss hL qs p b o cap c :=
 ⟨h.segs, h.len, h.heap, h.row, h.room, h.cap1, h.cap2, h.cell, fun x hx => (h.all x hx).mono hM, h.own.mono hM⟩
end Go.Sx
end
section
namespace Go.Sx
open Go Go.Proofs Go.RowKit
attribute [local irreducible] C R Fin K Own OwnT Rd Pl Ok KOf RetOk OpsOf RP KP Res NoPanic KV KE RT KT OneT RS KS OneS
variable {M M' : Mem} {H H1 H2 : Hp}
theorem fits_small {es : List En} (h : ∀ e ∈ es, entS e) (hl : es.length ≤ 1000) : fits es := by
 refine ⟨by omega, fun e he => ?_⟩
 have := (entS_kind (h e he)).2.2.2.2.2.2
 omega
theorem EnL.takeK {A : Option Addr} {cap k : Nat} {es : List En} (h : EnL M (.slice A es.length cap) es) (hk : k ≤ es.length) : EnL M (.slice A k cap) (es.take k) := by
 obtain ⟨A', cap', vs, e, h1, h2, h3, h4⟩ := h
 cases e
 refine ⟨A, cap, vs.take k, by rw [List.length_take, Nat.min_eq_left hk], by rw [List.length_take]; omega, h2, ?_, by rw [List.map_take]; exact h4.take k⟩
 rw [← rowE_take]
 exact h3.take (k * 5)
theorem EnL.dropK {A : Option Addr} {cap k : Nat} {es : List En} (h : EnL M (.slice A es.length cap) es) (hk : k ≤ es.length) : EnL M (.slice (adv A k 5 cap) (es.length - k) (cap - k)) (es.drop k) := by
 obtain ⟨A', cap', vs, e, h1, h2, h3, h4⟩ := h
 cases e
 refine ⟨_, cap - k, vs.drop k, by rw [List.length_drop], by rw [List.length_drop]; omega, by omega, ?_, by rw [List.map_drop]; exact h4.drop k⟩
 rw [← rowE_drop]
 exact h3.cut (l := k) (size := 5) (cap := cap) (by rw [(rowE_cells h4).2.1]; omega)
theorem EnL.takeK2 {A : Option Addr} {cap m k : Nat} {es : List En} (h : EnL M (.slice A m cap) es) (hk : k ≤ es.length) : EnL M (.slice A k cap) (es.take k) := by
 obtain ⟨A', cap', vs, e, h1, h2, h3, h4⟩ := id h
 cases e
 exact h.takeK hk
end Go.Sx
end
