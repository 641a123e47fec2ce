import Derived.Test.YtgkiomcoinnklaaGreatZPhotoPlays4
section
namespace Go.Sx
open Go.Proofs Go.RowKit
attribute [local irreducible] C R Fin K Own Rd Pl Ok KOf RetOk OpsOf RP KP Res NoPanic KV
variable {M : Mem} {H : Hp}
theorem rframe_K {A : Option Addr} {cap : Nat} {bs : List UInt8} (hpl : Pl M A (bs.map bv)) (hb : bs.length ≤ 140737488351232) : K Tryz.prog 57 [.slice A bs.length cap] M H fun v M' H' =>
    ∃ hp, Own 5 1 v (frameS bs).length ((frameS bs).map bv) hp ∧ M' = M ∧ H' = hp ++ H := by
  refine K.enterK Tryz.func57 rfl rfl rfl ?_
  intro Q hNP hQ
  (repeat' (first | refine a_go ?_ | (with_reducible apply Fin.thenK; assumption) | (with_reducible (first | apply C.seqK | apply C.regionK); intro _ _) | (apply R.buildSlice0; exact rfl; intro bz) | (apply R.box; exact rfl; (simp only [Value.cells]; rfl); exact rfl; intro bx) | (apply R.alloc; (simp only [Value.cells]; rfl); exact rfl; intro ba) | (apply R.buildSlice; (exact a_prt); exact rfl; exact rfl; (exact a_fills); exact rfl; intro bl) | (refine a_sp ?_ ?_; (intro h; skip; rotate_left; intro h; skip; rotate_left)) | fail))
  · have h1 : 65536 < (bs.length : Int) := by assumption
    (apply Fin.returnA (H2 := [] ++ H); assumption; (first | exact .inl rfl | exact .inr rfl); exact rfl; (exact a_res); (simp only [retv]; rfl); (exact a_arr))
    have e : frameS bs = [] := if_pos (by omega)
    rw [e]
    exact ⟨[], Own.nil _ 1, rfl, rfl⟩
  have hle : ¬ 65536 < (bs.length : Int) := by assumption
  (apply R.call; (exact a_evs); exact rfl); exact rsum_K hpl hb; rintro _ M H ⟨rfl, rfl, rfl⟩
  (repeat' (first | (apply R.step; (apply Ok.move; exact rfl); exact rfl) | (apply R.step; (first | (apply Ok.shrIN 8 256; exact rfl; exact rfl; decide; decide) | (apply Ok.shrIN 16 65536; exact rfl; exact rfl; decide; decide) | (apply Ok.shrIN 24 16777216; exact rfl; exact rfl; decide; decide) | (apply Ok.convLI; exact rfl) | (apply Ok.convL; exact rfl)); exact rfl) | refine a_go ?_ | (with_reducible apply Fin.thenK; assumption) | (with_reducible (first | apply C.seqK | apply C.regionK); intro _ _) | (apply R.buildSlice0; exact rfl; intro bz) | (apply R.box; exact rfl; (simp only [Value.cells]; rfl); exact rfl; intro bx) | (apply R.alloc; (simp only [Value.cells]; rfl); exact rfl; intro ba) | (apply R.buildSlice; (exact a_prt); exact rfl; exact rfl; (exact a_fills); exact rfl; intro bl) | (refine a_sp ?_ ?_; (intro h; skip; rotate_left; intro h; skip; rotate_left)) | fail))
  have ho8 : Own 5 1 (.slice (some ⟨bl, 0, none⟩) 8 8) 8 ((layS bs.length ++ layS (sumS bs)).map bv) [(bl, .cells ((layS bs.length ++ layS (sumS bs)).map bv).toArray 5 (0, 0))] := Own.of_cells (xs := (layS bs.length ++ layS (sumS bs)).map bv) (by show 8 ≤ maxLen; unfold maxLen; omega)
  (apply R.append; exact rfl; exact rfl; exact ho8; exact Tk.one _ _ _; exact hpl.rd; (focus (simp; done)); exact bv_one _; (show (8 + bs.length) * 1 ≤ _; omega); exact rfl; decide; decide; exact rfl; rintro v4 hp4 hown4)
  (repeat' (first | refine a_go ?_ | (with_reducible apply Fin.thenK; assumption) | (with_reducible (first | apply C.seqK | apply C.regionK); intro _ _) | (apply R.buildSlice0; exact rfl; intro bz) | (apply R.box; exact rfl; (simp only [Value.cells]; rfl); exact rfl; intro bx) | (apply R.alloc; (simp only [Value.cells]; rfl); exact rfl; intro ba) | (apply R.buildSlice; (exact a_prt); exact rfl; exact rfl; (exact a_fills); exact rfl; intro bl) | (refine a_sp ?_ ?_; (intro h; skip; rotate_left; intro h; skip; rotate_left)) | fail))
  (apply Fin.returnA (H2 := hp4 ++ H); assumption; (first | exact .inl rfl | exact .inr rfl); exact rfl; (exact a_res); (simp only [retv]; rfl); (exact a_arr))
  have e : frameS bs = layS bs.length ++ layS (sumS bs) ++ bs := if_neg (by omega)
  rw [e]
  refine ⟨hp4, ?_, rfl, rfl⟩
  rw [List.length_append, List.map_append]
  exact hown4
structure RlX where
  at_ : Nat
  ai : Int
  M : Mem
  ov : Value
  vs : List Value
  pre : List (List UInt8)
  hrow : Hp
set_option maxHeartbeats 4000000 in
theorem rlist_K {A : Option Addr} {cap : Nat} {bs : List UInt8} (hpl : Pl M A (bs.map bv)) (hc : bs.length ≤ cap) (hb : cap ≤ 9223372036854775807) (hsm : bs.length ≤ 2147483648) : K Tryz.prog 42 [.slice A bs.length cap] M H fun v M' H' =>
    ∃ ov, v = .tuple #[ov, .int .i64 (endS (framesF bs.length bs))] ∧ PlL M' ov (framesF bs.length bs) ∧ M.le M' ∧ H' = H := by
  refine K.enterK Tryz.func42 rfl rfl rfl ?_
  intro Q hNP hQ
  (repeat' (first | refine a_go ?_ | (with_reducible apply Fin.thenK; assumption) | (with_reducible (first | apply C.seqK | apply C.regionK); intro _ _) | (apply R.buildSlice0; exact rfl; intro bz) | (apply R.box; exact rfl; (simp only [Value.cells]; rfl); exact rfl; intro bx) | (apply R.alloc; (simp only [Value.cells]; rfl); exact rfl; intro ba) | (apply R.buildSlice; (exact a_prt); exact rfl; exact rfl; (exact a_fills); exact rfl; intro bl) | (refine a_sp ?_ ?_; (intro h; skip; rotate_left; intro h; skip; rotate_left)) | fail))
  apply C.loop (fun x : RlX => (x.at_ : Int) = x.ai ∧ x.at_ ≤ bs.length ∧ M.le x.M ∧ PlV x.M x.vs x.pre ∧ Own 32 1 x.ov x.pre.length x.vs x.hrow ∧ framesF bs.length bs = x.pre ++ framesF (bs.drop x.at_).length (bs.drop x.at_) ∧ endS x.pre = x.at_)
    (fun x => [(0, .slice A bs.length cap), (4, x.ov), (5, .int .i64 x.ai)]) (fun x => x.M) (fun x => x.hrow ++ H) (fun x => bs.length - x.at_) ⟨0, 0, M, .slice none 0 0, [], [], []⟩
  · exact ⟨rfl, Nat.zero_le _, Mem.le_refl _, PlV.nil, Own.nil _ 1, rfl, rfl⟩
  · (exact a_subs)
  · exact rfl
  · exact rfl
  rintro ⟨at_, ai, M1, ov, vs, pre, hrow⟩ ⟨hai, hat, hM1, hvs, how, hfr, hend⟩
  dsimp only at hai hat hM1 hvs how hfr hend ⊢
  obtain ⟨AO, capO, rfl, hoc, _⟩ := how.form
  have fin : wholeS (bs.drop at_) = none → ∀ M2, M1.le M2 → In M2 hrow → ∃ ov, Value.tuple #[.slice AO pre.length capO, .int .i64 ai] = .tuple #[ov, .int .i64 (endS (framesF bs.length bs))] ∧ PlL M2 ov (framesF bs.length bs) ∧ M.le M2 ∧ H = H := by
    intro hw M2 hM2 hin
    rw [hfr, framesF_none hw, List.append_nil, hend, hai]
    exact ⟨_, rfl, Own.plL how hin (hvs.mono hM2), hM1.trans_ hM2, rfl⟩
  (repeat' (first | refine a_go ?_ | (with_reducible apply Fin.thenK; assumption) | (with_reducible (first | apply C.seqK | apply C.regionK); intro _ _) | (apply R.buildSlice0; exact rfl; intro bz) | (apply R.box; exact rfl; (simp only [Value.cells]; rfl); exact rfl; intro bx) | (apply R.alloc; (simp only [Value.cells]; rfl); exact rfl; intro ba) | (apply R.buildSlice; (exact a_prt); exact rfl; exact rfl; (exact a_fills); exact rfl; intro bl) | (refine a_sp ?_ ?_; (intro h; skip; rotate_left; intro h; skip; rotate_left)) | fail))
  · have h8 : 8 ≤ (bs.length : Int) - ai := by assumption
    obtain ⟨x0, x1, x2, x3, x4, x5, x6, x7, rest, hdr⟩ : ∃ x0 x1 x2 x3 x4 x5 x6 x7 rest, bs.drop at_ = x0 :: x1 :: x2 :: x3 :: x4 :: x5 :: x6 :: x7 :: rest := by
      have : 8 ≤ (bs.drop at_).length := by simp; omega
      match hd : bs.drop at_, this with
      | x0 :: x1 :: x2 :: x3 :: x4 :: x5 :: x6 :: x7 :: rest, _ => exact ⟨x0, x1, x2, x3, x4, x5, x6, x7, rest, rfl⟩
    obtain ⟨b0, o0, c0, e0, f0, rfl, hat0, hcell⟩ := (hpl.mono hM1).cell (by simp; omega)
    have hget : ∀ k x, (bs.drop at_)[k]? = some x → c0[o0 + (at_ + k)]? = some (bv x) := by
      intro k x hx
      rw [List.getElem?_drop] at hx
      exact hcell _ _ (by rw [List.getElem?_map, hx]; rfl)
    rw [hdr] at hget
    have g0 := hget 0 x0 rfl
    have g1 := hget 1 x1 rfl
    have g2 := hget 2 x2 rfl
    have g3 := hget 3 x3 rfl
    have g4 := hget 4 x4 rfl
    have g5 := hget 5 x5 rfl
    have g6 := hget 6 x6 rfl
    have g7 := hget 7 x7 rfl
    have l0 : x0.toNat < 256 := x0.toNat_lt
    have l1 : x1.toNat < 256 := x1.toNat_lt
    have l2 : x2.toNat < 256 := x2.toNat_lt
    have l3 : x3.toNat < 256 := x3.toNat_lt
    have n0 : Unit → o0 + ai.toNat * 1 = o0 + (at_ + 0) := fun _ => by omega
    have n1 : Unit → o0 + (ai + 1).toNat * 1 = o0 + (at_ + 1) := fun _ => by omega
    have n2 : Unit → o0 + (ai + 2).toNat * 1 = o0 + (at_ + 2) := fun _ => by omega
    have n3 : Unit → o0 + (ai + 3).toNat * 1 = o0 + (at_ + 3) := fun _ => by omega
    have n4 : Unit → o0 + (ai + 4).toNat * 1 = o0 + (at_ + 4) := fun _ => by omega
    have n5 : Unit → o0 + (ai + 5).toNat * 1 = o0 + (at_ + 5) := fun _ => by omega
    have n6 : Unit → o0 + (ai + 6).toNat * 1 = o0 + (at_ + 6) := fun _ => by omega
    have n7 : Unit → o0 + (ai + 7).toNat * 1 = o0 + (at_ + 7) := fun _ => by omega
    (apply C.regionO (ks := [1, 1, 1, 1, 1, 1, 1, 1, 1, 1, 1, 1, 1, 1, 1, 1, 1, 1, 1, 1, 1, 1, 1, 1, 1, 1, 1, 1, 1, 1]) (is := [0, 1, 2, 3, 4, 5, 6, 7, 8, 9, 10, 11, 12, 13, 14, 15, 16, 17, 18, 19, 20, 21, 22, 23, 24, 25, 26, 27, 28, 29]) (Hs := []); exact Mix.h; (first | exact Arr.all _ | (exact a_arr)); (exact a_np); (exact a_picked); kernel_rfl; intro _ e; subst e)
    (repeat' (first | (apply RP.step; intro _ _ _; (apply Ok.move; exact rfl); exact rfl) | (apply RP.step; intro _ _ hM; (first | (apply Ok.indexAddr; exact rfl; exact rfl; omega; omega) | (apply Ok.loadP; exact rfl; exact rfl; exact hM.2.2 _ _ hat0; (first | (rw [n0 ()]; exact g0) | (rw [n1 ()]; exact g1) | (rw [n2 ()]; exact g2) | (rw [n3 ()]; exact g3))) | (apply Ok.shlIN 8 256; exact rfl; exact rfl; decide; decide; omega) | (apply Ok.shlIN 16 65536; exact rfl; exact rfl; decide; decide; omega) | (apply Ok.shlIN 24 16777216; exact rfl; exact rfl; decide; decide; omega)); exact rfl) | (first | (apply RP.step; intro _ _ _; (exact a_ok); exact rfl) | (apply RP.stepT; exact rfl; exact rfl; exact rfl; intro _ _ _; (exact a_ok); exact rfl) | (apply RP.stepF; exact rfl; exact rfl; exact rfl; exact rfl; exact rfl) | (apply RP.effF; exact rfl; exact rfl; exact rfl; exact rfl; exact rfl)) | (apply RP.callQ; (exact a_evs); exact rfl)))
    apply RP.nil
    generalize hn : (x0.toNat : Int) + ((x1.toNat * 256 : Nat) : Int) + ((x2.toNat * 65536 : Nat) : Int) + ((x3.toNat * 16777216 : Nat) : Int) = n
    have hrs : (readS (bs.drop at_) : Int) = n := by
      rw [hdr, ← hn]
      show ((x0.toNat + x1.toNat * 256 + x2.toNat * 65536 + x3.toNat * 16777216 : Nat) : Int) = _
      omega
    have hn0 : 0 ≤ n := by omega
    have hdl : (bs.drop at_).length = bs.length - at_ := List.length_drop ..
    (repeat' (first | refine a_go ?_ | (with_reducible apply Fin.thenK; assumption) | (with_reducible (first | apply C.seqK | apply C.regionK); intro _ _) | (apply R.buildSlice0; exact rfl; intro bz) | (apply R.box; exact rfl; (simp only [Value.cells]; rfl); exact rfl; intro bx) | (apply R.alloc; (simp only [Value.cells]; rfl); exact rfl; intro ba) | (apply R.buildSlice; (exact a_prt); exact rfl; exact rfl; (exact a_fills); exact rfl; intro bl) | (refine a_sp ?_ ?_; (intro h; skip; rotate_left; intro h; skip; rotate_left)) | fail))
    · have h1 : 65536 < n := by assumption
      apply Fin.ice (hp := hrow) (Arr.all _)
      intro M2 hM2 hin
      have hw : wholeS (bs.drop at_) = none := by unfold wholeS; rw [if_neg (by omega), if_pos (by omega)]
      (refine Fin.rt ?_)
      exact fin hw M2 hM2 hin
    · have h1 : (bs.length : Int) - ai - 8 < n := by assumption
      apply Fin.ice (hp := hrow) (Arr.all _)
      intro M2 hM2 hin
      have hw : wholeS (bs.drop at_) = none := by
        unfold wholeS
        rw [if_neg (by omega), if_pos (by have : (bs.drop at_).length - 8 < 4294967296 := by omega
                                          rw [Nat.mod_eq_of_lt this]; omega)]
      (refine Fin.rt ?_)
      exact fin hw M2 hM2 hin
    have h1 : ¬ 65536 < n := by assumption
    have h2 : ¬ (bs.length : Int) - ai - 8 < n := by assumption
    (apply R.step; (apply Ok.sliceLoHi; exact rfl; exact rfl; exact rfl; omega; omega; omega); exact rfl)
    obtain ⟨nn, rfl⟩ := Int.eq_ofNat_of_zero_le hn0
    have hrn : readS (bs.drop at_) = nn := by omega
    have hxl : ((bs.drop (at_ + 8)).take nn).length = nn := by simp; omega
    have ea : (ai + 8).toNat = at_ + 8 := by omega
    have eb : (ai + 8 + (nn : Int)).toNat - (at_ + 8) = nn := by omega
    rw [ea, eb]
    have hpx : Pl M1 (adv (some ⟨b0, o0, none⟩) (at_ + 8) 1 cap) (((bs.drop (at_ + 8)).take nn).map bv) := Pl.cutTake nn (hpl.mono hM1) hc
    have hwS : wholeS (bs.drop at_) = if sumS ((bs.drop (at_ + 8)).take nn) = readS (x4 :: x5 :: x6 :: x7 :: rest) then some ((bs.drop (at_ + 8)).take nn) else none := by
      have e8 : (bs.drop at_).drop 8 = bs.drop (at_ + 8) := List.drop_drop ..
      have e4 : (bs.drop at_).drop 4 = x4 :: x5 :: x6 :: x7 :: rest := by rw [hdr]; rfl
      unfold wholeS
      rw [if_neg (by omega), if_neg (by have : (bs.drop at_).length - 8 < 4294967296 := by omega
                                        rw [Nat.mod_eq_of_lt this]; omega), hrn, e8, e4]
    generalize hX : (bs.drop (at_ + 8)).take nn = X at hxl hpx hwS
    generalize adv (some ⟨b0, o0, none⟩) (at_ + 8) 1 cap = AX at hpx ⊢
    have hsl := sumS_lt X
    (repeat' (first | refine a_go ?_ | (with_reducible apply Fin.thenK; assumption) | (with_reducible (first | apply C.seqK | apply C.regionK); intro _ _) | (apply R.buildSlice0; exact rfl; intro bz) | (apply R.box; exact rfl; (simp only [Value.cells]; rfl); exact rfl; intro bx) | (apply R.alloc; (simp only [Value.cells]; rfl); exact rfl; intro ba) | (apply R.buildSlice; (exact a_prt); exact rfl; exact rfl; (exact a_fills); exact rfl; intro bl) | (refine a_sp ?_ ?_; (intro h; skip; rotate_left; intro h; skip; rotate_left)) | fail))
    ((apply R.call; (exact a_evs); exact rfl); rw [show (Value.slice AX nn (cap - (at_ + 8))) = .slice AX X.length (cap - (at_ + 8)) by rw [hxl]]; exact rsum_K hpx (by omega); rintro _ M1 H ⟨rfl, rfl, rfl⟩)
    generalize hS : sumS X = sX at hsl hwS
    have hfour := readS_four (x0 := x4) (x1 := x5) (x2 := x6) (x3 := x7) (rest := rest) hsl
    have hmis : ¬ (x4 = UInt8.ofNat sX ∧ x5 = UInt8.ofNat (sX / 256) ∧ x6 = UInt8.ofNat (sX / 65536) ∧ x7 = UInt8.ofNat (sX / 16777216)) → wholeS (bs.drop at_) = none := fun h => by
      rw [hwS, if_neg]; intro e; exact h (hfour.1 e.symm)
    (repeat' (first | (apply R.step; (apply Ok.move; exact rfl); exact rfl) | (apply R.step; (first | (apply Ok.indexAddr; exact rfl; exact rfl; omega; omega) | (apply Ok.loadP; exact rfl; exact rfl; exact hat0; (first | (rw [n4 ()]; exact g4) | (rw [n5 ()]; exact g5) | (rw [n6 ()]; exact g6) | (rw [n7 ()]; exact g7)))); exact rfl) | refine a_go ?_ | (with_reducible apply Fin.thenK; assumption) | (with_reducible (first | apply C.seqK | apply C.regionK); intro _ _) | (apply R.buildSlice0; exact rfl; intro bz) | (apply R.box; exact rfl; (simp only [Value.cells]; rfl); exact rfl; intro bx) | (apply R.alloc; (simp only [Value.cells]; rfl); exact rfl; intro ba) | (apply R.buildSlice; (exact a_prt); exact rfl; exact rfl; (exact a_fills); exact rfl; intro bl) | (refine a_sp ?_ ?_; (intro h; skip; rotate_left; intro h; skip; rotate_left)) | fail))
    rotate_left 4
    · have e4 : (x4.toNat : Int) = (UInt8.ofNat sX).toNat := by assumption
      have e5 : (x5.toNat : Int) = (UInt8.ofNat (sX / 256)).toNat := by assumption
      have e6 : (x6.toNat : Int) = (UInt8.ofNat (sX / 65536)).toNat := by assumption
      have e7 : (x7.toNat : Int) = (UInt8.ofNat (sX / 16777216)).toNat := by assumption
      have hw : wholeS (bs.drop at_) = some X := by
        rw [hwS, if_pos (hfour.2 ⟨UInt8.toNat_inj.1 (by omega), UInt8.toNat_inj.1 (by omega), UInt8.toNat_inj.1 (by omega), UInt8.toNat_inj.1 (by omega)⟩).symm]
      have hfr2 := framesF_some hw
      rw [List.drop_drop] at hfr2
      (apply R.append (news := X.map bv); exact rfl; exact rfl; exact Own.empty; (exact a_tk); exact hpx.rd; (focus (simp; omega)); exact bv_one _; omega; exact rfl; decide; decide; exact rfl; rintro v1 hp1 hown1)
      have hown : Own 5 1 v1 X.length (X.map bv) hp1 := by
        have := hown1
        rw [hxl]
        simpa using this
      clear hown1
      obtain ⟨Av, cv, rfl, _, _⟩ := hown.form
      (repeat' (first | refine a_go ?_ | (with_reducible apply Fin.thenK; assumption) | (with_reducible (first | apply C.seqK | apply C.regionK); intro _ _) | (apply R.buildSlice0; exact rfl; intro bz) | (apply R.box; exact rfl; (simp only [Value.cells]; rfl); exact rfl; intro bx) | (apply R.alloc; (simp only [Value.cells]; rfl); exact rfl; intro ba) | (apply R.buildSlice; (exact a_prt); exact rfl; exact rfl; (exact a_fills); exact rfl; intro bl) | (refine a_sp ?_ ?_; (intro h; skip; rotate_left; intro h; skip; rotate_left)) | fail))
      have hpl8 : endS pre ≤ bs.length := by omega
      have hpl9 := endS_len pre
      (apply R.append (news := [.slice Av X.length cv]); exact rfl; exact rfl; exact how; (exact a_tk); exact Rd.at_ (l := [.slice Av X.length cv]) (by (exact a_at)) (fun j u h => by rw [Nat.zero_add]; exact h); exact rfl; (intro u hu; simp only [List.mem_singleton] at hu; subst hu; rfl); omega; exact rfl; decide; decide; exact rfl; rintro ov2 hrow2 how2)
      (repeat' (first | refine a_go ?_ | (with_reducible apply Fin.thenK; assumption) | (with_reducible (first | apply C.seqK | apply C.regionK); intro _ _) | (apply R.buildSlice0; exact rfl; intro bz) | (apply R.box; exact rfl; (simp only [Value.cells]; rfl); exact rfl; intro bx) | (apply R.alloc; (simp only [Value.cells]; rfl); exact rfl; intro ba) | (apply R.buildSlice; (exact a_prt); exact rfl; exact rfl; (exact a_fills); exact rfl; intro bl) | (refine a_sp ?_ ?_; (intro h; skip; rotate_left; intro h; skip; rotate_left)) | fail))
      apply Fin.ice (hp := hp1) (H1 := hrow2 ++ H) (by (exact a_arr))
      intro M2 hM2 hin
      refine Fin.again (⟨at_ + (8 + X.length), ai + 8 + nn, M2, ov2, vs ++ [.slice Av X.length cv], pre ++ [X], hrow2⟩ : RlX) ⟨by dsimp only; omega, by dsimp only; omega, hM1.trans_ hM2, (hvs.mono hM2).snoc (hown.plB hin), ?_, ?_, ?_⟩ (by dsimp only; omega) ?_ rfl rfl
      · dsimp only
        rw [List.length_append]
        exact how2
      · dsimp only
        rw [hfr, hfr2, List.append_assoc]
        rfl
      · dsimp only
        rw [endS_append, hend]
        simp [endS]
      · dsimp only
        (exact a_subs)
    all_goals
      apply Fin.ice (hp := hrow) (Arr.all _)
      intro M2 hM2 hin
      have hw : wholeS (bs.drop at_) = none := hmis (by
        rintro ⟨e4, e5, e6, e7⟩
        first
          | exact (by assumption : (x4.toNat : Int) ≠ (UInt8.ofNat sX).toNat) (by rw [e4])
          | exact (by assumption : (x5.toNat : Int) ≠ (UInt8.ofNat (sX / 256)).toNat) (by rw [e5])
          | exact (by assumption : (x6.toNat : Int) ≠ (UInt8.ofNat (sX / 65536)).toNat) (by rw [e6])
          | exact (by assumption : (x7.toNat : Int) ≠ (UInt8.ofNat (sX / 16777216)).toNat) (by rw [e7]))
      (refine Fin.rt ?_)
      exact fin hw M2 hM2 hin
  · apply Fin.ice (hp := hrow) (Arr.all _)
    intro M2 hM2 hin
    have hw : wholeS (bs.drop at_) = none := if_pos (by simp; omega)
    (refine Fin.rt ?_)
    exact fin hw M2 hM2 hin
end Go.Sx
end
section
namespace Go.Sx
open Go Go.Proofs Go.RowKit
attribute [local irreducible] C R Fin K Own OwnT Rd Pl Ok KOf RetOk OpsOf RP KP Res NoPanic KV KE MapS ItS EntS FsO FsR RowD PlD DkO PlFs RT KT OneT RS KS OneS RdO
variable {M M' : Mem} {H H1 H2 : Hp}
theorem rframe_KF {A : Option Addr} {cap m : Nat} {bs : List UInt8} (hpl : Pl M A (bs.map bv)) (hm : bs.length = m) (hb : m ≤ 140737488351232) : K Tryz.prog 57 [.slice A m cap] M H fun v M' H' =>
    PlB M' v (frameS bs) ∧ M.le M' ∧ H' = H := by
  subst hm
  refine (rframe_K hpl hb).freezeT ?_
  rintro v M' H' ⟨hp, h1, rfl, rfl⟩
  exact ⟨hp, _, Arr.all _, fun M2 hM2 hin => ⟨h1.plB hin, hM2, rfl⟩⟩
theorem here_K {rb : Nat} {d : Dk} {hp : Hp} {n : Txt} (ho : RdO M rb d hp) (hl : d.now.length ≤ 1000000) : K Tryz.prog 39 [.pointer (some ⟨rb, 0, none⟩), str n] M (hp ++ H) fun v' M' H' => v' = .bool (readD d n).isSome ∧ M' = M ∧ H' = hp ++ H := by
  refine K.enterK Tryz.func39 rfl rfl rfl ?_
  intro Q hNP hQ
  (repeat' (first | refine a_go ?_ | (with_reducible apply Fin.thenK; assumption) | (with_reducible (first | apply C.seqK | apply C.regionK); intro _ _) | (apply R.buildSlice0; exact rfl; intro bz) | (apply R.box; exact rfl; (simp only [Value.cells]; rfl); exact rfl; intro bx) | (apply R.alloc; (simp only [Value.cells]; rfl); exact rfl; intro ba) | (apply R.buildSlice; (exact a_prt); exact rfl; exact rfl; (exact a_fills); exact rfl; intro bl) | (refine a_sp ?_ ?_; (intro h; skip; rotate_left; intro h; skip; rotate_left)) | fail))
  (apply R.call; (exact a_evs); exact rfl; exact rread_KD (n := n) ho hl; rintro _ M _ ⟨v, rfl, hb, rfl, rfl⟩)
  obtain ⟨A, c, rfl, _⟩ := hb
  (repeat' (first | refine a_go ?_ | (with_reducible apply Fin.thenK; assumption) | (with_reducible (first | apply C.seqK | apply C.regionK); intro _ _) | (apply R.buildSlice0; exact rfl; intro bz) | (apply R.box; exact rfl; (simp only [Value.cells]; rfl); exact rfl; intro bx) | (apply R.alloc; (simp only [Value.cells]; rfl); exact rfl; intro ba) | (apply R.buildSlice; (exact a_prt); exact rfl; exact rfl; (exact a_fills); exact rfl; intro bl) | (refine a_sp ?_ ?_; (intro h; skip; rotate_left; intro h; skip; rotate_left)) | fail))
  (apply Fin.returnA (H2 := hp ++ H); assumption; (first | exact .inl rfl | exact .inr rfl); exact rfl; (exact a_res); (simp only [retv]; rfl); (exact a_arr))
  exact ⟨rfl, rfl, rfl⟩
theorem opD_ps2 (d : Dk) (e : Int) (x : De) : szD (opD e d x) ≤ szD d + 1 := by
  unfold opD szD
  split
  · show (cntD d).S.length + (d.ps ++ [x]).length ≤ _
    rw [cntD_S, List.length_append]
    exact Nat.le_refl _
  · rw [cntD_S, cntD_ps]
    omega
end Go.Sx
end
section
namespace Go.Sx
open Go Go.Proofs Go.RowKit
attribute [local irreducible] C R Fin K Own OwnT Rd Pl Ok KOf RetOk OpsOf RP KP Res NoPanic KV KE RT KT OneT RS KS OneS
variable {M M' : Mem} {H H1 H2 : Hp}
theorem rnum1_K {n : Nat} (hn : n ≤ 18446744073709551615) : K Tryz.prog 56 [.int .u64 (n : Int)] M H fun v' M' H' => ∃ hr, Own 5 1 v' (numS n).length ((numS n).map bv) hr ∧ M' = M ∧ H' = hr ++ H := by
  refine K.enterK Tryz.func56 rfl rfl rfl ?_
  intro Q hNP hQ
  (repeat' (first | refine a_go ?_ | (with_reducible apply Fin.thenK; assumption) | (with_reducible (first | apply C.seqK | apply C.regionK); intro _ _) | (apply R.buildSlice0; exact rfl; intro bz) | (apply R.box; exact rfl; (simp only [Value.cells]; rfl); exact rfl; intro bx) | (apply R.alloc; (simp only [Value.cells]; rfl); exact rfl; intro ba) | (apply R.buildSlice; (exact a_prt); exact rfl; exact rfl; (exact a_fills); exact rfl; intro bl) | (refine a_sp ?_ ?_; (intro h; skip; rotate_left; intro h; skip; rotate_left)) | fail))
  apply C.loop (fun y : RnuX => y.n ≤ 18446744073709551615 ∧ numS n = y.bs ++ numS y.n ∧ y.bs.length ≤ 20 ∧ Own 5 1 y.v y.bs.length (y.bs.map bv) y.hr)
    (fun y => [(0, .int .u64 (y.n : Int)), (3, y.v)]) (fun _ => M) (fun y => y.hr ++ H) (fun y => y.n) ⟨n, .slice none 0 0, [], []⟩
  · exact ⟨hn, rfl, Nat.zero_le _, Own.nil _ _⟩
  · (exact a_subs)
  · exact rfl
  · exact rfl
  rintro ⟨m, v, bs, hr⟩ ⟨hm, hE, hl, hown⟩
  dsimp only at hm hE hl hown ⊢
  obtain ⟨A1, c1, rfl, _, _⟩ := hown.form
  have hL := (numS_len10 hn).2
  by_cases h128 : m < 128
  · (repeat' (first | (apply R.step; (apply Ok.move; exact rfl); exact rfl) | (apply R.step; (first | (apply Ok.geF; exact rfl; exact rfl; omega) | (apply Ok.convLI; exact rfl)); exact rfl) | refine a_go ?_ | (with_reducible apply Fin.thenK; assumption) | (with_reducible (first | apply C.seqK | apply C.regionK); intro _ _) | (apply R.buildSlice0; exact rfl; intro bz) | (apply R.box; exact rfl; (simp only [Value.cells]; rfl); exact rfl; intro bx) | (apply R.alloc; (simp only [Value.cells]; rfl); exact rfl; intro ba) | (apply R.buildSlice; (exact a_prt); exact rfl; exact rfl; (exact a_fills); exact rfl; intro bl) | (refine a_sp ?_ ?_; (intro h; skip; rotate_left; intro h; skip; rotate_left)) | fail))
    (apply R.append (news := [bv (UInt8.ofNat m)]) (k := 1); exact rfl; exact rfl; exact hown; (exact a_tk); exact Rd.at_ (l := [bv (UInt8.ofNat m)]) (by (exact a_at)) (fun j u h => by rw [Nat.zero_add]; exact h); exact rfl; (intro u hu; rw [List.mem_singleton] at hu; rw [hu]; rfl); omega; exact rfl; decide; decide; exact rfl; rintro v4 hp4 ho4)
    obtain ⟨A4, c4, rfl, _, _⟩ := ho4.form
    (repeat' (first | refine a_go ?_ | (with_reducible apply Fin.thenK; assumption) | (with_reducible (first | apply C.seqK | apply C.regionK); intro _ _) | (apply R.buildSlice0; exact rfl; intro bz) | (apply R.box; exact rfl; (simp only [Value.cells]; rfl); exact rfl; intro bx) | (apply R.alloc; (simp only [Value.cells]; rfl); exact rfl; intro ba) | (apply R.buildSlice; (exact a_prt); exact rfl; exact rfl; (exact a_fills); exact rfl; intro bl) | (refine a_sp ?_ ?_; (intro h; skip; rotate_left; intro h; skip; rotate_left)) | fail))
    (apply Fin.returnA (H2 := hp4 ++ H); assumption; (first | exact .inl rfl | exact .inr rfl); exact rfl; (exact a_res); (simp only [retv]; rfl); (exact a_arr))
    rw [hE, numS_lo h128]
    refine ⟨hp4, ?_, rfl, rfl⟩
    rw [List.length_append, List.map_append]
    exact ho4
  · have hdv : 0 < m := by omega
    have e1 : (m : Int) % 128 = ((m % 128 : Nat) : Int) := by omega
    have e2 : ((m % 128 : Nat) : Int) + 128 = ((m % 128 + 128 : Nat) : Int) := by omega
    have e3 : (m : Int) / 128 = ((m / 128 : Nat) : Int) := by omega
    have hbl : bs.length + 1 ≤ (numS n).length := by
      rw [hE, List.length_append]
      have := (numS_len10 hm).1
      omega
    (repeat' (first | (apply R.step; (apply Ok.move; exact rfl); exact rfl) | (apply R.step; (first | (apply Ok.geTr; exact rfl; exact rfl; omega) | (rw [e1]; apply Ok.addB; exact rfl; exact rfl; apply wu64; omega; omega) | (rw [e1, e2]; apply Ok.convLI; exact rfl)); exact rfl) | refine a_go ?_ | (with_reducible apply Fin.thenK; assumption) | (with_reducible (first | apply C.seqK | apply C.regionK); intro _ _) | (apply R.buildSlice0; exact rfl; intro bz) | (apply R.box; exact rfl; (simp only [Value.cells]; rfl); exact rfl; intro bx) | (apply R.alloc; (simp only [Value.cells]; rfl); exact rfl; intro ba) | (apply R.buildSlice; (exact a_prt); exact rfl; exact rfl; (exact a_fills); exact rfl; intro bl) | (refine a_sp ?_ ?_; (intro h; skip; rotate_left; intro h; skip; rotate_left)) | fail))
    (apply R.append (news := [bv (UInt8.ofNat (m % 128 + 128))]) (k := 1); exact rfl; exact rfl; exact hown; (exact a_tk); exact Rd.at_ (l := [bv (UInt8.ofNat (m % 128 + 128))]) (by (exact a_at)) (fun j u h => by rw [Nat.zero_add]; exact h); exact rfl; (intro u hu; rw [List.mem_singleton] at hu; rw [hu]; rfl); omega; exact rfl; decide; decide; exact rfl; rintro v4 hp4 ho4)
    (repeat' (first | (apply R.step; (apply Ok.move; exact rfl); exact rfl) | (apply R.step; (apply Ok.quoU; exact rfl; exact rfl; omega; omega; omega); exact rfl) | refine a_go ?_ | (with_reducible apply Fin.thenK; assumption) | (with_reducible (first | apply C.seqK | apply C.regionK); intro _ _) | (apply R.buildSlice0; exact rfl; intro bz) | (apply R.box; exact rfl; (simp only [Value.cells]; rfl); exact rfl; intro bx) | (apply R.alloc; (simp only [Value.cells]; rfl); exact rfl; intro ba) | (apply R.buildSlice; (exact a_prt); exact rfl; exact rfl; (exact a_fills); exact rfl; intro bl) | (refine a_sp ?_ ?_; (intro h; skip; rotate_left; intro h; skip; rotate_left)) | fail))
    rw [e3]
    (apply Fin.arr (H2 := hp4 ++ H); ((try simp only [List.append_assoc, List.cons_append, List.nil_append, List.append_nil]); exact a_arr))
    refine Fin.again (⟨m / 128, v4, bs ++ [UInt8.ofNat (m % 128 + 128)], hp4⟩ : RnuX) ⟨by dsimp only; omega, ?_, ?_, ?_⟩ (by dsimp only; omega) ?_ rfl rfl
    · dsimp only
      rw [hE, numS_hi h128, hi_byte, List.append_assoc]
      rfl
    · dsimp only
      rw [List.length_append, List.length_singleton]
      omega
    · dsimp only
      rw [List.length_append, List.map_append]
      exact ho4
    · (exact a_subs)
end Go.Sx
end
section
namespace Go.Sx
open Go Go.Proofs Go.RowKit
attribute [local irreducible] C R Fin K Own OwnT Rd Pl Ok KOf RetOk OpsOf RP KP Res NoPanic KV KE RT KT OneT RS KS OneS
variable {M M' : Mem} {H H1 H2 : Hp}
theorem rtext1_K {b : Txt} {A : Option Addr} {c : Nat} (hb : Pl M A (b.map bv)) (hbl : b.length ≤ 140737488351232) : K Tryz.prog 58 [.slice A b.length c] M H fun v' M' H' => ∃ hr, Own 5 1 v' (textS b).length ((textS b).map bv) hr ∧ M' = M ∧ H' = hr ++ H := by
  refine K.enterK Tryz.func58 rfl rfl rfl ?_
  intro Q hNP hQ
  have hl10 := (numS_len10 (n := b.length) (by omega)).2
  (repeat' (first | (apply R.step; (apply Ok.move; exact rfl); exact rfl) | (apply R.step; (apply Ok.convB; exact rfl; apply wu64; omega; omega); exact rfl) | refine a_go ?_ | (with_reducible apply Fin.thenK; assumption) | (with_reducible (first | apply C.seqK | apply C.regionK); intro _ _) | (apply R.buildSlice0; exact rfl; intro bz) | (apply R.box; exact rfl; (simp only [Value.cells]; rfl); exact rfl; intro bx) | (apply R.alloc; (simp only [Value.cells]; rfl); exact rfl; intro ba) | (apply R.buildSlice; (exact a_prt); exact rfl; exact rfl; (exact a_fills); exact rfl; intro bl) | (refine a_sp ?_ ?_; (intro h; skip; rotate_left; intro h; skip; rotate_left)) | fail))
  (apply R.call; (exact a_evs); exact rfl; exact rnum1_K (n := b.length) (by omega); rintro v2 M _ ⟨hr2, ho2, rfl, rfl⟩)
  obtain ⟨A2, c2, rfl, _, _⟩ := ho2.form
  (repeat' (first | refine a_go ?_ | (with_reducible apply Fin.thenK; assumption) | (with_reducible (first | apply C.seqK | apply C.regionK); intro _ _) | (apply R.buildSlice0; exact rfl; intro bz) | (apply R.box; exact rfl; (simp only [Value.cells]; rfl); exact rfl; intro bx) | (apply R.alloc; (simp only [Value.cells]; rfl); exact rfl; intro ba) | (apply R.buildSlice; (exact a_prt); exact rfl; exact rfl; (exact a_fills); exact rfl; intro bl) | (refine a_sp ?_ ?_; (intro h; skip; rotate_left; intro h; skip; rotate_left)) | fail))
  (apply R.append (news := b.map bv); exact rfl; exact rfl; exact ho2; (exact a_tk); exact Pl.rd hb; (rw [List.length_map, Nat.mul_one]); exact bv_one _; omega; exact rfl; decide; decide; exact rfl; rintro v4 hp4 hown4)
  (repeat' (first | refine a_go ?_ | (with_reducible apply Fin.thenK; assumption) | (with_reducible (first | apply C.seqK | apply C.regionK); intro _ _) | (apply R.buildSlice0; exact rfl; intro bz) | (apply R.box; exact rfl; (simp only [Value.cells]; rfl); exact rfl; intro bx) | (apply R.alloc; (simp only [Value.cells]; rfl); exact rfl; intro ba) | (apply R.buildSlice; (exact a_prt); exact rfl; exact rfl; (exact a_fills); exact rfl; intro bl) | (refine a_sp ?_ ?_; (intro h; skip; rotate_left; intro h; skip; rotate_left)) | fail))
  (apply Fin.returnA (H2 := hp4 ++ H); assumption; (first | exact .inl rfl | exact .inr rfl); exact rfl; (exact a_res); (simp only [retv]; rfl); (exact a_arr))
  refine ⟨hp4, ?_, rfl, rfl⟩
  unfold textS
  rw [List.length_append, List.map_append]
  exact hown4
end Go.Sx
end
section
namespace Go.Sx
open Go Go.Proofs Go.RowKit
attribute [local irreducible] C R Fin K Own OwnT Rd Pl Ok KOf RetOk OpsOf RP KP Res NoPanic KV KE MapS ItS EntS FsO FsR RowD PlD DkO PlFs RT KT OneT RdO
variable {M M' : Mem} {H H1 H2 : Hp}
theorem rrename_K {rb : Nat} {d : Dk} {hp : Hp} {n t : Txt} (ho : RdO M rb d hp) (hl : d.now.length ≤ 1000000) (hlen : d.ps.length ≤ 1000000) (htl : t.length ≤ 1099511627776) : K Tryz.prog 59 [.pointer (some ⟨rb, 0, none⟩), str n, str t] M (hp ++ H) fun v' M' H' => v' = .int .i64 (renE d n t) ∧ M.le M' ∧ ∃ hp', RdO M' rb (opD (renE d n t) d (.ren n t)) hp' ∧ H' = hp' ++ H := by
  refine K.enterK Tryz.func59 rfl rfl rfl ?_
  intro Q hNP hQ
  have hnn := ho.nodup
  have hok := ho.isok
  (repeat' (first | refine a_go ?_ | (with_reducible apply Fin.thenK; assumption) | (with_reducible (first | apply C.seqK | apply C.regionK); intro _ _) | (apply R.buildSlice0; exact rfl; intro bz) | (apply R.box; exact rfl; (simp only [Value.cells]; rfl); exact rfl; intro bx) | (apply R.alloc; (simp only [Value.cells]; rfl); exact rfl; intro ba) | (apply R.buildSlice; (exact a_prt); exact rfl; exact rfl; (exact a_fills); exact rfl; intro bl) | (refine a_sp ?_ ?_; (intro h; skip; rotate_left; intro h; skip; rotate_left)) | fail))
  (apply R.call; (exact a_evs); exact rfl; exact rcounts_KD ho; rintro _ M _ ⟨rfl, rfl, hp1, ho1, rfl, hdn⟩)
  by_cases hs : stopD d
  · have hE : renE d n t = 3 := if_pos hs
    rw [hE, opD_no (by decide)] at hQ
    rw [if_pos hs]
    (repeat' (first | refine a_go ?_ | (with_reducible apply Fin.thenK; assumption) | (with_reducible (first | apply C.seqK | apply C.regionK); intro _ _) | (apply R.buildSlice0; exact rfl; intro bz) | (apply R.box; exact rfl; (simp only [Value.cells]; rfl); exact rfl; intro bx) | (apply R.alloc; (simp only [Value.cells]; rfl); exact rfl; intro ba) | (apply R.buildSlice; (exact a_prt); exact rfl; exact rfl; (exact a_fills); exact rfl; intro bl) | (refine a_sp ?_ ?_; (intro h; skip; rotate_left; intro h; skip; rotate_left)) | fail))
    (apply Fin.returnA (H2 := hp1 ++ H); assumption; (first | exact .inl rfl | exact .inr rfl); exact rfl; (exact a_res); (simp only [retv]; rfl); (exact a_arr))
    exact ⟨rfl, Mem.le_refl _, hp1, ho1, rfl⟩
  rw [if_neg hs]
  (repeat' (first | refine a_go ?_ | (with_reducible apply Fin.thenK; assumption) | (with_reducible (first | apply C.seqK | apply C.regionK); intro _ _) | (apply R.buildSlice0; exact rfl; intro bz) | (apply R.box; exact rfl; (simp only [Value.cells]; rfl); exact rfl; intro bx) | (apply R.alloc; (simp only [Value.cells]; rfl); exact rfl; intro ba) | (apply R.buildSlice; (exact a_prt); exact rfl; exact rfl; (exact a_fills); exact rfl; intro bl) | (refine a_sp ?_ ?_; (intro h; skip; rotate_left; intro h; skip; rotate_left)) | fail))
  (apply R.call; (exact a_evs); exact rfl; exact rname_K (n := t) (by omega); rintro _ M _ ⟨rfl, rfl, rfl⟩)
  cases hnm : namedB t with
  | false =>
    have hE : renE d n t = 1 := (if_neg hs).trans (if_pos hnm)
    rw [hE, opD_no (by decide)] at hQ
    (repeat' (first | refine a_go ?_ | (with_reducible apply Fin.thenK; assumption) | (with_reducible (first | apply C.seqK | apply C.regionK); intro _ _) | (apply R.buildSlice0; exact rfl; intro bz) | (apply R.box; exact rfl; (simp only [Value.cells]; rfl); exact rfl; intro bx) | (apply R.alloc; (simp only [Value.cells]; rfl); exact rfl; intro ba) | (apply R.buildSlice; (exact a_prt); exact rfl; exact rfl; (exact a_fills); exact rfl; intro bl) | (refine a_sp ?_ ?_; (intro h; skip; rotate_left; intro h; skip; rotate_left)) | fail))
    (apply Fin.returnA (H2 := hp1 ++ H); assumption; (first | exact .inl rfl | exact .inr rfl); exact rfl; (exact a_res); (simp only [retv]; rfl); (exact a_arr))
    exact ⟨rfl, Mem.le_refl _, hp1, ho1, rfl⟩
  | true =>
  have hc := ho1
  unfold RdO at hc
  obtain ⟨⟨F, G, sv, nv, wv, fused, fuse⟩, hi, rfl⟩ := hc
  have hnG := hi.nG
  have hln := hi.len
  have hnow := cntD_now d
  rw [hnow] at hln
  dsimp only at hnG hln ⊢
  unfold rdkB
  (repeat' (first | refine a_go ?_ | (with_reducible apply Fin.thenK; assumption) | (with_reducible (first | apply C.seqK | apply C.regionK); intro _ _) | (apply R.buildSlice0; exact rfl; intro bz) | (apply R.box; exact rfl; (simp only [Value.cells]; rfl); exact rfl; intro bx) | (apply R.alloc; (simp only [Value.cells]; rfl); exact rfl; intro ba) | (apply R.buildSlice; (exact a_prt); exact rfl; exact rfl; (exact a_fills); exact rfl; intro bl) | (refine a_sp ?_ ?_; (intro h; skip; rotate_left; intro h; skip; rotate_left)) | fail))
  (apply R.call; (exact a_evs); exact rfl; exact rfind_K hnG (by omega); rintro _ M _ ⟨rfl, rfl, rfl⟩)
  have hfd := getS_find hi n
  rw [hnow] at hfd
  dsimp only at hfd
  have hnm' : ¬ namedB t = false := by rw [hnm]; decide
  rcases hfd with ⟨h1, h2⟩ | ⟨h1, j, b, h2, h3, h4⟩
  · have hE : renE d n t = 4 := (if_neg hs).trans ((if_neg hnm').trans (if_pos h2))
    rw [hE, opD_no (by decide)] at hQ
    (repeat' (first | (apply R.step; (apply Ok.move; exact rfl); exact rfl) | (apply R.step; (first | (apply Ok.ltTr; exact rfl; exact rfl; omega) | (apply Ok.ltF; exact rfl; exact rfl; omega) | (apply Ok.gtTr; exact rfl; exact rfl; omega) | (apply Ok.gtF; exact rfl; exact rfl; omega) | (apply Ok.geTr; exact rfl; exact rfl; omega) | (apply Ok.geF; exact rfl; exact rfl; omega) | (apply Ok.leTr; exact rfl; exact rfl; omega) | (apply Ok.leF; exact rfl; exact rfl; omega) | (apply Ok.neIT; exact rfl; exact rfl; omega) | (apply Ok.eqIF; exact rfl; exact rfl; omega)); exact rfl) | refine a_go ?_ | (with_reducible apply Fin.thenK; assumption) | (with_reducible (first | apply C.seqK | apply C.regionK); intro _ _) | (apply R.buildSlice0; exact rfl; intro bz) | (apply R.box; exact rfl; (simp only [Value.cells]; rfl); exact rfl; intro bx) | (apply R.alloc; (simp only [Value.cells]; rfl); exact rfl; intro ba) | (apply R.buildSlice; (exact a_prt); exact rfl; exact rfl; (exact a_fills); exact rfl; intro bl) | (refine a_sp ?_ ?_; (intro h; skip; rotate_left; intro h; skip; rotate_left)) | fail))
    (apply Fin.returnA (H2 := [(rb, rdkB (cntD d).room sv nv wv fused fuse (cntD d).down)] ++ H); assumption; (first | exact .inl rfl | exact .inr rfl); exact rfl; (exact a_res); (simp only [retv]; rfl); (exact a_arr))
    exact ⟨rfl, Mem.le_refl _, _, ho1, rfl⟩
  · have hE : renE d n t = 0 := (if_neg hs).trans ((if_neg hnm').trans (if_neg (by rw [h4]; simp)))
    rw [hE] at hQ
    have hfit := ren_fit (n := n) (t := t) hnn hok.sum
    (repeat' (first | (apply R.step; (apply Ok.move; exact rfl); exact rfl) | (apply R.step; (first | (apply Ok.ltTr; exact rfl; exact rfl; omega) | (apply Ok.ltF; exact rfl; exact rfl; omega) | (apply Ok.gtTr; exact rfl; exact rfl; omega) | (apply Ok.gtF; exact rfl; exact rfl; omega) | (apply Ok.geTr; exact rfl; exact rfl; omega) | (apply Ok.geF; exact rfl; exact rfl; omega) | (apply Ok.leTr; exact rfl; exact rfl; omega) | (apply Ok.leF; exact rfl; exact rfl; omega) | (apply Ok.neIT; exact rfl; exact rfl; omega) | (apply Ok.eqIF; exact rfl; exact rfl; omega)); exact rfl) | refine a_go ?_ | (with_reducible apply Fin.thenK; assumption) | (with_reducible (first | apply C.seqK | apply C.regionK); intro _ _) | (apply R.buildSlice0; exact rfl; intro bz) | (apply R.box; exact rfl; (simp only [Value.cells]; rfl); exact rfl; intro bx) | (apply R.alloc; (simp only [Value.cells]; rfl); exact rfl; intro ba) | (apply R.buildSlice; (exact a_prt); exact rfl; exact rfl; (exact a_fills); exact rfl; intro bl) | (refine a_sp ?_ ?_; (intro h; skip; rotate_left; intro h; skip; rotate_left)) | fail))
    (apply R.call; (exact a_evs); exact rfl; exact rdoes_KC ho1 hok hl hlen (show DeC M (.ren n t) _ from rfl) hfit; rintro _ M3 _ ⟨rfl, hM3, hp3, ho3, rfl⟩)
    (repeat' (first | refine a_go ?_ | (with_reducible apply Fin.thenK; assumption) | (with_reducible (first | apply C.seqK | apply C.regionK); intro _ _) | (apply R.buildSlice0; exact rfl; intro bz) | (apply R.box; exact rfl; (simp only [Value.cells]; rfl); exact rfl; intro bx) | (apply R.alloc; (simp only [Value.cells]; rfl); exact rfl; intro ba) | (apply R.buildSlice; (exact a_prt); exact rfl; exact rfl; (exact a_fills); exact rfl; intro bl) | (refine a_sp ?_ ?_; (intro h; skip; rotate_left; intro h; skip; rotate_left)) | fail))
    (apply Fin.returnA (H2 := hp3 ++ H); assumption; (first | exact .inl rfl | exact .inr rfl); exact rfl; (exact a_res); (simp only [retv]; rfl); (exact a_arr))
    exact ⟨rfl, hM3, hp3, ho3, rfl⟩
end Go.Sx
end
section
namespace Go.Sx
open Go Go.Proofs Go.RowKit
attribute [local irreducible] C R Fin K Own OwnT Rd Pl Ok KOf RetOk OpsOf RP KP Res NoPanic KV KE MapS ItS EntS FsO FsR RowD PlD DkO PlFs RT KT OneT RS KS OneS RdO
variable {M M' : Mem} {H H1 H2 : Hp}
structure RpY where
  v : Value
  hp : Hp
theorem rsaveP_K {rb : Nat} {d : Dk} {hp : Hp} {i t cp : Nat} {c : Int} {A : Option Addr} {b : Txt} (ho : RdO M rb d hp) (hsz : szD d ≤ 900000) (hi : i ≤ 18446744073709551615) (ht : t ≤ 18446744073709551615) (hb : Pl M A (b.map bv)) : K Tryz.prog 17 [.pointer (some ⟨rb, 0, none⟩), .agg (snC i t c (.slice A b.length cp)).toArray] M (hp ++ H) fun v' M' H' => v' = .int .i64 (saveP d i t c b).1 ∧ M.le M' ∧ ∃ hp', RdO M' rb (saveP d i t c b).2 hp' ∧ H' = hp' ++ H := by
  refine K.enterK Tryz.func17 rfl rfl rfl ?_
  intro Q hNP hQ
  have hnow := now_sz d
  have hpsz : d.ps.length ≤ szD d := Nat.le_add_left _ _
  (repeat' (first | refine a_go ?_ | (with_reducible apply Fin.thenK; assumption) | (with_reducible (first | apply C.seqK | apply C.regionK); intro _ _) | (apply R.buildSlice0; exact rfl; intro bz) | (apply R.box; exact rfl; (simp only [Value.cells]; rfl); exact rfl; intro bx) | (apply R.alloc; (simp only [Value.cells]; rfl); exact rfl; intro ba) | (apply R.buildSlice; (exact a_prt); exact rfl; exact rfl; (exact a_fills); exact rfl; intro bl) | (refine a_sp ?_ ?_; (intro h; skip; rotate_left; intro h; skip; rotate_left)) | fail))
  (apply R.call; (exact a_evs); exact rfl; exact rsnap9_K; rintro _ M _ ⟨rfl, rfl, rfl⟩)
  by_cases hr : rgtP i t c b.length
  rotate_left
  · have hE : saveP d i t c b = (1, d) := if_pos hr
    rw [hE] at hQ
    rw [decide_eq_false hr]
    (repeat' (first | refine a_go ?_ | (with_reducible apply Fin.thenK; assumption) | (with_reducible (first | apply C.seqK | apply C.regionK); intro _ _) | (apply R.buildSlice0; exact rfl; intro bz) | (apply R.box; exact rfl; (simp only [Value.cells]; rfl); exact rfl; intro bx) | (apply R.alloc; (simp only [Value.cells]; rfl); exact rfl; intro ba) | (apply R.buildSlice; (exact a_prt); exact rfl; exact rfl; (exact a_fills); exact rfl; intro bl) | (refine a_sp ?_ ?_; (intro h; skip; rotate_left; intro h; skip; rotate_left)) | fail))
    (apply Fin.returnA (H2 := hp ++ H); assumption; (first | exact .inl rfl | exact .inr rfl); exact rfl; (exact a_res); (simp only [retv]; rfl); (exact a_arr))
    exact ⟨rfl, Mem.le_refl _, hp, ho, rfl⟩
  rw [decide_eq_true hr]
  obtain ⟨cn, hcn⟩ : ∃ cn : Nat, c = (cn : Int) := ⟨_, (Int.toNat_of_nonneg (by have := hr.1; omega)).symm⟩
  subst hcn
  have hbl : b.length ≤ 32768 := hr.2.2.2.2.2
  unfold snC
  (repeat' (first | (apply R.step; (apply Ok.move; exact rfl); exact rfl) | (apply R.step; (first | (apply Ok.ltTr; exact rfl; exact rfl; omega) | (apply Ok.ltF; exact rfl; exact rfl; omega) | (apply Ok.gtTr; exact rfl; exact rfl; omega) | (apply Ok.gtF; exact rfl; exact rfl; omega) | (apply Ok.geTr; exact rfl; exact rfl; omega) | (apply Ok.geF; exact rfl; exact rfl; omega) | (apply Ok.leTr; exact rfl; exact rfl; omega) | (apply Ok.leF; exact rfl; exact rfl; omega) | (apply Ok.neIT; exact rfl; exact rfl; omega) | (apply Ok.eqIF; exact rfl; exact rfl; omega)); exact rfl) | (apply R.step; (exact a_ok); exact rfl) | (first | (with_reducible first | apply R.nil | apply C.ret | apply C.block | apply C.skip | apply C.exit | apply Fin.thenRet | apply Fin.thenExit | apply Fin.blockNormal | apply Fin.blockRet | apply Fin.blockExit) | (with_reducible apply Fin.thenK; assumption) | (with_reducible apply C.seqR; intro _ _) | (with_reducible apply C.regionK; intro _ _) | (with_reducible apply Fin.blockOther; exact rfl)) | (first | (apply R.store; exact rfl; exact rfl; exact rfl; (exact a_at); (exact a_blit); exact rfl; (focus (simp [Value.oneCell']; done))) | (apply R.buildSlice0; exact rfl; intro bz) | (apply R.box; exact rfl; (simp only [Value.cells]; rfl); exact rfl; intro bx) | (apply R.alloc; (simp only [Value.cells]; rfl); exact rfl; intro ba) | (apply R.buildSlice; (exact a_prt); exact rfl; exact rfl; (exact a_fills); exact rfl; intro bl)) | (first | (apply R.guardT; assumption; exact rfl; exact rfl; exact rfl) | (apply R.guardF; assumption; exact rfl; exact rfl; exact rfl; exact rfl; exact rfl) | (apply R.guardU; assumption; exact rfl; exact rfl; exact rfl; exact rfl) | (apply R.guardDec; assumption; exact rfl; exact rfl; (intro h; skip; rotate_left; intro h; skip; rotate_left)) | (apply R.guardBeq; assumption; exact rfl; exact rfl; (intro h; skip; rotate_left; intro h; skip; rotate_left)) | (apply R.guardBne; assumption; exact rfl; exact rfl; (intro h; skip; rotate_left; intro h; skip; rotate_left)) | (apply R.guardNDec; assumption; exact rfl; exact rfl; (intro h; skip; rotate_left; intro h; skip; rotate_left)) | (apply R.guardNot; assumption; exact rfl; exact rfl; (intro h; skip; rotate_left; intro h; skip; rotate_left)) | (apply R.guardC; assumption; exact rfl; exact rfl; (intro h; skip; rotate_left; intro h; skip; rotate_left)))))
  ((apply C.condF; exact rfl); apply C.skip; (apply Fin.thenK; assumption))
  apply C.seqCut (X := RpX) (fun y => M.le y.M ∧ (clrN pnew d).1 = 0 ∧ RdO y.M rb (clrN pnew d).2 y.hp) (fun _ => [(0, .pointer (some ⟨rb, 0, none⟩)), (3, .pointer (some ⟨bx, 0, none⟩))]) (fun y => y.M) (fun y => (bx, .cells [.int .u64 (i : Int), .int .u64 (t : Int), .int .i64 (cn : Int), .slice A b.length cp].toArray 34 (0, 0)) :: (y.hp ++ H))
  · (repeat' (first | refine a_go ?_ | (with_reducible apply Fin.thenK; assumption) | (with_reducible (first | apply C.seqK | apply C.regionK); intro _ _) | (apply R.buildSlice0; exact rfl; intro bz) | (apply R.box; exact rfl; (simp only [Value.cells]; rfl); exact rfl; intro bx) | (apply R.alloc; (simp only [Value.cells]; rfl); exact rfl; intro ba) | (apply R.buildSlice; (exact a_prt); exact rfl; exact rfl; (exact a_fills); exact rfl; intro bl) | (refine a_sp ?_ ?_; (intro h; skip; rotate_left; intro h; skip; rotate_left)) | fail))
    apply R.arr (H2 := hp ++ ((bx, .cells [.int .u64 (i : Int), .int .u64 (t : Int), .int .i64 (cn : Int), .slice A b.length cp].toArray 34 (0, 0)) :: H)) (by ((try simp only [List.append_assoc, List.cons_append, List.nil_append, List.append_nil]); exact a_arr))
    (apply R.call; (exact a_evs); exact rfl; exact here_K (n := pnew) ho (by omega); rintro _ M _ ⟨rfl, rfl, rfl⟩)
    cases hs : (readD d pnew).isSome with
    | false =>
      have hcl : clrN pnew d = (0, d) := by unfold clrN; rw [hs]; rfl
      (repeat' (first | refine a_go ?_ | (with_reducible apply Fin.thenK; assumption) | (with_reducible (first | apply C.seqK | apply C.regionK); intro _ _) | (apply R.buildSlice0; exact rfl; intro bz) | (apply R.box; exact rfl; (simp only [Value.cells]; rfl); exact rfl; intro bx) | (apply R.alloc; (simp only [Value.cells]; rfl); exact rfl; intro ba) | (apply R.buildSlice; (exact a_prt); exact rfl; exact rfl; (exact a_fills); exact rfl; intro bl) | (refine a_sp ?_ ?_; (intro h; skip; rotate_left; intro h; skip; rotate_left)) | fail))
      (apply Fin.arr (H2 := (bx, .cells [.int .u64 (i : Int), .int .u64 (t : Int), .int .i64 (cn : Int), .slice A b.length cp].toArray 34 (0, 0)) :: (hp ++ H)); ((try simp only [List.append_assoc, List.cons_append, List.nil_append, List.append_nil]); exact a_arr))
      refine Fin.join (⟨M, hp⟩ : RpX) ⟨Mem.le_refl _, by rw [hcl], by dsimp only; rw [hcl]; exact ho⟩ ?_ rfl rfl
      (exact a_subs)
    | true =>
      have hcl : clrN pnew d = (remE d pnew, opD (remE d pnew) d (.rem pnew)) := by unfold clrN; rw [hs]; rfl
      (repeat' (first | refine a_go ?_ | (with_reducible apply Fin.thenK; assumption) | (with_reducible (first | apply C.seqK | apply C.regionK); intro _ _) | (apply R.buildSlice0; exact rfl; intro bz) | (apply R.box; exact rfl; (simp only [Value.cells]; rfl); exact rfl; intro bx) | (apply R.alloc; (simp only [Value.cells]; rfl); exact rfl; intro ba) | (apply R.buildSlice; (exact a_prt); exact rfl; exact rfl; (exact a_fills); exact rfl; intro bl) | (refine a_sp ?_ ?_; (intro h; skip; rotate_left; intro h; skip; rotate_left)) | fail))
      (apply R.call; (exact a_evs); exact rfl; exact rremove_K (n := pnew) ho (by omega) (by omega); rintro _ M8 _ ⟨rfl, hM8, hp8, ho8, rfl⟩)
      by_cases hc1 : remE d pnew ≠ 0
      · have hE : saveP d i t cn b = clrN pnew d := (if_neg (fun h => h hr)).trans (if_pos (by rw [hcl]; exact hc1))
        rw [hE, hcl] at hQ
        (repeat' (first | (apply R.step; (apply Ok.move; exact rfl); exact rfl) | (apply R.step; (apply Ok.neIT; exact rfl; exact rfl; exact hc1); exact rfl) | refine a_go ?_ | (with_reducible apply Fin.thenK; assumption) | (with_reducible (first | apply C.seqK | apply C.regionK); intro _ _) | (apply R.buildSlice0; exact rfl; intro bz) | (apply R.box; exact rfl; (simp only [Value.cells]; rfl); exact rfl; intro bx) | (apply R.alloc; (simp only [Value.cells]; rfl); exact rfl; intro ba) | (apply R.buildSlice; (exact a_prt); exact rfl; exact rfl; (exact a_fills); exact rfl; intro bl) | (refine a_sp ?_ ?_; (intro h; skip; rotate_left; intro h; skip; rotate_left)) | fail))
        (apply Fin.returnA (H2 := hp8 ++ H); assumption; (first | exact .inl rfl | exact .inr rfl); exact rfl; (exact a_res); (simp only [retv]; rfl); (exact a_arr))
        exact ⟨rfl, hM8, hp8, ho8, rfl⟩
      · have hc0 : remE d pnew = 0 := by omega
        (repeat' (first | (apply R.step; (apply Ok.move; exact rfl); exact rfl) | (apply R.step; (apply Ok.neIR; exact rfl; exact rfl; exact hc0); exact rfl) | refine a_go ?_ | (with_reducible apply Fin.thenK; assumption) | (with_reducible (first | apply C.seqK | apply C.regionK); intro _ _) | (apply R.buildSlice0; exact rfl; intro bz) | (apply R.box; exact rfl; (simp only [Value.cells]; rfl); exact rfl; intro bx) | (apply R.alloc; (simp only [Value.cells]; rfl); exact rfl; intro ba) | (apply R.buildSlice; (exact a_prt); exact rfl; exact rfl; (exact a_fills); exact rfl; intro bl) | (refine a_sp ?_ ?_; (intro h; skip; rotate_left; intro h; skip; rotate_left)) | fail))
        (apply Fin.arr (H2 := (bx, .cells [.int .u64 (i : Int), .int .u64 (t : Int), .int .i64 (cn : Int), .slice A b.length cp].toArray 34 (0, 0)) :: (hp8 ++ H)); ((try simp only [List.append_assoc, List.cons_append, List.nil_append, List.append_nil]); exact a_arr))
        refine Fin.join (⟨M8, hp8⟩ : RpX) ⟨hM8, by rw [hcl]; exact hc0, by dsimp only; rw [hcl]; exact ho8⟩ ?_ rfl rfl
        (exact a_subs)
  rintro ⟨M8, hp8⟩ ⟨hM8, hc0, ho8⟩
  dsimp only at hM8 hc0 ho8 ⊢
  have hcs : szD (clrN pnew d).2 ≤ szD d + 1 := by
    unfold clrN
    split
    · exact opD_ps2 _ _ _
    · show szD d ≤ _
      omega
  have hcn := now_sz (clrN pnew d).2
  have hcp : (clrN pnew d).2.ps.length ≤ szD (clrN pnew d).2 := Nat.le_add_left _ _
  have hE0 : saveP d i t cn b = if appE (clrN pnew d).2 pnew (frameS (spS i t cn b)) ≠ 0 then (appE (clrN pnew d).2 pnew (frameS (spS i t cn b)), opD (appE (clrN pnew d).2 pnew (frameS (spS i t cn b))) (clrN pnew d).2 (.app pnew (frameS (spS i t cn b)))) else
      (renE (opD 0 (clrN pnew d).2 (.app pnew (frameS (spS i t cn b)))) pnew pfile, opD (renE (opD 0 (clrN pnew d).2 (.app pnew (frameS (spS i t cn b)))) pnew pfile) (opD 0 (clrN pnew d).2 (.app pnew (frameS (spS i t cn b)))) (.ren pnew pfile)) := (if_neg (fun h => h hr)).trans (if_neg (fun h => h hc0))
  generalize (clrN pnew d).2 = d1 at hE0 ho8 hcs hcn hcp
  have hspl := spS_len (c := cn) hi ht hbl
  have hl1 := (numS_len10 hi).2
  have hl2 := (numS_len10 ht).2
  replace hb := hb.mono hM8
  apply C.seqCut (X := RpY) (fun y => Own 5 1 y.v ((numS i ++ numS t) ++ [UInt8.ofNat cn]).length (((numS i ++ numS t) ++ [UInt8.ofNat cn]).map bv) y.hp) (fun y => [(0, .pointer (some ⟨rb, 0, none⟩)), (3, .pointer (some ⟨bx, 0, none⟩)), (6, y.v)]) (fun _ => M8) (fun y => y.hp ++ ((bx, .cells [.int .u64 (i : Int), .int .u64 (t : Int), .int .i64 (cn : Int), .slice A b.length cp].toArray 34 (0, 0)) :: (hp8 ++ H)))
  · (apply C.regionT (t := .free 0 (.free 1 (.free 2 (.free 4 (.free 5 (.free 6 (.free 9 (.free 10 (.free 11 (.free 12 (.alt 3 13 (.alt 7 13 (.alt 8 13 (.one 13 (.one 14 (.free 15 .nil))) (.one 8 (.one 14 (.free 15 .nil)))) (.one 7 (.one 8 (.one 14 (.free 15 .nil))))) (.one 3 (.one 7 (.one 8 (.one 14 (.free 15 .nil)))))))))))))))) (Hs := [(bx, .cells [.int .u64 ↑i, .int .u64 ↑t, .int .i64 ↑cn, .slice A b.length cp].toArray 34 (0, 0))]); exact Mix.h; (first | exact Arr.all _ | (exact a_arr) | ((try simp only [List.append_assoc, List.cons_append, List.nil_append, List.append_nil]); exact a_arr)); (exact a_np); kernel_rfl)
    (repeat' (first | (apply RT.step; exact rfl; intro _ _ _; (apply Ok.move; exact rfl); exact rfl) | (apply RT.step; exact rfl; intro _ _ _; (apply Ok.convLI; exact rfl); exact rfl) | (first | (apply RT.step; exact rfl; intro _ _ _; (exact a_ok); exact rfl) | (apply RT.stepT; exact rfl; exact rfl; exact rfl; exact rfl; intro _ _ _; (exact a_ok); exact rfl) | (apply RT.stepF; exact rfl; exact rfl; exact rfl; exact rfl; exact rfl; exact rfl) | (apply RT.stepU; exact rfl; exact rfl; exact rfl; exact rfl; exact rfl) | (apply RT.one; apply OneT.effF; exact rfl; exact rfl; exact rfl; exact rfl; exact rfl; exact rfl) | (apply RT.one; apply OneT.effU; exact rfl; exact rfl; exact rfl; exact rfl; exact rfl))))
    apply RT.alt
    · (apply OneT.eff; exact rfl; intro Kc hKc ops0)
      (apply R.call; (exact a_evs); exact rfl; exact rnum1_K (n := i) hi; rintro vA M _ ⟨hpA, hoA, rfl, rfl⟩)
      obtain ⟨AA, cA, rfl, _, _⟩ := hoA.form
      ((first | apply R.nil | skip); apply Fin.kt (Hx := hpA ++ (hp8 ++ H)) hKc; exact Mem.le_refl _; ((try simp only [List.append_assoc, List.cons_append, List.nil_append, List.append_nil]); exact a_arr))
      apply RT.alt
      · (apply OneT.eff; exact rfl; intro Kc hKc ops0)
        (apply R.call; (exact a_evs); exact rfl; exact rnum1_K (n := t) ht; rintro vB M _ ⟨hpB, hoB, rfl, rfl⟩)
        obtain ⟨AB, cB, rfl, _, _⟩ := hoB.form
        ((first | apply R.nil | skip); apply Fin.kt (Hx := hpA ++ (hpB ++ (hp8 ++ H))) hKc; exact Mem.le_refl _; ((try simp only [List.append_assoc, List.cons_append, List.nil_append, List.append_nil]); exact a_arr))
        apply RT.alt
        · (apply OneT.eff; exact rfl; intro Kc hKc ops0)
          (apply R.append (news := (numS t).map bv) (k := (numS t).length); exact rfl; exact rfl; exact hoA; (exact a_tk); (exact Own.rd hoB (by (exact a_tk))); (rw [List.length_map, Nat.mul_one]); exact bv_one _; omega; exact rfl; decide; decide; exact rfl; rintro vC hpC hoC)
          rw [← List.map_append, ← List.length_append] at hoC
          obtain ⟨AC, cC, rfl, _, _⟩ := hoC.form
          ((first | apply R.nil | skip); apply Fin.kt (Hx := hpC ++ (hpB ++ (hp8 ++ H))) hKc; exact Mem.le_refl _; ((try simp only [List.append_assoc, List.cons_append, List.nil_append, List.append_nil]); exact a_arr))
          (apply RT.one; apply OneT.eff; exact rfl; intro Kc hKc ops0)
          (apply R.buildSlice; (exact a_prt); exact rfl; exact rfl; (exact a_fills); exact rfl; intro bl)
          ((first | apply R.nil | skip); apply Fin.kt (Hx := hpC ++ (hpB ++ ((bl, .cells #[bv (UInt8.ofNat cn)] 5 (0, 0)) :: (hp8 ++ H)))) hKc; exact Mem.le_refl _; ((try simp only [List.append_assoc, List.cons_append, List.nil_append, List.append_nil]); exact a_arr))
          (apply RT.one; apply OneT.eff; exact rfl; intro Kc hKc ops0)
          have hlC : (numS i ++ numS t).length ≤ 20 := by rw [List.length_append]; omega
          (apply R.append (news := [bv (UInt8.ofNat cn)]) (k := 1); exact rfl; exact rfl; exact hoC; (exact a_tk); exact Rd.at_ (l := [bv (UInt8.ofNat cn)]) (by (exact a_at)) (fun j u h => by rw [Nat.zero_add]; exact h); exact rfl; (intro u hu; rw [List.mem_singleton] at hu; rw [hu]; rfl); omega; exact rfl; decide; decide; exact rfl; rintro vD hpD hoD)
          (apply R.nil; apply Fin.kt (Hx := hpD ++ (hp8 ++ H)) hKc; exact Mem.le_refl _; ((try simp only [List.append_assoc, List.cons_append, List.nil_append, List.append_nil]); exact a_arr))
          (repeat' (first | (apply RT.step; exact rfl; intro _ _ _; (exact a_ok); exact rfl) | (apply RT.stepT; exact rfl; exact rfl; exact rfl; exact rfl; intro _ _ _; (exact a_ok); exact rfl) | (apply RT.stepF; exact rfl; exact rfl; exact rfl; exact rfl; exact rfl; exact rfl) | (apply RT.stepU; exact rfl; exact rfl; exact rfl; exact rfl; exact rfl) | (apply RT.one; apply OneT.effF; exact rfl; exact rfl; exact rfl; exact rfl; exact rfl; exact rfl) | (apply RT.one; apply OneT.effU; exact rfl; exact rfl; exact rfl; exact rfl; exact rfl)))
          apply RT.nil
          (apply Fin.arr (H2 := hpD ++ ((bx, .cells [.int .u64 (i : Int), .int .u64 (t : Int), .int .i64 (cn : Int), .slice A b.length cp].toArray 34 (0, 0)) :: (hp8 ++ H))); ((try simp only [List.append_assoc, List.cons_append, List.nil_append, List.append_nil]); exact a_arr))
          refine Fin.join (⟨vD, hpD⟩ : RpY) (by dsimp only; rw [List.length_append, List.map_append]; exact hoD) ?_ rfl rfl
          (exact a_subs)
        · (apply OneT.eff; exact rfl; intro Kc hKc ops0)
          (apply R.buildSlice; (exact a_prt); exact rfl; exact rfl; (exact a_fills); exact rfl; intro bl)
          ((first | apply R.nil | skip); apply Fin.kt (Hx := hpA ++ (hpB ++ ((bl, .cells #[bv (UInt8.ofNat cn)] 5 (0, 0)) :: (hp8 ++ H)))) hKc; exact Mem.le_refl _; ((try simp only [List.append_assoc, List.cons_append, List.nil_append, List.append_nil]); exact a_arr))
          (apply RT.one; apply OneT.eff; exact rfl; intro Kc hKc ops0)
          (apply R.append (news := (numS t).map bv) (k := (numS t).length); exact rfl; exact rfl; exact hoA; (exact a_tk); (exact Own.rd hoB (by (exact a_tk))); (rw [List.length_map, Nat.mul_one]); exact bv_one _; omega; exact rfl; decide; decide; exact rfl; rintro vC hpC hoC)
          rw [← List.map_append, ← List.length_append] at hoC
          obtain ⟨AC, cC, rfl, _, _⟩ := hoC.form
          ((first | apply R.nil | skip); apply Fin.kt (Hx := hpC ++ (hpB ++ ((bl, .cells #[bv (UInt8.ofNat cn)] 5 (0, 0)) :: (hp8 ++ H)))) hKc; exact Mem.le_refl _; ((try simp only [List.append_assoc, List.cons_append, List.nil_append, List.append_nil]); exact a_arr))
          (apply RT.one; apply OneT.eff; exact rfl; intro Kc hKc ops0)
          have hlC : (numS i ++ numS t).length ≤ 20 := by rw [List.length_append]; omega
          (apply R.append (news := [bv (UInt8.ofNat cn)]) (k := 1); exact rfl; exact rfl; exact hoC; (exact a_tk); exact Rd.at_ (l := [bv (UInt8.ofNat cn)]) (by (exact a_at)) (fun j u h => by rw [Nat.zero_add]; exact h); exact rfl; (intro u hu; rw [List.mem_singleton] at hu; rw [hu]; rfl); omega; exact rfl; decide; decide; exact rfl; rintro vD hpD hoD)
          (apply R.nil; apply Fin.kt (Hx := hpD ++ (hp8 ++ H)) hKc; exact Mem.le_refl _; ((try simp only [List.append_assoc, List.cons_append, List.nil_append, List.append_nil]); exact a_arr))
          (repeat' (first | (apply RT.step; exact rfl; intro _ _ _; (exact a_ok); exact rfl) | (apply RT.stepT; exact rfl; exact rfl; exact rfl; exact rfl; intro _ _ _; (exact a_ok); exact rfl) | (apply RT.stepF; exact rfl; exact rfl; exact rfl; exact rfl; exact rfl; exact rfl) | (apply RT.stepU; exact rfl; exact rfl; exact rfl; exact rfl; exact rfl) | (apply RT.one; apply OneT.effF; exact rfl; exact rfl; exact rfl; exact rfl; exact rfl; exact rfl) | (apply RT.one; apply OneT.effU; exact rfl; exact rfl; exact rfl; exact rfl; exact rfl)))
          apply RT.nil
          (apply Fin.arr (H2 := hpD ++ ((bx, .cells [.int .u64 (i : Int), .int .u64 (t : Int), .int .i64 (cn : Int), .slice A b.length cp].toArray 34 (0, 0)) :: (hp8 ++ H))); ((try simp only [List.append_assoc, List.cons_append, List.nil_append, List.append_nil]); exact a_arr))
          refine Fin.join (⟨vD, hpD⟩ : RpY) (by dsimp only; rw [List.length_append, List.map_append]; exact hoD) ?_ rfl rfl
          (exact a_subs)
      · (apply OneT.eff; exact rfl; intro Kc hKc ops0)
        (apply R.buildSlice; (exact a_prt); exact rfl; exact rfl; (exact a_fills); exact rfl; intro bl)
        ((first | apply R.nil | skip); apply Fin.kt (Hx := hpA ++ ((bl, .cells #[bv (UInt8.ofNat cn)] 5 (0, 0)) :: (hp8 ++ H))) hKc; exact Mem.le_refl _; ((try simp only [List.append_assoc, List.cons_append, List.nil_append, List.append_nil]); exact a_arr))
        (apply RT.one; apply OneT.eff; exact rfl; intro Kc hKc ops0)
        (apply R.call; (exact a_evs); exact rfl; exact rnum1_K (n := t) ht; rintro vB M _ ⟨hpB, hoB, rfl, rfl⟩)
        obtain ⟨AB, cB, rfl, _, _⟩ := hoB.form
        ((first | apply R.nil | skip); apply Fin.kt (Hx := hpA ++ (hpB ++ ((bl, .cells #[bv (UInt8.ofNat cn)] 5 (0, 0)) :: (hp8 ++ H)))) hKc; exact Mem.le_refl _; ((try simp only [List.append_assoc, List.cons_append, List.nil_append, List.append_nil]); exact a_arr))
        (apply RT.one; apply OneT.eff; exact rfl; intro Kc hKc ops0)
        (apply R.append (news := (numS t).map bv) (k := (numS t).length); exact rfl; exact rfl; exact hoA; (exact a_tk); (exact Own.rd hoB (by (exact a_tk))); (rw [List.length_map, Nat.mul_one]); exact bv_one _; omega; exact rfl; decide; decide; exact rfl; rintro vC hpC hoC)
        rw [← List.map_append, ← List.length_append] at hoC
        obtain ⟨AC, cC, rfl, _, _⟩ := hoC.form
        ((first | apply R.nil | skip); apply Fin.kt (Hx := hpC ++ (hpB ++ ((bl, .cells #[bv (UInt8.ofNat cn)] 5 (0, 0)) :: (hp8 ++ H)))) hKc; exact Mem.le_refl _; ((try simp only [List.append_assoc, List.cons_append, List.nil_append, List.append_nil]); exact a_arr))
        (apply RT.one; apply OneT.eff; exact rfl; intro Kc hKc ops0)
        have hlC : (numS i ++ numS t).length ≤ 20 := by rw [List.length_append]; omega
        (apply R.append (news := [bv (UInt8.ofNat cn)]) (k := 1); exact rfl; exact rfl; exact hoC; (exact a_tk); exact Rd.at_ (l := [bv (UInt8.ofNat cn)]) (by (exact a_at)) (fun j u h => by rw [Nat.zero_add]; exact h); exact rfl; (intro u hu; rw [List.mem_singleton] at hu; rw [hu]; rfl); omega; exact rfl; decide; decide; exact rfl; rintro vD hpD hoD)
        (apply R.nil; apply Fin.kt (Hx := hpD ++ (hp8 ++ H)) hKc; exact Mem.le_refl _; ((try simp only [List.append_assoc, List.cons_append, List.nil_append, List.append_nil]); exact a_arr))
        (repeat' (first | (apply RT.step; exact rfl; intro _ _ _; (exact a_ok); exact rfl) | (apply RT.stepT; exact rfl; exact rfl; exact rfl; exact rfl; intro _ _ _; (exact a_ok); exact rfl) | (apply RT.stepF; exact rfl; exact rfl; exact rfl; exact rfl; exact rfl; exact rfl) | (apply RT.stepU; exact rfl; exact rfl; exact rfl; exact rfl; exact rfl) | (apply RT.one; apply OneT.effF; exact rfl; exact rfl; exact rfl; exact rfl; exact rfl; exact rfl) | (apply RT.one; apply OneT.effU; exact rfl; exact rfl; exact rfl; exact rfl; exact rfl)))
        apply RT.nil
        (apply Fin.arr (H2 := hpD ++ ((bx, .cells [.int .u64 (i : Int), .int .u64 (t : Int), .int .i64 (cn : Int), .slice A b.length cp].toArray 34 (0, 0)) :: (hp8 ++ H))); ((try simp only [List.append_assoc, List.cons_append, List.nil_append, List.append_nil]); exact a_arr))
        refine Fin.join (⟨vD, hpD⟩ : RpY) (by dsimp only; rw [List.length_append, List.map_append]; exact hoD) ?_ rfl rfl
        (exact a_subs)
    · (apply OneT.eff; exact rfl; intro Kc hKc ops0)
      (apply R.buildSlice; (exact a_prt); exact rfl; exact rfl; (exact a_fills); exact rfl; intro bl)
      ((first | apply R.nil | skip); apply Fin.kt (Hx := (bl, .cells #[bv (UInt8.ofNat cn)] 5 (0, 0)) :: (hp8 ++ H)) hKc; exact Mem.le_refl _; ((try simp only [List.append_assoc, List.cons_append, List.nil_append, List.append_nil]); exact a_arr))
      (apply RT.one; apply OneT.eff; exact rfl; intro Kc hKc ops0)
      (apply R.call; (exact a_evs); exact rfl; exact rnum1_K (n := i) hi; rintro vA M _ ⟨hpA, hoA, rfl, rfl⟩)
      obtain ⟨AA, cA, rfl, _, _⟩ := hoA.form
      ((first | apply R.nil | skip); apply Fin.kt (Hx := hpA ++ ((bl, .cells #[bv (UInt8.ofNat cn)] 5 (0, 0)) :: (hp8 ++ H))) hKc; exact Mem.le_refl _; ((try simp only [List.append_assoc, List.cons_append, List.nil_append, List.append_nil]); exact a_arr))
      (apply RT.one; apply OneT.eff; exact rfl; intro Kc hKc ops0)
      (apply R.call; (exact a_evs); exact rfl; exact rnum1_K (n := t) ht; rintro vB M _ ⟨hpB, hoB, rfl, rfl⟩)
      obtain ⟨AB, cB, rfl, _, _⟩ := hoB.form
      ((first | apply R.nil | skip); apply Fin.kt (Hx := hpA ++ (hpB ++ ((bl, .cells #[bv (UInt8.ofNat cn)] 5 (0, 0)) :: (hp8 ++ H)))) hKc; exact Mem.le_refl _; ((try simp only [List.append_assoc, List.cons_append, List.nil_append, List.append_nil]); exact a_arr))
      (apply RT.one; apply OneT.eff; exact rfl; intro Kc hKc ops0)
      (apply R.append (news := (numS t).map bv) (k := (numS t).length); exact rfl; exact rfl; exact hoA; (exact a_tk); (exact Own.rd hoB (by (exact a_tk))); (rw [List.length_map, Nat.mul_one]); exact bv_one _; omega; exact rfl; decide; decide; exact rfl; rintro vC hpC hoC)
      rw [← List.map_append, ← List.length_append] at hoC
      obtain ⟨AC, cC, rfl, _, _⟩ := hoC.form
      ((first | apply R.nil | skip); apply Fin.kt (Hx := hpC ++ (hpB ++ ((bl, .cells #[bv (UInt8.ofNat cn)] 5 (0, 0)) :: (hp8 ++ H)))) hKc; exact Mem.le_refl _; ((try simp only [List.append_assoc, List.cons_append, List.nil_append, List.append_nil]); exact a_arr))
      (apply RT.one; apply OneT.eff; exact rfl; intro Kc hKc ops0)
      have hlC : (numS i ++ numS t).length ≤ 20 := by rw [List.length_append]; omega
      (apply R.append (news := [bv (UInt8.ofNat cn)]) (k := 1); exact rfl; exact rfl; exact hoC; (exact a_tk); exact Rd.at_ (l := [bv (UInt8.ofNat cn)]) (by (exact a_at)) (fun j u h => by rw [Nat.zero_add]; exact h); exact rfl; (intro u hu; rw [List.mem_singleton] at hu; rw [hu]; rfl); omega; exact rfl; decide; decide; exact rfl; rintro vD hpD hoD)
      (apply R.nil; apply Fin.kt (Hx := hpD ++ (hp8 ++ H)) hKc; exact Mem.le_refl _; ((try simp only [List.append_assoc, List.cons_append, List.nil_append, List.append_nil]); exact a_arr))
      (repeat' (first | (apply RT.step; exact rfl; intro _ _ _; (exact a_ok); exact rfl) | (apply RT.stepT; exact rfl; exact rfl; exact rfl; exact rfl; intro _ _ _; (exact a_ok); exact rfl) | (apply RT.stepF; exact rfl; exact rfl; exact rfl; exact rfl; exact rfl; exact rfl) | (apply RT.stepU; exact rfl; exact rfl; exact rfl; exact rfl; exact rfl) | (apply RT.one; apply OneT.effF; exact rfl; exact rfl; exact rfl; exact rfl; exact rfl; exact rfl) | (apply RT.one; apply OneT.effU; exact rfl; exact rfl; exact rfl; exact rfl; exact rfl)))
      apply RT.nil
      (apply Fin.arr (H2 := hpD ++ ((bx, .cells [.int .u64 (i : Int), .int .u64 (t : Int), .int .i64 (cn : Int), .slice A b.length cp].toArray 34 (0, 0)) :: (hp8 ++ H))); ((try simp only [List.append_assoc, List.cons_append, List.nil_append, List.append_nil]); exact a_arr))
      refine Fin.join (⟨vD, hpD⟩ : RpY) (by dsimp only; rw [List.length_append, List.map_append]; exact hoD) ?_ rfl rfl
      (exact a_subs)
  rintro ⟨vD, hpD⟩ hoD
  dsimp only at hoD ⊢
  obtain ⟨AD, cD, rfl, _, _⟩ := hoD.form
  have hl3 : ((numS i ++ numS t) ++ [UInt8.ofNat cn]).length ≤ 21 := by rw [List.length_append, List.length_append, List.length_singleton]; omega
  have hsp : ((numS i ++ numS t) ++ [UInt8.ofNat cn]) ++ textS b = spS i t cn b := rfl
  have hlt : (textS b).length ≤ 10 + b.length := by
    unfold textS
    have h3 := (numS_len10 (n := b.length) (by omega)).2
    rw [List.length_append]
    omega
  (repeat' (first | refine a_go ?_ | (with_reducible apply Fin.thenK; assumption) | (with_reducible (first | apply C.seqK | apply C.regionK); intro _ _) | (apply R.buildSlice0; exact rfl; intro bz) | (apply R.box; exact rfl; (simp only [Value.cells]; rfl); exact rfl; intro bx) | (apply R.alloc; (simp only [Value.cells]; rfl); exact rfl; intro ba) | (apply R.buildSlice; (exact a_prt); exact rfl; exact rfl; (exact a_fills); exact rfl; intro bl) | (refine a_sp ?_ ?_; (intro h; skip; rotate_left; intro h; skip; rotate_left)) | fail))
  (apply R.call; (exact a_evs); exact rfl; exact rtext1_K (b := b) hb (by omega); rintro vE M8 _ ⟨hpE, hoE, rfl, rfl⟩)
  obtain ⟨AE, cE, rfl, _, _⟩ := hoE.form
  (apply R.append (news := (textS b).map bv) (k := (textS b).length); exact rfl; exact rfl; exact hoD; (exact a_tk); (exact Own.rd hoE (by (exact a_tk))); (rw [List.length_map, Nat.mul_one]); exact bv_one _; omega; exact rfl; decide; decide; exact rfl; rintro vF hpF hoF)
  rw [← List.map_append, ← List.length_append, hsp] at hoF
  obtain ⟨AF, cF, rfl, _, _⟩ := hoF.form
  apply R.arr (H2 := hpF ++ (hp8 ++ H)) (by ((try simp only [List.append_assoc, List.cons_append, List.nil_append, List.append_nil]); exact a_arr))
  apply R.ice (Arr.all _)
  intro M9 hM9 hin9
  have hplF := hoF.plIn hin9
  (apply R.call; (exact a_evs); exact rfl; exact rframe_KF hplF rfl (by omega); rintro v7 M10 _ ⟨hb7, hM10, rfl⟩)
  have hfl : (frameS (spS i t cn b)).length ≤ 39 + b.length := by
    rw [frameS_len (by omega)]
    omega
  have ho9 := (ho8.mono hM9).mono hM10
  generalize frameS (spS i t cn b) = f at hb7 hfl hE0
  obtain ⟨A7, c7, rfl, _⟩ := id hb7
  (apply R.call; (exact a_evs); exact rfl; exact rappend_K (n := pnew) ho9 hb7 (by omega) (by decide) (by omega) (by omega); rintro _ M11 _ ⟨rfl, hM11, hp11, ho11, rfl⟩)
  by_cases ha1 : appE d1 pnew f ≠ 0
  · rw [hE0, if_pos ha1] at hQ
    (repeat' (first | (apply R.step; (apply Ok.move; exact rfl); exact rfl) | (apply R.step; (apply Ok.neIT; exact rfl; exact rfl; exact ha1); exact rfl) | refine a_go ?_ | (with_reducible apply Fin.thenK; assumption) | (with_reducible (first | apply C.seqK | apply C.regionK); intro _ _) | (apply R.buildSlice0; exact rfl; intro bz) | (apply R.box; exact rfl; (simp only [Value.cells]; rfl); exact rfl; intro bx) | (apply R.alloc; (simp only [Value.cells]; rfl); exact rfl; intro ba) | (apply R.buildSlice; (exact a_prt); exact rfl; exact rfl; (exact a_fills); exact rfl; intro bl) | (refine a_sp ?_ ?_; (intro h; skip; rotate_left; intro h; skip; rotate_left)) | fail))
    (apply Fin.returnA (H2 := hp11 ++ H); assumption; (first | exact .inl rfl | exact .inr rfl); exact rfl; (exact a_res); (simp only [retv]; rfl); (exact a_arr))
    exact ⟨rfl, hM8.trans_ (hM9.trans_ (hM10.trans_ hM11)), hp11, ho11, rfl⟩
  rw [if_neg ha1] at hE0
  have ha0 : appE d1 pnew f = 0 := by omega
  rw [ha0] at ho11 ⊢
  have hos := opD_ps2 d1 0 (.app pnew f)
  have hon := now_sz (opD 0 d1 (.app pnew f))
  have hop : (opD 0 d1 (.app pnew f)).ps.length ≤ szD (opD 0 d1 (.app pnew f)) := Nat.le_add_left _ _
  rw [hE0] at hQ
  (repeat' (first | refine a_go ?_ | (with_reducible apply Fin.thenK; assumption) | (with_reducible (first | apply C.seqK | apply C.regionK); intro _ _) | (apply R.buildSlice0; exact rfl; intro bz) | (apply R.box; exact rfl; (simp only [Value.cells]; rfl); exact rfl; intro bx) | (apply R.alloc; (simp only [Value.cells]; rfl); exact rfl; intro ba) | (apply R.buildSlice; (exact a_prt); exact rfl; exact rfl; (exact a_fills); exact rfl; intro bl) | (refine a_sp ?_ ?_; (intro h; skip; rotate_left; intro h; skip; rotate_left)) | fail))
  (apply R.call; (exact a_evs); exact rfl; exact rrename_K (n := pnew) (t := pfile) ho11 (by omega) (by omega) (by decide); rintro _ M12 _ ⟨rfl, hM12, hp12, ho12, rfl⟩)
  (repeat' (first | refine a_go ?_ | (with_reducible apply Fin.thenK; assumption) | (with_reducible (first | apply C.seqK | apply C.regionK); intro _ _) | (apply R.buildSlice0; exact rfl; intro bz) | (apply R.box; exact rfl; (simp only [Value.cells]; rfl); exact rfl; intro bx) | (apply R.alloc; (simp only [Value.cells]; rfl); exact rfl; intro ba) | (apply R.buildSlice; (exact a_prt); exact rfl; exact rfl; (exact a_fills); exact rfl; intro bl) | (refine a_sp ?_ ?_; (intro h; skip; rotate_left; intro h; skip; rotate_left)) | fail))
  (apply Fin.returnA (H2 := hp12 ++ H); assumption; (first | exact .inl rfl | exact .inr rfl); exact rfl; (exact a_res); (simp only [retv]; rfl); (exact a_arr))
  exact ⟨rfl, hM8.trans_ (hM9.trans_ (hM10.trans_ (hM11.trans_ hM12))), hp12, ho12, rfl⟩
end Go.Sx
end
section
namespace Go.Sx
open Go Go.Proofs Go.RowKit
attribute [local irreducible] C R Fin K Own OwnT Rd Pl Ok KOf RetOk OpsOf RP KP Res NoPanic KV KE MapS ItS EntS FsO FsR RowD PlD DkO PlFs RT KT OneT RS KS OneS RdO
variable {M M' : Mem} {H H1 H2 : Hp}
theorem rlist_Km {A : Option Addr} {cap m : Nat} {bs : List UInt8} (hpl : Pl M A (bs.map bv)) (hm : bs.length = m) (hc : m ≤ cap) (hb : cap ≤ 9223372036854775807) (hsm : m ≤ 2147483648) : K Tryz.prog 42 [.slice A m cap] M H fun v M' H' =>
    ∃ ov, v = .tuple #[ov, .int .i64 (endS (framesF bs.length bs))] ∧ PlL M' ov (framesF bs.length bs) ∧ M.le M' ∧ H' = H := by
  subst hm
  exact rlist_K hpl hc hb hsm
end Go.Sx
end
section
namespace Go.Sx
open Go Go.Proofs Go.RowKit
attribute [local irreducible] C R Fin K Own OwnT Rd Pl Ok KOf RetOk OpsOf RP KP Res NoPanic KV KE MapS ItS EntS FsO FsR RowD PlD DkO PlFs RT KT OneT RS KS OneS RdO
variable {M M' : Mem} {H H1 H2 : Hp}
theorem clrN_sz (n : Txt) (d : Dk) : szD (clrN n d).2 ≤ szD d + 1 := by
  unfold clrN
  split
  · exact opD_ps2 _ _ _
  · show szD d ≤ _
    omega
theorem ropenP_K {rb : Nat} {d : Dk} {hp : Hp} (ho : RdO M rb d hp) (hsz : szD d ≤ 900000) : K Tryz.prog 11 [.pointer (some ⟨rb, 0, none⟩)] M (hp ++ H) fun v' M' H' => ∃ vd, v' = .tuple #[snV (sn0 (openP d).2.2) vd, .bool (openP d).2.2.isSome, .int .i64 (openP d).1] ∧ PlB M' vd (sn0 (openP d).2.2).2.2.2 ∧ M.le M' ∧ ∃ hp', RdO M' rb (openP d).2.1 hp' ∧ H' = hp' ++ H := by
  refine K.enterK Tryz.func11 rfl rfl rfl ?_
  intro Q hNP hQ
  have hnow := now_sz d
  have hpsz : d.ps.length ≤ szD d := Nat.le_add_left _ _
  unfold snV snC at hQ
  (repeat' (first | (apply R.step; (exact a_ok); exact rfl) | (first | (with_reducible first | apply R.nil | apply C.ret | apply C.block | apply C.skip | apply C.exit | apply Fin.thenRet | apply Fin.thenExit | apply Fin.blockNormal | apply Fin.blockRet | apply Fin.blockExit) | (with_reducible apply Fin.thenK; assumption) | (with_reducible apply C.seqK; intro _ _) | (with_reducible apply C.regionK; intro _ _) | (with_reducible apply Fin.blockOther; exact rfl)) | (apply R.store; exact rfl; exact rfl; exact rfl; (exact a_at); (exact a_blit); exact rfl; (focus (simp [Value.oneCell']; done))) | (first | (apply R.guardT; assumption; exact rfl; exact rfl; exact rfl) | (apply R.guardF; assumption; exact rfl; exact rfl; exact rfl; exact rfl; exact rfl) | (apply R.guardU; assumption; exact rfl; exact rfl; exact rfl; exact rfl) | (apply R.guardDec; assumption; exact rfl; exact rfl; (intro h; skip; rotate_left; intro h; skip; rotate_left)) | (apply R.guardBeq; assumption; exact rfl; exact rfl; (intro h; skip; rotate_left; intro h; skip; rotate_left)) | (apply R.guardBne; assumption; exact rfl; exact rfl; (intro h; skip; rotate_left; intro h; skip; rotate_left)) | (apply R.guardNDec; assumption; exact rfl; exact rfl; (intro h; skip; rotate_left; intro h; skip; rotate_left)) | (apply R.guardNot; assumption; exact rfl; exact rfl; (intro h; skip; rotate_left; intro h; skip; rotate_left)) | (apply R.guardC; assumption; exact rfl; exact rfl; (intro h; skip; rotate_left; intro h; skip; rotate_left))) | (first | (apply C.condT; exact rfl) | (apply C.condF; exact rfl) | (apply C.condDec; exact rfl; (intro h; skip; rotate_left; intro h; skip; rotate_left)) | (apply C.condBeq; exact rfl; (intro h; skip; rotate_left; intro h; skip; rotate_left)) | (apply C.condBne; exact rfl; (intro h; skip; rotate_left; intro h; skip; rotate_left)) | (apply C.condNDec; exact rfl; (intro h; skip; rotate_left; intro h; skip; rotate_left)) | (apply C.condNot; exact rfl; (intro h; skip; rotate_left; intro h; skip; rotate_left)) | (apply C.cond; exact rfl; (intro h; skip; rotate_left; intro h; skip; rotate_left)))))
  ((apply R.alloc; (simp only [Value.cells]; rfl); exact rfl); intro b2)
  (repeat' (first | (apply R.step; (apply Ok.move; exact rfl); exact rfl) | (apply R.step; (first | (apply Ok.ltTr; exact rfl; exact rfl; omega) | (apply Ok.ltF; exact rfl; exact rfl; omega) | (apply Ok.gtTr; exact rfl; exact rfl; omega) | (apply Ok.gtF; exact rfl; exact rfl; omega) | (apply Ok.geTr; exact rfl; exact rfl; omega) | (apply Ok.geF; exact rfl; exact rfl; omega) | (apply Ok.leTr; exact rfl; exact rfl; omega) | (apply Ok.leF; exact rfl; exact rfl; omega) | (apply Ok.neIT; exact rfl; exact rfl; omega) | (apply Ok.eqIF; exact rfl; exact rfl; omega)); exact rfl) | (apply R.step; (exact a_ok); exact rfl) | (first | (with_reducible first | apply R.nil | apply C.ret | apply C.block | apply C.skip | apply C.exit | apply Fin.thenRet | apply Fin.thenExit | apply Fin.blockNormal | apply Fin.blockRet | apply Fin.blockExit) | (with_reducible apply Fin.thenK; assumption) | (with_reducible apply C.seqR; intro _ _) | (with_reducible apply C.regionK; intro _ _) | (with_reducible apply Fin.blockOther; exact rfl)) | (first | (apply R.store; exact rfl; exact rfl; exact rfl; (exact a_at); (exact a_blit); exact rfl; (focus (simp [Value.oneCell']; done))) | (apply R.buildSlice0; exact rfl; intro bz) | (apply R.box; exact rfl; (simp only [Value.cells]; rfl); exact rfl; intro bx) | (apply R.alloc; (simp only [Value.cells]; rfl); exact rfl; intro ba) | (apply R.buildSlice; (exact a_prt); exact rfl; exact rfl; (exact a_fills); exact rfl; intro bl)) | (first | (apply R.guardT; assumption; exact rfl; exact rfl; exact rfl) | (apply R.guardF; assumption; exact rfl; exact rfl; exact rfl; exact rfl; exact rfl) | (apply R.guardU; assumption; exact rfl; exact rfl; exact rfl; exact rfl) | (apply R.guardDec; assumption; exact rfl; exact rfl; (intro h; skip; rotate_left; intro h; skip; rotate_left)) | (apply R.guardBeq; assumption; exact rfl; exact rfl; (intro h; skip; rotate_left; intro h; skip; rotate_left)) | (apply R.guardBne; assumption; exact rfl; exact rfl; (intro h; skip; rotate_left; intro h; skip; rotate_left)) | (apply R.guardNDec; assumption; exact rfl; exact rfl; (intro h; skip; rotate_left; intro h; skip; rotate_left)) | (apply R.guardNot; assumption; exact rfl; exact rfl; (intro h; skip; rotate_left; intro h; skip; rotate_left)) | (apply R.guardC; assumption; exact rfl; exact rfl; (intro h; skip; rotate_left; intro h; skip; rotate_left)))))
  (apply C.seqK; intro _ _)
  (repeat' (first | (apply R.step; (apply Ok.move; exact rfl); exact rfl) | (apply R.step; (first | (apply Ok.ltTr; exact rfl; exact rfl; omega) | (apply Ok.ltF; exact rfl; exact rfl; omega) | (apply Ok.gtTr; exact rfl; exact rfl; omega) | (apply Ok.gtF; exact rfl; exact rfl; omega) | (apply Ok.geTr; exact rfl; exact rfl; omega) | (apply Ok.geF; exact rfl; exact rfl; omega) | (apply Ok.leTr; exact rfl; exact rfl; omega) | (apply Ok.leF; exact rfl; exact rfl; omega) | (apply Ok.neIT; exact rfl; exact rfl; omega) | (apply Ok.eqIF; exact rfl; exact rfl; omega)); exact rfl) | (apply R.step; (exact a_ok); exact rfl) | (first | (with_reducible first | apply R.nil | apply C.ret | apply C.block | apply C.skip | apply C.exit | apply Fin.thenRet | apply Fin.thenExit | apply Fin.blockNormal | apply Fin.blockRet | apply Fin.blockExit) | (with_reducible apply Fin.thenK; assumption) | (with_reducible apply C.seqR; intro _ _) | (with_reducible apply C.regionK; intro _ _) | (with_reducible apply Fin.blockOther; exact rfl)) | (first | (apply R.store; exact rfl; exact rfl; exact rfl; (exact a_at); (exact a_blit); exact rfl; (focus (simp [Value.oneCell']; done))) | (apply R.buildSlice0; exact rfl; intro bz) | (apply R.box; exact rfl; (simp only [Value.cells]; rfl); exact rfl; intro bx) | (apply R.alloc; (simp only [Value.cells]; rfl); exact rfl; intro ba) | (apply R.buildSlice; (exact a_prt); exact rfl; exact rfl; (exact a_fills); exact rfl; intro bl)) | (first | (apply R.guardT; assumption; exact rfl; exact rfl; exact rfl) | (apply R.guardF; assumption; exact rfl; exact rfl; exact rfl; exact rfl; exact rfl) | (apply R.guardU; assumption; exact rfl; exact rfl; exact rfl; exact rfl) | (apply R.guardDec; assumption; exact rfl; exact rfl; (intro h; skip; rotate_left; intro h; skip; rotate_left)) | (apply R.guardBeq; assumption; exact rfl; exact rfl; (intro h; skip; rotate_left; intro h; skip; rotate_left)) | (apply R.guardBne; assumption; exact rfl; exact rfl; (intro h; skip; rotate_left; intro h; skip; rotate_left)) | (apply R.guardNDec; assumption; exact rfl; exact rfl; (intro h; skip; rotate_left; intro h; skip; rotate_left)) | (apply R.guardNot; assumption; exact rfl; exact rfl; (intro h; skip; rotate_left; intro h; skip; rotate_left)) | (apply R.guardC; assumption; exact rfl; exact rfl; (intro h; skip; rotate_left; intro h; skip; rotate_left)))))
  ((apply C.condF; exact rfl); apply C.skip; (apply Fin.thenK; assumption))
  apply C.seqCut (X := RpX) (fun y => M.le y.M ∧ (clrN pnew d).1 = 0 ∧ RdO y.M rb (clrN pnew d).2 y.hp) (fun _ => [(0, .pointer (some ⟨rb, 0, none⟩)), (2, .pointer (some ⟨b2, 0, none⟩))]) (fun y => y.M) (fun y => y.hp ++ ((b2, .cells [.int .u64 0, .int .u64 0, .int .i64 0, .slice none 0 0].toArray 34 (0, 0)) :: H))
  · (repeat' (first | refine a_go ?_ | (with_reducible apply Fin.thenK; assumption) | (with_reducible (first | apply C.seqK | apply C.regionK); intro _ _) | (apply R.buildSlice0; exact rfl; intro bz) | (apply R.box; exact rfl; (simp only [Value.cells]; rfl); exact rfl; intro bx) | (apply R.alloc; (simp only [Value.cells]; rfl); exact rfl; intro ba) | (apply R.buildSlice; (exact a_prt); exact rfl; exact rfl; (exact a_fills); exact rfl; intro bl) | (refine a_sp ?_ ?_; (intro h; skip; rotate_left; intro h; skip; rotate_left)) | fail))
    apply R.arr (H2 := hp ++ ((b2, .cells [.int .u64 0, .int .u64 0, .int .i64 0, .slice none 0 0].toArray 34 (0, 0)) :: H)) (by ((try simp only [List.append_assoc, List.cons_append, List.nil_append, List.append_nil]); exact a_arr))
    (apply R.call; (exact a_evs); exact rfl; exact here_K (n := pnew) ho (by omega); rintro _ M _ ⟨rfl, rfl, rfl⟩)
    cases hs : (readD d pnew).isSome with
    | false =>
      have hcl : clrN pnew d = (0, d) := by unfold clrN; rw [hs]; rfl
      (repeat' (first | refine a_go ?_ | (with_reducible apply Fin.thenK; assumption) | (with_reducible (first | apply C.seqK | apply C.regionK); intro _ _) | (apply R.buildSlice0; exact rfl; intro bz) | (apply R.box; exact rfl; (simp only [Value.cells]; rfl); exact rfl; intro bx) | (apply R.alloc; (simp only [Value.cells]; rfl); exact rfl; intro ba) | (apply R.buildSlice; (exact a_prt); exact rfl; exact rfl; (exact a_fills); exact rfl; intro bl) | (refine a_sp ?_ ?_; (intro h; skip; rotate_left; intro h; skip; rotate_left)) | fail))
      refine Fin.join (⟨M, hp⟩ : RpX) ⟨Mem.le_refl _, by rw [hcl], by dsimp only; rw [hcl]; exact ho⟩ ?_ rfl rfl
      (exact a_subs)
    | true =>
      have hcl : clrN pnew d = (remE d pnew, opD (remE d pnew) d (.rem pnew)) := by unfold clrN; rw [hs]; rfl
      (repeat' (first | refine a_go ?_ | (with_reducible apply Fin.thenK; assumption) | (with_reducible (first | apply C.seqK | apply C.regionK); intro _ _) | (apply R.buildSlice0; exact rfl; intro bz) | (apply R.box; exact rfl; (simp only [Value.cells]; rfl); exact rfl; intro bx) | (apply R.alloc; (simp only [Value.cells]; rfl); exact rfl; intro ba) | (apply R.buildSlice; (exact a_prt); exact rfl; exact rfl; (exact a_fills); exact rfl; intro bl) | (refine a_sp ?_ ?_; (intro h; skip; rotate_left; intro h; skip; rotate_left)) | fail))
      (apply R.call; (exact a_evs); exact rfl; exact rremove_K (n := pnew) ho (by omega) (by omega); rintro _ M8 _ ⟨rfl, hM8, hp8, ho8, rfl⟩)
      by_cases hc1 : remE d pnew ≠ 0
      · have hE : openP d = ((clrN pnew d).1, (clrN pnew d).2, none) := if_pos (by rw [hcl]; exact hc1)
        rw [hE, hcl] at hQ
        (repeat' (first | (apply R.step; (apply Ok.move; exact rfl); exact rfl) | (apply R.step; (apply Ok.neIT; exact rfl; exact rfl; exact hc1); exact rfl) | refine a_go ?_ | (with_reducible apply Fin.thenK; assumption) | (with_reducible (first | apply C.seqK | apply C.regionK); intro _ _) | (apply R.buildSlice0; exact rfl; intro bz) | (apply R.box; exact rfl; (simp only [Value.cells]; rfl); exact rfl; intro bx) | (apply R.alloc; (simp only [Value.cells]; rfl); exact rfl; intro ba) | (apply R.buildSlice; (exact a_prt); exact rfl; exact rfl; (exact a_fills); exact rfl; intro bl) | (refine a_sp ?_ ?_; (intro h; skip; rotate_left; intro h; skip; rotate_left)) | fail))
        (apply Fin.returnA (H2 := hp8 ++ H); assumption; (first | exact .inl rfl | exact .inr rfl); exact rfl; (exact a_res); (simp only [retv]; rfl); (exact a_arr))
        exact ⟨_, rfl, PlB.nil1, hM8, hp8, ho8, rfl⟩
      · have hc0 : remE d pnew = 0 := by omega
        (repeat' (first | (apply R.step; (apply Ok.move; exact rfl); exact rfl) | (apply R.step; (apply Ok.neIR; exact rfl; exact rfl; exact hc0); exact rfl) | refine a_go ?_ | (with_reducible apply Fin.thenK; assumption) | (with_reducible (first | apply C.seqK | apply C.regionK); intro _ _) | (apply R.buildSlice0; exact rfl; intro bz) | (apply R.box; exact rfl; (simp only [Value.cells]; rfl); exact rfl; intro bx) | (apply R.alloc; (simp only [Value.cells]; rfl); exact rfl; intro ba) | (apply R.buildSlice; (exact a_prt); exact rfl; exact rfl; (exact a_fills); exact rfl; intro bl) | (refine a_sp ?_ ?_; (intro h; skip; rotate_left; intro h; skip; rotate_left)) | fail))
        refine Fin.join (⟨M8, hp8⟩ : RpX) ⟨hM8, by rw [hcl]; exact hc0, by dsimp only; rw [hcl]; exact ho8⟩ ?_ rfl rfl
        (exact a_subs)
  rintro ⟨M8, hp8⟩ ⟨hM8, hc0, ho1⟩
  dsimp only at hM8 hc0 ho1 ⊢
  have hcs := clrN_sz pnew d
  have hE : openP d = (0, (clrN pnew d).2, snF (framesF ((readD (clrN pnew d).2 pfile).getD []).length ((readD (clrN pnew d).2 pfile).getD [])) ((readD (clrN pnew d).2 pfile).getD []).length) := if_neg (fun h => h hc0)
  rw [hE] at hQ
  clear hE hc0 ho
  have hcn := now_sz (clrN pnew d).2
  generalize (clrN pnew d).2 = d1 at ho1 hcs hcn hQ
  have hbl := readD_len ho1.isok pfile
  (repeat' (first | refine a_go ?_ | (with_reducible apply Fin.thenK; assumption) | (with_reducible (first | apply C.seqK | apply C.regionK); intro _ _) | (apply R.buildSlice0; exact rfl; intro bz) | (apply R.box; exact rfl; (simp only [Value.cells]; rfl); exact rfl; intro bx) | (apply R.alloc; (simp only [Value.cells]; rfl); exact rfl; intro ba) | (apply R.buildSlice; (exact a_prt); exact rfl; exact rfl; (exact a_fills); exact rfl; intro bl) | (refine a_sp ?_ ?_; (intro h; skip; rotate_left; intro h; skip; rotate_left)) | fail))
  (apply R.call; (exact a_evs); exact rfl; exact rread_KD (n := pfile) ho1 (by omega); rintro _ M8 _ ⟨v7, rfl, hb7, rfl, rfl⟩)
  generalize (readD d1 pfile).getD [] = b at hb7 hbl hQ
  obtain ⟨A5, c5, rfl, k1, k2, hpl5⟩ := hb7
  (repeat' (first | refine a_go ?_ | (with_reducible apply Fin.thenK; assumption) | (with_reducible (first | apply C.seqK | apply C.regionK); intro _ _) | (apply R.buildSlice0; exact rfl; intro bz) | (apply R.box; exact rfl; (simp only [Value.cells]; rfl); exact rfl; intro bx) | (apply R.alloc; (simp only [Value.cells]; rfl); exact rfl; intro ba) | (apply R.buildSlice; (exact a_prt); exact rfl; exact rfl; (exact a_fills); exact rfl; intro bl) | (refine a_sp ?_ ?_; (intro h; skip; rotate_left; intro h; skip; rotate_left)) | fail))
  (apply R.call; (exact a_evs); exact rfl; exact rlist_Km hpl5 rfl k1 k2 (by omega); rintro _ M3 _ ⟨ov, rfl, hls, hM3, rfl⟩)
  obtain ⟨AL, cL, vs, rfl, q1, q2, q3, q4⟩ := hls
  have hfe := framesF_end b.length b
  generalize framesF b.length b = fs at q1 q4 hQ hfe
  replace ho1 := ho1.mono hM3
  by_cases h1 : fs.length = 1
  rotate_left
  · have hN : snF fs b.length = none := by
      unfold snF
      split
      · exact absurd rfl h1
      · rfl
    rw [hN] at hQ
    (repeat' (first | (apply R.step; (apply Ok.move; exact rfl); exact rfl) | (apply R.step; (apply Ok.neIT; exact rfl; exact rfl; omega); exact rfl) | refine a_go ?_ | (with_reducible apply Fin.thenK; assumption) | (with_reducible (first | apply C.seqK | apply C.regionK); intro _ _) | (apply R.buildSlice0; exact rfl; intro bz) | (apply R.box; exact rfl; (simp only [Value.cells]; rfl); exact rfl; intro bx) | (apply R.alloc; (simp only [Value.cells]; rfl); exact rfl; intro ba) | (apply R.buildSlice; (exact a_prt); exact rfl; exact rfl; (exact a_fills); exact rfl; intro bl) | (refine a_sp ?_ ?_; (intro h; skip; rotate_left; intro h; skip; rotate_left)) | fail))
    (apply Fin.returnA (H2 := hp8 ++ H); assumption; (first | exact .inl rfl | exact .inr rfl); exact rfl; (exact a_res); (simp only [retv]; rfl); (exact a_arr))
    exact ⟨_, rfl, PlB.nil1, hM8.trans_ hM3, hp8, ho1, rfl⟩
  obtain ⟨x, rfl⟩ := List.length_eq_one_iff.1 h1
  have e1 : ([x].length : Int) = 1 := rfl
  have hxe : endS [x] = 8 + x.length := by simp [endS]
  obtain ⟨en, hen⟩ : ∃ en, en = endS [x] := ⟨_, rfl⟩
  rw [← hen] at hfe hxe ⊢
  by_cases h2 : en = b.length
  rotate_left
  · have hN : snF [x] b.length = none := if_neg (by rw [← hen]; exact h2)
    rw [hN] at hQ
    (repeat' (first | (apply R.step; (apply Ok.move; exact rfl); exact rfl) | (apply R.step; (first | (apply Ok.neIR; exact rfl; exact rfl; exact e1) | (apply Ok.neIT; exact rfl; exact rfl; omega)); exact rfl) | refine a_go ?_ | (with_reducible apply Fin.thenK; assumption) | (with_reducible (first | apply C.seqK | apply C.regionK); intro _ _) | (apply R.buildSlice0; exact rfl; intro bz) | (apply R.box; exact rfl; (simp only [Value.cells]; rfl); exact rfl; intro bx) | (apply R.alloc; (simp only [Value.cells]; rfl); exact rfl; intro ba) | (apply R.buildSlice; (exact a_prt); exact rfl; exact rfl; (exact a_fills); exact rfl; intro bl) | (refine a_sp ?_ ?_; (intro h; skip; rotate_left; intro h; skip; rotate_left)) | fail))
    (apply Fin.returnA (H2 := hp8 ++ H); assumption; (first | exact .inl rfl | exact .inr rfl); exact rfl; (exact a_res); (simp only [retv]; rfl); (exact a_arr))
    exact ⟨_, rfl, PlB.nil1, hM8.trans_ hM3, hp8, ho1, rfl⟩
  have hN : snF [x] b.length = snR x := if_pos (by rw [← hen]; exact h2)
  rw [hN] at hQ
  clear hN
  obtain ⟨bb, o, cc, e, fr, Ai, ci, hA, hMb, hcell, _, hl1, hl2, hpi⟩ := PlV.at_ q3 q4 (i := 0) (show 0 < 1 by decide)
  subst hA
  have hcell2 : cc[o + 0 * 1]? = some (.slice Ai x.length ci) := hcell
  have hbx : PlB M3 (.slice Ai x.length ci) x := ⟨Ai, ci, rfl, hl1, hl2, hpi⟩
  (repeat' (first | (apply R.step; (exact a_ok); exact rfl) | (first | (with_reducible first | apply R.nil | apply C.ret | apply C.block | apply C.skip | apply C.exit | apply Fin.thenRet | apply Fin.thenExit | apply Fin.blockNormal | apply Fin.blockRet | apply Fin.blockExit) | (with_reducible apply Fin.thenK; assumption) | (with_reducible apply C.seqK; intro _ _) | (with_reducible apply C.regionK; intro _ _) | (with_reducible apply Fin.blockOther; exact rfl)) | (apply R.store; exact rfl; exact rfl; exact rfl; (exact a_at); (exact a_blit); exact rfl; (focus (simp [Value.oneCell']; done))) | (first | (apply R.guardT; assumption; exact rfl; exact rfl; exact rfl) | (apply R.guardF; assumption; exact rfl; exact rfl; exact rfl; exact rfl; exact rfl) | (apply R.guardU; assumption; exact rfl; exact rfl; exact rfl; exact rfl) | (apply R.guardDec; assumption; exact rfl; exact rfl; (intro h; skip; rotate_left; intro h; skip; rotate_left)) | (apply R.guardBeq; assumption; exact rfl; exact rfl; (intro h; skip; rotate_left; intro h; skip; rotate_left)) | (apply R.guardBne; assumption; exact rfl; exact rfl; (intro h; skip; rotate_left; intro h; skip; rotate_left)) | (apply R.guardNDec; assumption; exact rfl; exact rfl; (intro h; skip; rotate_left; intro h; skip; rotate_left)) | (apply R.guardNot; assumption; exact rfl; exact rfl; (intro h; skip; rotate_left; intro h; skip; rotate_left)) | (apply R.guardC; assumption; exact rfl; exact rfl; (intro h; skip; rotate_left; intro h; skip; rotate_left))) | (first | (apply C.condT; exact rfl) | (apply C.condF; exact rfl) | (apply C.condDec; exact rfl; (intro h; skip; rotate_left; intro h; skip; rotate_left)) | (apply C.condBeq; exact rfl; (intro h; skip; rotate_left; intro h; skip; rotate_left)) | (apply C.condBne; exact rfl; (intro h; skip; rotate_left; intro h; skip; rotate_left)) | (apply C.condNDec; exact rfl; (intro h; skip; rotate_left; intro h; skip; rotate_left)) | (apply C.condNot; exact rfl; (intro h; skip; rotate_left; intro h; skip; rotate_left)) | (apply C.cond; exact rfl; (intro h; skip; rotate_left; intro h; skip; rotate_left)))))
  (repeat' (first | (apply R.step; (apply Ok.move; exact rfl); exact rfl) | (apply R.step; (first | (apply Ok.neIR; exact rfl; exact rfl; exact e1) | (apply Ok.neIR; exact rfl; exact rfl; omega)); exact rfl) | (apply R.step; (exact a_ok); exact rfl) | (first | (with_reducible first | apply R.nil | apply C.ret | apply C.block | apply C.skip | apply C.exit | apply Fin.thenRet | apply Fin.thenExit | apply Fin.blockNormal | apply Fin.blockRet | apply Fin.blockExit) | (with_reducible apply Fin.thenK; assumption) | (with_reducible apply C.seqR; intro _ _) | (with_reducible apply C.regionK; intro _ _) | (with_reducible apply Fin.blockOther; exact rfl)) | (first | (apply R.store; exact rfl; exact rfl; exact rfl; (exact a_at); (exact a_blit); exact rfl; (focus (simp [Value.oneCell']; done))) | (apply R.buildSlice0; exact rfl; intro bz) | (apply R.box; exact rfl; (simp only [Value.cells]; rfl); exact rfl; intro bx) | (apply R.alloc; (simp only [Value.cells]; rfl); exact rfl; intro ba) | (apply R.buildSlice; (exact a_prt); exact rfl; exact rfl; (exact a_fills); exact rfl; intro bl)) | (first | (apply R.guardT; assumption; exact rfl; exact rfl; exact rfl) | (apply R.guardF; assumption; exact rfl; exact rfl; exact rfl; exact rfl; exact rfl) | (apply R.guardU; assumption; exact rfl; exact rfl; exact rfl; exact rfl) | (apply R.guardDec; assumption; exact rfl; exact rfl; (intro h; skip; rotate_left; intro h; skip; rotate_left)) | (apply R.guardBeq; assumption; exact rfl; exact rfl; (intro h; skip; rotate_left; intro h; skip; rotate_left)) | (apply R.guardBne; assumption; exact rfl; exact rfl; (intro h; skip; rotate_left; intro h; skip; rotate_left)) | (apply R.guardNDec; assumption; exact rfl; exact rfl; (intro h; skip; rotate_left; intro h; skip; rotate_left)) | (apply R.guardNot; assumption; exact rfl; exact rfl; (intro h; skip; rotate_left; intro h; skip; rotate_left)) | (apply R.guardC; assumption; exact rfl; exact rfl; (intro h; skip; rotate_left; intro h; skip; rotate_left)))))
  · exfalso
    first | omega | (simp_all; done) | (simp_all; omega)
  have hb4 := hbx
  (repeat' (first | refine a_go ?_ | (with_reducible apply Fin.thenK; assumption) | (with_reducible (first | apply C.seqK | apply C.regionK); intro _ _) | (apply R.buildSlice0; exact rfl; intro bz) | (apply R.box; exact rfl; (simp only [Value.cells]; rfl); exact rfl; intro bx) | (apply R.alloc; (simp only [Value.cells]; rfl); exact rfl; intro ba) | (apply R.buildSlice; (exact a_prt); exact rfl; exact rfl; (exact a_fills); exact rfl; intro bl) | (refine a_sp ?_ ?_; (intro h; skip; rotate_left; intro h; skip; rotate_left)) | fail))
  apply R.arr (H2 := (bx, rrdB (.slice Ai x.length ci) 0 0) :: ((ba, .cells [.int .u64 0, .int .u64 0, .int .i64 0, .slice none 0 0].toArray 34 (0, 0)) :: (hp8 ++ ((b2, .cells [.int .u64 0, .int .u64 0, .int .i64 0, .slice none 0 0].toArray 34 (0, 0)) :: H)))) (by ((try simp only [List.append_assoc, List.cons_append, List.nil_append, List.append_nil]); exact a_arr))
  (apply R.call; (exact a_evs); exact rfl; exact rrnum_K (rb := bx) (most := 72057594037927935) (at_ := 0) (bad := 0) hb4 (by omega) (Nat.zero_le _); rintro _ M3 _ ⟨rfl, rfl, rfl⟩)
  obtain ⟨z1, hz1⟩ : ∃ z1, z1 = numRd x 72057594037927935 0 0 := ⟨_, rfl⟩
  have g1 := numRd_at (bs := x) (most := 72057594037927935) (at_ := 0) (bad := 0) (Nat.zero_le _)
  rw [← hz1] at g1 ⊢
  obtain ⟨n1, a1, b1⟩ := z1
  dsimp only at g1 ⊢
  (repeat' (first | refine a_go ?_ | (with_reducible apply Fin.thenK; assumption) | (with_reducible (first | apply C.seqK | apply C.regionK); intro _ _) | (apply R.buildSlice0; exact rfl; intro bz) | (apply R.box; exact rfl; (simp only [Value.cells]; rfl); exact rfl; intro bx) | (apply R.alloc; (simp only [Value.cells]; rfl); exact rfl; intro ba) | (apply R.buildSlice; (exact a_prt); exact rfl; exact rfl; (exact a_fills); exact rfl; intro bl) | (refine a_sp ?_ ?_; (intro h; skip; rotate_left; intro h; skip; rotate_left)) | fail))
  (apply R.call; (exact a_evs); exact rfl; exact rrnum_K (rb := bx) (most := 72057594037927935) (at_ := a1) (bad := b1) hb4 (by omega) g1; rintro _ M3 _ ⟨rfl, rfl, rfl⟩)
  obtain ⟨z2, hz2⟩ : ∃ z2, z2 = numRd x 72057594037927935 a1 b1 := ⟨_, rfl⟩
  have g2 := numRd_at (bs := x) (most := 72057594037927935) (at_ := a1) (bad := b1) g1
  rw [← hz2] at g2 ⊢
  obtain ⟨n2, a2, b2'⟩ := z2
  dsimp only at g2 ⊢
  (repeat' (first | refine a_go ?_ | (with_reducible apply Fin.thenK; assumption) | (with_reducible (first | apply C.seqK | apply C.regionK); intro _ _) | (apply R.buildSlice0; exact rfl; intro bz) | (apply R.box; exact rfl; (simp only [Value.cells]; rfl); exact rfl; intro bx) | (apply R.alloc; (simp only [Value.cells]; rfl); exact rfl; intro ba) | (apply R.buildSlice; (exact a_prt); exact rfl; exact rfl; (exact a_fills); exact rfl; intro bl) | (refine a_sp ?_ ?_; (intro h; skip; rotate_left; intro h; skip; rotate_left)) | fail))
  (apply R.call; (exact a_evs); exact rfl; exact rrbyte_K (rb := bx) (most := 254) (at_ := a2) (bad := b2') hb4 g2; rintro _ M3 _ ⟨rfl, rfl, rfl⟩)
  obtain ⟨z3, hz3⟩ : ∃ z3, z3 = byteR x 254 a2 b2' := ⟨_, rfl⟩
  have g3 := byteR_at (bs := x) (most := 254) (at_ := a2) (bad := b2') g2
  rw [← hz3] at g3 ⊢
  obtain ⟨n3, a3, b3⟩ := z3
  dsimp only at g3 ⊢
  (repeat' (first | (apply R.step; (apply Ok.move; exact rfl); exact rfl) | (apply R.step; (apply Ok.convBI; exact rfl); exact rfl) | refine a_go ?_ | (with_reducible apply Fin.thenK; assumption) | (with_reducible (first | apply C.seqK | apply C.regionK); intro _ _) | (apply R.buildSlice0; exact rfl; intro bz) | (apply R.box; exact rfl; (simp only [Value.cells]; rfl); exact rfl; intro bx) | (apply R.alloc; (simp only [Value.cells]; rfl); exact rfl; intro ba) | (apply R.buildSlice; (exact a_prt); exact rfl; exact rfl; (exact a_fills); exact rfl; intro bl) | (refine a_sp ?_ ?_; (intro h; skip; rotate_left; intro h; skip; rotate_left)) | fail))
  (apply R.call; (exact a_evs); exact rfl; exact rrtext_K (rb := bx) (most := 32768) (at_ := a3) (bad := b3) hb4 (by omega) g3 (by decide); rintro vt M5 _ ⟨hM5, hbt, rfl⟩)
  obtain ⟨z4, hz4⟩ : ∃ z4, z4 = textR x 32768 a3 b3 := ⟨_, rfl⟩
  rw [← hz4] at hbt ⊢
  obtain ⟨n4, a4, b4⟩ := z4
  dsimp only at hbt ⊢
  replace hb4 := hb4.mono hM5
  replace ho1 := ho1.mono hM5
  have hsn := snR_of hz1.symm hz2.symm hz3.symm hz4.symm
  unfold snG at hsn
  dsimp only at hsn
  rw [hsn] at hQ
  obtain ⟨Aq, ct, rfl, t1, t2, t3⟩ := id hbt
  (repeat' (first | refine a_go ?_ | (with_reducible apply Fin.thenK; assumption) | (with_reducible (first | apply C.seqK | apply C.regionK); intro _ _) | (apply R.buildSlice0; exact rfl; intro bz) | (apply R.box; exact rfl; (simp only [Value.cells]; rfl); exact rfl; intro bx) | (apply R.alloc; (simp only [Value.cells]; rfl); exact rfl; intro ba) | (apply R.buildSlice; (exact a_prt); exact rfl; exact rfl; (exact a_fills); exact rfl; intro bl) | (refine a_sp ?_ ?_; (intro h; skip; rotate_left; intro h; skip; rotate_left)) | fail))
  (apply R.call; (exact a_evs); exact rfl; exact rrend_K (rb := bx) (at_ := a4) (bad := b4) hb4 (by omega); rintro _ M5 _ ⟨rfl, rfl, rfl⟩)
  have hMM := hM8.trans_ (hM3.trans_ hM5)
  by_cases hend : endR x a4 b4 = 0
  rotate_left
  · rw [if_neg (fun h => hend h.1)] at hQ
    (repeat' (first | (apply R.step; (apply Ok.move; exact rfl); exact rfl) | (apply R.step; (apply Ok.neIT; exact rfl; exact rfl; exact hend); exact rfl) | refine a_go ?_ | (with_reducible apply Fin.thenK; assumption) | (with_reducible (first | apply C.seqK | apply C.regionK); intro _ _) | (apply R.buildSlice0; exact rfl; intro bz) | (apply R.box; exact rfl; (simp only [Value.cells]; rfl); exact rfl; intro bx) | (apply R.alloc; (simp only [Value.cells]; rfl); exact rfl; intro ba) | (apply R.buildSlice; (exact a_prt); exact rfl; exact rfl; (exact a_fills); exact rfl; intro bl) | (refine a_sp ?_ ?_; (intro h; skip; rotate_left; intro h; skip; rotate_left)) | fail))
    (apply Fin.returnA (H2 := hp8 ++ H); assumption; (first | exact .inl rfl | exact .inr rfl); exact rfl; (exact a_res); (simp only [retv]; rfl); (exact a_arr))
    exact ⟨_, rfl, PlB.nil1, hMM, hp8, ho1, rfl⟩
  (repeat' (first | (apply R.step; (apply Ok.move; exact rfl); exact rfl) | (apply R.step; (apply Ok.neIR; exact rfl; exact rfl; exact hend); exact rfl) | refine a_go ?_ | (with_reducible apply Fin.thenK; assumption) | (with_reducible (first | apply C.seqK | apply C.regionK); intro _ _) | (apply R.buildSlice0; exact rfl; intro bz) | (apply R.box; exact rfl; (simp only [Value.cells]; rfl); exact rfl; intro bx) | (apply R.alloc; (simp only [Value.cells]; rfl); exact rfl; intro ba) | (apply R.buildSlice; (exact a_prt); exact rfl; exact rfl; (exact a_fills); exact rfl; intro bl) | (refine a_sp ?_ ?_; (intro h; skip; rotate_left; intro h; skip; rotate_left)) | fail))
  (apply R.call; (exact a_evs); exact rfl; exact rsnap9_K (i := n1) (t := n2) (c := (n3.toNat : Int)) (n := n4.length) (A := Aq) (cp := ct); rintro _ M5 _ ⟨rfl, rfl, rfl⟩)
  by_cases hr : rgtP n1 n2 (n3.toNat : Int) n4.length
  rotate_left
  · rw [if_neg (fun h => hr h.2)] at hQ
    rw [decide_eq_false hr]
    (repeat' (first | refine a_go ?_ | (with_reducible apply Fin.thenK; assumption) | (with_reducible (first | apply C.seqK | apply C.regionK); intro _ _) | (apply R.buildSlice0; exact rfl; intro bz) | (apply R.box; exact rfl; (simp only [Value.cells]; rfl); exact rfl; intro bx) | (apply R.alloc; (simp only [Value.cells]; rfl); exact rfl; intro ba) | (apply R.buildSlice; (exact a_prt); exact rfl; exact rfl; (exact a_fills); exact rfl; intro bl) | (refine a_sp ?_ ?_; (intro h; skip; rotate_left; intro h; skip; rotate_left)) | fail))
    (apply Fin.returnA (H2 := hp8 ++ H); assumption; (first | exact .inl rfl | exact .inr rfl); exact rfl; (exact a_res); (simp only [retv]; rfl); (exact a_arr))
    exact ⟨_, rfl, PlB.nil1, hMM, hp8, ho1, rfl⟩
  rw [if_pos ⟨hend, hr⟩] at hQ
  rw [decide_eq_true hr]
  (repeat' (first | refine a_go ?_ | (with_reducible apply Fin.thenK; assumption) | (with_reducible (first | apply C.seqK | apply C.regionK); intro _ _) | (apply R.buildSlice0; exact rfl; intro bz) | (apply R.box; exact rfl; (simp only [Value.cells]; rfl); exact rfl; intro bx) | (apply R.alloc; (simp only [Value.cells]; rfl); exact rfl; intro ba) | (apply R.buildSlice; (exact a_prt); exact rfl; exact rfl; (exact a_fills); exact rfl; intro bl) | (refine a_sp ?_ ?_; (intro h; skip; rotate_left; intro h; skip; rotate_left)) | fail))
  (apply Fin.returnA (H2 := hp8 ++ H); assumption; (first | exact .inl rfl | exact .inr rfl); exact rfl; (exact a_res); (simp only [retv]; rfl); (exact a_arr))
  exact ⟨_, rfl, hbt, hMM, hp8, ho1, rfl⟩
end Go.Sx
end
section
namespace Go.Sx
open Go Go.Proofs Go.RowKit
attribute [local irreducible] C R Fin K Own OwnT Rd Pl Ok KOf RetOk OpsOf RP KP Res NoPanic KV KE MapS ItS EntS FsO FsR RowD PlD DkO PlFs RT KT OneT RS KS OneS RdO
variable {M M' : Mem} {H H1 H2 : Hp}
def appsD (d : Dk) (F : Fs) : Dk := F.foldl (fun d p => opD (appE d p.1 p.2) d (.app p.1 p.2)) d
theorem cntD_sz (d : Dk) : szD (cntD d) = szD d := by
  unfold szD
  rw [cntD_S, cntD_ps]
theorem opD_sz (d : Dk) (e : Int) (x : De) : szD (opD e d x) ≤ szD d + 1 := by
  unfold opD
  split
  · show (cntD d).S.length + (d.ps ++ [x]).length ≤ _
    rw [cntD_S, List.length_append]
    exact Nat.le_refl _
  · rw [cntD_sz]
    omega
theorem synD_sz (d : Dk) : szD (synD d) ≤ szD d := by
  unfold synD
  split
  · rw [cntD_sz]; exact Nat.le_refl _
  · exact now_sz d
theorem torn_length (F : Fs) (x : De) (torn : Int) : (tornF F x torn).length ≤ F.length + 1 := by
  cases x with
  | app n b =>
    unfold tornF
    dsimp only
    split
    · exact doF_length _ _
    · omega
  | trc n k => exact Nat.le_succ _
  | ren n t => exact Nat.le_succ _
  | rem n => exact Nat.le_succ _
theorem crash_sz (d : Dk) (keep torn : Int) : szD (crashD d keep torn) ≤ szD d := by
  have hk : keepD d keep ≤ d.ps.length := by
    unfold keepD
    have h1 : keep % ((d.ps.length + 1 : Nat) : Int) < ((d.ps.length + 1 : Nat) : Int) := Int.emod_lt_of_pos _ (by omega)
    omega
  show (crashF d keep torn).length + 0 ≤ d.S.length + d.ps.length
  have h1 := fold_length (d.ps.take (keepD d keep)) d.S
  rw [List.length_take] at h1
  unfold crashF
  split
  · rename_i x hx
    have hlt := (List.getElem?_eq_some_iff.1 hx).1
    have h2 := torn_length ((d.ps.take (keepD d keep)).foldl doF d.S) x torn
    omega
  · omega
theorem ps_sz (d : Dk) : d.ps.length ≤ szD d := Nat.le_add_left _ _
structure PaX where
  i : Nat
  ii : Int
  d : Dk
  hp : Hp
  hq : Hp
  M : Mem
def pairD (room : Int) (F : Fs) : Dk := synD (appsD (newD room) (F.take 20))
theorem appsD_snoc (d : Dk) (F : Fs) (p : Txt × Txt) : appsD d (F ++ [p]) = opD (appE (appsD d F) p.1 p.2) (appsD d F) (.app p.1 p.2) := by
  unfold appsD
  rw [List.foldl_append]
  rfl
theorem pair_K {room : Int} {fv : Value} {F : Fs} (h0 : 0 ≤ room) (h1 : room ≤ 1048576) (hf : PlFs M fv F) (hF : ∀ p ∈ F, p.1.length ≤ 4611686018427387904 ∧ p.2.length ≤ 4611686018427387904) : K Tryz.prog 4 [.int .i64 room, fv] M H fun v' M' H' => ∃ db rb hp hq, v' = .tuple #[.pointer (some ⟨db, 0, none⟩), .pointer (some ⟨rb, 0, none⟩), .bool true] ∧ M.le M' ∧ DkO M' db (pairD room F) hp ∧ RdO M' rb (pairD room F) hq ∧ H' = hp ++ (hq ++ H) := by
  refine K.enterK Tryz.func4 rfl rfl rfl ?_
  intro Q hNP hQ
  obtain ⟨A, cap, es, rfl, f1, f2, f3, f4, rfl⟩ := hf.form
  (repeat' (first | refine a_go ?_ | (with_reducible apply Fin.thenK; assumption) | (with_reducible (first | apply C.seqK | apply C.regionK); intro _ _) | (apply R.buildSlice0; exact rfl; intro bz) | (apply R.box; exact rfl; (simp only [Value.cells]; rfl); exact rfl; intro bx) | (apply R.alloc; (simp only [Value.cells]; rfl); exact rfl; intro ba) | (apply R.buildSlice; (exact a_prt); exact rfl; exact rfl; (exact a_fills); exact rfl; intro bl) | (refine a_sp ?_ ?_; (intro h; skip; rotate_left; intro h; skip; rotate_left)) | fail))
  (apply R.call; (exact a_evs); exact rfl; exact new_K h0 h1; rintro _ M _ ⟨db, hp, rfl, rfl, ho, rfl⟩)
  (repeat' (first | refine a_go ?_ | (with_reducible apply Fin.thenK; assumption) | (with_reducible (first | apply C.seqK | apply C.regionK); intro _ _) | (apply R.buildSlice0; exact rfl; intro bz) | (apply R.box; exact rfl; (simp only [Value.cells]; rfl); exact rfl; intro bx) | (apply R.alloc; (simp only [Value.cells]; rfl); exact rfl; intro ba) | (apply R.buildSlice; (exact a_prt); exact rfl; exact rfl; (exact a_fills); exact rfl; intro bl) | (refine a_sp ?_ ?_; (intro h; skip; rotate_left; intro h; skip; rotate_left)) | fail))
  have hr : RdO M bx (newD room) [(bx, .cells #[.int .i64 room, .slice none 0 0, .slice none 0 0, .slice none 0 0, .bool false, .int .i64 0, .bool false] 57 (0, 0))] := RdO.of (rnew_ok h0 h1)
  generalize hX : [(bx, Obj.cells #[Value.int .i64 room, .slice none 0 0, .slice none 0 0, .slice none 0 0, .bool false, .int .i64 0, .bool false] 57 (0, 0))] = hq at hr
  apply C.arr (H2 := hp ++ (hq ++ H)) (by rw [← hX]; ((try simp only [List.append_assoc, List.cons_append, List.nil_append, List.append_nil]); exact a_arr))
  have hsz0 : szD (newD room) = 0 := rfl
  apply C.loop (fun y : PaX => (y.i : Int) = y.ii ∧ y.i ≤ min 20 es.length ∧ M.le y.M ∧ y.d = appsD (newD room) ((es.map feP).take y.i) ∧ szD y.d ≤ y.i ∧ DkO y.M db y.d y.hp ∧ RdO y.M bx y.d y.hq)
    (fun y => [(1, .slice A es.length cap), (7, .pointer (some ⟨db, 0, none⟩)), (9, .pointer (some ⟨bx, 0, none⟩)), (10, .int .i64 y.ii)]) (fun y => y.M) (fun y => y.hp ++ (y.hq ++ H)) (fun y => 20 - y.i) ⟨0, 0, newD room, hp, hq, M⟩
  · exact ⟨rfl, Nat.zero_le _, Mem.le_refl _, rfl, Nat.le_refl _, ho, hr⟩
  · (exact a_subs)
  · exact rfl
  · exact rfl
  rintro ⟨i, ii, d, hp1, hq1, M1⟩ ⟨hii, hi, hM1, hd, hsz, ho1, hr1⟩
  dsimp only at hii hi hM1 hd hsz ho1 hr1 ⊢
  by_cases hix : i < min 20 es.length
  · have hie : i < es.length := by omega
    obtain ⟨b, o, c, e, fr, hA, hM, hc0, hc1⟩ := fe_at (f3.mono hM1) hie
    subst hA
    obtain ⟨Ai, ci, hvi, q1, q2, q3⟩ := f4 _ (List.getElem_mem hie)
    rw [hvi] at hc1
    rw [show o + i * 2 = o + ii.toNat * 2 by omega] at hc0 hc1
    obtain ⟨z1, z2⟩ := hF (feP es[i]) (List.mem_map.2 ⟨_, List.getElem_mem hie, rfl⟩)
    change es[i].n.length ≤ _ at z1
    change es[i].b.length ≤ _ at z2
    have hpb : PlB M1 (.slice Ai es[i].b.length ci) es[i].b := ⟨Ai, ci, rfl, q1, q2, q3.mono hM1⟩
    have hps := ps_sz d
    have hnl := now_sz d
    (repeat' (first | (apply R.step; (apply Ok.move; exact rfl); exact rfl) | (apply R.step; (first | (apply Ok.ltTr; exact rfl; exact rfl; omega) | (apply Ok.ltF; exact rfl; exact rfl; omega) | (apply Ok.gtTr; exact rfl; exact rfl; omega) | (apply Ok.gtF; exact rfl; exact rfl; omega) | (apply Ok.geTr; exact rfl; exact rfl; omega) | (apply Ok.geF; exact rfl; exact rfl; omega) | (apply Ok.leTr; exact rfl; exact rfl; omega) | (apply Ok.leF; exact rfl; exact rfl; omega) | (apply Ok.neIT; exact rfl; exact rfl; omega) | (apply Ok.eqIF; exact rfl; exact rfl; omega)); exact rfl) | refine a_go ?_ | (with_reducible apply Fin.thenK; assumption) | (with_reducible (first | apply C.seqK | apply C.regionK); intro _ _) | (apply R.buildSlice0; exact rfl; intro bz) | (apply R.box; exact rfl; (simp only [Value.cells]; rfl); exact rfl; intro bx) | (apply R.alloc; (simp only [Value.cells]; rfl); exact rfl; intro ba) | (apply R.buildSlice; (exact a_prt); exact rfl; exact rfl; (exact a_fills); exact rfl; intro bl) | (refine a_sp ?_ ?_; (intro h; skip; rotate_left; intro h; skip; rotate_left)) | fail))
    (apply C.regionT (t := .free 0 (.free 1 (.free 2 (.free 3 (.free 4 (.free 5 (.free 6 (.free 7 (.free 8 (.free 9 (.free 10 (.free 12 (.free 13 (.free 14 (.free 15 (.free 16 (.free 17 (.free 18 (.free 19 (.free 20 (.free 21 (.free 22 (.one 11 (.one 23 (.free 24 .nil))))))))))))))))))))))))) (Hs := []); exact Mix.h; (first | exact Arr.all _ | (exact a_arr) | ((try simp only [List.append_assoc, List.cons_append, List.nil_append, List.append_nil]); exact a_arr)); (exact a_np); kernel_rfl)
    (repeat' (first | (apply RT.step; exact rfl; intro _ _ _; (apply Ok.move; exact rfl); exact rfl) | (apply RT.step; exact rfl; intro _ _ hMx; (first | (apply Ok.loadP; exact rfl; exact rfl; exact hMx.2.2 _ _ hM; exact hc0) | (apply Ok.loadP; exact rfl; exact rfl; exact hMx.2.2 _ _ hM; exact hc1)); exact rfl) | (first | (apply RT.step; exact rfl; intro _ _ _; (exact a_ok); exact rfl) | (apply RT.stepT; exact rfl; exact rfl; exact rfl; exact rfl; intro _ _ _; (exact a_ok); exact rfl) | (apply RT.stepF; exact rfl; exact rfl; exact rfl; exact rfl; exact rfl; exact rfl) | (apply RT.stepU; exact rfl; exact rfl; exact rfl; exact rfl; exact rfl) | (apply RT.one; apply OneT.effF; exact rfl; exact rfl; exact rfl; exact rfl; exact rfl; exact rfl) | (apply RT.one; apply OneT.effU; exact rfl; exact rfl; exact rfl; exact rfl; exact rfl))))
    (apply RT.one; apply OneT.eff; exact rfl; intro Kc hKc ops0)
    apply R.arr (H2 := hp1 ++ (hq1 ++ H)) (by ((try simp only [List.append_assoc, List.cons_append, List.nil_append, List.append_nil]); exact a_arr))
    (apply R.call; (exact a_evs); exact rfl; exact append_K (d := d) (n := es[i].n) ho1 hpb (by omega) (by omega) (by omega); rintro _ M2 _ ⟨rfl, hM2, hp2, ho2, rfl⟩)
    (apply R.nil; apply Fin.kt (Hx := hq1 ++ (hp2 ++ H)) hKc; exact hM2; ((try simp only [List.append_assoc, List.cons_append, List.nil_append, List.append_nil]); exact a_arr))
    (repeat' (first | (apply RT.step; exact rfl; intro _ _ _; (apply Ok.move; exact rfl); exact rfl) | fail | (first | (apply RT.step; exact rfl; intro _ _ _; (exact a_ok); exact rfl) | (apply RT.stepT; exact rfl; exact rfl; exact rfl; exact rfl; intro _ _ _; (exact a_ok); exact rfl) | (apply RT.stepF; exact rfl; exact rfl; exact rfl; exact rfl; exact rfl; exact rfl) | (apply RT.stepU; exact rfl; exact rfl; exact rfl; exact rfl; exact rfl) | (apply RT.one; apply OneT.effF; exact rfl; exact rfl; exact rfl; exact rfl; exact rfl; exact rfl) | (apply RT.one; apply OneT.effU; exact rfl; exact rfl; exact rfl; exact rfl; exact rfl))))
    (apply RT.one; apply OneT.eff; exact rfl; intro Kc hKc ops0)
    apply R.arr (H2 := hq1 ++ (hp2 ++ H)) (by ((try simp only [List.append_assoc, List.cons_append, List.nil_append, List.append_nil]); exact a_arr))
    (apply R.call; (exact a_evs); exact rfl; exact rappend_K (d := d) (n := es[i].n) (hr1.mono hM2) (hpb.mono hM2) (by omega) (by omega) (by omega) (by omega); rintro _ M3 _ ⟨rfl, hM3, hq2, hr2, rfl⟩)
    (apply R.nil; apply Fin.kt (Hx := hp2 ++ (hq2 ++ H)) hKc; exact hM2.trans_ hM3; ((try simp only [List.append_assoc, List.cons_append, List.nil_append, List.append_nil]); exact a_arr))
    (repeat' (first | (apply RT.step; exact rfl; intro _ _ _; (apply Ok.move; exact rfl); exact rfl) | fail | (first | (apply RT.step; exact rfl; intro _ _ _; (exact a_ok); exact rfl) | (apply RT.stepT; exact rfl; exact rfl; exact rfl; exact rfl; intro _ _ _; (exact a_ok); exact rfl) | (apply RT.stepF; exact rfl; exact rfl; exact rfl; exact rfl; exact rfl; exact rfl) | (apply RT.stepU; exact rfl; exact rfl; exact rfl; exact rfl; exact rfl) | (apply RT.one; apply OneT.effF; exact rfl; exact rfl; exact rfl; exact rfl; exact rfl; exact rfl) | (apply RT.one; apply OneT.effU; exact rfl; exact rfl; exact rfl; exact rfl; exact rfl))))
    apply RT.nil
    have hd' : opD (appE d es[i].n es[i].b) d (.app es[i].n es[i].b) = appsD (newD room) ((es.map feP).take (i + 1)) := by
      rw [take_snocE (l := es.map feP) (by rw [List.length_map]; exact hie), appsD_snoc, ← hd, List.getElem_map]
      rfl
    have hsz' := opD_sz d (appE d es[i].n es[i].b) (.app es[i].n es[i].b)
    (repeat' (first | (apply R.step; (apply Ok.move; exact rfl); exact rfl) | (apply R.step; (apply Ok.neIS; exact rfl; exact rfl); exact rfl) | refine a_go ?_ | (with_reducible apply Fin.thenK; assumption) | (with_reducible (first | apply C.seqK | apply C.regionK); intro _ _) | (apply R.buildSlice0; exact rfl; intro bz) | (apply R.box; exact rfl; (simp only [Value.cells]; rfl); exact rfl; intro bx) | (apply R.alloc; (simp only [Value.cells]; rfl); exact rfl; intro ba) | (apply R.buildSlice; (exact a_prt); exact rfl; exact rfl; (exact a_fills); exact rfl; intro bl) | (refine a_sp ?_ ?_; (intro h; skip; rotate_left; intro h; skip; rotate_left)) | fail))
    (apply Fin.arr (H2 := hp2 ++ (hq2 ++ H)); ((try simp only [List.append_assoc, List.cons_append, List.nil_append, List.append_nil]); exact a_arr))
    refine Fin.again (⟨i + 1, ii + 1, opD (appE d es[i].n es[i].b) d (.app es[i].n es[i].b), hp2, hq2, M3⟩ : PaX) ⟨by dsimp only; omega, by dsimp only; omega, hM1.trans_ (hM2.trans_ hM3), hd', by dsimp only; omega, ho2.mono hM3, hr2⟩ (by dsimp only; omega) ?_ rfl rfl
    (exact a_subs)
  have hie : i = min 20 es.length := by omega
  have hpr : d = appsD (newD room) ((es.map feP).take 20) := by
    rw [hd, hie]
    congr 1
    by_cases h : 20 ≤ es.length
    · rw [Nat.min_eq_left h]
    · rw [Nat.min_eq_right (by omega), List.take_of_length_le (by rw [List.length_map]; exact Nat.le_refl _), List.take_of_length_le (by rw [List.length_map]; omega)]
  have hPD : pairD room (es.map feP) = synD d := by rw [hpr]; rfl
  rw [hPD] at hQ
  by_cases h20 : ii < (es.length : Int)
  · (repeat' (first | (apply R.step; (apply Ok.move; exact rfl); exact rfl) | (apply R.step; (first | (apply Ok.ltTr; exact rfl; exact rfl; omega) | (apply Ok.ltF; exact rfl; exact rfl; omega) | (apply Ok.gtTr; exact rfl; exact rfl; omega) | (apply Ok.gtF; exact rfl; exact rfl; omega) | (apply Ok.geTr; exact rfl; exact rfl; omega) | (apply Ok.geF; exact rfl; exact rfl; omega) | (apply Ok.leTr; exact rfl; exact rfl; omega) | (apply Ok.leF; exact rfl; exact rfl; omega) | (apply Ok.neIT; exact rfl; exact rfl; omega) | (apply Ok.eqIF; exact rfl; exact rfl; omega)); exact rfl) | refine a_go ?_ | (with_reducible apply Fin.thenK; assumption) | (with_reducible (first | apply C.seqK | apply C.regionK); intro _ _) | (apply R.buildSlice0; exact rfl; intro bz) | (apply R.box; exact rfl; (simp only [Value.cells]; rfl); exact rfl; intro bx) | (apply R.alloc; (simp only [Value.cells]; rfl); exact rfl; intro ba) | (apply R.buildSlice; (exact a_prt); exact rfl; exact rfl; (exact a_fills); exact rfl; intro bl) | (refine a_sp ?_ ?_; (intro h; skip; rotate_left; intro h; skip; rotate_left)) | fail))
    (apply R.call; (exact a_evs); exact rfl; exact sync_K ho1; rintro _ M2 _ ⟨rfl, rfl, hp2, ho2, rfl⟩)
    (repeat' (first | refine a_go ?_ | (with_reducible apply Fin.thenK; assumption) | (with_reducible (first | apply C.seqK | apply C.regionK); intro _ _) | (apply R.buildSlice0; exact rfl; intro bz) | (apply R.box; exact rfl; (simp only [Value.cells]; rfl); exact rfl; intro bx) | (apply R.alloc; (simp only [Value.cells]; rfl); exact rfl; intro ba) | (apply R.buildSlice; (exact a_prt); exact rfl; exact rfl; (exact a_fills); exact rfl; intro bl) | (refine a_sp ?_ ?_; (intro h; skip; rotate_left; intro h; skip; rotate_left)) | fail))
    apply R.arr (H2 := hq1 ++ (hp2 ++ H)) (by ((try simp only [List.append_assoc, List.cons_append, List.nil_append, List.append_nil]); exact a_arr))
    (apply R.call; (exact a_evs); exact rfl; exact rsync_K hr1; rintro _ M2 _ ⟨rfl, rfl, hq2, hr2, rfl⟩)
    (repeat' (first | (apply R.step; (apply Ok.move; exact rfl); exact rfl) | (apply R.step; (apply Ok.eqIR; exact rfl; exact rfl; exact rfl); exact rfl) | refine a_go ?_ | (with_reducible apply Fin.thenK; assumption) | (with_reducible (first | apply C.seqK | apply C.regionK); intro _ _) | (apply R.buildSlice0; exact rfl; intro bz) | (apply R.box; exact rfl; (simp only [Value.cells]; rfl); exact rfl; intro bx) | (apply R.alloc; (simp only [Value.cells]; rfl); exact rfl; intro ba) | (apply R.buildSlice; (exact a_prt); exact rfl; exact rfl; (exact a_fills); exact rfl; intro bl) | (refine a_sp ?_ ?_; (intro h; skip; rotate_left; intro h; skip; rotate_left)) | fail))
    (apply Fin.returnA (H2 := hp2 ++ (hq2 ++ H)); assumption; (first | exact .inl rfl | exact .inr rfl); exact rfl; (exact a_res); (simp only [retv]; rfl); (exact a_arr))
    exact ⟨db, bx, hp2, hq2, rfl, hM1, ho2, hr2, rfl⟩
  · (repeat' (first | (apply R.step; (apply Ok.move; exact rfl); exact rfl) | (apply R.step; (first | (apply Ok.ltTr; exact rfl; exact rfl; omega) | (apply Ok.ltF; exact rfl; exact rfl; omega) | (apply Ok.gtTr; exact rfl; exact rfl; omega) | (apply Ok.gtF; exact rfl; exact rfl; omega) | (apply Ok.geTr; exact rfl; exact rfl; omega) | (apply Ok.geF; exact rfl; exact rfl; omega) | (apply Ok.leTr; exact rfl; exact rfl; omega) | (apply Ok.leF; exact rfl; exact rfl; omega) | (apply Ok.neIT; exact rfl; exact rfl; omega) | (apply Ok.eqIF; exact rfl; exact rfl; omega)); exact rfl) | refine a_go ?_ | (with_reducible apply Fin.thenK; assumption) | (with_reducible (first | apply C.seqK | apply C.regionK); intro _ _) | (apply R.buildSlice0; exact rfl; intro bz) | (apply R.box; exact rfl; (simp only [Value.cells]; rfl); exact rfl; intro bx) | (apply R.alloc; (simp only [Value.cells]; rfl); exact rfl; intro ba) | (apply R.buildSlice; (exact a_prt); exact rfl; exact rfl; (exact a_fills); exact rfl; intro bl) | (refine a_sp ?_ ?_; (intro h; skip; rotate_left; intro h; skip; rotate_left)) | fail))
    (apply R.call; (exact a_evs); exact rfl; exact sync_K ho1; rintro _ M2 _ ⟨rfl, rfl, hp2, ho2, rfl⟩)
    (repeat' (first | refine a_go ?_ | (with_reducible apply Fin.thenK; assumption) | (with_reducible (first | apply C.seqK | apply C.regionK); intro _ _) | (apply R.buildSlice0; exact rfl; intro bz) | (apply R.box; exact rfl; (simp only [Value.cells]; rfl); exact rfl; intro bx) | (apply R.alloc; (simp only [Value.cells]; rfl); exact rfl; intro ba) | (apply R.buildSlice; (exact a_prt); exact rfl; exact rfl; (exact a_fills); exact rfl; intro bl) | (refine a_sp ?_ ?_; (intro h; skip; rotate_left; intro h; skip; rotate_left)) | fail))
    apply R.arr (H2 := hq1 ++ (hp2 ++ H)) (by ((try simp only [List.append_assoc, List.cons_append, List.nil_append, List.append_nil]); exact a_arr))
    (apply R.call; (exact a_evs); exact rfl; exact rsync_K hr1; rintro _ M2 _ ⟨rfl, rfl, hq2, hr2, rfl⟩)
    (repeat' (first | (apply R.step; (apply Ok.move; exact rfl); exact rfl) | (apply R.step; (apply Ok.eqIR; exact rfl; exact rfl; exact rfl); exact rfl) | refine a_go ?_ | (with_reducible apply Fin.thenK; assumption) | (with_reducible (first | apply C.seqK | apply C.regionK); intro _ _) | (apply R.buildSlice0; exact rfl; intro bz) | (apply R.box; exact rfl; (simp only [Value.cells]; rfl); exact rfl; intro bx) | (apply R.alloc; (simp only [Value.cells]; rfl); exact rfl; intro ba) | (apply R.buildSlice; (exact a_prt); exact rfl; exact rfl; (exact a_fills); exact rfl; intro bl) | (refine a_sp ?_ ?_; (intro h; skip; rotate_left; intro h; skip; rotate_left)) | fail))
    (apply Fin.returnA (H2 := hp2 ++ (hq2 ++ H)); assumption; (first | exact .inl rfl | exact .inr rfl); exact rfl; (exact a_res); (simp only [retv]; rfl); (exact a_arr))
    exact ⟨db, bx, hp2, hq2, rfl, hM1, ho2, hr2, rfl⟩
end Go.Sx
end
section
namespace Go.Sx
open Go Go.Proofs Go.RowKit
attribute [local irreducible] C R Fin K Own OwnT Rd Pl Ok KOf RetOk OpsOf RP KP Res NoPanic KV KE MapS ItS EntS FsO FsR RowD PlD DkO PlFs RT KT OneT RS KS OneS RdO
variable {M M' : Mem} {H H1 H2 : Hp}
structure SdX where
  i : Nat
  ii : Int
  M : Mem
theorem sameDisk_K {db rb : Nat} {d : Dk} {hp hq : Hp} (ho : DkO M db d hp) (hr : RdO M rb d hq) (hsz : szD d ≤ 1000000) : K Tryz.prog 18 [.pointer (some ⟨db, 0, none⟩), .pointer (some ⟨rb, 0, none⟩)] M (hp ++ (hq ++ H)) fun v' M' H' => v' = .bool true ∧ M.le M' ∧ H' = hp ++ (hq ++ H) := by
  refine K.enterK Tryz.func18 rfl rfl rfl ?_
  intro Q hNP hQ
  have hps := ps_sz d
  have hnl := now_sz d
  (repeat' (first | refine a_go ?_ | (with_reducible apply Fin.thenK; assumption) | (with_reducible (first | apply C.seqK | apply C.regionK); intro _ _) | (apply R.buildSlice0; exact rfl; intro bz) | (apply R.box; exact rfl; (simp only [Value.cells]; rfl); exact rfl; intro bx) | (apply R.alloc; (simp only [Value.cells]; rfl); exact rfl; intro ba) | (apply R.buildSlice; (exact a_prt); exact rfl; exact rfl; (exact a_fills); exact rfl; intro bl) | (refine a_sp ?_ ?_; (intro h; skip; rotate_left; intro h; skip; rotate_left)) | fail))
  (apply R.call; (exact a_evs); exact rfl; exact names_KD ho (by omega); rintro v1 M _ ⟨rfl, hn1, hown1, rfl⟩)
  (repeat' (first | refine a_go ?_ | (with_reducible apply Fin.thenK; assumption) | (with_reducible (first | apply C.seqK | apply C.regionK); intro _ _) | (apply R.buildSlice0; exact rfl; intro bz) | (apply R.box; exact rfl; (simp only [Value.cells]; rfl); exact rfl; intro bx) | (apply R.alloc; (simp only [Value.cells]; rfl); exact rfl; intro ba) | (apply R.buildSlice; (exact a_prt); exact rfl; exact rfl; (exact a_fills); exact rfl; intro bl) | (refine a_sp ?_ ?_; (intro h; skip; rotate_left; intro h; skip; rotate_left)) | fail))
  apply R.arr (H2 := hq ++ (hn1 ++ (hp ++ H))) (by ((try simp only [List.append_assoc, List.cons_append, List.nil_append, List.append_nil]); exact a_arr))
  (apply R.call; (exact a_evs); exact rfl; exact rnames_KD hr (by omega); rintro v2 M _ ⟨rfl, hn2, hown2, rfl⟩)
  obtain ⟨N, hN⟩ : ∃ N, N = namesD d.down d.now := ⟨_, rfl⟩
  rw [← hN] at hown1 hown2
  obtain ⟨A1, c1, rfl, a1, a2⟩ := hown1.form
  obtain ⟨A2, c2, rfl, b1, b2⟩ := hown2.form
  unfold maxLen at a2
  apply R.arr (H2 := (hn1 ++ hn2) ++ (hp ++ (hq ++ H))) (by ((try simp only [List.append_assoc, List.cons_append, List.nil_append, List.append_nil]); exact a_arr))
  apply R.ice (Arr.all _)
  intro M1 hM1 hin
  have hp1 := hown1.plIn hin.left
  have hp2 := hown2.plIn hin.right
  replace ho := ho.mono hM1
  replace hr := hr.mono hM1
  (repeat' (first | refine a_go ?_ | (with_reducible apply Fin.thenK; assumption) | (with_reducible (first | apply C.seqK | apply C.regionK); intro _ _) | (apply R.buildSlice0; exact rfl; intro bz) | (apply R.box; exact rfl; (simp only [Value.cells]; rfl); exact rfl; intro bx) | (apply R.alloc; (simp only [Value.cells]; rfl); exact rfl; intro ba) | (apply R.buildSlice; (exact a_prt); exact rfl; exact rfl; (exact a_fills); exact rfl; intro bl) | (refine a_sp ?_ ?_; (intro h; skip; rotate_left; intro h; skip; rotate_left)) | fail))
  have hc := id hr
  unfold RdO at hc
  obtain ⟨⟨F, G, sv, nv, wv, fused, fuse⟩, hi, rfl⟩ := hc
  dsimp only at ho hr ⊢
  obtain ⟨Aw, cw, rfl, _⟩ : ∃ A cap, wv = .slice A d.ps.length cap ∧ True := by
    obtain ⟨A, cap, h, _⟩ := hi.w
    exact ⟨A, cap, h, trivial⟩
  unfold rdkB at hr ⊢
  have hu1 : ∀ M' Hx', M1.le M' → K Tryz.prog 62 [.pointer (some ⟨db, 0, none⟩)] M' ((hp ++ [(rb, .cells [.int .i64 d.room, sv, nv, .slice Aw d.ps.length cw, .bool fused, .int .i64 fuse, .bool d.down].toArray 57 (0, 0))]) ++ Hx') (fun u M2 H2 => u = .int .i64 (usedD d.down d.now : Nat) ∧ M2 = M' ∧ H2 = (hp ++ [(rb, .cells [.int .i64 d.room, sv, nv, .slice Aw d.ps.length cw, .bool fused, .int .i64 fuse, .bool d.down].toArray 57 (0, 0))]) ++ Hx') := fun M' Hx' h => by
    rw [List.append_assoc]
    exact dused_KD (ho.mono h)
  have hu2 : ∀ M' Hx', M1.le M' → K Tryz.prog 63 [.pointer (some ⟨rb, 0, none⟩)] M' ((hp ++ [(rb, .cells [.int .i64 d.room, sv, nv, .slice Aw d.ps.length cw, .bool fused, .int .i64 fuse, .bool d.down].toArray 57 (0, 0))]) ++ Hx') (fun u M2 H2 => u = .int .i64 (usedD d.down d.now : Nat) ∧ M2 = M' ∧ H2 = (hp ++ [(rb, .cells [.int .i64 d.room, sv, nv, .slice Aw d.ps.length cw, .bool fused, .int .i64 fuse, .bool d.down].toArray 57 (0, 0))]) ++ Hx') := fun M' Hx' h => K.permQ (perm_mid _ _ _) (rused_KD (hr.mono h))
  have hpd : ∀ M' Hx', M1.le M' → K Tryz.prog 64 [.pointer (some ⟨db, 0, none⟩)] M' ((hp ++ [(rb, .cells [.int .i64 d.room, sv, nv, .slice Aw d.ps.length cw, .bool fused, .int .i64 fuse, .bool d.down].toArray 57 (0, 0))]) ++ Hx') (fun u M2 H2 => u = .int .i64 (d.ps.length : Nat) ∧ M2 = M' ∧ H2 = (hp ++ [(rb, .cells [.int .i64 d.room, sv, nv, .slice Aw d.ps.length cw, .bool fused, .int .i64 fuse, .bool d.down].toArray 57 (0, 0))]) ++ Hx') := fun M' Hx' h => by
    rw [List.append_assoc]
    exact pending_KD (ho.mono h)
  have hdn : ∀ M' Hx', M1.le M' → K Tryz.prog 65 [.pointer (some ⟨db, 0, none⟩)] M' ((hp ++ [(rb, .cells [.int .i64 d.room, sv, nv, .slice Aw d.ps.length cw, .bool fused, .int .i64 fuse, .bool d.down].toArray 57 (0, 0))]) ++ Hx') (fun u M2 H2 => u = .bool d.down ∧ M2 = M' ∧ H2 = (hp ++ [(rb, .cells [.int .i64 d.room, sv, nv, .slice Aw d.ps.length cw, .bool fused, .int .i64 fuse, .bool d.down].toArray 57 (0, 0))]) ++ Hx') := fun M' Hx' h => by
    rw [List.append_assoc]
    exact down_KD (ho.mono h)
  (apply C.regionT (t := .free 0 (.free 1 (.free 2 (.free 3 (.free 4 (.free 5 (.free 6 (.free 7 (.free 8 (.free 9 (.free 10 (.free 11 (.free 12 (.free 13 (.free 14 (.free 15 (.free 16 (.free 17 (.free 18 (.free 19 (.free 20 (.free 21 (.free 22 (.free 23 (.free 24 (.free 25 (.free 26 (.free 27 (.free 28 (.free 29 (.free 30 .nil))))))))))))))))))))))))))))))) (Hs := hp ++ [(rb, .cells [.int .i64 d.room, sv, nv, .slice Aw d.ps.length cw, .bool fused, .int .i64 fuse, .bool d.down].toArray 57 (0, 0))]); exact Mix.h; (first | exact Arr.all _ | (exact a_arr) | ((try simp only [List.append_assoc, List.cons_append, List.nil_append, List.append_nil]); exact a_arr)); (exact a_np); kernel_rfl)
  (repeat' (first | (apply RT.step; exact rfl; intro _ _ _; (apply Ok.move; exact rfl); exact rfl) | (apply RT.callQT; exact rfl; exact inferInstance; exact rfl; exact rfl; exact rfl; (exact a_evs); exact rfl; (first | exact hu1 | exact hu2 | exact hpd | exact hdn)) | (apply RT.stepT; exact rfl; exact rfl; exact rfl; exact rfl; intro _ _ hMx; (first | (apply Ok.loadM; exact rfl; exact rfl; exact (List.mem_append_left _ (List.mem_append_right _ (List.mem_singleton.2 rfl))); exact rfl) | (apply Ok.neIS; exact rfl; exact rfl) | (apply Ok.neBoS; exact rfl; exact rfl)); exact rfl) | (apply RT.step; exact rfl; intro _ _ hMx; (apply Ok.neIS; exact rfl; exact rfl); exact rfl) | (first | (apply RT.step; exact rfl; intro _ _ _; (exact a_ok); exact rfl) | (apply RT.stepT; exact rfl; exact rfl; exact rfl; exact rfl; intro _ _ _; (exact a_ok); exact rfl) | (apply RT.stepF; exact rfl; exact rfl; exact rfl; exact rfl; exact rfl; exact rfl) | (apply RT.stepU; exact rfl; exact rfl; exact rfl; exact rfl; exact rfl) | (apply RT.one; apply OneT.effF; exact rfl; exact rfl; exact rfl; exact rfl; exact rfl; exact rfl) | (apply RT.one; apply OneT.effU; exact rfl; exact rfl; exact rfl; exact rfl; exact rfl))))
  apply RT.nil
  (repeat' (first | refine a_go ?_ | (with_reducible apply Fin.thenK; assumption) | (with_reducible (first | apply C.seqK | apply C.regionK); intro _ _) | (apply R.buildSlice0; exact rfl; intro bz) | (apply R.box; exact rfl; (simp only [Value.cells]; rfl); exact rfl; intro bx) | (apply R.alloc; (simp only [Value.cells]; rfl); exact rfl; intro ba) | (apply R.buildSlice; (exact a_prt); exact rfl; exact rfl; (exact a_fills); exact rfl; intro bl) | (refine a_sp ?_ ?_; (intro h; skip; rotate_left; intro h; skip; rotate_left)) | fail))
  generalize hX : [(rb, Obj.cells [Value.int .i64 d.room, sv, nv, .slice Aw d.ps.length cw, .bool fused, .int .i64 fuse, .bool d.down].toArray 57 (0, 0))] = hq at hr hQ
  clear hu1 hu2 hpd hdn hi
  apply C.arr (H2 := hp ++ (hq ++ H)) (by rw [← hX]; ((try simp only [List.append_assoc, List.cons_append, List.nil_append, List.append_nil]); exact a_arr))
  apply C.loop (fun y : SdX => (y.i : Int) = y.ii ∧ y.i ≤ N.length ∧ M1.le y.M)
    (fun y => [(0, .pointer (some ⟨db, 0, none⟩)), (1, .pointer (some ⟨rb, 0, none⟩)), (5, .slice A1 N.length c1), (6, .slice A2 N.length c2), (7, .int .i64 y.ii)]) (fun y => y.M) (fun _ => hp ++ (hq ++ H)) (fun y => N.length - y.i) ⟨0, 0, M1⟩
  · exact ⟨rfl, Nat.zero_le _, Mem.le_refl _⟩
  · (exact a_subs)
  · exact rfl
  · exact rfl
  rintro ⟨i, ii, M2⟩ ⟨hii, hi, hM2⟩
  dsimp only at hii hi hM2 ⊢
  by_cases hin : i < N.length
  · obtain ⟨e1, o1, q1, t1, r1, rfl, m1, g1⟩ := (hp1.mono hM2).get (i := i) (v := str N[i]) (by rw [List.getElem?_map, List.getElem?_eq_getElem hin]; rfl)
    obtain ⟨e2, o2, q2, t2, r2, rfl, m2, g2⟩ := (hp2.mono hM2).get (i := i) (v := str N[i]) (by rw [List.getElem?_map, List.getElem?_eq_getElem hin]; rfl)
    rw [show o1 + i = o1 + ii.toNat * 1 by omega] at g1
    rw [show o2 + i = o2 + ii.toNat * 1 by omega] at g2
    generalize N[i] = n at g1 g2
    (repeat' (first | (apply R.step; (apply Ok.move; exact rfl); exact rfl) | (apply R.step; (first | (apply Ok.ltTr; exact rfl; exact rfl; omega) | (apply Ok.loadP; exact rfl; exact rfl; exact m2; exact g2)); exact rfl) | refine a_go ?_ | (with_reducible apply Fin.thenK; assumption) | (with_reducible (first | apply C.seqK | apply C.regionK); intro _ _) | (apply R.buildSlice0; exact rfl; intro bz) | (apply R.box; exact rfl; (simp only [Value.cells]; rfl); exact rfl; intro bx) | (apply R.alloc; (simp only [Value.cells]; rfl); exact rfl; intro ba) | (apply R.buildSlice; (exact a_prt); exact rfl; exact rfl; (exact a_fills); exact rfl; intro bl) | (refine a_sp ?_ ?_; (intro h; skip; rotate_left; intro h; skip; rotate_left)) | fail))
    (apply R.call; (exact a_evs); exact rfl; exact dread_K (n := n) (ho.mono hM2); rintro _ M2 _ ⟨v5, hv5, rfl, hown5, rfl, rfl⟩)
    obtain ⟨A5, k5, rfl, _, _⟩ := hown5.form
    (repeat' (first | (apply R.step; (apply Ok.move; exact rfl); exact rfl) | (apply R.step; (apply Ok.loadP; exact rfl; exact rfl; exact m2; exact g2); exact rfl) | refine a_go ?_ | (with_reducible apply Fin.thenK; assumption) | (with_reducible (first | apply C.seqK | apply C.regionK); intro _ _) | (apply R.buildSlice0; exact rfl; intro bz) | (apply R.box; exact rfl; (simp only [Value.cells]; rfl); exact rfl; intro bx) | (apply R.alloc; (simp only [Value.cells]; rfl); exact rfl; intro ba) | (apply R.buildSlice; (exact a_prt); exact rfl; exact rfl; (exact a_fills); exact rfl; intro bl) | (refine a_sp ?_ ?_; (intro h; skip; rotate_left; intro h; skip; rotate_left)) | fail))
    apply R.arr (H2 := hv5 ++ (hq ++ (hp ++ H))) (by ((try simp only [List.append_assoc, List.cons_append, List.nil_append, List.append_nil]); exact a_arr))
    apply R.ice (Arr.all _)
    intro M3 hM3 hin5
    have hpl5 := hown5.plIn hin5
    (apply R.call; (exact a_evs); exact rfl; exact rread_KD (n := n) ((hr.mono hM2).mono hM3) (by omega); rintro _ M3 _ ⟨v6, rfl, hpb6, rfl, rfl⟩)
    generalize (readD d n).getD [] = bs at hpb6 hpl5
    generalize (readD d n).isSome = bo
    obtain ⟨A6, k6, rfl, _, _, hpl6⟩ := hpb6
    (repeat' (first | refine a_go ?_ | (with_reducible apply Fin.thenK; assumption) | (with_reducible (first | apply C.seqK | apply C.regionK); intro _ _) | (apply R.buildSlice0; exact rfl; intro bz) | (apply R.box; exact rfl; (simp only [Value.cells]; rfl); exact rfl; intro bx) | (apply R.alloc; (simp only [Value.cells]; rfl); exact rfl; intro ba) | (apply R.buildSlice; (exact a_prt); exact rfl; exact rfl; (exact a_fills); exact rfl; intro bl) | (refine a_sp ?_ ?_; (intro h; skip; rotate_left; intro h; skip; rotate_left)) | fail))
    (apply C.regionT (t := .free 0 (.free 1 (.free 2 (.free 3 (.free 4 (.free 5 (.free 6 (.free 7 (.free 8 (.free 9 (.free 10 (.free 11 (.free 12 (.free 13 (.free 14 (.free 15 .nil)))))))))))))))) (Hs := []); exact Mix.h; (first | exact Arr.all _ | (exact a_arr) | ((try simp only [List.append_assoc, List.cons_append, List.nil_append, List.append_nil]); exact a_arr)); (exact a_np); kernel_rfl)
    (repeat' (first | (apply RT.step; exact rfl; intro _ _ _; (apply Ok.move; exact rfl); exact rfl) | (apply RT.step; exact rfl; intro _ _ hMx; (first | (apply Ok.loadP; exact rfl; exact rfl; exact hMx.2.2 _ _ (hM3.2.2 _ _ m2); exact g2) | (apply Ok.loadP; exact rfl; exact rfl; exact hMx.2.2 _ _ (hM3.2.2 _ _ m1); exact g1) | (apply Ok.neStrS (bs := n); exact rfl; exact rfl)); exact rfl) | (apply RT.stepT; exact rfl; exact rfl; exact rfl; exact rfl; intro _ _ hMx; (first | (apply Ok.toT (bs := bs); exact rfl; exact (hpl5.mono hMx).rd) | (apply Ok.toT (bs := bs); exact rfl; exact (hpl6.mono hMx).rd) | (apply Ok.neStrS (bs := bs); exact rfl; exact rfl)); exact rfl) | (first | (apply RT.step; exact rfl; intro _ _ _; (exact a_ok); exact rfl) | (apply RT.stepT; exact rfl; exact rfl; exact rfl; exact rfl; intro _ _ _; (exact a_ok); exact rfl) | (apply RT.stepF; exact rfl; exact rfl; exact rfl; exact rfl; exact rfl; exact rfl) | (apply RT.stepU; exact rfl; exact rfl; exact rfl; exact rfl; exact rfl) | (apply RT.one; apply OneT.effF; exact rfl; exact rfl; exact rfl; exact rfl; exact rfl; exact rfl) | (apply RT.one; apply OneT.effU; exact rfl; exact rfl; exact rfl; exact rfl; exact rfl))))
    apply RT.nil
    (repeat' (first | refine a_go ?_ | (with_reducible apply Fin.thenK; assumption) | (with_reducible (first | apply C.seqK | apply C.regionK); intro _ _) | (apply R.buildSlice0; exact rfl; intro bz) | (apply R.box; exact rfl; (simp only [Value.cells]; rfl); exact rfl; intro bx) | (apply R.alloc; (simp only [Value.cells]; rfl); exact rfl; intro ba) | (apply R.buildSlice; (exact a_prt); exact rfl; exact rfl; (exact a_fills); exact rfl; intro bl) | (refine a_sp ?_ ?_; (intro h; skip; rotate_left; intro h; skip; rotate_left)) | fail))
    (apply Fin.arr (H2 := hp ++ (hq ++ H)); ((try simp only [List.append_assoc, List.cons_append, List.nil_append, List.append_nil]); exact a_arr))
    refine Fin.again (⟨i + 1, ii + 1, M3⟩ : SdX) ⟨by dsimp only; omega, by dsimp only; omega, hM2.trans_ hM3⟩ (by dsimp only; omega) ?_ rfl rfl
    (exact a_subs)
  have hie : i = N.length := by omega
  (repeat' (first | (apply R.step; (apply Ok.move; exact rfl); exact rfl) | (apply R.step; (first | (apply Ok.ltTr; exact rfl; exact rfl; omega) | (apply Ok.ltF; exact rfl; exact rfl; omega) | (apply Ok.gtTr; exact rfl; exact rfl; omega) | (apply Ok.gtF; exact rfl; exact rfl; omega) | (apply Ok.geTr; exact rfl; exact rfl; omega) | (apply Ok.geF; exact rfl; exact rfl; omega) | (apply Ok.leTr; exact rfl; exact rfl; omega) | (apply Ok.leF; exact rfl; exact rfl; omega) | (apply Ok.neIT; exact rfl; exact rfl; omega) | (apply Ok.eqIF; exact rfl; exact rfl; omega)); exact rfl) | refine a_go ?_ | (with_reducible apply Fin.thenK; assumption) | (with_reducible (first | apply C.seqK | apply C.regionK); intro _ _) | (apply R.buildSlice0; exact rfl; intro bz) | (apply R.box; exact rfl; (simp only [Value.cells]; rfl); exact rfl; intro bx) | (apply R.alloc; (simp only [Value.cells]; rfl); exact rfl; intro ba) | (apply R.buildSlice; (exact a_prt); exact rfl; exact rfl; (exact a_fills); exact rfl; intro bl) | (refine a_sp ?_ ?_; (intro h; skip; rotate_left; intro h; skip; rotate_left)) | fail))
  (apply Fin.returnA (H2 := hp ++ (hq ++ H)); assumption; (first | exact .inl rfl | exact .inr rfl); exact rfl; (exact a_res); (simp only [retv]; rfl); (exact a_arr))
  exact ⟨rfl, hM1.trans_ hM2, by rw [← hX]; rfl⟩
end Go.Sx
end
section
namespace Go.Sx
open Go Go.Proofs Go.RowKit
attribute [local irreducible] C R Fin K Own OwnT Rd Pl Ok KOf RetOk OpsOf RP KP Res NoPanic KV KE
variable {M M' : Mem} {H H1 H2 : Hp}
theorem into_K (x m : Int) (hm : 0 < m) (hm2 : m ≤ 9223372036854775807) : K Tryz.prog 73 [.int .i64 x, .int .i64 m] M H fun v M' H' => v = .int .i64 (x % m) ∧ M' = M ∧ H' = H := by
  obtain ⟨he, h1, h2⟩ := pick_eq x m hm
  refine K.enterK Tryz.func73 rfl rfl rfl ?_
  intro Q hNP hQ
  (repeat' (first | (apply R.step; (exact a_ok); exact rfl) | (first | (with_reducible first | apply R.nil | apply C.ret | apply C.block | apply C.skip | apply C.exit | apply Fin.thenRet | apply Fin.thenExit | apply Fin.blockNormal | apply Fin.blockRet | apply Fin.blockExit) | (with_reducible apply Fin.thenK; assumption) | (with_reducible apply C.seqK; intro _ _) | (with_reducible apply C.regionK; intro _ _) | (with_reducible apply C.regionQK; exact Mix.h; kernel_rfl; intro _ _) | (with_reducible apply Fin.blockOther; exact rfl)) | (first | (apply R.store; exact rfl; exact rfl; exact rfl; (exact a_at); (exact a_blit); exact rfl; (focus (simp [Value.oneCell']; done))) | (apply R.buildSlice0; exact rfl; intro bz) | (apply R.box; exact rfl; (simp only [Value.cells]; rfl); exact rfl; intro bx) | (apply R.alloc; (simp only [Value.cells]; rfl); exact rfl; intro ba) | (apply R.buildSlice; (exact a_prt); exact rfl; exact rfl; (exact a_fills); exact rfl; intro bl)) | (first | (apply R.guardT; assumption; exact rfl; exact rfl; exact rfl) | (apply R.guardF; assumption; exact rfl; exact rfl; exact rfl; exact rfl; exact rfl) | (apply R.guardU; assumption; exact rfl; exact rfl; exact rfl; exact rfl) | (apply R.guardDec; assumption; exact rfl; exact rfl; (intro h; skip; rotate_left; intro h; skip; rotate_left)) | (apply R.guardBeq; assumption; exact rfl; exact rfl; (intro h; skip; rotate_left; intro h; skip; rotate_left)) | (apply R.guardBne; assumption; exact rfl; exact rfl; (intro h; skip; rotate_left; intro h; skip; rotate_left)) | (apply R.guardNDec; assumption; exact rfl; exact rfl; (intro h; skip; rotate_left; intro h; skip; rotate_left)) | (apply R.guardNot; assumption; exact rfl; exact rfl; (intro h; skip; rotate_left; intro h; skip; rotate_left)) | (apply R.guardC; assumption; exact rfl; exact rfl; (intro h; skip; rotate_left; intro h; skip; rotate_left))) | (first | (apply C.condT; exact rfl) | (apply C.condF; exact rfl) | (apply C.condDec; exact rfl; (intro h; skip; rotate_left; intro h; skip; rotate_left)) | (apply C.condBeq; exact rfl; (intro h; skip; rotate_left; intro h; skip; rotate_left)) | (apply C.condBne; exact rfl; (intro h; skip; rotate_left; intro h; skip; rotate_left)) | (apply C.condNDec; exact rfl; (intro h; skip; rotate_left; intro h; skip; rotate_left)) | (apply C.condNot; exact rfl; (intro h; skip; rotate_left; intro h; skip; rotate_left)) | (apply C.cond; exact rfl; (intro h; skip; rotate_left; intro h; skip; rotate_left)))))
  · (refine Fin.rt ?_)
    have h : x.tmod m < 0 := by assumption
    exact ⟨by rw [← he, if_pos h], rfl, rfl⟩
  · (refine Fin.rt ?_)
    have h : ¬ x.tmod m < 0 := by assumption
    exact ⟨by rw [← he, if_neg h], rfl, rfl⟩
end Go.Sx
end
section
namespace Go.Sx
open Go Go.Proofs Go.RowKit
attribute [local irreducible] C R Fin K Own OwnT Rd Pl Ok KOf RetOk OpsOf RP KP Res NoPanic KV KE MapS ItS EntS FsO FsR RowD PlD
variable {M M' : Mem} {H H1 H2 : Hp}
theorem fuse_K {db sb nb : Nat} {room fuse n : Int} {pv : Value} {down : Bool} : K Tryz.prog 24 [.pointer (some ⟨db, 0, none⟩), .int .i64 n] M ((db, dkB room sb nb pv fuse down) :: H) fun v' M' H' => v' = .tuple #[] ∧ M' = M ∧ H' = (db, dkB room sb nb pv (max n (-1)) down) :: H := by
  refine K.enterK Tryz.func24 rfl rfl rfl ?_
  intro Q hNP hQ
  unfold dkB at hQ ⊢
  (repeat' (first | (apply R.step; (apply Ok.move; exact rfl); exact rfl) | (apply R.step; (apply Ok.maxI; exact rfl; exact rfl); exact rfl) | refine a_go ?_ | (with_reducible apply Fin.thenK; assumption) | (with_reducible (first | apply C.seqK | apply C.regionK); intro _ _) | (apply R.buildSlice0; exact rfl; intro bz) | (apply R.box; exact rfl; (simp only [Value.cells]; rfl); exact rfl; intro bx) | (apply R.alloc; (simp only [Value.cells]; rfl); exact rfl; intro ba) | (apply R.buildSlice; (exact a_prt); exact rfl; exact rfl; (exact a_fills); exact rfl; intro bl) | (refine a_sp ?_ ?_; (intro h; skip; rotate_left; intro h; skip; rotate_left)) | fail))
  (refine Fin.rt ?_)
  exact ⟨rfl, rfl, rfl⟩
theorem fuse_KD {db : Nat} {d : Dk} {hp : Hp} {n : Int} (hn : n ≤ 4611686018427387904) (ho : DkO M db d hp) : K Tryz.prog 24 [.pointer (some ⟨db, 0, none⟩), .int .i64 n] M (hp ++ H) fun v' M' H' => v' = .tuple #[] ∧ M' = M ∧ ∃ hp', DkO M db { d with fuse := max n (-1) } hp' ∧ H' = hp' ++ H := by
  obtain ⟨h0, sb, nb, so, no, pv, hr, h1, h2, h3, rfl⟩ := ho
  refine fuse_K.mono ?_
  rintro _ _ _ ⟨rfl, rfl, rfl⟩
  exact ⟨rfl, rfl, _, ⟨⟨h0.1, ⟨by show -1 ≤ max n (-1); omega, by show max n (-1) ≤ _; omega⟩, h0.2.2⟩, sb, nb, so, no, pv, hr, h1, h2, h3, rfl⟩, rfl⟩
end Go.Sx
end
section
namespace Go.Sx
open Go Go.Proofs Go.RowKit
attribute [local irreducible] C R Fin K Own OwnT Rd Pl Ok KOf RetOk OpsOf RP KP Res NoPanic KV KE MapS ItS EntS FsO FsR RowD PlD DkO PlFs RT KT OneT RS KS OneS RdO
variable {M M' : Mem} {H H1 H2 : Hp}
theorem rfuse_K {rb : Nat} {d : Dk} {hp : Hp} {n : Int} (hn0 : 0 ≤ n) (hn : n ≤ 4611686018427387904) (ho : RdO M rb d hp) : K Tryz.prog 25 [.pointer (some ⟨rb, 0, none⟩), .int .i64 n] M (hp ++ H) fun v' M' H' => v' = .tuple #[] ∧ M' = M ∧ ∃ hp', RdO M rb { d with fuse := max n (-1) } hp' ∧ H' = hp' ++ H := by
  refine K.enterK Tryz.func25 rfl rfl rfl ?_
  intro Q hNP hQ
  unfold RdO at ho
  obtain ⟨⟨F, G, sv, nv, wv, fused, fuse⟩, hi, rfl⟩ := ho
  have hm1 : max n (-1) = n := by omega
  have hm0 : max (0 : Int) n = n := by omega
  rw [hm1] at hQ
  dsimp only
  unfold rdkB
  (repeat' (first | (apply R.step; (apply Ok.move; exact rfl); exact rfl) | (apply R.step; (first | (apply Ok.ltTr; exact rfl; exact rfl; omega) | (apply Ok.ltF; exact rfl; exact rfl; omega) | (apply Ok.gtTr; exact rfl; exact rfl; omega) | (apply Ok.gtF; exact rfl; exact rfl; omega) | (apply Ok.geTr; exact rfl; exact rfl; omega) | (apply Ok.geF; exact rfl; exact rfl; omega) | (apply Ok.leTr; exact rfl; exact rfl; omega) | (apply Ok.leF; exact rfl; exact rfl; omega) | (apply Ok.neIT; exact rfl; exact rfl; omega) | (apply Ok.eqIF; exact rfl; exact rfl; omega)); exact rfl) | refine a_go ?_ | (with_reducible apply Fin.thenK; assumption) | (with_reducible (first | apply C.seqK | apply C.regionK); intro _ _) | (apply R.buildSlice0; exact rfl; intro bz) | (apply R.box; exact rfl; (simp only [Value.cells]; rfl); exact rfl; intro bx) | (apply R.alloc; (simp only [Value.cells]; rfl); exact rfl; intro ba) | (apply R.buildSlice; (exact a_prt); exact rfl; exact rfl; (exact a_fills); exact rfl; intro bl) | (refine a_sp ?_ ?_; (intro h; skip; rotate_left; intro h; skip; rotate_left)) | fail))
  (apply Fin.returnA (H2 := [(rb, rdkB d.room sv nv wv true (max 0 n) d.down)] ++ H); assumption; (first | exact .inl rfl | exact .inr rfl); exact rfl; (exact a_res); (simp only [retv]; rfl); (exact a_arr))
  rw [hm0]
  exact ⟨rfl, rfl, _, RdO.of (d := { d with fuse := n }) (x := ⟨F, G, sv, nv, wv, true, n⟩) ⟨⟨hi.ok.1, ⟨by dsimp only; omega, hn⟩, hi.ok.2.2.1, hi.ok.2.2.2⟩, hi.sF, hi.nG, hi.pS, hi.pN, hi.srtF, hi.srtG, hi.w, rfl, fun _ => hn0⟩, rfl⟩
theorem room_KD {db : Nat} {d : Dk} {hp : Hp} {n : Int} (hn0 : 0 ≤ n) (hn : n ≤ 1048576) (ho : DkO M db d hp) : K Tryz.prog 27 [.pointer (some ⟨db, 0, none⟩), .int .i64 n] M (hp ++ H) fun v' M' H' => v' = .int .i64 0 ∧ M' = M ∧ ∃ hp', DkO M db { d with room := n } hp' ∧ H' = hp' ++ H := by
  refine K.enterK Tryz.func27 rfl rfl rfl ?_
  intro Q hNP hQ
  unfold DkO at ho
  obtain ⟨h0, sb, nb, so, no, pv, hr, h1, h2, h3, rfl⟩ := ho
  unfold dkB
  (repeat' (first | (apply R.step; (apply Ok.move; exact rfl); exact rfl) | (apply R.step; (first | (apply Ok.ltTr; exact rfl; exact rfl; omega) | (apply Ok.ltF; exact rfl; exact rfl; omega) | (apply Ok.gtTr; exact rfl; exact rfl; omega) | (apply Ok.gtF; exact rfl; exact rfl; omega) | (apply Ok.geTr; exact rfl; exact rfl; omega) | (apply Ok.geF; exact rfl; exact rfl; omega) | (apply Ok.leTr; exact rfl; exact rfl; omega) | (apply Ok.leF; exact rfl; exact rfl; omega) | (apply Ok.neIT; exact rfl; exact rfl; omega) | (apply Ok.eqIF; exact rfl; exact rfl; omega)); exact rfl) | refine a_go ?_ | (with_reducible apply Fin.thenK; assumption) | (with_reducible (first | apply C.seqK | apply C.regionK); intro _ _) | (apply R.buildSlice0; exact rfl; intro bz) | (apply R.box; exact rfl; (simp only [Value.cells]; rfl); exact rfl; intro bx) | (apply R.alloc; (simp only [Value.cells]; rfl); exact rfl; intro ba) | (apply R.buildSlice; (exact a_prt); exact rfl; exact rfl; (exact a_fills); exact rfl; intro bl) | (refine a_sp ?_ ?_; (intro h; skip; rotate_left; intro h; skip; rotate_left)) | fail))
  (apply Fin.returnA (H2 := ((db, dkB n sb nb pv d.fuse d.down) :: (nb, no) :: (sb, so) :: hr) ++ H); assumption; (first | exact .inl rfl | exact .inr rfl); exact rfl; (exact a_res); (simp only [retv]; rfl); (exact a_arr))
  refine ⟨rfl, rfl, _, ?_, rfl⟩
  unfold DkO
  exact ⟨⟨⟨hn0, hn⟩, h0.2.1, h0.2.2.1, h0.2.2.2⟩, sb, nb, so, no, pv, hr, h1, h2, h3, rfl⟩
theorem rcrash_K {rb : Nat} {d : Dk} {hp : Hp} {keep torn : Int} (ho : RdO M rb d hp) (hln : szD d ≤ 1000000) : K Tryz.prog 26 [.pointer (some ⟨rb, 0, none⟩), .int .i64 keep, .int .i64 torn] M (hp ++ H) fun v' M' H' => v' = .int .i64 (keepD d keep : Int) ∧ M.le M' ∧ ∃ hp', RdO M' rb (crashD d keep torn) hp' ∧ H' = hp' ++ H := by
  refine K.enterK Tryz.func26 rfl rfl rfl ?_
  intro Q hNP hQ
  have hok := ho.isok
  have hln' := hln
  unfold szD at hln'
  unfold RdO at ho
  obtain ⟨⟨F, G, sv, nv, wv, fused, fuse⟩, hi, rfl⟩ := ho
  have hw := hi.w
  have hsF := hi.sF
  have hpS := hi.pS
  have hsrt := hi.srtF
  dsimp only at hw hsF hpS hsrt ⊢
  obtain ⟨A, cap, rfl, w1, w2, _⟩ := id hw
  obtain ⟨A0, k0, es0, hsv, hsv2⟩ := hsF.form
  have hk0 : 0 ≤ keep % ((d.ps.length + 1 : Nat) : Int) := Int.emod_nonneg _ (by omega)
  have hk1 : keep % ((d.ps.length + 1 : Nat) : Int) < ((d.ps.length + 1 : Nat) : Int) := Int.emod_lt_of_pos _ (by omega)
  obtain ⟨k, hk⟩ : ∃ k, k = keepD d keep := ⟨_, rfl⟩
  have hkk : keep % ((d.ps.length + 1 : Nat) : Int) = (k : Int) := by rw [hk]; unfold keepD; omega
  have hkl : k ≤ d.ps.length := by omega
  unfold rdkB
  (repeat' (first | refine a_go ?_ | (with_reducible apply Fin.thenK; assumption) | (with_reducible (first | apply C.seqK | apply C.regionK); intro _ _) | (apply R.buildSlice0; exact rfl; intro bz) | (apply R.box; exact rfl; (simp only [Value.cells]; rfl); exact rfl; intro bx) | (apply R.alloc; (simp only [Value.cells]; rfl); exact rfl; intro ba) | (apply R.buildSlice; (exact a_prt); exact rfl; exact rfl; (exact a_fills); exact rfl; intro bl) | (refine a_sp ?_ ?_; (intro h; skip; rotate_left; intro h; skip; rotate_left)) | fail))
  (apply R.call; (exact a_evs); exact rfl; exact into_K keep ((d.ps.length : Int) + 1) (by omega) (by omega); rintro _ M1 _ ⟨rfl, rfl, rfl⟩)
  rw [show (d.ps.length : Int) + 1 = ((d.ps.length + 1 : Nat) : Int) by omega, hkk]
  have hfl : ∀ i, ((d.ps.take i).foldl doneF F).length ≤ 1000000 := fun i => by
    have h1 := (foldl_done_perm (ps := d.ps.take i) hsrt hpS).length_eq
    have h2 := fold_length (d.ps.take i) d.S
    rw [List.length_take] at h2
    omega
  have hsm : ∀ i, i ≤ d.ps.length → sumF ((d.ps.take i).foldl doneF F) ≤ 1048576 := fun i hi => by
    rw [sumF_perm (foldl_done_perm (ps := d.ps.take i) hsrt hpS)]
    exact Runs.sumAt hok.2.2.1 hok.2.2.2 i
  have hnS : (keyS d.S).Nodup := (hpS.map Prod.fst).nodup_iff.1 hsrt.nodup
  (repeat' (first | (apply R.step; (exact a_ok); exact rfl) | (first | (with_reducible first | apply R.nil | apply C.ret | apply C.block | apply C.skip | apply C.exit | apply Fin.thenRet | apply Fin.thenExit | apply Fin.blockNormal | apply Fin.blockRet | apply Fin.blockExit) | (with_reducible apply Fin.thenK; assumption) | (with_reducible apply C.seqR; intro _ _) | (with_reducible apply C.regionK; intro _ _) | (with_reducible apply Fin.blockOther; exact rfl)) | (first | (apply R.store; exact rfl; exact rfl; exact rfl; (exact a_at); (exact a_blit); exact rfl; (focus (simp [Value.oneCell']; done))) | (apply R.buildSlice0; exact rfl; intro bz) | (apply R.box; exact rfl; (simp only [Value.cells]; rfl); exact rfl; intro bx) | (apply R.alloc; (simp only [Value.cells]; rfl); exact rfl; intro ba) | (apply R.buildSlice; (exact a_prt); exact rfl; exact rfl; (exact a_fills); exact rfl; intro bl)) | (first | (apply R.guardT; assumption; exact rfl; exact rfl; exact rfl) | (apply R.guardF; assumption; exact rfl; exact rfl; exact rfl; exact rfl; exact rfl) | (apply R.guardU; assumption; exact rfl; exact rfl; exact rfl; exact rfl) | (apply R.guardDec; assumption; exact rfl; exact rfl; (intro h; skip; rotate_left; intro h; skip; rotate_left)) | (apply R.guardBeq; assumption; exact rfl; exact rfl; (intro h; skip; rotate_left; intro h; skip; rotate_left)) | (apply R.guardBne; assumption; exact rfl; exact rfl; (intro h; skip; rotate_left; intro h; skip; rotate_left)) | (apply R.guardNDec; assumption; exact rfl; exact rfl; (intro h; skip; rotate_left; intro h; skip; rotate_left)) | (apply R.guardNot; assumption; exact rfl; exact rfl; (intro h; skip; rotate_left; intro h; skip; rotate_left)) | (apply R.guardC; assumption; exact rfl; exact rfl; (intro h; skip; rotate_left; intro h; skip; rotate_left)))))
  apply C.seqCut (X := RcY) (fun y => M1.le y.M ∧ PlFs y.M y.v ((d.ps.take k).foldl doneF F)) (fun y => [(0, .pointer (some ⟨rb, 0, none⟩)), (2, .int .i64 torn), (7, .int .i64 (k : Int)), (8, y.v)]) (fun y => y.M) (fun _ => [(rb, .cells [.int .i64 d.room, sv, nv, .slice A d.ps.length cap, .bool fused, .int .i64 fuse, .bool d.down].toArray 57 (0, 0))] ++ H)
  · (repeat' (first | refine a_go ?_ | (with_reducible apply Fin.thenK; assumption) | (with_reducible (first | apply C.seqK | apply C.regionK); intro _ _) | (apply R.buildSlice0; exact rfl; intro bz) | (apply R.box; exact rfl; (simp only [Value.cells]; rfl); exact rfl; intro bx) | (apply R.alloc; (simp only [Value.cells]; rfl); exact rfl; intro ba) | (apply R.buildSlice; (exact a_prt); exact rfl; exact rfl; (exact a_fills); exact rfl; intro bl) | (refine a_sp ?_ ?_; (intro h; skip; rotate_left; intro h; skip; rotate_left)) | fail))
    apply C.loop (fun y : RcX => (y.i : Int) = y.ii ∧ y.i ≤ k ∧ M1.le y.M ∧ PlFs y.M y.v ((d.ps.take y.i).foldl doneF F))
      (fun y => [(0, .pointer (some ⟨rb, 0, none⟩)), (2, .int .i64 torn), (7, .int .i64 (k : Int)), (8, y.v), (9, .int .i64 y.ii)]) (fun y => y.M) (fun y => [(rb, .cells [.int .i64 d.room, sv, nv, .slice A d.ps.length cap, .bool fused, .int .i64 fuse, .bool d.down].toArray 57 (0, 0))] ++ H) (fun y => k - y.i) ⟨0, 0, F, sv, M1⟩
    · exact ⟨rfl, Nat.zero_le _, Mem.le_refl _, hsF⟩
    · (exact a_subs)
    · exact rfl
    · exact rfl
    rintro ⟨i, ii, _, v, M2⟩ ⟨hii, hik, hM2, hf⟩
    dsimp only at hii hik hM2 hf ⊢
    by_cases hlt : i < k
    · have hip : i < d.ps.length := by omega
      obtain ⟨b0, o0, cc, e0, f0, dc, rfl, hMb, hdc, hcell⟩ := (hw.mono hM2).at hip
      have hfit := hok.2.2.2.at hip
      have hc5 := hdc.cells
      obtain ⟨c0, d1, d2, d3, d4, rfl⟩ : ∃ c0 c1 c2 c3 c4, dc = [c0, c1, c2, c3, c4] := by
        match dc, hc5.1 with
        | [a, b, c, d, e], _ => exact ⟨a, b, c, d, e, rfl⟩
      have hcell2 : ∀ (q : Nat) u, [c0, d1, d2, d3, d4][q]? = some u → cc[o0 + ii.toNat * 5 + q]? = some u := fun q u hq => by
        rw [show ii.toNat = i by omega]
        exact hcell q u hq
      clear hcell
      (repeat' (first | (apply R.step; (apply Ok.move; exact rfl); exact rfl) | (apply R.step; (first | (apply Ok.ltTr; exact rfl; exact rfl; omega) | (apply Ok.loadAggP (vs := [c0, d1, d2, d3, d4]); exact rfl; exact rfl; exact hMb; exact rfl; exact hcell2)); exact rfl) | refine a_go ?_ | (with_reducible apply Fin.thenK; assumption) | (with_reducible (first | apply C.seqK | apply C.regionK); intro _ _) | (apply R.buildSlice0; exact rfl; intro bz) | (apply R.box; exact rfl; (simp only [Value.cells]; rfl); exact rfl; intro bx) | (apply R.alloc; (simp only [Value.cells]; rfl); exact rfl; intro ba) | (apply R.buildSlice; (exact a_prt); exact rfl; exact rfl; (exact a_fills); exact rfl; intro bl) | (refine a_sp ?_ ?_; (intro h; skip; rotate_left; intro h; skip; rotate_left)) | fail))
      (apply R.call; (exact a_evs); exact rfl; exact rdone_K (c := [c0, d1, d2, d3, d4]) hf (hfl i) (hsm i (by omega)) hdc (smallX_perm (foldl_done_srt hsrt) (foldl_done_perm hsrt hpS) (hfit.small (foldl_nodup hnS))); rintro v3 M3 _ ⟨hf3, hM3, rfl⟩)
      (repeat' (first | refine a_go ?_ | (with_reducible apply Fin.thenK; assumption) | (with_reducible (first | apply C.seqK | apply C.regionK); intro _ _) | (apply R.buildSlice0; exact rfl; intro bz) | (apply R.box; exact rfl; (simp only [Value.cells]; rfl); exact rfl; intro bx) | (apply R.alloc; (simp only [Value.cells]; rfl); exact rfl; intro ba) | (apply R.buildSlice; (exact a_prt); exact rfl; exact rfl; (exact a_fills); exact rfl; intro bl) | (refine a_sp ?_ ?_; (intro h; skip; rotate_left; intro h; skip; rotate_left)) | fail))
      refine Fin.again (⟨i + 1, ii + 1, F, v3, M3⟩ : RcX) ⟨by dsimp only; omega, by dsimp only; omega, hM2.trans_ hM3, ?_⟩ (by dsimp only; omega) ?_ rfl rfl
      · dsimp only
        rw [List.take_succ_eq_append_getElem hip, List.foldl_append]
        exact hf3
      · (exact a_subs)
    have hie : i = k := by omega
    subst hie
    (repeat' (first | (apply R.step; (apply Ok.move; exact rfl); exact rfl) | (apply R.step; (first | (apply Ok.ltTr; exact rfl; exact rfl; omega) | (apply Ok.ltF; exact rfl; exact rfl; omega) | (apply Ok.gtTr; exact rfl; exact rfl; omega) | (apply Ok.gtF; exact rfl; exact rfl; omega) | (apply Ok.geTr; exact rfl; exact rfl; omega) | (apply Ok.geF; exact rfl; exact rfl; omega) | (apply Ok.leTr; exact rfl; exact rfl; omega) | (apply Ok.leF; exact rfl; exact rfl; omega) | (apply Ok.neIT; exact rfl; exact rfl; omega) | (apply Ok.eqIF; exact rfl; exact rfl; omega)); exact rfl) | refine a_go ?_ | (with_reducible apply Fin.thenK; assumption) | (with_reducible (first | apply C.seqK | apply C.regionK); intro _ _) | (apply R.buildSlice0; exact rfl; intro bz) | (apply R.box; exact rfl; (simp only [Value.cells]; rfl); exact rfl; intro bx) | (apply R.alloc; (simp only [Value.cells]; rfl); exact rfl; intro ba) | (apply R.buildSlice; (exact a_prt); exact rfl; exact rfl; (exact a_fills); exact rfl; intro bl) | (refine a_sp ?_ ?_; (intro h; skip; rotate_left; intro h; skip; rotate_left)) | fail))
    refine Fin.join (⟨F, v, M2⟩ : RcY) ⟨hM2, hf⟩ ?_ rfl rfl
    (exact a_subs)
  rintro ⟨_, v, M2⟩ ⟨hM2, hf⟩
  dsimp only at hM2 hf ⊢
  have hs0 := foldl_done_srt (ps := d.ps.take k) hsrt
  have hp0 := foldl_done_perm (ps := d.ps.take k) hsrt hpS
  have hl0 := hfl k
  have hm0 := hsm k hkl
  have hno : d.ps.length ≤ k → crashF d keep torn = (d.ps.take k).foldl doF d.S := fun h => by
    unfold crashF
    rw [← hk, List.getElem?_eq_none h]
  have hyes : ∀ (h : k < d.ps.length), crashF d keep torn = tornF ((d.ps.take k).foldl doF d.S) d.ps[k] torn := fun h => by
    unfold crashF
    rw [← hk, List.getElem?_eq_getElem h]
  have hnp : (keyS ((d.ps.take k).foldl doF d.S)).Nodup := foldl_nodup hnS
  have hcs : sumF (crashF d keep torn) ≤ 1048576 := by
    by_cases hip : k < d.ps.length
    · rw [hyes hip]
      exact torn_sum hnp (Runs.sumAt hok.2.2.1 hok.2.2.2 k) (hok.2.2.2.at hip)
    · rw [hno (by omega)]
      exact Runs.sumAt hok.2.2.1 hok.2.2.2 k
  generalize (d.ps.take k).foldl doneF F = G0 at hf hs0 hp0 hl0 hm0
  (repeat' (first | (apply R.step; (exact a_ok); exact rfl) | (first | (with_reducible first | apply R.nil | apply C.ret | apply C.block | apply C.skip | apply C.exit | apply Fin.thenRet | apply Fin.thenExit | apply Fin.blockNormal | apply Fin.blockRet | apply Fin.blockExit) | (with_reducible apply Fin.thenK; assumption) | (with_reducible apply C.seqR; intro _ _) | (with_reducible apply C.regionK; intro _ _) | (with_reducible apply Fin.blockOther; exact rfl)) | (first | (apply R.store; exact rfl; exact rfl; exact rfl; (exact a_at); (exact a_blit); exact rfl; (focus (simp [Value.oneCell']; done))) | (apply R.buildSlice0; exact rfl; intro bz) | (apply R.box; exact rfl; (simp only [Value.cells]; rfl); exact rfl; intro bx) | (apply R.alloc; (simp only [Value.cells]; rfl); exact rfl; intro ba) | (apply R.buildSlice; (exact a_prt); exact rfl; exact rfl; (exact a_fills); exact rfl; intro bl)) | (first | (apply R.guardT; assumption; exact rfl; exact rfl; exact rfl) | (apply R.guardF; assumption; exact rfl; exact rfl; exact rfl; exact rfl; exact rfl) | (apply R.guardU; assumption; exact rfl; exact rfl; exact rfl; exact rfl) | (apply R.guardDec; assumption; exact rfl; exact rfl; (intro h; skip; rotate_left; intro h; skip; rotate_left)) | (apply R.guardBeq; assumption; exact rfl; exact rfl; (intro h; skip; rotate_left; intro h; skip; rotate_left)) | (apply R.guardBne; assumption; exact rfl; exact rfl; (intro h; skip; rotate_left; intro h; skip; rotate_left)) | (apply R.guardNDec; assumption; exact rfl; exact rfl; (intro h; skip; rotate_left; intro h; skip; rotate_left)) | (apply R.guardNot; assumption; exact rfl; exact rfl; (intro h; skip; rotate_left; intro h; skip; rotate_left)) | (apply R.guardC; assumption; exact rfl; exact rfl; (intro h; skip; rotate_left; intro h; skip; rotate_left)))))
  apply C.seqCut (X := RcY) (fun y => M1.le y.M ∧ PlFs y.M y.v y.F ∧ Srt y.F ∧ y.F.Perm (crashF d keep torn)) (fun y => [(0, .pointer (some ⟨rb, 0, none⟩)), (7, .int .i64 (k : Int)), (8, y.v)]) (fun y => y.M) (fun _ => [(rb, .cells [.int .i64 d.room, sv, nv, .slice A d.ps.length cap, .bool fused, .int .i64 fuse, .bool d.down].toArray 57 (0, 0))] ++ H)
  · by_cases hip : k < d.ps.length
    · rw [hyes hip]
      have hfit := hok.2.2.2.at hip
      obtain ⟨b0, o0, cc, e0, f0, dc, rfl, hMb, hdc, hcell⟩ := (hw.mono hM2).at hip
      have hcell2 : ∀ (q : Nat) u, dc[q]? = some u → cc[o0 + ((k : Nat) : Int).toNat * 5 + q]? = some u := fun q u hq => hcell q u hq
      clear hcell hyes hno hcs
      generalize d.ps[k] = x at hdc hfit ⊢
      cases x with
      | trc n kk =>
        cases hdc
        (repeat' (first | (apply R.step; (apply Ok.move; exact rfl); exact rfl) | (apply R.step; (first | (apply Ok.ltTr; exact rfl; exact rfl; omega) | (apply Ok.loadP; exact rfl; exact rfl; exact hMb; exact hcell2 0 _ rfl)); exact rfl) | refine a_go ?_ | (with_reducible apply Fin.thenK; assumption) | (with_reducible (first | apply C.seqK | apply C.regionK); intro _ _) | (apply R.buildSlice0; exact rfl; intro bz) | (apply R.box; exact rfl; (simp only [Value.cells]; rfl); exact rfl; intro bx) | (apply R.alloc; (simp only [Value.cells]; rfl); exact rfl; intro ba) | (apply R.buildSlice; (exact a_prt); exact rfl; exact rfl; (exact a_fills); exact rfl; intro bl) | (refine a_sp ?_ ?_; (intro h; skip; rotate_left; intro h; skip; rotate_left)) | fail))
        refine Fin.join (⟨G0, v, M2⟩ : RcY) ⟨hM2, hf, hs0, hp0⟩ ?_ rfl rfl
        (exact a_subs)
      | ren n t =>
        cases hdc
        (repeat' (first | (apply R.step; (apply Ok.move; exact rfl); exact rfl) | (apply R.step; (first | (apply Ok.ltTr; exact rfl; exact rfl; omega) | (apply Ok.loadP; exact rfl; exact rfl; exact hMb; exact hcell2 0 _ rfl)); exact rfl) | refine a_go ?_ | (with_reducible apply Fin.thenK; assumption) | (with_reducible (first | apply C.seqK | apply C.regionK); intro _ _) | (apply R.buildSlice0; exact rfl; intro bz) | (apply R.box; exact rfl; (simp only [Value.cells]; rfl); exact rfl; intro bx) | (apply R.alloc; (simp only [Value.cells]; rfl); exact rfl; intro ba) | (apply R.buildSlice; (exact a_prt); exact rfl; exact rfl; (exact a_fills); exact rfl; intro bl) | (refine a_sp ?_ ?_; (intro h; skip; rotate_left; intro h; skip; rotate_left)) | fail))
        refine Fin.join (⟨G0, v, M2⟩ : RcY) ⟨hM2, hf, hs0, hp0⟩ ?_ rfl rfl
        (exact a_subs)
      | rem n =>
        cases hdc
        (repeat' (first | (apply R.step; (apply Ok.move; exact rfl); exact rfl) | (apply R.step; (first | (apply Ok.ltTr; exact rfl; exact rfl; omega) | (apply Ok.loadP; exact rfl; exact rfl; exact hMb; exact hcell2 0 _ rfl)); exact rfl) | refine a_go ?_ | (with_reducible apply Fin.thenK; assumption) | (with_reducible (first | apply C.seqK | apply C.regionK); intro _ _) | (apply R.buildSlice0; exact rfl; intro bz) | (apply R.box; exact rfl; (simp only [Value.cells]; rfl); exact rfl; intro bx) | (apply R.alloc; (simp only [Value.cells]; rfl); exact rfl; intro ba) | (apply R.buildSlice; (exact a_prt); exact rfl; exact rfl; (exact a_fills); exact rfl; intro bl) | (refine a_sp ?_ ?_; (intro h; skip; rotate_left; intro h; skip; rotate_left)) | fail))
        refine Fin.join (⟨G0, v, M2⟩ : RcY) ⟨hM2, hf, hs0, hp0⟩ ?_ rfl rfl
        (exact a_subs)
      | app n b =>
        obtain ⟨fv, hce, hb⟩ := hdc
        subst hce
        obtain ⟨Ab, cb, rfl, q1, q2, q3⟩ := hb
        have hbs := hfit.small hnp
        change b.length ≤ 1048576 at hbs
        by_cases hb0 : b.length = 0
        · have hT : tornF ((d.ps.take k).foldl doF d.S) (.app n b) torn = (d.ps.take k).foldl doF d.S := if_neg (fun h => by omega)
          (repeat' (first | (apply R.step; (apply Ok.move; exact rfl); exact rfl) | (apply R.step; (first | (apply Ok.ltTr; exact rfl; exact rfl; omega) | (apply Ok.gtF; exact rfl; exact rfl; omega) | (apply Ok.loadP; exact rfl; exact rfl; exact hMb; exact hcell2 0 _ rfl) | (apply Ok.loadP; exact rfl; exact rfl; exact hMb; exact hcell2 3 _ rfl)); exact rfl) | refine a_go ?_ | (with_reducible apply Fin.thenK; assumption) | (with_reducible (first | apply C.seqK | apply C.regionK); intro _ _) | (apply R.buildSlice0; exact rfl; intro bz) | (apply R.box; exact rfl; (simp only [Value.cells]; rfl); exact rfl; intro bx) | (apply R.alloc; (simp only [Value.cells]; rfl); exact rfl; intro ba) | (apply R.buildSlice; (exact a_prt); exact rfl; exact rfl; (exact a_fills); exact rfl; intro bl) | (refine a_sp ?_ ?_; (intro h; skip; rotate_left; intro h; skip; rotate_left)) | fail))
          refine Fin.join (⟨G0, v, M2⟩ : RcY) ⟨hM2, hf, hs0, by dsimp only; rw [hT]; exact hp0⟩ ?_ rfl rfl
          (exact a_subs)
        · have ht0 : 0 ≤ torn % (b.length : Int) := Int.emod_nonneg _ (by omega)
          have ht1 : torn % (b.length : Int) < (b.length : Int) := Int.emod_lt_of_pos _ (by omega)
          obtain ⟨t, ht⟩ : ∃ t : Nat, torn % (b.length : Int) = (t : Int) := ⟨_, (Int.toNat_of_nonneg ht0).symm⟩
          have hagg : ∀ (q : Nat) u, [Value.int .i64 0, str n, str [], Value.slice Ab b.length cb, Value.int .i64 0][q]? = some u → cc[o0 + ((k : Nat) : Int).toNat * 5 + q]? = some u := fun q u hq => hcell2 q u hq
          (repeat' (first | (apply R.step; (apply Ok.move; exact rfl); exact rfl) | (apply R.step; (first | (apply Ok.ltTr; exact rfl; exact rfl; omega) | (apply Ok.gtTr; exact rfl; exact rfl; omega) | (apply Ok.loadAggP (vs := [Value.int .i64 0, str n, str [], Value.slice Ab b.length cb, Value.int .i64 0]); exact rfl; exact rfl; exact hMb; exact rfl; exact hagg) | (apply Ok.loadP; exact rfl; exact rfl; exact hMb; exact hcell2 0 _ rfl) | (apply Ok.loadP; exact rfl; exact rfl; exact hMb; exact hcell2 3 _ rfl)); exact rfl) | refine a_go ?_ | (with_reducible apply Fin.thenK; assumption) | (with_reducible (first | apply C.seqK | apply C.regionK); intro _ _) | (apply R.buildSlice0; exact rfl; intro bz) | (apply R.box; exact rfl; (simp only [Value.cells]; rfl); exact rfl; intro bx) | (apply R.alloc; (simp only [Value.cells]; rfl); exact rfl; intro ba) | (apply R.buildSlice; (exact a_prt); exact rfl; exact rfl; (exact a_fills); exact rfl; intro bl) | (refine a_sp ?_ ?_; (intro h; skip; rotate_left; intro h; skip; rotate_left)) | fail))
          (apply R.store (vs := [Value.int .i64 0, str n, str [], Value.slice Ab b.length cb, Value.int .i64 0]); exact rfl; exact rfl; exact rfl; (exact a_at); (exact a_blit); exact rfl; (intro u hu; simp only [List.mem_cons, List.not_mem_nil, or_false] at hu; rcases hu with rfl | rfl | rfl | rfl | rfl <;> rfl))
          (repeat' (first | refine a_go ?_ | (with_reducible apply Fin.thenK; assumption) | (with_reducible (first | apply C.seqK | apply C.regionK); intro _ _) | (apply R.buildSlice0; exact rfl; intro bz) | (apply R.box; exact rfl; (simp only [Value.cells]; rfl); exact rfl; intro bx) | (apply R.alloc; (simp only [Value.cells]; rfl); exact rfl; intro ba) | (apply R.buildSlice; (exact a_prt); exact rfl; exact rfl; (exact a_fills); exact rfl; intro bl) | (refine a_sp ?_ ?_; (intro h; skip; rotate_left; intro h; skip; rotate_left)) | fail))
          (apply R.call; (exact a_evs); exact rfl; exact into_K torn (b.length : Int) (by omega) (by omega); rintro _ M3 _ ⟨rfl, rfl, rfl⟩)
          rw [ht]
          have hTn : (torn % (b.length : Int)).toNat = t := by omega
          by_cases htp : 0 < t
          · have hT : tornF ((d.ps.take k).foldl doF d.S) (.app n b) torn = doF ((d.ps.take k).foldl doF d.S) (.app n (b.take t)) := by
              unfold tornF
              dsimp only
              rw [hTn, if_pos (by omega)]
            (repeat' (first | (apply R.step; (apply Ok.move; exact rfl); exact rfl) | (apply R.step; (first | (apply Ok.gtTr; exact rfl; exact rfl; omega) | (apply Ok.sliceHi; exact rfl; exact rfl; omega; omega)); exact rfl) | refine a_go ?_ | (with_reducible apply Fin.thenK; assumption) | (with_reducible (first | apply C.seqK | apply C.regionK); intro _ _) | (apply R.buildSlice0; exact rfl; intro bz) | (apply R.box; exact rfl; (simp only [Value.cells]; rfl); exact rfl; intro bx) | (apply R.alloc; (simp only [Value.cells]; rfl); exact rfl; intro ba) | (apply R.buildSlice; (exact a_prt); exact rfl; exact rfl; (exact a_fills); exact rfl; intro bl) | (refine a_sp ?_ ?_; (intro h; skip; rotate_left; intro h; skip; rotate_left)) | fail))
            have hbt : PlB M3 (.slice Ab (t : Int).toNat cb) (b.take t) := by
              have e1 : (b.take t).length = t := by rw [List.length_take]; omega
              refine ⟨Ab, cb, by rw [e1]; rfl, by omega, q2, ?_⟩
              have := q3.take t
              rwa [← List.map_take] at this
            (apply R.call; (exact a_evs); exact rfl; exact rdone_K (c := [.int .i64 0, str n, str [], .slice Ab (t : Int).toNat cb, .int .i64 0]) (x := .app n (b.take t)) hf hl0 hm0 ⟨_, rfl, hbt⟩ (by show (b.take t).length ≤ _; rw [List.length_take]; omega); rintro v4 M4 _ ⟨hf4, hM4, rfl⟩)
            (repeat' (first | refine a_go ?_ | (with_reducible apply Fin.thenK; assumption) | (with_reducible (first | apply C.seqK | apply C.regionK); intro _ _) | (apply R.buildSlice0; exact rfl; intro bz) | (apply R.box; exact rfl; (simp only [Value.cells]; rfl); exact rfl; intro bx) | (apply R.alloc; (simp only [Value.cells]; rfl); exact rfl; intro ba) | (apply R.buildSlice; (exact a_prt); exact rfl; exact rfl; (exact a_fills); exact rfl; intro bl) | (refine a_sp ?_ ?_; (intro h; skip; rotate_left; intro h; skip; rotate_left)) | fail))
            (apply Fin.arr (H2 := [(rb, .cells [.int .i64 d.room, sv, nv, .slice (some ⟨b0, o0, none⟩) d.ps.length cap, .bool fused, .int .i64 fuse, .bool d.down].toArray 57 (0, 0))] ++ H); ((try simp only [List.append_assoc, List.cons_append, List.nil_append, List.append_nil]); exact a_arr))
            refine Fin.join (⟨doneF G0 (.app n (b.take t)), v4, M4⟩ : RcY) ⟨hM2.trans_ hM4, hf4, (by dsimp only; exact doneF_srt hs0), (by dsimp only; rw [hT]; exact doneF_perm hs0 hp0)⟩ ?_ rfl rfl
            (exact a_subs)
          · have hT : tornF ((d.ps.take k).foldl doF d.S) (.app n b) torn = (d.ps.take k).foldl doF d.S := if_neg (fun h => by omega)
            (repeat' (first | (apply R.step; (apply Ok.move; exact rfl); exact rfl) | (apply R.step; (apply Ok.gtF; exact rfl; exact rfl; omega); exact rfl) | refine a_go ?_ | (with_reducible apply Fin.thenK; assumption) | (with_reducible (first | apply C.seqK | apply C.regionK); intro _ _) | (apply R.buildSlice0; exact rfl; intro bz) | (apply R.box; exact rfl; (simp only [Value.cells]; rfl); exact rfl; intro bx) | (apply R.alloc; (simp only [Value.cells]; rfl); exact rfl; intro ba) | (apply R.buildSlice; (exact a_prt); exact rfl; exact rfl; (exact a_fills); exact rfl; intro bl) | (refine a_sp ?_ ?_; (intro h; skip; rotate_left; intro h; skip; rotate_left)) | fail))
            (apply Fin.arr (H2 := [(rb, .cells [.int .i64 d.room, sv, nv, .slice (some ⟨b0, o0, none⟩) d.ps.length cap, .bool fused, .int .i64 fuse, .bool d.down].toArray 57 (0, 0))] ++ H); ((try simp only [List.append_assoc, List.cons_append, List.nil_append, List.append_nil]); exact a_arr))
            refine Fin.join (⟨G0, v, M3⟩ : RcY) ⟨hM2, hf, hs0, by dsimp only; rw [hT]; exact hp0⟩ ?_ rfl rfl
            (exact a_subs)
    · rw [hno (by omega)]
      (repeat' (first | (apply R.step; (apply Ok.move; exact rfl); exact rfl) | (apply R.step; (first | (apply Ok.ltTr; exact rfl; exact rfl; omega) | (apply Ok.ltF; exact rfl; exact rfl; omega) | (apply Ok.gtTr; exact rfl; exact rfl; omega) | (apply Ok.gtF; exact rfl; exact rfl; omega) | (apply Ok.geTr; exact rfl; exact rfl; omega) | (apply Ok.geF; exact rfl; exact rfl; omega) | (apply Ok.leTr; exact rfl; exact rfl; omega) | (apply Ok.leF; exact rfl; exact rfl; omega) | (apply Ok.neIT; exact rfl; exact rfl; omega) | (apply Ok.eqIF; exact rfl; exact rfl; omega)); exact rfl) | refine a_go ?_ | (with_reducible apply Fin.thenK; assumption) | (with_reducible (first | apply C.seqK | apply C.regionK); intro _ _) | (apply R.buildSlice0; exact rfl; intro bz) | (apply R.box; exact rfl; (simp only [Value.cells]; rfl); exact rfl; intro bx) | (apply R.alloc; (simp only [Value.cells]; rfl); exact rfl; intro ba) | (apply R.buildSlice; (exact a_prt); exact rfl; exact rfl; (exact a_fills); exact rfl; intro bl) | (refine a_sp ?_ ?_; (intro h; skip; rotate_left; intro h; skip; rotate_left)) | fail))
      refine Fin.join (⟨G0, v, M2⟩ : RcY) ⟨hM2, hf, hs0, hp0⟩ ?_ rfl rfl
      (exact a_subs)
  rintro ⟨F2, v, M2⟩ ⟨hM2, hf, hs2, hp2⟩
  dsimp only at hM2 hf hs2 hp2 ⊢
  obtain ⟨A2, k2, es2, rfl, _⟩ := hf.form
  (repeat' (first | refine a_go ?_ | (with_reducible apply Fin.thenK; assumption) | (with_reducible (first | apply C.seqK | apply C.regionK); intro _ _) | (apply R.buildSlice0; exact rfl; intro bz) | (apply R.box; exact rfl; (simp only [Value.cells]; rfl); exact rfl; intro bx) | (apply R.alloc; (simp only [Value.cells]; rfl); exact rfl; intro ba) | (apply R.buildSlice; (exact a_prt); exact rfl; exact rfl; (exact a_fills); exact rfl; intro bl) | (refine a_sp ?_ ?_; (intro h; skip; rotate_left; intro h; skip; rotate_left)) | fail))
  (apply Fin.returnA (H2 := [(rb, .cells [.int .i64 d.room, .slice A2 es2.length k2, .slice A2 es2.length k2, .slice none 0 0, .bool false, .int .i64 fuse, .bool false].toArray 57 (0, 0))] ++ H); assumption; (first | exact .inl rfl | exact .inr rfl); exact rfl; (exact a_res); (simp only [retv]; rfl); (exact a_arr))
  refine ⟨by rw [hk], hM2, _, RdO.of (d := crashD d keep torn) (x := ⟨F2, F2, .slice A2 es2.length k2, .slice A2 es2.length k2, .slice none 0 0, false, fuse⟩) ⟨⟨hok.1, ⟨Int.le_refl _, show (-1 : Int) ≤ 4611686018427387904 by decide⟩, hcs, trivial⟩, hf, hf, hp2, hp2, hs2, hs2, PlW.nil, rfl, fun h => by cases h⟩, rfl⟩
end Go.Sx
end
section
namespace Go.Sx
open Go Go.Proofs Go.RowKit
attribute [local irreducible] C R Fin K Own OwnT Rd Pl Ok KOf RetOk OpsOf RP KP Res NoPanic KV KE MapS ItS EntS FsO FsR RowD PlD DkO PlFs RT KT OneT RS KS OneS RdO
variable {M M' : Mem} {H H1 H2 : Hp}
def harmD (d : Dk) (what a b : Int) : Dk :=
  if what % 9 = 6 then { d with fuse := max (a % 9) (-1) } else if what % 9 = 7 then crashD d a b else if what % 9 = 8 then { d with room := a % 2000 } else d
theorem harmD_sz (d : Dk) (what a b : Int) : szD (harmD d what a b) ≤ szD d := by
  unfold harmD
  split
  · exact Nat.le_refl _
  · split
    · exact crash_sz _ _ _
    · split <;> exact Nat.le_refl _
theorem harms_K {db rb : Nat} {d : Dk} {hp hq : Hp} {what a b : Int} (ho : DkO M db d hp) (hr : RdO M rb d hq) (hsz : szD d ≤ 1000000) : K Tryz.prog 6 [.pointer (some ⟨db, 0, none⟩), .pointer (some ⟨rb, 0, none⟩), .agg #[.int .i64 what, .int .i64 a, .int .i64 b]] M (hp ++ (hq ++ H)) fun v' M' H' => v' = .tuple #[] ∧ M.le M' ∧ ∃ hp' hq', DkO M' db (harmD d what a b) hp' ∧ RdO M' rb (harmD d what a b) hq' ∧ H' = hp' ++ (hq' ++ H) := by
  refine K.enterK Tryz.func6 rfl rfl rfl ?_
  intro Q hNP hQ
  have hps := ps_sz d
  unfold harmD at hQ
  (repeat' (first | refine a_go ?_ | (with_reducible apply Fin.thenK; assumption) | (with_reducible (first | apply C.seqK | apply C.regionK); intro _ _) | (apply R.buildSlice0; exact rfl; intro bz) | (apply R.box; exact rfl; (simp only [Value.cells]; rfl); exact rfl; intro bx) | (apply R.alloc; (simp only [Value.cells]; rfl); exact rfl; intro ba) | (apply R.buildSlice; (exact a_prt); exact rfl; exact rfl; (exact a_fills); exact rfl; intro bl) | (refine a_sp ?_ ?_; (intro h; skip; rotate_left; intro h; skip; rotate_left)) | fail))
  (apply R.call; (exact a_evs); exact rfl; exact pick_K what 9 (by decide) (by decide); rintro _ M _ ⟨rfl, rfl, rfl⟩)
  by_cases h6 : what % 9 = 6
  · rw [if_pos h6] at hQ
    have ha := Int.emod_nonneg a (show (9 : Int) ≠ 0 by decide)
    have hb := Int.emod_lt_of_pos a (show (0 : Int) < 9 by decide)
    (repeat' (first | (apply R.step; (apply Ok.move; exact rfl); exact rfl) | (apply R.step; (apply Ok.eqIR; exact rfl; exact rfl; exact h6); exact rfl) | refine a_go ?_ | (with_reducible apply Fin.thenK; assumption) | (with_reducible (first | apply C.seqK | apply C.regionK); intro _ _) | (apply R.buildSlice0; exact rfl; intro bz) | (apply R.box; exact rfl; (simp only [Value.cells]; rfl); exact rfl; intro bx) | (apply R.alloc; (simp only [Value.cells]; rfl); exact rfl; intro ba) | (apply R.buildSlice; (exact a_prt); exact rfl; exact rfl; (exact a_fills); exact rfl; intro bl) | (refine a_sp ?_ ?_; (intro h; skip; rotate_left; intro h; skip; rotate_left)) | fail))
    (apply R.call; (exact a_evs); exact rfl; exact pick_K a 9 (by decide) (by decide); rintro _ M _ ⟨rfl, rfl, rfl⟩)
    (repeat' (first | refine a_go ?_ | (with_reducible apply Fin.thenK; assumption) | (with_reducible (first | apply C.seqK | apply C.regionK); intro _ _) | (apply R.buildSlice0; exact rfl; intro bz) | (apply R.box; exact rfl; (simp only [Value.cells]; rfl); exact rfl; intro bx) | (apply R.alloc; (simp only [Value.cells]; rfl); exact rfl; intro ba) | (apply R.buildSlice; (exact a_prt); exact rfl; exact rfl; (exact a_fills); exact rfl; intro bl) | (refine a_sp ?_ ?_; (intro h; skip; rotate_left; intro h; skip; rotate_left)) | fail))
    apply R.arr (H2 := hp ++ ((bx, .cells #[.int .i64 what, .int .i64 a, .int .i64 b] 36 (0, 0)) :: (hq ++ H))) (by ((try simp only [List.append_assoc, List.cons_append, List.nil_append, List.append_nil]); exact a_arr))
    (apply R.call; (exact a_evs); exact rfl; exact fuse_KD (n := a % 9) (by omega) ho; rintro _ M _ ⟨rfl, rfl, hp2, ho2, rfl⟩)
    (repeat' (first | refine a_go ?_ | (with_reducible apply Fin.thenK; assumption) | (with_reducible (first | apply C.seqK | apply C.regionK); intro _ _) | (apply R.buildSlice0; exact rfl; intro bz) | (apply R.box; exact rfl; (simp only [Value.cells]; rfl); exact rfl; intro bx) | (apply R.alloc; (simp only [Value.cells]; rfl); exact rfl; intro ba) | (apply R.buildSlice; (exact a_prt); exact rfl; exact rfl; (exact a_fills); exact rfl; intro bl) | (refine a_sp ?_ ?_; (intro h; skip; rotate_left; intro h; skip; rotate_left)) | fail))
    (apply R.call; (exact a_evs); exact rfl; exact pick_K a 9 (by decide) (by decide); rintro _ M _ ⟨rfl, rfl, rfl⟩)
    apply R.arr (H2 := hq ++ (hp2 ++ H)) (by ((try simp only [List.append_assoc, List.cons_append, List.nil_append, List.append_nil]); exact a_arr))
    (apply R.call; (exact a_evs); exact rfl; exact rfuse_K (n := a % 9) ha (by omega) hr; rintro _ M _ ⟨rfl, rfl, hq2, hr2, rfl⟩)
    (repeat' (first | refine a_go ?_ | (with_reducible apply Fin.thenK; assumption) | (with_reducible (first | apply C.seqK | apply C.regionK); intro _ _) | (apply R.buildSlice0; exact rfl; intro bz) | (apply R.box; exact rfl; (simp only [Value.cells]; rfl); exact rfl; intro bx) | (apply R.alloc; (simp only [Value.cells]; rfl); exact rfl; intro ba) | (apply R.buildSlice; (exact a_prt); exact rfl; exact rfl; (exact a_fills); exact rfl; intro bl) | (refine a_sp ?_ ?_; (intro h; skip; rotate_left; intro h; skip; rotate_left)) | fail))
    (apply Fin.returnA (H2 := hp2 ++ (hq2 ++ H)); assumption; exact .inr rfl; exact rfl; (exact a_res); (simp only [retv]; rfl); (exact a_arr))
    exact ⟨rfl, Mem.le_refl _, hp2, hq2, ho2, hr2, rfl⟩
  rw [if_neg h6] at hQ
  by_cases h7 : what % 9 = 7
  · rw [if_pos h7] at hQ
    (repeat' (first | (apply R.step; (apply Ok.move; exact rfl); exact rfl) | (apply R.step; (first | (apply Ok.eqIF; exact rfl; exact rfl; exact h6) | (apply Ok.eqIR; exact rfl; exact rfl; exact h7)); exact rfl) | refine a_go ?_ | (with_reducible apply Fin.thenK; assumption) | (with_reducible (first | apply C.seqK | apply C.regionK); intro _ _) | (apply R.buildSlice0; exact rfl; intro bz) | (apply R.box; exact rfl; (simp only [Value.cells]; rfl); exact rfl; intro bx) | (apply R.alloc; (simp only [Value.cells]; rfl); exact rfl; intro ba) | (apply R.buildSlice; (exact a_prt); exact rfl; exact rfl; (exact a_fills); exact rfl; intro bl) | (refine a_sp ?_ ?_; (intro h; skip; rotate_left; intro h; skip; rotate_left)) | fail))
    apply R.arr (H2 := hp ++ ((bx, .cells #[.int .i64 what, .int .i64 a, .int .i64 b] 36 (0, 0)) :: (hq ++ H))) (by ((try simp only [List.append_assoc, List.cons_append, List.nil_append, List.append_nil]); exact a_arr))
    (apply R.call; (exact a_evs); exact rfl; exact crash_K (keep := a) (torn := b) ho (by omega); rintro _ M2 _ ⟨rfl, hM2, hp2, ho2, rfl⟩)
    (repeat' (first | refine a_go ?_ | (with_reducible apply Fin.thenK; assumption) | (with_reducible (first | apply C.seqK | apply C.regionK); intro _ _) | (apply R.buildSlice0; exact rfl; intro bz) | (apply R.box; exact rfl; (simp only [Value.cells]; rfl); exact rfl; intro bx) | (apply R.alloc; (simp only [Value.cells]; rfl); exact rfl; intro ba) | (apply R.buildSlice; (exact a_prt); exact rfl; exact rfl; (exact a_fills); exact rfl; intro bl) | (refine a_sp ?_ ?_; (intro h; skip; rotate_left; intro h; skip; rotate_left)) | fail))
    apply R.arr (H2 := hq ++ (hp2 ++ H)) (by ((try simp only [List.append_assoc, List.cons_append, List.nil_append, List.append_nil]); exact a_arr))
    (apply R.call; (exact a_evs); exact rfl; exact rcrash_K (keep := a) (torn := b) (hr.mono hM2) hsz; rintro _ M3 _ ⟨rfl, hM3, hq2, hr2, rfl⟩)
    (repeat' (first | refine a_go ?_ | (with_reducible apply Fin.thenK; assumption) | (with_reducible (first | apply C.seqK | apply C.regionK); intro _ _) | (apply R.buildSlice0; exact rfl; intro bz) | (apply R.box; exact rfl; (simp only [Value.cells]; rfl); exact rfl; intro bx) | (apply R.alloc; (simp only [Value.cells]; rfl); exact rfl; intro ba) | (apply R.buildSlice; (exact a_prt); exact rfl; exact rfl; (exact a_fills); exact rfl; intro bl) | (refine a_sp ?_ ?_; (intro h; skip; rotate_left; intro h; skip; rotate_left)) | fail))
    (apply Fin.returnA (H2 := hp2 ++ (hq2 ++ H)); assumption; exact .inr rfl; exact rfl; (exact a_res); (simp only [retv]; rfl); (exact a_arr))
    exact ⟨rfl, hM2.trans_ hM3, hp2, hq2, ho2.mono hM3, hr2, rfl⟩
  rw [if_neg h7] at hQ
  by_cases h8 : what % 9 = 8
  · rw [if_pos h8] at hQ
    have ha := Int.emod_nonneg a (show (2000 : Int) ≠ 0 by decide)
    have hb := Int.emod_lt_of_pos a (show (0 : Int) < 2000 by decide)
    (repeat' (first | (apply R.step; (apply Ok.move; exact rfl); exact rfl) | (apply R.step; (first | (apply Ok.eqIF; exact rfl; exact rfl; exact h6) | (apply Ok.eqIF; exact rfl; exact rfl; exact h7) | (apply Ok.eqIR; exact rfl; exact rfl; exact h8)); exact rfl) | refine a_go ?_ | (with_reducible apply Fin.thenK; assumption) | (with_reducible (first | apply C.seqK | apply C.regionK); intro _ _) | (apply R.buildSlice0; exact rfl; intro bz) | (apply R.box; exact rfl; (simp only [Value.cells]; rfl); exact rfl; intro bx) | (apply R.alloc; (simp only [Value.cells]; rfl); exact rfl; intro ba) | (apply R.buildSlice; (exact a_prt); exact rfl; exact rfl; (exact a_fills); exact rfl; intro bl) | (refine a_sp ?_ ?_; (intro h; skip; rotate_left; intro h; skip; rotate_left)) | fail))
    (apply R.call; (exact a_evs); exact rfl; exact pick_K a 2000 (by decide) (by decide); rintro _ M _ ⟨rfl, rfl, rfl⟩)
    (repeat' (first | refine a_go ?_ | (with_reducible apply Fin.thenK; assumption) | (with_reducible (first | apply C.seqK | apply C.regionK); intro _ _) | (apply R.buildSlice0; exact rfl; intro bz) | (apply R.box; exact rfl; (simp only [Value.cells]; rfl); exact rfl; intro bx) | (apply R.alloc; (simp only [Value.cells]; rfl); exact rfl; intro ba) | (apply R.buildSlice; (exact a_prt); exact rfl; exact rfl; (exact a_fills); exact rfl; intro bl) | (refine a_sp ?_ ?_; (intro h; skip; rotate_left; intro h; skip; rotate_left)) | fail))
    apply R.arr (H2 := hp ++ (hq ++ H)) (by ((try simp only [List.append_assoc, List.cons_append, List.nil_append, List.append_nil]); exact a_arr))
    (apply R.call; (exact a_evs); exact rfl; exact room_KD (n := a % 2000) ha (by omega) ho; rintro _ M _ ⟨rfl, rfl, hp2, ho2, rfl⟩)
    (repeat' (first | refine a_go ?_ | (with_reducible apply Fin.thenK; assumption) | (with_reducible (first | apply C.seqK | apply C.regionK); intro _ _) | (apply R.buildSlice0; exact rfl; intro bz) | (apply R.box; exact rfl; (simp only [Value.cells]; rfl); exact rfl; intro bx) | (apply R.alloc; (simp only [Value.cells]; rfl); exact rfl; intro ba) | (apply R.buildSlice; (exact a_prt); exact rfl; exact rfl; (exact a_fills); exact rfl; intro bl) | (refine a_sp ?_ ?_; (intro h; skip; rotate_left; intro h; skip; rotate_left)) | fail))
    unfold RdO at hr
    obtain ⟨⟨F, G, sv, nv, wv, fused, fuse⟩, hi, rfl⟩ := hr
    dsimp only
    unfold rdkB
    apply R.arr (H2 := (rb, .cells [.int .i64 d.room, sv, nv, wv, .bool fused, .int .i64 fuse, .bool d.down].toArray 57 (0, 0)) :: (hp2 ++ H)) (by ((try simp only [List.append_assoc, List.cons_append, List.nil_append, List.append_nil]); exact a_arr))
    (repeat' (first | refine a_go ?_ | (with_reducible apply Fin.thenK; assumption) | (with_reducible (first | apply C.seqK | apply C.regionK); intro _ _) | (apply R.buildSlice0; exact rfl; intro bz) | (apply R.box; exact rfl; (simp only [Value.cells]; rfl); exact rfl; intro bx) | (apply R.alloc; (simp only [Value.cells]; rfl); exact rfl; intro ba) | (apply R.buildSlice; (exact a_prt); exact rfl; exact rfl; (exact a_fills); exact rfl; intro bl) | (refine a_sp ?_ ?_; (intro h; skip; rotate_left; intro h; skip; rotate_left)) | fail))
    (apply Fin.returnA (H2 := hp2 ++ ([(rb, rdkB (a % 2000) sv nv wv fused fuse d.down)] ++ H)); assumption; exact .inr rfl; exact rfl; (exact a_res); (simp only [retv]; rfl); (exact a_arr))
    exact ⟨rfl, Mem.le_refl _, hp2, _, ho2, RdO.of (d := { d with room := a % 2000 }) (x := ⟨F, G, sv, nv, wv, fused, fuse⟩) ⟨⟨⟨ha, by dsimp only; omega⟩, hi.ok.2.1, hi.ok.2.2.1, hi.ok.2.2.2⟩, hi.sF, hi.nG, hi.pS, hi.pN, hi.srtF, hi.srtG, hi.w, hi.fu, hi.fu0⟩, rfl⟩
  rw [if_neg h8] at hQ
  (repeat' (first | (apply R.step; (apply Ok.move; exact rfl); exact rfl) | (apply R.step; (first | (apply Ok.eqIF; exact rfl; exact rfl; exact h6) | (apply Ok.eqIF; exact rfl; exact rfl; exact h7) | (apply Ok.eqIF; exact rfl; exact rfl; exact h8)); exact rfl) | refine a_go ?_ | (with_reducible apply Fin.thenK; assumption) | (with_reducible (first | apply C.seqK | apply C.regionK); intro _ _) | (apply R.buildSlice0; exact rfl; intro bz) | (apply R.box; exact rfl; (simp only [Value.cells]; rfl); exact rfl; intro bx) | (apply R.alloc; (simp only [Value.cells]; rfl); exact rfl; intro ba) | (apply R.buildSlice; (exact a_prt); exact rfl; exact rfl; (exact a_fills); exact rfl; intro bl) | (refine a_sp ?_ ?_; (intro h; skip; rotate_left; intro h; skip; rotate_left)) | fail))
  (apply Fin.returnA (H2 := hp ++ (hq ++ H)); assumption; exact .inr rfl; exact rfl; (exact a_res); (simp only [retv]; rfl); (exact a_arr))
  exact ⟨rfl, Mem.le_refl _, hp, hq, ho, hr, rfl⟩
end Go.Sx
end
section
namespace Go.Sx
open Go Go.Proofs Go.RowKit
attribute [local irreducible] C R Fin K Own OwnT Rd Pl Ok KOf RetOk OpsOf RP KP Res NoPanic KV KE MapS ItS EntS FsO FsR RowD PlD DkO PlFs RT KT OneT RS KS OneS RdO
variable {M M' : Mem} {H H1 H2 : Hp}
section
variable {H : Type} {enc : TypeId × Value → H} {W : World} {m : Nat} {cs : List Value} {z : DataW H × List MemPlace}
theorem rd_harm (h : Trd enc Tryz.prog W m 36 cs z) (hw : Wgt Tryz.prog 36 z.1) : ∃ a b c : Int, cs = [.int .i64 a, .int .i64 b, .int .i64 c] := by
  obtain ⟨hl, k, hf⟩ := rd_fields Tryz.underlying36 h hw
  rw [show Tryz.prog.cellsOf 36 = 3 by kernel_rfl] at hl
  obtain ⟨y0, h0, _⟩ := hf 0 3 0 1 rfl (by kernel_rfl)
  obtain ⟨y1, h1, _⟩ := hf 1 3 1 1 rfl (by kernel_rfl)
  obtain ⟨y2, h2, _⟩ := hf 2 3 2 1 rfl (by kernel_rfl)
  obtain ⟨a0, e0, _⟩ := rd_int h0
  obtain ⟨a1, e1, _⟩ := rd_int h1
  obtain ⟨a2, e2, _⟩ := rd_int h2
  match cs, hl with
  | [x0, x1, x2], _ =>
    cases e0; cases e1; cases e2
    exact ⟨a0, a1, a2, rfl⟩
end
end Go.Sx
end
section
namespace Go.Sx
open Go Go.Proofs Go.RowKit
attribute [local irreducible] C R Fin K Own OwnT Rd Pl Ok KOf RetOk OpsOf RP KP Res NoPanic KV KE MapS ItS EntS FsO FsR RowD PlD DkO PlFs RT KT OneT RS KS OneS RdO PlB
structure PStep where
  w : Int
  s : SnT
  v : Value
  near : Bool
  a : Int
  b : Int
  c : Int
def pstR (x : PStep) : List Value := pstC x.w x.s x.v x.near x.a x.b x.c
def pstOk (M : Mem) (x : PStep) : Prop := psOk M (x.s, x.v)
section
variable {H : Type} {enc : TypeId × Value → H} {W : World} {m : Nat} {cs : List Value} {z : DataW H × List MemPlace}
theorem rd_pst (h : Trd enc Tryz.prog W m 38 cs z) (hw : Wgt Tryz.prog 38 z.1) : ∃ x : PStep, cs = pstR x ∧ pstOk (Mem.of W) x := by
  obtain ⟨hl, k, hf⟩ := rd_fields Tryz.underlying38 h hw
  rw [show Tryz.prog.cellsOf 38 = 9 by kernel_rfl] at hl
  obtain ⟨y0, h0, _⟩ := hf 0 3 0 1 rfl (by kernel_rfl)
  obtain ⟨y1, h1, w1⟩ := hf 1 34 1 4 rfl (by kernel_rfl)
  obtain ⟨y2, h2, _⟩ := hf 2 4 5 1 rfl (by kernel_rfl)
  obtain ⟨y3, h3, w3⟩ := hf 3 36 6 3 rfl (by kernel_rfl)
  obtain ⟨a0, e0, _⟩ := rd_int h0
  obtain ⟨⟨s, v⟩, e1, r1⟩ := rd_psnap h1 w1
  obtain ⟨a2, e2⟩ := rd_bool h2
  obtain ⟨a, b, c, e3⟩ := rd_harm h3 w3
  match cs, hl with
  | [c0, c1, c2, c3, c4, c5, c6, c7, c8], _ =>
    cases e0; cases e1; cases e2; cases e3
    exact ⟨⟨a0, s, v, a2, a, b, c⟩, rfl, r1⟩
theorem rd_psts : ∀ (css : List (List Value)), (∀ c ∈ css, c.length = 9 ∧ ∃ m y, Trd enc Tryz.prog W m 38 c y ∧ Wgt Tryz.prog 38 y.1) → ∃ xs : List PStep, css = xs.map pstR ∧ ∀ x ∈ xs, pstOk (Mem.of W) x
  | [], _ => ⟨[], rfl, fun _ h => absurd h List.not_mem_nil⟩
  | c :: css, h => by
    obtain ⟨xs, h1, h2⟩ := rd_psts css (fun c hc => h c (List.mem_cons_of_mem _ hc))
    obtain ⟨_, m, y, h5, h6⟩ := h c (List.mem_cons_self ..)
    obtain ⟨x, rfl, h7⟩ := rd_pst h5 h6
    refine ⟨x :: xs, by rw [h1]; rfl, fun a ha => ?_⟩
    rcases List.mem_cons.1 ha with rfl | ha
    · exact h7
    · exact h2 a ha
end
variable {M M' : Mem} {H H1 H2 : Hp}
theorem pstR_all (xs : List PStep) : ∀ c ∈ xs.map pstR, c.length = 9 := by
  intro c hc
  obtain ⟨x, _, rfl⟩ := List.mem_map.1 hc
  rfl
theorem openP_sz (d : Dk) : szD (openP d).2.1 ≤ szD d + 1 := by
  have h := clrN_sz pnew d
  unfold openP
  split
  · exact h
  · exact h
theorem saveP_sz (d : Dk) (i t : Nat) (c : Int) (b : Txt) : szD (saveP d i t c b).2 ≤ szD d + 3 := by
  have h := clrN_sz pnew d
  unfold saveP
  split
  · dsimp only
    omega
  split
  · omega
  split
  · exact Nat.le_trans (opD_sz _ _ _) (by omega)
  · have h2 := opD_sz (clrN pnew d).2 0 (.app pnew (frameS (spS i t c b)))
    exact Nat.le_trans (opD_sz _ _ _) (by omega)
theorem shapeP_rng {near : Bool} {s : SnT} (h : rngS s) : (shapeP near s).1 ≤ 18446744073709551615 ∧ (shapeP near s).2.1 ≤ 18446744073709551615 ∧ (shapeP near s).2.2.2 = s.2.2.2 := by
  obtain ⟨h1, h2, h3, h4⟩ := h
  cases near with
  | false => exact ⟨h1, h2, rfl⟩
  | true =>
    refine ⟨?_, ?_, rfl⟩
    · show 1 + s.1 % 900 ≤ _
      omega
    · show 1 + s.2.1 % 9 ≤ _
      omega
structure PpX where
  i : Nat
  ii : Int
  d : Dk
  hp : Hp
  hq : Hp
  M : Mem
theorem photoPlays_K {A : Option Addr} {cap : Nat} {xs : List PStep} (hpl : Pl M A (xs.map pstR).flatten) (hx : ∀ x ∈ xs, pstOk M x) : K Tryz.prog 3 [.slice A xs.length cap] M H fun v' M' H' => v' = .bool true ∧ M.le M' := by
  refine K.enterK Tryz.func3 rfl rfl rfl ?_
  intro Q hNP hQ
  (repeat' (first | refine a_go ?_ | (with_reducible apply Fin.thenK; assumption) | (with_reducible (first | apply C.seqK | apply C.regionK); intro _ _) | (apply R.buildSlice0; exact rfl; intro bz) | (apply R.box; exact rfl; (simp only [Value.cells]; rfl); exact rfl; intro bx) | (apply R.alloc; (simp only [Value.cells]; rfl); exact rfl; intro ba) | (apply R.buildSlice; (exact a_prt); exact rfl; exact rfl; (exact a_fills); exact rfl; intro bl) | (refine a_sp ?_ ?_; (intro h; skip; rotate_left; intro h; skip; rotate_left)) | fail))
  (apply R.call; (exact a_evs); exact rfl; exact pair_K (room := 1048576) (by decide) (by decide) PlFs.nil (fun p hp => by cases hp); rintro _ M1 _ ⟨db, rb, hp, hq, rfl, hM1, ho, hr, rfl⟩)
  (repeat' (first | refine a_go ?_ | (with_reducible apply Fin.thenK; assumption) | (with_reducible (first | apply C.seqK | apply C.regionK); intro _ _) | (apply R.buildSlice0; exact rfl; intro bz) | (apply R.box; exact rfl; (simp only [Value.cells]; rfl); exact rfl; intro bx) | (apply R.alloc; (simp only [Value.cells]; rfl); exact rfl; intro ba) | (apply R.buildSlice; (exact a_prt); exact rfl; exact rfl; (exact a_fills); exact rfl; intro bl) | (refine a_sp ?_ ?_; (intro h; skip; rotate_left; intro h; skip; rotate_left)) | fail))
  (apply R.call; (exact a_evs); exact rfl; exact pknown_K; rintro _ M2 _ ⟨rfl, hM2, rfl⟩)
  replace ho := ho.mono hM2
  replace hr := hr.mono hM2
  have hM02 := hM1.trans_ hM2
  replace hpl := hpl.mono hM02
  have hsz0 : szD (pairD 1048576 []) ≤ 0 := synD_sz _
  generalize pairD 1048576 [] = d0 at ho hr hsz0
  (repeat' (first | refine a_go ?_ | (with_reducible apply Fin.thenK; assumption) | (with_reducible (first | apply C.seqK | apply C.regionK); intro _ _) | (apply R.buildSlice0; exact rfl; intro bz) | (apply R.box; exact rfl; (simp only [Value.cells]; rfl); exact rfl; intro bx) | (apply R.alloc; (simp only [Value.cells]; rfl); exact rfl; intro ba) | (apply R.buildSlice; (exact a_prt); exact rfl; exact rfl; (exact a_fills); exact rfl; intro bl) | (refine a_sp ?_ ?_; (intro h; skip; rotate_left; intro h; skip; rotate_left)) | fail))
  apply C.loop (fun y : PpX => (y.i : Int) = y.ii ∧ y.i ≤ 100 ∧ szD y.d ≤ 3 * y.i ∧ M2.le y.M ∧ DkO y.M db y.d y.hp ∧ RdO y.M rb y.d y.hq)
    (fun y => [(0, .slice A xs.length cap), (3, .pointer (some ⟨db, 0, none⟩)), (4, .pointer (some ⟨rb, 0, none⟩)), (6, .int .i64 y.ii)]) (fun y => y.M) (fun y => y.hp ++ (y.hq ++ H)) (fun y => 100 - y.i) ⟨0, 0, d0, hp, hq, M2⟩
  · exact ⟨rfl, Nat.zero_le _, hsz0, Mem.le_refl _, ho, hr⟩
  · (exact a_subs)
  · exact rfl
  · exact rfl
  rintro ⟨i, ii, d, hp, hq, M3⟩ ⟨hii, hi, hsz, hM3, ho, hr⟩
  dsimp only at hii hi hsz hM3 ho hr ⊢
  by_cases hix : i < xs.length ∧ i < 100
  rotate_left
  · by_cases h1 : i < xs.length
    · have h2 : ¬ i < 100 := fun h => hix ⟨h1, h⟩
      (repeat' (first | (apply R.step; (apply Ok.move; exact rfl); exact rfl) | (apply R.step; (first | (apply Ok.ltTr; exact rfl; exact rfl; omega) | (apply Ok.ltF; exact rfl; exact rfl; omega) | (apply Ok.gtTr; exact rfl; exact rfl; omega) | (apply Ok.gtF; exact rfl; exact rfl; omega) | (apply Ok.geTr; exact rfl; exact rfl; omega) | (apply Ok.geF; exact rfl; exact rfl; omega) | (apply Ok.leTr; exact rfl; exact rfl; omega) | (apply Ok.leF; exact rfl; exact rfl; omega) | (apply Ok.neIT; exact rfl; exact rfl; omega) | (apply Ok.eqIF; exact rfl; exact rfl; omega)); exact rfl) | refine a_go ?_ | (with_reducible apply Fin.thenK; assumption) | (with_reducible (first | apply C.seqK | apply C.regionK); intro _ _) | (apply R.buildSlice0; exact rfl; intro bz) | (apply R.box; exact rfl; (simp only [Value.cells]; rfl); exact rfl; intro bx) | (apply R.alloc; (simp only [Value.cells]; rfl); exact rfl; intro ba) | (apply R.buildSlice; (exact a_prt); exact rfl; exact rfl; (exact a_fills); exact rfl; intro bl) | (refine a_sp ?_ ?_; (intro h; skip; rotate_left; intro h; skip; rotate_left)) | fail))
      (apply Fin.returnA (H2 := H); assumption; (first | exact .inl rfl | exact .inr rfl); exact rfl; (exact a_res); (simp only [retv]; rfl); (exact a_arr))
      exact ⟨rfl, hM02.trans_ hM3⟩
    · (repeat' (first | (apply R.step; (apply Ok.move; exact rfl); exact rfl) | (apply R.step; (first | (apply Ok.ltTr; exact rfl; exact rfl; omega) | (apply Ok.ltF; exact rfl; exact rfl; omega) | (apply Ok.gtTr; exact rfl; exact rfl; omega) | (apply Ok.gtF; exact rfl; exact rfl; omega) | (apply Ok.geTr; exact rfl; exact rfl; omega) | (apply Ok.geF; exact rfl; exact rfl; omega) | (apply Ok.leTr; exact rfl; exact rfl; omega) | (apply Ok.leF; exact rfl; exact rfl; omega) | (apply Ok.neIT; exact rfl; exact rfl; omega) | (apply Ok.eqIF; exact rfl; exact rfl; omega)); exact rfl) | refine a_go ?_ | (with_reducible apply Fin.thenK; assumption) | (with_reducible (first | apply C.seqK | apply C.regionK); intro _ _) | (apply R.buildSlice0; exact rfl; intro bz) | (apply R.box; exact rfl; (simp only [Value.cells]; rfl); exact rfl; intro bx) | (apply R.alloc; (simp only [Value.cells]; rfl); exact rfl; intro ba) | (apply R.buildSlice; (exact a_prt); exact rfl; exact rfl; (exact a_fills); exact rfl; intro bl) | (refine a_sp ?_ ?_; (intro h; skip; rotate_left; intro h; skip; rotate_left)) | fail))
      (apply Fin.returnA (H2 := H); assumption; (first | exact .inl rfl | exact .inr rfl); exact rfl; (exact a_res); (simp only [retv]; rfl); (exact a_arr))
      exact ⟨rfl, hM02.trans_ hM3⟩
  obtain ⟨hix, hi1⟩ := hix
  obtain ⟨b, o, cc, e, fr, hA, hMb, hcell⟩ := row_agg (hpl.mono hM3) (pstR_all xs) (by decide) (k := i) (by rw [List.length_map]; exact hix)
  subst hA
  rw [List.getElem_map, show o + i * 9 = o + ii.toNat * 9 by omega] at hcell
  have hrx := hx _ (List.getElem_mem hix)
  generalize xs[i] = x at hcell hrx
  obtain ⟨w, ⟨si, st, sc, sb⟩, v, near, a, b', c⟩ := x
  obtain ⟨hpb, hrng⟩ := hrx
  replace hpb := hpb.mono (hM02.trans_ hM3)
  have c0 := hcell 0 _ rfl
  have hall := hcell
  have hharm : ∀ (q : Nat) u, [Value.int .i64 a, .int .i64 b', .int .i64 c][q]? = some u → cc[o + ii.toNat * 9 + 6 + q]? = some u := fun q u hq => by
    rw [Nat.add_assoc]
    match q, hq with
    | 0, hq => cases hq; exact hcell 6 _ rfl
    | 1, hq => cases hq; exact hcell 7 _ rfl
    | 2, hq => cases hq; exact hcell 8 _ rfl
  unfold pstR at hall
  dsimp only at hall c0 hpb
  (repeat' (first | (apply R.step; (apply Ok.move; exact rfl); exact rfl) | (apply R.step; (first | (first | (apply Ok.ltTr; exact rfl; exact rfl; omega) | (apply Ok.ltF; exact rfl; exact rfl; omega) | (apply Ok.gtTr; exact rfl; exact rfl; omega) | (apply Ok.gtF; exact rfl; exact rfl; omega) | (apply Ok.geTr; exact rfl; exact rfl; omega) | (apply Ok.geF; exact rfl; exact rfl; omega) | (apply Ok.leTr; exact rfl; exact rfl; omega) | (apply Ok.leF; exact rfl; exact rfl; omega) | (apply Ok.neIT; exact rfl; exact rfl; omega) | (apply Ok.eqIF; exact rfl; exact rfl; omega)) | (apply Ok.loadAggP (vs := [Value.int .i64 a, .int .i64 b', .int .i64 c]); exact rfl; exact rfl; exact hMb; exact rfl; exact hharm)); exact rfl) | refine a_go ?_ | (with_reducible apply Fin.thenK; assumption) | (with_reducible (first | apply C.seqK | apply C.regionK); intro _ _) | (apply R.buildSlice0; exact rfl; intro bz) | (apply R.box; exact rfl; (simp only [Value.cells]; rfl); exact rfl; intro bx) | (apply R.alloc; (simp only [Value.cells]; rfl); exact rfl; intro ba) | (apply R.buildSlice; (exact a_prt); exact rfl; exact rfl; (exact a_fills); exact rfl; intro bl) | (refine a_sp ?_ ?_; (intro h; skip; rotate_left; intro h; skip; rotate_left)) | fail))
  (apply R.call; (exact a_evs); exact rfl; exact harms_K (what := a) (a := b') (b := c) ho hr (by omega); rintro _ M4 _ ⟨rfl, hM4, hp4, hq4, ho4, hr4, rfl⟩)
  have hsz4 := harmD_sz d a b' c
  generalize harmD d a b' c = d4 at ho4 hr4 hsz4
  have hMb4 := hM4.2.2 _ _ hMb
  have hps4 := ps_sz d4
  have hnw4 := now_sz d4
  replace hpb := hpb.mono hM4
  (repeat' (first | (apply R.step; (exact a_ok); exact rfl) | (first | (with_reducible first | apply R.nil | apply C.ret | apply C.block | apply C.skip | apply C.exit | apply Fin.thenRet | apply Fin.thenExit | apply Fin.blockNormal | apply Fin.blockRet | apply Fin.blockExit) | (with_reducible apply Fin.thenK; assumption) | (with_reducible apply C.seqR; intro _ _) | (with_reducible apply C.regionK; intro _ _) | (with_reducible apply Fin.blockOther; exact rfl)) | (first | (apply R.store; exact rfl; exact rfl; exact rfl; (exact a_at); (exact a_blit); exact rfl; (focus (simp [Value.oneCell']; done))) | (apply R.buildSlice0; exact rfl; intro bz) | (apply R.box; exact rfl; (simp only [Value.cells]; rfl); exact rfl; intro bx) | (apply R.alloc; (simp only [Value.cells]; rfl); exact rfl; intro ba) | (apply R.buildSlice; (exact a_prt); exact rfl; exact rfl; (exact a_fills); exact rfl; intro bl)) | (first | (apply R.guardT; assumption; exact rfl; exact rfl; exact rfl) | (apply R.guardF; assumption; exact rfl; exact rfl; exact rfl; exact rfl; exact rfl) | (apply R.guardU; assumption; exact rfl; exact rfl; exact rfl; exact rfl) | (apply R.guardDec; assumption; exact rfl; exact rfl; (intro h; skip; rotate_left; intro h; skip; rotate_left)) | (apply R.guardBeq; assumption; exact rfl; exact rfl; (intro h; skip; rotate_left; intro h; skip; rotate_left)) | (apply R.guardBne; assumption; exact rfl; exact rfl; (intro h; skip; rotate_left; intro h; skip; rotate_left)) | (apply R.guardNDec; assumption; exact rfl; exact rfl; (intro h; skip; rotate_left; intro h; skip; rotate_left)) | (apply R.guardNot; assumption; exact rfl; exact rfl; (intro h; skip; rotate_left; intro h; skip; rotate_left)) | (apply R.guardC; assumption; exact rfl; exact rfl; (intro h; skip; rotate_left; intro h; skip; rotate_left)))))
  apply C.seqCut (X := PpX) (fun y => szD y.d ≤ 3 * i + 3 ∧ M4.le y.M ∧ DkO y.M db y.d y.hp ∧ RdO y.M rb y.d y.hq)
    (fun y => [(0, .slice (some ⟨b, o, none⟩) xs.length cap), (3, .pointer (some ⟨db, 0, none⟩)), (4, .pointer (some ⟨rb, 0, none⟩)), (6, .int .i64 ii), (7, .bool true)]) (fun y => y.M) (fun y => y.hp ++ (y.hq ++ H))
  · (repeat' (first | (apply R.step; (apply Ok.move; exact rfl); exact rfl) | (apply R.step; (apply Ok.loadP; exact rfl; exact rfl; exact hMb4; exact c0); exact rfl) | refine a_go ?_ | (with_reducible apply Fin.thenK; assumption) | (with_reducible (first | apply C.seqK | apply C.regionK); intro _ _) | (apply R.buildSlice0; exact rfl; intro bz) | (apply R.box; exact rfl; (simp only [Value.cells]; rfl); exact rfl; intro bx) | (apply R.alloc; (simp only [Value.cells]; rfl); exact rfl; intro ba) | (apply R.buildSlice; (exact a_prt); exact rfl; exact rfl; (exact a_fills); exact rfl; intro bl) | (refine a_sp ?_ ?_; (intro h; skip; rotate_left; intro h; skip; rotate_left)) | fail))
    (apply R.call; (exact a_evs); exact rfl; exact pick_K w 9 (by decide) (by decide); rintro _ M4 _ ⟨rfl, rfl, rfl⟩)
    by_cases h5 : w % 9 = 5
    · (repeat' (first | (apply R.step; (apply Ok.move; exact rfl); exact rfl) | (apply R.step; (first | (apply Ok.eqIR; exact rfl; exact rfl; exact h5)); exact rfl) | refine a_go ?_ | (with_reducible apply Fin.thenK; assumption) | (with_reducible (first | apply C.seqK | apply C.regionK); intro _ _) | (apply R.buildSlice0; exact rfl; intro bz) | (apply R.box; exact rfl; (simp only [Value.cells]; rfl); exact rfl; intro bx) | (apply R.alloc; (simp only [Value.cells]; rfl); exact rfl; intro ba) | (apply R.buildSlice; (exact a_prt); exact rfl; exact rfl; (exact a_fills); exact rfl; intro bl) | (refine a_sp ?_ ?_; (intro h; skip; rotate_left; intro h; skip; rotate_left)) | fail))
      (apply R.call; (exact a_evs); exact rfl; exact sync_K ho4; rintro _ M5 _ ⟨rfl, rfl, hp5, ho5, rfl⟩)
      (repeat' (first | refine a_go ?_ | (with_reducible apply Fin.thenK; assumption) | (with_reducible (first | apply C.seqK | apply C.regionK); intro _ _) | (apply R.buildSlice0; exact rfl; intro bz) | (apply R.box; exact rfl; (simp only [Value.cells]; rfl); exact rfl; intro bx) | (apply R.alloc; (simp only [Value.cells]; rfl); exact rfl; intro ba) | (apply R.buildSlice; (exact a_prt); exact rfl; exact rfl; (exact a_fills); exact rfl; intro bl) | (refine a_sp ?_ ?_; (intro h; skip; rotate_left; intro h; skip; rotate_left)) | fail))
      apply R.arr (H2 := hq4 ++ (hp5 ++ H)) (by ((try simp only [List.append_assoc, List.cons_append, List.nil_append, List.append_nil]); exact a_arr))
      (apply R.call; (exact a_evs); exact rfl; exact rsync_K hr4; rintro _ M5 _ ⟨rfl, rfl, hq5, hr5, rfl⟩)
      have := synD_sz d4
      (repeat' (first | (apply R.step; (apply Ok.move; exact rfl); exact rfl) | (apply R.step; (apply Ok.eqIR; exact rfl; exact rfl; exact rfl); exact rfl) | refine a_go ?_ | (with_reducible apply Fin.thenK; assumption) | (with_reducible (first | apply C.seqK | apply C.regionK); intro _ _) | (apply R.buildSlice0; exact rfl; intro bz) | (apply R.box; exact rfl; (simp only [Value.cells]; rfl); exact rfl; intro bx) | (apply R.alloc; (simp only [Value.cells]; rfl); exact rfl; intro ba) | (apply R.buildSlice; (exact a_prt); exact rfl; exact rfl; (exact a_fills); exact rfl; intro bl) | (refine a_sp ?_ ?_; (intro h; skip; rotate_left; intro h; skip; rotate_left)) | fail))
      (apply Fin.arr (H2 := hp5 ++ (hq5 ++ H)); ((try simp only [List.append_assoc, List.cons_append, List.nil_append, List.append_nil]); exact a_arr))
      refine Fin.join (⟨i, ii, synD d4, hp5, hq5, M5⟩ : PpX) ⟨by dsimp only; omega, Mem.le_refl _, ho5, hr5⟩ ?_ rfl rfl
      (exact a_subs)
    by_cases h6 : w % 9 = 6
    · (repeat' (first | (apply R.step; (apply Ok.move; exact rfl); exact rfl) | (apply R.step; (first | (apply Ok.eqIF; exact rfl; exact rfl; exact h5) | (apply Ok.eqIR; exact rfl; exact rfl; exact h6)); exact rfl) | refine a_go ?_ | (with_reducible apply Fin.thenK; assumption) | (with_reducible (first | apply C.seqK | apply C.regionK); intro _ _) | (apply R.buildSlice0; exact rfl; intro bz) | (apply R.box; exact rfl; (simp only [Value.cells]; rfl); exact rfl; intro bx) | (apply R.alloc; (simp only [Value.cells]; rfl); exact rfl; intro ba) | (apply R.buildSlice; (exact a_prt); exact rfl; exact rfl; (exact a_fills); exact rfl; intro bl) | (refine a_sp ?_ ?_; (intro h; skip; rotate_left; intro h; skip; rotate_left)) | fail))
      (apply R.call; (exact a_evs); exact rfl; exact sync_K ho4; rintro _ M5 _ ⟨rfl, rfl, hp5, ho5, rfl⟩)
      (repeat' (first | refine a_go ?_ | (with_reducible apply Fin.thenK; assumption) | (with_reducible (first | apply C.seqK | apply C.regionK); intro _ _) | (apply R.buildSlice0; exact rfl; intro bz) | (apply R.box; exact rfl; (simp only [Value.cells]; rfl); exact rfl; intro bx) | (apply R.alloc; (simp only [Value.cells]; rfl); exact rfl; intro ba) | (apply R.buildSlice; (exact a_prt); exact rfl; exact rfl; (exact a_fills); exact rfl; intro bl) | (refine a_sp ?_ ?_; (intro h; skip; rotate_left; intro h; skip; rotate_left)) | fail))
      apply R.arr (H2 := hq4 ++ (hp5 ++ H)) (by ((try simp only [List.append_assoc, List.cons_append, List.nil_append, List.append_nil]); exact a_arr))
      (apply R.call; (exact a_evs); exact rfl; exact rsync_K hr4; rintro _ M5 _ ⟨rfl, rfl, hq5, hr5, rfl⟩)
      have := synD_sz d4
      (repeat' (first | (apply R.step; (apply Ok.move; exact rfl); exact rfl) | (apply R.step; (apply Ok.eqIR; exact rfl; exact rfl; exact rfl); exact rfl) | refine a_go ?_ | (with_reducible apply Fin.thenK; assumption) | (with_reducible (first | apply C.seqK | apply C.regionK); intro _ _) | (apply R.buildSlice0; exact rfl; intro bz) | (apply R.box; exact rfl; (simp only [Value.cells]; rfl); exact rfl; intro bx) | (apply R.alloc; (simp only [Value.cells]; rfl); exact rfl; intro ba) | (apply R.buildSlice; (exact a_prt); exact rfl; exact rfl; (exact a_fills); exact rfl; intro bl) | (refine a_sp ?_ ?_; (intro h; skip; rotate_left; intro h; skip; rotate_left)) | fail))
      (apply Fin.arr (H2 := hp5 ++ (hq5 ++ H)); ((try simp only [List.append_assoc, List.cons_append, List.nil_append, List.append_nil]); exact a_arr))
      refine Fin.join (⟨i, ii, synD d4, hp5, hq5, M5⟩ : PpX) ⟨by dsimp only; omega, Mem.le_refl _, ho5, hr5⟩ ?_ rfl rfl
      (exact a_subs)
    by_cases h7 : w % 9 = 7
    · (repeat' (first | (apply R.step; (apply Ok.move; exact rfl); exact rfl) | (apply R.step; (first | (apply Ok.eqIF; exact rfl; exact rfl; exact h5) | (apply Ok.eqIF; exact rfl; exact rfl; exact h6) | (apply Ok.eqIR; exact rfl; exact rfl; exact h7)); exact rfl) | refine a_go ?_ | (with_reducible apply Fin.thenK; assumption) | (with_reducible (first | apply C.seqK | apply C.regionK); intro _ _) | (apply R.buildSlice0; exact rfl; intro bz) | (apply R.box; exact rfl; (simp only [Value.cells]; rfl); exact rfl; intro bx) | (apply R.alloc; (simp only [Value.cells]; rfl); exact rfl; intro ba) | (apply R.buildSlice; (exact a_prt); exact rfl; exact rfl; (exact a_fills); exact rfl; intro bl) | (refine a_sp ?_ ?_; (intro h; skip; rotate_left; intro h; skip; rotate_left)) | fail))
      (apply R.call; (exact a_evs); exact rfl; exact popen_K ho4 (by omega); rintro _ M5 _ ⟨vd5, rfl, hb5, hM5, hp5, ho5, rfl⟩)
      have hos := openP_sz d4
      generalize hoz : openP d4 = z at ho5 hos hb5
      obtain ⟨ze, zd, zo⟩ := z
      dsimp only at ho5 hos hb5 ⊢
      have hb5' := hb5
      unfold PlB at hb5'
      obtain ⟨A5, c5, rfl, _, _, _⟩ := hb5'
      generalize hzs : sn0 zo = zs at hb5
      obtain ⟨zi, zt, zc, zb⟩ := zs
      unfold snV snC
      dsimp only at hb5 ⊢
      (repeat' (first | (apply R.step; (exact a_ok); exact rfl) | (first | (with_reducible first | apply R.nil | apply C.ret | apply C.block | apply C.skip | apply C.exit | apply Fin.thenRet | apply Fin.thenExit | apply Fin.blockNormal | apply Fin.blockRet | apply Fin.blockExit) | (with_reducible apply Fin.thenK; assumption) | (with_reducible apply C.seqK; intro _ _) | (with_reducible apply C.regionK; intro _ _) | (with_reducible apply Fin.blockOther; exact rfl)) | (apply R.store; exact rfl; exact rfl; exact rfl; (exact a_at); (exact a_blit); exact rfl; (focus (simp [Value.oneCell']; done))) | (first | (apply R.guardT; assumption; exact rfl; exact rfl; exact rfl) | (apply R.guardF; assumption; exact rfl; exact rfl; exact rfl; exact rfl; exact rfl) | (apply R.guardU; assumption; exact rfl; exact rfl; exact rfl; exact rfl) | (apply R.guardDec; assumption; exact rfl; exact rfl; (intro h; skip; rotate_left; intro h; skip; rotate_left)) | (apply R.guardBeq; assumption; exact rfl; exact rfl; (intro h; skip; rotate_left; intro h; skip; rotate_left)) | (apply R.guardBne; assumption; exact rfl; exact rfl; (intro h; skip; rotate_left; intro h; skip; rotate_left)) | (apply R.guardNDec; assumption; exact rfl; exact rfl; (intro h; skip; rotate_left; intro h; skip; rotate_left)) | (apply R.guardNot; assumption; exact rfl; exact rfl; (intro h; skip; rotate_left; intro h; skip; rotate_left)) | (apply R.guardC; assumption; exact rfl; exact rfl; (intro h; skip; rotate_left; intro h; skip; rotate_left))) | (first | (apply C.condT; exact rfl) | (apply C.condF; exact rfl) | (apply C.condDec; exact rfl; (intro h; skip; rotate_left; intro h; skip; rotate_left)) | (apply C.condBeq; exact rfl; (intro h; skip; rotate_left; intro h; skip; rotate_left)) | (apply C.condBne; exact rfl; (intro h; skip; rotate_left; intro h; skip; rotate_left)) | (apply C.condNDec; exact rfl; (intro h; skip; rotate_left; intro h; skip; rotate_left)) | (apply C.condNot; exact rfl; (intro h; skip; rotate_left; intro h; skip; rotate_left)) | (apply C.cond; exact rfl; (intro h; skip; rotate_left; intro h; skip; rotate_left)))))
      ((apply R.alloc; (simp only [Value.cells]; rfl); exact rfl); intro ba)
      (repeat' (first | refine a_go ?_ | (with_reducible apply Fin.thenK; assumption) | (with_reducible (first | apply C.seqK | apply C.regionK); intro _ _) | (apply R.buildSlice0; exact rfl; intro bz) | (apply R.box; exact rfl; (simp only [Value.cells]; rfl); exact rfl; intro bx) | (apply R.alloc; (simp only [Value.cells]; rfl); exact rfl; intro ba) | (apply R.buildSlice; (exact a_prt); exact rfl; exact rfl; (exact a_fills); exact rfl; intro bl) | (refine a_sp ?_ ?_; (intro h; skip; rotate_left; intro h; skip; rotate_left)) | fail))
      apply R.arr (H2 := hq4 ++ ((ba, .cells #[.int .u64 (zi : Int), .int .u64 (zt : Int), .int .i64 zc, .slice A5 zb.length c5] 34 (0, 0)) :: (hp5 ++ H))) (by ((try simp only [List.append_assoc, List.cons_append, List.nil_append, List.append_nil]); exact a_arr))
      (apply R.call; (exact a_evs); exact rfl; exact ropenP_K (hr4.mono hM5) (by omega); rintro _ M6 _ ⟨vd6, rfl, hb6, hM6, hq6, hr6, rfl⟩)
      rw [hoz] at hr6 hb6 ⊢
      dsimp only at hr6 hb6 ⊢
      rw [hzs] at hb6 ⊢
      have hb6' := hb6
      unfold PlB at hb6'
      obtain ⟨A6, c6, rfl, _, _, _⟩ := hb6'
      unfold snV snC
      dsimp only at hb6 ⊢
      (repeat' (first | (apply R.step; (exact a_ok); exact rfl) | (first | (with_reducible first | apply R.nil | apply C.ret | apply C.block | apply C.skip | apply C.exit | apply Fin.thenRet | apply Fin.thenExit | apply Fin.blockNormal | apply Fin.blockRet | apply Fin.blockExit) | (with_reducible apply Fin.thenK; assumption) | (with_reducible apply C.seqK; intro _ _) | (with_reducible apply C.regionK; intro _ _) | (with_reducible apply Fin.blockOther; exact rfl)) | (apply R.store; exact rfl; exact rfl; exact rfl; (exact a_at); (exact a_blit); exact rfl; (focus (simp [Value.oneCell']; done))) | (first | (apply R.guardT; assumption; exact rfl; exact rfl; exact rfl) | (apply R.guardF; assumption; exact rfl; exact rfl; exact rfl; exact rfl; exact rfl) | (apply R.guardU; assumption; exact rfl; exact rfl; exact rfl; exact rfl) | (apply R.guardDec; assumption; exact rfl; exact rfl; (intro h; skip; rotate_left; intro h; skip; rotate_left)) | (apply R.guardBeq; assumption; exact rfl; exact rfl; (intro h; skip; rotate_left; intro h; skip; rotate_left)) | (apply R.guardBne; assumption; exact rfl; exact rfl; (intro h; skip; rotate_left; intro h; skip; rotate_left)) | (apply R.guardNDec; assumption; exact rfl; exact rfl; (intro h; skip; rotate_left; intro h; skip; rotate_left)) | (apply R.guardNot; assumption; exact rfl; exact rfl; (intro h; skip; rotate_left; intro h; skip; rotate_left)) | (apply R.guardC; assumption; exact rfl; exact rfl; (intro h; skip; rotate_left; intro h; skip; rotate_left))) | (first | (apply C.condT; exact rfl) | (apply C.condF; exact rfl) | (apply C.condDec; exact rfl; (intro h; skip; rotate_left; intro h; skip; rotate_left)) | (apply C.condBeq; exact rfl; (intro h; skip; rotate_left; intro h; skip; rotate_left)) | (apply C.condBne; exact rfl; (intro h; skip; rotate_left; intro h; skip; rotate_left)) | (apply C.condNDec; exact rfl; (intro h; skip; rotate_left; intro h; skip; rotate_left)) | (apply C.condNot; exact rfl; (intro h; skip; rotate_left; intro h; skip; rotate_left)) | (apply C.cond; exact rfl; (intro h; skip; rotate_left; intro h; skip; rotate_left)))))
      ((apply R.alloc; (simp only [Value.cells]; rfl); exact rfl); intro bb)
      (repeat' (first | refine a_go ?_ | (with_reducible apply Fin.thenK; assumption) | (with_reducible (first | apply C.seqK | apply C.regionK); intro _ _) | (apply R.buildSlice0; exact rfl; intro bz) | (apply R.box; exact rfl; (simp only [Value.cells]; rfl); exact rfl; intro bx) | (apply R.alloc; (simp only [Value.cells]; rfl); exact rfl; intro ba) | (apply R.buildSlice; (exact a_prt); exact rfl; exact rfl; (exact a_fills); exact rfl; intro bl) | (refine a_sp ?_ ?_; (intro h; skip; rotate_left; intro h; skip; rotate_left)) | fail))
      (apply R.call; (exact a_evs); exact rfl; exact psame_T (i := zi) (t := zt) (c := zc) (a := zb) (hb5.mono hM6) hb6; rintro _ M6 _ ⟨rfl, rfl, rfl⟩)
      (repeat' (first | (apply R.step; (apply Ok.move; exact rfl); exact rfl) | (apply R.step; (first | (apply Ok.eqBoS; exact rfl; exact rfl) | (apply Ok.eqIR; exact rfl; exact rfl; exact rfl)); exact rfl) | refine a_go ?_ | (with_reducible apply Fin.thenK; assumption) | (with_reducible (first | apply C.seqK | apply C.regionK); intro _ _) | (apply R.buildSlice0; exact rfl; intro bz) | (apply R.box; exact rfl; (simp only [Value.cells]; rfl); exact rfl; intro bx) | (apply R.alloc; (simp only [Value.cells]; rfl); exact rfl; intro ba) | (apply R.buildSlice; (exact a_prt); exact rfl; exact rfl; (exact a_fills); exact rfl; intro bl) | (refine a_sp ?_ ?_; (intro h; skip; rotate_left; intro h; skip; rotate_left)) | fail))
      (apply Fin.arr (H2 := hp5 ++ (hq6 ++ H)); ((try simp only [List.append_assoc, List.cons_append, List.nil_append, List.append_nil]); exact a_arr))
      refine Fin.join (⟨i, ii, zd, hp5, hq6, M6⟩ : PpX) ⟨by dsimp only; omega, hM5.trans_ hM6, ho5.mono hM6, hr6⟩ ?_ rfl rfl
      (exact a_subs)
    by_cases h8 : w % 9 = 8
    · (repeat' (first | (apply R.step; (apply Ok.move; exact rfl); exact rfl) | (apply R.step; (first | (apply Ok.eqIF; exact rfl; exact rfl; exact h5) | (apply Ok.eqIF; exact rfl; exact rfl; exact h6) | (apply Ok.eqIF; exact rfl; exact rfl; exact h7) | (apply Ok.eqIR; exact rfl; exact rfl; exact h8)); exact rfl) | refine a_go ?_ | (with_reducible apply Fin.thenK; assumption) | (with_reducible (first | apply C.seqK | apply C.regionK); intro _ _) | (apply R.buildSlice0; exact rfl; intro bz) | (apply R.box; exact rfl; (simp only [Value.cells]; rfl); exact rfl; intro bx) | (apply R.alloc; (simp only [Value.cells]; rfl); exact rfl; intro ba) | (apply R.buildSlice; (exact a_prt); exact rfl; exact rfl; (exact a_fills); exact rfl; intro bl) | (refine a_sp ?_ ?_; (intro h; skip; rotate_left; intro h; skip; rotate_left)) | fail))
      (apply R.call; (exact a_evs); exact rfl; exact popen_K ho4 (by omega); rintro _ M5 _ ⟨vd5, rfl, hb5, hM5, hp5, ho5, rfl⟩)
      have hos := openP_sz d4
      generalize hoz : openP d4 = z at ho5 hos hb5
      obtain ⟨ze, zd, zo⟩ := z
      dsimp only at ho5 hos hb5 ⊢
      have hb5' := hb5
      unfold PlB at hb5'
      obtain ⟨A5, c5, rfl, _, _, _⟩ := hb5'
      generalize hzs : sn0 zo = zs at hb5
      obtain ⟨zi, zt, zc, zb⟩ := zs
      unfold snV snC
      dsimp only at hb5 ⊢
      (repeat' (first | (apply R.step; (exact a_ok); exact rfl) | (first | (with_reducible first | apply R.nil | apply C.ret | apply C.block | apply C.skip | apply C.exit | apply Fin.thenRet | apply Fin.thenExit | apply Fin.blockNormal | apply Fin.blockRet | apply Fin.blockExit) | (with_reducible apply Fin.thenK; assumption) | (with_reducible apply C.seqK; intro _ _) | (with_reducible apply C.regionK; intro _ _) | (with_reducible apply Fin.blockOther; exact rfl)) | (apply R.store; exact rfl; exact rfl; exact rfl; (exact a_at); (exact a_blit); exact rfl; (focus (simp [Value.oneCell']; done))) | (first | (apply R.guardT; assumption; exact rfl; exact rfl; exact rfl) | (apply R.guardF; assumption; exact rfl; exact rfl; exact rfl; exact rfl; exact rfl) | (apply R.guardU; assumption; exact rfl; exact rfl; exact rfl; exact rfl) | (apply R.guardDec; assumption; exact rfl; exact rfl; (intro h; skip; rotate_left; intro h; skip; rotate_left)) | (apply R.guardBeq; assumption; exact rfl; exact rfl; (intro h; skip; rotate_left; intro h; skip; rotate_left)) | (apply R.guardBne; assumption; exact rfl; exact rfl; (intro h; skip; rotate_left; intro h; skip; rotate_left)) | (apply R.guardNDec; assumption; exact rfl; exact rfl; (intro h; skip; rotate_left; intro h; skip; rotate_left)) | (apply R.guardNot; assumption; exact rfl; exact rfl; (intro h; skip; rotate_left; intro h; skip; rotate_left)) | (apply R.guardC; assumption; exact rfl; exact rfl; (intro h; skip; rotate_left; intro h; skip; rotate_left))) | (first | (apply C.condT; exact rfl) | (apply C.condF; exact rfl) | (apply C.condDec; exact rfl; (intro h; skip; rotate_left; intro h; skip; rotate_left)) | (apply C.condBeq; exact rfl; (intro h; skip; rotate_left; intro h; skip; rotate_left)) | (apply C.condBne; exact rfl; (intro h; skip; rotate_left; intro h; skip; rotate_left)) | (apply C.condNDec; exact rfl; (intro h; skip; rotate_left; intro h; skip; rotate_left)) | (apply C.condNot; exact rfl; (intro h; skip; rotate_left; intro h; skip; rotate_left)) | (apply C.cond; exact rfl; (intro h; skip; rotate_left; intro h; skip; rotate_left)))))
      ((apply R.alloc; (simp only [Value.cells]; rfl); exact rfl); intro ba)
      (repeat' (first | refine a_go ?_ | (with_reducible apply Fin.thenK; assumption) | (with_reducible (first | apply C.seqK | apply C.regionK); intro _ _) | (apply R.buildSlice0; exact rfl; intro bz) | (apply R.box; exact rfl; (simp only [Value.cells]; rfl); exact rfl; intro bx) | (apply R.alloc; (simp only [Value.cells]; rfl); exact rfl; intro ba) | (apply R.buildSlice; (exact a_prt); exact rfl; exact rfl; (exact a_fills); exact rfl; intro bl) | (refine a_sp ?_ ?_; (intro h; skip; rotate_left; intro h; skip; rotate_left)) | fail))
      apply R.arr (H2 := hq4 ++ ((ba, .cells #[.int .u64 (zi : Int), .int .u64 (zt : Int), .int .i64 zc, .slice A5 zb.length c5] 34 (0, 0)) :: (hp5 ++ H))) (by ((try simp only [List.append_assoc, List.cons_append, List.nil_append, List.append_nil]); exact a_arr))
      (apply R.call; (exact a_evs); exact rfl; exact ropenP_K (hr4.mono hM5) (by omega); rintro _ M6 _ ⟨vd6, rfl, hb6, hM6, hq6, hr6, rfl⟩)
      rw [hoz] at hr6 hb6 ⊢
      dsimp only at hr6 hb6 ⊢
      rw [hzs] at hb6 ⊢
      have hb6' := hb6
      unfold PlB at hb6'
      obtain ⟨A6, c6, rfl, _, _, _⟩ := hb6'
      unfold snV snC
      dsimp only at hb6 ⊢
      (repeat' (first | (apply R.step; (exact a_ok); exact rfl) | (first | (with_reducible first | apply R.nil | apply C.ret | apply C.block | apply C.skip | apply C.exit | apply Fin.thenRet | apply Fin.thenExit | apply Fin.blockNormal | apply Fin.blockRet | apply Fin.blockExit) | (with_reducible apply Fin.thenK; assumption) | (with_reducible apply C.seqK; intro _ _) | (with_reducible apply C.regionK; intro _ _) | (with_reducible apply Fin.blockOther; exact rfl)) | (apply R.store; exact rfl; exact rfl; exact rfl; (exact a_at); (exact a_blit); exact rfl; (focus (simp [Value.oneCell']; done))) | (first | (apply R.guardT; assumption; exact rfl; exact rfl; exact rfl) | (apply R.guardF; assumption; exact rfl; exact rfl; exact rfl; exact rfl; exact rfl) | (apply R.guardU; assumption; exact rfl; exact rfl; exact rfl; exact rfl) | (apply R.guardDec; assumption; exact rfl; exact rfl; (intro h; skip; rotate_left; intro h; skip; rotate_left)) | (apply R.guardBeq; assumption; exact rfl; exact rfl; (intro h; skip; rotate_left; intro h; skip; rotate_left)) | (apply R.guardBne; assumption; exact rfl; exact rfl; (intro h; skip; rotate_left; intro h; skip; rotate_left)) | (apply R.guardNDec; assumption; exact rfl; exact rfl; (intro h; skip; rotate_left; intro h; skip; rotate_left)) | (apply R.guardNot; assumption; exact rfl; exact rfl; (intro h; skip; rotate_left; intro h; skip; rotate_left)) | (apply R.guardC; assumption; exact rfl; exact rfl; (intro h; skip; rotate_left; intro h; skip; rotate_left))) | (first | (apply C.condT; exact rfl) | (apply C.condF; exact rfl) | (apply C.condDec; exact rfl; (intro h; skip; rotate_left; intro h; skip; rotate_left)) | (apply C.condBeq; exact rfl; (intro h; skip; rotate_left; intro h; skip; rotate_left)) | (apply C.condBne; exact rfl; (intro h; skip; rotate_left; intro h; skip; rotate_left)) | (apply C.condNDec; exact rfl; (intro h; skip; rotate_left; intro h; skip; rotate_left)) | (apply C.condNot; exact rfl; (intro h; skip; rotate_left; intro h; skip; rotate_left)) | (apply C.cond; exact rfl; (intro h; skip; rotate_left; intro h; skip; rotate_left)))))
      ((apply R.alloc; (simp only [Value.cells]; rfl); exact rfl); intro bb)
      (repeat' (first | refine a_go ?_ | (with_reducible apply Fin.thenK; assumption) | (with_reducible (first | apply C.seqK | apply C.regionK); intro _ _) | (apply R.buildSlice0; exact rfl; intro bz) | (apply R.box; exact rfl; (simp only [Value.cells]; rfl); exact rfl; intro bx) | (apply R.alloc; (simp only [Value.cells]; rfl); exact rfl; intro ba) | (apply R.buildSlice; (exact a_prt); exact rfl; exact rfl; (exact a_fills); exact rfl; intro bl) | (refine a_sp ?_ ?_; (intro h; skip; rotate_left; intro h; skip; rotate_left)) | fail))
      (apply R.call; (exact a_evs); exact rfl; exact psame_T (i := zi) (t := zt) (c := zc) (a := zb) (hb5.mono hM6) hb6; rintro _ M6 _ ⟨rfl, rfl, rfl⟩)
      (repeat' (first | (apply R.step; (apply Ok.move; exact rfl); exact rfl) | (apply R.step; (first | (apply Ok.eqBoS; exact rfl; exact rfl) | (apply Ok.eqIR; exact rfl; exact rfl; exact rfl)); exact rfl) | refine a_go ?_ | (with_reducible apply Fin.thenK; assumption) | (with_reducible (first | apply C.seqK | apply C.regionK); intro _ _) | (apply R.buildSlice0; exact rfl; intro bz) | (apply R.box; exact rfl; (simp only [Value.cells]; rfl); exact rfl; intro bx) | (apply R.alloc; (simp only [Value.cells]; rfl); exact rfl; intro ba) | (apply R.buildSlice; (exact a_prt); exact rfl; exact rfl; (exact a_fills); exact rfl; intro bl) | (refine a_sp ?_ ?_; (intro h; skip; rotate_left; intro h; skip; rotate_left)) | fail))
      (apply Fin.arr (H2 := hp5 ++ (hq6 ++ H)); ((try simp only [List.append_assoc, List.cons_append, List.nil_append, List.append_nil]); exact a_arr))
      refine Fin.join (⟨i, ii, zd, hp5, hq6, M6⟩ : PpX) ⟨by dsimp only; omega, hM5.trans_ hM6, ho5.mono hM6, hr6⟩ ?_ rfl rfl
      (exact a_subs)
    (repeat' (first | (apply R.step; (apply Ok.move; exact rfl); exact rfl) | (apply R.step; (first | (apply Ok.eqIF; exact rfl; exact rfl; exact h5) | (apply Ok.eqIF; exact rfl; exact rfl; exact h6) | (apply Ok.eqIF; exact rfl; exact rfl; exact h7) | (apply Ok.eqIF; exact rfl; exact rfl; exact h8) | (apply Ok.loadAggP (vs := [Value.int .i64 w, .int .u64 (si : Int), .int .u64 (st : Int), .int .i64 sc, v, .bool near, .int .i64 a, .int .i64 b', .int .i64 c]); exact rfl; exact rfl; exact hMb4; exact rfl; exact hall)); exact rfl) | refine a_go ?_ | (with_reducible apply Fin.thenK; assumption) | (with_reducible (first | apply C.seqK | apply C.regionK); intro _ _) | (apply R.buildSlice0; exact rfl; intro bz) | (apply R.box; exact rfl; (simp only [Value.cells]; rfl); exact rfl; intro bx) | (apply R.alloc; (simp only [Value.cells]; rfl); exact rfl; intro ba) | (apply R.buildSlice; (exact a_prt); exact rfl; exact rfl; (exact a_fills); exact rfl; intro bl) | (refine a_sp ?_ ?_; (intro h; skip; rotate_left; intro h; skip; rotate_left)) | fail))
    (apply R.call; (exact a_evs); exact rfl; exact pshaped_K (near := near) (i := si) (t := st) (c := sc) (bs := sb) hpb hrng.2.2.2 hrng.1 hrng.2.1; rintro _ M5 _ ⟨v5, rfl, hb5, hM5, rfl⟩)
    have hMb5 := hM5.2.2 _ _ hMb4
    have hshr := shapeP_rng (near := near) hrng
    have hb5' := hb5
    unfold PlB at hb5'
    obtain ⟨A5, c5, rfl, _, _, _⟩ := hb5'
    generalize hsh : shapeP near (si, st, sc, sb) = sh at hshr
    obtain ⟨i1, t1, c1, b1⟩ := sh
    obtain ⟨hs1, hs2, hs3⟩ := hshr
    dsimp only at hs1 hs2 hs3
    subst hs3
    unfold snV snC
    dsimp only
    (repeat' (first | (apply R.step; (exact a_ok); exact rfl) | (first | (with_reducible first | apply R.nil | apply C.ret | apply C.block | apply C.skip | apply C.exit | apply Fin.thenRet | apply Fin.thenExit | apply Fin.blockNormal | apply Fin.blockRet | apply Fin.blockExit) | (with_reducible apply Fin.thenK; assumption) | (with_reducible apply C.seqK; intro _ _) | (with_reducible apply C.regionK; intro _ _) | (with_reducible apply Fin.blockOther; exact rfl)) | (apply R.store; exact rfl; exact rfl; exact rfl; (exact a_at); (exact a_blit); exact rfl; (focus (simp [Value.oneCell']; done))) | (first | (apply R.guardT; assumption; exact rfl; exact rfl; exact rfl) | (apply R.guardF; assumption; exact rfl; exact rfl; exact rfl; exact rfl; exact rfl) | (apply R.guardU; assumption; exact rfl; exact rfl; exact rfl; exact rfl) | (apply R.guardDec; assumption; exact rfl; exact rfl; (intro h; skip; rotate_left; intro h; skip; rotate_left)) | (apply R.guardBeq; assumption; exact rfl; exact rfl; (intro h; skip; rotate_left; intro h; skip; rotate_left)) | (apply R.guardBne; assumption; exact rfl; exact rfl; (intro h; skip; rotate_left; intro h; skip; rotate_left)) | (apply R.guardNDec; assumption; exact rfl; exact rfl; (intro h; skip; rotate_left; intro h; skip; rotate_left)) | (apply R.guardNot; assumption; exact rfl; exact rfl; (intro h; skip; rotate_left; intro h; skip; rotate_left)) | (apply R.guardC; assumption; exact rfl; exact rfl; (intro h; skip; rotate_left; intro h; skip; rotate_left))) | (first | (apply C.condT; exact rfl) | (apply C.condF; exact rfl) | (apply C.condDec; exact rfl; (intro h; skip; rotate_left; intro h; skip; rotate_left)) | (apply C.condBeq; exact rfl; (intro h; skip; rotate_left; intro h; skip; rotate_left)) | (apply C.condBne; exact rfl; (intro h; skip; rotate_left; intro h; skip; rotate_left)) | (apply C.condNDec; exact rfl; (intro h; skip; rotate_left; intro h; skip; rotate_left)) | (apply C.condNot; exact rfl; (intro h; skip; rotate_left; intro h; skip; rotate_left)) | (apply C.cond; exact rfl; (intro h; skip; rotate_left; intro h; skip; rotate_left)))))
    ((apply R.alloc; (simp only [Value.cells]; rfl); exact rfl); intro ba)
    (repeat' (first | (apply R.step; (apply Ok.move; exact rfl); exact rfl) | (apply R.step; (apply Ok.loadAggP (vs := [Value.int .i64 w, .int .u64 (si : Int), .int .u64 (st : Int), .int .i64 sc, v, .bool near, .int .i64 a, .int .i64 b', .int .i64 c]); exact rfl; exact rfl; exact hMb5; exact rfl; exact hall); exact rfl) | refine a_go ?_ | (with_reducible apply Fin.thenK; assumption) | (with_reducible (first | apply C.seqK | apply C.regionK); intro _ _) | (apply R.buildSlice0; exact rfl; intro bz) | (apply R.box; exact rfl; (simp only [Value.cells]; rfl); exact rfl; intro bx) | (apply R.alloc; (simp only [Value.cells]; rfl); exact rfl; intro ba) | (apply R.buildSlice; (exact a_prt); exact rfl; exact rfl; (exact a_fills); exact rfl; intro bl) | (refine a_sp ?_ ?_; (intro h; skip; rotate_left; intro h; skip; rotate_left)) | fail))
    (apply R.call; (exact a_evs); exact rfl; exact pshaped_K (near := near) (i := si) (t := st) (c := sc) (bs := b1) (hpb.mono hM5) hrng.2.2.2 hrng.1 hrng.2.1; rintro _ M6 _ ⟨v6, rfl, hb6, hM6, rfl⟩)
    have hb6' := hb6
    unfold PlB at hb6'
    obtain ⟨A6, c6, rfl, _, _, q6⟩ := hb6'
    replace hb5 := hb5.mono hM6
    have hb5' := hb5
    unfold PlB at hb5'
    obtain ⟨A5', c5', e5, _, _, q5⟩ := hb5'
    cases e5
    rw [hsh]
    unfold snV snC
    dsimp only
    (repeat' (first | (apply R.step; (exact a_ok); exact rfl) | (first | (with_reducible first | apply R.nil | apply C.ret | apply C.block | apply C.skip | apply C.exit | apply Fin.thenRet | apply Fin.thenExit | apply Fin.blockNormal | apply Fin.blockRet | apply Fin.blockExit) | (with_reducible apply Fin.thenK; assumption) | (with_reducible apply C.seqK; intro _ _) | (with_reducible apply C.regionK; intro _ _) | (with_reducible apply Fin.blockOther; exact rfl)) | (apply R.store; exact rfl; exact rfl; exact rfl; (exact a_at); (exact a_blit); exact rfl; (focus (simp [Value.oneCell']; done))) | (first | (apply R.guardT; assumption; exact rfl; exact rfl; exact rfl) | (apply R.guardF; assumption; exact rfl; exact rfl; exact rfl; exact rfl; exact rfl) | (apply R.guardU; assumption; exact rfl; exact rfl; exact rfl; exact rfl) | (apply R.guardDec; assumption; exact rfl; exact rfl; (intro h; skip; rotate_left; intro h; skip; rotate_left)) | (apply R.guardBeq; assumption; exact rfl; exact rfl; (intro h; skip; rotate_left; intro h; skip; rotate_left)) | (apply R.guardBne; assumption; exact rfl; exact rfl; (intro h; skip; rotate_left; intro h; skip; rotate_left)) | (apply R.guardNDec; assumption; exact rfl; exact rfl; (intro h; skip; rotate_left; intro h; skip; rotate_left)) | (apply R.guardNot; assumption; exact rfl; exact rfl; (intro h; skip; rotate_left; intro h; skip; rotate_left)) | (apply R.guardC; assumption; exact rfl; exact rfl; (intro h; skip; rotate_left; intro h; skip; rotate_left))) | (first | (apply C.condT; exact rfl) | (apply C.condF; exact rfl) | (apply C.condDec; exact rfl; (intro h; skip; rotate_left; intro h; skip; rotate_left)) | (apply C.condBeq; exact rfl; (intro h; skip; rotate_left; intro h; skip; rotate_left)) | (apply C.condBne; exact rfl; (intro h; skip; rotate_left; intro h; skip; rotate_left)) | (apply C.condNDec; exact rfl; (intro h; skip; rotate_left; intro h; skip; rotate_left)) | (apply C.condNot; exact rfl; (intro h; skip; rotate_left; intro h; skip; rotate_left)) | (apply C.cond; exact rfl; (intro h; skip; rotate_left; intro h; skip; rotate_left)))))
    ((apply R.alloc; (simp only [Value.cells]; rfl); exact rfl); intro bb)
    (repeat' (first | refine a_go ?_ | (with_reducible apply Fin.thenK; assumption) | (with_reducible (first | apply C.seqK | apply C.regionK); intro _ _) | (apply R.buildSlice0; exact rfl; intro bz) | (apply R.box; exact rfl; (simp only [Value.cells]; rfl); exact rfl; intro bx) | (apply R.alloc; (simp only [Value.cells]; rfl); exact rfl; intro ba) | (apply R.buildSlice; (exact a_prt); exact rfl; exact rfl; (exact a_fills); exact rfl; intro bl) | (refine a_sp ?_ ?_; (intro h; skip; rotate_left; intro h; skip; rotate_left)) | fail))
    replace ho4 := (ho4.mono hM5).mono hM6
    replace hr4 := (hr4.mono hM5).mono hM6
    (apply C.regionT (t := .free 0 (.free 1 (.free 2 (.free 3 (.free 4 (.free 5 (.free 6 (.free 7 (.free 9 (.free 10 (.one 8 (.one 11 (.free 12 (.free 13 (.free 14 (.free 15 (.free 16 (.free 17 (.free 18 (.free 19 .nil)))))))))))))))))))) (Hs := [(bb, .cells #[.int .u64 ↑i1, .int .u64 ↑t1, .int .i64 c1, .slice A6 b1.length c6] 34 (0, 0)), (ba, .cells #[.int .u64 ↑i1, .int .u64 ↑t1, .int .i64 c1, .slice A5 b1.length c5] 34 (0, 0))]); exact Mix.h; (first | exact Arr.all _ | (exact a_arr) | ((try simp only [List.append_assoc, List.cons_append, List.nil_append, List.append_nil]); exact a_arr)); (exact a_np); kernel_rfl)
    (repeat' (first | (apply RT.step; exact rfl; intro _ _ _; (apply Ok.move; exact rfl); exact rfl) | (apply RT.callQ; exact rfl; exact inferInstance; (exact a_evs); exact rfl; (intro M' Hx' _; first | exact pright_K (i := i1) (t := t1) (c := c1) | exact rsnap9_K (i := i1) (t := t1) (c := c1))) | (apply RT.step; exact rfl; intro _ _ _; (apply Ok.eqBoS; exact rfl; exact rfl); exact rfl) | (first | (apply RT.step; exact rfl; intro _ _ _; (exact a_ok); exact rfl) | (apply RT.stepT; exact rfl; exact rfl; exact rfl; exact rfl; intro _ _ _; (exact a_ok); exact rfl) | (apply RT.stepF; exact rfl; exact rfl; exact rfl; exact rfl; exact rfl; exact rfl) | (apply RT.stepU; exact rfl; exact rfl; exact rfl; exact rfl; exact rfl) | (apply RT.one; apply OneT.effF; exact rfl; exact rfl; exact rfl; exact rfl; exact rfl; exact rfl) | (apply RT.one; apply OneT.effU; exact rfl; exact rfl; exact rfl; exact rfl; exact rfl))))
    (apply RT.one; apply OneT.effT; exact rfl; exact rfl; exact rfl; exact rfl; intro Kc hKc ops0)
    apply R.arr (H2 := hp4 ++ ((bb, .cells #[.int .u64 ↑i1, .int .u64 ↑t1, .int .i64 c1, .slice A6 b1.length c6] 34 (0, 0)) :: (ba, .cells #[.int .u64 ↑i1, .int .u64 ↑t1, .int .i64 c1, .slice A5 b1.length c5] 34 (0, 0)) :: (hq4 ++ H))) (by ((try simp only [List.append_assoc, List.cons_append, List.nil_append, List.append_nil]); exact a_arr))
    (apply R.call; (exact a_evs); exact rfl; exact psave_K (i := i1) (t := t1) (c := c1) (b := b1) ho4 (by omega) hs1 hs2 q6; rintro _ M7 _ ⟨rfl, hM7, hp7, ho7, rfl⟩)
    (apply R.nil; apply Fin.kt (Hx := hp7 ++ (hq4 ++ H)) hKc; exact hM7; ((try simp only [List.append_assoc, List.cons_append, List.nil_append, List.append_nil]); exact a_arr))
    (repeat' (first | (apply RT.step; exact rfl; intro _ _ _; (exact a_ok); exact rfl) | (apply RT.stepT; exact rfl; exact rfl; exact rfl; exact rfl; intro _ _ _; (exact a_ok); exact rfl) | (apply RT.stepF; exact rfl; exact rfl; exact rfl; exact rfl; exact rfl; exact rfl) | (apply RT.stepU; exact rfl; exact rfl; exact rfl; exact rfl; exact rfl) | (apply RT.one; apply OneT.effF; exact rfl; exact rfl; exact rfl; exact rfl; exact rfl; exact rfl) | (apply RT.one; apply OneT.effU; exact rfl; exact rfl; exact rfl; exact rfl; exact rfl)))
    (apply RT.one; apply OneT.effT; exact rfl; exact rfl; exact rfl; exact rfl; intro Kc hKc ops0)
    apply R.arr (H2 := hq4 ++ ((bb, .cells #[.int .u64 ↑i1, .int .u64 ↑t1, .int .i64 c1, .slice A6 b1.length c6] 34 (0, 0)) :: (ba, .cells #[.int .u64 ↑i1, .int .u64 ↑t1, .int .i64 c1, .slice A5 b1.length c5] 34 (0, 0)) :: (hp7 ++ H))) (by ((try simp only [List.append_assoc, List.cons_append, List.nil_append, List.append_nil]); exact a_arr))
    (apply R.call; (exact a_evs); exact rfl; exact rsaveP_K (i := i1) (t := t1) (c := c1) (b := b1) (hr4.mono hM7) (by omega) hs1 hs2 (q5.mono hM7); rintro _ M8 _ ⟨rfl, hM8, hq8, hr8, rfl⟩)
    (apply R.nil; apply Fin.kt (Hx := hp7 ++ (hq8 ++ H)) hKc; exact hM7.trans_ hM8; ((try simp only [List.append_assoc, List.cons_append, List.nil_append, List.append_nil]); exact a_arr))
    have hss := saveP_sz d4 i1 t1 c1 b1
    (repeat' (first | (apply RT.step; exact rfl; intro _ _ _; (apply Ok.move; exact rfl); exact rfl) | (apply RT.stepT; exact rfl; exact rfl; exact rfl; exact rfl; intro _ _ _; (apply Ok.eqIR; exact rfl; exact rfl; exact rfl); exact rfl) | (apply RT.callQT; exact rfl; exact inferInstance; exact rfl; exact rfl; exact rfl; (exact a_evs); exact rfl; (intro M' Hx' hM'; exact psame_T (i := i1) (t := t1) (c := c1) (a := b1) (hb6.mono hM') (hb5.mono hM'))) | (first | (apply RT.step; exact rfl; intro _ _ _; (exact a_ok); exact rfl) | (apply RT.stepT; exact rfl; exact rfl; exact rfl; exact rfl; intro _ _ _; (exact a_ok); exact rfl) | (apply RT.stepF; exact rfl; exact rfl; exact rfl; exact rfl; exact rfl; exact rfl) | (apply RT.stepU; exact rfl; exact rfl; exact rfl; exact rfl; exact rfl) | (apply RT.one; apply OneT.effF; exact rfl; exact rfl; exact rfl; exact rfl; exact rfl; exact rfl) | (apply RT.one; apply OneT.effU; exact rfl; exact rfl; exact rfl; exact rfl; exact rfl))))
    apply RT.nil
    (repeat' (first | refine a_go ?_ | (with_reducible apply Fin.thenK; assumption) | (with_reducible (first | apply C.seqK | apply C.regionK); intro _ _) | (apply R.buildSlice0; exact rfl; intro bz) | (apply R.box; exact rfl; (simp only [Value.cells]; rfl); exact rfl; intro bx) | (apply R.alloc; (simp only [Value.cells]; rfl); exact rfl; intro ba) | (apply R.buildSlice; (exact a_prt); exact rfl; exact rfl; (exact a_fills); exact rfl; intro bl) | (refine a_sp ?_ ?_; (intro h; skip; rotate_left; intro h; skip; rotate_left)) | fail))
    (apply Fin.arr (H2 := hp7 ++ (hq8 ++ H)); ((try simp only [List.append_assoc, List.cons_append, List.nil_append, List.append_nil]); exact a_arr))
    refine Fin.join (⟨i, ii, (saveP d4 i1 t1 c1 b1).2, hp7, hq8, M8⟩ : PpX) ⟨by dsimp only; omega, hM5.trans_ (hM6.trans_ (hM7.trans_ hM8)), ho7.mono hM8, hr8⟩ ?_ rfl rfl
    (exact a_subs)
  rintro ⟨_, _, d5, hp5, hq5, M5⟩ ⟨hsz5, hM5, ho5, hr5⟩
  dsimp only at hsz5 hM5 ho5 hr5 ⊢
  (repeat' (first | refine a_go ?_ | (with_reducible apply Fin.thenK; assumption) | (with_reducible (first | apply C.seqK | apply C.regionK); intro _ _) | (apply R.buildSlice0; exact rfl; intro bz) | (apply R.box; exact rfl; (simp only [Value.cells]; rfl); exact rfl; intro bx) | (apply R.alloc; (simp only [Value.cells]; rfl); exact rfl; intro ba) | (apply R.buildSlice; (exact a_prt); exact rfl; exact rfl; (exact a_fills); exact rfl; intro bl) | (refine a_sp ?_ ?_; (intro h; skip; rotate_left; intro h; skip; rotate_left)) | fail))
  (apply R.call; (exact a_evs); exact rfl; exact sameDisk_K ho5 hr5 (by omega); rintro _ M6 _ ⟨rfl, hM6, rfl⟩)
  (repeat' (first | refine a_go ?_ | (with_reducible apply Fin.thenK; assumption) | (with_reducible (first | apply C.seqK | apply C.regionK); intro _ _) | (apply R.buildSlice0; exact rfl; intro bz) | (apply R.box; exact rfl; (simp only [Value.cells]; rfl); exact rfl; intro bx) | (apply R.alloc; (simp only [Value.cells]; rfl); exact rfl; intro ba) | (apply R.buildSlice; (exact a_prt); exact rfl; exact rfl; (exact a_fills); exact rfl; intro bl) | (refine a_sp ?_ ?_; (intro h; skip; rotate_left; intro h; skip; rotate_left)) | fail))
  refine Fin.again (⟨i + 1, ii + 1, d5, hp5, hq5, M6⟩ : PpX) ⟨by dsimp only; omega, by dsimp only; omega, by dsimp only; omega, hM3.trans_ (hM4.trans_ (hM5.trans_ hM6)), ho5.mono hM6, hr5.mono hM6⟩ (by dsimp only; omega) ?_ rfl rfl
  (exact a_subs)
end Go.Sx
end
