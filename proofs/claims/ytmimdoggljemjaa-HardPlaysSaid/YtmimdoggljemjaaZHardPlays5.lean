import Derived.Test.YtmimdoggljemjaaZHardPlays4
section
namespace Go.Sx
open Go Go.Proofs Go.RowKit
attribute [local irreducible] C R Fin K Own OwnT Rd Pl Ok KOf RetOk OpsOf RP KP Res NoPanic KV KE MapS ItS EntS FsO FsR RowD PlD DkO PlFs RT KT OneT RS KS OneS RdO
variable {M M' : Mem} {H H1 H2 : Hp}
theorem rframe_KF {A : Option Addr} {cap m : Nat} {bs : List UInt8} (hpl : Pl M A (bs.map bv)) (hm : bs.length = m) (hb : m ≤ 140737488351232) : K Try.prog 30 [.slice A m cap] M H fun v M' H' =>
    PlB M' v (frameS bs) ∧ M.le M' ∧ H' = H := by
  subst hm
  refine (rframe_K hpl hb).freezeT ?_
  rintro v M' H' ⟨hp, h1, rfl, rfl⟩
  exact ⟨hp, _, Arr.all _, fun M2 hM2 hin => ⟨h1.plB hin, hM2, rfl⟩⟩
theorem rrightH_K {t : Nat} {v : Int} : K Try.prog 36 [.agg (hrdC t v).toArray] M H fun v' M' H' => v' = .bool (rightH t v) ∧ M' = M ∧ H' = H := by
  refine K.enterK Try.func36 rfl rfl rfl ?_
  intro Q hNP hQ
  unfold hrdC
  by_cases h1 : t ≤ 72057594037927935
  · by_cases h2 : 0 ≤ v
    · have hE : rightH t v = decide (v ≤ 7) := by
        unfold rightH
        rw [decide_eq_true h1, decide_eq_true h2]
        rfl
      rw [hE] at hQ
      (repeat' (first | (apply R.step; (apply Ok.move; exact rfl); exact rfl) | (apply R.step; (first | (apply Ok.leTr; exact rfl; exact rfl; omega) | (apply Ok.geTr; exact rfl; exact rfl; omega)); exact rfl) | refine a_go ?_ | (with_reducible apply Fin.thenK; assumption) | (with_reducible (first | apply C.seqK | apply C.regionK); intro _ _) | (apply R.buildSlice0; exact rfl; intro bz) | (apply R.box; exact rfl; (simp only [Value.cells]; rfl); exact rfl; intro bx) | (apply R.alloc; (simp only [Value.cells]; rfl); exact rfl; intro ba) | (apply R.buildSlice; (exact a_prt); exact rfl; exact rfl; (exact a_fills); exact rfl; intro bl) | (refine a_sp ?_ ?_; (intro h; skip; rotate_left; intro h; skip; rotate_left)) | fail))
      (apply Fin.returnA (H2 := H); assumption; (first | exact .inl rfl | exact .inr rfl); exact rfl; (exact a_res); (simp only [retv]; rfl); (exact a_arr))
      exact ⟨rfl, rfl, rfl⟩
    · have hE : rightH t v = false := by
        unfold rightH
        rw [decide_eq_false h2]
        simp
      rw [hE] at hQ
      (repeat' (first | (apply R.step; (apply Ok.move; exact rfl); exact rfl) | (apply R.step; (first | (apply Ok.ltTr; exact rfl; exact rfl; omega) | (apply Ok.ltF; exact rfl; exact rfl; omega) | (apply Ok.gtTr; exact rfl; exact rfl; omega) | (apply Ok.gtF; exact rfl; exact rfl; omega) | (apply Ok.geTr; exact rfl; exact rfl; omega) | (apply Ok.geF; exact rfl; exact rfl; omega) | (apply Ok.leTr; exact rfl; exact rfl; omega) | (apply Ok.leF; exact rfl; exact rfl; omega) | (apply Ok.neIT; exact rfl; exact rfl; omega) | (apply Ok.eqIF; exact rfl; exact rfl; omega)); exact rfl) | refine a_go ?_ | (with_reducible apply Fin.thenK; assumption) | (with_reducible (first | apply C.seqK | apply C.regionK); intro _ _) | (apply R.buildSlice0; exact rfl; intro bz) | (apply R.box; exact rfl; (simp only [Value.cells]; rfl); exact rfl; intro bx) | (apply R.alloc; (simp only [Value.cells]; rfl); exact rfl; intro ba) | (apply R.buildSlice; (exact a_prt); exact rfl; exact rfl; (exact a_fills); exact rfl; intro bl) | (refine a_sp ?_ ?_; (intro h; skip; rotate_left; intro h; skip; rotate_left)) | fail))
      (apply Fin.returnA (H2 := H); assumption; (first | exact .inl rfl | exact .inr rfl); exact rfl; (exact a_res); (simp only [retv]; rfl); (exact a_arr))
      exact ⟨rfl, rfl, rfl⟩
  · have hE : rightH t v = false := by
      unfold rightH
      rw [decide_eq_false h1]
      simp
    rw [hE] at hQ
    (repeat' (first | (apply R.step; (apply Ok.move; exact rfl); exact rfl) | (apply R.step; (first | (apply Ok.ltTr; exact rfl; exact rfl; omega) | (apply Ok.ltF; exact rfl; exact rfl; omega) | (apply Ok.gtTr; exact rfl; exact rfl; omega) | (apply Ok.gtF; exact rfl; exact rfl; omega) | (apply Ok.geTr; exact rfl; exact rfl; omega) | (apply Ok.geF; exact rfl; exact rfl; omega) | (apply Ok.leTr; exact rfl; exact rfl; omega) | (apply Ok.leF; exact rfl; exact rfl; omega) | (apply Ok.neIT; exact rfl; exact rfl; omega) | (apply Ok.eqIF; exact rfl; exact rfl; omega)); exact rfl) | refine a_go ?_ | (with_reducible apply Fin.thenK; assumption) | (with_reducible (first | apply C.seqK | apply C.regionK); intro _ _) | (apply R.buildSlice0; exact rfl; intro bz) | (apply R.box; exact rfl; (simp only [Value.cells]; rfl); exact rfl; intro bx) | (apply R.alloc; (simp only [Value.cells]; rfl); exact rfl; intro ba) | (apply R.buildSlice; (exact a_prt); exact rfl; exact rfl; (exact a_fills); exact rfl; intro bl) | (refine a_sp ?_ ?_; (intro h; skip; rotate_left; intro h; skip; rotate_left)) | fail))
    (apply Fin.returnA (H2 := H); assumption; (first | exact .inl rfl | exact .inr rfl); exact rfl; (exact a_res); (simp only [retv]; rfl); (exact a_arr))
    exact ⟨rfl, rfl, rfl⟩
theorem here_K {rb : Nat} {d : Dk} {hp : Hp} {n : Txt} (ho : RdO M rb d hp) (hl : d.now.length ≤ 1000000) : K Try.prog 61 [.pointer (some ⟨rb, 0, none⟩), str n] M (hp ++ H) fun v' M' H' => v' = .bool (readD d n).isSome ∧ M' = M ∧ H' = hp ++ H := by
  refine K.enterK Try.func61 rfl rfl rfl ?_
  intro Q hNP hQ
  (repeat' (first | refine a_go ?_ | (with_reducible apply Fin.thenK; assumption) | (with_reducible (first | apply C.seqK | apply C.regionK); intro _ _) | (apply R.buildSlice0; exact rfl; intro bz) | (apply R.box; exact rfl; (simp only [Value.cells]; rfl); exact rfl; intro bx) | (apply R.alloc; (simp only [Value.cells]; rfl); exact rfl; intro ba) | (apply R.buildSlice; (exact a_prt); exact rfl; exact rfl; (exact a_fills); exact rfl; intro bl) | (refine a_sp ?_ ?_; (intro h; skip; rotate_left; intro h; skip; rotate_left)) | fail))
  (apply R.call; (exact a_evs); exact rfl; exact rread_KD (n := n) ho hl; rintro _ M _ ⟨v, rfl, hb, rfl, rfl⟩)
  obtain ⟨A, c, rfl, _⟩ := hb
  (repeat' (first | refine a_go ?_ | (with_reducible apply Fin.thenK; assumption) | (with_reducible (first | apply C.seqK | apply C.regionK); intro _ _) | (apply R.buildSlice0; exact rfl; intro bz) | (apply R.box; exact rfl; (simp only [Value.cells]; rfl); exact rfl; intro bx) | (apply R.alloc; (simp only [Value.cells]; rfl); exact rfl; intro ba) | (apply R.buildSlice; (exact a_prt); exact rfl; exact rfl; (exact a_fills); exact rfl; intro bl) | (refine a_sp ?_ ?_; (intro h; skip; rotate_left; intro h; skip; rotate_left)) | fail))
  (apply Fin.returnA (H2 := hp ++ H); assumption; (first | exact .inl rfl | exact .inr rfl); exact rfl; (exact a_res); (simp only [retv]; rfl); (exact a_arr))
  exact ⟨rfl, rfl, rfl⟩
theorem opD_ps2 (d : Dk) (e : Int) (x : De) : szD (opD e d x) ≤ szD d + 1 := by
  unfold opD szD
  split
  · show (cntD d).S.length + (d.ps ++ [x]).length ≤ _
    rw [cntD_S, List.length_append]
    exact Nat.le_refl _
  · rw [cntD_S, cntD_ps]
    omega
theorem clearD_sz (d : Dk) : szD (clearD d).2 ≤ szD d + 1 := by
  unfold clearD
  split
  · exact opD_ps2 _ _ _
  · exact Nat.le_succ _
theorem recS_snoc (t : Nat) (v : Int) : recS t v = numS t ++ [UInt8.ofNat v.toNat] := rfl
structure RcX1 where
  v : Value
  M : Mem
structure RcX2 where
  M : Mem
  hp : Hp
theorem rsaveH_K {rb : Nat} {d : Dk} {hp : Hp} {t : Nat} {v : Int} (ho : RdO M rb d hp) (hsz : szD d ≤ 900000) (ht : t ≤ 18446744073709551615) : K Try.prog 37 [.pointer (some ⟨rb, 0, none⟩), .agg (hrdC t v).toArray] M (hp ++ H) fun v' M' H' => v' = .int .i64 (saveD d t v).1 ∧ M.le M' ∧ ∃ hp', RdO M' rb (saveD d t v).2 hp' ∧ H' = hp' ++ H := by
  refine K.enterK Try.func37 rfl rfl rfl ?_
  intro Q hNP hQ
  have hnow := now_sz d
  have hpsz : d.ps.length ≤ szD d := Nat.le_add_left _ _
  unfold hrdC
  (repeat' (first | refine a_go ?_ | (with_reducible apply Fin.thenK; assumption) | (with_reducible (first | apply C.seqK | apply C.regionK); intro _ _) | (apply R.buildSlice0; exact rfl; intro bz) | (apply R.box; exact rfl; (simp only [Value.cells]; rfl); exact rfl; intro bx) | (apply R.alloc; (simp only [Value.cells]; rfl); exact rfl; intro ba) | (apply R.buildSlice; (exact a_prt); exact rfl; exact rfl; (exact a_fills); exact rfl; intro bl) | (refine a_sp ?_ ?_; (intro h; skip; rotate_left; intro h; skip; rotate_left)) | fail))
  (apply R.call; (exact a_evs); exact rfl; exact rrightH_K (t := t) (v := v); rintro _ M _ ⟨rfl, rfl, rfl⟩)
  cases hr : rightH t v with
  | false =>
    have hE : saveD d t v = (1, d) := if_pos hr
    rw [hE] at hQ
    (repeat' (first | refine a_go ?_ | (with_reducible apply Fin.thenK; assumption) | (with_reducible (first | apply C.seqK | apply C.regionK); intro _ _) | (apply R.buildSlice0; exact rfl; intro bz) | (apply R.box; exact rfl; (simp only [Value.cells]; rfl); exact rfl; intro bx) | (apply R.alloc; (simp only [Value.cells]; rfl); exact rfl; intro ba) | (apply R.buildSlice; (exact a_prt); exact rfl; exact rfl; (exact a_fills); exact rfl; intro bl) | (refine a_sp ?_ ?_; (intro h; skip; rotate_left; intro h; skip; rotate_left)) | fail))
    (apply Fin.returnA (H2 := hp ++ H); assumption; (first | exact .inl rfl | exact .inr rfl); exact rfl; (exact a_res); (simp only [retv]; rfl); (exact a_arr))
    exact ⟨rfl, Mem.le_refl _, hp, ho, rfl⟩
  | true =>
    have hv : (0 ≤ v ∧ v ≤ 7) ∧ t ≤ 72057594037927935 := by
      unfold rightH at hr
      simp only [Bool.and_eq_true, decide_eq_true_eq] at hr
      omega
    obtain ⟨vn, hvn⟩ : ∃ vn : Nat, v = (vn : Int) := ⟨_, (Int.toNat_of_nonneg hv.1.1).symm⟩
    have hl10 := (numS_len10 ht).2
    (repeat' (first | (apply R.step; (exact a_ok); exact rfl) | (first | (with_reducible first | apply R.nil | apply C.ret | apply C.block | apply C.skip | apply C.exit | apply Fin.thenRet | apply Fin.thenExit | apply Fin.blockNormal | apply Fin.blockRet | apply Fin.blockExit) | (with_reducible apply Fin.thenK; assumption) | (with_reducible apply C.seqR; intro _ _) | (with_reducible apply C.regionK; intro _ _) | (with_reducible apply Fin.blockOther; exact rfl)) | (first | (apply R.store; exact rfl; exact rfl; exact rfl; (exact a_at); (exact a_blit); exact rfl; (focus (simp [Value.oneCell']; done))) | (apply R.buildSlice0; exact rfl; intro bz) | (apply R.box; exact rfl; (simp only [Value.cells]; rfl); exact rfl; intro bx) | (apply R.alloc; (simp only [Value.cells]; rfl); exact rfl; intro ba) | (apply R.buildSlice; (exact a_prt); exact rfl; exact rfl; (exact a_fills); exact rfl; intro bl)) | (first | (apply R.guardT; assumption; exact rfl; exact rfl; exact rfl) | (apply R.guardF; assumption; exact rfl; exact rfl; exact rfl; exact rfl; exact rfl) | (apply R.guardU; assumption; exact rfl; exact rfl; exact rfl; exact rfl) | (apply R.guardDec; assumption; exact rfl; exact rfl; (intro h; skip; rotate_left; intro h; skip; rotate_left)) | (apply R.guardBeq; assumption; exact rfl; exact rfl; (intro h; skip; rotate_left; intro h; skip; rotate_left)) | (apply R.guardBne; assumption; exact rfl; exact rfl; (intro h; skip; rotate_left; intro h; skip; rotate_left)) | (apply R.guardNDec; assumption; exact rfl; exact rfl; (intro h; skip; rotate_left; intro h; skip; rotate_left)) | (apply R.guardNot; assumption; exact rfl; exact rfl; (intro h; skip; rotate_left; intro h; skip; rotate_left)) | (apply R.guardC; assumption; exact rfl; exact rfl; (intro h; skip; rotate_left; intro h; skip; rotate_left)))))
    (apply C.condF; exact rfl)
    apply C.skip
    (apply Fin.thenK; assumption)
    apply C.seqCut (X := RcX1) (fun y => M.le y.M ∧ PlB y.M y.v (frameS (recS t v))) (fun y => [(0, .pointer (some ⟨rb, 0, none⟩)), (5, y.v)]) (fun y => y.M) (fun _ => hp ++ H)
    · (apply C.regionT (t := .free 0 (.free 1 (.free 3 (.free 4 (.free 5 (.alt 2 6 (.one 6 (.one 7 (.one 8 (.free 9 .nil)))) (.one 2 (.one 7 (.one 8 (.free 9 .nil)))))))))) (Hs := [(bx, .cells #[.int .u64 ↑t, .int .i64 v] 44 (0, 0))]); exact Mix.h; (first | exact Arr.all _ | (exact a_arr) | ((try simp only [List.append_assoc, List.cons_append, List.nil_append, List.append_nil]); exact a_arr)); (exact a_np); kernel_rfl)
      (repeat' (first | (apply RT.step; exact rfl; intro _ _ _; (apply Ok.move; exact rfl); exact rfl) | (apply RT.step; exact rfl; intro _ _ _; (rw [hvn]; apply Ok.convLI; exact rfl); exact rfl) | (first | (apply RT.step; exact rfl; intro _ _ _; (exact a_ok); exact rfl) | (apply RT.stepT; exact rfl; exact rfl; exact rfl; exact rfl; intro _ _ _; (exact a_ok); exact rfl) | (apply RT.stepF; exact rfl; exact rfl; exact rfl; exact rfl; exact rfl; exact rfl) | (apply RT.stepU; exact rfl; exact rfl; exact rfl; exact rfl; exact rfl) | (apply RT.one; apply OneT.effF; exact rfl; exact rfl; exact rfl; exact rfl; exact rfl; exact rfl) | (apply RT.one; apply OneT.effU; exact rfl; exact rfl; exact rfl; exact rfl; exact rfl))))
      apply RT.alt
      · (apply OneT.eff; exact rfl; intro Kc hKc ops0)
        (apply R.call; (exact a_evs); exact rfl; exact rnum1_K (n := t) ht; rintro v3 M _ ⟨hp3, ho3, rfl, rfl⟩)
        obtain ⟨A3, c3, rfl, _, _⟩ := ho3.form
        ((first | apply R.nil | skip); apply Fin.kt (Hx := hp3 ++ (hp ++ H)) hKc; exact Mem.le_refl _; ((try simp only [List.append_assoc, List.cons_append, List.nil_append, List.append_nil]); exact a_arr))
        (apply RT.one; apply OneT.eff; exact rfl; intro Kc hKc ops0)
        (apply R.buildSlice; (exact a_prt); exact rfl; exact rfl; (exact a_fills); exact rfl; intro bl)
        ((first | apply R.nil | skip); apply Fin.kt (Hx := hp3 ++ ((bl, .cells #[bv (UInt8.ofNat vn)] 5 (0, 0)) :: (hp ++ H))) hKc; exact Mem.le_refl _; ((try simp only [List.append_assoc, List.cons_append, List.nil_append, List.append_nil]); exact a_arr))
        (apply RT.one; apply OneT.eff; exact rfl; intro Kc hKc ops0)
        (apply R.append (news := [bv (UInt8.ofNat vn)]) (k := 1); exact rfl; exact rfl; exact ho3; (exact a_tk); exact Rd.at_ (l := [bv (UInt8.ofNat vn)]) (by (exact a_at)) (fun j u h => by rw [Nat.zero_add]; exact h); exact rfl; (intro u hu; rw [List.mem_singleton] at hu; rw [hu]; rfl); omega; exact rfl; decide; decide; exact rfl; rintro v4 hp4 ho4)
        have hrs : numS t ++ [UInt8.ofNat vn] = recS t v := by rw [recS_snoc, hvn]; rfl
        have ho5 : Own 5 1 v4 (recS t v).length ((recS t v).map bv) hp4 := by
          rw [← hrs, List.length_append, List.map_append]
          exact ho4
        have hrl := recS_len (v := v) ht
        apply R.arr (H2 := hp4 ++ ((bx, .cells #[.int .u64 ↑t, .int .i64 v] 44 (0, 0)) :: (hp ++ H))) (by ((try simp only [List.append_assoc, List.cons_append, List.nil_append, List.append_nil]); exact a_arr))
        apply R.ice (Arr.all _)
        intro M2 hM2 hin2
        obtain ⟨A4, c4, hA4, _, _⟩ := ho5.form
        subst hA4
        (apply R.nil; apply Fin.ktB (E := []) (Hx := hp ++ H) hKc; exact hM2; ((try simp only [List.append_assoc, List.cons_append, List.nil_append, List.append_nil]); exact a_arr))
        (apply RT.one; apply OneT.eff; exact rfl; intro Kc hKc ops0)
        have hpl2 := ho5.plIn hin2
        (apply R.call; (exact a_evs); exact rfl; exact rframe_KF hpl2 (by rw [← hrs, List.length_append]) (by omega); rintro v6 M6 _ ⟨hb6, hM6, rfl⟩)
        obtain ⟨A6, c6, rfl, k6⟩ := id hb6
        (apply R.nil; apply Fin.ktB (E := []) (Hx := hp ++ H) hKc; exact hM6; ((try simp only [List.append_assoc, List.cons_append, List.nil_append, List.append_nil]); exact a_arr))
        (repeat' (first | (apply RT.step; exact rfl; intro _ _ _; (exact a_ok); exact rfl) | (apply RT.stepT; exact rfl; exact rfl; exact rfl; exact rfl; intro _ _ _; (exact a_ok); exact rfl) | (apply RT.stepF; exact rfl; exact rfl; exact rfl; exact rfl; exact rfl; exact rfl) | (apply RT.stepU; exact rfl; exact rfl; exact rfl; exact rfl; exact rfl) | (apply RT.one; apply OneT.effF; exact rfl; exact rfl; exact rfl; exact rfl; exact rfl; exact rfl) | (apply RT.one; apply OneT.effU; exact rfl; exact rfl; exact rfl; exact rfl; exact rfl)))
        apply RT.nil
        (apply Fin.arr (H2 := hp ++ H); ((try simp only [List.append_assoc, List.cons_append, List.nil_append, List.append_nil]); exact a_arr))
        refine Fin.join (⟨_, M6⟩ : RcX1) ⟨hM2.trans_ hM6, hb6⟩ ?_ rfl rfl
        (exact a_subs)
      · (apply OneT.eff; exact rfl; intro Kc hKc ops0)
        (apply R.buildSlice; (exact a_prt); exact rfl; exact rfl; (exact a_fills); exact rfl; intro bl)
        ((first | apply R.nil | skip); apply Fin.kt (Hx := (bl, .cells #[bv (UInt8.ofNat vn)] 5 (0, 0)) :: (hp ++ H)) hKc; exact Mem.le_refl _; ((try simp only [List.append_assoc, List.cons_append, List.nil_append, List.append_nil]); exact a_arr))
        (apply RT.one; apply OneT.eff; exact rfl; intro Kc hKc ops0)
        (apply R.call; (exact a_evs); exact rfl; exact rnum1_K (n := t) ht; rintro v3 M _ ⟨hp3, ho3, rfl, rfl⟩)
        obtain ⟨A3, c3, rfl, _, _⟩ := ho3.form
        ((first | apply R.nil | skip); apply Fin.kt (Hx := hp3 ++ ((bl, .cells #[bv (UInt8.ofNat vn)] 5 (0, 0)) :: (hp ++ H))) hKc; exact Mem.le_refl _; ((try simp only [List.append_assoc, List.cons_append, List.nil_append, List.append_nil]); exact a_arr))
        (apply RT.one; apply OneT.eff; exact rfl; intro Kc hKc ops0)
        (apply R.append (news := [bv (UInt8.ofNat vn)]) (k := 1); exact rfl; exact rfl; exact ho3; (exact a_tk); exact Rd.at_ (l := [bv (UInt8.ofNat vn)]) (by (exact a_at)) (fun j u h => by rw [Nat.zero_add]; exact h); exact rfl; (intro u hu; rw [List.mem_singleton] at hu; rw [hu]; rfl); omega; exact rfl; decide; decide; exact rfl; rintro v4 hp4 ho4)
        have hrs : numS t ++ [UInt8.ofNat vn] = recS t v := by rw [recS_snoc, hvn]; rfl
        have ho5 : Own 5 1 v4 (recS t v).length ((recS t v).map bv) hp4 := by
          rw [← hrs, List.length_append, List.map_append]
          exact ho4
        have hrl := recS_len (v := v) ht
        apply R.arr (H2 := hp4 ++ ((bx, .cells #[.int .u64 ↑t, .int .i64 v] 44 (0, 0)) :: (hp ++ H))) (by ((try simp only [List.append_assoc, List.cons_append, List.nil_append, List.append_nil]); exact a_arr))
        apply R.ice (Arr.all _)
        intro M2 hM2 hin2
        obtain ⟨A4, c4, hA4, _, _⟩ := ho5.form
        subst hA4
        (apply R.nil; apply Fin.ktB (E := []) (Hx := hp ++ H) hKc; exact hM2; ((try simp only [List.append_assoc, List.cons_append, List.nil_append, List.append_nil]); exact a_arr))
        (apply RT.one; apply OneT.eff; exact rfl; intro Kc hKc ops0)
        have hpl2 := ho5.plIn hin2
        (apply R.call; (exact a_evs); exact rfl; exact rframe_KF hpl2 (by rw [← hrs, List.length_append]) (by omega); rintro v6 M6 _ ⟨hb6, hM6, rfl⟩)
        obtain ⟨A6, c6, rfl, k6⟩ := id hb6
        (apply R.nil; apply Fin.ktB (E := []) (Hx := hp ++ H) hKc; exact hM6; ((try simp only [List.append_assoc, List.cons_append, List.nil_append, List.append_nil]); exact a_arr))
        (repeat' (first | (apply RT.step; exact rfl; intro _ _ _; (exact a_ok); exact rfl) | (apply RT.stepT; exact rfl; exact rfl; exact rfl; exact rfl; intro _ _ _; (exact a_ok); exact rfl) | (apply RT.stepF; exact rfl; exact rfl; exact rfl; exact rfl; exact rfl; exact rfl) | (apply RT.stepU; exact rfl; exact rfl; exact rfl; exact rfl; exact rfl) | (apply RT.one; apply OneT.effF; exact rfl; exact rfl; exact rfl; exact rfl; exact rfl; exact rfl) | (apply RT.one; apply OneT.effU; exact rfl; exact rfl; exact rfl; exact rfl; exact rfl)))
        apply RT.nil
        (apply Fin.arr (H2 := hp ++ H); ((try simp only [List.append_assoc, List.cons_append, List.nil_append, List.append_nil]); exact a_arr))
        refine Fin.join (⟨_, M6⟩ : RcX1) ⟨hM2.trans_ hM6, hb6⟩ ?_ rfl rfl
        (exact a_subs)
    rintro ⟨v6, M6⟩ ⟨hM6, hb6⟩
    dsimp only at hM6 hb6 ⊢
    have hrl := recS_len (v := v) ht
    have hfl : (frameS (recS t v)).length ≤ 19 := by
      rw [frameS_len (by omega)]
      omega
    have ho7 := ho.mono hM6
    generalize hf : frameS (recS t v) = f at hb6 hfl
    (repeat' (first | refine a_go ?_ | (with_reducible apply Fin.thenK; assumption) | (with_reducible (first | apply C.seqK | apply C.regionK); intro _ _) | (apply R.buildSlice0; exact rfl; intro bz) | (apply R.box; exact rfl; (simp only [Value.cells]; rfl); exact rfl; intro bx) | (apply R.alloc; (simp only [Value.cells]; rfl); exact rfl; intro ba) | (apply R.buildSlice; (exact a_prt); exact rfl; exact rfl; (exact a_fills); exact rfl; intro bl) | (refine a_sp ?_ ?_; (intro h; skip; rotate_left; intro h; skip; rotate_left)) | fail))
    apply R.arr (H2 := hp ++ H) (by ((try simp only [List.append_assoc, List.cons_append, List.nil_append, List.append_nil]); exact a_arr))
    (apply R.call; (exact a_evs); exact rfl; exact rread_KD (n := hfile) ho7 (by omega); rintro _ M6 _ ⟨v7, rfl, hb7, rfl, rfl⟩)
    obtain ⟨w6, hw6⟩ : ∃ w6, w6 = (readD d hfile).getD [] := ⟨_, rfl⟩
    have hE0 : saveD d t v = if w6.length < 256 then (appE d hfile f, opD (appE d hfile f) d (.app hfile f)) else
        if (clearD d).1 ≠ 0 then clearD d else
        if appE (clearD d).2 hnew f ≠ 0 then (appE (clearD d).2 hnew f, opD (appE (clearD d).2 hnew f) (clearD d).2 (.app hnew f)) else
        (renE (opD 0 (clearD d).2 (.app hnew f)) hnew hfile, opD (renE (opD 0 (clearD d).2 (.app hnew f)) hnew hfile) (opD 0 (clearD d).2 (.app hnew f)) (.ren hnew hfile)) := by
      rw [hw6, ← hf]
      exact if_neg (by rw [hr]; decide)
    rw [← hw6] at hb7
    obtain ⟨A7, c7, rfl, _⟩ := hb7
    by_cases h256 : w6.length < 256
    · rw [hE0, if_pos h256] at hQ
      (repeat' (first | (apply R.step; (apply Ok.move; exact rfl); exact rfl) | (apply R.step; (first | (apply Ok.ltTr; exact rfl; exact rfl; omega) | (apply Ok.ltF; exact rfl; exact rfl; omega) | (apply Ok.gtTr; exact rfl; exact rfl; omega) | (apply Ok.gtF; exact rfl; exact rfl; omega) | (apply Ok.geTr; exact rfl; exact rfl; omega) | (apply Ok.geF; exact rfl; exact rfl; omega) | (apply Ok.leTr; exact rfl; exact rfl; omega) | (apply Ok.leF; exact rfl; exact rfl; omega) | (apply Ok.neIT; exact rfl; exact rfl; omega) | (apply Ok.eqIF; exact rfl; exact rfl; omega)); exact rfl) | refine a_go ?_ | (with_reducible apply Fin.thenK; assumption) | (with_reducible (first | apply C.seqK | apply C.regionK); intro _ _) | (apply R.buildSlice0; exact rfl; intro bz) | (apply R.box; exact rfl; (simp only [Value.cells]; rfl); exact rfl; intro bx) | (apply R.alloc; (simp only [Value.cells]; rfl); exact rfl; intro ba) | (apply R.buildSlice; (exact a_prt); exact rfl; exact rfl; (exact a_fills); exact rfl; intro bl) | (refine a_sp ?_ ?_; (intro h; skip; rotate_left; intro h; skip; rotate_left)) | fail))
      (apply R.call; (exact a_evs); exact rfl; exact rappend_K (n := hfile) ho7 hb6 (by omega) (by decide) (by omega) (by omega); rintro _ M8 _ ⟨rfl, hM8, hp8, ho8, rfl⟩)
      (repeat' (first | refine a_go ?_ | (with_reducible apply Fin.thenK; assumption) | (with_reducible (first | apply C.seqK | apply C.regionK); intro _ _) | (apply R.buildSlice0; exact rfl; intro bz) | (apply R.box; exact rfl; (simp only [Value.cells]; rfl); exact rfl; intro bx) | (apply R.alloc; (simp only [Value.cells]; rfl); exact rfl; intro ba) | (apply R.buildSlice; (exact a_prt); exact rfl; exact rfl; (exact a_fills); exact rfl; intro bl) | (refine a_sp ?_ ?_; (intro h; skip; rotate_left; intro h; skip; rotate_left)) | fail))
      (apply Fin.returnA (H2 := hp8 ++ H); assumption; (first | exact .inl rfl | exact .inr rfl); exact rfl; (exact a_res); (simp only [retv]; rfl); (exact a_arr))
      exact ⟨rfl, hM6.trans_ hM8, hp8, ho8, rfl⟩
    · rw [if_neg h256] at hE0
      (repeat' (first | (apply R.step; (apply Ok.move; exact rfl); exact rfl) | (apply R.step; (first | (apply Ok.ltTr; exact rfl; exact rfl; omega) | (apply Ok.ltF; exact rfl; exact rfl; omega) | (apply Ok.gtTr; exact rfl; exact rfl; omega) | (apply Ok.gtF; exact rfl; exact rfl; omega) | (apply Ok.geTr; exact rfl; exact rfl; omega) | (apply Ok.geF; exact rfl; exact rfl; omega) | (apply Ok.leTr; exact rfl; exact rfl; omega) | (apply Ok.leF; exact rfl; exact rfl; omega) | (apply Ok.neIT; exact rfl; exact rfl; omega) | (apply Ok.eqIF; exact rfl; exact rfl; omega)); exact rfl) | (apply R.step; (exact a_ok); exact rfl) | (first | (with_reducible first | apply R.nil | apply C.ret | apply C.block | apply C.skip | apply C.exit | apply Fin.thenRet | apply Fin.thenExit | apply Fin.blockNormal | apply Fin.blockRet | apply Fin.blockExit) | (with_reducible apply Fin.thenK; assumption) | (with_reducible apply C.seqR; intro _ _) | (with_reducible apply C.regionK; intro _ _) | (with_reducible apply Fin.blockOther; exact rfl)) | (first | (apply R.store; exact rfl; exact rfl; exact rfl; (exact a_at); (exact a_blit); exact rfl; (focus (simp [Value.oneCell']; done))) | (apply R.buildSlice0; exact rfl; intro bz) | (apply R.box; exact rfl; (simp only [Value.cells]; rfl); exact rfl; intro bx) | (apply R.alloc; (simp only [Value.cells]; rfl); exact rfl; intro ba) | (apply R.buildSlice; (exact a_prt); exact rfl; exact rfl; (exact a_fills); exact rfl; intro bl)) | (first | (apply R.guardT; assumption; exact rfl; exact rfl; exact rfl) | (apply R.guardF; assumption; exact rfl; exact rfl; exact rfl; exact rfl; exact rfl) | (apply R.guardU; assumption; exact rfl; exact rfl; exact rfl; exact rfl) | (apply R.guardDec; assumption; exact rfl; exact rfl; (intro h; skip; rotate_left; intro h; skip; rotate_left)) | (apply R.guardBeq; assumption; exact rfl; exact rfl; (intro h; skip; rotate_left; intro h; skip; rotate_left)) | (apply R.guardBne; assumption; exact rfl; exact rfl; (intro h; skip; rotate_left; intro h; skip; rotate_left)) | (apply R.guardNDec; assumption; exact rfl; exact rfl; (intro h; skip; rotate_left; intro h; skip; rotate_left)) | (apply R.guardNot; assumption; exact rfl; exact rfl; (intro h; skip; rotate_left; intro h; skip; rotate_left)) | (apply R.guardC; assumption; exact rfl; exact rfl; (intro h; skip; rotate_left; intro h; skip; rotate_left)))))
      (apply C.seqK; intro _ _)
      (repeat' (first | (apply R.step; (apply Ok.move; exact rfl); exact rfl) | (apply R.step; (first | (apply Ok.ltTr; exact rfl; exact rfl; omega) | (apply Ok.ltF; exact rfl; exact rfl; omega) | (apply Ok.gtTr; exact rfl; exact rfl; omega) | (apply Ok.gtF; exact rfl; exact rfl; omega) | (apply Ok.geTr; exact rfl; exact rfl; omega) | (apply Ok.geF; exact rfl; exact rfl; omega) | (apply Ok.leTr; exact rfl; exact rfl; omega) | (apply Ok.leF; exact rfl; exact rfl; omega) | (apply Ok.neIT; exact rfl; exact rfl; omega) | (apply Ok.eqIF; exact rfl; exact rfl; omega)); exact rfl) | (apply R.step; (exact a_ok); exact rfl) | (first | (with_reducible first | apply R.nil | apply C.ret | apply C.block | apply C.skip | apply C.exit | apply Fin.thenRet | apply Fin.thenExit | apply Fin.blockNormal | apply Fin.blockRet | apply Fin.blockExit) | (with_reducible apply Fin.thenK; assumption) | (with_reducible apply C.seqR; intro _ _) | (with_reducible apply C.regionK; intro _ _) | (with_reducible apply Fin.blockOther; exact rfl)) | (first | (apply R.store; exact rfl; exact rfl; exact rfl; (exact a_at); (exact a_blit); exact rfl; (focus (simp [Value.oneCell']; done))) | (apply R.buildSlice0; exact rfl; intro bz) | (apply R.box; exact rfl; (simp only [Value.cells]; rfl); exact rfl; intro bx) | (apply R.alloc; (simp only [Value.cells]; rfl); exact rfl; intro ba) | (apply R.buildSlice; (exact a_prt); exact rfl; exact rfl; (exact a_fills); exact rfl; intro bl)) | (first | (apply R.guardT; assumption; exact rfl; exact rfl; exact rfl) | (apply R.guardF; assumption; exact rfl; exact rfl; exact rfl; exact rfl; exact rfl) | (apply R.guardU; assumption; exact rfl; exact rfl; exact rfl; exact rfl) | (apply R.guardDec; assumption; exact rfl; exact rfl; (intro h; skip; rotate_left; intro h; skip; rotate_left)) | (apply R.guardBeq; assumption; exact rfl; exact rfl; (intro h; skip; rotate_left; intro h; skip; rotate_left)) | (apply R.guardBne; assumption; exact rfl; exact rfl; (intro h; skip; rotate_left; intro h; skip; rotate_left)) | (apply R.guardNDec; assumption; exact rfl; exact rfl; (intro h; skip; rotate_left; intro h; skip; rotate_left)) | (apply R.guardNot; assumption; exact rfl; exact rfl; (intro h; skip; rotate_left; intro h; skip; rotate_left)) | (apply R.guardC; assumption; exact rfl; exact rfl; (intro h; skip; rotate_left; intro h; skip; rotate_left)))))
      ((apply C.condF; exact rfl); apply C.skip; (apply Fin.thenK; assumption))
      apply C.seqCut (X := RcX2) (fun y => M6.le y.M ∧ (clearD d).1 = 0 ∧ RdO y.M rb (clearD d).2 y.hp) (fun _ => [(0, .pointer (some ⟨rb, 0, none⟩)), (5, v6)]) (fun y => y.M) (fun y => y.hp ++ H)
      · (repeat' (first | refine a_go ?_ | (with_reducible apply Fin.thenK; assumption) | (with_reducible (first | apply C.seqK | apply C.regionK); intro _ _) | (apply R.buildSlice0; exact rfl; intro bz) | (apply R.box; exact rfl; (simp only [Value.cells]; rfl); exact rfl; intro bx) | (apply R.alloc; (simp only [Value.cells]; rfl); exact rfl; intro ba) | (apply R.buildSlice; (exact a_prt); exact rfl; exact rfl; (exact a_fills); exact rfl; intro bl) | (refine a_sp ?_ ?_; (intro h; skip; rotate_left; intro h; skip; rotate_left)) | fail))
        (apply R.call; (exact a_evs); exact rfl; exact here_K (n := hnew) ho7 (by omega); rintro _ M6 _ ⟨rfl, rfl, rfl⟩)
        cases hs : (readD d hnew).isSome with
        | false =>
          have hcl : clearD d = (0, d) := by unfold clearD; rw [hs]; rfl
          (repeat' (first | refine a_go ?_ | (with_reducible apply Fin.thenK; assumption) | (with_reducible (first | apply C.seqK | apply C.regionK); intro _ _) | (apply R.buildSlice0; exact rfl; intro bz) | (apply R.box; exact rfl; (simp only [Value.cells]; rfl); exact rfl; intro bx) | (apply R.alloc; (simp only [Value.cells]; rfl); exact rfl; intro ba) | (apply R.buildSlice; (exact a_prt); exact rfl; exact rfl; (exact a_fills); exact rfl; intro bl) | (refine a_sp ?_ ?_; (intro h; skip; rotate_left; intro h; skip; rotate_left)) | fail))
          refine Fin.join (⟨M6, hp⟩ : RcX2) ⟨Mem.le_refl _, by rw [hcl], by dsimp only; rw [hcl]; exact ho7⟩ ?_ rfl rfl
          (exact a_subs)
        | true =>
          have hcl : clearD d = (remE d hnew, opD (remE d hnew) d (.rem hnew)) := by unfold clearD; rw [hs]; rfl
          (repeat' (first | refine a_go ?_ | (with_reducible apply Fin.thenK; assumption) | (with_reducible (first | apply C.seqK | apply C.regionK); intro _ _) | (apply R.buildSlice0; exact rfl; intro bz) | (apply R.box; exact rfl; (simp only [Value.cells]; rfl); exact rfl; intro bx) | (apply R.alloc; (simp only [Value.cells]; rfl); exact rfl; intro ba) | (apply R.buildSlice; (exact a_prt); exact rfl; exact rfl; (exact a_fills); exact rfl; intro bl) | (refine a_sp ?_ ?_; (intro h; skip; rotate_left; intro h; skip; rotate_left)) | fail))
          (apply R.call; (exact a_evs); exact rfl; exact rremove_K (n := hnew) ho7 (by omega) (by omega); rintro _ M8 _ ⟨rfl, hM8, hp8, ho8, rfl⟩)
          by_cases hc1 : remE d hnew ≠ 0
          · rw [hE0, if_pos (by rw [hcl]; exact hc1), hcl] at hQ
            (repeat' (first | (apply R.step; (apply Ok.move; exact rfl); exact rfl) | (apply R.step; (apply Ok.neIT; exact rfl; exact rfl; exact hc1); exact rfl) | refine a_go ?_ | (with_reducible apply Fin.thenK; assumption) | (with_reducible (first | apply C.seqK | apply C.regionK); intro _ _) | (apply R.buildSlice0; exact rfl; intro bz) | (apply R.box; exact rfl; (simp only [Value.cells]; rfl); exact rfl; intro bx) | (apply R.alloc; (simp only [Value.cells]; rfl); exact rfl; intro ba) | (apply R.buildSlice; (exact a_prt); exact rfl; exact rfl; (exact a_fills); exact rfl; intro bl) | (refine a_sp ?_ ?_; (intro h; skip; rotate_left; intro h; skip; rotate_left)) | fail))
            (apply Fin.returnA (H2 := hp8 ++ H); assumption; (first | exact .inl rfl | exact .inr rfl); exact rfl; (exact a_res); (simp only [retv]; rfl); (exact a_arr))
            exact ⟨rfl, hM6.trans_ hM8, hp8, ho8, rfl⟩
          · have hc0 : remE d hnew = 0 := by omega
            (repeat' (first | (apply R.step; (apply Ok.move; exact rfl); exact rfl) | (apply R.step; (apply Ok.neIR; exact rfl; exact rfl; exact hc0); exact rfl) | refine a_go ?_ | (with_reducible apply Fin.thenK; assumption) | (with_reducible (first | apply C.seqK | apply C.regionK); intro _ _) | (apply R.buildSlice0; exact rfl; intro bz) | (apply R.box; exact rfl; (simp only [Value.cells]; rfl); exact rfl; intro bx) | (apply R.alloc; (simp only [Value.cells]; rfl); exact rfl; intro ba) | (apply R.buildSlice; (exact a_prt); exact rfl; exact rfl; (exact a_fills); exact rfl; intro bl) | (refine a_sp ?_ ?_; (intro h; skip; rotate_left; intro h; skip; rotate_left)) | fail))
            refine Fin.join (⟨M8, hp8⟩ : RcX2) ⟨hM8, by rw [hcl]; exact hc0, by dsimp only; rw [hcl]; exact ho8⟩ ?_ rfl rfl
            (exact a_subs)
      rintro ⟨M8, hp8⟩ ⟨hM8, hc0, ho8⟩
      dsimp only at hM8 hc0 ho8 ⊢
      rw [if_neg (by rw [hc0]; decide)] at hE0
      have hcs := clearD_sz d
      have hcn := now_sz (clearD d).2
      have hcp : (clearD d).2.ps.length ≤ szD (clearD d).2 := Nat.le_add_left _ _
      generalize (clearD d).2 = d1 at hE0 ho8 hcs hcn hcp
      (repeat' (first | refine a_go ?_ | (with_reducible apply Fin.thenK; assumption) | (with_reducible (first | apply C.seqK | apply C.regionK); intro _ _) | (apply R.buildSlice0; exact rfl; intro bz) | (apply R.box; exact rfl; (simp only [Value.cells]; rfl); exact rfl; intro bx) | (apply R.alloc; (simp only [Value.cells]; rfl); exact rfl; intro ba) | (apply R.buildSlice; (exact a_prt); exact rfl; exact rfl; (exact a_fills); exact rfl; intro bl) | (refine a_sp ?_ ?_; (intro h; skip; rotate_left; intro h; skip; rotate_left)) | fail))
      (apply R.call; (exact a_evs); exact rfl; exact rappend_K (n := hnew) ho8 (hb6.mono hM8) (by omega) (by decide) (by omega) (by omega); rintro _ M9 _ ⟨rfl, hM9, hp9, ho9, rfl⟩)
      by_cases ha1 : appE d1 hnew f ≠ 0
      · rw [hE0, if_pos ha1] at hQ
        (repeat' (first | (apply R.step; (apply Ok.move; exact rfl); exact rfl) | (apply R.step; (apply Ok.neIT; exact rfl; exact rfl; exact ha1); exact rfl) | refine a_go ?_ | (with_reducible apply Fin.thenK; assumption) | (with_reducible (first | apply C.seqK | apply C.regionK); intro _ _) | (apply R.buildSlice0; exact rfl; intro bz) | (apply R.box; exact rfl; (simp only [Value.cells]; rfl); exact rfl; intro bx) | (apply R.alloc; (simp only [Value.cells]; rfl); exact rfl; intro ba) | (apply R.buildSlice; (exact a_prt); exact rfl; exact rfl; (exact a_fills); exact rfl; intro bl) | (refine a_sp ?_ ?_; (intro h; skip; rotate_left; intro h; skip; rotate_left)) | fail))
        (apply Fin.returnA (H2 := hp9 ++ H); assumption; (first | exact .inl rfl | exact .inr rfl); exact rfl; (exact a_res); (simp only [retv]; rfl); (exact a_arr))
        exact ⟨rfl, hM6.trans_ (hM8.trans_ hM9), hp9, ho9, rfl⟩
      rw [if_neg ha1] at hE0
      have ha0 : appE d1 hnew f = 0 := by omega
      rw [ha0] at ho9 ⊢
      have hos := opD_ps2 d1 0 (.app hnew f)
      have hon := now_sz (opD 0 d1 (.app hnew f))
      have hop : (opD 0 d1 (.app hnew f)).ps.length ≤ szD (opD 0 d1 (.app hnew f)) := Nat.le_add_left _ _
      rw [hE0] at hQ
      (repeat' (first | refine a_go ?_ | (with_reducible apply Fin.thenK; assumption) | (with_reducible (first | apply C.seqK | apply C.regionK); intro _ _) | (apply R.buildSlice0; exact rfl; intro bz) | (apply R.box; exact rfl; (simp only [Value.cells]; rfl); exact rfl; intro bx) | (apply R.alloc; (simp only [Value.cells]; rfl); exact rfl; intro ba) | (apply R.buildSlice; (exact a_prt); exact rfl; exact rfl; (exact a_fills); exact rfl; intro bl) | (refine a_sp ?_ ?_; (intro h; skip; rotate_left; intro h; skip; rotate_left)) | fail))
      (apply R.call; (exact a_evs); exact rfl; exact rrename_K (n := hnew) (t := hfile) ho9 (by omega) (by omega) (by decide); rintro _ M10 _ ⟨rfl, hM10, hp10, ho10, rfl⟩)
      (repeat' (first | refine a_go ?_ | (with_reducible apply Fin.thenK; assumption) | (with_reducible (first | apply C.seqK | apply C.regionK); intro _ _) | (apply R.buildSlice0; exact rfl; intro bz) | (apply R.box; exact rfl; (simp only [Value.cells]; rfl); exact rfl; intro bx) | (apply R.alloc; (simp only [Value.cells]; rfl); exact rfl; intro ba) | (apply R.buildSlice; (exact a_prt); exact rfl; exact rfl; (exact a_fills); exact rfl; intro bl) | (refine a_sp ?_ ?_; (intro h; skip; rotate_left; intro h; skip; rotate_left)) | fail))
      (apply Fin.returnA (H2 := hp10 ++ H); assumption; (first | exact .inl rfl | exact .inr rfl); exact rfl; (exact a_res); (simp only [retv]; rfl); (exact a_arr))
      exact ⟨rfl, hM6.trans_ (hM8.trans_ (hM9.trans_ hM10)), hp10, ho10, rfl⟩
end Go.Sx
end
section
namespace Go.Sx
open Go Go.Proofs Go.RowKit
attribute [local irreducible] C R Fin K Own OwnT Rd Pl Ok KOf RetOk OpsOf RP KP Res NoPanic KV KE MapS ItS EntS FsO FsR RowD PlD DkO PlFs RT KT OneT RS KS OneS RdO
variable {M M' : Mem} {H H1 H2 : Hp}
theorem rlist_Km {A : Option Addr} {cap m : Nat} {bs : List UInt8} (hpl : Pl M A (bs.map bv)) (hm : bs.length = m) (hc : m ≤ cap) (hb : cap ≤ 9223372036854775807) (hsm : m ≤ 2147483648) : K Try.prog 64 [.slice A m cap] M H fun v M' H' =>
    ∃ ov, v = .tuple #[ov, .int .i64 (endS (framesF bs.length bs))] ∧ PlL M' ov (framesF bs.length bs) ∧ M.le M' ∧ H' = H := by
  subst hm
  exact rlist_K hpl hc hb hsm
theorem framesF_small : ∀ (k : Nat) (bs : List UInt8), ∀ r ∈ framesF k bs, r.length ≤ 65536
  | 0, bs => by
    intro r hr
    unfold framesF at hr
    cases hr
  | k + 1, bs => by
    intro r hr
    unfold framesF at hr
    split at hr
    · cases hr
    · rename_i x hx
      rcases List.mem_cons.1 hr with rfl | hr
      · exact (wholeS_len hx).2
      · exact framesF_small k _ r hr
structure RohX where
  i : Nat
  ii : Int
  h : Nat × Int
  at_ : Nat
structure RohY where
  h : Nat × Int
  at_ : Nat
theorem ropenH_K {rb : Nat} {d : Dk} {hp : Hp} (ho : RdO M rb d hp) (hsz : szD d ≤ 900000) : K Try.prog 32 [.pointer (some ⟨rb, 0, none⟩)] M (hp ++ H) fun v' M' H' => v' = .tuple #[hrdV (openD d).2.2, .int .i64 (openD d).1] ∧ M.le M' ∧ ∃ hp', RdO M' rb (openD d).2.1 hp' ∧ H' = hp' ++ H := by
  refine K.enterK Try.func32 rfl rfl rfl ?_
  intro Q hNP hQ
  unfold hrdV hrdC at hQ
  have hnow := now_sz d
  have hpsz : d.ps.length ≤ szD d := Nat.le_add_left _ _
  (repeat' (first | (apply R.step; (exact a_ok); exact rfl) | (first | (with_reducible first | apply R.nil | apply C.ret | apply C.block | apply C.skip | apply C.exit | apply Fin.thenRet | apply Fin.thenExit | apply Fin.blockNormal | apply Fin.blockRet | apply Fin.blockExit) | (with_reducible apply Fin.thenK; assumption) | (with_reducible apply C.seqK; intro _ _) | (with_reducible apply C.regionK; intro _ _) | (with_reducible apply Fin.blockOther; exact rfl)) | (apply R.store; exact rfl; exact rfl; exact rfl; (exact a_at); (exact a_blit); exact rfl; (focus (simp [Value.oneCell']; done))) | (first | (apply R.guardT; assumption; exact rfl; exact rfl; exact rfl) | (apply R.guardF; assumption; exact rfl; exact rfl; exact rfl; exact rfl; exact rfl) | (apply R.guardU; assumption; exact rfl; exact rfl; exact rfl; exact rfl) | (apply R.guardDec; assumption; exact rfl; exact rfl; (intro h; skip; rotate_left; intro h; skip; rotate_left)) | (apply R.guardBeq; assumption; exact rfl; exact rfl; (intro h; skip; rotate_left; intro h; skip; rotate_left)) | (apply R.guardBne; assumption; exact rfl; exact rfl; (intro h; skip; rotate_left; intro h; skip; rotate_left)) | (apply R.guardNDec; assumption; exact rfl; exact rfl; (intro h; skip; rotate_left; intro h; skip; rotate_left)) | (apply R.guardNot; assumption; exact rfl; exact rfl; (intro h; skip; rotate_left; intro h; skip; rotate_left)) | (apply R.guardC; assumption; exact rfl; exact rfl; (intro h; skip; rotate_left; intro h; skip; rotate_left))) | (first | (apply C.condT; exact rfl) | (apply C.condF; exact rfl) | (apply C.condDec; exact rfl; (intro h; skip; rotate_left; intro h; skip; rotate_left)) | (apply C.condBeq; exact rfl; (intro h; skip; rotate_left; intro h; skip; rotate_left)) | (apply C.condBne; exact rfl; (intro h; skip; rotate_left; intro h; skip; rotate_left)) | (apply C.condNDec; exact rfl; (intro h; skip; rotate_left; intro h; skip; rotate_left)) | (apply C.condNot; exact rfl; (intro h; skip; rotate_left; intro h; skip; rotate_left)) | (apply C.cond; exact rfl; (intro h; skip; rotate_left; intro h; skip; rotate_left)))))
  ((apply R.alloc; (simp only [Value.cells]; rfl); exact rfl); intro b2)
  (repeat' (first | (apply R.step; (exact a_ok); exact rfl) | (first | (with_reducible first | apply R.nil | apply C.ret | apply C.block | apply C.skip | apply C.exit | apply Fin.thenRet | apply Fin.thenExit | apply Fin.blockNormal | apply Fin.blockRet | apply Fin.blockExit) | (with_reducible apply Fin.thenK; assumption) | (with_reducible apply C.seqR; intro _ _) | (with_reducible apply C.regionK; intro _ _) | (with_reducible apply Fin.blockOther; exact rfl)) | (first | (apply R.store; exact rfl; exact rfl; exact rfl; (exact a_at); (exact a_blit); exact rfl; (focus (simp [Value.oneCell']; done))) | (apply R.buildSlice0; exact rfl; intro bz) | (apply R.box; exact rfl; (simp only [Value.cells]; rfl); exact rfl; intro bx) | (apply R.alloc; (simp only [Value.cells]; rfl); exact rfl; intro ba) | (apply R.buildSlice; (exact a_prt); exact rfl; exact rfl; (exact a_fills); exact rfl; intro bl)) | (first | (apply R.guardT; assumption; exact rfl; exact rfl; exact rfl) | (apply R.guardF; assumption; exact rfl; exact rfl; exact rfl; exact rfl; exact rfl) | (apply R.guardU; assumption; exact rfl; exact rfl; exact rfl; exact rfl) | (apply R.guardDec; assumption; exact rfl; exact rfl; (intro h; skip; rotate_left; intro h; skip; rotate_left)) | (apply R.guardBeq; assumption; exact rfl; exact rfl; (intro h; skip; rotate_left; intro h; skip; rotate_left)) | (apply R.guardBne; assumption; exact rfl; exact rfl; (intro h; skip; rotate_left; intro h; skip; rotate_left)) | (apply R.guardNDec; assumption; exact rfl; exact rfl; (intro h; skip; rotate_left; intro h; skip; rotate_left)) | (apply R.guardNot; assumption; exact rfl; exact rfl; (intro h; skip; rotate_left; intro h; skip; rotate_left)) | (apply R.guardC; assumption; exact rfl; exact rfl; (intro h; skip; rotate_left; intro h; skip; rotate_left)))))
  (apply C.seqK; intro _ _)
  (repeat' (first | (apply R.step; (apply Ok.move; exact rfl); exact rfl) | (apply R.step; (apply Ok.eqPN; exact rfl; exact rfl); exact rfl) | (apply R.step; (exact a_ok); exact rfl) | (first | (with_reducible first | apply R.nil | apply C.ret | apply C.block | apply C.skip | apply C.exit | apply Fin.thenRet | apply Fin.thenExit | apply Fin.blockNormal | apply Fin.blockRet | apply Fin.blockExit) | (with_reducible apply Fin.thenK; assumption) | (with_reducible apply C.seqR; intro _ _) | (with_reducible apply C.regionK; intro _ _) | (with_reducible apply Fin.blockOther; exact rfl)) | (first | (apply R.store; exact rfl; exact rfl; exact rfl; (exact a_at); (exact a_blit); exact rfl; (focus (simp [Value.oneCell']; done))) | (apply R.buildSlice0; exact rfl; intro bz) | (apply R.box; exact rfl; (simp only [Value.cells]; rfl); exact rfl; intro bx) | (apply R.alloc; (simp only [Value.cells]; rfl); exact rfl; intro ba) | (apply R.buildSlice; (exact a_prt); exact rfl; exact rfl; (exact a_fills); exact rfl; intro bl)) | (first | (apply R.guardT; assumption; exact rfl; exact rfl; exact rfl) | (apply R.guardF; assumption; exact rfl; exact rfl; exact rfl; exact rfl; exact rfl) | (apply R.guardU; assumption; exact rfl; exact rfl; exact rfl; exact rfl) | (apply R.guardDec; assumption; exact rfl; exact rfl; (intro h; skip; rotate_left; intro h; skip; rotate_left)) | (apply R.guardBeq; assumption; exact rfl; exact rfl; (intro h; skip; rotate_left; intro h; skip; rotate_left)) | (apply R.guardBne; assumption; exact rfl; exact rfl; (intro h; skip; rotate_left; intro h; skip; rotate_left)) | (apply R.guardNDec; assumption; exact rfl; exact rfl; (intro h; skip; rotate_left; intro h; skip; rotate_left)) | (apply R.guardNot; assumption; exact rfl; exact rfl; (intro h; skip; rotate_left; intro h; skip; rotate_left)) | (apply R.guardC; assumption; exact rfl; exact rfl; (intro h; skip; rotate_left; intro h; skip; rotate_left)))))
  ((apply C.condF; exact rfl); apply C.skip; (apply Fin.thenK; assumption))
  apply C.arr (H2 := hp ++ ((b2, .cells [.int .u64 0, .int .i64 0].toArray 44 (0, 0)) :: H)) (by ((try simp only [List.append_assoc, List.cons_append, List.nil_append, List.append_nil]); exact a_arr))
  apply C.seqCut (X := RcX2) (fun y => M.le y.M ∧ (clearD d).1 = 0 ∧ RdO y.M rb (clearD d).2 y.hp) (fun _ => [(0, .pointer (some ⟨rb, 0, none⟩)), (2, .pointer (some ⟨b2, 0, none⟩))]) (fun y => y.M) (fun y => y.hp ++ ((b2, .cells [.int .u64 0, .int .i64 0].toArray 44 (0, 0)) :: H))
  · (repeat' (first | refine a_go ?_ | (with_reducible apply Fin.thenK; assumption) | (with_reducible (first | apply C.seqK | apply C.regionK); intro _ _) | (apply R.buildSlice0; exact rfl; intro bz) | (apply R.box; exact rfl; (simp only [Value.cells]; rfl); exact rfl; intro bx) | (apply R.alloc; (simp only [Value.cells]; rfl); exact rfl; intro ba) | (apply R.buildSlice; (exact a_prt); exact rfl; exact rfl; (exact a_fills); exact rfl; intro bl) | (refine a_sp ?_ ?_; (intro h; skip; rotate_left; intro h; skip; rotate_left)) | fail))
    (apply R.call; (exact a_evs); exact rfl; exact here_K (n := hnew) ho (by omega); rintro _ M _ ⟨rfl, rfl, rfl⟩)
    cases hs : (readD d hnew).isSome with
    | false =>
      have hcl : clearD d = (0, d) := by unfold clearD; rw [hs]; rfl
      (repeat' (first | refine a_go ?_ | (with_reducible apply Fin.thenK; assumption) | (with_reducible (first | apply C.seqK | apply C.regionK); intro _ _) | (apply R.buildSlice0; exact rfl; intro bz) | (apply R.box; exact rfl; (simp only [Value.cells]; rfl); exact rfl; intro bx) | (apply R.alloc; (simp only [Value.cells]; rfl); exact rfl; intro ba) | (apply R.buildSlice; (exact a_prt); exact rfl; exact rfl; (exact a_fills); exact rfl; intro bl) | (refine a_sp ?_ ?_; (intro h; skip; rotate_left; intro h; skip; rotate_left)) | fail))
      refine Fin.join (⟨M, hp⟩ : RcX2) ⟨Mem.le_refl _, by rw [hcl], by dsimp only; rw [hcl]; exact ho⟩ ?_ rfl rfl
      (exact a_subs)
    | true =>
      have hcl : clearD d = (remE d hnew, opD (remE d hnew) d (.rem hnew)) := by unfold clearD; rw [hs]; rfl
      (repeat' (first | refine a_go ?_ | (with_reducible apply Fin.thenK; assumption) | (with_reducible (first | apply C.seqK | apply C.regionK); intro _ _) | (apply R.buildSlice0; exact rfl; intro bz) | (apply R.box; exact rfl; (simp only [Value.cells]; rfl); exact rfl; intro bx) | (apply R.alloc; (simp only [Value.cells]; rfl); exact rfl; intro ba) | (apply R.buildSlice; (exact a_prt); exact rfl; exact rfl; (exact a_fills); exact rfl; intro bl) | (refine a_sp ?_ ?_; (intro h; skip; rotate_left; intro h; skip; rotate_left)) | fail))
      (apply R.call; (exact a_evs); exact rfl; exact rremove_K (n := hnew) ho (by omega) (by omega); rintro _ M8 _ ⟨rfl, hM8, hp8, ho8, rfl⟩)
      by_cases hc1 : remE d hnew ≠ 0
      · have hE : openD d = (remE d hnew, opD (remE d hnew) d (.rem hnew), (0, 0)) := by
          unfold openD
          rw [hcl]
          exact if_pos hc1
        rw [hE] at hQ
        (repeat' (first | (apply R.step; (apply Ok.move; exact rfl); exact rfl) | (apply R.step; (apply Ok.neIT; exact rfl; exact rfl; exact hc1); exact rfl) | refine a_go ?_ | (with_reducible apply Fin.thenK; assumption) | (with_reducible (first | apply C.seqK | apply C.regionK); intro _ _) | (apply R.buildSlice0; exact rfl; intro bz) | (apply R.box; exact rfl; (simp only [Value.cells]; rfl); exact rfl; intro bx) | (apply R.alloc; (simp only [Value.cells]; rfl); exact rfl; intro ba) | (apply R.buildSlice; (exact a_prt); exact rfl; exact rfl; (exact a_fills); exact rfl; intro bl) | (refine a_sp ?_ ?_; (intro h; skip; rotate_left; intro h; skip; rotate_left)) | fail))
        (apply Fin.returnA (H2 := hp8 ++ H); assumption; (first | exact .inl rfl | exact .inr rfl); exact rfl; (exact a_res); (simp only [retv]; rfl); (exact a_arr))
        exact ⟨rfl, hM8, hp8, ho8, rfl⟩
      · have hc0 : remE d hnew = 0 := by omega
        (repeat' (first | (apply R.step; (apply Ok.move; exact rfl); exact rfl) | (apply R.step; (apply Ok.neIR; exact rfl; exact rfl; exact hc0); exact rfl) | refine a_go ?_ | (with_reducible apply Fin.thenK; assumption) | (with_reducible (first | apply C.seqK | apply C.regionK); intro _ _) | (apply R.buildSlice0; exact rfl; intro bz) | (apply R.box; exact rfl; (simp only [Value.cells]; rfl); exact rfl; intro bx) | (apply R.alloc; (simp only [Value.cells]; rfl); exact rfl; intro ba) | (apply R.buildSlice; (exact a_prt); exact rfl; exact rfl; (exact a_fills); exact rfl; intro bl) | (refine a_sp ?_ ?_; (intro h; skip; rotate_left; intro h; skip; rotate_left)) | fail))
        refine Fin.join (⟨M8, hp8⟩ : RcX2) ⟨hM8, by rw [hcl]; exact hc0, by dsimp only; rw [hcl]; exact ho8⟩ ?_ rfl rfl
        (exact a_subs)
  rintro ⟨M1, hp1⟩ ⟨hM1, hc0, ho1⟩
  dsimp only at hM1 hc0 ho1 ⊢
  have hE : openD d = openC (clearD d).2 ((readD (clearD d).2 hfile).getD []) (openF (framesF ((readD (clearD d).2 hfile).getD []).length ((readD (clearD d).2 hfile).getD [])) (0, 0) 0) := if_neg (by rw [hc0]; decide)
  rw [hE] at hQ
  have hcs := clearD_sz d
  have hcn := now_sz (clearD d).2
  have hcp : (clearD d).2.ps.length ≤ szD (clearD d).2 := Nat.le_add_left _ _
  clear hE hc0 ho
  generalize (clearD d).2 = d1 at ho1 hcs hcn hcp hQ
  have hbl := readD_len ho1.isok hfile
  (repeat' (first | refine a_go ?_ | (with_reducible apply Fin.thenK; assumption) | (with_reducible (first | apply C.seqK | apply C.regionK); intro _ _) | (apply R.buildSlice0; exact rfl; intro bz) | (apply R.box; exact rfl; (simp only [Value.cells]; rfl); exact rfl; intro bx) | (apply R.alloc; (simp only [Value.cells]; rfl); exact rfl; intro ba) | (apply R.buildSlice; (exact a_prt); exact rfl; exact rfl; (exact a_fills); exact rfl; intro bl) | (refine a_sp ?_ ?_; (intro h; skip; rotate_left; intro h; skip; rotate_left)) | fail))
  (apply R.call; (exact a_evs); exact rfl; exact rread_KD (n := hfile) ho1 (by omega); rintro _ M1 _ ⟨v5, rfl, hb5, rfl, rfl⟩)
  generalize (readD d1 hfile).getD [] = b at hb5 hbl hQ
  obtain ⟨A5, c5, rfl, k1, k2, hpl5⟩ := hb5
  (repeat' (first | refine a_go ?_ | (with_reducible apply Fin.thenK; assumption) | (with_reducible (first | apply C.seqK | apply C.regionK); intro _ _) | (apply R.buildSlice0; exact rfl; intro bz) | (apply R.box; exact rfl; (simp only [Value.cells]; rfl); exact rfl; intro bx) | (apply R.alloc; (simp only [Value.cells]; rfl); exact rfl; intro ba) | (apply R.buildSlice; (exact a_prt); exact rfl; exact rfl; (exact a_fills); exact rfl; intro bl) | (refine a_sp ?_ ?_; (intro h; skip; rotate_left; intro h; skip; rotate_left)) | fail))
  (apply R.call; (exact a_evs); exact rfl; exact rlist_Km hpl5 rfl k1 k2 (by omega); rintro _ M2 _ ⟨ov, rfl, hls, hM2, rfl⟩)
  obtain ⟨AL, cL, vs, rfl, q1, q2, q3, q4⟩ := hls
  obtain ⟨fs, hfs⟩ : ∃ fs, fs = framesF b.length b := ⟨_, rfl⟩
  have hend := framesF_end b.length b
  rw [← hfs] at q1 q4 hend hQ ⊢
  have hfl := framesF_small b.length b
  rw [← hfs] at hfl
  (repeat' (first | (apply R.step; (exact a_ok); exact rfl) | (first | (with_reducible first | apply R.nil | apply C.ret | apply C.block | apply C.skip | apply C.exit | apply Fin.thenRet | apply Fin.thenExit | apply Fin.blockNormal | apply Fin.blockRet | apply Fin.blockExit) | (with_reducible apply Fin.thenK; assumption) | (with_reducible apply C.seqK; intro _ _) | (with_reducible apply C.regionK; intro _ _) | (with_reducible apply Fin.blockOther; exact rfl)) | (apply R.store; exact rfl; exact rfl; exact rfl; (exact a_at); (exact a_blit); exact rfl; (focus (simp [Value.oneCell']; done))) | (first | (apply R.guardT; assumption; exact rfl; exact rfl; exact rfl) | (apply R.guardF; assumption; exact rfl; exact rfl; exact rfl; exact rfl; exact rfl) | (apply R.guardU; assumption; exact rfl; exact rfl; exact rfl; exact rfl) | (apply R.guardDec; assumption; exact rfl; exact rfl; (intro h; skip; rotate_left; intro h; skip; rotate_left)) | (apply R.guardBeq; assumption; exact rfl; exact rfl; (intro h; skip; rotate_left; intro h; skip; rotate_left)) | (apply R.guardBne; assumption; exact rfl; exact rfl; (intro h; skip; rotate_left; intro h; skip; rotate_left)) | (apply R.guardNDec; assumption; exact rfl; exact rfl; (intro h; skip; rotate_left; intro h; skip; rotate_left)) | (apply R.guardNot; assumption; exact rfl; exact rfl; (intro h; skip; rotate_left; intro h; skip; rotate_left)) | (apply R.guardC; assumption; exact rfl; exact rfl; (intro h; skip; rotate_left; intro h; skip; rotate_left))) | (first | (apply C.condT; exact rfl) | (apply C.condF; exact rfl) | (apply C.condDec; exact rfl; (intro h; skip; rotate_left; intro h; skip; rotate_left)) | (apply C.condBeq; exact rfl; (intro h; skip; rotate_left; intro h; skip; rotate_left)) | (apply C.condBne; exact rfl; (intro h; skip; rotate_left; intro h; skip; rotate_left)) | (apply C.condNDec; exact rfl; (intro h; skip; rotate_left; intro h; skip; rotate_left)) | (apply C.condNot; exact rfl; (intro h; skip; rotate_left; intro h; skip; rotate_left)) | (apply C.cond; exact rfl; (intro h; skip; rotate_left; intro h; skip; rotate_left)))))
  ((apply R.alloc; (simp only [Value.cells]; rfl); exact rfl); intro b9)
  (repeat' (first | (apply R.step; (exact a_ok); exact rfl) | (first | (with_reducible first | apply R.nil | apply C.ret | apply C.block | apply C.skip | apply C.exit | apply Fin.thenRet | apply Fin.thenExit | apply Fin.blockNormal | apply Fin.blockRet | apply Fin.blockExit) | (with_reducible apply Fin.thenK; assumption) | (with_reducible apply C.seqR; intro _ _) | (with_reducible apply C.regionK; intro _ _) | (with_reducible apply Fin.blockOther; exact rfl)) | (first | (apply R.store; exact rfl; exact rfl; exact rfl; (exact a_at); (exact a_blit); exact rfl; (focus (simp [Value.oneCell']; done))) | (apply R.buildSlice0; exact rfl; intro bz) | (apply R.box; exact rfl; (simp only [Value.cells]; rfl); exact rfl; intro bx) | (apply R.alloc; (simp only [Value.cells]; rfl); exact rfl; intro ba) | (apply R.buildSlice; (exact a_prt); exact rfl; exact rfl; (exact a_fills); exact rfl; intro bl)) | (first | (apply R.guardT; assumption; exact rfl; exact rfl; exact rfl) | (apply R.guardF; assumption; exact rfl; exact rfl; exact rfl; exact rfl; exact rfl) | (apply R.guardU; assumption; exact rfl; exact rfl; exact rfl; exact rfl) | (apply R.guardDec; assumption; exact rfl; exact rfl; (intro h; skip; rotate_left; intro h; skip; rotate_left)) | (apply R.guardBeq; assumption; exact rfl; exact rfl; (intro h; skip; rotate_left; intro h; skip; rotate_left)) | (apply R.guardBne; assumption; exact rfl; exact rfl; (intro h; skip; rotate_left; intro h; skip; rotate_left)) | (apply R.guardNDec; assumption; exact rfl; exact rfl; (intro h; skip; rotate_left; intro h; skip; rotate_left)) | (apply R.guardNot; assumption; exact rfl; exact rfl; (intro h; skip; rotate_left; intro h; skip; rotate_left)) | (apply R.guardC; assumption; exact rfl; exact rfl; (intro h; skip; rotate_left; intro h; skip; rotate_left)))))
  apply C.seqCut (X := RohY) (fun y => openF fs (0, 0) 0 = (y.h, y.at_)) (fun y => [(0, .pointer (some ⟨rb, 0, none⟩)), (2, .pointer (some ⟨b2, 0, none⟩)), (5, .slice A5 b.length c5), (9, .pointer (some ⟨b9, 0, none⟩)), (10, .int .i64 (y.at_ : Int))]) (fun _ => M2) (fun y => (b9, .cells [.int .u64 (y.h.1 : Int), .int .i64 y.h.2].toArray 44 (0, 0)) :: (hp1 ++ ((b2, .cells [.int .u64 0, .int .i64 0].toArray 44 (0, 0)) :: H)))
  · (repeat' (first | refine a_go ?_ | (with_reducible apply Fin.thenK; assumption) | (with_reducible (first | apply C.seqK | apply C.regionK); intro _ _) | (apply R.buildSlice0; exact rfl; intro bz) | (apply R.box; exact rfl; (simp only [Value.cells]; rfl); exact rfl; intro bx) | (apply R.alloc; (simp only [Value.cells]; rfl); exact rfl; intro ba) | (apply R.buildSlice; (exact a_prt); exact rfl; exact rfl; (exact a_fills); exact rfl; intro bl) | (refine a_sp ?_ ?_; (intro h; skip; rotate_left; intro h; skip; rotate_left)) | fail))
    apply C.loop (fun y : RohX => (y.i : Int) = y.ii ∧ y.i ≤ fs.length ∧ openF fs (0, 0) 0 = openF (fs.drop y.i) y.h y.at_ ∧ y.at_ = endS (fs.take y.i)) (fun y => [(0, .pointer (some ⟨rb, 0, none⟩)), (2, .pointer (some ⟨b2, 0, none⟩)), (5, .slice A5 b.length c5), (7, .slice AL fs.length cL), (9, .pointer (some ⟨b9, 0, none⟩)), (10, .int .i64 (y.at_ : Int)), (11, .int .i64 y.ii)]) (fun _ => M2) (fun y => (b9, .cells [.int .u64 (y.h.1 : Int), .int .i64 y.h.2].toArray 44 (0, 0)) :: (hp1 ++ ((b2, .cells [.int .u64 0, .int .i64 0].toArray 44 (0, 0)) :: H))) (fun y => fs.length - y.i) ⟨0, 0, (0, 0), 0⟩
    · exact ⟨rfl, Nat.zero_le _, rfl, rfl⟩
    · (exact a_subs)
    · exact rfl
    · exact rfl
    rintro ⟨i, ii, ⟨ht, hv⟩, at_⟩ ⟨hii, hi, hop, hat⟩
    dsimp only at hii hi hop hat ⊢
    have hate : at_ ≤ b.length := by
      have := endS_take fs i
      omega
    by_cases hix : i < fs.length
    · obtain ⟨bb, o, c, e, fr, Ai, ci, hA, hM, hcell, _, hl1, hl2, hpi⟩ := PlV.at_ q3 q4 hix
      subst hA
      rw [show o + i = o + ii.toNat * 1 by omega] at hcell
      have hr6 : fs[i].length ≤ 65536 := hfl _ (List.getElem_mem hix)
      have hdr := List.drop_eq_getElem_cons hix
      rw [hdr] at hop
      have hes : endS (fs.take (i + 1)) = at_ + (8 + fs[i].length) := by
        rw [hat, List.take_succ_eq_append_getElem hix, endS_append]
        simp [endS]
      have hes2 := endS_take fs (i + 1)
      have hbr : PlB M2 (.slice Ai fs[i].length ci) fs[i] := ⟨Ai, ci, rfl, hl1, hl2, hpi⟩
      generalize fs[i] = r at hcell hr6 hop hes hl1 hpi hbr hdr
      (repeat' (first | (apply R.step; (apply Ok.move; exact rfl); exact rfl) | (apply R.step; (first | (apply Ok.ltTr; exact rfl; exact rfl; omega) | (apply Ok.loadP; exact rfl; exact rfl; exact hM; exact hcell)); exact rfl) | refine a_go ?_ | (with_reducible apply Fin.thenK; assumption) | (with_reducible (first | apply C.seqK | apply C.regionK); intro _ _) | (apply R.buildSlice0; exact rfl; intro bz) | (apply R.box; exact rfl; (simp only [Value.cells]; rfl); exact rfl; intro bx) | (apply R.alloc; (simp only [Value.cells]; rfl); exact rfl; intro ba) | (apply R.buildSlice; (exact a_prt); exact rfl; exact rfl; (exact a_fills); exact rfl; intro bl) | (refine a_sp ?_ ?_; (intro h; skip; rotate_left; intro h; skip; rotate_left)) | fail))
      (apply R.call; (exact a_evs); exact rfl; (apply K.arr (h := rrnum_K (v := .slice Ai r.length ci) (rb := bx) (most := 72057594037927935) (at_ := 0) (bad := 0) (H := (b9, .cells [.int .u64 (ht : Int), .int .i64 hv].toArray 44 (0, 0)) :: (hp1 ++ ((b2, .cells [.int .u64 0, .int .i64 0].toArray 44 (0, 0)) :: H))) hbr (by omega) (Nat.zero_le _))); ((try simp only [List.append_assoc, List.cons_append, List.nil_append, List.append_nil]); exact a_arr); rintro _ M2 _ ⟨rfl, rfl, rfl⟩)
      have hz1 := numRd_at (bs := r) (most := 72057594037927935) (at_ := 0) (bad := 0) (Nat.zero_le _)
      have hrec : recP r = if endR r (byteR r 7 (numRd r 72057594037927935 0 0).2.1 (numRd r 72057594037927935 0 0).2.2).2.1 (byteR r 7 (numRd r 72057594037927935 0 0).2.1 (numRd r 72057594037927935 0 0).2.2).2.2 = 0
        then some ((numRd r 72057594037927935 0 0).1, ((byteR r 7 (numRd r 72057594037927935 0 0).2.1 (numRd r 72057594037927935 0 0).2.2).1.toNat : Int)) else none := rfl
      generalize numRd r 72057594037927935 0 0 = z1 at hz1 hrec
      obtain ⟨t1, a1, e1⟩ := z1
      dsimp only at hz1 hrec ⊢
      (repeat' (first | (apply R.step; (exact a_ok); exact rfl) | (first | (with_reducible first | apply R.nil | apply C.ret | apply C.block | apply C.skip | apply C.exit | apply Fin.thenRet | apply Fin.thenExit | apply Fin.blockNormal | apply Fin.blockRet | apply Fin.blockExit) | (with_reducible apply Fin.thenK; assumption) | (with_reducible apply C.seqK; intro _ _) | (with_reducible apply C.regionK; intro _ _) | (with_reducible apply Fin.blockOther; exact rfl)) | (apply R.store; exact rfl; exact rfl; exact rfl; (exact a_at); (exact a_blit); exact rfl; (focus (simp [Value.oneCell']; done))) | (first | (apply R.guardT; assumption; exact rfl; exact rfl; exact rfl) | (apply R.guardF; assumption; exact rfl; exact rfl; exact rfl; exact rfl; exact rfl) | (apply R.guardU; assumption; exact rfl; exact rfl; exact rfl; exact rfl) | (apply R.guardDec; assumption; exact rfl; exact rfl; (intro h; skip; rotate_left; intro h; skip; rotate_left)) | (apply R.guardBeq; assumption; exact rfl; exact rfl; (intro h; skip; rotate_left; intro h; skip; rotate_left)) | (apply R.guardBne; assumption; exact rfl; exact rfl; (intro h; skip; rotate_left; intro h; skip; rotate_left)) | (apply R.guardNDec; assumption; exact rfl; exact rfl; (intro h; skip; rotate_left; intro h; skip; rotate_left)) | (apply R.guardNot; assumption; exact rfl; exact rfl; (intro h; skip; rotate_left; intro h; skip; rotate_left)) | (apply R.guardC; assumption; exact rfl; exact rfl; (intro h; skip; rotate_left; intro h; skip; rotate_left))) | (first | (apply C.condT; exact rfl) | (apply C.condF; exact rfl) | (apply C.condDec; exact rfl; (intro h; skip; rotate_left; intro h; skip; rotate_left)) | (apply C.condBeq; exact rfl; (intro h; skip; rotate_left; intro h; skip; rotate_left)) | (apply C.condBne; exact rfl; (intro h; skip; rotate_left; intro h; skip; rotate_left)) | (apply C.condNDec; exact rfl; (intro h; skip; rotate_left; intro h; skip; rotate_left)) | (apply C.condNot; exact rfl; (intro h; skip; rotate_left; intro h; skip; rotate_left)) | (apply C.cond; exact rfl; (intro h; skip; rotate_left; intro h; skip; rotate_left)))))
      ((apply R.alloc; (simp only [Value.cells]; rfl); exact rfl); intro b13)
      (repeat' (first | refine a_go ?_ | (with_reducible apply Fin.thenK; assumption) | (with_reducible (first | apply C.seqK | apply C.regionK); intro _ _) | (apply R.buildSlice0; exact rfl; intro bz) | (apply R.box; exact rfl; (simp only [Value.cells]; rfl); exact rfl; intro bx) | (apply R.alloc; (simp only [Value.cells]; rfl); exact rfl; intro ba) | (apply R.buildSlice; (exact a_prt); exact rfl; exact rfl; (exact a_fills); exact rfl; intro bl) | (refine a_sp ?_ ?_; (intro h; skip; rotate_left; intro h; skip; rotate_left)) | fail))
      (apply R.call; (exact a_evs); exact rfl; (apply K.arr (h := rrbyte_K (v := .slice Ai r.length ci) (rb := bx) (most := 7) (at_ := a1) (bad := e1) (H := (b13, .cells [.int .u64 (t1 : Int), .int .i64 0].toArray 44 (0, 0)) :: (b9, .cells [.int .u64 (ht : Int), .int .i64 hv].toArray 44 (0, 0)) :: (hp1 ++ ((b2, .cells [.int .u64 0, .int .i64 0].toArray 44 (0, 0)) :: H))) hbr hz1)); ((try simp only [List.append_assoc, List.cons_append, List.nil_append, List.append_nil]); exact a_arr); rintro _ M2 _ ⟨rfl, rfl, rfl⟩)
      generalize byteR r 7 a1 e1 = z2 at hrec
      obtain ⟨t2, a2, e2⟩ := z2
      dsimp only at hrec ⊢
      (repeat' (first | (apply R.step; (apply Ok.move; exact rfl); exact rfl) | (apply R.step; (apply Ok.convBI; exact rfl); exact rfl) | refine a_go ?_ | (with_reducible apply Fin.thenK; assumption) | (with_reducible (first | apply C.seqK | apply C.regionK); intro _ _) | (apply R.buildSlice0; exact rfl; intro bz) | (apply R.box; exact rfl; (simp only [Value.cells]; rfl); exact rfl; intro bx) | (apply R.alloc; (simp only [Value.cells]; rfl); exact rfl; intro ba) | (apply R.buildSlice; (exact a_prt); exact rfl; exact rfl; (exact a_fills); exact rfl; intro bl) | (refine a_sp ?_ ?_; (intro h; skip; rotate_left; intro h; skip; rotate_left)) | fail))
      (apply R.call; (exact a_evs); exact rfl; (apply K.arr (h := rrend_K (v := .slice Ai r.length ci) (rb := bx) (at_ := a2) (bad := e2) (H := (b13, .cells [.int .u64 (t1 : Int), .int .i64 (t2.toNat : Int)].toArray 44 (0, 0)) :: (b9, .cells [.int .u64 (ht : Int), .int .i64 hv].toArray 44 (0, 0)) :: (hp1 ++ ((b2, .cells [.int .u64 0, .int .i64 0].toArray 44 (0, 0)) :: H))) hbr (by omega))); ((try simp only [List.append_assoc, List.cons_append, List.nil_append, List.append_nil]); exact a_arr); rintro _ M2 _ ⟨rfl, rfl, rfl⟩)
      by_cases hE : endR r a2 e2 = 0
      · rw [if_pos hE] at hrec
        rw [hE]
        have hat2 : (at_ : Int) + 8 + (r.length : Int) = ((at_ + (8 + r.length) : Nat) : Int) := by omega
        (repeat' (first | (apply R.step; (apply Ok.move; exact rfl); exact rfl) | (apply R.step; (first | (apply Ok.loadP; exact rfl; exact rfl; exact hM; exact hcell) | (apply Ok.addQ ((at_ + (8 + r.length) : Nat) : Int); exact rfl; exact rfl; exact hat2; apply w64; omega; omega)); exact rfl) | refine a_go ?_ | (with_reducible apply Fin.thenK; assumption) | (with_reducible (first | apply C.seqK | apply C.regionK); intro _ _) | (apply R.buildSlice0; exact rfl; intro bz) | (apply R.box; exact rfl; (simp only [Value.cells]; rfl); exact rfl; intro bx) | (apply R.alloc; (simp only [Value.cells]; rfl); exact rfl; intro ba) | (apply R.buildSlice; (exact a_prt); exact rfl; exact rfl; (exact a_fills); exact rfl; intro bl) | (refine a_sp ?_ ?_; (intro h; skip; rotate_left; intro h; skip; rotate_left)) | fail))
        (apply Fin.arr (H2 := (b9, .cells [.int .u64 (t1 : Int), .int .i64 (t2.toNat : Int)].toArray 44 (0, 0)) :: (hp1 ++ ((b2, .cells [.int .u64 0, .int .i64 0].toArray 44 (0, 0)) :: H))); ((try simp only [List.append_assoc, List.cons_append, List.nil_append, List.append_nil]); exact a_arr))
        refine Fin.again (⟨i + 1, ii + 1, (t1, (t2.toNat : Int)), at_ + (8 + r.length)⟩ : RohX) ⟨by dsimp only; omega, by dsimp only; omega, ?_, hes.symm⟩ (by dsimp only; omega) ?_ rfl rfl
        · dsimp only
          rw [hop, openF_some hrec, frameS_len hr6]
        · (exact a_subs)
      · rw [if_neg hE] at hrec
        (repeat' (first | (apply R.step; (apply Ok.move; exact rfl); exact rfl) | (apply R.step; (apply Ok.neIT; exact rfl; exact rfl; exact hE); exact rfl) | refine a_go ?_ | (with_reducible apply Fin.thenK; assumption) | (with_reducible (first | apply C.seqK | apply C.regionK); intro _ _) | (apply R.buildSlice0; exact rfl; intro bz) | (apply R.box; exact rfl; (simp only [Value.cells]; rfl); exact rfl; intro bx) | (apply R.alloc; (simp only [Value.cells]; rfl); exact rfl; intro ba) | (apply R.buildSlice; (exact a_prt); exact rfl; exact rfl; (exact a_fills); exact rfl; intro bl) | (refine a_sp ?_ ?_; (intro h; skip; rotate_left; intro h; skip; rotate_left)) | fail))
        apply Fin.blockOther (by exact rfl)
        (repeat' (first | refine a_go ?_ | (with_reducible apply Fin.thenK; assumption) | (with_reducible (first | apply C.seqK | apply C.regionK); intro _ _) | (apply R.buildSlice0; exact rfl; intro bz) | (apply R.box; exact rfl; (simp only [Value.cells]; rfl); exact rfl; intro bx) | (apply R.alloc; (simp only [Value.cells]; rfl); exact rfl; intro ba) | (apply R.buildSlice; (exact a_prt); exact rfl; exact rfl; (exact a_fills); exact rfl; intro bl) | (refine a_sp ?_ ?_; (intro h; skip; rotate_left; intro h; skip; rotate_left)) | fail))
        (apply Fin.arr (H2 := (b9, .cells [.int .u64 (ht : Int), .int .i64 hv].toArray 44 (0, 0)) :: (hp1 ++ ((b2, .cells [.int .u64 0, .int .i64 0].toArray 44 (0, 0)) :: H))); ((try simp only [List.append_assoc, List.cons_append, List.nil_append, List.append_nil]); exact a_arr))
        refine Fin.join (⟨(ht, hv), at_⟩ : RohY) (by dsimp only; rw [hop, openF_none hrec]) ?_ rfl rfl
        (exact a_subs)
    have hie : i = fs.length := by omega
    subst hie
    rw [List.drop_length] at hop
    (repeat' (first | (apply R.step; (apply Ok.move; exact rfl); exact rfl) | (apply R.step; (first | (apply Ok.ltTr; exact rfl; exact rfl; omega) | (apply Ok.ltF; exact rfl; exact rfl; omega) | (apply Ok.gtTr; exact rfl; exact rfl; omega) | (apply Ok.gtF; exact rfl; exact rfl; omega) | (apply Ok.geTr; exact rfl; exact rfl; omega) | (apply Ok.geF; exact rfl; exact rfl; omega) | (apply Ok.leTr; exact rfl; exact rfl; omega) | (apply Ok.leF; exact rfl; exact rfl; omega) | (apply Ok.neIT; exact rfl; exact rfl; omega) | (apply Ok.eqIF; exact rfl; exact rfl; omega)); exact rfl) | refine a_go ?_ | (with_reducible apply Fin.thenK; assumption) | (with_reducible (first | apply C.seqK | apply C.regionK); intro _ _) | (apply R.buildSlice0; exact rfl; intro bz) | (apply R.box; exact rfl; (simp only [Value.cells]; rfl); exact rfl; intro bx) | (apply R.alloc; (simp only [Value.cells]; rfl); exact rfl; intro ba) | (apply R.buildSlice; (exact a_prt); exact rfl; exact rfl; (exact a_fills); exact rfl; intro bl) | (refine a_sp ?_ ?_; (intro h; skip; rotate_left; intro h; skip; rotate_left)) | fail))
    refine Fin.join (⟨(ht, hv), at_⟩ : RohY) (by dsimp only; exact hop) ?_ rfl rfl
    (exact a_subs)
  rintro ⟨⟨ht, hv⟩, at_⟩ hop
  dsimp only at hop ⊢
  rw [hop] at hQ
  by_cases hlt : at_ < b.length
  · (repeat' (first | (apply R.step; (apply Ok.move; exact rfl); exact rfl) | (apply R.step; (first | (apply Ok.ltTr; exact rfl; exact rfl; omega) | (apply Ok.ltF; exact rfl; exact rfl; omega) | (apply Ok.gtTr; exact rfl; exact rfl; omega) | (apply Ok.gtF; exact rfl; exact rfl; omega) | (apply Ok.geTr; exact rfl; exact rfl; omega) | (apply Ok.geF; exact rfl; exact rfl; omega) | (apply Ok.leTr; exact rfl; exact rfl; omega) | (apply Ok.leF; exact rfl; exact rfl; omega) | (apply Ok.neIT; exact rfl; exact rfl; omega) | (apply Ok.eqIF; exact rfl; exact rfl; omega)); exact rfl) | refine a_go ?_ | (with_reducible apply Fin.thenK; assumption) | (with_reducible (first | apply C.seqK | apply C.regionK); intro _ _) | (apply R.buildSlice0; exact rfl; intro bz) | (apply R.box; exact rfl; (simp only [Value.cells]; rfl); exact rfl; intro bx) | (apply R.alloc; (simp only [Value.cells]; rfl); exact rfl; intro ba) | (apply R.buildSlice; (exact a_prt); exact rfl; exact rfl; (exact a_fills); exact rfl; intro bl) | (refine a_sp ?_ ?_; (intro h; skip; rotate_left; intro h; skip; rotate_left)) | fail))
    apply R.arr (H2 := hp1 ++ ((b9, .cells [.int .u64 (ht : Int), .int .i64 hv].toArray 44 (0, 0)) :: (b2, .cells [.int .u64 0, .int .i64 0].toArray 44 (0, 0)) :: H)) (by ((try simp only [List.append_assoc, List.cons_append, List.nil_append, List.append_nil]); exact a_arr))
    (apply R.call; (exact a_evs); exact rfl; exact rtruncate_K (n := hfile) (k := (at_ : Int)) (ho1.mono hM2) (by omega) (by omega); rintro _ M4 _ ⟨rfl, hM4, hp4, ho4, rfl⟩)
    rw [Int.toNat_natCast] at ho4
    by_cases hte : trcE d1 hfile (at_ : Int) ≠ 0
    · have hE : openC d1 b ((ht, hv), at_) = (trcE d1 hfile (at_ : Int), opD (trcE d1 hfile (at_ : Int)) d1 (.trc hfile at_), (0, 0)) := (if_pos hlt).trans (if_pos hte)
      rw [hE] at hQ
      (repeat' (first | (apply R.step; (apply Ok.move; exact rfl); exact rfl) | (apply R.step; (apply Ok.neIT; exact rfl; exact rfl; exact hte); exact rfl) | refine a_go ?_ | (with_reducible apply Fin.thenK; assumption) | (with_reducible (first | apply C.seqK | apply C.regionK); intro _ _) | (apply R.buildSlice0; exact rfl; intro bz) | (apply R.box; exact rfl; (simp only [Value.cells]; rfl); exact rfl; intro bx) | (apply R.alloc; (simp only [Value.cells]; rfl); exact rfl; intro ba) | (apply R.buildSlice; (exact a_prt); exact rfl; exact rfl; (exact a_fills); exact rfl; intro bl) | (refine a_sp ?_ ?_; (intro h; skip; rotate_left; intro h; skip; rotate_left)) | fail))
      (apply Fin.returnA (H2 := hp4 ++ H); assumption; (first | exact .inl rfl | exact .inr rfl); exact rfl; (exact a_res); (simp only [retv]; rfl); (exact a_arr))
      exact ⟨rfl, hM1.trans_ (hM2.trans_ hM4), hp4, ho4, rfl⟩
    · have hte0 : trcE d1 hfile (at_ : Int) = 0 := by omega
      have hE : openC d1 b ((ht, hv), at_) = (0, opD 0 d1 (.trc hfile at_), (ht, hv)) := (if_pos hlt).trans (if_neg hte)
      rw [hE] at hQ
      rw [hte0] at ho4 ⊢
      (repeat' (first | refine a_go ?_ | (with_reducible apply Fin.thenK; assumption) | (with_reducible (first | apply C.seqK | apply C.regionK); intro _ _) | (apply R.buildSlice0; exact rfl; intro bz) | (apply R.box; exact rfl; (simp only [Value.cells]; rfl); exact rfl; intro bx) | (apply R.alloc; (simp only [Value.cells]; rfl); exact rfl; intro ba) | (apply R.buildSlice; (exact a_prt); exact rfl; exact rfl; (exact a_fills); exact rfl; intro bl) | (refine a_sp ?_ ?_; (intro h; skip; rotate_left; intro h; skip; rotate_left)) | fail))
      (apply Fin.returnA (H2 := hp4 ++ H); assumption; (first | exact .inl rfl | exact .inr rfl); exact rfl; (exact a_res); (simp only [retv]; rfl); (exact a_arr))
      exact ⟨rfl, hM1.trans_ (hM2.trans_ hM4), hp4, ho4, rfl⟩
  · have hE : openC d1 b ((ht, hv), at_) = (0, d1, (ht, hv)) := if_neg hlt
    rw [hE] at hQ
    (repeat' (first | (apply R.step; (apply Ok.move; exact rfl); exact rfl) | (apply R.step; (first | (apply Ok.ltTr; exact rfl; exact rfl; omega) | (apply Ok.ltF; exact rfl; exact rfl; omega) | (apply Ok.gtTr; exact rfl; exact rfl; omega) | (apply Ok.gtF; exact rfl; exact rfl; omega) | (apply Ok.geTr; exact rfl; exact rfl; omega) | (apply Ok.geF; exact rfl; exact rfl; omega) | (apply Ok.leTr; exact rfl; exact rfl; omega) | (apply Ok.leF; exact rfl; exact rfl; omega) | (apply Ok.neIT; exact rfl; exact rfl; omega) | (apply Ok.eqIF; exact rfl; exact rfl; omega)); exact rfl) | refine a_go ?_ | (with_reducible apply Fin.thenK; assumption) | (with_reducible (first | apply C.seqK | apply C.regionK); intro _ _) | (apply R.buildSlice0; exact rfl; intro bz) | (apply R.box; exact rfl; (simp only [Value.cells]; rfl); exact rfl; intro bx) | (apply R.alloc; (simp only [Value.cells]; rfl); exact rfl; intro ba) | (apply R.buildSlice; (exact a_prt); exact rfl; exact rfl; (exact a_fills); exact rfl; intro bl) | (refine a_sp ?_ ?_; (intro h; skip; rotate_left; intro h; skip; rotate_left)) | fail))
    (apply Fin.returnA (H2 := hp1 ++ H); assumption; (first | exact .inl rfl | exact .inr rfl); exact rfl; (exact a_res); (simp only [retv]; rfl); (exact a_arr))
    exact ⟨rfl, hM1.trans_ hM2, hp1, ho1.mono hM2, rfl⟩
end Go.Sx
end
section
namespace Go.Sx
open Go Go.Proofs Go.RowKit
attribute [local irreducible] C R Fin K Own OwnT Rd Pl Ok KOf RetOk OpsOf RP KP Res NoPanic KV KE MapS ItS EntS FsO FsR RowD PlD DkO PlFs RT KT OneT RS KS OneS RdO
structure HStep where
  w : Int
  h : Hd
  near : Bool
  a : Int
  b : Int
  c : Int
def hstC (x : HStep) : List Value := [.int .i64 x.w, .int .u64 (x.h.1 : Int), .int .i64 x.h.2, .bool x.near, .int .i64 x.a, .int .i64 x.b, .int .i64 x.c]
section
variable {H : Type} {enc : TypeId × Value → H} {W : World} {m : Nat} {cs : List Value} {z : DataW H × List MemPlace}
theorem rd_harm (h : Trd enc Try.prog W m 52 cs z) (hw : Wgt Try.prog 52 z.1) : ∃ a b c : Int, cs = [.int .i64 a, .int .i64 b, .int .i64 c] := by
  obtain ⟨hl, k, hf⟩ := rd_fields Try.underlying52 h hw
  rw [show Try.prog.cellsOf 52 = 3 by kernel_rfl] at hl
  obtain ⟨y0, h0, _⟩ := hf 0 3 0 1 rfl (by kernel_rfl)
  obtain ⟨y1, h1, _⟩ := hf 1 3 1 1 rfl (by kernel_rfl)
  obtain ⟨y2, h2, _⟩ := hf 2 3 2 1 rfl (by kernel_rfl)
  obtain ⟨a0, e0, _⟩ := rd_int h0
  obtain ⟨a1, e1, _⟩ := rd_int h1
  obtain ⟨a2, e2, _⟩ := rd_int h2
  match cs, hl with
  | [x0, x1, x2], _ =>
    cases e0; cases e1; cases e2
    exact ⟨a0, a1, a2, rfl⟩
theorem rd_hst (h : Trd enc Try.prog W m 54 cs z) (hw : Wgt Try.prog 54 z.1) : ∃ x : HStep, cs = hstC x ∧ rngH x.h := by
  obtain ⟨hl, k, hf⟩ := rd_fields Try.underlying54 h hw
  rw [show Try.prog.cellsOf 54 = 7 by kernel_rfl] at hl
  obtain ⟨y0, h0, _⟩ := hf 0 3 0 1 rfl (by kernel_rfl)
  obtain ⟨y1, h1, w1⟩ := hf 1 44 1 2 rfl (by kernel_rfl)
  obtain ⟨y2, h2, _⟩ := hf 2 4 3 1 rfl (by kernel_rfl)
  obtain ⟨y3, h3, w3⟩ := hf 3 52 4 3 rfl (by kernel_rfl)
  obtain ⟨a0, e0, _⟩ := rd_int h0
  obtain ⟨x1, e1, r1⟩ := rd_hd h1 w1
  obtain ⟨a2, e2⟩ := rd_bool h2
  obtain ⟨a, b, c, e3⟩ := rd_harm h3 w3
  match cs, hl with
  | [c0, c1, c2, c3, c4, c5, c6], _ =>
    cases e0; cases e1; cases e2; cases e3
    exact ⟨⟨a0, x1, a2, a, b, c⟩, rfl, r1⟩
theorem rd_hsts : ∀ (css : List (List Value)), (∀ c ∈ css, c.length = 7 ∧ ∃ m y, Trd enc Try.prog W m 54 c y ∧ Wgt Try.prog 54 y.1) → ∃ xs : List HStep, css = xs.map hstC ∧ ∀ x ∈ xs, rngH x.h
  | [], _ => ⟨[], rfl, fun _ h => absurd h List.not_mem_nil⟩
  | c :: css, h => by
    obtain ⟨xs, h1, h2⟩ := rd_hsts css (fun c hc => h c (List.mem_cons_of_mem _ hc))
    obtain ⟨_, m, y, h5, h6⟩ := h c (List.mem_cons_self ..)
    obtain ⟨x, rfl, h7⟩ := rd_hst h5 h6
    refine ⟨x :: xs, by rw [h1]; rfl, fun a ha => ?_⟩
    rcases List.mem_cons.1 ha with rfl | ha
    · exact h7
    · exact h2 a ha
end
variable {M M' : Mem} {H H1 H2 : Hp}
theorem row_agg {A : Option Addr} {css : List (List Value)} {sz : Nat} {k : Nat} (hp : Pl M A css.flatten) (hc : ∀ c ∈ css, c.length = sz) (h0 : 0 < sz) (hk : k < css.length) :
    ∃ b o c e fr, A = some ⟨b, o, none⟩ ∧ M.at_ b = some (.cells c e fr) ∧ ∀ (q : Nat) u, (css[k])[q]? = some u → c[o + k * sz + q]? = some u := by
  have hl := hc _ (List.getElem_mem hk)
  have h00 : (css[k])[0]? = some ((css[k])[0]'(by omega)) := List.getElem?_eq_getElem _
  obtain ⟨b, o, c, e, fr, g1, g2, _⟩ := hp.get (rows_get hc hk h00)
  refine ⟨b, o, c, e, fr, g1, g2, fun q u hq => ?_⟩
  obtain ⟨b', o', c', e', fr', g1', g2', g3'⟩ := hp.get (rows_get hc hk hq)
  rw [g1] at g1'
  cases g1'
  rw [g2] at g2'
  cases g2'
  rw [Nat.add_assoc]
  exact g3'
theorem hstC_all (xs : List HStep) : ∀ c ∈ xs.map hstC, c.length = 7 := by
  intro c hc
  obtain ⟨x, _, rfl⟩ := List.mem_map.1 hc
  rfl
theorem openD_sz (d : Dk) : szD (openD d).2.1 ≤ szD d + 2 := by
  have h := clearD_sz d
  unfold openD
  split
  · dsimp only
    omega
  · unfold openC
    split
    · split
      · have := opD_ps2 (clearD d).2 (trcE (clearD d).2 hfile (openF (framesF ((readD (clearD d).2 hfile).getD []).length ((readD (clearD d).2 hfile).getD [])) (0, 0) 0).2) (.trc hfile (openF (framesF ((readD (clearD d).2 hfile).getD []).length ((readD (clearD d).2 hfile).getD [])) (0, 0) 0).2)
        exact Nat.le_trans this (by omega)
      · exact Nat.le_trans (opD_ps2 _ _ _) (by omega)
    · dsimp only
      omega
theorem saveD_sz (d : Dk) (t : Nat) (v : Int) : szD (saveD d t v).2 ≤ szD d + 3 := by
  have h := clearD_sz d
  unfold saveD
  split
  · dsimp only
    omega
  split
  · exact Nat.le_trans (opD_ps2 _ _ _) (by omega)
  split
  · omega
  split
  · exact Nat.le_trans (opD_ps2 _ _ _) (by omega)
  · have h2 := opD_ps2 (clearD d).2 0 (.app hnew (frameS (recS t v)))
    exact Nat.le_trans (opD_ps2 _ _ _) (by omega)
structure HpX where
  i : Nat
  ii : Int
  d : Dk
  hp : Hp
  hq : Hp
  M : Mem
theorem hardPlays_K {A : Option Addr} {cap : Nat} {xs : List HStep} (hpl : Pl M A (xs.map hstC).flatten) (hx : ∀ x ∈ xs, rngH x.h) : K Try.prog 11 [.slice A xs.length cap] M H fun v' M' H' => v' = .bool true ∧ M.le M' := by
  refine K.enterK Try.func11 rfl rfl rfl ?_
  intro Q hNP hQ
  (repeat' (first | refine a_go ?_ | (with_reducible apply Fin.thenK; assumption) | (with_reducible (first | apply C.seqK | apply C.regionK); intro _ _) | (apply R.buildSlice0; exact rfl; intro bz) | (apply R.box; exact rfl; (simp only [Value.cells]; rfl); exact rfl; intro bx) | (apply R.alloc; (simp only [Value.cells]; rfl); exact rfl; intro ba) | (apply R.buildSlice; (exact a_prt); exact rfl; exact rfl; (exact a_fills); exact rfl; intro bl) | (refine a_sp ?_ ?_; (intro h; skip; rotate_left; intro h; skip; rotate_left)) | fail))
  (apply R.call; (exact a_evs); exact rfl; exact pair_K (room := 1048576) (by decide) (by decide) PlFs.nil (fun p hp => by cases hp); rintro _ M1 _ ⟨db, rb, hp, hq, rfl, hM1, ho, hr, rfl⟩)
  (repeat' (first | refine a_go ?_ | (with_reducible apply Fin.thenK; assumption) | (with_reducible (first | apply C.seqK | apply C.regionK); intro _ _) | (apply R.buildSlice0; exact rfl; intro bz) | (apply R.box; exact rfl; (simp only [Value.cells]; rfl); exact rfl; intro bx) | (apply R.alloc; (simp only [Value.cells]; rfl); exact rfl; intro ba) | (apply R.buildSlice; (exact a_prt); exact rfl; exact rfl; (exact a_fills); exact rfl; intro bl) | (refine a_sp ?_ ?_; (intro h; skip; rotate_left; intro h; skip; rotate_left)) | fail))
  (apply R.call; (exact a_evs); exact rfl; exact hknown_K; rintro _ M2 _ ⟨rfl, hM2, rfl⟩)
  replace ho := ho.mono hM2
  replace hr := hr.mono hM2
  replace hpl := hpl.mono (hM1.trans_ hM2)
  have hsz0 : szD (pairD 1048576 []) ≤ 0 := synD_sz _
  generalize pairD 1048576 [] = d0 at ho hr hsz0
  (repeat' (first | refine a_go ?_ | (with_reducible apply Fin.thenK; assumption) | (with_reducible (first | apply C.seqK | apply C.regionK); intro _ _) | (apply R.buildSlice0; exact rfl; intro bz) | (apply R.box; exact rfl; (simp only [Value.cells]; rfl); exact rfl; intro bx) | (apply R.alloc; (simp only [Value.cells]; rfl); exact rfl; intro ba) | (apply R.buildSlice; (exact a_prt); exact rfl; exact rfl; (exact a_fills); exact rfl; intro bl) | (refine a_sp ?_ ?_; (intro h; skip; rotate_left; intro h; skip; rotate_left)) | fail))
  apply C.loop (fun y : HpX => (y.i : Int) = y.ii ∧ y.i ≤ 120 ∧ szD y.d ≤ 3 * y.i ∧ M2.le y.M ∧ DkO y.M db y.d y.hp ∧ RdO y.M rb y.d y.hq)
    (fun y => [(0, .slice A xs.length cap), (3, .pointer (some ⟨db, 0, none⟩)), (4, .pointer (some ⟨rb, 0, none⟩)), (6, .int .i64 y.ii)]) (fun y => y.M) (fun y => y.hp ++ (y.hq ++ H)) (fun y => 120 - y.i) ⟨0, 0, d0, hp, hq, M2⟩
  · exact ⟨rfl, Nat.zero_le _, hsz0, Mem.le_refl _, ho, hr⟩
  · (exact a_subs)
  · exact rfl
  · exact rfl
  rintro ⟨i, ii, d, hp, hq, M3⟩ ⟨hii, hi, hsz, hM3, ho, hr⟩
  dsimp only at hii hi hsz hM3 ho hr ⊢
  by_cases hix : i < xs.length ∧ i < 120
  rotate_left
  · by_cases h1 : i < xs.length
    · have h2 : ¬ i < 120 := fun h => hix ⟨h1, h⟩
      (repeat' (first | (apply R.step; (apply Ok.move; exact rfl); exact rfl) | (apply R.step; (first | (apply Ok.ltTr; exact rfl; exact rfl; omega) | (apply Ok.ltF; exact rfl; exact rfl; omega) | (apply Ok.gtTr; exact rfl; exact rfl; omega) | (apply Ok.gtF; exact rfl; exact rfl; omega) | (apply Ok.geTr; exact rfl; exact rfl; omega) | (apply Ok.geF; exact rfl; exact rfl; omega) | (apply Ok.leTr; exact rfl; exact rfl; omega) | (apply Ok.leF; exact rfl; exact rfl; omega) | (apply Ok.neIT; exact rfl; exact rfl; omega) | (apply Ok.eqIF; exact rfl; exact rfl; omega)); exact rfl) | refine a_go ?_ | (with_reducible apply Fin.thenK; assumption) | (with_reducible (first | apply C.seqK | apply C.regionK); intro _ _) | (apply R.buildSlice0; exact rfl; intro bz) | (apply R.box; exact rfl; (simp only [Value.cells]; rfl); exact rfl; intro bx) | (apply R.alloc; (simp only [Value.cells]; rfl); exact rfl; intro ba) | (apply R.buildSlice; (exact a_prt); exact rfl; exact rfl; (exact a_fills); exact rfl; intro bl) | (refine a_sp ?_ ?_; (intro h; skip; rotate_left; intro h; skip; rotate_left)) | fail))
      (apply Fin.returnA (H2 := H); assumption; (first | exact .inl rfl | exact .inr rfl); exact rfl; (exact a_res); (simp only [retv]; rfl); (exact a_arr))
      exact ⟨rfl, hM1.trans_ (hM2.trans_ hM3)⟩
    · (repeat' (first | (apply R.step; (apply Ok.move; exact rfl); exact rfl) | (apply R.step; (first | (apply Ok.ltTr; exact rfl; exact rfl; omega) | (apply Ok.ltF; exact rfl; exact rfl; omega) | (apply Ok.gtTr; exact rfl; exact rfl; omega) | (apply Ok.gtF; exact rfl; exact rfl; omega) | (apply Ok.geTr; exact rfl; exact rfl; omega) | (apply Ok.geF; exact rfl; exact rfl; omega) | (apply Ok.leTr; exact rfl; exact rfl; omega) | (apply Ok.leF; exact rfl; exact rfl; omega) | (apply Ok.neIT; exact rfl; exact rfl; omega) | (apply Ok.eqIF; exact rfl; exact rfl; omega)); exact rfl) | refine a_go ?_ | (with_reducible apply Fin.thenK; assumption) | (with_reducible (first | apply C.seqK | apply C.regionK); intro _ _) | (apply R.buildSlice0; exact rfl; intro bz) | (apply R.box; exact rfl; (simp only [Value.cells]; rfl); exact rfl; intro bx) | (apply R.alloc; (simp only [Value.cells]; rfl); exact rfl; intro ba) | (apply R.buildSlice; (exact a_prt); exact rfl; exact rfl; (exact a_fills); exact rfl; intro bl) | (refine a_sp ?_ ?_; (intro h; skip; rotate_left; intro h; skip; rotate_left)) | fail))
      (apply Fin.returnA (H2 := H); assumption; (first | exact .inl rfl | exact .inr rfl); exact rfl; (exact a_res); (simp only [retv]; rfl); (exact a_arr))
      exact ⟨rfl, hM1.trans_ (hM2.trans_ hM3)⟩
  obtain ⟨hix, hi1⟩ := hix
  obtain ⟨b, o, cc, e, fr, hA, hMb, hcell⟩ := row_agg (hpl.mono hM3) (hstC_all xs) (by decide) (k := i) (by rw [List.length_map]; exact hix)
  subst hA
  rw [List.getElem_map, show o + i * 7 = o + ii.toNat * 7 by omega] at hcell
  have hrx := hx _ (List.getElem_mem hix)
  generalize xs[i] = x at hcell hrx
  obtain ⟨w, ⟨t, v⟩, near, a, b', c⟩ := x
  have c0 := hcell 0 _ rfl
  have hall := hcell
  have hharm : ∀ (q : Nat) u, [Value.int .i64 a, .int .i64 b', .int .i64 c][q]? = some u → cc[o + ii.toNat * 7 + 4 + q]? = some u := fun q u hq => by
    rw [Nat.add_assoc]
    match q, hq with
    | 0, hq => cases hq; exact hcell 4 _ rfl
    | 1, hq => cases hq; exact hcell 5 _ rfl
    | 2, hq => cases hq; exact hcell 6 _ rfl
  unfold hstC at hall
  dsimp only at hall c0 hrx
  (repeat' (first | (apply R.step; (apply Ok.move; exact rfl); exact rfl) | (apply R.step; (first | (first | (apply Ok.ltTr; exact rfl; exact rfl; omega) | (apply Ok.ltF; exact rfl; exact rfl; omega) | (apply Ok.gtTr; exact rfl; exact rfl; omega) | (apply Ok.gtF; exact rfl; exact rfl; omega) | (apply Ok.geTr; exact rfl; exact rfl; omega) | (apply Ok.geF; exact rfl; exact rfl; omega) | (apply Ok.leTr; exact rfl; exact rfl; omega) | (apply Ok.leF; exact rfl; exact rfl; omega) | (apply Ok.neIT; exact rfl; exact rfl; omega) | (apply Ok.eqIF; exact rfl; exact rfl; omega)) | (apply Ok.loadAggP (vs := [Value.int .i64 a, .int .i64 b', .int .i64 c]); exact rfl; exact rfl; exact hMb; exact rfl; exact hharm)); exact rfl) | refine a_go ?_ | (with_reducible apply Fin.thenK; assumption) | (with_reducible (first | apply C.seqK | apply C.regionK); intro _ _) | (apply R.buildSlice0; exact rfl; intro bz) | (apply R.box; exact rfl; (simp only [Value.cells]; rfl); exact rfl; intro bx) | (apply R.alloc; (simp only [Value.cells]; rfl); exact rfl; intro ba) | (apply R.buildSlice; (exact a_prt); exact rfl; exact rfl; (exact a_fills); exact rfl; intro bl) | (refine a_sp ?_ ?_; (intro h; skip; rotate_left; intro h; skip; rotate_left)) | fail))
  (apply R.call; (exact a_evs); exact rfl; exact harms_K (what := a) (a := b') (b := c) ho hr (by omega); rintro _ M4 _ ⟨rfl, hM4, hp4, hq4, ho4, hr4, rfl⟩)
  have hsz4 := harmD_sz d a b' c
  generalize harmD d a b' c = d4 at ho4 hr4 hsz4
  have hMb4 := hM4.2.2 _ _ hMb
  have hps4 := ps_sz d4
  have hnw4 := now_sz d4
  (repeat' (first | (apply R.step; (exact a_ok); exact rfl) | (first | (with_reducible first | apply R.nil | apply C.ret | apply C.block | apply C.skip | apply C.exit | apply Fin.thenRet | apply Fin.thenExit | apply Fin.blockNormal | apply Fin.blockRet | apply Fin.blockExit) | (with_reducible apply Fin.thenK; assumption) | (with_reducible apply C.seqR; intro _ _) | (with_reducible apply C.regionK; intro _ _) | (with_reducible apply Fin.blockOther; exact rfl)) | (first | (apply R.store; exact rfl; exact rfl; exact rfl; (exact a_at); (exact a_blit); exact rfl; (focus (simp [Value.oneCell']; done))) | (apply R.buildSlice0; exact rfl; intro bz) | (apply R.box; exact rfl; (simp only [Value.cells]; rfl); exact rfl; intro bx) | (apply R.alloc; (simp only [Value.cells]; rfl); exact rfl; intro ba) | (apply R.buildSlice; (exact a_prt); exact rfl; exact rfl; (exact a_fills); exact rfl; intro bl)) | (first | (apply R.guardT; assumption; exact rfl; exact rfl; exact rfl) | (apply R.guardF; assumption; exact rfl; exact rfl; exact rfl; exact rfl; exact rfl) | (apply R.guardU; assumption; exact rfl; exact rfl; exact rfl; exact rfl) | (apply R.guardDec; assumption; exact rfl; exact rfl; (intro h; skip; rotate_left; intro h; skip; rotate_left)) | (apply R.guardBeq; assumption; exact rfl; exact rfl; (intro h; skip; rotate_left; intro h; skip; rotate_left)) | (apply R.guardBne; assumption; exact rfl; exact rfl; (intro h; skip; rotate_left; intro h; skip; rotate_left)) | (apply R.guardNDec; assumption; exact rfl; exact rfl; (intro h; skip; rotate_left; intro h; skip; rotate_left)) | (apply R.guardNot; assumption; exact rfl; exact rfl; (intro h; skip; rotate_left; intro h; skip; rotate_left)) | (apply R.guardC; assumption; exact rfl; exact rfl; (intro h; skip; rotate_left; intro h; skip; rotate_left)))))
  apply C.seqCut (X := HpX) (fun y => szD y.d ≤ 3 * i + 3 ∧ M4.le y.M ∧ DkO y.M db y.d y.hp ∧ RdO y.M rb y.d y.hq)
    (fun y => [(0, .slice (some ⟨b, o, none⟩) xs.length cap), (3, .pointer (some ⟨db, 0, none⟩)), (4, .pointer (some ⟨rb, 0, none⟩)), (6, .int .i64 ii), (7, .bool true)]) (fun y => y.M) (fun y => y.hp ++ (y.hq ++ H))
  · (repeat' (first | (apply R.step; (apply Ok.move; exact rfl); exact rfl) | (apply R.step; (apply Ok.loadP; exact rfl; exact rfl; exact hMb4; exact c0); exact rfl) | refine a_go ?_ | (with_reducible apply Fin.thenK; assumption) | (with_reducible (first | apply C.seqK | apply C.regionK); intro _ _) | (apply R.buildSlice0; exact rfl; intro bz) | (apply R.box; exact rfl; (simp only [Value.cells]; rfl); exact rfl; intro bx) | (apply R.alloc; (simp only [Value.cells]; rfl); exact rfl; intro ba) | (apply R.buildSlice; (exact a_prt); exact rfl; exact rfl; (exact a_fills); exact rfl; intro bl) | (refine a_sp ?_ ?_; (intro h; skip; rotate_left; intro h; skip; rotate_left)) | fail))
    (apply R.call; (exact a_evs); exact rfl; exact pick_K w 9 (by decide) (by decide); rintro _ M4 _ ⟨rfl, rfl, rfl⟩)
    by_cases h6 : w % 9 = 6
    · (repeat' (first | (apply R.step; (apply Ok.move; exact rfl); exact rfl) | (apply R.step; (apply Ok.eqIR; exact rfl; exact rfl; exact h6); exact rfl) | refine a_go ?_ | (with_reducible apply Fin.thenK; assumption) | (with_reducible (first | apply C.seqK | apply C.regionK); intro _ _) | (apply R.buildSlice0; exact rfl; intro bz) | (apply R.box; exact rfl; (simp only [Value.cells]; rfl); exact rfl; intro bx) | (apply R.alloc; (simp only [Value.cells]; rfl); exact rfl; intro ba) | (apply R.buildSlice; (exact a_prt); exact rfl; exact rfl; (exact a_fills); exact rfl; intro bl) | (refine a_sp ?_ ?_; (intro h; skip; rotate_left; intro h; skip; rotate_left)) | fail))
      (apply R.call; (exact a_evs); exact rfl; exact sync_K ho4; rintro _ M5 _ ⟨rfl, rfl, hp5, ho5, rfl⟩)
      (repeat' (first | refine a_go ?_ | (with_reducible apply Fin.thenK; assumption) | (with_reducible (first | apply C.seqK | apply C.regionK); intro _ _) | (apply R.buildSlice0; exact rfl; intro bz) | (apply R.box; exact rfl; (simp only [Value.cells]; rfl); exact rfl; intro bx) | (apply R.alloc; (simp only [Value.cells]; rfl); exact rfl; intro ba) | (apply R.buildSlice; (exact a_prt); exact rfl; exact rfl; (exact a_fills); exact rfl; intro bl) | (refine a_sp ?_ ?_; (intro h; skip; rotate_left; intro h; skip; rotate_left)) | fail))
      apply R.arr (H2 := hq4 ++ (hp5 ++ H)) (by ((try simp only [List.append_assoc, List.cons_append, List.nil_append, List.append_nil]); exact a_arr))
      (apply R.call; (exact a_evs); exact rfl; exact rsync_K hr4; rintro _ M5 _ ⟨rfl, rfl, hq5, hr5, rfl⟩)
      have := synD_sz d4
      (repeat' (first | (apply R.step; (apply Ok.move; exact rfl); exact rfl) | (apply R.step; (apply Ok.eqIR; exact rfl; exact rfl; exact rfl); exact rfl) | refine a_go ?_ | (with_reducible apply Fin.thenK; assumption) | (with_reducible (first | apply C.seqK | apply C.regionK); intro _ _) | (apply R.buildSlice0; exact rfl; intro bz) | (apply R.box; exact rfl; (simp only [Value.cells]; rfl); exact rfl; intro bx) | (apply R.alloc; (simp only [Value.cells]; rfl); exact rfl; intro ba) | (apply R.buildSlice; (exact a_prt); exact rfl; exact rfl; (exact a_fills); exact rfl; intro bl) | (refine a_sp ?_ ?_; (intro h; skip; rotate_left; intro h; skip; rotate_left)) | fail))
      (apply Fin.arr (H2 := hp5 ++ (hq5 ++ H)); ((try simp only [List.append_assoc, List.cons_append, List.nil_append, List.append_nil]); exact a_arr))
      refine Fin.join (⟨i, ii, synD d4, hp5, hq5, M5⟩ : HpX) ⟨by dsimp only; omega, Mem.le_refl _, ho5, hr5⟩ ?_ rfl rfl
      (exact a_subs)
    by_cases h78 : w % 9 = 7 ∨ w % 9 = 8
    · have hos := openD_sz d4
      by_cases h7 : w % 9 = 7
      · (repeat' (first | (apply R.step; (apply Ok.move; exact rfl); exact rfl) | (apply R.step; (first | (apply Ok.eqIF; exact rfl; exact rfl; exact h6) | (apply Ok.eqIR; exact rfl; exact rfl; exact h7)); exact rfl) | refine a_go ?_ | (with_reducible apply Fin.thenK; assumption) | (with_reducible (first | apply C.seqK | apply C.regionK); intro _ _) | (apply R.buildSlice0; exact rfl; intro bz) | (apply R.box; exact rfl; (simp only [Value.cells]; rfl); exact rfl; intro bx) | (apply R.alloc; (simp only [Value.cells]; rfl); exact rfl; intro ba) | (apply R.buildSlice; (exact a_prt); exact rfl; exact rfl; (exact a_fills); exact rfl; intro bl) | (refine a_sp ?_ ?_; (intro h; skip; rotate_left; intro h; skip; rotate_left)) | fail))
        (apply R.call; (exact a_evs); exact rfl; exact open_K ho4 (by omega); rintro _ M5 _ ⟨rfl, hM5, hp5, ho5, rfl⟩)
        have hsr := hard_same
        generalize hoz : openD d4 = z at ho5 hos
        obtain ⟨ze, zd, ⟨zt, zv⟩⟩ := z
        dsimp only at ho5 hos ⊢
        unfold hrdV hrdC
        (repeat' (first | refine a_go ?_ | (with_reducible apply Fin.thenK; assumption) | (with_reducible (first | apply C.seqK | apply C.regionK); intro _ _) | (apply R.buildSlice0; exact rfl; intro bz) | (apply R.box; exact rfl; (simp only [Value.cells]; rfl); exact rfl; intro bx) | (apply R.alloc; (simp only [Value.cells]; rfl); exact rfl; intro ba) | (apply R.buildSlice; (exact a_prt); exact rfl; exact rfl; (exact a_fills); exact rfl; intro bl) | (refine a_sp ?_ ?_; (intro h; skip; rotate_left; intro h; skip; rotate_left)) | fail))
        apply R.arr (H2 := hq4 ++ ((ba, .cells #[.int .u64 (zt : Int), .int .i64 zv] 44 (0, 0)) :: (hp5 ++ H))) (by ((try simp only [List.append_assoc, List.cons_append, List.nil_append, List.append_nil]); exact a_arr))
        (apply R.call; (exact a_evs); exact rfl; exact ropenH_K (hr4.mono hM5) (by omega); rintro _ M6 _ ⟨rfl, hM6, hq6, hr6, rfl⟩)
        rw [hoz] at hr6 ⊢
        dsimp only at hr6 ⊢
        unfold hrdV hrdC
        (repeat' (first | (apply R.step; (apply Ok.move; exact rfl); exact rfl) | (apply R.step; (first | (apply Ok.eqS; exact rfl; exact rfl; exact hard_guard; exact hard_same _ _) | (apply Ok.eqIR; exact rfl; exact rfl; exact rfl)); exact rfl) | refine a_go ?_ | (with_reducible apply Fin.thenK; assumption) | (with_reducible (first | apply C.seqK | apply C.regionK); intro _ _) | (apply R.buildSlice0; exact rfl; intro bz) | (apply R.box; exact rfl; (simp only [Value.cells]; rfl); exact rfl; intro bx) | (apply R.alloc; (simp only [Value.cells]; rfl); exact rfl; intro ba) | (apply R.buildSlice; (exact a_prt); exact rfl; exact rfl; (exact a_fills); exact rfl; intro bl) | (refine a_sp ?_ ?_; (intro h; skip; rotate_left; intro h; skip; rotate_left)) | fail))
        (apply Fin.arr (H2 := hp5 ++ (hq6 ++ H)); ((try simp only [List.append_assoc, List.cons_append, List.nil_append, List.append_nil]); exact a_arr))
        refine Fin.join (⟨i, ii, zd, hp5, hq6, M6⟩ : HpX) ⟨by dsimp only; omega, hM5.trans_ hM6, ho5.mono hM6, hr6⟩ ?_ rfl rfl
        (exact a_subs)
      · have h8 : w % 9 = 8 := by omega
        (repeat' (first | (apply R.step; (apply Ok.move; exact rfl); exact rfl) | (apply R.step; (first | (apply Ok.eqIF; exact rfl; exact rfl; exact h6) | (apply Ok.eqIF; exact rfl; exact rfl; exact h7) | (apply Ok.eqIR; exact rfl; exact rfl; exact h8)); exact rfl) | refine a_go ?_ | (with_reducible apply Fin.thenK; assumption) | (with_reducible (first | apply C.seqK | apply C.regionK); intro _ _) | (apply R.buildSlice0; exact rfl; intro bz) | (apply R.box; exact rfl; (simp only [Value.cells]; rfl); exact rfl; intro bx) | (apply R.alloc; (simp only [Value.cells]; rfl); exact rfl; intro ba) | (apply R.buildSlice; (exact a_prt); exact rfl; exact rfl; (exact a_fills); exact rfl; intro bl) | (refine a_sp ?_ ?_; (intro h; skip; rotate_left; intro h; skip; rotate_left)) | fail))
        (apply R.call; (exact a_evs); exact rfl; exact open_K ho4 (by omega); rintro _ M5 _ ⟨rfl, hM5, hp5, ho5, rfl⟩)
        have hsr := hard_same
        generalize hoz : openD d4 = z at ho5 hos
        obtain ⟨ze, zd, ⟨zt, zv⟩⟩ := z
        dsimp only at ho5 hos ⊢
        unfold hrdV hrdC
        (repeat' (first | refine a_go ?_ | (with_reducible apply Fin.thenK; assumption) | (with_reducible (first | apply C.seqK | apply C.regionK); intro _ _) | (apply R.buildSlice0; exact rfl; intro bz) | (apply R.box; exact rfl; (simp only [Value.cells]; rfl); exact rfl; intro bx) | (apply R.alloc; (simp only [Value.cells]; rfl); exact rfl; intro ba) | (apply R.buildSlice; (exact a_prt); exact rfl; exact rfl; (exact a_fills); exact rfl; intro bl) | (refine a_sp ?_ ?_; (intro h; skip; rotate_left; intro h; skip; rotate_left)) | fail))
        apply R.arr (H2 := hq4 ++ ((ba, .cells #[.int .u64 (zt : Int), .int .i64 zv] 44 (0, 0)) :: (hp5 ++ H))) (by ((try simp only [List.append_assoc, List.cons_append, List.nil_append, List.append_nil]); exact a_arr))
        (apply R.call; (exact a_evs); exact rfl; exact ropenH_K (hr4.mono hM5) (by omega); rintro _ M6 _ ⟨rfl, hM6, hq6, hr6, rfl⟩)
        rw [hoz] at hr6 ⊢
        dsimp only at hr6 ⊢
        unfold hrdV hrdC
        (repeat' (first | (apply R.step; (apply Ok.move; exact rfl); exact rfl) | (apply R.step; (first | (apply Ok.eqS; exact rfl; exact rfl; exact hard_guard; exact hard_same _ _) | (apply Ok.eqIR; exact rfl; exact rfl; exact rfl)); exact rfl) | refine a_go ?_ | (with_reducible apply Fin.thenK; assumption) | (with_reducible (first | apply C.seqK | apply C.regionK); intro _ _) | (apply R.buildSlice0; exact rfl; intro bz) | (apply R.box; exact rfl; (simp only [Value.cells]; rfl); exact rfl; intro bx) | (apply R.alloc; (simp only [Value.cells]; rfl); exact rfl; intro ba) | (apply R.buildSlice; (exact a_prt); exact rfl; exact rfl; (exact a_fills); exact rfl; intro bl) | (refine a_sp ?_ ?_; (intro h; skip; rotate_left; intro h; skip; rotate_left)) | fail))
        (apply Fin.arr (H2 := hp5 ++ (hq6 ++ H)); ((try simp only [List.append_assoc, List.cons_append, List.nil_append, List.append_nil]); exact a_arr))
        refine Fin.join (⟨i, ii, zd, hp5, hq6, M6⟩ : HpX) ⟨by dsimp only; omega, hM5.trans_ hM6, ho5.mono hM6, hr6⟩ ?_ rfl rfl
        (exact a_subs)
    · have h7 : ¬ w % 9 = 7 := fun h => h78 (.inl h)
      have h8 : ¬ w % 9 = 8 := fun h => h78 (.inr h)
      (repeat' (first | (apply R.step; (apply Ok.move; exact rfl); exact rfl) | (apply R.step; (first | (apply Ok.eqIF; exact rfl; exact rfl; exact h6) | (apply Ok.eqIF; exact rfl; exact rfl; exact h7) | (apply Ok.eqIF; exact rfl; exact rfl; exact h8) | (apply Ok.loadAggP (vs := [Value.int .i64 w, .int .u64 (t : Int), .int .i64 v, .bool near, .int .i64 a, .int .i64 b', .int .i64 c]); exact rfl; exact rfl; exact hMb4; exact rfl; exact hall)); exact rfl) | refine a_go ?_ | (with_reducible apply Fin.thenK; assumption) | (with_reducible (first | apply C.seqK | apply C.regionK); intro _ _) | (apply R.buildSlice0; exact rfl; intro bz) | (apply R.box; exact rfl; (simp only [Value.cells]; rfl); exact rfl; intro bx) | (apply R.alloc; (simp only [Value.cells]; rfl); exact rfl; intro ba) | (apply R.buildSlice; (exact a_prt); exact rfl; exact rfl; (exact a_fills); exact rfl; intro bl) | (refine a_sp ?_ ?_; (intro h; skip; rotate_left; intro h; skip; rotate_left)) | fail))
      (apply R.call; (exact a_evs); exact rfl; exact shaped_K (near := near) (h := (t, v)); rintro _ M4 _ ⟨rfl, rfl, rfl⟩)
      have hshr : (shapeH near (t, v)).1 ≤ 18446744073709551615 := by
        unfold shapeH
        have h := hrx.1
        dsimp only at h
        cases near
        · exact h
        · show t % 400 ≤ _
          omega
      generalize shapeH near (t, v) = sh at hshr
      obtain ⟨st, sv⟩ := sh
      dsimp only at hshr
      unfold hrdC
      (repeat' (first | refine a_go ?_ | (with_reducible apply Fin.thenK; assumption) | (with_reducible (first | apply C.seqK | apply C.regionK); intro _ _) | (apply R.buildSlice0; exact rfl; intro bz) | (apply R.box; exact rfl; (simp only [Value.cells]; rfl); exact rfl; intro bx) | (apply R.alloc; (simp only [Value.cells]; rfl); exact rfl; intro ba) | (apply R.buildSlice; (exact a_prt); exact rfl; exact rfl; (exact a_fills); exact rfl; intro bl) | (refine a_sp ?_ ?_; (intro h; skip; rotate_left; intro h; skip; rotate_left)) | fail))
      (apply C.regionT (t := .free 0 (.free 1 (.free 2 (.free 3 (.free 4 (.free 5 (.free 6 (.free 7 (.free 9 (.free 10 (.one 8 (.one 11 (.free 12 (.free 13 (.free 14 .nil))))))))))))))) (Hs := [(ba, .cells #[.int .u64 ↑st, .int .i64 sv] 44 (0, 0))]); exact Mix.h; (first | exact Arr.all _ | (exact a_arr) | ((try simp only [List.append_assoc, List.cons_append, List.nil_append, List.append_nil]); exact a_arr)); (exact a_np); kernel_rfl)
      (repeat' (first | (apply RT.step; exact rfl; intro _ _ _; (apply Ok.move; exact rfl); exact rfl) | (apply RT.callQ; exact rfl; exact inferInstance; (exact a_evs); exact rfl; (intro M' Hx' _; first | exact right_K (t := st) (v := sv) | exact rrightH_K (t := st) (v := sv))) | (apply RT.step; exact rfl; intro _ _ _; (apply Ok.eqBoS; exact rfl; exact rfl); exact rfl) | (first | (apply RT.step; exact rfl; intro _ _ _; (exact a_ok); exact rfl) | (apply RT.stepT; exact rfl; exact rfl; exact rfl; exact rfl; intro _ _ _; (exact a_ok); exact rfl) | (apply RT.stepF; exact rfl; exact rfl; exact rfl; exact rfl; exact rfl; exact rfl) | (apply RT.stepU; exact rfl; exact rfl; exact rfl; exact rfl; exact rfl) | (apply RT.one; apply OneT.effF; exact rfl; exact rfl; exact rfl; exact rfl; exact rfl; exact rfl) | (apply RT.one; apply OneT.effU; exact rfl; exact rfl; exact rfl; exact rfl; exact rfl))))
      (apply RT.one; apply OneT.effT; exact rfl; exact rfl; exact rfl; exact rfl; intro Kc hKc ops0)
      apply R.arr (H2 := hp4 ++ ((ba, .cells #[.int .u64 ↑st, .int .i64 sv] 44 (0, 0)) :: (hq4 ++ H))) (by ((try simp only [List.append_assoc, List.cons_append, List.nil_append, List.append_nil]); exact a_arr))
      (apply R.call; (exact a_evs); exact rfl; exact save_K (t := st) (v := sv) ho4 (by omega) hshr; rintro _ M5 _ ⟨rfl, hM5, hp5, ho5, rfl⟩)
      (apply R.nil; apply Fin.kt (Hx := hp5 ++ (hq4 ++ H)) hKc; exact hM5; ((try simp only [List.append_assoc, List.cons_append, List.nil_append, List.append_nil]); exact a_arr))
      (repeat' (first | (apply RT.step; exact rfl; intro _ _ _; (exact a_ok); exact rfl) | (apply RT.stepT; exact rfl; exact rfl; exact rfl; exact rfl; intro _ _ _; (exact a_ok); exact rfl) | (apply RT.stepF; exact rfl; exact rfl; exact rfl; exact rfl; exact rfl; exact rfl) | (apply RT.stepU; exact rfl; exact rfl; exact rfl; exact rfl; exact rfl) | (apply RT.one; apply OneT.effF; exact rfl; exact rfl; exact rfl; exact rfl; exact rfl; exact rfl) | (apply RT.one; apply OneT.effU; exact rfl; exact rfl; exact rfl; exact rfl; exact rfl)))
      (apply RT.one; apply OneT.effT; exact rfl; exact rfl; exact rfl; exact rfl; intro Kc hKc ops0)
      apply R.arr (H2 := hq4 ++ ((ba, .cells #[.int .u64 ↑st, .int .i64 sv] 44 (0, 0)) :: (hp5 ++ H))) (by ((try simp only [List.append_assoc, List.cons_append, List.nil_append, List.append_nil]); exact a_arr))
      (apply R.call; (exact a_evs); exact rfl; exact rsaveH_K (t := st) (v := sv) (hr4.mono hM5) (by omega) hshr; rintro _ M6 _ ⟨rfl, hM6, hq6, hr6, rfl⟩)
      (apply R.nil; apply Fin.kt (Hx := hp5 ++ (hq6 ++ H)) hKc; exact hM5.trans_ hM6; ((try simp only [List.append_assoc, List.cons_append, List.nil_append, List.append_nil]); exact a_arr))
      have hss := saveD_sz d4 st sv
      (repeat' (first | (apply RT.step; exact rfl; intro _ _ _; (apply Ok.move; exact rfl); exact rfl) | (apply RT.stepT; exact rfl; exact rfl; exact rfl; exact rfl; intro _ _ _; (apply Ok.eqIR; exact rfl; exact rfl; exact rfl); exact rfl) | (first | (apply RT.step; exact rfl; intro _ _ _; (exact a_ok); exact rfl) | (apply RT.stepT; exact rfl; exact rfl; exact rfl; exact rfl; intro _ _ _; (exact a_ok); exact rfl) | (apply RT.stepF; exact rfl; exact rfl; exact rfl; exact rfl; exact rfl; exact rfl) | (apply RT.stepU; exact rfl; exact rfl; exact rfl; exact rfl; exact rfl) | (apply RT.one; apply OneT.effF; exact rfl; exact rfl; exact rfl; exact rfl; exact rfl; exact rfl) | (apply RT.one; apply OneT.effU; exact rfl; exact rfl; exact rfl; exact rfl; exact rfl))))
      apply RT.nil
      (repeat' (first | refine a_go ?_ | (with_reducible apply Fin.thenK; assumption) | (with_reducible (first | apply C.seqK | apply C.regionK); intro _ _) | (apply R.buildSlice0; exact rfl; intro bz) | (apply R.box; exact rfl; (simp only [Value.cells]; rfl); exact rfl; intro bx) | (apply R.alloc; (simp only [Value.cells]; rfl); exact rfl; intro ba) | (apply R.buildSlice; (exact a_prt); exact rfl; exact rfl; (exact a_fills); exact rfl; intro bl) | (refine a_sp ?_ ?_; (intro h; skip; rotate_left; intro h; skip; rotate_left)) | fail))
      (apply Fin.arr (H2 := hp5 ++ (hq6 ++ H)); ((try simp only [List.append_assoc, List.cons_append, List.nil_append, List.append_nil]); exact a_arr))
      refine Fin.join (⟨i, ii, (saveD d4 st sv).2, hp5, hq6, M6⟩ : HpX) ⟨by dsimp only; omega, hM5.trans_ hM6, ho5.mono hM6, hr6⟩ ?_ rfl rfl
      (exact a_subs)
  rintro ⟨_, _, d5, hp5, hq5, M5⟩ ⟨hsz5, hM5, ho5, hr5⟩
  dsimp only at hsz5 hM5 ho5 hr5 ⊢
  (repeat' (first | refine a_go ?_ | (with_reducible apply Fin.thenK; assumption) | (with_reducible (first | apply C.seqK | apply C.regionK); intro _ _) | (apply R.buildSlice0; exact rfl; intro bz) | (apply R.box; exact rfl; (simp only [Value.cells]; rfl); exact rfl; intro bx) | (apply R.alloc; (simp only [Value.cells]; rfl); exact rfl; intro ba) | (apply R.buildSlice; (exact a_prt); exact rfl; exact rfl; (exact a_fills); exact rfl; intro bl) | (refine a_sp ?_ ?_; (intro h; skip; rotate_left; intro h; skip; rotate_left)) | fail))
  (apply R.call; (exact a_evs); exact rfl; exact sameDisk_K ho5 hr5 (by omega); rintro _ M6 _ ⟨rfl, hM6, rfl⟩)
  (repeat' (first | refine a_go ?_ | (with_reducible apply Fin.thenK; assumption) | (with_reducible (first | apply C.seqK | apply C.regionK); intro _ _) | (apply R.buildSlice0; exact rfl; intro bz) | (apply R.box; exact rfl; (simp only [Value.cells]; rfl); exact rfl; intro bx) | (apply R.alloc; (simp only [Value.cells]; rfl); exact rfl; intro ba) | (apply R.buildSlice; (exact a_prt); exact rfl; exact rfl; (exact a_fills); exact rfl; intro bl) | (refine a_sp ?_ ?_; (intro h; skip; rotate_left; intro h; skip; rotate_left)) | fail))
  refine Fin.again (⟨i + 1, ii + 1, d5, hp5, hq5, M6⟩ : HpX) ⟨by dsimp only; omega, by dsimp only; omega, by dsimp only; omega, hM3.trans_ (hM4.trans_ (hM5.trans_ hM6)), ho5.mono hM6, hr5.mono hM6⟩ (by dsimp only; omega) ?_ rfl rfl
  (exact a_subs)
end Go.Sx
end
