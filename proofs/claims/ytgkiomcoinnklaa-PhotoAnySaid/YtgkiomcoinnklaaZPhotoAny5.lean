import Derived.Test.YtgkiomcoinnklaaZPhotoAny4
section
namespace Go.Sx
open Go Go.Proofs Go.RowKit
attribute [local irreducible] C R Fin K Own OwnT Rd Pl Ok KOf RetOk OpsOf RP KP Res NoPanic KV KE MapS ItS EntS FsO FsR RowD PlD DkO PlFs RT KT OneT RS KS OneS RdO
variable {M M' : Mem} {H H1 H2 : Hp}
theorem clrN_sz (n : Txt) (d : Dk) : szD (clrN n d).2 ≤ szD d + 1 := by
  unfold clrN
  split
  · exact opD_ps2 _ _ _
  · show szD d ≤ _
    omega
theorem ropenP_K {rb : Nat} {d : Dk} {hp : Hp} (ho : RdO M rb d hp) (hsz : szD d ≤ 900000) : K Try.prog 19 [.pointer (some ⟨rb, 0, none⟩)] M (hp ++ H) fun v' M' H' => ∃ vd, v' = .tuple #[snV (sn0 (openP d).2.2) vd, .bool (openP d).2.2.isSome, .int .i64 (openP d).1] ∧ PlB M' vd (sn0 (openP d).2.2).2.2.2 ∧ M.le M' ∧ ∃ hp', RdO M' rb (openP d).2.1 hp' ∧ H' = hp' ++ H := by
  refine K.enterK Try.func19 rfl rfl rfl ?_
  intro Q hNP hQ
  have hnow := now_sz d
  have hpsz : d.ps.length ≤ szD d := Nat.le_add_left _ _
  unfold snV snC at hQ
  (repeat' (first | (apply R.step; (exact a_ok); exact rfl) | (first | (with_reducible first | apply R.nil | apply C.ret | apply C.block | apply C.skip | apply C.exit | apply Fin.thenRet | apply Fin.thenExit | apply Fin.blockNormal | apply Fin.blockRet | apply Fin.blockExit) | (with_reducible apply Fin.thenK; assumption) | (with_reducible apply C.seqK; intro _ _) | (with_reducible apply C.regionK; intro _ _) | (with_reducible apply Fin.blockOther; exact rfl)) | (apply R.store; exact rfl; exact rfl; exact rfl; (exact a_at); (exact a_blit); exact rfl; (focus (simp [Value.oneCell']; done))) | (first | (apply R.guardT; assumption; exact rfl; exact rfl; exact rfl) | (apply R.guardF; assumption; exact rfl; exact rfl; exact rfl; exact rfl; exact rfl) | (apply R.guardU; assumption; exact rfl; exact rfl; exact rfl; exact rfl) | (apply R.guardDec; assumption; exact rfl; exact rfl; (intro h; skip; rotate_left; intro h; skip; rotate_left)) | (apply R.guardBeq; assumption; exact rfl; exact rfl; (intro h; skip; rotate_left; intro h; skip; rotate_left)) | (apply R.guardBne; assumption; exact rfl; exact rfl; (intro h; skip; rotate_left; intro h; skip; rotate_left)) | (apply R.guardNDec; assumption; exact rfl; exact rfl; (intro h; skip; rotate_left; intro h; skip; rotate_left)) | (apply R.guardNot; assumption; exact rfl; exact rfl; (intro h; skip; rotate_left; intro h; skip; rotate_left)) | (apply R.guardC; assumption; exact rfl; exact rfl; (intro h; skip; rotate_left; intro h; skip; rotate_left))) | (first | (apply C.condT; exact rfl) | (apply C.condF; exact rfl) | (apply C.condDec; exact rfl; (intro h; skip; rotate_left; intro h; skip; rotate_left)) | (apply C.condBeq; exact rfl; (intro h; skip; rotate_left; intro h; skip; rotate_left)) | (apply C.condBne; exact rfl; (intro h; skip; rotate_left; intro h; skip; rotate_left)) | (apply C.condNDec; exact rfl; (intro h; skip; rotate_left; intro h; skip; rotate_left)) | (apply C.condNot; exact rfl; (intro h; skip; rotate_left; intro h; skip; rotate_left)) | (apply C.cond; exact rfl; (intro h; skip; rotate_left; intro h; skip; rotate_left)))))
  ((apply R.alloc; (simp only [Value.cells]; rfl); exact rfl); intro b2)
  (repeat' (first | (apply R.step; (apply Ok.move; exact rfl); exact rfl) | (apply R.step; (first | (apply Ok.ltTr; exact rfl; exact rfl; omega) | (apply Ok.ltF; exact rfl; exact rfl; omega) | (apply Ok.gtTr; exact rfl; exact rfl; omega) | (apply Ok.gtF; exact rfl; exact rfl; omega) | (apply Ok.geTr; exact rfl; exact rfl; omega) | (apply Ok.geF; exact rfl; exact rfl; omega) | (apply Ok.leTr; exact rfl; exact rfl; omega) | (apply Ok.leF; exact rfl; exact rfl; omega) | (apply Ok.neIT; exact rfl; exact rfl; omega) | (apply Ok.eqIF; exact rfl; exact rfl; omega)); exact rfl) | (apply R.step; (exact a_ok); exact rfl) | (first | (with_reducible first | apply R.nil | apply C.ret | apply C.block | apply C.skip | apply C.exit | apply Fin.thenRet | apply Fin.thenExit | apply Fin.blockNormal | apply Fin.blockRet | apply Fin.blockExit) | (with_reducible apply Fin.thenK; assumption) | (with_reducible apply C.seqR; intro _ _) | (with_reducible apply C.regionK; intro _ _) | (with_reducible apply Fin.blockOther; exact rfl)) | (first | (apply R.store; exact rfl; exact rfl; exact rfl; (exact a_at); (exact a_blit); exact rfl; (focus (simp [Value.oneCell']; done))) | (apply R.buildSlice0; exact rfl; intro bz) | (apply R.box; exact rfl; (simp only [Value.cells]; rfl); exact rfl; intro bx) | (apply R.alloc; (simp only [Value.cells]; rfl); exact rfl; intro ba) | (apply R.buildSlice; (exact a_prt); exact rfl; exact rfl; (exact a_fills); exact rfl; intro bl)) | (first | (apply R.guardT; assumption; exact rfl; exact rfl; exact rfl) | (apply R.guardF; assumption; exact rfl; exact rfl; exact rfl; exact rfl; exact rfl) | (apply R.guardU; assumption; exact rfl; exact rfl; exact rfl; exact rfl) | (apply R.guardDec; assumption; exact rfl; exact rfl; (intro h; skip; rotate_left; intro h; skip; rotate_left)) | (apply R.guardBeq; assumption; exact rfl; exact rfl; (intro h; skip; rotate_left; intro h; skip; rotate_left)) | (apply R.guardBne; assumption; exact rfl; exact rfl; (intro h; skip; rotate_left; intro h; skip; rotate_left)) | (apply R.guardNDec; assumption; exact rfl; exact rfl; (intro h; skip; rotate_left; intro h; skip; rotate_left)) | (apply R.guardNot; assumption; exact rfl; exact rfl; (intro h; skip; rotate_left; intro h; skip; rotate_left)) | (apply R.guardC; assumption; exact rfl; exact rfl; (intro h; skip; rotate_left; intro h; skip; rotate_left)))))
  (apply C.seqK; intro _ _)
  (repeat' (first | (apply R.step; (apply Ok.move; exact rfl); exact rfl) | (apply R.step; (first | (apply Ok.ltTr; exact rfl; exact rfl; omega) | (apply Ok.ltF; exact rfl; exact rfl; omega) | (apply Ok.gtTr; exact rfl; exact rfl; omega) | (apply Ok.gtF; exact rfl; exact rfl; omega) | (apply Ok.geTr; exact rfl; exact rfl; omega) | (apply Ok.geF; exact rfl; exact rfl; omega) | (apply Ok.leTr; exact rfl; exact rfl; omega) | (apply Ok.leF; exact rfl; exact rfl; omega) | (apply Ok.neIT; exact rfl; exact rfl; omega) | (apply Ok.eqIF; exact rfl; exact rfl; omega)); exact rfl) | (apply R.step; (exact a_ok); exact rfl) | (first | (with_reducible first | apply R.nil | apply C.ret | apply C.block | apply C.skip | apply C.exit | apply Fin.thenRet | apply Fin.thenExit | apply Fin.blockNormal | apply Fin.blockRet | apply Fin.blockExit) | (with_reducible apply Fin.thenK; assumption) | (with_reducible apply C.seqR; intro _ _) | (with_reducible apply C.regionK; intro _ _) | (with_reducible apply Fin.blockOther; exact rfl)) | (first | (apply R.store; exact rfl; exact rfl; exact rfl; (exact a_at); (exact a_blit); exact rfl; (focus (simp [Value.oneCell']; done))) | (apply R.buildSlice0; exact rfl; intro bz) | (apply R.box; exact rfl; (simp only [Value.cells]; rfl); exact rfl; intro bx) | (apply R.alloc; (simp only [Value.cells]; rfl); exact rfl; intro ba) | (apply R.buildSlice; (exact a_prt); exact rfl; exact rfl; (exact a_fills); exact rfl; intro bl)) | (first | (apply R.guardT; assumption; exact rfl; exact rfl; exact rfl) | (apply R.guardF; assumption; exact rfl; exact rfl; exact rfl; exact rfl; exact rfl) | (apply R.guardU; assumption; exact rfl; exact rfl; exact rfl; exact rfl) | (apply R.guardDec; assumption; exact rfl; exact rfl; (intro h; skip; rotate_left; intro h; skip; rotate_left)) | (apply R.guardBeq; assumption; exact rfl; exact rfl; (intro h; skip; rotate_left; intro h; skip; rotate_left)) | (apply R.guardBne; assumption; exact rfl; exact rfl; (intro h; skip; rotate_left; intro h; skip; rotate_left)) | (apply R.guardNDec; assumption; exact rfl; exact rfl; (intro h; skip; rotate_left; intro h; skip; rotate_left)) | (apply R.guardNot; assumption; exact rfl; exact rfl; (intro h; skip; rotate_left; intro h; skip; rotate_left)) | (apply R.guardC; assumption; exact rfl; exact rfl; (intro h; skip; rotate_left; intro h; skip; rotate_left)))))
  ((apply C.condF; exact rfl); apply C.skip; (apply Fin.thenK; assumption))
  apply C.seqCut (X := RpX) (fun y => M.le y.M ∧ (clrN pnew d).1 = 0 ∧ RdO y.M rb (clrN pnew d).2 y.hp) (fun _ => [(0, .pointer (some ⟨rb, 0, none⟩)), (2, .pointer (some ⟨b2, 0, none⟩))]) (fun y => y.M) (fun y => y.hp ++ ((b2, .cells [.int .u64 0, .int .u64 0, .int .i64 0, .slice none 0 0].toArray 31 (0, 0)) :: H))
  · (repeat' (first | refine a_go ?_ | (with_reducible apply Fin.thenK; assumption) | (with_reducible (first | apply C.seqK | apply C.regionK); intro _ _) | (apply R.buildSlice0; exact rfl; intro bz) | (apply R.box; exact rfl; (simp only [Value.cells]; rfl); exact rfl; intro bx) | (apply R.alloc; (simp only [Value.cells]; rfl); exact rfl; intro ba) | (apply R.buildSlice; (exact a_prt); exact rfl; exact rfl; (exact a_fills); exact rfl; intro bl) | (refine a_sp ?_ ?_; (intro h; skip; rotate_left; intro h; skip; rotate_left)) | fail))
    apply R.arr (H2 := hp ++ ((b2, .cells [.int .u64 0, .int .u64 0, .int .i64 0, .slice none 0 0].toArray 31 (0, 0)) :: H)) (by ((try simp only [List.append_assoc, List.cons_append, List.nil_append, List.append_nil]); exact a_arr))
    (apply R.call; (exact a_evs); exact rfl; exact here_K (n := pnew) ho (by omega); rintro _ M _ ⟨rfl, rfl, rfl⟩)
    cases hs : (readD d pnew).isSome with
    | false =>
      have hcl : clrN pnew d = (0, d) := by unfold clrN; rw [hs]; rfl
      (repeat' (first | refine a_go ?_ | (with_reducible apply Fin.thenK; assumption) | (with_reducible (first | apply C.seqK | apply C.regionK); intro _ _) | (apply R.buildSlice0; exact rfl; intro bz) | (apply R.box; exact rfl; (simp only [Value.cells]; rfl); exact rfl; intro bx) | (apply R.alloc; (simp only [Value.cells]; rfl); exact rfl; intro ba) | (apply R.buildSlice; (exact a_prt); exact rfl; exact rfl; (exact a_fills); exact rfl; intro bl) | (refine a_sp ?_ ?_; (intro h; skip; rotate_left; intro h; skip; rotate_left)) | fail))
      refine Fin.join (⟨M, hp⟩ : RpX) ⟨Mem.le_refl _, by rw [hcl], by dsimp only; rw [hcl]; exact ho⟩ ?_ rfl rfl
      (exact a_subs)
    | true =>
      have hcl : clrN pnew d = (remE d pnew, opD (remE d pnew) d (.rem pnew)) := by unfold clrN; rw [hs]; rfl
      (repeat' (first | refine a_go ?_ | (with_reducible apply Fin.thenK; assumption) | (with_reducible (first | apply C.seqK | apply C.regionK); intro _ _) | (apply R.buildSlice0; exact rfl; intro bz) | (apply R.box; exact rfl; (simp only [Value.cells]; rfl); exact rfl; intro bx) | (apply R.alloc; (simp only [Value.cells]; rfl); exact rfl; intro ba) | (apply R.buildSlice; (exact a_prt); exact rfl; exact rfl; (exact a_fills); exact rfl; intro bl) | (refine a_sp ?_ ?_; (intro h; skip; rotate_left; intro h; skip; rotate_left)) | fail))
      (apply R.call; (exact a_evs); exact rfl; exact rremove_K (n := pnew) ho (by omega) (by omega); rintro _ M8 _ ⟨rfl, hM8, hp8, ho8, rfl⟩)
      by_cases hc1 : remE d pnew ≠ 0
      · have hE : openP d = ((clrN pnew d).1, (clrN pnew d).2, none) := if_pos (by rw [hcl]; exact hc1)
        rw [hE, hcl] at hQ
        (repeat' (first | (apply R.step; (apply Ok.move; exact rfl); exact rfl) | (apply R.step; (apply Ok.neIT; exact rfl; exact rfl; exact hc1); exact rfl) | refine a_go ?_ | (with_reducible apply Fin.thenK; assumption) | (with_reducible (first | apply C.seqK | apply C.regionK); intro _ _) | (apply R.buildSlice0; exact rfl; intro bz) | (apply R.box; exact rfl; (simp only [Value.cells]; rfl); exact rfl; intro bx) | (apply R.alloc; (simp only [Value.cells]; rfl); exact rfl; intro ba) | (apply R.buildSlice; (exact a_prt); exact rfl; exact rfl; (exact a_fills); exact rfl; intro bl) | (refine a_sp ?_ ?_; (intro h; skip; rotate_left; intro h; skip; rotate_left)) | fail))
        (apply Fin.returnA (H2 := hp8 ++ H); assumption; (first | exact .inl rfl | exact .inr rfl); exact rfl; (exact a_res); (simp only [retv]; rfl); (exact a_arr))
        exact ⟨_, rfl, PlB.nil1, hM8, hp8, ho8, rfl⟩
      · have hc0 : remE d pnew = 0 := by omega
        (repeat' (first | (apply R.step; (apply Ok.move; exact rfl); exact rfl) | (apply R.step; (apply Ok.neIR; exact rfl; exact rfl; exact hc0); exact rfl) | refine a_go ?_ | (with_reducible apply Fin.thenK; assumption) | (with_reducible (first | apply C.seqK | apply C.regionK); intro _ _) | (apply R.buildSlice0; exact rfl; intro bz) | (apply R.box; exact rfl; (simp only [Value.cells]; rfl); exact rfl; intro bx) | (apply R.alloc; (simp only [Value.cells]; rfl); exact rfl; intro ba) | (apply R.buildSlice; (exact a_prt); exact rfl; exact rfl; (exact a_fills); exact rfl; intro bl) | (refine a_sp ?_ ?_; (intro h; skip; rotate_left; intro h; skip; rotate_left)) | fail))
        refine Fin.join (⟨M8, hp8⟩ : RpX) ⟨hM8, by rw [hcl]; exact hc0, by dsimp only; rw [hcl]; exact ho8⟩ ?_ rfl rfl
        (exact a_subs)
  rintro ⟨M8, hp8⟩ ⟨hM8, hc0, ho1⟩
  dsimp only at hM8 hc0 ho1 ⊢
  have hcs := clrN_sz pnew d
  have hE : openP d = (0, (clrN pnew d).2, snF (framesF ((readD (clrN pnew d).2 pfile).getD []).length ((readD (clrN pnew d).2 pfile).getD [])) ((readD (clrN pnew d).2 pfile).getD []).length) := if_neg (fun h => h hc0)
  rw [hE] at hQ
  clear hE hc0 ho
  have hcn := now_sz (clrN pnew d).2
  generalize (clrN pnew d).2 = d1 at ho1 hcs hcn hQ
  have hbl := readD_len ho1.isok pfile
  (repeat' (first | refine a_go ?_ | (with_reducible apply Fin.thenK; assumption) | (with_reducible (first | apply C.seqK | apply C.regionK); intro _ _) | (apply R.buildSlice0; exact rfl; intro bz) | (apply R.box; exact rfl; (simp only [Value.cells]; rfl); exact rfl; intro bx) | (apply R.alloc; (simp only [Value.cells]; rfl); exact rfl; intro ba) | (apply R.buildSlice; (exact a_prt); exact rfl; exact rfl; (exact a_fills); exact rfl; intro bl) | (refine a_sp ?_ ?_; (intro h; skip; rotate_left; intro h; skip; rotate_left)) | fail))
  (apply R.call; (exact a_evs); exact rfl; exact rread_KD (n := pfile) ho1 (by omega); rintro _ M8 _ ⟨v7, rfl, hb7, rfl, rfl⟩)
  generalize (readD d1 pfile).getD [] = b at hb7 hbl hQ
  obtain ⟨A5, c5, rfl, k1, k2, hpl5⟩ := hb7
  (repeat' (first | refine a_go ?_ | (with_reducible apply Fin.thenK; assumption) | (with_reducible (first | apply C.seqK | apply C.regionK); intro _ _) | (apply R.buildSlice0; exact rfl; intro bz) | (apply R.box; exact rfl; (simp only [Value.cells]; rfl); exact rfl; intro bx) | (apply R.alloc; (simp only [Value.cells]; rfl); exact rfl; intro ba) | (apply R.buildSlice; (exact a_prt); exact rfl; exact rfl; (exact a_fills); exact rfl; intro bl) | (refine a_sp ?_ ?_; (intro h; skip; rotate_left; intro h; skip; rotate_left)) | fail))
  (apply R.call; (exact a_evs); exact rfl; exact rlist_Km hpl5 rfl k1 k2 (by omega); rintro _ M3 _ ⟨ov, rfl, hls, hM3, rfl⟩)
  obtain ⟨AL, cL, vs, rfl, q1, q2, q3, q4⟩ := hls
  have hfe := framesF_end b.length b
  generalize framesF b.length b = fs at q1 q4 hQ hfe
  replace ho1 := ho1.mono hM3
  by_cases h1 : fs.length = 1
  rotate_left
  · have hN : snF fs b.length = none := by
      unfold snF
      split
      · exact absurd rfl h1
      · rfl
    rw [hN] at hQ
    (repeat' (first | (apply R.step; (apply Ok.move; exact rfl); exact rfl) | (apply R.step; (apply Ok.neIT; exact rfl; exact rfl; omega); exact rfl) | refine a_go ?_ | (with_reducible apply Fin.thenK; assumption) | (with_reducible (first | apply C.seqK | apply C.regionK); intro _ _) | (apply R.buildSlice0; exact rfl; intro bz) | (apply R.box; exact rfl; (simp only [Value.cells]; rfl); exact rfl; intro bx) | (apply R.alloc; (simp only [Value.cells]; rfl); exact rfl; intro ba) | (apply R.buildSlice; (exact a_prt); exact rfl; exact rfl; (exact a_fills); exact rfl; intro bl) | (refine a_sp ?_ ?_; (intro h; skip; rotate_left; intro h; skip; rotate_left)) | fail))
    (apply Fin.returnA (H2 := hp8 ++ H); assumption; (first | exact .inl rfl | exact .inr rfl); exact rfl; (exact a_res); (simp only [retv]; rfl); (exact a_arr))
    exact ⟨_, rfl, PlB.nil1, hM8.trans_ hM3, hp8, ho1, rfl⟩
  obtain ⟨x, rfl⟩ := List.length_eq_one_iff.1 h1
  have e1 : ([x].length : Int) = 1 := rfl
  have hxe : endS [x] = 8 + x.length := by simp [endS]
  obtain ⟨en, hen⟩ : ∃ en, en = endS [x] := ⟨_, rfl⟩
  rw [← hen] at hfe hxe ⊢
  by_cases h2 : en = b.length
  rotate_left
  · have hN : snF [x] b.length = none := if_neg (by rw [← hen]; exact h2)
    rw [hN] at hQ
    (repeat' (first | (apply R.step; (apply Ok.move; exact rfl); exact rfl) | (apply R.step; (first | (apply Ok.neIR; exact rfl; exact rfl; exact e1) | (apply Ok.neIT; exact rfl; exact rfl; omega)); exact rfl) | refine a_go ?_ | (with_reducible apply Fin.thenK; assumption) | (with_reducible (first | apply C.seqK | apply C.regionK); intro _ _) | (apply R.buildSlice0; exact rfl; intro bz) | (apply R.box; exact rfl; (simp only [Value.cells]; rfl); exact rfl; intro bx) | (apply R.alloc; (simp only [Value.cells]; rfl); exact rfl; intro ba) | (apply R.buildSlice; (exact a_prt); exact rfl; exact rfl; (exact a_fills); exact rfl; intro bl) | (refine a_sp ?_ ?_; (intro h; skip; rotate_left; intro h; skip; rotate_left)) | fail))
    (apply Fin.returnA (H2 := hp8 ++ H); assumption; (first | exact .inl rfl | exact .inr rfl); exact rfl; (exact a_res); (simp only [retv]; rfl); (exact a_arr))
    exact ⟨_, rfl, PlB.nil1, hM8.trans_ hM3, hp8, ho1, rfl⟩
  have hN : snF [x] b.length = snR x := if_pos (by rw [← hen]; exact h2)
  rw [hN] at hQ
  clear hN
  obtain ⟨bb, o, cc, e, fr, Ai, ci, hA, hMb, hcell, _, hl1, hl2, hpi⟩ := PlV.at_ q3 q4 (i := 0) (show 0 < 1 by decide)
  subst hA
  have hcell2 : cc[o + 0 * 1]? = some (.slice Ai x.length ci) := hcell
  have hbx : PlB M3 (.slice Ai x.length ci) x := ⟨Ai, ci, rfl, hl1, hl2, hpi⟩
  (repeat' (first | (apply R.step; (exact a_ok); exact rfl) | (first | (with_reducible first | apply R.nil | apply C.ret | apply C.block | apply C.skip | apply C.exit | apply Fin.thenRet | apply Fin.thenExit | apply Fin.blockNormal | apply Fin.blockRet | apply Fin.blockExit) | (with_reducible apply Fin.thenK; assumption) | (with_reducible apply C.seqK; intro _ _) | (with_reducible apply C.regionK; intro _ _) | (with_reducible apply Fin.blockOther; exact rfl)) | (apply R.store; exact rfl; exact rfl; exact rfl; (exact a_at); (exact a_blit); exact rfl; (focus (simp [Value.oneCell']; done))) | (first | (apply R.guardT; assumption; exact rfl; exact rfl; exact rfl) | (apply R.guardF; assumption; exact rfl; exact rfl; exact rfl; exact rfl; exact rfl) | (apply R.guardU; assumption; exact rfl; exact rfl; exact rfl; exact rfl) | (apply R.guardDec; assumption; exact rfl; exact rfl; (intro h; skip; rotate_left; intro h; skip; rotate_left)) | (apply R.guardBeq; assumption; exact rfl; exact rfl; (intro h; skip; rotate_left; intro h; skip; rotate_left)) | (apply R.guardBne; assumption; exact rfl; exact rfl; (intro h; skip; rotate_left; intro h; skip; rotate_left)) | (apply R.guardNDec; assumption; exact rfl; exact rfl; (intro h; skip; rotate_left; intro h; skip; rotate_left)) | (apply R.guardNot; assumption; exact rfl; exact rfl; (intro h; skip; rotate_left; intro h; skip; rotate_left)) | (apply R.guardC; assumption; exact rfl; exact rfl; (intro h; skip; rotate_left; intro h; skip; rotate_left))) | (first | (apply C.condT; exact rfl) | (apply C.condF; exact rfl) | (apply C.condDec; exact rfl; (intro h; skip; rotate_left; intro h; skip; rotate_left)) | (apply C.condBeq; exact rfl; (intro h; skip; rotate_left; intro h; skip; rotate_left)) | (apply C.condBne; exact rfl; (intro h; skip; rotate_left; intro h; skip; rotate_left)) | (apply C.condNDec; exact rfl; (intro h; skip; rotate_left; intro h; skip; rotate_left)) | (apply C.condNot; exact rfl; (intro h; skip; rotate_left; intro h; skip; rotate_left)) | (apply C.cond; exact rfl; (intro h; skip; rotate_left; intro h; skip; rotate_left)))))
  (repeat' (first | (apply R.step; (apply Ok.move; exact rfl); exact rfl) | (apply R.step; (first | (apply Ok.neIR; exact rfl; exact rfl; exact e1) | (apply Ok.neIR; exact rfl; exact rfl; omega)); exact rfl) | (apply R.step; (exact a_ok); exact rfl) | (first | (with_reducible first | apply R.nil | apply C.ret | apply C.block | apply C.skip | apply C.exit | apply Fin.thenRet | apply Fin.thenExit | apply Fin.blockNormal | apply Fin.blockRet | apply Fin.blockExit) | (with_reducible apply Fin.thenK; assumption) | (with_reducible apply C.seqR; intro _ _) | (with_reducible apply C.regionK; intro _ _) | (with_reducible apply Fin.blockOther; exact rfl)) | (first | (apply R.store; exact rfl; exact rfl; exact rfl; (exact a_at); (exact a_blit); exact rfl; (focus (simp [Value.oneCell']; done))) | (apply R.buildSlice0; exact rfl; intro bz) | (apply R.box; exact rfl; (simp only [Value.cells]; rfl); exact rfl; intro bx) | (apply R.alloc; (simp only [Value.cells]; rfl); exact rfl; intro ba) | (apply R.buildSlice; (exact a_prt); exact rfl; exact rfl; (exact a_fills); exact rfl; intro bl)) | (first | (apply R.guardT; assumption; exact rfl; exact rfl; exact rfl) | (apply R.guardF; assumption; exact rfl; exact rfl; exact rfl; exact rfl; exact rfl) | (apply R.guardU; assumption; exact rfl; exact rfl; exact rfl; exact rfl) | (apply R.guardDec; assumption; exact rfl; exact rfl; (intro h; skip; rotate_left; intro h; skip; rotate_left)) | (apply R.guardBeq; assumption; exact rfl; exact rfl; (intro h; skip; rotate_left; intro h; skip; rotate_left)) | (apply R.guardBne; assumption; exact rfl; exact rfl; (intro h; skip; rotate_left; intro h; skip; rotate_left)) | (apply R.guardNDec; assumption; exact rfl; exact rfl; (intro h; skip; rotate_left; intro h; skip; rotate_left)) | (apply R.guardNot; assumption; exact rfl; exact rfl; (intro h; skip; rotate_left; intro h; skip; rotate_left)) | (apply R.guardC; assumption; exact rfl; exact rfl; (intro h; skip; rotate_left; intro h; skip; rotate_left)))))
  · exfalso
    first | omega | (simp_all; done) | (simp_all; omega)
  have hb4 := hbx
  (repeat' (first | refine a_go ?_ | (with_reducible apply Fin.thenK; assumption) | (with_reducible (first | apply C.seqK | apply C.regionK); intro _ _) | (apply R.buildSlice0; exact rfl; intro bz) | (apply R.box; exact rfl; (simp only [Value.cells]; rfl); exact rfl; intro bx) | (apply R.alloc; (simp only [Value.cells]; rfl); exact rfl; intro ba) | (apply R.buildSlice; (exact a_prt); exact rfl; exact rfl; (exact a_fills); exact rfl; intro bl) | (refine a_sp ?_ ?_; (intro h; skip; rotate_left; intro h; skip; rotate_left)) | fail))
  apply R.arr (H2 := (bx, rrdB (.slice Ai x.length ci) 0 0) :: ((ba, .cells [.int .u64 0, .int .u64 0, .int .i64 0, .slice none 0 0].toArray 31 (0, 0)) :: (hp8 ++ ((b2, .cells [.int .u64 0, .int .u64 0, .int .i64 0, .slice none 0 0].toArray 31 (0, 0)) :: H)))) (by ((try simp only [List.append_assoc, List.cons_append, List.nil_append, List.append_nil]); exact a_arr))
  (apply R.call; (exact a_evs); exact rfl; exact rrnum_K (rb := bx) (most := 72057594037927935) (at_ := 0) (bad := 0) hb4 (by omega) (Nat.zero_le _); rintro _ M3 _ ⟨rfl, rfl, rfl⟩)
  obtain ⟨z1, hz1⟩ : ∃ z1, z1 = numRd x 72057594037927935 0 0 := ⟨_, rfl⟩
  have g1 := numRd_at (bs := x) (most := 72057594037927935) (at_ := 0) (bad := 0) (Nat.zero_le _)
  rw [← hz1] at g1 ⊢
  obtain ⟨n1, a1, b1⟩ := z1
  dsimp only at g1 ⊢
  (repeat' (first | refine a_go ?_ | (with_reducible apply Fin.thenK; assumption) | (with_reducible (first | apply C.seqK | apply C.regionK); intro _ _) | (apply R.buildSlice0; exact rfl; intro bz) | (apply R.box; exact rfl; (simp only [Value.cells]; rfl); exact rfl; intro bx) | (apply R.alloc; (simp only [Value.cells]; rfl); exact rfl; intro ba) | (apply R.buildSlice; (exact a_prt); exact rfl; exact rfl; (exact a_fills); exact rfl; intro bl) | (refine a_sp ?_ ?_; (intro h; skip; rotate_left; intro h; skip; rotate_left)) | fail))
  (apply R.call; (exact a_evs); exact rfl; exact rrnum_K (rb := bx) (most := 72057594037927935) (at_ := a1) (bad := b1) hb4 (by omega) g1; rintro _ M3 _ ⟨rfl, rfl, rfl⟩)
  obtain ⟨z2, hz2⟩ : ∃ z2, z2 = numRd x 72057594037927935 a1 b1 := ⟨_, rfl⟩
  have g2 := numRd_at (bs := x) (most := 72057594037927935) (at_ := a1) (bad := b1) g1
  rw [← hz2] at g2 ⊢
  obtain ⟨n2, a2, b2'⟩ := z2
  dsimp only at g2 ⊢
  (repeat' (first | refine a_go ?_ | (with_reducible apply Fin.thenK; assumption) | (with_reducible (first | apply C.seqK | apply C.regionK); intro _ _) | (apply R.buildSlice0; exact rfl; intro bz) | (apply R.box; exact rfl; (simp only [Value.cells]; rfl); exact rfl; intro bx) | (apply R.alloc; (simp only [Value.cells]; rfl); exact rfl; intro ba) | (apply R.buildSlice; (exact a_prt); exact rfl; exact rfl; (exact a_fills); exact rfl; intro bl) | (refine a_sp ?_ ?_; (intro h; skip; rotate_left; intro h; skip; rotate_left)) | fail))
  (apply R.call; (exact a_evs); exact rfl; exact rrbyte_K (rb := bx) (most := 254) (at_ := a2) (bad := b2') hb4 g2; rintro _ M3 _ ⟨rfl, rfl, rfl⟩)
  obtain ⟨z3, hz3⟩ : ∃ z3, z3 = byteR x 254 a2 b2' := ⟨_, rfl⟩
  have g3 := byteR_at (bs := x) (most := 254) (at_ := a2) (bad := b2') g2
  rw [← hz3] at g3 ⊢
  obtain ⟨n3, a3, b3⟩ := z3
  dsimp only at g3 ⊢
  (repeat' (first | (apply R.step; (apply Ok.move; exact rfl); exact rfl) | (apply R.step; (apply Ok.convBI; exact rfl); exact rfl) | refine a_go ?_ | (with_reducible apply Fin.thenK; assumption) | (with_reducible (first | apply C.seqK | apply C.regionK); intro _ _) | (apply R.buildSlice0; exact rfl; intro bz) | (apply R.box; exact rfl; (simp only [Value.cells]; rfl); exact rfl; intro bx) | (apply R.alloc; (simp only [Value.cells]; rfl); exact rfl; intro ba) | (apply R.buildSlice; (exact a_prt); exact rfl; exact rfl; (exact a_fills); exact rfl; intro bl) | (refine a_sp ?_ ?_; (intro h; skip; rotate_left; intro h; skip; rotate_left)) | fail))
  (apply R.call; (exact a_evs); exact rfl; exact rrtext_K (rb := bx) (most := 32768) (at_ := a3) (bad := b3) hb4 (by omega) g3 (by decide); rintro vt M5 _ ⟨hM5, hbt, rfl⟩)
  obtain ⟨z4, hz4⟩ : ∃ z4, z4 = textR x 32768 a3 b3 := ⟨_, rfl⟩
  rw [← hz4] at hbt ⊢
  obtain ⟨n4, a4, b4⟩ := z4
  dsimp only at hbt ⊢
  replace hb4 := hb4.mono hM5
  replace ho1 := ho1.mono hM5
  have hsn := snR_of hz1.symm hz2.symm hz3.symm hz4.symm
  unfold snG at hsn
  dsimp only at hsn
  rw [hsn] at hQ
  obtain ⟨Aq, ct, rfl, t1, t2, t3⟩ := id hbt
  (repeat' (first | refine a_go ?_ | (with_reducible apply Fin.thenK; assumption) | (with_reducible (first | apply C.seqK | apply C.regionK); intro _ _) | (apply R.buildSlice0; exact rfl; intro bz) | (apply R.box; exact rfl; (simp only [Value.cells]; rfl); exact rfl; intro bx) | (apply R.alloc; (simp only [Value.cells]; rfl); exact rfl; intro ba) | (apply R.buildSlice; (exact a_prt); exact rfl; exact rfl; (exact a_fills); exact rfl; intro bl) | (refine a_sp ?_ ?_; (intro h; skip; rotate_left; intro h; skip; rotate_left)) | fail))
  (apply R.call; (exact a_evs); exact rfl; exact rrend_K (rb := bx) (at_ := a4) (bad := b4) hb4 (by omega); rintro _ M5 _ ⟨rfl, rfl, rfl⟩)
  have hMM := hM8.trans_ (hM3.trans_ hM5)
  by_cases hend : endR x a4 b4 = 0
  rotate_left
  · rw [if_neg (fun h => hend h.1)] at hQ
    (repeat' (first | (apply R.step; (apply Ok.move; exact rfl); exact rfl) | (apply R.step; (apply Ok.neIT; exact rfl; exact rfl; exact hend); exact rfl) | refine a_go ?_ | (with_reducible apply Fin.thenK; assumption) | (with_reducible (first | apply C.seqK | apply C.regionK); intro _ _) | (apply R.buildSlice0; exact rfl; intro bz) | (apply R.box; exact rfl; (simp only [Value.cells]; rfl); exact rfl; intro bx) | (apply R.alloc; (simp only [Value.cells]; rfl); exact rfl; intro ba) | (apply R.buildSlice; (exact a_prt); exact rfl; exact rfl; (exact a_fills); exact rfl; intro bl) | (refine a_sp ?_ ?_; (intro h; skip; rotate_left; intro h; skip; rotate_left)) | fail))
    (apply Fin.returnA (H2 := hp8 ++ H); assumption; (first | exact .inl rfl | exact .inr rfl); exact rfl; (exact a_res); (simp only [retv]; rfl); (exact a_arr))
    exact ⟨_, rfl, PlB.nil1, hMM, hp8, ho1, rfl⟩
  (repeat' (first | (apply R.step; (apply Ok.move; exact rfl); exact rfl) | (apply R.step; (apply Ok.neIR; exact rfl; exact rfl; exact hend); exact rfl) | refine a_go ?_ | (with_reducible apply Fin.thenK; assumption) | (with_reducible (first | apply C.seqK | apply C.regionK); intro _ _) | (apply R.buildSlice0; exact rfl; intro bz) | (apply R.box; exact rfl; (simp only [Value.cells]; rfl); exact rfl; intro bx) | (apply R.alloc; (simp only [Value.cells]; rfl); exact rfl; intro ba) | (apply R.buildSlice; (exact a_prt); exact rfl; exact rfl; (exact a_fills); exact rfl; intro bl) | (refine a_sp ?_ ?_; (intro h; skip; rotate_left; intro h; skip; rotate_left)) | fail))
  (apply R.call; (exact a_evs); exact rfl; exact rsnap9_K (i := n1) (t := n2) (c := (n3.toNat : Int)) (n := n4.length) (A := Aq) (cp := ct); rintro _ M5 _ ⟨rfl, rfl, rfl⟩)
  by_cases hr : rgtP n1 n2 (n3.toNat : Int) n4.length
  rotate_left
  · rw [if_neg (fun h => hr h.2)] at hQ
    rw [decide_eq_false hr]
    (repeat' (first | refine a_go ?_ | (with_reducible apply Fin.thenK; assumption) | (with_reducible (first | apply C.seqK | apply C.regionK); intro _ _) | (apply R.buildSlice0; exact rfl; intro bz) | (apply R.box; exact rfl; (simp only [Value.cells]; rfl); exact rfl; intro bx) | (apply R.alloc; (simp only [Value.cells]; rfl); exact rfl; intro ba) | (apply R.buildSlice; (exact a_prt); exact rfl; exact rfl; (exact a_fills); exact rfl; intro bl) | (refine a_sp ?_ ?_; (intro h; skip; rotate_left; intro h; skip; rotate_left)) | fail))
    (apply Fin.returnA (H2 := hp8 ++ H); assumption; (first | exact .inl rfl | exact .inr rfl); exact rfl; (exact a_res); (simp only [retv]; rfl); (exact a_arr))
    exact ⟨_, rfl, PlB.nil1, hMM, hp8, ho1, rfl⟩
  rw [if_pos ⟨hend, hr⟩] at hQ
  rw [decide_eq_true hr]
  (repeat' (first | refine a_go ?_ | (with_reducible apply Fin.thenK; assumption) | (with_reducible (first | apply C.seqK | apply C.regionK); intro _ _) | (apply R.buildSlice0; exact rfl; intro bz) | (apply R.box; exact rfl; (simp only [Value.cells]; rfl); exact rfl; intro bx) | (apply R.alloc; (simp only [Value.cells]; rfl); exact rfl; intro ba) | (apply R.buildSlice; (exact a_prt); exact rfl; exact rfl; (exact a_fills); exact rfl; intro bl) | (refine a_sp ?_ ?_; (intro h; skip; rotate_left; intro h; skip; rotate_left)) | fail))
  (apply Fin.returnA (H2 := hp8 ++ H); assumption; (first | exact .inl rfl | exact .inr rfl); exact rfl; (exact a_res); (simp only [retv]; rfl); (exact a_arr))
  exact ⟨_, rfl, hbt, hMM, hp8, ho1, rfl⟩
end Go.Sx
end
section
namespace Go.Sx
open Go Go.Proofs Go.RowKit
attribute [local irreducible] C R Fin K Own OwnT Rd Pl Ok KOf RetOk OpsOf RP KP Res NoPanic KV KE MapS ItS EntS FsO FsR RowD PlD DkO PlFs RT KT OneT RS KS OneS RdO
variable {M M' : Mem} {H H1 H2 : Hp}
def appsD (d : Dk) (F : Fs) : Dk := F.foldl (fun d p => opD (appE d p.1 p.2) d (.app p.1 p.2)) d
theorem cntD_sz (d : Dk) : szD (cntD d) = szD d := by
  unfold szD
  rw [cntD_S, cntD_ps]
theorem opD_sz (d : Dk) (e : Int) (x : De) : szD (opD e d x) ≤ szD d + 1 := by
  unfold opD
  split
  · show (cntD d).S.length + (d.ps ++ [x]).length ≤ _
    rw [cntD_S, List.length_append]
    exact Nat.le_refl _
  · rw [cntD_sz]
    omega
theorem synD_sz (d : Dk) : szD (synD d) ≤ szD d := by
  unfold synD
  split
  · rw [cntD_sz]; exact Nat.le_refl _
  · exact now_sz d
theorem ps_sz (d : Dk) : d.ps.length ≤ szD d := Nat.le_add_left _ _
structure PaX where
  i : Nat
  ii : Int
  d : Dk
  hp : Hp
  hq : Hp
  M : Mem
def pairD (room : Int) (F : Fs) : Dk := synD (appsD (newD room) (F.take 20))
theorem appsD_snoc (d : Dk) (F : Fs) (p : Txt × Txt) : appsD d (F ++ [p]) = opD (appE (appsD d F) p.1 p.2) (appsD d F) (.app p.1 p.2) := by
  unfold appsD
  rw [List.foldl_append]
  rfl
theorem pair_K {room : Int} {fv : Value} {F : Fs} (h0 : 0 ≤ room) (h1 : room ≤ 1048576) (hf : PlFs M fv F) (hF : ∀ p ∈ F, p.1.length ≤ 4611686018427387904 ∧ p.2.length ≤ 4611686018427387904) : K Try.prog 18 [.int .i64 room, fv] M H fun v' M' H' => ∃ db rb hp hq, v' = .tuple #[.pointer (some ⟨db, 0, none⟩), .pointer (some ⟨rb, 0, none⟩), .bool true] ∧ M.le M' ∧ DkO M' db (pairD room F) hp ∧ RdO M' rb (pairD room F) hq ∧ H' = hp ++ (hq ++ H) := by
  refine K.enterK Try.func18 rfl rfl rfl ?_
  intro Q hNP hQ
  obtain ⟨A, cap, es, rfl, f1, f2, f3, f4, rfl⟩ := hf.form
  (repeat' (first | refine a_go ?_ | (with_reducible apply Fin.thenK; assumption) | (with_reducible (first | apply C.seqK | apply C.regionK); intro _ _) | (apply R.buildSlice0; exact rfl; intro bz) | (apply R.box; exact rfl; (simp only [Value.cells]; rfl); exact rfl; intro bx) | (apply R.alloc; (simp only [Value.cells]; rfl); exact rfl; intro ba) | (apply R.buildSlice; (exact a_prt); exact rfl; exact rfl; (exact a_fills); exact rfl; intro bl) | (refine a_sp ?_ ?_; (intro h; skip; rotate_left; intro h; skip; rotate_left)) | fail))
  (apply R.call; (exact a_evs); exact rfl; exact new_K h0 h1; rintro _ M _ ⟨db, hp, rfl, rfl, ho, rfl⟩)
  (repeat' (first | refine a_go ?_ | (with_reducible apply Fin.thenK; assumption) | (with_reducible (first | apply C.seqK | apply C.regionK); intro _ _) | (apply R.buildSlice0; exact rfl; intro bz) | (apply R.box; exact rfl; (simp only [Value.cells]; rfl); exact rfl; intro bx) | (apply R.alloc; (simp only [Value.cells]; rfl); exact rfl; intro ba) | (apply R.buildSlice; (exact a_prt); exact rfl; exact rfl; (exact a_fills); exact rfl; intro bl) | (refine a_sp ?_ ?_; (intro h; skip; rotate_left; intro h; skip; rotate_left)) | fail))
  have hr : RdO M bx (newD room) [(bx, .cells #[.int .i64 room, .slice none 0 0, .slice none 0 0, .slice none 0 0, .bool false, .int .i64 0, .bool false] 90 (0, 0))] := RdO.of (rnew_ok h0 h1)
  generalize hX : [(bx, Obj.cells #[Value.int .i64 room, .slice none 0 0, .slice none 0 0, .slice none 0 0, .bool false, .int .i64 0, .bool false] 90 (0, 0))] = hq at hr
  apply C.arr (H2 := hp ++ (hq ++ H)) (by rw [← hX]; ((try simp only [List.append_assoc, List.cons_append, List.nil_append, List.append_nil]); exact a_arr))
  have hsz0 : szD (newD room) = 0 := rfl
  apply C.loop (fun y : PaX => (y.i : Int) = y.ii ∧ y.i ≤ min 20 es.length ∧ M.le y.M ∧ y.d = appsD (newD room) ((es.map feP).take y.i) ∧ szD y.d ≤ y.i ∧ DkO y.M db y.d y.hp ∧ RdO y.M bx y.d y.hq)
    (fun y => [(1, .slice A es.length cap), (7, .pointer (some ⟨db, 0, none⟩)), (9, .pointer (some ⟨bx, 0, none⟩)), (10, .int .i64 y.ii)]) (fun y => y.M) (fun y => y.hp ++ (y.hq ++ H)) (fun y => 20 - y.i) ⟨0, 0, newD room, hp, hq, M⟩
  · exact ⟨rfl, Nat.zero_le _, Mem.le_refl _, rfl, Nat.le_refl _, ho, hr⟩
  · (exact a_subs)
  · exact rfl
  · exact rfl
  rintro ⟨i, ii, d, hp1, hq1, M1⟩ ⟨hii, hi, hM1, hd, hsz, ho1, hr1⟩
  dsimp only at hii hi hM1 hd hsz ho1 hr1 ⊢
  by_cases hix : i < min 20 es.length
  · have hie : i < es.length := by omega
    obtain ⟨b, o, c, e, fr, hA, hM, hc0, hc1⟩ := fe_at (f3.mono hM1) hie
    subst hA
    obtain ⟨Ai, ci, hvi, q1, q2, q3⟩ := f4 _ (List.getElem_mem hie)
    rw [hvi] at hc1
    rw [show o + i * 2 = o + ii.toNat * 2 by omega] at hc0 hc1
    obtain ⟨z1, z2⟩ := hF (feP es[i]) (List.mem_map.2 ⟨_, List.getElem_mem hie, rfl⟩)
    change es[i].n.length ≤ _ at z1
    change es[i].b.length ≤ _ at z2
    have hpb : PlB M1 (.slice Ai es[i].b.length ci) es[i].b := ⟨Ai, ci, rfl, q1, q2, q3.mono hM1⟩
    have hps := ps_sz d
    have hnl := now_sz d
    (repeat' (first | (apply R.step; (apply Ok.move; exact rfl); exact rfl) | (apply R.step; (first | (apply Ok.ltTr; exact rfl; exact rfl; omega) | (apply Ok.ltF; exact rfl; exact rfl; omega) | (apply Ok.gtTr; exact rfl; exact rfl; omega) | (apply Ok.gtF; exact rfl; exact rfl; omega) | (apply Ok.geTr; exact rfl; exact rfl; omega) | (apply Ok.geF; exact rfl; exact rfl; omega) | (apply Ok.leTr; exact rfl; exact rfl; omega) | (apply Ok.leF; exact rfl; exact rfl; omega) | (apply Ok.neIT; exact rfl; exact rfl; omega) | (apply Ok.eqIF; exact rfl; exact rfl; omega)); exact rfl) | refine a_go ?_ | (with_reducible apply Fin.thenK; assumption) | (with_reducible (first | apply C.seqK | apply C.regionK); intro _ _) | (apply R.buildSlice0; exact rfl; intro bz) | (apply R.box; exact rfl; (simp only [Value.cells]; rfl); exact rfl; intro bx) | (apply R.alloc; (simp only [Value.cells]; rfl); exact rfl; intro ba) | (apply R.buildSlice; (exact a_prt); exact rfl; exact rfl; (exact a_fills); exact rfl; intro bl) | (refine a_sp ?_ ?_; (intro h; skip; rotate_left; intro h; skip; rotate_left)) | fail))
    (apply C.regionT (t := .free 0 (.free 1 (.free 2 (.free 3 (.free 4 (.free 5 (.free 6 (.free 7 (.free 8 (.free 9 (.free 10 (.free 12 (.free 13 (.free 14 (.free 15 (.free 16 (.free 17 (.free 18 (.free 19 (.free 20 (.free 21 (.free 22 (.one 11 (.one 23 (.free 24 .nil))))))))))))))))))))))))) (Hs := []); exact Mix.h; (first | exact Arr.all _ | (exact a_arr) | ((try simp only [List.append_assoc, List.cons_append, List.nil_append, List.append_nil]); exact a_arr)); (exact a_np); kernel_rfl)
    (repeat' (first | (apply RT.step; exact rfl; intro _ _ _; (apply Ok.move; exact rfl); exact rfl) | (apply RT.step; exact rfl; intro _ _ hMx; (first | (apply Ok.loadP; exact rfl; exact rfl; exact hMx.2.2 _ _ hM; exact hc0) | (apply Ok.loadP; exact rfl; exact rfl; exact hMx.2.2 _ _ hM; exact hc1)); exact rfl) | (first | (apply RT.step; exact rfl; intro _ _ _; (exact a_ok); exact rfl) | (apply RT.stepT; exact rfl; exact rfl; exact rfl; exact rfl; intro _ _ _; (exact a_ok); exact rfl) | (apply RT.stepF; exact rfl; exact rfl; exact rfl; exact rfl; exact rfl; exact rfl) | (apply RT.stepU; exact rfl; exact rfl; exact rfl; exact rfl; exact rfl) | (apply RT.one; apply OneT.effF; exact rfl; exact rfl; exact rfl; exact rfl; exact rfl; exact rfl) | (apply RT.one; apply OneT.effU; exact rfl; exact rfl; exact rfl; exact rfl; exact rfl))))
    (apply RT.one; apply OneT.eff; exact rfl; intro Kc hKc ops0)
    apply R.arr (H2 := hp1 ++ (hq1 ++ H)) (by ((try simp only [List.append_assoc, List.cons_append, List.nil_append, List.append_nil]); exact a_arr))
    (apply R.call; (exact a_evs); exact rfl; exact append_K (d := d) (n := es[i].n) ho1 hpb (by omega) (by omega) (by omega); rintro _ M2 _ ⟨rfl, hM2, hp2, ho2, rfl⟩)
    (apply R.nil; apply Fin.kt (Hx := hq1 ++ (hp2 ++ H)) hKc; exact hM2; ((try simp only [List.append_assoc, List.cons_append, List.nil_append, List.append_nil]); exact a_arr))
    (repeat' (first | (apply RT.step; exact rfl; intro _ _ _; (apply Ok.move; exact rfl); exact rfl) | fail | (first | (apply RT.step; exact rfl; intro _ _ _; (exact a_ok); exact rfl) | (apply RT.stepT; exact rfl; exact rfl; exact rfl; exact rfl; intro _ _ _; (exact a_ok); exact rfl) | (apply RT.stepF; exact rfl; exact rfl; exact rfl; exact rfl; exact rfl; exact rfl) | (apply RT.stepU; exact rfl; exact rfl; exact rfl; exact rfl; exact rfl) | (apply RT.one; apply OneT.effF; exact rfl; exact rfl; exact rfl; exact rfl; exact rfl; exact rfl) | (apply RT.one; apply OneT.effU; exact rfl; exact rfl; exact rfl; exact rfl; exact rfl))))
    (apply RT.one; apply OneT.eff; exact rfl; intro Kc hKc ops0)
    apply R.arr (H2 := hq1 ++ (hp2 ++ H)) (by ((try simp only [List.append_assoc, List.cons_append, List.nil_append, List.append_nil]); exact a_arr))
    (apply R.call; (exact a_evs); exact rfl; exact rappend_K (d := d) (n := es[i].n) (hr1.mono hM2) (hpb.mono hM2) (by omega) (by omega) (by omega) (by omega); rintro _ M3 _ ⟨rfl, hM3, hq2, hr2, rfl⟩)
    (apply R.nil; apply Fin.kt (Hx := hp2 ++ (hq2 ++ H)) hKc; exact hM2.trans_ hM3; ((try simp only [List.append_assoc, List.cons_append, List.nil_append, List.append_nil]); exact a_arr))
    (repeat' (first | (apply RT.step; exact rfl; intro _ _ _; (apply Ok.move; exact rfl); exact rfl) | fail | (first | (apply RT.step; exact rfl; intro _ _ _; (exact a_ok); exact rfl) | (apply RT.stepT; exact rfl; exact rfl; exact rfl; exact rfl; intro _ _ _; (exact a_ok); exact rfl) | (apply RT.stepF; exact rfl; exact rfl; exact rfl; exact rfl; exact rfl; exact rfl) | (apply RT.stepU; exact rfl; exact rfl; exact rfl; exact rfl; exact rfl) | (apply RT.one; apply OneT.effF; exact rfl; exact rfl; exact rfl; exact rfl; exact rfl; exact rfl) | (apply RT.one; apply OneT.effU; exact rfl; exact rfl; exact rfl; exact rfl; exact rfl))))
    apply RT.nil
    have hd' : opD (appE d es[i].n es[i].b) d (.app es[i].n es[i].b) = appsD (newD room) ((es.map feP).take (i + 1)) := by
      rw [take_snocE (l := es.map feP) (by rw [List.length_map]; exact hie), appsD_snoc, ← hd, List.getElem_map]
      rfl
    have hsz' := opD_sz d (appE d es[i].n es[i].b) (.app es[i].n es[i].b)
    (repeat' (first | (apply R.step; (apply Ok.move; exact rfl); exact rfl) | (apply R.step; (apply Ok.neIS; exact rfl; exact rfl); exact rfl) | refine a_go ?_ | (with_reducible apply Fin.thenK; assumption) | (with_reducible (first | apply C.seqK | apply C.regionK); intro _ _) | (apply R.buildSlice0; exact rfl; intro bz) | (apply R.box; exact rfl; (simp only [Value.cells]; rfl); exact rfl; intro bx) | (apply R.alloc; (simp only [Value.cells]; rfl); exact rfl; intro ba) | (apply R.buildSlice; (exact a_prt); exact rfl; exact rfl; (exact a_fills); exact rfl; intro bl) | (refine a_sp ?_ ?_; (intro h; skip; rotate_left; intro h; skip; rotate_left)) | fail))
    (apply Fin.arr (H2 := hp2 ++ (hq2 ++ H)); ((try simp only [List.append_assoc, List.cons_append, List.nil_append, List.append_nil]); exact a_arr))
    refine Fin.again (⟨i + 1, ii + 1, opD (appE d es[i].n es[i].b) d (.app es[i].n es[i].b), hp2, hq2, M3⟩ : PaX) ⟨by dsimp only; omega, by dsimp only; omega, hM1.trans_ (hM2.trans_ hM3), hd', by dsimp only; omega, ho2.mono hM3, hr2⟩ (by dsimp only; omega) ?_ rfl rfl
    (exact a_subs)
  have hie : i = min 20 es.length := by omega
  have hpr : d = appsD (newD room) ((es.map feP).take 20) := by
    rw [hd, hie]
    congr 1
    by_cases h : 20 ≤ es.length
    · rw [Nat.min_eq_left h]
    · rw [Nat.min_eq_right (by omega), List.take_of_length_le (by rw [List.length_map]; exact Nat.le_refl _), List.take_of_length_le (by rw [List.length_map]; omega)]
  have hPD : pairD room (es.map feP) = synD d := by rw [hpr]; rfl
  rw [hPD] at hQ
  by_cases h20 : ii < (es.length : Int)
  · (repeat' (first | (apply R.step; (apply Ok.move; exact rfl); exact rfl) | (apply R.step; (first | (apply Ok.ltTr; exact rfl; exact rfl; omega) | (apply Ok.ltF; exact rfl; exact rfl; omega) | (apply Ok.gtTr; exact rfl; exact rfl; omega) | (apply Ok.gtF; exact rfl; exact rfl; omega) | (apply Ok.geTr; exact rfl; exact rfl; omega) | (apply Ok.geF; exact rfl; exact rfl; omega) | (apply Ok.leTr; exact rfl; exact rfl; omega) | (apply Ok.leF; exact rfl; exact rfl; omega) | (apply Ok.neIT; exact rfl; exact rfl; omega) | (apply Ok.eqIF; exact rfl; exact rfl; omega)); exact rfl) | refine a_go ?_ | (with_reducible apply Fin.thenK; assumption) | (with_reducible (first | apply C.seqK | apply C.regionK); intro _ _) | (apply R.buildSlice0; exact rfl; intro bz) | (apply R.box; exact rfl; (simp only [Value.cells]; rfl); exact rfl; intro bx) | (apply R.alloc; (simp only [Value.cells]; rfl); exact rfl; intro ba) | (apply R.buildSlice; (exact a_prt); exact rfl; exact rfl; (exact a_fills); exact rfl; intro bl) | (refine a_sp ?_ ?_; (intro h; skip; rotate_left; intro h; skip; rotate_left)) | fail))
    (apply R.call; (exact a_evs); exact rfl; exact sync_K ho1; rintro _ M2 _ ⟨rfl, rfl, hp2, ho2, rfl⟩)
    (repeat' (first | refine a_go ?_ | (with_reducible apply Fin.thenK; assumption) | (with_reducible (first | apply C.seqK | apply C.regionK); intro _ _) | (apply R.buildSlice0; exact rfl; intro bz) | (apply R.box; exact rfl; (simp only [Value.cells]; rfl); exact rfl; intro bx) | (apply R.alloc; (simp only [Value.cells]; rfl); exact rfl; intro ba) | (apply R.buildSlice; (exact a_prt); exact rfl; exact rfl; (exact a_fills); exact rfl; intro bl) | (refine a_sp ?_ ?_; (intro h; skip; rotate_left; intro h; skip; rotate_left)) | fail))
    apply R.arr (H2 := hq1 ++ (hp2 ++ H)) (by ((try simp only [List.append_assoc, List.cons_append, List.nil_append, List.append_nil]); exact a_arr))
    (apply R.call; (exact a_evs); exact rfl; exact rsync_K hr1; rintro _ M2 _ ⟨rfl, rfl, hq2, hr2, rfl⟩)
    (repeat' (first | (apply R.step; (apply Ok.move; exact rfl); exact rfl) | (apply R.step; (apply Ok.eqIR; exact rfl; exact rfl; exact rfl); exact rfl) | refine a_go ?_ | (with_reducible apply Fin.thenK; assumption) | (with_reducible (first | apply C.seqK | apply C.regionK); intro _ _) | (apply R.buildSlice0; exact rfl; intro bz) | (apply R.box; exact rfl; (simp only [Value.cells]; rfl); exact rfl; intro bx) | (apply R.alloc; (simp only [Value.cells]; rfl); exact rfl; intro ba) | (apply R.buildSlice; (exact a_prt); exact rfl; exact rfl; (exact a_fills); exact rfl; intro bl) | (refine a_sp ?_ ?_; (intro h; skip; rotate_left; intro h; skip; rotate_left)) | fail))
    (apply Fin.returnA (H2 := hp2 ++ (hq2 ++ H)); assumption; (first | exact .inl rfl | exact .inr rfl); exact rfl; (exact a_res); (simp only [retv]; rfl); (exact a_arr))
    exact ⟨db, bx, hp2, hq2, rfl, hM1, ho2, hr2, rfl⟩
  · (repeat' (first | (apply R.step; (apply Ok.move; exact rfl); exact rfl) | (apply R.step; (first | (apply Ok.ltTr; exact rfl; exact rfl; omega) | (apply Ok.ltF; exact rfl; exact rfl; omega) | (apply Ok.gtTr; exact rfl; exact rfl; omega) | (apply Ok.gtF; exact rfl; exact rfl; omega) | (apply Ok.geTr; exact rfl; exact rfl; omega) | (apply Ok.geF; exact rfl; exact rfl; omega) | (apply Ok.leTr; exact rfl; exact rfl; omega) | (apply Ok.leF; exact rfl; exact rfl; omega) | (apply Ok.neIT; exact rfl; exact rfl; omega) | (apply Ok.eqIF; exact rfl; exact rfl; omega)); exact rfl) | refine a_go ?_ | (with_reducible apply Fin.thenK; assumption) | (with_reducible (first | apply C.seqK | apply C.regionK); intro _ _) | (apply R.buildSlice0; exact rfl; intro bz) | (apply R.box; exact rfl; (simp only [Value.cells]; rfl); exact rfl; intro bx) | (apply R.alloc; (simp only [Value.cells]; rfl); exact rfl; intro ba) | (apply R.buildSlice; (exact a_prt); exact rfl; exact rfl; (exact a_fills); exact rfl; intro bl) | (refine a_sp ?_ ?_; (intro h; skip; rotate_left; intro h; skip; rotate_left)) | fail))
    (apply R.call; (exact a_evs); exact rfl; exact sync_K ho1; rintro _ M2 _ ⟨rfl, rfl, hp2, ho2, rfl⟩)
    (repeat' (first | refine a_go ?_ | (with_reducible apply Fin.thenK; assumption) | (with_reducible (first | apply C.seqK | apply C.regionK); intro _ _) | (apply R.buildSlice0; exact rfl; intro bz) | (apply R.box; exact rfl; (simp only [Value.cells]; rfl); exact rfl; intro bx) | (apply R.alloc; (simp only [Value.cells]; rfl); exact rfl; intro ba) | (apply R.buildSlice; (exact a_prt); exact rfl; exact rfl; (exact a_fills); exact rfl; intro bl) | (refine a_sp ?_ ?_; (intro h; skip; rotate_left; intro h; skip; rotate_left)) | fail))
    apply R.arr (H2 := hq1 ++ (hp2 ++ H)) (by ((try simp only [List.append_assoc, List.cons_append, List.nil_append, List.append_nil]); exact a_arr))
    (apply R.call; (exact a_evs); exact rfl; exact rsync_K hr1; rintro _ M2 _ ⟨rfl, rfl, hq2, hr2, rfl⟩)
    (repeat' (first | (apply R.step; (apply Ok.move; exact rfl); exact rfl) | (apply R.step; (apply Ok.eqIR; exact rfl; exact rfl; exact rfl); exact rfl) | refine a_go ?_ | (with_reducible apply Fin.thenK; assumption) | (with_reducible (first | apply C.seqK | apply C.regionK); intro _ _) | (apply R.buildSlice0; exact rfl; intro bz) | (apply R.box; exact rfl; (simp only [Value.cells]; rfl); exact rfl; intro bx) | (apply R.alloc; (simp only [Value.cells]; rfl); exact rfl; intro ba) | (apply R.buildSlice; (exact a_prt); exact rfl; exact rfl; (exact a_fills); exact rfl; intro bl) | (refine a_sp ?_ ?_; (intro h; skip; rotate_left; intro h; skip; rotate_left)) | fail))
    (apply Fin.returnA (H2 := hp2 ++ (hq2 ++ H)); assumption; (first | exact .inl rfl | exact .inr rfl); exact rfl; (exact a_res); (simp only [retv]; rfl); (exact a_arr))
    exact ⟨db, bx, hp2, hq2, rfl, hM1, ho2, hr2, rfl⟩
end Go.Sx
end
section
namespace Go.Sx
open Go Go.Proofs Go.RowKit
attribute [local irreducible] C R Fin K Own OwnT Rd Pl Ok KOf RetOk OpsOf RP KP Res NoPanic KV KE MapS ItS EntS FsO FsR RowD PlD DkO PlFs RT KT OneT RS KS OneS RdO
variable {M M' : Mem} {H H1 H2 : Hp}
structure SdX where
  i : Nat
  ii : Int
  M : Mem
theorem sameDisk_K {db rb : Nat} {d : Dk} {hp hq : Hp} (ho : DkO M db d hp) (hr : RdO M rb d hq) (hsz : szD d ≤ 1000000) : K Try.prog 20 [.pointer (some ⟨db, 0, none⟩), .pointer (some ⟨rb, 0, none⟩)] M (hp ++ (hq ++ H)) fun v' M' H' => v' = .bool true ∧ M.le M' ∧ H' = hp ++ (hq ++ H) := by
  refine K.enterK Try.func20 rfl rfl rfl ?_
  intro Q hNP hQ
  have hps := ps_sz d
  have hnl := now_sz d
  (repeat' (first | refine a_go ?_ | (with_reducible apply Fin.thenK; assumption) | (with_reducible (first | apply C.seqK | apply C.regionK); intro _ _) | (apply R.buildSlice0; exact rfl; intro bz) | (apply R.box; exact rfl; (simp only [Value.cells]; rfl); exact rfl; intro bx) | (apply R.alloc; (simp only [Value.cells]; rfl); exact rfl; intro ba) | (apply R.buildSlice; (exact a_prt); exact rfl; exact rfl; (exact a_fills); exact rfl; intro bl) | (refine a_sp ?_ ?_; (intro h; skip; rotate_left; intro h; skip; rotate_left)) | fail))
  (apply R.call; (exact a_evs); exact rfl; exact names_KD ho (by omega); rintro v1 M _ ⟨rfl, hn1, hown1, rfl⟩)
  (repeat' (first | refine a_go ?_ | (with_reducible apply Fin.thenK; assumption) | (with_reducible (first | apply C.seqK | apply C.regionK); intro _ _) | (apply R.buildSlice0; exact rfl; intro bz) | (apply R.box; exact rfl; (simp only [Value.cells]; rfl); exact rfl; intro bx) | (apply R.alloc; (simp only [Value.cells]; rfl); exact rfl; intro ba) | (apply R.buildSlice; (exact a_prt); exact rfl; exact rfl; (exact a_fills); exact rfl; intro bl) | (refine a_sp ?_ ?_; (intro h; skip; rotate_left; intro h; skip; rotate_left)) | fail))
  apply R.arr (H2 := hq ++ (hn1 ++ (hp ++ H))) (by ((try simp only [List.append_assoc, List.cons_append, List.nil_append, List.append_nil]); exact a_arr))
  (apply R.call; (exact a_evs); exact rfl; exact rnames_KD hr (by omega); rintro v2 M _ ⟨rfl, hn2, hown2, rfl⟩)
  obtain ⟨N, hN⟩ : ∃ N, N = namesD d.down d.now := ⟨_, rfl⟩
  rw [← hN] at hown1 hown2
  obtain ⟨A1, c1, rfl, a1, a2⟩ := hown1.form
  obtain ⟨A2, c2, rfl, b1, b2⟩ := hown2.form
  unfold maxLen at a2
  apply R.arr (H2 := (hn1 ++ hn2) ++ (hp ++ (hq ++ H))) (by ((try simp only [List.append_assoc, List.cons_append, List.nil_append, List.append_nil]); exact a_arr))
  apply R.ice (Arr.all _)
  intro M1 hM1 hin
  have hp1 := hown1.plIn hin.left
  have hp2 := hown2.plIn hin.right
  replace ho := ho.mono hM1
  replace hr := hr.mono hM1
  (repeat' (first | refine a_go ?_ | (with_reducible apply Fin.thenK; assumption) | (with_reducible (first | apply C.seqK | apply C.regionK); intro _ _) | (apply R.buildSlice0; exact rfl; intro bz) | (apply R.box; exact rfl; (simp only [Value.cells]; rfl); exact rfl; intro bx) | (apply R.alloc; (simp only [Value.cells]; rfl); exact rfl; intro ba) | (apply R.buildSlice; (exact a_prt); exact rfl; exact rfl; (exact a_fills); exact rfl; intro bl) | (refine a_sp ?_ ?_; (intro h; skip; rotate_left; intro h; skip; rotate_left)) | fail))
  have hc := id hr
  unfold RdO at hc
  obtain ⟨⟨F, G, sv, nv, wv, fused, fuse⟩, hi, rfl⟩ := hc
  dsimp only at ho hr ⊢
  obtain ⟨Aw, cw, rfl, _⟩ : ∃ A cap, wv = .slice A d.ps.length cap ∧ True := by
    obtain ⟨A, cap, h, _⟩ := hi.w
    exact ⟨A, cap, h, trivial⟩
  unfold rdkB at hr ⊢
  have hu1 : ∀ M' Hx', M1.le M' → K Try.prog 56 [.pointer (some ⟨db, 0, none⟩)] M' ((hp ++ [(rb, .cells [.int .i64 d.room, sv, nv, .slice Aw d.ps.length cw, .bool fused, .int .i64 fuse, .bool d.down].toArray 90 (0, 0))]) ++ Hx') (fun u M2 H2 => u = .int .i64 (usedD d.down d.now : Nat) ∧ M2 = M' ∧ H2 = (hp ++ [(rb, .cells [.int .i64 d.room, sv, nv, .slice Aw d.ps.length cw, .bool fused, .int .i64 fuse, .bool d.down].toArray 90 (0, 0))]) ++ Hx') := fun M' Hx' h => by
    rw [List.append_assoc]
    exact dused_KD (ho.mono h)
  have hu2 : ∀ M' Hx', M1.le M' → K Try.prog 57 [.pointer (some ⟨rb, 0, none⟩)] M' ((hp ++ [(rb, .cells [.int .i64 d.room, sv, nv, .slice Aw d.ps.length cw, .bool fused, .int .i64 fuse, .bool d.down].toArray 90 (0, 0))]) ++ Hx') (fun u M2 H2 => u = .int .i64 (usedD d.down d.now : Nat) ∧ M2 = M' ∧ H2 = (hp ++ [(rb, .cells [.int .i64 d.room, sv, nv, .slice Aw d.ps.length cw, .bool fused, .int .i64 fuse, .bool d.down].toArray 90 (0, 0))]) ++ Hx') := fun M' Hx' h => K.permQ (perm_mid _ _ _) (rused_KD (hr.mono h))
  have hpd : ∀ M' Hx', M1.le M' → K Try.prog 58 [.pointer (some ⟨db, 0, none⟩)] M' ((hp ++ [(rb, .cells [.int .i64 d.room, sv, nv, .slice Aw d.ps.length cw, .bool fused, .int .i64 fuse, .bool d.down].toArray 90 (0, 0))]) ++ Hx') (fun u M2 H2 => u = .int .i64 (d.ps.length : Nat) ∧ M2 = M' ∧ H2 = (hp ++ [(rb, .cells [.int .i64 d.room, sv, nv, .slice Aw d.ps.length cw, .bool fused, .int .i64 fuse, .bool d.down].toArray 90 (0, 0))]) ++ Hx') := fun M' Hx' h => by
    rw [List.append_assoc]
    exact pending_KD (ho.mono h)
  have hdn : ∀ M' Hx', M1.le M' → K Try.prog 59 [.pointer (some ⟨db, 0, none⟩)] M' ((hp ++ [(rb, .cells [.int .i64 d.room, sv, nv, .slice Aw d.ps.length cw, .bool fused, .int .i64 fuse, .bool d.down].toArray 90 (0, 0))]) ++ Hx') (fun u M2 H2 => u = .bool d.down ∧ M2 = M' ∧ H2 = (hp ++ [(rb, .cells [.int .i64 d.room, sv, nv, .slice Aw d.ps.length cw, .bool fused, .int .i64 fuse, .bool d.down].toArray 90 (0, 0))]) ++ Hx') := fun M' Hx' h => by
    rw [List.append_assoc]
    exact down_KD (ho.mono h)
  (apply C.regionT (t := .free 0 (.free 1 (.free 2 (.free 3 (.free 4 (.free 5 (.free 6 (.free 7 (.free 8 (.free 9 (.free 10 (.free 11 (.free 12 (.free 13 (.free 14 (.free 15 (.free 16 (.free 17 (.free 18 (.free 19 (.free 20 (.free 21 (.free 22 (.free 23 (.free 24 (.free 25 (.free 26 (.free 27 (.free 28 (.free 29 (.free 30 .nil))))))))))))))))))))))))))))))) (Hs := hp ++ [(rb, .cells [.int .i64 d.room, sv, nv, .slice Aw d.ps.length cw, .bool fused, .int .i64 fuse, .bool d.down].toArray 90 (0, 0))]); exact Mix.h; (first | exact Arr.all _ | (exact a_arr) | ((try simp only [List.append_assoc, List.cons_append, List.nil_append, List.append_nil]); exact a_arr)); (exact a_np); kernel_rfl)
  (repeat' (first | (apply RT.step; exact rfl; intro _ _ _; (apply Ok.move; exact rfl); exact rfl) | (apply RT.callQT; exact rfl; exact inferInstance; exact rfl; exact rfl; exact rfl; (exact a_evs); exact rfl; (first | exact hu1 | exact hu2 | exact hpd | exact hdn)) | (apply RT.stepT; exact rfl; exact rfl; exact rfl; exact rfl; intro _ _ hMx; (first | (apply Ok.loadM; exact rfl; exact rfl; exact (List.mem_append_left _ (List.mem_append_right _ (List.mem_singleton.2 rfl))); exact rfl) | (apply Ok.neIS; exact rfl; exact rfl) | (apply Ok.neBoS; exact rfl; exact rfl)); exact rfl) | (apply RT.step; exact rfl; intro _ _ hMx; (apply Ok.neIS; exact rfl; exact rfl); exact rfl) | (first | (apply RT.step; exact rfl; intro _ _ _; (exact a_ok); exact rfl) | (apply RT.stepT; exact rfl; exact rfl; exact rfl; exact rfl; intro _ _ _; (exact a_ok); exact rfl) | (apply RT.stepF; exact rfl; exact rfl; exact rfl; exact rfl; exact rfl; exact rfl) | (apply RT.stepU; exact rfl; exact rfl; exact rfl; exact rfl; exact rfl) | (apply RT.one; apply OneT.effF; exact rfl; exact rfl; exact rfl; exact rfl; exact rfl; exact rfl) | (apply RT.one; apply OneT.effU; exact rfl; exact rfl; exact rfl; exact rfl; exact rfl))))
  apply RT.nil
  (repeat' (first | refine a_go ?_ | (with_reducible apply Fin.thenK; assumption) | (with_reducible (first | apply C.seqK | apply C.regionK); intro _ _) | (apply R.buildSlice0; exact rfl; intro bz) | (apply R.box; exact rfl; (simp only [Value.cells]; rfl); exact rfl; intro bx) | (apply R.alloc; (simp only [Value.cells]; rfl); exact rfl; intro ba) | (apply R.buildSlice; (exact a_prt); exact rfl; exact rfl; (exact a_fills); exact rfl; intro bl) | (refine a_sp ?_ ?_; (intro h; skip; rotate_left; intro h; skip; rotate_left)) | fail))
  generalize hX : [(rb, Obj.cells [Value.int .i64 d.room, sv, nv, .slice Aw d.ps.length cw, .bool fused, .int .i64 fuse, .bool d.down].toArray 90 (0, 0))] = hq at hr hQ
  clear hu1 hu2 hpd hdn hi
  apply C.arr (H2 := hp ++ (hq ++ H)) (by rw [← hX]; ((try simp only [List.append_assoc, List.cons_append, List.nil_append, List.append_nil]); exact a_arr))
  apply C.loop (fun y : SdX => (y.i : Int) = y.ii ∧ y.i ≤ N.length ∧ M1.le y.M)
    (fun y => [(0, .pointer (some ⟨db, 0, none⟩)), (1, .pointer (some ⟨rb, 0, none⟩)), (5, .slice A1 N.length c1), (6, .slice A2 N.length c2), (7, .int .i64 y.ii)]) (fun y => y.M) (fun _ => hp ++ (hq ++ H)) (fun y => N.length - y.i) ⟨0, 0, M1⟩
  · exact ⟨rfl, Nat.zero_le _, Mem.le_refl _⟩
  · (exact a_subs)
  · exact rfl
  · exact rfl
  rintro ⟨i, ii, M2⟩ ⟨hii, hi, hM2⟩
  dsimp only at hii hi hM2 ⊢
  by_cases hin : i < N.length
  · obtain ⟨e1, o1, q1, t1, r1, rfl, m1, g1⟩ := (hp1.mono hM2).get (i := i) (v := str N[i]) (by rw [List.getElem?_map, List.getElem?_eq_getElem hin]; rfl)
    obtain ⟨e2, o2, q2, t2, r2, rfl, m2, g2⟩ := (hp2.mono hM2).get (i := i) (v := str N[i]) (by rw [List.getElem?_map, List.getElem?_eq_getElem hin]; rfl)
    rw [show o1 + i = o1 + ii.toNat * 1 by omega] at g1
    rw [show o2 + i = o2 + ii.toNat * 1 by omega] at g2
    generalize N[i] = n at g1 g2
    (repeat' (first | (apply R.step; (apply Ok.move; exact rfl); exact rfl) | (apply R.step; (first | (apply Ok.ltTr; exact rfl; exact rfl; omega) | (apply Ok.loadP; exact rfl; exact rfl; exact m2; exact g2)); exact rfl) | refine a_go ?_ | (with_reducible apply Fin.thenK; assumption) | (with_reducible (first | apply C.seqK | apply C.regionK); intro _ _) | (apply R.buildSlice0; exact rfl; intro bz) | (apply R.box; exact rfl; (simp only [Value.cells]; rfl); exact rfl; intro bx) | (apply R.alloc; (simp only [Value.cells]; rfl); exact rfl; intro ba) | (apply R.buildSlice; (exact a_prt); exact rfl; exact rfl; (exact a_fills); exact rfl; intro bl) | (refine a_sp ?_ ?_; (intro h; skip; rotate_left; intro h; skip; rotate_left)) | fail))
    (apply R.call; (exact a_evs); exact rfl; exact dread_K (n := n) (ho.mono hM2); rintro _ M2 _ ⟨v5, hv5, rfl, hown5, rfl, rfl⟩)
    obtain ⟨A5, k5, rfl, _, _⟩ := hown5.form
    (repeat' (first | (apply R.step; (apply Ok.move; exact rfl); exact rfl) | (apply R.step; (apply Ok.loadP; exact rfl; exact rfl; exact m2; exact g2); exact rfl) | refine a_go ?_ | (with_reducible apply Fin.thenK; assumption) | (with_reducible (first | apply C.seqK | apply C.regionK); intro _ _) | (apply R.buildSlice0; exact rfl; intro bz) | (apply R.box; exact rfl; (simp only [Value.cells]; rfl); exact rfl; intro bx) | (apply R.alloc; (simp only [Value.cells]; rfl); exact rfl; intro ba) | (apply R.buildSlice; (exact a_prt); exact rfl; exact rfl; (exact a_fills); exact rfl; intro bl) | (refine a_sp ?_ ?_; (intro h; skip; rotate_left; intro h; skip; rotate_left)) | fail))
    apply R.arr (H2 := hv5 ++ (hq ++ (hp ++ H))) (by ((try simp only [List.append_assoc, List.cons_append, List.nil_append, List.append_nil]); exact a_arr))
    apply R.ice (Arr.all _)
    intro M3 hM3 hin5
    have hpl5 := hown5.plIn hin5
    (apply R.call; (exact a_evs); exact rfl; exact rread_KD (n := n) ((hr.mono hM2).mono hM3) (by omega); rintro _ M3 _ ⟨v6, rfl, hpb6, rfl, rfl⟩)
    generalize (readD d n).getD [] = bs at hpb6 hpl5
    generalize (readD d n).isSome = bo
    obtain ⟨A6, k6, rfl, _, _, hpl6⟩ := hpb6
    (repeat' (first | refine a_go ?_ | (with_reducible apply Fin.thenK; assumption) | (with_reducible (first | apply C.seqK | apply C.regionK); intro _ _) | (apply R.buildSlice0; exact rfl; intro bz) | (apply R.box; exact rfl; (simp only [Value.cells]; rfl); exact rfl; intro bx) | (apply R.alloc; (simp only [Value.cells]; rfl); exact rfl; intro ba) | (apply R.buildSlice; (exact a_prt); exact rfl; exact rfl; (exact a_fills); exact rfl; intro bl) | (refine a_sp ?_ ?_; (intro h; skip; rotate_left; intro h; skip; rotate_left)) | fail))
    (apply C.regionT (t := .free 0 (.free 1 (.free 2 (.free 3 (.free 4 (.free 5 (.free 6 (.free 7 (.free 8 (.free 9 (.free 10 (.free 11 (.free 12 (.free 13 (.free 14 (.free 15 .nil)))))))))))))))) (Hs := []); exact Mix.h; (first | exact Arr.all _ | (exact a_arr) | ((try simp only [List.append_assoc, List.cons_append, List.nil_append, List.append_nil]); exact a_arr)); (exact a_np); kernel_rfl)
    (repeat' (first | (apply RT.step; exact rfl; intro _ _ _; (apply Ok.move; exact rfl); exact rfl) | (apply RT.step; exact rfl; intro _ _ hMx; (first | (apply Ok.loadP; exact rfl; exact rfl; exact hMx.2.2 _ _ (hM3.2.2 _ _ m2); exact g2) | (apply Ok.loadP; exact rfl; exact rfl; exact hMx.2.2 _ _ (hM3.2.2 _ _ m1); exact g1) | (apply Ok.neStrS (bs := n); exact rfl; exact rfl)); exact rfl) | (apply RT.stepT; exact rfl; exact rfl; exact rfl; exact rfl; intro _ _ hMx; (first | (apply Ok.toT (bs := bs); exact rfl; exact (hpl5.mono hMx).rd) | (apply Ok.toT (bs := bs); exact rfl; exact (hpl6.mono hMx).rd) | (apply Ok.neStrS (bs := bs); exact rfl; exact rfl)); exact rfl) | (first | (apply RT.step; exact rfl; intro _ _ _; (exact a_ok); exact rfl) | (apply RT.stepT; exact rfl; exact rfl; exact rfl; exact rfl; intro _ _ _; (exact a_ok); exact rfl) | (apply RT.stepF; exact rfl; exact rfl; exact rfl; exact rfl; exact rfl; exact rfl) | (apply RT.stepU; exact rfl; exact rfl; exact rfl; exact rfl; exact rfl) | (apply RT.one; apply OneT.effF; exact rfl; exact rfl; exact rfl; exact rfl; exact rfl; exact rfl) | (apply RT.one; apply OneT.effU; exact rfl; exact rfl; exact rfl; exact rfl; exact rfl))))
    apply RT.nil
    (repeat' (first | refine a_go ?_ | (with_reducible apply Fin.thenK; assumption) | (with_reducible (first | apply C.seqK | apply C.regionK); intro _ _) | (apply R.buildSlice0; exact rfl; intro bz) | (apply R.box; exact rfl; (simp only [Value.cells]; rfl); exact rfl; intro bx) | (apply R.alloc; (simp only [Value.cells]; rfl); exact rfl; intro ba) | (apply R.buildSlice; (exact a_prt); exact rfl; exact rfl; (exact a_fills); exact rfl; intro bl) | (refine a_sp ?_ ?_; (intro h; skip; rotate_left; intro h; skip; rotate_left)) | fail))
    (apply Fin.arr (H2 := hp ++ (hq ++ H)); ((try simp only [List.append_assoc, List.cons_append, List.nil_append, List.append_nil]); exact a_arr))
    refine Fin.again (⟨i + 1, ii + 1, M3⟩ : SdX) ⟨by dsimp only; omega, by dsimp only; omega, hM2.trans_ hM3⟩ (by dsimp only; omega) ?_ rfl rfl
    (exact a_subs)
  have hie : i = N.length := by omega
  (repeat' (first | (apply R.step; (apply Ok.move; exact rfl); exact rfl) | (apply R.step; (first | (apply Ok.ltTr; exact rfl; exact rfl; omega) | (apply Ok.ltF; exact rfl; exact rfl; omega) | (apply Ok.gtTr; exact rfl; exact rfl; omega) | (apply Ok.gtF; exact rfl; exact rfl; omega) | (apply Ok.geTr; exact rfl; exact rfl; omega) | (apply Ok.geF; exact rfl; exact rfl; omega) | (apply Ok.leTr; exact rfl; exact rfl; omega) | (apply Ok.leF; exact rfl; exact rfl; omega) | (apply Ok.neIT; exact rfl; exact rfl; omega) | (apply Ok.eqIF; exact rfl; exact rfl; omega)); exact rfl) | refine a_go ?_ | (with_reducible apply Fin.thenK; assumption) | (with_reducible (first | apply C.seqK | apply C.regionK); intro _ _) | (apply R.buildSlice0; exact rfl; intro bz) | (apply R.box; exact rfl; (simp only [Value.cells]; rfl); exact rfl; intro bx) | (apply R.alloc; (simp only [Value.cells]; rfl); exact rfl; intro ba) | (apply R.buildSlice; (exact a_prt); exact rfl; exact rfl; (exact a_fills); exact rfl; intro bl) | (refine a_sp ?_ ?_; (intro h; skip; rotate_left; intro h; skip; rotate_left)) | fail))
  (apply Fin.returnA (H2 := hp ++ (hq ++ H)); assumption; (first | exact .inl rfl | exact .inr rfl); exact rfl; (exact a_res); (simp only [retv]; rfl); (exact a_arr))
  exact ⟨rfl, hM1.trans_ hM2, by rw [← hX]; rfl⟩
end Go.Sx
end
section
namespace Go.Sx
open Go Go.Proofs Go.RowKit
attribute [local irreducible] C R Fin K Own OwnT Rd Pl Ok KOf RetOk OpsOf RP KP Res NoPanic KV KE MapS ItS EntS FsO FsR RowD PlD DkO PlFs RT KT OneT RS KS OneS RdO
variable {M M' : Mem} {H H1 H2 : Hp}
theorem PlFs.mk {A : Option Addr} {cap : Nat} {es : List FE} (h1 : es.length ≤ cap) (h2 : cap ≤ 9223372036854775807) (h3 : Pl M A (es.map feC).flatten) (h4 : EsOk M es) : PlFs M (.slice A es.length cap) (es.map feP) := by
  unfold PlFs
  exact ⟨A, cap, es, rfl, h1, h2, h3, h4, rfl⟩
theorem Own.row1 {e sz b : Nat} {c : List Value} (h : c.length = sz) : Own e sz (.slice (some ⟨b, 0, none⟩) 1 1) 1 c [(b, .cells c.toArray e (0, 0))] := by
  unfold Own
  exact ⟨by omega, .inr ⟨b, 1, c.toArray, rfl, rfl, Nat.le_refl _, by unfold maxLen; omega, by simp; omega, by rw [Nat.one_mul, ← h]; simp⟩⟩
theorem appsD_sz : ∀ (F : Fs) (d : Dk), szD (appsD d F) ≤ szD d + F.length
  | [], d => Nat.le_refl _
  | p :: F, d => by
    have h1 := appsD_sz F (opD (appE d p.1 p.2) d (.app p.1 p.2))
    have h2 := opD_sz d (appE d p.1 p.2) (.app p.1 p.2)
    have h3 : appsD d (p :: F) = appsD (opD (appE d p.1 p.2) d (.app p.1 p.2)) F := rfl
    rw [h3, List.length_cons]
    omega
theorem pairD_sz (r : Int) (F : Fs) (h : F.length ≤ 20) : szD (pairD r F) ≤ F.length := by
  have h1 := synD_sz (appsD (newD r) (F.take 20))
  have h2 := appsD_sz (F.take 20) (newD r)
  have h3 : szD (newD r) = 0 := rfl
  rw [List.take_of_length_le h] at h1 h2
  unfold pairD
  rw [List.take_of_length_le h]
  omega
end Go.Sx
end
section
namespace Go.Sx
open Go Go.Proofs Go.RowKit
attribute [local irreducible] C R Fin K Own OwnT Rd Pl Ok KOf RetOk OpsOf RP KP Res NoPanic KV KE MapS ItS EntS FsO FsR RowD PlD DkO PlFs RT KT OneT RS KS OneS RdO PlB
variable {M M' : Mem} {H H1 H2 : Hp}
structure PnX where
  v : Value
  x : Txt
  M : Mem
structure PnY where
  v : Value
  es : List FE
  hp : Hp
  M : Mem
def pe1 (v : Value) (b : Txt) : FE := ⟨pfile, v, b⟩
def pe2 (v : Value) (b : Txt) : FE := ⟨pnew, v, b⟩
theorem openP_sz1 (d : Dk) : szD (openP d).2.1 ≤ szD d + 1 := by
  have h := clrN_sz pnew d
  unfold openP
  split
  · exact h
  · exact h
theorem PlB.formB {v : Value} {b : Txt} (h : PlB M v b) : ∃ A c, v = .slice A b.length c ∧ b.length ≤ c ∧ c ≤ 9223372036854775807 ∧ Pl M A (b.map bv) := by
  unfold PlB at h
  exact h
theorem photoAny_K {B N : Option Addr} {cb cm : Nat} {bs ms : Txt} {frames : Int} {other : Bool} (hb : Pl M B (bs.map bv)) (hbc : bs.length ≤ cb) (hbl : cb ≤ 140737488351232) (hm : Pl M N (ms.map bv)) (hmc : ms.length ≤ cm) (hml : cm ≤ 140737488351232) : K Try.prog 5 [.slice B bs.length cb, .slice N ms.length cm, .int .i64 frames, .bool other] M H fun v' M' H' => v' = .bool true ∧ M.le M' := by
  refine K.enterK Try.func5 rfl rfl rfl ?_
  intro Q hNP hQ
  have hbb : PlB M (.slice B bs.length cb) bs := by
    unfold PlB
    exact ⟨B, cb, rfl, hbc, by omega, hb⟩
  (repeat' (first | (apply R.step; (exact a_ok); exact rfl) | (first | (with_reducible first | apply R.nil | apply C.ret | apply C.block | apply C.skip | apply C.exit | apply Fin.thenRet | apply Fin.thenExit | apply Fin.blockNormal | apply Fin.blockRet | apply Fin.blockExit) | (with_reducible apply Fin.thenK; assumption) | (with_reducible apply C.seqR; intro _ _) | (with_reducible apply C.regionK; intro _ _) | (with_reducible apply Fin.blockOther; exact rfl)) | (first | (apply R.store; exact rfl; exact rfl; exact rfl; (exact a_at); (exact a_blit); exact rfl; (focus (simp [Value.oneCell']; done))) | (apply R.buildSlice0; exact rfl; intro bz) | (apply R.box; exact rfl; (simp only [Value.cells]; rfl); exact rfl; intro bx) | (apply R.alloc; (simp only [Value.cells]; rfl); exact rfl; intro ba) | (apply R.buildSlice; (exact a_prt); exact rfl; exact rfl; (exact a_fills); exact rfl; intro bl)) | (first | (apply R.guardT; assumption; exact rfl; exact rfl; exact rfl) | (apply R.guardF; assumption; exact rfl; exact rfl; exact rfl; exact rfl; exact rfl) | (apply R.guardU; assumption; exact rfl; exact rfl; exact rfl; exact rfl) | (apply R.guardDec; assumption; exact rfl; exact rfl; (intro h; skip; rotate_left; intro h; skip; rotate_left)) | (apply R.guardBeq; assumption; exact rfl; exact rfl; (intro h; skip; rotate_left; intro h; skip; rotate_left)) | (apply R.guardBne; assumption; exact rfl; exact rfl; (intro h; skip; rotate_left; intro h; skip; rotate_left)) | (apply R.guardNDec; assumption; exact rfl; exact rfl; (intro h; skip; rotate_left; intro h; skip; rotate_left)) | (apply R.guardNot; assumption; exact rfl; exact rfl; (intro h; skip; rotate_left; intro h; skip; rotate_left)) | (apply R.guardC; assumption; exact rfl; exact rfl; (intro h; skip; rotate_left; intro h; skip; rotate_left)))))
  apply C.seqCut (X := PnX) (fun y => M.le y.M ∧ PlB y.M y.v y.x ∧ y.x.length ≤ 300 + 140737488351232)
    (fun y => [(0, .slice B bs.length cb), (3, .bool other), (9, y.v)]) (fun y => y.M) (fun _ => H)
  · obtain ⟨k, hk⟩ : ∃ k : Nat, k = min ms.length 100 := ⟨_, rfl⟩
    have hmin : min (ms.length : Int) 100 = (k : Int) := by omega
    (repeat' (first | (apply R.step; (apply Ok.move; exact rfl); exact rfl) | (apply R.step; (apply Ok.rem; exact rfl; exact rfl; decide); exact rfl) | refine a_go ?_ | (with_reducible apply Fin.thenK; assumption) | (with_reducible (first | apply C.seqK | apply C.regionK); intro _ _) | (apply R.buildSlice0; exact rfl; intro bz) | (apply R.box; exact rfl; (simp only [Value.cells]; rfl); exact rfl; intro bx) | (apply R.alloc; (simp only [Value.cells]; rfl); exact rfl; intro ba) | (apply R.buildSlice; (exact a_prt); exact rfl; exact rfl; (exact a_fills); exact rfl; intro bl) | (refine a_sp ?_ ?_; (intro h; skip; rotate_left; intro h; skip; rotate_left)) | fail))
    rotate_left
    · refine Fin.join (⟨_, bs, M⟩ : PnX) ⟨Mem.le_refl _, hbb, by dsimp only; omega⟩ ?_ rfl rfl
      (exact a_subs)
    rw [hmin]
    (repeat' (first | (apply R.step; (apply Ok.move; exact rfl); exact rfl) | (apply R.step; (apply Ok.convLI; exact rfl); exact rfl) | refine a_go ?_ | (with_reducible apply Fin.thenK; assumption) | (with_reducible (first | apply C.seqK | apply C.regionK); intro _ _) | (apply R.buildSlice0; exact rfl; intro bz) | (apply R.box; exact rfl; (simp only [Value.cells]; rfl); exact rfl; intro bx) | (apply R.alloc; (simp only [Value.cells]; rfl); exact rfl; intro ba) | (apply R.buildSlice; (exact a_prt); exact rfl; exact rfl; (exact a_fills); exact rfl; intro bl) | (refine a_sp ?_ ?_; (intro h; skip; rotate_left; intro h; skip; rotate_left)) | fail))
    rw [hmin]
    (apply R.step; (apply Ok.sliceHi; exact rfl; exact rfl; omega; omega); exact rfl)
    rw [Int.toNat_natCast]
    have hmt : Pl M N ((ms.take k).map bv) := by
      rw [List.map_take]
      exact hm.take k
    have htl : (ms.take k).length = k := by rw [List.length_take]; omega
    have ho4 : Own 5 1 (.slice (some ⟨bl, 0, none⟩) 4 4) 4 [bv 4, bv 2, bv 14, bv (UInt8.ofNat k)] [(bl, .cells [bv 4, bv 2, bv 14, bv (UInt8.ofNat k)].toArray 5 (0, 0))] := Own.of_cells (e := 5) (b := bl) (xs := [bv 4, bv 2, bv 14, bv (UInt8.ofNat k)]) (show 4 ≤ maxLen by decide)
    (apply R.append (news := (ms.take k).map bv) (k := k); exact rfl; exact rfl; exact ho4; (exact a_tk); exact Pl.rd hmt; (rw [List.length_map, htl, Nat.mul_one]); exact bv_one _; omega; exact rfl; decide; decide; exact rfl; rintro v4 hp4 hown4)
    obtain ⟨x0, hx0⟩ : ∃ x0 : Txt, x0 = [4, 2, 14, UInt8.ofNat k] ++ ms.take k := ⟨_, rfl⟩
    have hx0l : x0.length = 4 + k := by rw [hx0, List.length_append, htl]; rfl
    have hx0m : [bv 4, bv 2, bv 14, bv (UInt8.ofNat k)] ++ (ms.take k).map bv = x0.map bv := by rw [hx0, List.map_append]; rfl
    rw [hx0m] at hown4
    obtain ⟨A4, c4, rfl, _, _⟩ := hown4.form
    apply R.arr (H2 := hp4 ++ H) (by ((try simp only [List.append_assoc, List.cons_append, List.nil_append, List.append_nil]); exact a_arr))
    apply R.ice (Arr.all _)
    intro M2 hM2 hin2
    have hpl2 := hown4.plIn hin2
    (repeat' (first | refine a_go ?_ | (with_reducible apply Fin.thenK; assumption) | (with_reducible (first | apply C.seqK | apply C.regionK); intro _ _) | (apply R.buildSlice0; exact rfl; intro bz) | (apply R.box; exact rfl; (simp only [Value.cells]; rfl); exact rfl; intro bx) | (apply R.alloc; (simp only [Value.cells]; rfl); exact rfl; intro ba) | (apply R.buildSlice; (exact a_prt); exact rfl; exact rfl; (exact a_fills); exact rfl; intro bl) | (refine a_sp ?_ ?_; (intro h; skip; rotate_left; intro h; skip; rotate_left)) | fail))
    (apply R.call; (exact a_evs); exact rfl; exact rframe_KF hpl2 hx0l (by omega); rintro v6 M6 _ ⟨hb6, hM6, e1_⟩; replace e1_ := e1_.symm; subst e1_)
    have hfl : (frameS x0).length = 8 + (4 + k) := by rw [frameS_len (by omega), hx0l]
    generalize frameS x0 = f at hb6 hfl
    obtain ⟨A6, c6, rfl, k6, k7, hp6⟩ := hb6.formB
    (repeat' (first | (apply R.step; (apply Ok.move; exact rfl); exact rfl) | (apply R.step; (apply Ok.rem; exact rfl; exact rfl; decide); exact rfl) | refine a_go ?_ | (with_reducible apply Fin.thenK; assumption) | (with_reducible (first | apply C.seqK | apply C.regionK); intro _ _) | (apply R.buildSlice0; exact rfl; intro bz) | (apply R.box; exact rfl; (simp only [Value.cells]; rfl); exact rfl; intro bx) | (apply R.alloc; (simp only [Value.cells]; rfl); exact rfl; intro ba) | (apply R.buildSlice; (exact a_prt); exact rfl; exact rfl; (exact a_fills); exact rfl; intro bl) | (refine a_sp ?_ ?_; (intro h; skip; rotate_left; intro h; skip; rotate_left)) | fail))
    rotate_left
    · refine Fin.join (⟨_, f, M6⟩ : PnX) ⟨hM2.trans_ hM6, hb6, by dsimp only; omega⟩ ?_ rfl rfl
      (exact a_subs)
    (apply R.append (news := f.map bv) (k := f.length); exact rfl; exact rfl; exact Own.empty; (exact a_tk); exact Pl.rd hp6; (rw [List.length_map, Nat.mul_one]); exact bv_one _; omega; exact rfl; decide; decide; exact rfl; rintro v7 hp7 hown7)
    rw [List.nil_append, Nat.zero_add] at hown7
    obtain ⟨A7, c7, rfl, _, _⟩ := hown7.form
    (repeat' (first | refine a_go ?_ | (with_reducible apply Fin.thenK; assumption) | (with_reducible (first | apply C.seqK | apply C.regionK); intro _ _) | (apply R.buildSlice0; exact rfl; intro bz) | (apply R.box; exact rfl; (simp only [Value.cells]; rfl); exact rfl; intro bx) | (apply R.alloc; (simp only [Value.cells]; rfl); exact rfl; intro ba) | (apply R.buildSlice; (exact a_prt); exact rfl; exact rfl; (exact a_fills); exact rfl; intro bl) | (refine a_sp ?_ ?_; (intro h; skip; rotate_left; intro h; skip; rotate_left)) | fail))
    (apply R.append (news := bs.map bv) (k := bs.length); exact rfl; exact rfl; exact hown7; (exact a_tk); exact Pl.rd ((hb.mono hM2).mono hM6); (rw [List.length_map, Nat.mul_one]); exact bv_one _; omega; exact rfl; decide; decide; exact rfl; rintro v8 hp8 hown8)
    rw [← List.map_append, ← List.length_append] at hown8
    obtain ⟨A8, c8, rfl, _, _⟩ := hown8.form
    apply R.arr (H2 := hp8 ++ H) (by ((try simp only [List.append_assoc, List.cons_append, List.nil_append, List.append_nil]); exact a_arr))
    apply R.ice (Arr.all _)
    intro M8 hM8 hin8
    have hpl8 := hown8.plB hin8
    (repeat' (first | refine a_go ?_ | (with_reducible apply Fin.thenK; assumption) | (with_reducible (first | apply C.seqK | apply C.regionK); intro _ _) | (apply R.buildSlice0; exact rfl; intro bz) | (apply R.box; exact rfl; (simp only [Value.cells]; rfl); exact rfl; intro bx) | (apply R.alloc; (simp only [Value.cells]; rfl); exact rfl; intro ba) | (apply R.buildSlice; (exact a_prt); exact rfl; exact rfl; (exact a_fills); exact rfl; intro bl) | (refine a_sp ?_ ?_; (intro h; skip; rotate_left; intro h; skip; rotate_left)) | fail))
    refine Fin.join (⟨_, f ++ bs, M8⟩ : PnX) ⟨hM2.trans_ (hM6.trans_ hM8), hpl8, by dsimp only; rw [List.length_append]; omega⟩ ?_ rfl rfl
    (exact a_subs)
  rintro ⟨v, x, M1⟩ ⟨hM1, hxb, hxl⟩
  dsimp only at hM1 hxb hxl ⊢
  obtain ⟨Ax, cx, rfl, x1, x2, x3⟩ := hxb.formB
  replace hbb := hbb.mono hM1
  (repeat' (first | (apply R.step; (exact a_ok); exact rfl) | (first | (with_reducible first | apply R.nil | apply C.ret | apply C.block | apply C.skip | apply C.exit | apply Fin.thenRet | apply Fin.thenExit | apply Fin.blockNormal | apply Fin.blockRet | apply Fin.blockExit) | (with_reducible apply Fin.thenK; assumption) | (with_reducible apply C.seqR; intro _ _) | (with_reducible apply C.regionK; intro _ _) | (with_reducible apply Fin.blockOther; exact rfl)) | (first | (apply R.store; exact rfl; exact rfl; exact rfl; (exact a_at); (exact a_blit); exact rfl; (focus (simp [Value.oneCell']; done))) | (apply R.buildSlice0; exact rfl; intro bz) | (apply R.box; exact rfl; (simp only [Value.cells]; rfl); exact rfl; intro bx) | (apply R.alloc; (simp only [Value.cells]; rfl); exact rfl; intro ba) | (apply R.buildSlice; (exact a_prt); exact rfl; exact rfl; (exact a_fills); exact rfl; intro bl)) | (first | (apply R.guardT; assumption; exact rfl; exact rfl; exact rfl) | (apply R.guardF; assumption; exact rfl; exact rfl; exact rfl; exact rfl; exact rfl) | (apply R.guardU; assumption; exact rfl; exact rfl; exact rfl; exact rfl) | (apply R.guardDec; assumption; exact rfl; exact rfl; (intro h; skip; rotate_left; intro h; skip; rotate_left)) | (apply R.guardBeq; assumption; exact rfl; exact rfl; (intro h; skip; rotate_left; intro h; skip; rotate_left)) | (apply R.guardBne; assumption; exact rfl; exact rfl; (intro h; skip; rotate_left; intro h; skip; rotate_left)) | (apply R.guardNDec; assumption; exact rfl; exact rfl; (intro h; skip; rotate_left; intro h; skip; rotate_left)) | (apply R.guardNot; assumption; exact rfl; exact rfl; (intro h; skip; rotate_left; intro h; skip; rotate_left)) | (apply R.guardC; assumption; exact rfl; exact rfl; (intro h; skip; rotate_left; intro h; skip; rotate_left)))))
  apply C.seqCut (X := PnY) (fun y => M1.le y.M ∧ Own 50 2 y.v y.es.length (y.es.map feC).flatten y.hp ∧ EsOk y.M y.es ∧ y.es.length ≤ 2 ∧ ∀ e ∈ y.es, e.n.length ≤ 8 ∧ e.b.length ≤ 300 + 140737488351232)
    (fun y => [(0, .slice B bs.length cb), (10, y.v)]) (fun y => y.M) (fun y => y.hp ++ H)
  · have ho1 : Own 50 2 (.slice (some ⟨bl, 0, none⟩) 1 1) 1 (feC (pe1 (.slice Ax x.length cx) x)) [(bl, .cells (feC (pe1 (.slice Ax x.length cx) x)).toArray 50 (0, 0))] := Own.row1 rfl
    (repeat' (first | refine a_go ?_ | (with_reducible apply Fin.thenK; assumption) | (with_reducible (first | apply C.seqK | apply C.regionK); intro _ _) | (apply R.buildSlice0; exact rfl; intro bz) | (apply R.box; exact rfl; (simp only [Value.cells]; rfl); exact rfl; intro bx) | (apply R.alloc; (simp only [Value.cells]; rfl); exact rfl; intro ba) | (apply R.buildSlice; (exact a_prt); exact rfl; exact rfl; (exact a_fills); exact rfl; intro bl) | (refine a_sp ?_ ?_; (intro h; skip; rotate_left; intro h; skip; rotate_left)) | fail))
    rotate_left
    · refine Fin.join (⟨.slice (some ⟨bl, 0, none⟩) 1 1, [pe1 (.slice Ax x.length cx) x], [(bl, .cells (feC (pe1 (.slice Ax x.length cx) x)).toArray 50 (0, 0))], M1⟩ : PnY) ⟨Mem.le_refl _, ho1, fun e he => by rw [List.mem_singleton] at he; subst he; exact hxb, (show 1 ≤ 2 by decide), fun e he => by rw [List.mem_singleton] at he; subst he; exact ⟨(show 4 ≤ 8 by decide), hxl⟩⟩ ?_ rfl rfl
      (exact a_subs)
    (apply R.append (news := feC (pe2 (.slice B bs.length cb) bs)) (k := 1); exact rfl; exact rfl; exact ho1; (exact a_tk); exact Rd.at_ (l := feC (pe2 (.slice B bs.length cb) bs)) (by (exact a_at)) (fun j u h => by rw [Nat.zero_add]; exact h); exact rfl; (intro u hu; rcases List.mem_cons.mp hu with rfl | hu; exact rfl; rw [List.mem_singleton] at hu; subst hu; rfl); omega; exact rfl; decide; decide; exact rfl; rintro v5 hp5 hown5)
    (repeat' (first | refine a_go ?_ | (with_reducible apply Fin.thenK; assumption) | (with_reducible (first | apply C.seqK | apply C.regionK); intro _ _) | (apply R.buildSlice0; exact rfl; intro bz) | (apply R.box; exact rfl; (simp only [Value.cells]; rfl); exact rfl; intro bx) | (apply R.alloc; (simp only [Value.cells]; rfl); exact rfl; intro ba) | (apply R.buildSlice; (exact a_prt); exact rfl; exact rfl; (exact a_fills); exact rfl; intro bl) | (refine a_sp ?_ ?_; (intro h; skip; rotate_left; intro h; skip; rotate_left)) | fail))
    (apply Fin.arr (H2 := hp5 ++ H); ((try simp only [List.append_assoc, List.cons_append, List.nil_append, List.append_nil]); exact a_arr))
    refine Fin.join (⟨v5, [pe1 (.slice Ax x.length cx) x, pe2 (.slice B bs.length cb) bs], hp5, M1⟩ : PnY) ⟨Mem.le_refl _, hown5, fun e he => ?_, Nat.le_refl 2, fun e he => ?_⟩ ?_ rfl rfl
    · rcases List.mem_cons.mp he with rfl | he
      · exact hxb
      · rw [List.mem_singleton] at he; subst he; exact hbb
    · rcases List.mem_cons.mp he with rfl | he
      · exact ⟨(show 4 ≤ 8 by decide), hxl⟩
      · rw [List.mem_singleton] at he; subst he; exact ⟨(show 8 ≤ 8 by decide), by show bs.length ≤ _; omega⟩
    (exact a_subs)
  rintro ⟨v5, es, hp5, M5⟩ ⟨hM5, ho5, hes, hel, hbd⟩
  dsimp only at hM5 ho5 hes hel hbd ⊢
  obtain ⟨A5, c5, rfl, q1, q2⟩ := ho5.form
  (repeat' (first | refine a_go ?_ | (with_reducible apply Fin.thenK; assumption) | (with_reducible (first | apply C.seqK | apply C.regionK); intro _ _) | (apply R.buildSlice0; exact rfl; intro bz) | (apply R.box; exact rfl; (simp only [Value.cells]; rfl); exact rfl; intro bx) | (apply R.alloc; (simp only [Value.cells]; rfl); exact rfl; intro ba) | (apply R.buildSlice; (exact a_prt); exact rfl; exact rfl; (exact a_fills); exact rfl; intro bl) | (refine a_sp ?_ ?_; (intro h; skip; rotate_left; intro h; skip; rotate_left)) | fail))
  apply R.ice (Arr.all _)
  intro M6 hM6 hin6
  have hfs := PlFs.mk (cap := c5) (by omega) (by (first | omega | (unfold maxLen at *; omega))) (ho5.plIn hin6) (hes.mono hM6)
  (apply R.call; (exact a_evs); exact rfl; exact pair_K (room := 1048576) (by decide) (by decide) hfs (fun p hp => by (obtain ⟨e, he, rfl⟩ := List.mem_map.mp hp; have h := hbd e he; exact ⟨Nat.le_trans h.1 (by decide), Nat.le_trans h.2 (by decide)⟩)); rintro _ M7 _ ⟨db, rb, hp, hq, rfl, hM7, ho, hr, rfl⟩)
  (repeat' (first | refine a_go ?_ | (with_reducible apply Fin.thenK; assumption) | (with_reducible (first | apply C.seqK | apply C.regionK); intro _ _) | (apply R.buildSlice0; exact rfl; intro bz) | (apply R.box; exact rfl; (simp only [Value.cells]; rfl); exact rfl; intro bx) | (apply R.alloc; (simp only [Value.cells]; rfl); exact rfl; intro ba) | (apply R.buildSlice; (exact a_prt); exact rfl; exact rfl; (exact a_fills); exact rfl; intro bl) | (refine a_sp ?_ ?_; (intro h; skip; rotate_left; intro h; skip; rotate_left)) | fail))
  (apply R.call; (exact a_evs); exact rfl; exact pknown_K; rintro _ M8 _ ⟨rfl, hM8, rfl⟩)
  replace ho := ho.mono hM8
  replace hr := hr.mono hM8
  have hsz0 : szD (pairD 1048576 (es.map feP)) ≤ 2 := Nat.le_trans (pairD_sz _ _ (by rw [List.length_map]; omega)) (by rw [List.length_map]; exact hel)
  generalize pairD 1048576 (es.map feP) = d4 at ho hr hsz0
  have hps4 := ps_sz d4
  (repeat' (first | refine a_go ?_ | (with_reducible apply Fin.thenK; assumption) | (with_reducible (first | apply C.seqK | apply C.regionK); intro _ _) | (apply R.buildSlice0; exact rfl; intro bz) | (apply R.box; exact rfl; (simp only [Value.cells]; rfl); exact rfl; intro bx) | (apply R.alloc; (simp only [Value.cells]; rfl); exact rfl; intro ba) | (apply R.buildSlice; (exact a_prt); exact rfl; exact rfl; (exact a_fills); exact rfl; intro bl) | (refine a_sp ?_ ?_; (intro h; skip; rotate_left; intro h; skip; rotate_left)) | fail))
  (apply R.call; (exact a_evs); exact rfl; exact popen_K ho (by omega); rintro _ M9 _ ⟨vd9, rfl, hb9, hM9, hp9, ho9, rfl⟩)
  have hos := openP_sz1 d4
  generalize hoz : openP d4 = z at ho9 hos hb9
  obtain ⟨ze, zd, zo⟩ := z
  dsimp only at ho9 hos hb9 ⊢
  obtain ⟨A9, c9, rfl, _, _, _⟩ := hb9.formB
  generalize hzs : sn0 zo = zs at hb9
  obtain ⟨zi, zt, zc, zb⟩ := zs
  unfold snV snC
  dsimp only at hb9 ⊢
  (repeat' (first | (apply R.step; (exact a_ok); exact rfl) | (first | (with_reducible first | apply R.nil | apply C.ret | apply C.block | apply C.skip | apply C.exit | apply Fin.thenRet | apply Fin.thenExit | apply Fin.blockNormal | apply Fin.blockRet | apply Fin.blockExit) | (with_reducible apply Fin.thenK; assumption) | (with_reducible apply C.seqK; intro _ _) | (with_reducible apply C.regionK; intro _ _) | (with_reducible apply Fin.blockOther; exact rfl)) | (apply R.store; exact rfl; exact rfl; exact rfl; (exact a_at); (exact a_blit); exact rfl; (focus (simp [Value.oneCell']; done))) | (first | (apply R.guardT; assumption; exact rfl; exact rfl; exact rfl) | (apply R.guardF; assumption; exact rfl; exact rfl; exact rfl; exact rfl; exact rfl) | (apply R.guardU; assumption; exact rfl; exact rfl; exact rfl; exact rfl) | (apply R.guardDec; assumption; exact rfl; exact rfl; (intro h; skip; rotate_left; intro h; skip; rotate_left)) | (apply R.guardBeq; assumption; exact rfl; exact rfl; (intro h; skip; rotate_left; intro h; skip; rotate_left)) | (apply R.guardBne; assumption; exact rfl; exact rfl; (intro h; skip; rotate_left; intro h; skip; rotate_left)) | (apply R.guardNDec; assumption; exact rfl; exact rfl; (intro h; skip; rotate_left; intro h; skip; rotate_left)) | (apply R.guardNot; assumption; exact rfl; exact rfl; (intro h; skip; rotate_left; intro h; skip; rotate_left)) | (apply R.guardC; assumption; exact rfl; exact rfl; (intro h; skip; rotate_left; intro h; skip; rotate_left))) | (first | (apply C.condT; exact rfl) | (apply C.condF; exact rfl) | (apply C.condDec; exact rfl; (intro h; skip; rotate_left; intro h; skip; rotate_left)) | (apply C.condBeq; exact rfl; (intro h; skip; rotate_left; intro h; skip; rotate_left)) | (apply C.condBne; exact rfl; (intro h; skip; rotate_left; intro h; skip; rotate_left)) | (apply C.condNDec; exact rfl; (intro h; skip; rotate_left; intro h; skip; rotate_left)) | (apply C.condNot; exact rfl; (intro h; skip; rotate_left; intro h; skip; rotate_left)) | (apply C.cond; exact rfl; (intro h; skip; rotate_left; intro h; skip; rotate_left)))))
  ((apply R.alloc; (simp only [Value.cells]; rfl); exact rfl); intro ba)
  (repeat' (first | refine a_go ?_ | (with_reducible apply Fin.thenK; assumption) | (with_reducible (first | apply C.seqK | apply C.regionK); intro _ _) | (apply R.buildSlice0; exact rfl; intro bz) | (apply R.box; exact rfl; (simp only [Value.cells]; rfl); exact rfl; intro bx) | (apply R.alloc; (simp only [Value.cells]; rfl); exact rfl; intro ba) | (apply R.buildSlice; (exact a_prt); exact rfl; exact rfl; (exact a_fills); exact rfl; intro bl) | (refine a_sp ?_ ?_; (intro h; skip; rotate_left; intro h; skip; rotate_left)) | fail))
  apply R.arr (H2 := hq ++ ((ba, .cells #[.int .u64 (zi : Int), .int .u64 (zt : Int), .int .i64 zc, .slice A9 zb.length c9] 31 (0, 0)) :: (hp9 ++ H))) (by ((try simp only [List.append_assoc, List.cons_append, List.nil_append, List.append_nil]); exact a_arr))
  (apply R.call; (exact a_evs); exact rfl; exact ropenP_K (hr.mono hM9) (by omega); rintro _ M10 _ ⟨vd10, rfl, hb10, hM10, hq10, hr10, rfl⟩)
  rw [hoz] at hr10 hb10 ⊢
  dsimp only at hr10 hb10 ⊢
  rw [hzs] at hb10 ⊢
  obtain ⟨A10, c10, rfl, _, _, _⟩ := hb10.formB
  unfold snV snC
  dsimp only at hb10 ⊢
  (repeat' (first | (apply R.step; (exact a_ok); exact rfl) | (first | (with_reducible first | apply R.nil | apply C.ret | apply C.block | apply C.skip | apply C.exit | apply Fin.thenRet | apply Fin.thenExit | apply Fin.blockNormal | apply Fin.blockRet | apply Fin.blockExit) | (with_reducible apply Fin.thenK; assumption) | (with_reducible apply C.seqK; intro _ _) | (with_reducible apply C.regionK; intro _ _) | (with_reducible apply Fin.blockOther; exact rfl)) | (apply R.store; exact rfl; exact rfl; exact rfl; (exact a_at); (exact a_blit); exact rfl; (focus (simp [Value.oneCell']; done))) | (first | (apply R.guardT; assumption; exact rfl; exact rfl; exact rfl) | (apply R.guardF; assumption; exact rfl; exact rfl; exact rfl; exact rfl; exact rfl) | (apply R.guardU; assumption; exact rfl; exact rfl; exact rfl; exact rfl) | (apply R.guardDec; assumption; exact rfl; exact rfl; (intro h; skip; rotate_left; intro h; skip; rotate_left)) | (apply R.guardBeq; assumption; exact rfl; exact rfl; (intro h; skip; rotate_left; intro h; skip; rotate_left)) | (apply R.guardBne; assumption; exact rfl; exact rfl; (intro h; skip; rotate_left; intro h; skip; rotate_left)) | (apply R.guardNDec; assumption; exact rfl; exact rfl; (intro h; skip; rotate_left; intro h; skip; rotate_left)) | (apply R.guardNot; assumption; exact rfl; exact rfl; (intro h; skip; rotate_left; intro h; skip; rotate_left)) | (apply R.guardC; assumption; exact rfl; exact rfl; (intro h; skip; rotate_left; intro h; skip; rotate_left))) | (first | (apply C.condT; exact rfl) | (apply C.condF; exact rfl) | (apply C.condDec; exact rfl; (intro h; skip; rotate_left; intro h; skip; rotate_left)) | (apply C.condBeq; exact rfl; (intro h; skip; rotate_left; intro h; skip; rotate_left)) | (apply C.condBne; exact rfl; (intro h; skip; rotate_left; intro h; skip; rotate_left)) | (apply C.condNDec; exact rfl; (intro h; skip; rotate_left; intro h; skip; rotate_left)) | (apply C.condNot; exact rfl; (intro h; skip; rotate_left; intro h; skip; rotate_left)) | (apply C.cond; exact rfl; (intro h; skip; rotate_left; intro h; skip; rotate_left)))))
  ((apply R.alloc; (simp only [Value.cells]; rfl); exact rfl); intro bb)
  (repeat' (first | refine a_go ?_ | (with_reducible apply Fin.thenK; assumption) | (with_reducible (first | apply C.seqK | apply C.regionK); intro _ _) | (apply R.buildSlice0; exact rfl; intro bz) | (apply R.box; exact rfl; (simp only [Value.cells]; rfl); exact rfl; intro bx) | (apply R.alloc; (simp only [Value.cells]; rfl); exact rfl; intro ba) | (apply R.buildSlice; (exact a_prt); exact rfl; exact rfl; (exact a_fills); exact rfl; intro bl) | (refine a_sp ?_ ?_; (intro h; skip; rotate_left; intro h; skip; rotate_left)) | fail))
  (apply R.call; (exact a_evs); exact rfl; exact psame_T (i := zi) (t := zt) (c := zc) (a := zb) (hb9.mono hM10) hb10; rintro _ M10 _ ⟨rfl, rfl, rfl⟩)
  (repeat' (first | (apply R.step; (apply Ok.move; exact rfl); exact rfl) | (apply R.step; (first | (apply Ok.eqBoS; exact rfl; exact rfl) | (apply Ok.eqIR; exact rfl; exact rfl; exact rfl)); exact rfl) | refine a_go ?_ | (with_reducible apply Fin.thenK; assumption) | (with_reducible (first | apply C.seqK | apply C.regionK); intro _ _) | (apply R.buildSlice0; exact rfl; intro bz) | (apply R.box; exact rfl; (simp only [Value.cells]; rfl); exact rfl; intro bx) | (apply R.alloc; (simp only [Value.cells]; rfl); exact rfl; intro ba) | (apply R.buildSlice; (exact a_prt); exact rfl; exact rfl; (exact a_fills); exact rfl; intro bl) | (refine a_sp ?_ ?_; (intro h; skip; rotate_left; intro h; skip; rotate_left)) | fail))
  apply R.arr (H2 := hp9 ++ (hq10 ++ H)) (by ((try simp only [List.append_assoc, List.cons_append, List.nil_append, List.append_nil]); exact a_arr))
  (apply R.call; (exact a_evs); exact rfl; exact sameDisk_K (ho9.mono hM10) hr10 (by omega); rintro _ M11 _ ⟨rfl, hM11, rfl⟩)
  (repeat' (first | refine a_go ?_ | (with_reducible apply Fin.thenK; assumption) | (with_reducible (first | apply C.seqK | apply C.regionK); intro _ _) | (apply R.buildSlice0; exact rfl; intro bz) | (apply R.box; exact rfl; (simp only [Value.cells]; rfl); exact rfl; intro bx) | (apply R.alloc; (simp only [Value.cells]; rfl); exact rfl; intro ba) | (apply R.buildSlice; (exact a_prt); exact rfl; exact rfl; (exact a_fills); exact rfl; intro bl) | (refine a_sp ?_ ?_; (intro h; skip; rotate_left; intro h; skip; rotate_left)) | fail))
  (apply Fin.returnA (H2 := hp9 ++ (hq10 ++ H)); assumption; (first | exact .inl rfl | exact .inr rfl); exact rfl; (exact a_res); (simp only [retv]; rfl); (exact a_arr))
  exact ⟨rfl, hM1.trans_ (hM5.trans_ (hM6.trans_ (hM7.trans_ (hM8.trans_ (hM9.trans_ (hM10.trans_ hM11))))))⟩
end Go.Sx
end
