/- The disk: Short, Down, Fuse. -/
import Derived.Test.YtmimdoggljemjaaD10p
namespace Go.Sx
open Go Go.Proofs Go.RowKit
attribute [local irreducible] C R Fin K Own OwnT Rd Pl Ok KOf RetOk OpsOf RP KP Res NoPanic KV KE MapS ItS EntS FsO FsR RowD PlD
variable {M M' : Mem} {H H1 H2 : Hp}
structure ShX where
  i : Nat
  ii : Int
  M : Mem
  ov : Value
  vs : List Value
  hrow : Hp
theorem short_K {va : Value} {la : List (List UInt8)} {m k : Nat} (ha : PlL M va la) (hm : m ≤ 1000) (hk : k ≤ 100000) : K Try.prog 12 [va, .int .i64 (m : Int), .int .i64 (k : Int)] M H fun v M' H' => PlL M' v ((la.take m).map (·.take k)) ∧ M.le M' ∧ H' = H := by
  obtain ⟨A, capA, vsA, rfl, a1, a2, a3, a4⟩ := ha
  refine K.enterK Try.func12 rfl rfl rfl ?_
  intro Q hNP hQ
  (repeat' (first | (apply R.step; (exact a_ok); exact rfl) | (first | (with_reducible first | apply R.nil | apply C.ret | apply C.block | apply C.skip | apply C.exit | apply Fin.thenRet | apply Fin.thenExit | apply Fin.blockNormal | apply Fin.blockRet | apply Fin.blockExit) | (with_reducible apply Fin.thenK; assumption) | (with_reducible apply C.seqK; intro _ _) | (with_reducible apply C.regionK; intro _ _) | (with_reducible apply Fin.blockOther; exact rfl)) | (first | (apply R.store; exact rfl; exact rfl; exact rfl; (exact a_at); (exact a_blit); exact rfl; (focus (simp [Value.oneCell']; done))) | (apply R.buildSlice0; exact rfl; intro bz) | (apply R.box; exact rfl; (simp only [Value.cells]; rfl); exact rfl; intro bx) | (apply R.alloc; (simp only [Value.cells]; rfl); exact rfl; intro ba) | (apply R.buildSlice; (exact a_prt); exact rfl; exact rfl; (exact a_fills); exact rfl; intro bl)) | (first | (apply R.guardT; assumption; exact rfl; exact rfl; exact rfl) | (apply R.guardF; assumption; exact rfl; exact rfl; exact rfl; exact rfl; exact rfl) | (apply R.guardU; assumption; exact rfl; exact rfl; exact rfl; exact rfl) | (apply R.guardDec; assumption; exact rfl; exact rfl; (intro h; skip; rotate_left; intro h; skip; rotate_left)) | (apply R.guardBeq; assumption; exact rfl; exact rfl; (intro h; skip; rotate_left; intro h; skip; rotate_left)) | (apply R.guardBne; assumption; exact rfl; exact rfl; (intro h; skip; rotate_left; intro h; skip; rotate_left)) | (apply R.guardNDec; assumption; exact rfl; exact rfl; (intro h; skip; rotate_left; intro h; skip; rotate_left)) | (apply R.guardNot; assumption; exact rfl; exact rfl; (intro h; skip; rotate_left; intro h; skip; rotate_left)) | (apply R.guardC; assumption; exact rfl; exact rfl; (intro h; skip; rotate_left; intro h; skip; rotate_left))) | (first | (apply C.condT; exact rfl) | (apply C.condF; exact rfl) | (apply C.condDec; exact rfl; (intro h; skip; rotate_left; intro h; skip; rotate_left)) | (apply C.condBeq; exact rfl; (intro h; skip; rotate_left; intro h; skip; rotate_left)) | (apply C.condBne; exact rfl; (intro h; skip; rotate_left; intro h; skip; rotate_left)) | (apply C.condNDec; exact rfl; (intro h; skip; rotate_left; intro h; skip; rotate_left)) | (apply C.condNot; exact rfl; (intro h; skip; rotate_left; intro h; skip; rotate_left)) | (apply C.cond; exact rfl; (intro h; skip; rotate_left; intro h; skip; rotate_left)))))
  apply C.loop (fun x : ShX => (x.i : Int) = x.ii ∧ x.i ≤ la.length ∧ x.i ≤ m ∧ M.le x.M ∧ PlV x.M x.vs ((la.take x.i).map (·.take k)) ∧ Own 25 1 x.ov x.i x.vs x.hrow)
    (fun x => [(0, .slice A la.length capA), (1, .int .i64 (m : Int)), (2, .int .i64 (k : Int)), (7, x.ov), (8, .int .i64 x.ii)]) (fun x => x.M) (fun x => x.hrow ++ H) (fun x => la.length - x.i) ⟨0, 0, M, .slice none 0 0, [], []⟩
  · exact ⟨rfl, Nat.zero_le _, Nat.zero_le _, Mem.le_refl _, PlV.nil, Own.nil _ 1⟩
  · (exact a_subs)
  · exact rfl
  · exact rfl
  rintro ⟨i, ii, M1, ov, vs, hrow⟩ ⟨hii, hi, him, hM1, hvs, how⟩
  dsimp only at hii hi him hM1 hvs how ⊢
  obtain ⟨AO, capO, rfl, hoc, _⟩ := how.form
  have fin : PlV M1 vs ((la.take i).map (·.take k)) → (i = la.length ∨ i = m) → ∀ M2, M1.le M2 → In M2 hrow → PlL M2 (.slice AO i capO) ((la.take m).map (·.take k)) := by
    intro hv ho M2 hM2 hin
    have e : la.take m = la.take i := by
      rcases ho with h | h
      · rw [h, List.take_length, List.take_of_length_le (by omega)]
      · rw [h]
    rw [e]
    have el : ((la.take i).map (·.take k)).length = i := by simp; omega
    refine Own.plL (hp := hrow) (e := 25) (vs := vs) ?_ hin (hv.mono hM2)
    rw [el]
    exact how
  (repeat' (first | (apply R.step; (exact a_ok); exact rfl) | (first | (with_reducible first | apply R.nil | apply C.ret | apply C.block | apply C.skip | apply C.exit | apply Fin.thenRet | apply Fin.thenExit | apply Fin.blockNormal | apply Fin.blockRet | apply Fin.blockExit) | (with_reducible apply Fin.thenK; assumption) | (with_reducible apply C.seqK; intro _ _) | (with_reducible apply C.regionK; intro _ _) | (with_reducible apply Fin.blockOther; exact rfl)) | (first | (apply R.store; exact rfl; exact rfl; exact rfl; (exact a_at); (exact a_blit); exact rfl; (focus (simp [Value.oneCell']; done))) | (apply R.buildSlice0; exact rfl; intro bz) | (apply R.box; exact rfl; (simp only [Value.cells]; rfl); exact rfl; intro bx) | (apply R.alloc; (simp only [Value.cells]; rfl); exact rfl; intro ba) | (apply R.buildSlice; (exact a_prt); exact rfl; exact rfl; (exact a_fills); exact rfl; intro bl)) | (first | (apply R.guardT; assumption; exact rfl; exact rfl; exact rfl) | (apply R.guardF; assumption; exact rfl; exact rfl; exact rfl; exact rfl; exact rfl) | (apply R.guardU; assumption; exact rfl; exact rfl; exact rfl; exact rfl) | (apply R.guardDec; assumption; exact rfl; exact rfl; (intro h; skip; rotate_left; intro h; skip; rotate_left)) | (apply R.guardBeq; assumption; exact rfl; exact rfl; (intro h; skip; rotate_left; intro h; skip; rotate_left)) | (apply R.guardBne; assumption; exact rfl; exact rfl; (intro h; skip; rotate_left; intro h; skip; rotate_left)) | (apply R.guardNDec; assumption; exact rfl; exact rfl; (intro h; skip; rotate_left; intro h; skip; rotate_left)) | (apply R.guardNot; assumption; exact rfl; exact rfl; (intro h; skip; rotate_left; intro h; skip; rotate_left)) | (apply R.guardC; assumption; exact rfl; exact rfl; (intro h; skip; rotate_left; intro h; skip; rotate_left))) | (first | (apply C.condT; exact rfl) | (apply C.condF; exact rfl) | (apply C.condDec; exact rfl; (intro h; skip; rotate_left; intro h; skip; rotate_left)) | (apply C.condBeq; exact rfl; (intro h; skip; rotate_left; intro h; skip; rotate_left)) | (apply C.condBne; exact rfl; (intro h; skip; rotate_left; intro h; skip; rotate_left)) | (apply C.condNDec; exact rfl; (intro h; skip; rotate_left; intro h; skip; rotate_left)) | (apply C.condNot; exact rfl; (intro h; skip; rotate_left; intro h; skip; rotate_left)) | (apply C.cond; exact rfl; (intro h; skip; rotate_left; intro h; skip; rotate_left)))))
  · have h1 : ii < (la.length : Int) := by assumption
    have h2 : ii < (m : Int) := by assumption
    have hia : i < la.length := by omega
    obtain ⟨ba, oa, ca, ea, fa, Ai, ci, hA, hMa, hca, _, hl1, hl2, hpa⟩ := PlV.at_ (a3.mono hM1) (a4.mono hM1) hia
    subst hA
    have e1 : oa + ii.toNat * 1 = oa + i := by omega
    (apply C.regionO (ks := [1, 1, 1, 1, 1, 1, 1, 1, 1, 1, 1, 1, 1, 0, 0, 0, 0, 1]) (is := [0, 2, 3, 4, 5, 6, 7, 8, 9, 10, 11, 12, 13, 1, 14, 15, 16, 17]) (Hs := []); exact Mix.h; (first | exact Arr.all _ | (exact a_arr)); (exact a_np); (exact a_picked); kernel_rfl; intro _ e; subst e)
    (repeat' (first | (apply RP.step; intro _ _ _; (apply Ok.move; exact rfl); exact rfl) | (apply RP.step; intro _ _ hM; (first | (apply Ok.indexAddr; exact rfl; exact rfl; omega; omega) | (apply Ok.loadP; exact rfl; exact rfl; exact hM.2.2 _ _ hMa; rw [e1]; exact hca) | (apply Ok.sliceHi; exact rfl; exact rfl; omega; omega)); exact rfl) | (first | (apply RP.step; intro _ _ _; (exact a_ok); exact rfl) | (apply RP.stepT; exact rfl; exact rfl; exact rfl; intro _ _ _; (exact a_ok); exact rfl) | (apply RP.stepF; exact rfl; exact rfl; exact rfl; exact rfl; exact rfl) | (apply RP.effF; exact rfl; exact rfl; exact rfl; exact rfl; exact rfl)) | (apply RP.callQ; (exact a_evs); exact rfl)))
    have el : (min (la[i].length : Int) (k : Int)).toNat = (la[i].take k).length := by simp; omega
    rw [el]
    have hpt : Pl M1 Ai ((la[i].take k).map bv) := by
      have := hpa.take k
      rwa [← List.map_take] at this
    have hkl : (la[i].take k).length ≤ 100000 := by simp; omega
    (apply RP.eff; intro Kc hKc ops0)
    (apply R.buildSlice0; exact rfl; intro _)
    (apply R.nil; apply Fin.kp hKc; exact Mem.le_refl _; (exact a_arr))
    (apply RP.eff; intro Kc hKc ops0)
    (apply R.append; exact rfl; exact rfl; exact Own.empty; (exact a_tk); exact hpt.rd; (focus (simp; done)); exact bv_one _; omega; exact rfl; decide; decide; exact rfl; rintro v1 hp1 hown1)
    have hown : Own 5 1 v1 (la[i].take k).length ((la[i].take k).map bv) hp1 := by simpa using hown1
    clear hown1
    obtain ⟨Av, cv, rfl, _, _⟩ := hown.form
    (apply R.nil; apply Fin.kp hKc; exact Mem.le_refl _; (exact a_arr))
    (apply RP.eff; intro Kc hKc ops0)
    (apply R.buildSlice; (exact a_prt); exact rfl; exact rfl; (exact a_fills); exact rfl; intro bq)
    (apply R.nil; apply Fin.kp hKc; exact Mem.le_refl _; (exact a_arr))
    (apply RP.eff; intro Kc hKc ops0)
    (apply R.append (news := [.slice Av (la[i].take k).length cv]); exact rfl; exact rfl; exact how; (exact a_tk); exact Rd.at_ (l := [.slice Av (la[i].take k).length cv]) (by (exact a_at)) (fun j u h => by rw [Nat.zero_add]; exact h); exact rfl; (intro u hu; simp only [List.mem_singleton] at hu; subst hu; rfl); omega; exact rfl; decide; decide; exact rfl; rintro ov2 hrow2 how2)
    (apply R.nil; apply Fin.kp hKc; exact Mem.le_refl _; (exact a_arr))
    (repeat' (first | (first | (apply RP.step; intro _ _ _; (exact a_ok); exact rfl) | (apply RP.stepT; exact rfl; exact rfl; exact rfl; intro _ _ _; (exact a_ok); exact rfl) | (apply RP.stepF; exact rfl; exact rfl; exact rfl; exact rfl; exact rfl) | (apply RP.effF; exact rfl; exact rfl; exact rfl; exact rfl; exact rfl)) | (apply RP.callQ; (exact a_evs); exact rfl)))
    apply RP.nil
    (repeat' (first | (apply R.step; (exact a_ok); exact rfl) | (first | (with_reducible first | apply R.nil | apply C.ret | apply C.block | apply C.skip | apply C.exit | apply Fin.thenRet | apply Fin.thenExit | apply Fin.blockNormal | apply Fin.blockRet | apply Fin.blockExit) | (with_reducible apply Fin.thenK; assumption) | (with_reducible apply C.seqK; intro _ _) | (with_reducible apply C.regionK; intro _ _) | (with_reducible apply Fin.blockOther; exact rfl)) | (first | (apply R.store; exact rfl; exact rfl; exact rfl; (exact a_at); (exact a_blit); exact rfl; (focus (simp [Value.oneCell']; done))) | (apply R.buildSlice0; exact rfl; intro bz) | (apply R.box; exact rfl; (simp only [Value.cells]; rfl); exact rfl; intro bx) | (apply R.alloc; (simp only [Value.cells]; rfl); exact rfl; intro ba) | (apply R.buildSlice; (exact a_prt); exact rfl; exact rfl; (exact a_fills); exact rfl; intro bl)) | (first | (apply R.guardT; assumption; exact rfl; exact rfl; exact rfl) | (apply R.guardF; assumption; exact rfl; exact rfl; exact rfl; exact rfl; exact rfl) | (apply R.guardU; assumption; exact rfl; exact rfl; exact rfl; exact rfl) | (apply R.guardDec; assumption; exact rfl; exact rfl; (intro h; skip; rotate_left; intro h; skip; rotate_left)) | (apply R.guardBeq; assumption; exact rfl; exact rfl; (intro h; skip; rotate_left; intro h; skip; rotate_left)) | (apply R.guardBne; assumption; exact rfl; exact rfl; (intro h; skip; rotate_left; intro h; skip; rotate_left)) | (apply R.guardNDec; assumption; exact rfl; exact rfl; (intro h; skip; rotate_left; intro h; skip; rotate_left)) | (apply R.guardNot; assumption; exact rfl; exact rfl; (intro h; skip; rotate_left; intro h; skip; rotate_left)) | (apply R.guardC; assumption; exact rfl; exact rfl; (intro h; skip; rotate_left; intro h; skip; rotate_left))) | (first | (apply C.condT; exact rfl) | (apply C.condF; exact rfl) | (apply C.condDec; exact rfl; (intro h; skip; rotate_left; intro h; skip; rotate_left)) | (apply C.condBeq; exact rfl; (intro h; skip; rotate_left; intro h; skip; rotate_left)) | (apply C.condBne; exact rfl; (intro h; skip; rotate_left; intro h; skip; rotate_left)) | (apply C.condNDec; exact rfl; (intro h; skip; rotate_left; intro h; skip; rotate_left)) | (apply C.condNot; exact rfl; (intro h; skip; rotate_left; intro h; skip; rotate_left)) | (apply C.cond; exact rfl; (intro h; skip; rotate_left; intro h; skip; rotate_left)))))
    apply Fin.ice (hp := hp1) (H1 := hrow2 ++ H) (by (exact a_arr))
    intro M2 hM2 hin
    refine Fin.again (⟨i + 1, ii + 1, M2, ov2, vs ++ [.slice Av (la[i].take k).length cv], hrow2⟩ : ShX) ⟨by dsimp only; omega, by dsimp only; omega, by dsimp only; omega, hM1.trans_ hM2, ?_, how2⟩ (by dsimp only; omega) ?_ rfl rfl
    · dsimp only
      rw [List.take_succ_eq_append_getElem hia, List.map_append]
      exact (hvs.mono hM2).snoc (hown.plB hin)
    · dsimp only
      (exact a_subs)
  · have h1 : ii < (la.length : Int) := by assumption
    have h2 : ¬ ii < (m : Int) := by assumption
    apply Fin.ice (hp := hrow) (Arr.all _)
    intro M2 hM2 hin
    (refine Fin.rt ?_)
    exact ⟨fin hvs (.inr (by omega)) M2 hM2 hin, hM1.trans_ hM2, rfl⟩
  · have h1 : ¬ ii < (la.length : Int) := by assumption
    apply Fin.ice (hp := hrow) (Arr.all _)
    intro M2 hM2 hin
    (refine Fin.rt ?_)
    exact ⟨fin hvs (.inl (by omega)) M2 hM2 hin, hM1.trans_ hM2, rfl⟩
theorem down_K {db sb nb : Nat} {room fuse : Int} {pv : Value} {down : Bool} : K Try.prog 22 [.pointer (some ⟨db, 0, none⟩)] M ((db, dkB room sb nb pv fuse down) :: H) fun v' M' H' => v' = .bool down ∧ M' = M ∧ H' = (db, dkB room sb nb pv fuse down) :: H := by
  refine K.enterK Try.func22 rfl rfl rfl ?_
  intro Q hNP hQ
  unfold dkB at hQ ⊢
  (repeat' (first | (apply R.step; (exact a_ok); exact rfl) | (first | (with_reducible first | apply R.nil | apply C.ret | apply C.block | apply C.skip | apply C.exit | apply Fin.thenRet | apply Fin.thenExit | apply Fin.blockNormal | apply Fin.blockRet | apply Fin.blockExit) | (with_reducible apply Fin.thenK; assumption) | (with_reducible apply C.seqK; intro _ _) | (with_reducible apply C.regionK; intro _ _) | (with_reducible apply Fin.blockOther; exact rfl)) | (first | (apply R.store; exact rfl; exact rfl; exact rfl; (exact a_at); (exact a_blit); exact rfl; (focus (simp [Value.oneCell']; done))) | (apply R.buildSlice0; exact rfl; intro bz) | (apply R.box; exact rfl; (simp only [Value.cells]; rfl); exact rfl; intro bx) | (apply R.alloc; (simp only [Value.cells]; rfl); exact rfl; intro ba) | (apply R.buildSlice; (exact a_prt); exact rfl; exact rfl; (exact a_fills); exact rfl; intro bl)) | (first | (apply R.guardT; assumption; exact rfl; exact rfl; exact rfl) | (apply R.guardF; assumption; exact rfl; exact rfl; exact rfl; exact rfl; exact rfl) | (apply R.guardU; assumption; exact rfl; exact rfl; exact rfl; exact rfl) | (apply R.guardDec; assumption; exact rfl; exact rfl; (intro h; skip; rotate_left; intro h; skip; rotate_left)) | (apply R.guardBeq; assumption; exact rfl; exact rfl; (intro h; skip; rotate_left; intro h; skip; rotate_left)) | (apply R.guardBne; assumption; exact rfl; exact rfl; (intro h; skip; rotate_left; intro h; skip; rotate_left)) | (apply R.guardNDec; assumption; exact rfl; exact rfl; (intro h; skip; rotate_left; intro h; skip; rotate_left)) | (apply R.guardNot; assumption; exact rfl; exact rfl; (intro h; skip; rotate_left; intro h; skip; rotate_left)) | (apply R.guardC; assumption; exact rfl; exact rfl; (intro h; skip; rotate_left; intro h; skip; rotate_left))) | (first | (apply C.condT; exact rfl) | (apply C.condF; exact rfl) | (apply C.condDec; exact rfl; (intro h; skip; rotate_left; intro h; skip; rotate_left)) | (apply C.condBeq; exact rfl; (intro h; skip; rotate_left; intro h; skip; rotate_left)) | (apply C.condBne; exact rfl; (intro h; skip; rotate_left; intro h; skip; rotate_left)) | (apply C.condNDec; exact rfl; (intro h; skip; rotate_left; intro h; skip; rotate_left)) | (apply C.condNot; exact rfl; (intro h; skip; rotate_left; intro h; skip; rotate_left)) | (apply C.cond; exact rfl; (intro h; skip; rotate_left; intro h; skip; rotate_left)))))
  (refine Fin.rt ?_)
  exact ⟨rfl, rfl, rfl⟩
theorem fuse_K {db sb nb : Nat} {room fuse n : Int} {pv : Value} {down : Bool} : K Try.prog 21 [.pointer (some ⟨db, 0, none⟩), .int .i64 n] M ((db, dkB room sb nb pv fuse down) :: H) fun v' M' H' => v' = .tuple #[] ∧ M' = M ∧ H' = (db, dkB room sb nb pv (max n (-1)) down) :: H := by
  refine K.enterK Try.func21 rfl rfl rfl ?_
  intro Q hNP hQ
  unfold dkB at hQ ⊢
  (repeat' (first | (apply R.step; (apply Ok.move; exact rfl); exact rfl) | (apply R.step; (apply Ok.maxI; exact rfl; exact rfl); exact rfl) | (apply R.step; (exact a_ok); exact rfl) | (first | (with_reducible first | apply R.nil | apply C.ret | apply C.block | apply C.skip | apply C.exit | apply Fin.thenRet | apply Fin.thenExit | apply Fin.blockNormal | apply Fin.blockRet | apply Fin.blockExit) | (with_reducible apply Fin.thenK; assumption) | (with_reducible apply C.seqK; intro _ _) | (with_reducible apply C.regionK; intro _ _) | (with_reducible apply Fin.blockOther; exact rfl)) | (first | (apply R.store; exact rfl; exact rfl; exact rfl; (exact a_at); (exact a_blit); exact rfl; (focus (simp [Value.oneCell']; done))) | (apply R.buildSlice0; exact rfl; intro bz) | (apply R.box; exact rfl; (simp only [Value.cells]; rfl); exact rfl; intro bx) | (apply R.alloc; (simp only [Value.cells]; rfl); exact rfl; intro ba) | (apply R.buildSlice; (exact a_prt); exact rfl; exact rfl; (exact a_fills); exact rfl; intro bl)) | (first | (apply R.guardT; assumption; exact rfl; exact rfl; exact rfl) | (apply R.guardF; assumption; exact rfl; exact rfl; exact rfl; exact rfl; exact rfl) | (apply R.guardU; assumption; exact rfl; exact rfl; exact rfl; exact rfl) | (apply R.guardDec; assumption; exact rfl; exact rfl; (intro h; skip; rotate_left; intro h; skip; rotate_left)) | (apply R.guardBeq; assumption; exact rfl; exact rfl; (intro h; skip; rotate_left; intro h; skip; rotate_left)) | (apply R.guardBne; assumption; exact rfl; exact rfl; (intro h; skip; rotate_left; intro h; skip; rotate_left)) | (apply R.guardNDec; assumption; exact rfl; exact rfl; (intro h; skip; rotate_left; intro h; skip; rotate_left)) | (apply R.guardNot; assumption; exact rfl; exact rfl; (intro h; skip; rotate_left; intro h; skip; rotate_left)) | (apply R.guardC; assumption; exact rfl; exact rfl; (intro h; skip; rotate_left; intro h; skip; rotate_left))) | (first | (apply C.condT; exact rfl) | (apply C.condF; exact rfl) | (apply C.condDec; exact rfl; (intro h; skip; rotate_left; intro h; skip; rotate_left)) | (apply C.condBeq; exact rfl; (intro h; skip; rotate_left; intro h; skip; rotate_left)) | (apply C.condBne; exact rfl; (intro h; skip; rotate_left; intro h; skip; rotate_left)) | (apply C.condNDec; exact rfl; (intro h; skip; rotate_left; intro h; skip; rotate_left)) | (apply C.condNot; exact rfl; (intro h; skip; rotate_left; intro h; skip; rotate_left)) | (apply C.cond; exact rfl; (intro h; skip; rotate_left; intro h; skip; rotate_left)))))
  (refine Fin.rt ?_)
  exact ⟨rfl, rfl, rfl⟩
theorem down_KD {db : Nat} {d : Dk} {hp : Hp} (ho : DkO M db d hp) : K Try.prog 22 [.pointer (some ⟨db, 0, none⟩)] M (hp ++ H) fun v' M' H' => v' = .bool d.down ∧ M' = M ∧ H' = hp ++ H := by
  obtain ⟨h0, sb, nb, so, no, pv, hr, h1, h2, h3, rfl⟩ := ho
  exact down_K
theorem fuse_KD {db : Nat} {d : Dk} {hp : Hp} {n : Int} (hn : n ≤ 4611686018427387904) (ho : DkO M db d hp) : K Try.prog 21 [.pointer (some ⟨db, 0, none⟩), .int .i64 n] M (hp ++ H) fun v' M' H' => v' = .tuple #[] ∧ M' = M ∧ ∃ hp', DkO M db { d with fuse := max n (-1) } hp' ∧ H' = hp' ++ H := by
  obtain ⟨h0, sb, nb, so, no, pv, hr, h1, h2, h3, rfl⟩ := ho
  refine fuse_K.mono ?_
  rintro _ _ _ ⟨rfl, rfl, rfl⟩
  exact ⟨rfl, rfl, _, ⟨⟨h0.1, ⟨by show -1 ≤ max n (-1); omega, by show max n (-1) ≤ _; omega⟩, h0.2.2⟩, sb, nb, so, no, pv, hr, h1, h2, h3, rfl⟩, rfl⟩
end Go.Sx
